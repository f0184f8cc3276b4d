/-
  Written by a program (wip/walks).
-/
import Derived.Test.YtdcnblafepgheaaDoorE8
namespace Go.Proofs.YtdcnblafepgheaaDoor
open Go Go.V
set_option maxRecDepth 100000
/-- the address that Take is to try first -/
def PairR (g : BibG) (l : List (Binding × Nat)) (a : V6) (r : V4) : Prop :=
  ((∀ q ∈ l, q.1.inn.addr ≠ a) ∧ r = g.first) ∨ ∃ q ∈ l, q.1.inn.addr = a ∧ r = q.1.out.addr ∧ ∀ q' ∈ l, q'.1.inn.addr = a → q.1.id ≤ q'.1.id
/-- of those that came -/
def PairD (g : BibG) (l : List (Binding × Nat)) (a : V6) (done : List (Int × Nat)) (least : Int) (r : V4) : Prop :=
  (least = 0 ∧ r = g.first ∧ ∀ q ∈ l, (q.1.id, q.2) ∈ done → q.1.inn.addr ≠ a) ∨
  ∃ q ∈ l, (q.1.id, q.2) ∈ done ∧ q.1.inn.addr = a ∧ least = q.1.id ∧ 1 ≤ least ∧ r = q.1.out.addr ∧ ∀ q' ∈ l, (q'.1.id, q'.2) ∈ done → q'.1.inn.addr = a → least ≤ q'.1.id
theorem PairD.done {g : BibG} {l : List (Binding × Nat)} {a : V6} {done : List (Int × Nat)} {least : Int} {r : V4} (h : PairD g l a done least r) (hp : done.Perm (idl l)) : PairR g l a r := by
  have hm : ∀ q ∈ l, (q.1.id, q.2) ∈ done := fun q hq => hp.mem_iff.2 (idl_mem hq)
  rcases h with ⟨_, h2, h3⟩ | ⟨q, hq, h1, h2, h3, h4, h5, h6⟩
  · exact .inl ⟨fun q hq => h3 q hq (hm q hq), h2⟩
  · exact .inr ⟨q, hq, h2, h5, fun q' hq' ha => h3 ▸ h6 q' hq' (hm q' hq') ha⟩
theorem same_q {l : List (Binding × Nat)} (hn : (l.map (·.1.id)).Nodup) {q q' : Binding × Nat} (hq : q ∈ l) (hq' : q' ∈ l) (h : (q'.1.id, q'.2) = (q.1.id, q.2)) : q' = q := by
  have h1 : q'.1.id = q.1.id := congrArg Prod.fst h
  induction l with
  | nil => cases hq
  | cons x l ih =>
    rw [List.map_cons, List.nodup_cons] at hn
    rcases List.mem_cons.1 hq with e1 | e1 <;> rcases List.mem_cons.1 hq' with e2 | e2
    · rw [e1, e2]
    · exfalso; exact hn.1 (List.mem_map.2 ⟨q', e2, by rw [h1, e1]⟩)
    · exfalso; exact hn.1 (List.mem_map.2 ⟨q, e1, by rw [← h1, e2]⟩)
    · exact ih hn.2 e1 e2
theorem PairD.skip {g : BibG} {l : List (Binding × Nat)} {a : V6} {done : List (Int × Nat)} {least : Int} {r : V4} (h : PairD g l a done least r) (hn : (l.map (·.1.id)).Nodup) {q : Binding × Nat} (hq : q ∈ l) (hs : q.1.inn.addr ≠ a ∨ (least ≠ 0 ∧ least ≤ q.1.id)) : PairD g l a (done ++ [(q.1.id, q.2)]) least r := by
  rcases h with ⟨h1, h2, h3⟩ | ⟨q0, hq0, h1, h2, h3, h4, h5, h6⟩
  · refine .inl ⟨h1, h2, fun q' hq' hm => ?_⟩
    rcases List.mem_append.1 hm with hm | hm
    · exact h3 q' hq' hm
    · simp only [List.mem_singleton] at hm
      rw [same_q hn hq hq' hm]
      rcases hs with hs | hs
      · exact hs
      · exact absurd h1 hs.1
  · refine .inr ⟨q0, hq0, List.mem_append_left _ h1, h2, h3, h4, h5, fun q' hq' hm ha => ?_⟩
    rcases List.mem_append.1 hm with hm | hm
    · exact h6 q' hq' hm ha
    · simp only [List.mem_singleton] at hm
      have := same_q hn hq hq' hm
      subst this
      rcases hs with hs | hs
      · exact absurd ha hs
      · exact hs.2
theorem PairD.take {g : BibG} {l : List (Binding × Nat)} {a : V6} {done : List (Int × Nat)} {least : Int} {r : V4} (h : PairD g l a done least r) (hn : (l.map (·.1.id)).Nodup) {q : Binding × Nat} (hq : q ∈ l) (h1 : 1 ≤ q.1.id) (ha : q.1.inn.addr = a) (hs : least = 0 ∨ q.1.id < least) : PairD g l a (done ++ [(q.1.id, q.2)]) q.1.id q.1.out.addr := by
  refine .inr ⟨q, hq, by simp, ha, rfl, h1, rfl, fun q' hq' hm ha' => ?_⟩
  rcases List.mem_append.1 hm with hm | hm
  · rcases h with ⟨_, _, h3⟩ | ⟨q0, hq0, _, _, h3, h4, _, h6⟩
    · exact absurd ha' (h3 q' hq' hm)
    · have := h6 q' hq' hm ha'
      omega
  · simp only [List.mem_singleton] at hm
    rw [same_q hn hq hq' hm]; exact Int.le_refl _
theorem pair_spec {g : BibG} {st : BibS} {w : World} (h : BibIs g st w) (a : V6) (h1 : ∀ q ∈ st.l, 1 ≤ q.1.id) : Rets Tryd.prog 84 #[(.pointer (some ⟨g.tb, 0, none⟩)), (v6 a)] w fun v w' => (∃ r : V4, v = v4 r ∧ PairR g st.l a r) ∧ K0 w w' := by
  refine enter Tryd.func84 rfl Tryd.ntmps84 rfl fun Q hret hend E hE => ?_
  have g1 : E 0 = (Vp g.tb 0) := hE 0
  have g2 : E 1 = (v6 a) := hE 1
  clear hE
  have hb0 := h.blk; have hm0 := h.map; have hT0 := h.tb; have hn1 : g.tb ≠ g.mb := blk_ne_map h.blk h.map
  have hnd := h.ids
  refine seq fun K3 hK3 => ?_
  refine reg ?_
  refine s_e (e_box (v := (v6 a)) g2) rfl ?_
  rintro _ w4 ⟨rfl, hb5, hk6⟩
  have ka7 : Kp (fun _ => False) w w4 := (Kp.then0 (Kp.refl _ _) hk6)
  refine s_e (e_alloc ze27) rfl ?_
  rintro _ w8 ⟨rfl, hb9, hk10⟩
  have ka11 := (Kp.then0 ka7 hk10)
  refine s_nil (hK3 _ _ (genC [(0, (Vp g.tb 0)), (3, (Vp w.heap.size 0)), (4, (Vp w4.heap.size 0))] ⟨g1, rfl, rfl, trivial⟩ ?_))
  clear hK3; rintro E ⟨g12, g13, g14, -⟩
  refine seq fun K15 hK15 => ?_
  refine regD (fun _ => False) (.take 0 (.take 1 (.take 2 (.take 3 (.one 4 (.take 5 (.one 6 .done))))))) mixed (by kernel_rfl) fun w16 hh17 hk18 => ?_
  have ka19 := (Kp.then0 ka11 hk18)
  refine o_y rfl (y_move (v := (Vp g.tb 0)) g12) ?_
  refine o_y rfl (y_nil rfl) ?_
  refine o_y rfl (y_fld fo95_2 rfl) ?_
  refine o_y rfl (y_load (v := (v4 g.first)) rfl (rd_agg (vs := [(u8 g.first.a), (u8 g.first.b), (u8 g.first.c), (u8 g.first.d)]) ag27 (On.kp (hk18.get0 (hk10.get0 (hk6.get0 hb0))) id) (by kernel_rfl) rfl)) ?_
  refine o_one ?_
  refine c_e rfl (e_alloc ze27) ?_
  rintro _ w20 ⟨rfl, hb21, hk22⟩
  have ka23 := (Kp.then0 ka19 hk22)
  have ks24 : Kp (fun _ => False) w16 w20 := (Kp.then0 (Kp.refl _ _) hk22)
  refine ⟨ks24, ?_⟩
  refine o_y rfl (y_assign (v := (Vi 0)) rfl) ?_
  refine o_one ?_
  refine c_e0 rfl (e_storeV (cs' := #[(u8 g.first.a), (u8 g.first.b), (u8 g.first.c), (u8 g.first.d)]) [(u8 g.first.a), (u8 g.first.b), (u8 g.first.c), (u8 g.first.d)] rfl (v := (v4 g.first)) rfl rfl sz27 hb21 rfl rfl rfl) ?_
  rintro _ w25 ⟨hb26, hk27⟩
  have hz29 := (nl (nl hk6.size hk10.size) hk18.size)
  have ka28 := (Kp.fresh ka23 hk27 fun _ e => nl (nl hz29 (Nat.le_refl _)) (Nat.le_of_eq e.symm))
  have ks30 := (Kp.fresh ks24 hk27 fun _ e => nl (nl (Nat.le_refl _) (Nat.le_refl _)) (Nat.le_of_eq e.symm))
  refine ⟨ks30, ?_⟩
  refine o_done (hK15 _ _ (genC [(0, (Vp g.tb 0)), (3, (Vp w.heap.size 0)), (4, (Vp w4.heap.size 0)), (5, (Vi 0)), (6, (Vp w16.heap.size 0))] ⟨g12, g13, g14, rfl, rfl, trivial⟩ ?_))
  clear hK15; rintro E ⟨g31, g32, g33, g34, g35, -⟩
  refine seq fun K36 hK36 => ?_
  refine seq fun K37 hK37 => ?_
  refine reg ?_
  refine s_y (y_move (v := (Vp g.tb 0)) g31) rfl ?_
  refine s_y (y_nil rfl) rfl ?_
  refine s_y (y_fld fo95_3 rfl) rfl ?_
  have hb38 := (hk27.get (hk22.get0 (hk18.get0 (hk10.get0 (hk6.get0 hb0)))) (Nat.ne_of_lt (nt (nt (lt_of_get hb0) hz29) (Nat.le_refl _))))
  refine s_y (y_load (v := (.map (some g.mb))) rfl (rd_sc sc91 (On.now hb38) rfl)) rfl ?_
  have hf39 := (((((hm0.kp hk6 id).kp hk10 id).kp hk18 id).kp hk22 id).kp hk27 (Nat.ne_of_lt (nt (nt (hm0.lt) hz29) (Nat.le_refl _))))
  refine s_e (e_range Tryd.underlying91 hf39 rfl) rfl ?_
  rintro _ w40 ⟨rfl, hit41, hk42⟩
  have ka43 := (Kp.then0 ka28 hk42)
  refine s_nil (hK37 _ _ (genC [(3, (Vp w.heap.size 0)), (4, (Vp w4.heap.size 0)), (5, (Vi 0)), (6, (Vp w16.heap.size 0)), (17, (Vp w25.heap.size 0))] ⟨g32, g33, g34, g35, rfl, trivial⟩ ?_))
  clear hK37; rintro E ⟨g44, g45, g46, g47, g48, -⟩
  refine block ?_
  have hb49 := (hk42.get0 hb26)
  refine loopG (X := List (Int × Nat) × List (Int × Nat) × Int × V4) (fun q_ E w_ => Has E [(3, (Vp w.heap.size 0)), (4, (Vp w4.heap.size 0)), (5, (Vi (q_.2.2.1))), (6, (Vp w16.heap.size 0)), (17, (Vp w25.heap.size 0))] ∧ Kp (fun k => k = w25.heap.size ∨ k = w16.heap.size) w40 w_ ∧ (IterAt (fun n : Int => Value.int .i64 n) (fun p : Nat => Value.pointer (some ⟨p, 0, none⟩)) inI w_ w25.heap.size g.mb (idl st.l) q_.1 none) ∧ ((q_.2.1 ++ q_.1).Perm (idl st.l)) ∧ (PairD g st.l a q_.2.1 q_.2.2.1 q_.2.2.2) ∧ (Blk w_ w16.heap.size #[u8 q_.2.2.2.a, u8 q_.2.2.2.b, u8 q_.2.2.2.c, u8 q_.2.2.2.d] 27)) (fun q_ => q_.1.length) ((idl st.l), ([] : List (Int × Nat)), 0, g.first) ⟨⟨g44, g45, g46, g47, g48, trivial⟩, Kp.refl _ _, (show IterAt (fun n : Int => Value.int .i64 n) (fun p : Nat => Value.pointer (some ⟨p, 0, none⟩)) inI w40 w25.heap.size g.mb (idl st.l) (idl st.l) none from (IterAt.forget hit41)), (show (([] : List (Int × Nat)) ++ (idl st.l)).Perm (idl st.l) from (by simp)), (show PairD g st.l a ([] : List (Int × Nat)) 0 g.first from (.inl ⟨rfl, rfl, fun _ _ hm => by cases hm⟩)), (show Blk w40 w16.heap.size #[u8 g.first.a, u8 g.first.b, u8 g.first.c, u8 g.first.d] 27 from hb49)⟩ ?_
  rintro ⟨left, done, least, out⟩ E w55 ⟨⟨g50, g51, g52, g53, g54, -⟩, hk56, hi58, hi59, hi60, hi61⟩ K57 hK57
  replace g50 : E 3 = (Vp w.heap.size 0) := g50
  replace g51 : E 4 = (Vp w4.heap.size 0) := g51
  replace g52 : E 5 = (Vi least) := g52
  replace g53 : E 6 = (Vp w16.heap.size 0) := g53
  replace g54 : E 17 = (Vp w25.heap.size 0) := g54
  replace hi58 : IterAt (fun n : Int => Value.int .i64 n) (fun p : Nat => Value.pointer (some ⟨p, 0, none⟩)) inI w55 w25.heap.size g.mb (idl st.l) left none := hi58
  replace hi59 : (done ++ left).Perm (idl st.l) := hi59
  replace hi60 : PairD g st.l a done least out := hi60
  replace hi61 : Blk w55 w16.heap.size #[u8 out.a, u8 out.b, u8 out.c, u8 out.d] 27 := hi61
  have hz63 := (nl (nl hz29 hk22.size) hk27.size)
  have ka62 := (Kp.trans ka43 hk56 fun i hi e => (fun e => e.elim (fun e => absurd hi (Nat.not_lt.2 (nl (nl hz63 (Nat.le_refl _)) (Nat.le_of_eq e.symm)))) (fun e => absurd hi (Nat.not_lt.2 (nl (nl hz29 (Nat.le_refl _)) (Nat.le_of_eq e.symm))))) e)
  refine seq fun K64 hK64 => ?_
  refine reg ?_
  by_cases c65 : left = []
  · refine s_e (e_next_done' hi58 c65 g54) rfl ?_
    rintro _ w66 ⟨rfl, -, hk67⟩
    have ka68 := (Kp.then0 ka62 hk67)
    refine s_y (y_ext rfl (v := Vf) rfl) rfl ?_
    refine s_nil (hK64 _ _ (genC [(3, (Vp w.heap.size 0)), (4, (Vp w4.heap.size 0)), (5, (Vi least)), (6, (Vp w16.heap.size 0)), (17, (Vp w25.heap.size 0)), (19, Vf)] ⟨g50, g51, g52, g53, g54, rfl, trivial⟩ ?_))
    clear hK64; rintro E ⟨g69, g70, g71, g72, g73, g74, -⟩
    refine seq fun K75 hK75 => ?_
    refine cond_f g74 ?_
    refine exit (hK36 _ _ (genC [(4, (Vp w4.heap.size 0)), (6, (Vp w16.heap.size 0))] ⟨g70, g72, trivial⟩ ?_))
    clear hK36; rintro E ⟨g76, g77, -⟩
    refine seq fun K78 hK78 => ?_
    refine reg ?_
    have hb79 := (hk67.get0 hi61)
    refine s_y (y_load (v := (v4 out)) g77 (rd_agg (vs := [(u8 out.a), (u8 out.b), (u8 out.c), (u8 out.d)]) ag27 (On.now hb79) (by kernel_rfl) rfl)) rfl ?_
    have hz80 := (nl (nl hk18.size hk22.size) hk27.size)
    have hb81 := (hk67.get0 (hk56.get (hk42.get0 (hk27.get (hk22.get0 (hk18.get0 hb9)) (Nat.ne_of_lt (nt (nt (lt_of_get hb9) hk18.size) (Nat.le_refl _))))) (not_or.2 ⟨(Nat.ne_of_lt (nt (nt (lt_of_get hb9) hz80) (Nat.le_refl _))), (Nat.ne_of_lt (nt (nt (lt_of_get hb9) hk18.size) (Nat.le_refl _)))⟩)))
    refine s_e0 (e_storeV (cs' := #[(u8 out.a), (u8 out.b), (u8 out.c), (u8 out.d)]) [(u8 out.a), (u8 out.b), (u8 out.c), (u8 out.d)] g76 (v := (v4 out)) rfl rfl sz27 hb81 rfl rfl rfl) ?_
    rintro _ w82 ⟨hb83, hk84⟩
    have ka85 := (Kp.fresh ka68 hk84 fun _ e => nl (nl hk6.size (Nat.le_refl _)) (Nat.le_of_eq e.symm))
    refine s_nil (hK78 _ _ (genC [(4, (Vp w4.heap.size 0))] ⟨g76, trivial⟩ ?_))
    clear hK78; rintro E ⟨g86, -⟩
    refine ret (hret _ _ [(v4 out)] ⟨⟨_, g86, (rd_agg (vs := [(u8 out.a), (u8 out.b), (u8 out.c), (u8 out.d)]) ag27 (On.now hb83) (by kernel_rfl) rfl)⟩, trivial⟩ ?_)
    have hp9 := hi59
    rw [c65, List.append_nil] at hp9
    exact ⟨⟨out, rfl, PairD.done hi60 hp9⟩, ka85⟩
  · refine s_e (e_next_more hi58 c65 g54) rfl ?_
    rintro _ w87 ⟨i90, p91, hp92, rfl, hit89, hk88⟩
    have ka93 := (Kp.fresh ka62 hk88 fun _ e => nl (nl hz63 (Nat.le_refl _)) (Nat.le_of_eq e.symm))
    obtain ⟨q94, hq95, hpe96⟩ := idl_inv ((hi59).mem_iff.1 (List.mem_append_right _ (List.mem_of_getElem? hp92)))
    have hf98 := (BibIs.kp (BibIs.kp (BibIs.k0 (BibIs.kp (BibIs.k0 (BibIs.k0 (BibIs.k0 (BibIs.k0 h hk6) hk10) hk18) hk22) hk27 (fun b hb => (fun e => (fun hb => Nat.lt_irrefl _ (nt (BibIs.lt h _ hb) (nl hz29 (Nat.le_refl _)))) (e ▸ hb))) (Nat.ne_of_lt (nt (nt (hT0.lt) hz29) (Nat.le_refl _)))) hk42) hk56 (fun b hb => (fun e => e.elim (fun e => (fun hb => Nat.lt_irrefl _ (nt (BibIs.lt h _ hb) (nl hz63 (Nat.le_refl _)))) (e ▸ hb)) (fun e => (fun hb => Nat.lt_irrefl _ (nt (BibIs.lt h _ hb) (nl hz29 (Nat.le_refl _)))) (e ▸ hb)))) (not_or.2 ⟨(Nat.ne_of_lt (nt (nt (hT0.lt) hz63) (Nat.le_refl _))), (Nat.ne_of_lt (nt (nt (hT0.lt) hz29) (Nat.le_refl _)))⟩)) hk88 (fun b hb => (fun e => (fun hb => Nat.lt_irrefl _ (nt (BibIs.lt h _ hb) (nl hz63 (Nat.le_refl _)))) (e ▸ hb))) (Nat.ne_of_lt (nt (nt (hT0.lt) hz63) (Nat.le_refl _))))
    have hbq97 : Blk w87 p91.2 q94.1.cs.toArray 36 := by rw [hpe96]; exact hf98.box q94 hq95
    have hid9 := h1 q94 hq95; have hpi9 : p91.1 = q94.1.id := by rw [hpe96]
    have hplhbq97 : p91.2 < w.heap.size := by rw [hpe96]; exact h.lt _ (List.mem_append_right _ (List.mem_map.2 ⟨q94, hq95, rfl⟩))
    refine s_y (y_ext rfl (v := Vt) rfl) rfl ?_
    refine s_nil (hK64 _ _ (genC [(3, (Vp w.heap.size 0)), (4, (Vp w4.heap.size 0)), (5, (Vi least)), (6, (Vp w16.heap.size 0)), (17, (Vp w25.heap.size 0)), (19, Vt)] ⟨g50, g51, g52, g53, g54, rfl, trivial⟩ ?_))
    clear hK64; rintro E ⟨g99, g100, g101, g102, g103, g104, -⟩
    refine seq fun K105 hK105 => ?_
    refine cond_t g104 ?_
    refine skip (hK105 _ _ (genC [(3, (Vp w.heap.size 0)), (4, (Vp w4.heap.size 0)), (5, (Vi least)), (6, (Vp w16.heap.size 0)), (17, (Vp w25.heap.size 0))] ⟨g99, g100, g101, g102, g103, trivial⟩ ?_))
    clear hK105; rintro E ⟨g106, g107, g108, g109, g110, -⟩
    refine block ?_
    refine seq fun K111 hK111 => ?_
    refine reg ?_
    refine s_y (y_entry (p := p91) hit89 g110) rfl ?_
    refine s_y (y_ext rfl (v := (Vi (p91.1))) rfl) rfl ?_
    refine s_y (y_ext rfl (v := (Vp p91.2 0)) rfl) rfl ?_
    refine s_y (y_assign (v := (Vi (p91.1))) rfl) rfl ?_
    refine s_y (y_assign (v := (Vp p91.2 0)) rfl) rfl ?_
    refine s_nil (hK111 _ _ (genC [(3, (Vp w.heap.size 0)), (4, (Vp w4.heap.size 0)), (5, (Vi least)), (6, (Vp w16.heap.size 0)), (7, (Vi (p91.1))), (8, (Vp p91.2 0)), (17, (Vp w25.heap.size 0))] ⟨g106, g107, g108, g109, rfl, rfl, g110, trivial⟩ ?_))
    clear hK111; rintro E ⟨g112, g113, g114, g115, g116, g117, g118, -⟩
    refine seq fun K119 hK119 => ?_
    refine regD (fun _ => False) (.take 0 (.take 1 (.take 2 (.take 3 (.take 4 (.take 5 (.take 6 (.take 7 (.take 8 (.take 9 (.take 10 (.take 11 (.take 12 (.take 13 (.take 14 (.take 15 .done)))))))))))))))) mixed (by kernel_rfl) fun w120 hh121 hk122 => ?_
    have ka123 := (Kp.then0 ka93 hk122)
    refine o_y rfl (y_move (v := (Vp p91.2 0)) g117) ?_
    refine o_y rfl (y_nil rfl) ?_
    refine o_y rfl (y_fld fo36_2 rfl) ?_
    refine o_y rfl (y_fld fo32_0 rfl) ?_
    refine o_y rfl (y_load (v := (v6 q94.1.inn.addr)) rfl (rd_agg (vs := [(u8 q94.1.inn.addr.b0), (u8 q94.1.inn.addr.b1), (u8 q94.1.inn.addr.b2), (u8 q94.1.inn.addr.b3), (u8 q94.1.inn.addr.b4), (u8 q94.1.inn.addr.b5), (u8 q94.1.inn.addr.b6), (u8 q94.1.inn.addr.b7), (u8 q94.1.inn.addr.b8), (u8 q94.1.inn.addr.b9), (u8 q94.1.inn.addr.b10), (u8 q94.1.inn.addr.b11), (u8 q94.1.inn.addr.b12), (u8 q94.1.inn.addr.b13), (u8 q94.1.inn.addr.b14), (u8 q94.1.inn.addr.b15)]) ag30 (On.kp (hk122.get0 hbq97) id) (by kernel_rfl) rfl)) ?_
    have hz124 := (nl (nl (nl hk10.size hk18.size) hk22.size) hk27.size)
    refine o_y rfl (y_load (v := (v6 a)) g112 (rd_agg (vs := [(u8 a.b0), (u8 a.b1), (u8 a.b2), (u8 a.b3), (u8 a.b4), (u8 a.b5), (u8 a.b6), (u8 a.b7), (u8 a.b8), (u8 a.b9), (u8 a.b10), (u8 a.b11), (u8 a.b12), (u8 a.b13), (u8 a.b14), (u8 a.b15)]) ag30 (On.kp (hk122.get0 (hk88.get (hk56.get (hk42.get0 (hk27.get (hk22.get0 (hk18.get0 (hk10.get0 hb5))) (Nat.ne_of_lt (nt (nt (lt_of_get hb5) (nl hk10.size hk18.size)) (Nat.le_refl _))))) (not_or.2 ⟨(Nat.ne_of_lt (nt (nt (lt_of_get hb5) hz124) (Nat.le_refl _))), (Nat.ne_of_lt (nt (nt (lt_of_get hb5) (nl hk10.size hk18.size)) (Nat.le_refl _)))⟩)) (Nat.ne_of_lt (nt (nt (lt_of_get hb5) hz124) (Nat.le_refl _))))) id) (by kernel_rfl) rfl)) ?_
    refine o_y rfl (y_eqT (eq30 9998) eg30 (x := q94.1.inn.addr) (y := a) rfl rfl ⟨_, rfl⟩ ⟨_, rfl⟩) ?_
    refine o_y rfl (y_move (v := (.bool (decide (q94.1.inn.addr = a)))) rfl) ?_
    by_cases c125 : q94.1.inn.addr = a
    · refine o_gy rfl (.yes rfl (congrArg Value.bool (decide_eq_true c125))) (y_move (v := (Vi least)) g114) ?_
      refine o_gy rfl (.yes rfl (congrArg Value.bool (decide_eq_true c125))) (y_eql rfl rfl) ?_
      refine o_gy rfl (.yes rfl (congrArg Value.bool (decide_eq_true c125))) (y_move (v := (.bool (decide ((least : Int) = 0)))) rfl) ?_
      by_cases c126 : (least : Int) = 0
      · refine o_no rfl (.no rfl (c := true) (congrArg Value.bool (decide_eq_true c126)) rfl) ?_
        refine o_no rfl (.no rfl (c := true) (congrArg Value.bool (decide_eq_true c126)) rfl) ?_
        refine o_no rfl (.no rfl (c := true) (congrArg Value.bool (decide_eq_true c126)) rfl) ?_
        refine o_gy rfl (.yes rfl (congrArg Value.bool (decide_eq_true c125))) (y_pick_t (congrArg Value.bool (decide_eq_true c126)) (v := Vt) rfl) ?_
        refine o_y rfl (y_pick_t (congrArg Value.bool (decide_eq_true c125)) (v := Vt) rfl) ?_
        refine o_done (hK119 _ _ (genC [(3, (Vp w.heap.size 0)), (4, (Vp w4.heap.size 0)), (5, (Vi least)), (6, (Vp w16.heap.size 0)), (7, (Vi (p91.1))), (8, (Vp p91.2 0)), (17, (Vp w25.heap.size 0)), (38, Vt)] ⟨g112, g113, g114, g115, g116, g117, g118, rfl, trivial⟩ ?_))
        clear hK119; rintro E ⟨g127, g128, g129, g130, g131, g132, g133, g134, -⟩
        refine cond_t g134 ?_
        refine regD (· = w16.heap.size) (.take 0 (.take 1 (.take 2 (.take 3 (.take 4 (.take 5 (.take 6 (.one 7 .done)))))))) mixed (by kernel_rfl) fun w135 hh136 hk137 => ?_
        have ka138 := (Kp.then0 ka123 hk137)
        refine o_y rfl (y_move (v := (Vi (p91.1))) g131) ?_
        refine o_y rfl (y_move (v := (Vp p91.2 0)) g132) ?_
        refine o_y rfl (y_nil rfl) ?_
        refine o_y rfl (y_fld fo36_3 rfl) ?_
        refine o_y rfl (y_fld fo34_0 rfl) ?_
        refine o_y rfl (y_load (v := (v4 q94.1.out.addr)) rfl (rd_agg (vs := [(u8 q94.1.out.addr.a), (u8 q94.1.out.addr.b), (u8 q94.1.out.addr.c), (u8 q94.1.out.addr.d)]) ag27 (On.kp (hk137.get0 (hk122.get0 hbq97)) (Nat.ne_of_lt (nt (nt (hplhbq97) hz29) (Nat.le_refl _)))) (by kernel_rfl) rfl)) ?_
        refine o_y rfl (y_assign (v := (Vi (p91.1))) rfl) ?_
        refine o_one ?_
        have hb139 := (hk137.get0 (hk122.get0 (hk88.get hi61 (Nat.ne_of_lt (nt (lt_of_get hb26) (Nat.le_refl _))))))
        refine c_e0 rfl (e_storeV (cs' := #[(u8 q94.1.out.addr.a), (u8 q94.1.out.addr.b), (u8 q94.1.out.addr.c), (u8 q94.1.out.addr.d)]) [(u8 q94.1.out.addr.a), (u8 q94.1.out.addr.b), (u8 q94.1.out.addr.c), (u8 q94.1.out.addr.d)] g130 (v := (v4 q94.1.out.addr)) rfl rfl sz27 hb139 rfl rfl rfl) ?_
        rintro _ w140 ⟨hb141, hk142⟩
        have ka143 := (Kp.fresh ka138 hk142 fun _ e => nl (nl hz29 (Nat.le_refl _)) (Nat.le_of_eq e.symm))
        have ks144 : Kp (· = w16.heap.size) w135 w140 := (Kp.trans (Kp.refl _ _) hk142 (fun _ _ e => e))
        refine ⟨ks144, ?_⟩
        have hle9 := len_erase hp92
        have hf145 := (((hit89.kp hk122 id id).kp hk137 id id).kp hk142 (Nat.ne_of_gt (nt (lt_of_get hb26) (Nat.le_refl _))) (Nat.ne_of_lt (nt (nt (hm0.lt) hz29) (Nat.le_refl _))))
        have kc146 : Kp (fun k => k = w25.heap.size ∨ k = w16.heap.size) w40 w55 := (Kp.trans (Kp.refl _ _) hk56 (fun _ _ e => e))
        have kc147 : Kp (fun k => k = w25.heap.size ∨ k = w16.heap.size) w40 w87 := (Kp.trans kc146 hk88 (fun _ _ e => (fun e => (.inl e)) e))
        have kc148 : Kp (fun k => k = w25.heap.size ∨ k = w16.heap.size) w40 w120 := (Kp.then0 kc147 hk122)
        have kc149 : Kp (fun k => k = w25.heap.size ∨ k = w16.heap.size) w40 w135 := (Kp.then0 kc148 hk137)
        have kc150 : Kp (fun k => k = w25.heap.size ∨ k = w16.heap.size) w40 w140 := (Kp.trans kc149 hk142 (fun _ _ e => (fun e => (.inr e)) e))
        exact o_done (hK57 ((left.eraseIdx i90), (done ++ [p91]), p91.1, q94.1.out.addr) _ _ ⟨⟨g127, g128, rfl, g130, g133, trivial⟩, kc150, (show IterAt (fun n : Int => Value.int .i64 n) (fun p : Nat => Value.pointer (some ⟨p, 0, none⟩)) inI w140 w25.heap.size g.mb (idl st.l) (left.eraseIdx i90) none from (IterAt.forget hf145)), (show ((done ++ [p91]) ++ (left.eraseIdx i90)).Perm (idl st.l) from (perm_step hi59 hp92)), (show PairD g st.l a (done ++ [p91]) p91.1 q94.1.out.addr from (by rw [hpe96]; exact PairD.take hi60 hnd hq95 hid9 (by assumption) (by omega))), (show Blk w140 w16.heap.size #[u8 q94.1.out.addr.a, u8 q94.1.out.addr.b, u8 q94.1.out.addr.c, u8 q94.1.out.addr.d] 27 from hb141)⟩ (by show (left.eraseIdx i90).length < left.length; omega))
      · refine o_gy rfl (.yes rfl (congrArg Value.bool (decide_eq_false c126))) (y_move (v := (Vi (p91.1))) g116) ?_
        refine o_gy rfl (.yes rfl (congrArg Value.bool (decide_eq_false c126))) (y_move (v := (Vi least)) g114) ?_
        refine o_gy rfl (.yes rfl (congrArg Value.bool (decide_eq_false c126))) (y_lss rfl rfl) ?_
        refine o_gy rfl (.yes rfl (congrArg Value.bool (decide_eq_true c125))) (y_pick_f (congrArg Value.bool (decide_eq_false c126)) (v := (.bool (decide ((p91.1 : Int) < least)))) rfl) ?_
        refine o_y rfl (y_pick_t (congrArg Value.bool (decide_eq_true c125)) (v := (.bool (decide ((p91.1 : Int) < least)))) rfl) ?_
        refine o_done (hK119 _ _ (genC [(3, (Vp w.heap.size 0)), (4, (Vp w4.heap.size 0)), (5, (Vi least)), (6, (Vp w16.heap.size 0)), (7, (Vi (p91.1))), (8, (Vp p91.2 0)), (17, (Vp w25.heap.size 0)), (38, (.bool (decide ((p91.1 : Int) < least))))] ⟨g112, g113, g114, g115, g116, g117, g118, rfl, trivial⟩ ?_))
        clear hK119; rintro E ⟨g151, g152, g153, g154, g155, g156, g157, g158, -⟩
        refine cond_d g158 (fun c159 => ?_) (fun c159 => ?_)
        · refine regD (· = w16.heap.size) (.take 0 (.take 1 (.take 2 (.take 3 (.take 4 (.take 5 (.take 6 (.one 7 .done)))))))) mixed (by kernel_rfl) fun w160 hh161 hk162 => ?_
          have ka163 := (Kp.then0 ka123 hk162)
          refine o_y rfl (y_move (v := (Vi (p91.1))) g155) ?_
          refine o_y rfl (y_move (v := (Vp p91.2 0)) g156) ?_
          refine o_y rfl (y_nil rfl) ?_
          refine o_y rfl (y_fld fo36_3 rfl) ?_
          refine o_y rfl (y_fld fo34_0 rfl) ?_
          refine o_y rfl (y_load (v := (v4 q94.1.out.addr)) rfl (rd_agg (vs := [(u8 q94.1.out.addr.a), (u8 q94.1.out.addr.b), (u8 q94.1.out.addr.c), (u8 q94.1.out.addr.d)]) ag27 (On.kp (hk162.get0 (hk122.get0 hbq97)) (Nat.ne_of_lt (nt (nt (hplhbq97) hz29) (Nat.le_refl _)))) (by kernel_rfl) rfl)) ?_
          refine o_y rfl (y_assign (v := (Vi (p91.1))) rfl) ?_
          refine o_one ?_
          have hb164 := (hk162.get0 (hk122.get0 (hk88.get hi61 (Nat.ne_of_lt (nt (lt_of_get hb26) (Nat.le_refl _))))))
          refine c_e0 rfl (e_storeV (cs' := #[(u8 q94.1.out.addr.a), (u8 q94.1.out.addr.b), (u8 q94.1.out.addr.c), (u8 q94.1.out.addr.d)]) [(u8 q94.1.out.addr.a), (u8 q94.1.out.addr.b), (u8 q94.1.out.addr.c), (u8 q94.1.out.addr.d)] g154 (v := (v4 q94.1.out.addr)) rfl rfl sz27 hb164 rfl rfl rfl) ?_
          rintro _ w165 ⟨hb166, hk167⟩
          have ka168 := (Kp.fresh ka163 hk167 fun _ e => nl (nl hz29 (Nat.le_refl _)) (Nat.le_of_eq e.symm))
          have ks169 : Kp (· = w16.heap.size) w160 w165 := (Kp.trans (Kp.refl _ _) hk167 (fun _ _ e => e))
          refine ⟨ks169, ?_⟩
          have hle9 := len_erase hp92
          have hf170 := (((hit89.kp hk122 id id).kp hk162 id id).kp hk167 (Nat.ne_of_gt (nt (lt_of_get hb26) (Nat.le_refl _))) (Nat.ne_of_lt (nt (nt (hm0.lt) hz29) (Nat.le_refl _))))
          have kc171 : Kp (fun k => k = w25.heap.size ∨ k = w16.heap.size) w40 w55 := (Kp.trans (Kp.refl _ _) hk56 (fun _ _ e => e))
          have kc172 : Kp (fun k => k = w25.heap.size ∨ k = w16.heap.size) w40 w87 := (Kp.trans kc171 hk88 (fun _ _ e => (fun e => (.inl e)) e))
          have kc173 : Kp (fun k => k = w25.heap.size ∨ k = w16.heap.size) w40 w120 := (Kp.then0 kc172 hk122)
          have kc174 : Kp (fun k => k = w25.heap.size ∨ k = w16.heap.size) w40 w160 := (Kp.then0 kc173 hk162)
          have kc175 : Kp (fun k => k = w25.heap.size ∨ k = w16.heap.size) w40 w165 := (Kp.trans kc174 hk167 (fun _ _ e => (fun e => (.inr e)) e))
          exact o_done (hK57 ((left.eraseIdx i90), (done ++ [p91]), p91.1, q94.1.out.addr) _ _ ⟨⟨g151, g152, rfl, g154, g157, trivial⟩, kc175, (show IterAt (fun n : Int => Value.int .i64 n) (fun p : Nat => Value.pointer (some ⟨p, 0, none⟩)) inI w165 w25.heap.size g.mb (idl st.l) (left.eraseIdx i90) none from (IterAt.forget hf170)), (show ((done ++ [p91]) ++ (left.eraseIdx i90)).Perm (idl st.l) from (perm_step hi59 hp92)), (show PairD g st.l a (done ++ [p91]) p91.1 q94.1.out.addr from (by rw [hpe96]; exact PairD.take hi60 hnd hq95 hid9 (by assumption) (by omega))), (show Blk w165 w16.heap.size #[u8 q94.1.out.addr.a, u8 q94.1.out.addr.b, u8 q94.1.out.addr.c, u8 q94.1.out.addr.d] 27 from hb166)⟩ (by show (left.eraseIdx i90).length < left.length; omega))
        · have hb176 := (hk122.get0 (hk88.get hi61 (Nat.ne_of_lt (nt (lt_of_get hb26) (Nat.le_refl _)))))
          have hle9 := len_erase hp92
          have hf177 := (hit89.kp hk122 id id)
          have kc178 : Kp (fun k => k = w25.heap.size ∨ k = w16.heap.size) w40 w55 := (Kp.trans (Kp.refl _ _) hk56 (fun _ _ e => e))
          have kc179 : Kp (fun k => k = w25.heap.size ∨ k = w16.heap.size) w40 w87 := (Kp.trans kc178 hk88 (fun _ _ e => (fun e => (.inl e)) e))
          have kc180 : Kp (fun k => k = w25.heap.size ∨ k = w16.heap.size) w40 w120 := (Kp.then0 kc179 hk122)
          exact skip (hK57 ((left.eraseIdx i90), (done ++ [p91]), least, out) _ _ ⟨⟨g151, g152, g153, g154, g157, trivial⟩, kc180, (show IterAt (fun n : Int => Value.int .i64 n) (fun p : Nat => Value.pointer (some ⟨p, 0, none⟩)) inI w120 w25.heap.size g.mb (idl st.l) (left.eraseIdx i90) none from (IterAt.forget hf177)), (show ((done ++ [p91]) ++ (left.eraseIdx i90)).Perm (idl st.l) from (perm_step hi59 hp92)), (show PairD g st.l a (done ++ [p91]) least out from (by rw [hpe96]; exact PairD.skip hi60 hnd hq95 (by first | exact .inl (by assumption) | exact .inr (by omega)))), (show Blk w120 w16.heap.size #[u8 out.a, u8 out.b, u8 out.c, u8 out.d] 27 from hb176)⟩ (by show (left.eraseIdx i90).length < left.length; omega))
    · refine o_no rfl (.no rfl (c := false) (congrArg Value.bool (decide_eq_false c125)) rfl) ?_
      refine o_no rfl (.no rfl (c := false) (congrArg Value.bool (decide_eq_false c125)) rfl) ?_
      refine o_no rfl (.no rfl (c := false) (congrArg Value.bool (decide_eq_false c125)) rfl) ?_
      refine o_no rfl (.off rfl rfl) ?_
      refine o_no rfl (.off rfl rfl) ?_
      refine o_no rfl (.off rfl rfl) ?_
      refine o_no rfl (.no rfl (c := false) (congrArg Value.bool (decide_eq_false c125)) rfl) ?_
      refine o_y rfl (y_pick_f (congrArg Value.bool (decide_eq_false c125)) (v := Vf) rfl) ?_
      refine o_done (hK119 _ _ (genC [(3, (Vp w.heap.size 0)), (4, (Vp w4.heap.size 0)), (5, (Vi least)), (6, (Vp w16.heap.size 0)), (7, (Vi (p91.1))), (8, (Vp p91.2 0)), (17, (Vp w25.heap.size 0)), (38, Vf)] ⟨g112, g113, g114, g115, g116, g117, g118, rfl, trivial⟩ ?_))
      clear hK119; rintro E ⟨g181, g182, g183, g184, g185, g186, g187, g188, -⟩
      refine cond_f g188 ?_
      have hb189 := (hk122.get0 (hk88.get hi61 (Nat.ne_of_lt (nt (lt_of_get hb26) (Nat.le_refl _)))))
      have hle9 := len_erase hp92
      have hf190 := (hit89.kp hk122 id id)
      have kc191 : Kp (fun k => k = w25.heap.size ∨ k = w16.heap.size) w40 w55 := (Kp.trans (Kp.refl _ _) hk56 (fun _ _ e => e))
      have kc192 : Kp (fun k => k = w25.heap.size ∨ k = w16.heap.size) w40 w87 := (Kp.trans kc191 hk88 (fun _ _ e => (fun e => (.inl e)) e))
      have kc193 : Kp (fun k => k = w25.heap.size ∨ k = w16.heap.size) w40 w120 := (Kp.then0 kc192 hk122)
      exact skip (hK57 ((left.eraseIdx i90), (done ++ [p91]), least, out) _ _ ⟨⟨g181, g182, g183, g184, g187, trivial⟩, kc193, (show IterAt (fun n : Int => Value.int .i64 n) (fun p : Nat => Value.pointer (some ⟨p, 0, none⟩)) inI w120 w25.heap.size g.mb (idl st.l) (left.eraseIdx i90) none from (IterAt.forget hf190)), (show ((done ++ [p91]) ++ (left.eraseIdx i90)).Perm (idl st.l) from (perm_step hi59 hp92)), (show PairD g st.l a (done ++ [p91]) least out from (by rw [hpe96]; exact PairD.skip hi60 hnd hq95 (by first | exact .inl (by assumption) | exact .inr (by omega)))), (show Blk w120 w16.heap.size #[u8 out.a, u8 out.b, u8 out.c, u8 out.d] 27 from hb189)⟩ (by show (left.eraseIdx i90).length < left.length; omega))

end Go.Proofs.YtdcnblafepgheaaDoor
