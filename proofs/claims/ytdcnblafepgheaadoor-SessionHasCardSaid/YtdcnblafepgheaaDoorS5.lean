/-
  Written by a program (wip/walks).
-/
import Derived.Test.YtdcnblafepgheaaDoorS4
namespace Go.Proofs.YtdcnblafepgheaaDoor
open Go Go.V
set_option maxRecDepth 100000
structure QG where
  (qb : Nat) (o : OG)
structure QS where
  (row : Option (Nat × Nat)) (l : List Thing) (m : List (Int × Int))
def rowb : Option (Nat × Nat) → List Nat
  | none => []
  | some p => [p.1]
/-- all that is a queue's -/
def qfp (g : QG) (q : QS) : List Nat := [g.qb, g.o.ob, g.o.mb] ++ rowb q.row
abbrev QMap (w : World) (b : Nat) (m : List (Int × Int)) : Prop := MapAt (fun n : Int => .int .i64 n) (fun n : Int => Value.int .i64 n) inI w b m
def RowAt (o : OG) (q : QS) (w : World) : Prop :=
  match q.row with
  | none => Blk w o.ob #[.slice none 0 0, .map (some o.mb)] 153 ∧ QMap w o.mb [] ∧ q.l = [] ∧ q.m = []
  | some p => OAt o p.1 p.2 q.l.length q.l q.m w
structure QIs (g : QG) (q : QS) (w : World) : Prop where
  blk : Blk w g.qb #[.pointer (some ⟨g.o.ob, 0, none⟩)] 155
  row : RowAt g.o q w
  pos : PosOK q.l q.m
  heap : HeapN q.l q.l.length
  nd : (qfp g q).Nodup
theorem QIs.kp {g : QG} {q : QS} {w w' : World} (h : QIs g q w) {F : Nat → Prop} (k : Kp F w w') (hF : ∀ b ∈ qfp g q, ¬ F b) : QIs g q w' := by
  refine ⟨k.get h.blk (hF _ (by simp [qfp])), ?_, h.pos, h.heap, h.nd⟩
  have hr := h.row
  obtain ⟨row, l, m⟩ := q
  cases row with
  | none => exact ⟨k.get hr.1 (hF _ (by simp [qfp])), hr.2.1.kp k (hF _ (by simp [qfp])), hr.2.2⟩
  | some p => exact OAt.kp hr k (hF _ (by simp [qfp])) (hF _ (by simp [qfp, rowb])) (hF _ (by simp [qfp]))
theorem QIs.k0 {g : QG} {q : QS} {w w' : World} (h : QIs g q w) (k : K0 w w') : QIs g q w' := h.kp k fun _ _ => id
theorem QIs.lt {g : QG} {q : QS} {w : World} (h : QIs g q w) : ∀ b ∈ qfp g q, b < w.heap.size := by
  intro b hb
  have hr := h.row
  obtain ⟨row, l, m⟩ := q
  simp only [qfp, List.mem_append, List.mem_cons, List.not_mem_nil, or_false] at hb
  cases row with
  | none =>
    simp only [rowb, List.not_mem_nil, or_false] at hb
    rcases hb with rfl | rfl | rfl
    · exact lt_of_get h.blk
    · exact lt_of_get hr.1
    · exact hr.2.1.lt
  | some p =>
    have hr : OAt g.o p.1 p.2 l.length l m w := hr
    simp only [rowb, List.mem_cons, List.not_mem_nil, or_false] at hb
    rcases hb with (rfl | rfl | rfl) | rfl
    · exact lt_of_get h.blk
    · exact lt_of_get hr.blk
    · exact hr.map.lt
    · exact hr.row.lt
theorem QIs.goods {g : QG} {q : QS} {w : World} (h : QIs g q w) : ∀ p ∈ q.m, inI p.1 := by
  have hr := h.row
  obtain ⟨row, l, m⟩ := q
  cases row with
  | none =>
    have e : m = [] := hr.2.2.2
    intro p hp; simp only [e] at hp; cases hp
  | some p => exact OAt.map hr |>.goods
/-- a call has turned the queue -/
structure QNx (g : QG) (q : QS) (w : World) (q' : QS) (w' : World) : Prop where
  is : QIs g q' w'
  sub : ∀ b ∈ qfp g q', b ∈ qfp g q ∨ w.heap.size ≤ b
  kp : Kp (fun k => k ∈ qfp g q) w w'
theorem QNx.mk' {g : QG} {q : QS} {w w' : World} (h : QIs g q w) {rb cap n : Nat} {l : List Thing} {m : List (Int × Int)} (ho : OAt g.o rb cap n l m w') (hp : PosOK l m) (hh : HeapN l n) (hn : rb ∈ rowb q.row ∨ w.heap.size ≤ rb) (hb : Blk w' g.qb #[.pointer (some ⟨g.o.ob, 0, none⟩)] 155)
    (kp : Kp (fun k => k ∈ qfp g q) w w') : QNx g q w ⟨some (rb, cap), l, m⟩ w' := by
  have hl := ho.len
  subst hl
  have hnd := h.nd
  have hlt := h.lt
  have h1 := ho.ne
  have h2 : rb ≠ g.o.mb := Elts.ne_map ho.row.elts ho.map
  have h3 : g.qb ≠ rb := by
    rcases hn with e | e
    · intro e2
      unfold qfp at hnd
      rw [List.nodup_append] at hnd
      exact hnd.2.2 g.qb (by simp) rb e e2
    · have := hlt g.qb (by simp [qfp]); omega
  have h4 : [g.qb, g.o.ob, g.o.mb].Nodup := by
    unfold qfp at hnd
    rw [List.nodup_append] at hnd
    exact hnd.1
  refine ⟨⟨hb, ho, hp, hh, ?_⟩, fun b hb => ?_, kp⟩
  · unfold qfp
    rw [List.nodup_append]
    refine ⟨h4, by simp [rowb], fun a ha b hb => ?_⟩
    simp only [rowb, List.mem_cons, List.not_mem_nil, or_false] at hb ha
    subst hb
    rcases ha with rfl | rfl | rfl
    · exact h3
    · exact h1
    · exact fun e => h2 e.symm
  · unfold qfp at hb ⊢
    rcases List.mem_append.1 hb with hb | hb
    · exact .inl (List.mem_append_left _ hb)
    · simp only [rowb, List.mem_cons, List.not_mem_nil, or_false] at hb
      subst hb
      rcases hn with e | e
      · exact .inl (List.mem_append_right _ e)
      · exact .inr e
theorem qnone_spec {g : QG} {q : QS} {w : World} (h : QIs g q w)  : Rets Tryd.prog 90 #[(.pointer (some ⟨g.qb, 0, none⟩))] w fun v w' => v = .bool false ∧ K0 w w' := by
  refine enter Tryd.func90 rfl Tryd.ntmps90 rfl fun Q hret hend E hE => ?_
  have g1 : E 0 = (Vp g.qb 0) := hE 0
  clear hE
  have hq0 := h.blk; have hrow := h.row; have hpos := h.pos; have hheap := h.heap; have hnd9 := h.nd; have hgd := h.goods
  obtain ⟨row, l, m⟩ := q
  have hne1 : g.qb ≠ g.o.ob ∧ g.qb ≠ g.o.mb ∧ g.o.ob ≠ g.o.mb := by have h9 := List.nodup_append.1 (show ([g.qb, g.o.ob, g.o.mb] ++ rowb row).Nodup from hnd9); have h8 := h9.1; simp at h8; exact ⟨h8.1.1, h8.1.2, h8.2⟩
  refine seq fun K2 hK2 => ?_
  refine reg ?_
  refine s_y (y_assign (v := Vf) rfl) rfl ?_
  refine s_nil (hK2 _ _ (genC [(0, (Vp g.qb 0))] ⟨g1, trivial⟩ ?_))
  clear hK2; rintro E ⟨g3, -⟩
  refine seq fun K4 hK4 => ?_
  refine reg ?_
  refine s_y (y_move (v := (Vp g.qb 0)) g3) rfl ?_
  refine s_y (y_peq Tryd.underlying111 rfl rfl) rfl ?_
  refine s_y (y_move (v := Vf) rfl) rfl ?_
  refine s_gy (.yes rfl rfl) (y_move (v := (Vp g.qb 0)) g3) rfl ?_
  refine s_gy (.yes rfl rfl) (y_nil rfl) rfl ?_
  refine s_gy (.yes rfl rfl) (y_fld fo155_0 rfl) rfl ?_
  refine s_gy (.yes rfl rfl) (y_load (v := (Vp g.o.ob 0)) rfl (rd_sc sc150 (On.now hq0) rfl)) rfl ?_
  refine s_gy (.yes rfl rfl) (y_peq Tryd.underlying150 rfl rfl) rfl ?_
  refine s_y (y_pick_f rfl (v := Vf) rfl) rfl ?_
  refine s_y (y_assign (v := Vf) rfl) rfl ?_
  refine s_nil (hK4 _ _ (genC [(2, Vf)] ⟨rfl, trivial⟩ ?_))
  clear hK4; rintro E ⟨g5, -⟩
  refine ret (hret _ _ [Vf] ⟨g5, trivial⟩ ?_)
  exact ⟨rfl, (Kp.refl _ _)⟩

theorem qnew_spec {w : World} : Rets Tryd.prog 60 #[] w fun v w' => (∃ g : QG, v = .pointer (some ⟨g.qb, 0, none⟩) ∧ QIs g ⟨none, [], []⟩ w' ∧ ∀ b ∈ qfp g ⟨none, [], []⟩, w.heap.size ≤ b) ∧ K0 w w' := by
  refine enter Tryd.func60 rfl Tryd.ntmps60 rfl fun Q hret hend E hE => ?_
  clear hE
  refine seq fun K1 hK1 => ?_
  refine reg ?_
  refine s_y (y_assign (v := (.pointer none)) rfl) rfl ?_
  refine s_nil (hK1 _ _ (genC [] trivial ?_))
  clear hK1; rintro E -
  refine seq fun K2 hK2 => ?_
  refine reg ?_
  refine s_e e_makeMap rfl ?_
  rintro _ w3 ⟨rfl, hm4, hk5⟩
  have ka6 : Kp (fun _ => False) w w3 := (Kp.then0 (Kp.refl _ _) hk5)
  have hmm9 : QMap w3 w.heap.size [] := MapAt.new hm4
  refine s_y (y_build (vs := [(1, (.map (some w.heap.size)))]) (v := (.agg #[.slice none 0 0, .map (some w.heap.size)])) rfl (fun _ => by kernel_rfl)) rfl ?_
  refine s_e (e_box (v := (.agg #[.slice none 0 0, .map (some w.heap.size)])) rfl) rfl ?_
  rintro _ w7 ⟨rfl, hb8, hk9⟩
  have ka10 := (Kp.then0 ka6 hk9)
  refine s_y (y_build (vs := [(0, (Vp w3.heap.size 0))]) (v := (.agg #[.pointer (some ⟨w3.heap.size, 0, none⟩)])) rfl (fun _ => by kernel_rfl)) rfl ?_
  refine s_e (e_box (v := (.agg #[.pointer (some ⟨w3.heap.size, 0, none⟩)])) rfl) rfl ?_
  rintro _ w11 ⟨rfl, hb12, hk13⟩
  have ka14 := (Kp.then0 ka10 hk13)
  refine s_y (y_assign (v := (Vp w7.heap.size 0)) rfl) rfl ?_
  refine s_nil (hK2 _ _ (genC [(0, (Vp w7.heap.size 0))] ⟨rfl, trivial⟩ ?_))
  clear hK2; rintro E ⟨g15, -⟩
  refine ret (hret _ _ [(Vp w7.heap.size 0)] ⟨g15, trivial⟩ ?_)
  have hb16 := (hk13.get0 hb8)
  have hf17 := ((hmm9.kp hk9 id).kp hk13 id)
  refine ⟨⟨⟨w7.heap.size, ⟨w3.heap.size, w.heap.size⟩⟩, rfl, ⟨hb12, ⟨hb16, hf17, rfl, rfl⟩, PosOK.nil, fun k h0 hk => absurd hk (Nat.not_lt_zero k), ?_⟩, ?_⟩, ka14⟩
  · simp only [qfp, rowb, List.append_nil, List.nodup_cons, List.mem_cons, List.not_mem_nil, or_false, not_or, not_false_eq_true, List.nodup_nil, and_true]; exact ⟨⟨(Nat.ne_of_gt (nt (lt_of_get hb8) (Nat.le_refl _))), (Nat.ne_of_gt (nt (nt (hmm9.lt) hk9.size) (Nat.le_refl _)))⟩, (Nat.ne_of_gt (nt (hmm9.lt) (Nat.le_refl _)))⟩
  · intro b hb; simp only [qfp, rowb, List.append_nil, List.mem_cons, List.not_mem_nil, or_false] at hb; rcases hb with rfl | rfl | rfl
    · exact (nl hk5.size hk9.size)
    · exact hk5.size
    · exact (Nat.le_refl _)

theorem olen0_spec {g : OG} {w : World} (hb0 : Blk w g.ob #[.slice none 0 0, .map (some g.mb)] 153) : Rets Tryd.prog 94 #[(.pointer (some ⟨g.ob, 0, none⟩))] w fun v w' => v = .int .i64 0 ∧ K0 w w' := by
  refine enter Tryd.func94 rfl Tryd.ntmps94 rfl fun Q hret hend E hE => ?_
  have g1 : E 0 = (Vp g.ob 0) := hE 0
  clear hE
  refine seq fun K2 hK2 => ?_
  refine reg ?_
  refine s_y (y_assign (v := (Vi 0)) rfl) rfl ?_
  refine s_nil (hK2 _ _ (genC [(0, (Vp g.ob 0))] ⟨g1, trivial⟩ ?_))
  clear hK2; rintro E ⟨g3, -⟩
  refine seq fun K4 hK4 => ?_
  refine reg ?_
  refine s_y (y_move (v := (Vp g.ob 0)) g3) rfl ?_
  refine s_y (y_nil rfl) rfl ?_
  refine s_y (y_fld fo153_0 rfl) rfl ?_
  refine s_y (y_load (v := (.slice none 0 0)) rfl (rd_sc sc151 (On.now hb0) rfl)) rfl ?_
  refine s_y (y_lenS so151 rfl) rfl ?_
  refine s_y (y_assign (v := (Vi (((0 : Nat) : Int)))) rfl) rfl ?_
  refine s_nil (hK4 _ _ (genC [(2, (Vi (((0 : Nat) : Int))))] ⟨rfl, trivial⟩ ?_))
  clear hK4; rintro E ⟨g5, -⟩
  refine ret (hret _ _ [(Vi (((0 : Nat) : Int)))] ⟨g5, trivial⟩ ?_)
  exact ⟨rfl, (Kp.refl _ _)⟩

theorem qnext_spec {g : QG} {q : QS} {w : World} (h : QIs g q w)  : Rets Tryd.prog 67 #[(.pointer (some ⟨g.qb, 0, none⟩))] w fun v w' => ((q.l = [] ∧ v = .tuple #[.int .i64 0, .int .i64 0, .bool false]) ∨ (q.l ≠ [] ∧ v = .tuple #[.int .i64 (ix q.l 0).id, .int .i64 (ix q.l 0).due, .bool true])) ∧ K0 w w' := by
  refine enter Tryd.func67 rfl Tryd.ntmps67 rfl fun Q hret hend E hE => ?_
  have g1 : E 0 = (Vp g.qb 0) := hE 0
  clear hE
  have h9q := h
  have hq0 := h.blk; have hrow := h.row; have hpos := h.pos; have hheap := h.heap; have hnd9 := h.nd; have hgd := h.goods
  obtain ⟨row, l, m⟩ := q
  have hne1 : g.qb ≠ g.o.ob ∧ g.qb ≠ g.o.mb ∧ g.o.ob ≠ g.o.mb := by have h9 := List.nodup_append.1 (show ([g.qb, g.o.ob, g.o.mb] ++ rowb row).Nodup from hnd9); have h8 := h9.1; simp at h8; exact ⟨h8.1.1, h8.1.2, h8.2⟩
  cases row with
  | none =>
    obtain ⟨hb0, hm0, hl9, hm9⟩ : Blk _ g.o.ob _ 153 ∧ QMap _ g.o.mb [] ∧ l = [] ∧ m = [] := hrow
    subst hl9 hm9
    refine seq fun K2 hK2 => ?_
    refine reg ?_
    refine s_y (y_assign (v := (Vi 0)) rfl) rfl ?_
    refine s_y (y_assign (v := (Vi 0)) rfl) rfl ?_
    refine s_y (y_assign (v := Vf) rfl) rfl ?_
    refine s_nil (hK2 _ _ (genC [(0, (Vp g.qb 0))] ⟨g1, trivial⟩ ?_))
    clear hK2; rintro E ⟨g3, -⟩
    refine seq fun K4 hK4 => ?_
    refine seq fun K5 hK5 => ?_
    refine reg ?_
    refine s_y (y_move (v := (Vp g.qb 0)) g3) rfl ?_
    refine s_e (e_call ca90 (args := [(Vp g.qb 0)]) rfl (qnone_spec h9q)) rfl ?_
    rintro _ w6 ⟨rfl, hk7⟩
    have ka8 : Kp (fun _ => False) w w6 := (Kp.then0 (Kp.refl _ _) hk7)
    refine s_y (y_move (v := Vf) rfl) rfl ?_
    refine s_gy (.yes rfl rfl) (y_move (v := (Vp g.qb 0)) g3) rfl ?_
    refine s_gy (.yes rfl rfl) (y_nil rfl) rfl ?_
    refine s_gy (.yes rfl rfl) (y_fld fo155_0 rfl) rfl ?_
    have hb9 := (hk7.get0 hq0)
    refine s_gy (.yes rfl rfl) (y_load (v := (Vp g.o.ob 0)) rfl (rd_sc sc150 (On.now hb9) rfl)) rfl ?_
    have hb10 := (hk7.get0 hb0)
    refine s_ge (.yes rfl rfl) (e_call ca94 (args := [(Vp g.o.ob 0)]) rfl (olen0_spec hb10)) rfl ?_
    rintro _ w11 ⟨rfl, hk12⟩
    have ka13 := (Kp.then0 ka8 hk12)
    refine s_gy (.yes rfl rfl) (y_eql rfl rfl) rfl ?_
    refine s_y (y_pick_f rfl (v := Vt) rfl) rfl ?_
    refine s_nil (hK5 _ _ (genC [(0, (Vp g.qb 0)), (14, Vt)] ⟨g3, rfl, trivial⟩ ?_))
    clear hK5; rintro E ⟨g14, g15, -⟩
    refine cond_t g15 ?_
    refine seq fun K16 hK16 => ?_
    refine reg ?_
    refine s_y (y_assign (v := (Vi 0)) rfl) rfl ?_
    refine s_y (y_assign (v := (Vi 0)) rfl) rfl ?_
    refine s_y (y_assign (v := Vf) rfl) rfl ?_
    refine s_nil (hK16 _ _ (genC [(2, (Vi 0)), (3, (Vi 0)), (4, Vf)] ⟨rfl, rfl, rfl, trivial⟩ ?_))
    clear hK16; rintro E ⟨g17, g18, g19, -⟩
    refine ret (hret _ _ [(Vi 0), (Vi 0), Vf] ⟨g17, g18, g19, trivial⟩ ?_)
    exact ⟨.inl ⟨rfl, rfl⟩, ka13⟩
  | some p =>
    obtain ⟨rb, cap⟩ := p
    have ho9 : OAt g.o rb cap l.length l m _ := hrow
    have hb0 := ho9.blk; have hr0 := ho9.row; have hm0 := ho9.map; have hn1 := ho9.ne; have hbg := ho9.big; have hn3 : rb ≠ g.o.mb := Elts.ne_map ho9.row.elts ho9.map
    have hn4 : g.qb ≠ rb := by have h9 := List.nodup_append.1 (show ([g.qb, g.o.ob, g.o.mb] ++ rowb (some (rb, cap))).Nodup from hnd9); exact h9.2.2 _ (by simp) _ (by simp [rowb])
    refine seq fun K20 hK20 => ?_
    refine reg ?_
    refine s_y (y_assign (v := (Vi 0)) rfl) rfl ?_
    refine s_y (y_assign (v := (Vi 0)) rfl) rfl ?_
    refine s_y (y_assign (v := Vf) rfl) rfl ?_
    refine s_nil (hK20 _ _ (genC [(0, (Vp g.qb 0))] ⟨g1, trivial⟩ ?_))
    clear hK20; rintro E ⟨g21, -⟩
    refine seq fun K22 hK22 => ?_
    refine seq fun K23 hK23 => ?_
    refine reg ?_
    refine s_y (y_move (v := (Vp g.qb 0)) g21) rfl ?_
    refine s_e (e_call ca90 (args := [(Vp g.qb 0)]) rfl (qnone_spec h9q)) rfl ?_
    rintro _ w24 ⟨rfl, hk25⟩
    have ka26 : Kp (fun _ => False) w w24 := (Kp.then0 (Kp.refl _ _) hk25)
    refine s_y (y_move (v := Vf) rfl) rfl ?_
    refine s_gy (.yes rfl rfl) (y_move (v := (Vp g.qb 0)) g21) rfl ?_
    refine s_gy (.yes rfl rfl) (y_nil rfl) rfl ?_
    refine s_gy (.yes rfl rfl) (y_fld fo155_0 rfl) rfl ?_
    have hb27 := (hk25.get0 hq0)
    refine s_gy (.yes rfl rfl) (y_load (v := (Vp g.o.ob 0)) rfl (rd_sc sc150 (On.now hb27) rfl)) rfl ?_
    have hf28 := (OAt.kp ho9 hk25 id id id)
    refine s_ge (.yes rfl rfl) (e_call ca94 (args := [(Vp g.o.ob 0)]) rfl (olen_spec hf28)) rfl ?_
    rintro _ w29 ⟨rfl, hk30⟩
    have ka31 := (Kp.then0 ka26 hk30)
    refine s_gy (.yes rfl rfl) (y_eql rfl rfl) rfl ?_
    refine s_y (y_pick_f rfl (v := (.bool (decide ((((l.length : Nat) : Int) : Int) = 0)))) rfl) rfl ?_
    refine s_nil (hK23 _ _ (genC [(0, (Vp g.qb 0)), (14, (.bool (decide ((((l.length : Nat) : Int) : Int) = 0))))] ⟨g21, rfl, trivial⟩ ?_))
    clear hK23; rintro E ⟨g32, g33, -⟩
    refine cond_d g33 (fun c34 => ?_) (fun c34 => ?_)
    · refine seq fun K35 hK35 => ?_
      refine reg ?_
      refine s_y (y_assign (v := (Vi 0)) rfl) rfl ?_
      refine s_y (y_assign (v := (Vi 0)) rfl) rfl ?_
      refine s_y (y_assign (v := Vf) rfl) rfl ?_
      refine s_nil (hK35 _ _ (genC [(2, (Vi 0)), (3, (Vi 0)), (4, Vf)] ⟨rfl, rfl, rfl, trivial⟩ ?_))
      clear hK35; rintro E ⟨g36, g37, g38, -⟩
      refine ret (hret _ _ [(Vi 0), (Vi 0), Vf] ⟨g36, g37, g38, trivial⟩ ?_)
      exact ⟨.inl ⟨(List.eq_nil_of_length_eq_zero (show l.length = 0 by omega)), rfl⟩, ka31⟩
    · have hpos9 : 0 < l.length := by omega
      refine skip (hK22 _ _ (genC [(0, (Vp g.qb 0))] ⟨g32, trivial⟩ ?_))
      clear hK22; rintro E ⟨g39, -⟩
      refine seq fun K40 hK40 => ?_
      refine regD (fun _ => False) (.take 0 (.take 1 (.take 2 (.take 3 (.take 4 (.take 5 (.take 6 (.take 7 (.take 8 (.take 9 (.take 10 (.take 11 (.take 12 (.take 13 (.take 14 (.take 15 (.take 16 (.take 17 (.take 18 (.take 19 (.take 20 (.take 21 (.take 22 .done))))))))))))))))))))))) mixed (by kernel_rfl) fun w41 hh42 hk43 => ?_
      have ka44 := (Kp.then0 ka31 hk43)
      refine o_y rfl (y_move (v := (Vp g.qb 0)) g39) ?_
      refine o_y rfl (y_nil rfl) ?_
      refine o_y rfl (y_fld fo155_0 rfl) ?_
      refine o_y rfl (y_load (v := (Vp g.o.ob 0)) rfl (rd_sc sc150 (On.kp (hk43.get0 (hk30.get0 hb27)) id) rfl)) ?_
      refine o_y rfl (y_nil rfl) ?_
      refine o_y rfl (y_fld fo153_0 rfl) ?_
      refine o_y rfl (y_load (v := (.slice (some ⟨rb, 0, none⟩) l.length cap)) rfl (rd_sc sc151 (On.kp (hk43.get0 (hk30.get0 (hk25.get0 hb0))) id) rfl)) ?_
      refine o_y rfl (y_idx so151 sz164 rfl (i := 0) rfl (by omega)) ?_
      refine o_y rfl (y_fld fo164_0 rfl) ?_
      refine o_y rfl (y_load (v := (Vi ((ix l 0).id))) rfl (rd_ef sc3 (EltsOn.kp (OwnC.elts (((hr0.kp hk25 id).kp hk30 id).kp hk43 id)) id) (some_ix hpos9) rfl)) ?_
      refine o_y rfl (y_move (v := (Vp g.qb 0)) g39) ?_
      refine o_y rfl (y_nil rfl) ?_
      refine o_y rfl (y_fld fo155_0 rfl) ?_
      refine o_y rfl (y_load (v := (Vp g.o.ob 0)) rfl (rd_sc sc150 (On.kp (hk43.get0 (hk30.get0 hb27)) id) rfl)) ?_
      refine o_y rfl (y_nil rfl) ?_
      refine o_y rfl (y_fld fo153_0 rfl) ?_
      refine o_y rfl (y_load (v := (.slice (some ⟨rb, 0, none⟩) l.length cap)) rfl (rd_sc sc151 (On.kp (hk43.get0 (hk30.get0 (hk25.get0 hb0))) id) rfl)) ?_
      refine o_y rfl (y_idx so151 sz164 rfl (i := 0) rfl (by omega)) ?_
      refine o_y rfl (y_fld fo164_1 rfl) ?_
      refine o_y rfl (y_load (v := (Vi ((ix l 0).due))) rfl (rd_ef sc3 (EltsOn.kp (OwnC.elts (((hr0.kp hk25 id).kp hk30 id).kp hk43 id)) id) (some_ix hpos9) rfl)) ?_
      refine o_y rfl (y_assign (v := (Vi ((ix l 0).id))) rfl) ?_
      refine o_y rfl (y_assign (v := (Vi ((ix l 0).due))) rfl) ?_
      refine o_y rfl (y_assign (v := Vt) rfl) ?_
      refine o_done (hK40 _ _ (genC [(2, (Vi ((ix l 0).id))), (3, (Vi ((ix l 0).due))), (4, Vt)] ⟨rfl, rfl, rfl, trivial⟩ ?_))
      clear hK40; rintro E ⟨g45, g46, g47, -⟩
      refine ret (hret _ _ [(Vi ((ix l 0).id)), (Vi ((ix l 0).due)), Vt] ⟨g45, g46, g47, trivial⟩ ?_)
      exact ⟨.inr ⟨fun e => by subst e; simp at hpos9, rfl⟩, ka44⟩

end Go.Proofs.YtdcnblafepgheaaDoor
