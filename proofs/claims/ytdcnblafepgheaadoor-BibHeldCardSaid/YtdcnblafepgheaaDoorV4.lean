/-
  Slices: what a row of elements holds, as a list; reading an element, a field of one; storing; subslices; append, copy, clear, make; strings out of bytes, a range over a string; more of integers. Of whatever program.
-/
import Derived.Test.YtdcnblafepgheaaDoorV2
import Derived.Maps.AppendAt
import Derived.Laws.BytesString
import Derived.Laws.CopyRow
import Derived.Laws.OwnMore
namespace Go.V
open Go

/-- what the table of types says of a type -/
def TyInfo (P : Program) (e : TypeId) (sz bytes : Nat) (z : Value) : Prop := (P.info? e).map (fun i => (i.size, i.bytes, i.zero)) = some (sz, bytes, some z)
theorem TyInfo.get {P : Program} {e : TypeId} {sz bytes : Nat} {z : Value} (h : TyInfo P e sz bytes z) : ∃ i, P.info? e = some i ∧ i.size = sz ∧ i.bytes = bytes ∧ i.zero = some z := by
  unfold TyInfo at h
  cases hi : P.info? e with
  | none => rw [hi] at h; cases h
  | some i =>
    rw [hi] at h
    simp only [Option.map_some, Option.some.injEq, Prod.mk.injEq] at h
    exact ⟨i, rfl, h⟩

section
variable {X : Type}
/-- block b's cells hold, from cell o on, the elements xs, each of them sz cells -/
def Elts (f : X → List Value) (sz : Nat) (w : World) (b o : Nat) (xs : List X) : Prop :=
  ∃ cs T fz, w.heap[b]? = some (.cells cs T fz) ∧ ∀ i x, xs[i]? = some x → (f x).length = sz ∧ (cs.toList.drop (o + i * sz)).take sz = f x
theorem Elts.lt {f : X → List Value} {sz : Nat} {w : World} {b o : Nat} {xs : List X} (h : Elts f sz w b o xs) : b < w.heap.size := by
  obtain ⟨_, _, _, h, _⟩ := h; exact lt_of_get h
theorem Elts.kp {f : X → List Value} {sz : Nat} {w w' : World} {b o : Nat} {xs : List X} (h : Elts f sz w b o xs) {F : Nat → Prop} (k : Kp F w w') (hn : ¬ F b) : Elts f sz w' b o xs := by
  obtain ⟨cs, T, fz, h, h2⟩ := h; exact ⟨cs, T, fz, k.get h hn, h2⟩
theorem Elts.sub {f : X → List Value} {sz : Nat} {w : World} {b o : Nat} {xs : List X} (h : Elts f sz w b o xs) (l n : Nat) : Elts f sz w b (o + l * sz) ((xs.drop l).take n) := by
  obtain ⟨cs, T, fz, h, h2⟩ := h
  refine ⟨cs, T, fz, h, fun i x hx => ?_⟩
  have hx2 : xs[l + i]? = some x := by
    rw [List.getElem?_take] at hx
    split at hx
    · rw [List.getElem?_drop] at hx; exact hx
    · cases hx
  have := h2 (l + i) x hx2
  rw [show o + l * sz + i * sz = o + (l + i) * sz by rw [Nat.add_mul, Nat.add_assoc]]
  exact this
def EltsOn (f : X → List Value) (sz : Nat) (W : World → Prop) (b o : Nat) (xs : List X) : Prop := ∀ w, W w → Elts f sz w b o xs
theorem EltsOn.now {f : X → List Value} {sz : Nat} {w : World} {b o : Nat} {xs : List X} (h : Elts f sz w b o xs) : EltsOn f sz (· = w) b o xs := fun _ e => by cases e; exact h
theorem EltsOn.kp {f : X → List Value} {sz : Nat} {w : World} {b o : Nat} {xs : List X} {F : Nat → Prop} (h : Elts f sz w b o xs) (hn : ¬ F b) : EltsOn f sz (Kp F w) b o xs := fun _ k => h.kp k hn
variable {P : Program} {W : World → Prop} {f : X → List Value} {sz b o i : Nat} {xs : List X} {x : X}
theorem take_get {α : Type} {l r : List α} {o n k : Nat} (h : (l.drop o).take n = r) (hk : k < r.length) : l[o + k]? = r[k]? := by
  subst h
  have hkn : k < n := by simp at hk; omega
  rw [List.getElem?_take_of_lt hkn, List.getElem?_drop]
/-- an element that is a struct or an array -/
theorem rd_el {t : TypeId} (ht : TyAgg P t sz) (h : EltsOn f sz W b o xs) (hx : xs[i]? = some x) {vs : List Value} (hv : f x = vs) : Rd P W t ⟨b, o + i * sz, none⟩ (.agg vs.toArray) := by
  intro w hw
  obtain ⟨cs, T, fz, hb, h2⟩ := h w hw
  obtain ⟨hl, hc⟩ := h2 i x hx
  exact rd_agg ht (On.now hb) (hc.trans hv) (by rw [← hv]; exact hl) w rfl
/-- a scalar at a place within an element -/
theorem rd_ef {t : TypeId} {k : Nat} {v : Value} (ht : TySc P t) (h : EltsOn f sz W b o xs) (hx : xs[i]? = some x) (hk : (f x)[k]? = some v) : Rd P W t ⟨b, o + i * sz + k, none⟩ v := by
  intro w hw
  obtain ⟨cs, T, fz, hb, h2⟩ := h w hw
  obtain ⟨hl, hc⟩ := h2 i x hx
  refine rd_sc ht (On.now hb) ?_ w rfl
  have hkl : k < (f x).length := by
    rcases Nat.lt_or_ge k (f x).length with h' | h'
    · exact h'
    · rw [List.getElem?_eq_none h'] at hk; cases hk
  rw [← Array.getElem?_toList, take_get hc hkl, hk]
/-- a scalar element -/
theorem rd_e1 {t : TypeId} {v : Value} (ht : TySc P t) (h : EltsOn f 1 W b o xs) (hx : xs[i]? = some x) (hk : f x = [v]) : Rd P W t ⟨b, o + i * 1, none⟩ v := by
  have := rd_ef (k := 0) ht h hx (v := v) (by rw [hk]; rfl)
  simpa using this
/-! ### a row of the program's own: just its elements -/
/-- block b is a row of just these elements -/
def Own (f : X → List Value) (sz : Nat) (w : World) (b : Nat) (T : TypeId) (ys : List X) : Prop := Blk w b (ys.flatMap f).toArray T ∧ ∀ y, (f y).length = sz
theorem flat_len {sz : Nat} (hf : ∀ y, (f y).length = sz) (ys : List X) : (ys.flatMap f).length = ys.length * sz := by
  induction ys with
  | nil => simp
  | cons y ys ih => rw [List.flatMap_cons, List.length_append, hf, ih, List.length_cons, Nat.add_mul, Nat.one_mul, Nat.add_comm]
theorem flat_drop {sz : Nat} (hf : ∀ y, (f y).length = sz) (ys : List X) (i : Nat) : (ys.flatMap f).drop (i * sz) = (ys.drop i).flatMap f := by
  induction ys generalizing i with
  | nil => simp
  | cons y ys ih =>
    cases i with
    | zero => simp
    | succ i =>
      rw [List.flatMap_cons, List.drop_succ_cons, ← ih i, Nat.add_mul, Nat.one_mul, Nat.add_comm, List.drop_append, hf]
      rw [List.drop_of_length_le (by rw [hf]; omega)]
      simp
theorem flat_take {sz : Nat} (hf : ∀ y, (f y).length = sz) (ys : List X) (i : Nat) : (ys.flatMap f).take (i * sz) = (ys.take i).flatMap f := by
  induction ys generalizing i with
  | nil => simp
  | cons y ys ih =>
    cases i with
    | zero => simp
    | succ i =>
      rw [List.flatMap_cons, List.take_succ_cons, List.flatMap_cons, ← ih i, Nat.add_mul, Nat.one_mul, Nat.add_comm, List.take_append, hf]
      rw [List.take_of_length_le (by rw [hf]; omega)]
      congr 2
      omega
theorem Own.elts {w : World} {T : TypeId} {ys : List X} (h : Own f sz w b T ys) (k n : Nat) : Elts f sz w b (k * sz) ((ys.drop k).take n) := by
  have : Elts f sz w b 0 ys := by
    refine ⟨_, T, (0, 0), h.1, fun i y hy => ⟨h.2 y, ?_⟩⟩
    have hil : i < ys.length := (List.getElem?_eq_some_iff.1 hy).1
    rw [Nat.zero_add, flat_drop h.2, List.drop_eq_getElem_cons hil, List.flatMap_cons, List.take_append, h.2]
    rw [(List.getElem?_eq_some_iff.1 hy).2, List.take_of_length_le (by rw [h.2]; omega)]
    simp
  have := this.sub k n
  rwa [Nat.zero_add] at this
theorem Own.all {w : World} {T : TypeId} {ys : List X} (h : Own f sz w b T ys) : Elts f sz w b 0 ys := by
  have := h.elts 0 ys.length
  simpa using this
theorem Own.kp {w w' : World} {T : TypeId} {ys : List X} (h : Own f sz w b T ys) {F : Nat → Prop} (k : Kp F w w') (hn : ¬ F b) : Own f sz w' b T ys := ⟨k.get h.1 hn, h.2⟩
theorem Own.lt {w : World} {T : TypeId} {ys : List X} (h : Own f sz w b T ys) : b < w.heap.size := lt_of_get h.1
theorem splice_flat {sz : Nat} (hf : ∀ y, (f y).length = sz) (ys news : List X) (k : Nat) : splice (ys.flatMap f).toArray (k * sz) (news.flatMap f) = ((ys.take k ++ news ++ ys.drop (k + news.length)).flatMap f).toArray := by
  unfold splice
  congr 1
  simp only [List.flatMap_append]
  rw [flat_take hf, flat_len hf news, ← Nat.add_mul, flat_drop hf]
/-- elements laid over others -/
theorem run_storeRow {w : World} {T : TypeId} {ys : List X} (h : Own f sz w b T ys) (k : Nat) (news : List X) (hl : k + news.length ≤ ys.length) (h1 : ∀ y, ∀ v ∈ f y, v.oneCell' = true) :
    ∃ w', (storeCells ⟨b, k * sz, none⟩ (news.flatMap f)).run P w = .ok () w' ∧ Own f sz w' b T (ys.take k ++ news ++ ys.drop (k + news.length)) ∧ Kp (· = b) w w' := by
  obtain ⟨w', hr, hb, hk⟩ := run_storeCells (P := P) (news.flatMap f) (k * sz) 0 _ w h.1 (by
    simp only [Nat.add_zero, List.size_toArray]
    rw [flat_len h.2, flat_len h.2, ← Nat.add_mul]
    exact Nat.mul_le_mul_right _ hl) (fun v hv => by
      obtain ⟨y, _, hy⟩ := List.mem_flatMap.1 hv
      exact h1 y v hy)
  refine ⟨w', hr, ⟨?_, h.2⟩, hk⟩
  rw [Nat.add_zero, splice_flat h.2] at hb
  exact hb
theorem set_splice (ys : List X) (i : Nat) (y : X) (hi : i < ys.length) : ys.take i ++ [y] ++ ys.drop (i + 1) = ys.set i y := by
  rw [List.set_eq_take_append_cons_drop, if_pos hi]; simp
variable {E : Env} {ty : TypeId} {a c : Operand} {w : World}
/-- one element stored -/
theorem e_storeEl {t T : TypeId} {ys : List X} {y : X} (hx : ev E a = .pointer (some ⟨b, 0 + i * sz, none⟩)) (hy : ev E c = .agg (f y).toArray) (hs : TySz P t sz) (hb : Own f sz w b T ys) (hi : i < ys.length) (h1 : ∀ y, ∀ v ∈ f y, v.oneCell' = true) :
    Eff P E (.store t a c) ty w fun _ w' => Own f sz w' b T (ys.set i y) ∧ Kp (· = b) w w' := by
  obtain ⟨w', hr, hb', hk⟩ := run_storeRow (P := P) hb i [y] (by simp only [List.length_singleton]; omega) h1
  rw [show ys.take i ++ [y] ++ ys.drop (i + [y].length) = ys.set i y from set_splice ys i y hi] at hb'
  refine .inr (.inl ⟨w', ?_, hb', hk⟩)
  have hf : ([y].flatMap f) = f y := by simp
  rw [hf] at hr
  have hcs : (Value.agg (f y).toArray).cells.toList = f y := rfl
  have hsz : (f y).toArray.size = sz := by simpa using hb.2 y
  simp only [exe, execOp, hx, hy, Nat.zero_add, Sem.run_bind, Instr.storeAt, Instr.sureAddr, storeVar, hs w, Sem.run_pure, Result.andThen_ok]
  simp [Value.cells, hb.2 y, hr]
theorem made_flat {z : Array Value} {x0 : X} (hz : z.toList = f x0) (hf : ∀ y, (f y).length = sz) (n : Nat) : (madeCells z (n * sz)).toList = (List.replicate n x0).flatMap f := by
  have hzs : z.size = sz := by have := congrArg List.length hz; rw [hf] at this; simpa using this
  have e1 : ∀ m, (madeCells z m).toList = (List.range m).map fun j => z[j % sz]! := fun m => by simp [madeCells, hzs]
  rw [e1]
  have e2 : (List.range sz).map (fun j => z[j % sz]!) = f x0 := by
    rw [← hz]
    apply List.ext_getElem?
    intro j
    rw [List.getElem?_map]
    by_cases hj : j < sz
    · rw [List.getElem?_range hj, Array.getElem?_toList, Array.getElem?_eq_getElem (by omega)]
      simp [Nat.mod_eq_of_lt hj, hzs, hj]
    · rw [List.getElem?_eq_none (by simpa using hj), List.getElem?_eq_none (by simp; omega)]
      rfl
  induction n with
  | zero => simp
  | succ n ih =>
    rw [List.replicate_succ', List.flatMap_append, ← ih, Nat.succ_mul, List.range_add, List.map_append, List.map_map]
    congr 1
    rw [List.flatMap_cons, List.flatMap_nil, List.append_nil, ← e2]
    apply List.map_congr_left
    intro j hj
    simp only [Function.comp_apply]
    rw [Nat.mul_comm n sz, Nat.mul_add_mod]
theorem e_makeSlice {t e : TypeId} {bytes n : Nat} {z : Value} {x0 : X} (ht : SlcOf P t e) (hi : TyInfo P e sz bytes z) (hz : z.cells.toList = f x0) (hf : ∀ y, (f y).length = sz) {ka kc : IntKind} (hx : ev E a = .int ka n) (hy : ev E c = .int kc n) (hb : bytes * n ≤ 281474976710656) (hm : n ≤ maxLen) :
    Eff P E (.makeSlice t a c) ty w fun u w' => u = .slice (some ⟨w.heap.size, 0, none⟩) n n ∧ Own f sz w' w.heap.size e (List.replicate n x0) ∧ K0 w w' := by
  obtain ⟨i, hi1, hi2, hi3, hi4⟩ := hi.get
  subst hi3
  have hzs : z.cells.size = sz := by have := congrArg List.length hz; rw [hf] at this; simpa using this
  obtain ⟨w', hr, hown, hg⟩ := run_make_full (P := P) w 0 t e i z sz ht hi1 hi4 hi2 ka kc n hb hm (Nat.zero_le _)
  refine .inl ⟨_, w', ?_, rfl, ⟨?_, hf⟩, ⟨hg.os, hg.tape, hg.output, hg.size, fun k hk _ => hg.block k hk (by simp)⟩⟩
  · simp [exe, execOp, hx, hy, hr]
  · rcases hown.2 with ⟨h1, _⟩ | ⟨g, cap, cur, h1, _, h3, _, _, h6, h7⟩
    · cases h1
    · injection h1 with h1 _ hcap
      injection h1 with h1
      injection h1 with h1
      subst h1; subst hcap
      rw [List.take_of_length_le (by simp [h6])] at h7
      show w'.heap[w.heap.size]? = _
      rw [h3]
      congr 2
      apply Array.ext'
      rw [h7]
      exact made_flat hz hf n
/-- one more element at the end, in a row of the program's own -/
def OwnS (f : X → List Value) (sz : Nat) (w : World) (e : TypeId) (v : Value) (xs : List X) : Prop := w.ownsRow 0 e sz v xs.length (xs.flatMap f) ∧ ∀ y, (f y).length = sz
theorem OwnS.nil (f : X → List Value) (sz : Nat) (w : World) (e : TypeId) (hf : ∀ y, (f y).length = sz) : OwnS f sz w e (.slice none 0 0) [] := ⟨World.ownsRow_nil w 0 e sz, hf⟩
theorem OwnS.kp {w w' : World} {e : TypeId} {v : Value} (h : OwnS f sz w e v xs) {F : Nat → Prop} (k : Kp F w w') (hn : ∀ b, v.ownBlock = some b → ¬ F b) : OwnS f sz w' e v xs := by
  refine ⟨⟨h.1.1, ?_⟩, h.2⟩
  rcases h.1.2 with hn' | ⟨g, cap, cur, rfl, hb, hg, rest⟩
  · exact .inl hn'
  · exact .inr ⟨g, cap, cur, rfl, hb, k.get hg (hn g rfl), rest⟩
theorem OwnS.elts {w : World} {e : TypeId} {v : Value} (h : OwnS f sz w e v xs) (hne : xs ≠ []) : ∃ g cap, v = .slice (some ⟨g, 0, none⟩) xs.length cap ∧ Elts f sz w g 0 xs := by
  rcases h.1.2 with ⟨_, hn⟩ | ⟨g, cap, cur, hv, _, hg, _, _, hcs, ht⟩
  · exact absurd (List.eq_nil_of_length_eq_zero hn) hne
  · refine ⟨g, cap, hv, cur, e, (0, 0), hg, fun i x hx => ⟨h.2 x, ?_⟩⟩
    have hil : i < xs.length := (List.getElem?_eq_some_iff.1 hx).1
    have h1 : (cur.toList.take (xs.length * sz)).drop (i * sz) = (xs.drop i).flatMap f := by rw [ht, flat_drop h.2]
    rw [Nat.zero_add]
    have h2 : (cur.toList.drop (i * sz)).take sz = ((cur.toList.take (xs.length * sz)).drop (i * sz)).take sz := by
      rw [List.drop_take, List.take_take]
      congr 1
      have : i * sz + sz ≤ xs.length * sz := by have := Nat.mul_le_mul_right sz hil; rw [Nat.succ_mul] at this; exact this
      omega
    rw [h2, h1, List.drop_eq_getElem_cons hil, List.flatMap_cons, (List.getElem?_eq_some_iff.1 hx).2, List.take_append, h.2, List.take_of_length_le (by rw [h.2]; omega)]
    simp
theorem elts_cells {w : World} {xs : List X} (h : Elts f sz w b o xs) (hf : ∀ y, (f y).length = sz) : ∀ j u, (xs.flatMap f)[j]? = some u → w.cell? ((⟨b, o, none⟩ : Addr).add j) = some u := by
  obtain ⟨cs, T, fz, hb, h2⟩ := h
  intro j u hj
  rw [add_eq, cell_of hb]
  have hjl : j < xs.length * sz := by rw [← flat_len hf]; exact (List.getElem?_eq_some_iff.1 hj).1
  have hs : 0 < sz := by rcases Nat.eq_zero_or_pos sz with h | h; subst h; simp at hjl; exact h
  have hd : j / sz < xs.length := (Nat.div_lt_iff_lt_mul hs).2 hjl
  have hx := List.getElem?_eq_getElem hd
  obtain ⟨_, hc⟩ := h2 _ _ hx
  have hm : j % sz < sz := Nat.mod_lt _ hs
  have e1 : (xs.flatMap f)[j]? = (f xs[j / sz])[j % sz]? := by
    have h3 := flat_drop hf xs (j / sz)
    rw [List.drop_eq_getElem_cons hd, List.flatMap_cons] at h3
    have h4 : ((xs.flatMap f).drop (j / sz * sz))[j % sz]? = (xs.flatMap f)[j]? := by rw [List.getElem?_drop, Nat.div_add_mod']
    rw [← h4, h3, List.getElem?_append_left (by rw [hf]; exact hm)]
  rw [e1] at hj
  have h5 := take_get hc (k := j % sz) (by rw [hf]; exact hm)
  rw [Array.getElem?_toList, hj, Nat.add_assoc, Nat.div_add_mod'] at h5
  exact h5
theorem e_append {t e : TypeId} {bytes m cp : Nat} {z v : Value} {news : List X} (ht : SlcOf P t e) (hi : TyInfo P e sz bytes z) (hzs : z.cells.size = sz) (hs : 0 < sz) (hv : ev E a = v) (hown : OwnS f sz w e v xs) (hx : ev E c = .slice (some ⟨b, o, none⟩) m cp) (hm : m = news.length) (hel : Elts f sz w b o news)
    (h1 : ∀ y, ∀ u ∈ f y, u.oneCell' = true) (hb : (xs.length + news.length) * bytes ≤ 140737488355328) (hl : xs.length + news.length ≤ maxLen) :
    Eff P E (.call { callee := .builtin .append, args := #[a, c], argTypes := #[t, t] }) ty w fun u w' => OwnS f sz w' e u (xs ++ news) ∧ Kp (fun k => v.ownBlock = some k) w w' ∧ (u.ownBlock = v.ownBlock ∨ u.ownBlock = some w.heap.size) := by
  obtain ⟨i, hi1, hi2, hi3, hi4⟩ := hi.get
  subst hm
  obtain ⟨v', w', hr, ho, hg, hnil, hat⟩ := run_append_own_at (P := P) w 0 t ty e i z sz bytes ht hi1 hi4 hi2 hi3 hzs hs v xs.length (xs.flatMap f) hown.1 ⟨b, o, none⟩ news.length cp (news.flatMap f) (flat_len hown.2 news) (elts_cells hel hown.2)
    (fun u hu => by obtain ⟨y, _, hy⟩ := List.mem_flatMap.1 hu; exact h1 y u hy) hl hb (Nat.zero_le _)
  refine .inl ⟨v', w', ?_, ⟨?_, hown.2⟩, ⟨hg.os, hg.tape, hg.output, hg.size, fun k hk hn => hg.block k hk (fun e => hn e.symm)⟩, hat⟩
  · simp only [exe, execOp, resolve, invoke, builtin, Sem.run_bind, Sem.run_pure, Result.andThen_ok, List.map_toArray, List.map_cons, List.map_nil, hv, hx, hr]
  · rw [List.length_append, List.flatMap_append]; exact ho
end

/-! ### subslices -/
section
variable {P : Program} {W : World → Prop} {E : Env} {ty : TypeId} {x y : Operand} {w : World}
/-- what a bound says -/
def Bnd (E : Env) : Option Operand → Nat → Nat → Prop
  | none, d, n => n = d
  | some x, _, n => ∃ k : IntKind, ev E x = .int k n
theorem y_slice {t e : TypeId} {b o n c sz l h : Nat} {lo hi : Option Operand} {a' : Addr} (ht : SlcOf P t e) (he : TySz P e sz) (hx : ev E x = .slice (some ⟨b, o, none⟩) n c) (hlo : Bnd E lo 0 l) (hhi : Bnd E hi n h) (h1 : l ≤ h) (h2 : h ≤ c)
    (ha : a' = if c = l then ⟨b, o, none⟩ else ⟨b, o + l * sz, none⟩) : Yld P W E (.slice t x lo hi none) ty (.slice (some a') (h - l) (c - l)) := by
  intro w _
  have hs : (Instr.slice t (.slice (some ⟨b, o, none⟩) n c) (lo.map (ev E)) (hi.map (ev E)) none).run P w = .ok (.slice (some a') (h - l) (c - l)) w := by
    have hbh : (match hi.map (ev E) with | some v => Instr.sliceBound v c .sliceAcap | none => pure n : Sem Nat).run P w = .ok h w := by
      cases hi with
      | none => simp only [Bnd] at hhi; subst hhi; rfl
      | some q =>
        obtain ⟨k, hk⟩ := hhi
        simp only [Option.map_some, hk]
        have h3 : (0 : Int) ≤ h ∧ (h : Int) ≤ c := by omega
        simp [Instr.sliceBound, asIntOf, h2]
    have hbl : (match lo.map (ev E) with | some v => Instr.sliceBound v h .sliceB | none => pure 0 : Sem Nat).run P w = .ok l w := by
      cases lo with
      | none => simp only [Bnd] at hlo; subst hlo; rfl
      | some q =>
        obtain ⟨k, hk⟩ := hlo
        simp only [Option.map_some, hk]
        simp [Instr.sliceBound, asIntOf, h1]
    have ht' : P.underlying t = some (.slice e) := ht
    have hB : (Instr.sliceBounds true n c (lo.map (ev E)) (hi.map (ev E)) none).run P w = .ok (l, h, c) w := by
      unfold Instr.sliceBounds
      cases hi with
      | none =>
        simp only [Bnd] at hhi; subst hhi
        cases lo with
        | none => simp only [Bnd] at hlo; subst hlo; simp
        | some q => simp only [Option.map_some] at hbl; simp [hbl]
      | some q2 =>
        simp only [Option.map_some] at hbh
        cases lo with
        | none => simp only [Bnd] at hlo; subst hlo; simp [hbh]
        | some q => simp only [Option.map_some] at hbl; simp [hbh, hbl]
    unfold Instr.slice
    simp only [Sem.run_bind, run_und ht', Result.andThen_ok, hB, he w, Sem.run_pure]
    subst ha
    by_cases e : c = l
    · simp [e]
    · simp [e, add_eq]
  have ht' : P.underlying t = some (.slice e) := ht
  simp only [exe, execOp, Instr.sliceAt, Sem.run_bind, run_und ht', Result.andThen_ok, hx]
  simp only [Option.map_none] at hs ⊢
  rw [hs]; rfl
theorem y_slice3 {t e : TypeId} {b o n c sz l h m : Nat} {lo hi mx : Operand} {kl kh km : IntKind} (ht : SlcOf P t e) (he : TySz P e sz) (hx : ev E x = .slice (some ⟨b, o, none⟩) n c) (hlo : ev E lo = .int kl l) (hhi : ev E hi = .int kh h) (hmx : ev E mx = .int km m) (h1 : l ≤ h) (h2 : h ≤ m) (h3 : m ≤ c) :
    Yld P W E (.slice t x (some lo) (some hi) (some mx)) ty (.slice (some (if m = l then ⟨b, o, none⟩ else ⟨b, o + l * sz, none⟩)) (h - l) (m - l)) := by
  intro w _
  have ht' : P.underlying t = some (.slice e) := ht
  have hB : (Instr.sliceBounds true n c (some (.int kl l)) (some (.int kh h)) (some (.int km m))).run P w = .ok (l, h, m) w := by
    simp [Instr.sliceBounds, Instr.sliceBound, asIntOf, h1, h2, h3]
  simp only [exe, execOp, Instr.sliceAt, Sem.run_bind, run_und ht', Result.andThen_ok, hx, Option.map_some, hlo, hhi, hmx]
  unfold Instr.slice
  simp only [Sem.run_bind, run_und ht', Result.andThen_ok, hB, he w, Sem.run_pure]
  by_cases e : m = l
  · simp [e]
  · simp [e, add_eq]
theorem y_slice0 {t e : TypeId} {b o n c sz h : Nat} {hi : Operand} {k : IntKind} (ht : SlcOf P t e) (he : TySz P e sz) (hx : ev E x = .slice (some ⟨b, o, none⟩) n c) (hhi : ev E hi = .int k h) (h2 : h ≤ c) : Yld P W E (.slice t x none (some hi) none) ty (.slice (some ⟨b, o, none⟩) h c) := by
  have := y_slice (P := P) (W := W) (ty := ty) (lo := none) (hi := some hi) (l := 0) (a' := ⟨b, o, none⟩) ht he hx rfl ⟨k, hhi⟩ (Nat.zero_le _) h2 (by split <;> simp)
  exact this
theorem y_slice1 {t e : TypeId} {b o n c sz l : Nat} {lo : Operand} {k : IntKind} (ht : SlcOf P t e) (he : TySz P e sz) (hx : ev E x = .slice (some ⟨b, o, none⟩) n c) (hlo : ev E lo = .int k l) (h1 : l ≤ n) (h2 : n ≤ c) (h3 : l < c) : Yld P W E (.slice t x (some lo) none none) ty (.slice (some ⟨b, o + l * sz, none⟩) (n - l) (c - l)) :=
  y_slice (lo := some lo) (hi := none) ht he hx ⟨k, hlo⟩ rfl h1 h2 (by rw [if_neg (by omega)])
theorem y_slice2 {t e : TypeId} {b o n c sz l h : Nat} {lo hi : Operand} {k k' : IntKind} (ht : SlcOf P t e) (he : TySz P e sz) (hx : ev E x = .slice (some ⟨b, o, none⟩) n c) (hlo : ev E lo = .int k l) (hhi : ev E hi = .int k' h) (h1 : l ≤ h) (h2 : h ≤ c) (h3 : l < c) : Yld P W E (.slice t x (some lo) (some hi) none) ty (.slice (some ⟨b, o + l * sz, none⟩) (h - l) (c - l)) :=
  y_slice (lo := some lo) (hi := some hi) ht he hx ⟨k, hlo⟩ ⟨k', hhi⟩ h1 h2 (by rw [if_neg (by omega)])
/-- where a subslice begins -/
def so (o c l sz : Nat) : Nat := if c = l then o else o + l * sz
theorem y_slice1so {t e : TypeId} {b o n c sz l : Nat} {lo : Operand} {k : IntKind} (ht : SlcOf P t e) (he : TySz P e sz) (hx : ev E x = .slice (some ⟨b, o, none⟩) n c) (hlo : ev E lo = .int k l) (h1 : l ≤ n) (h2 : n ≤ c) : Yld P W E (.slice t x (some lo) none none) ty (.slice (some ⟨b, so o c l sz, none⟩) (n - l) (c - l)) :=
  y_slice (lo := some lo) (hi := none) ht he hx ⟨k, hlo⟩ rfl h1 h2 (by unfold so; split <;> rfl)
theorem elts_so {X : Type} {f : X → List Value} {sz b o c l : Nat} {xs : List X} (h : Elts f sz w b o xs) (hc : xs.length ≤ c) : Elts f sz w b (so o c l sz) (xs.drop l) := by
  unfold so
  split
  · rename_i e
    have : xs.drop l = [] := List.drop_of_length_le (by omega)
    rw [this]
    obtain ⟨cs, T, fz, hb, _⟩ := h
    exact ⟨cs, T, fz, hb, fun i x hx => by cases hx⟩
  · have := h.sub l (xs.drop l).length
    rwa [List.take_length] at this
/-- a slice of a whole array -/
theorem y_sliceA {t e : TypeId} {b o n sz : Nat} (ht : ArrOf P t n e) (he : TySz P e sz) (hx : ev E x = .pointer (some ⟨b, o, none⟩)) : Yld P W E (.slice t x none none none) ty (.slice (some ⟨b, o, none⟩) n n) := by
  intro w _
  have ht' : P.underlying t = some (.array n e) := ht
  have hB : (Instr.sliceBounds false n n none none none).run P w = .ok (0, n, n) w := by simp [Instr.sliceBounds]
  simp only [exe, execOp, Instr.sliceAt, Sem.run_bind, run_und ht', Result.andThen_ok, hx, Option.map_none, hB, Instr.sureAddr, Sem.run_pure, he w]
  simp [add_eq]
theorem y_cap {t e : TypeId} {a : Option Addr} {n c : Nat} (ht : SlcOf P t e) (h : ev E x = .slice a n c) : Yld P W E (.call { callee := .builtin .cap, args := #[x], argTypes := #[t] }) ty (.int .i64 c) := fun w _ => by
  have ht' : P.underlying t = some (.slice e) := ht
  rw [exe_builtin]
  simp [builtin, h, Builtin.cap_, run_und ht', goInt]

/-! ### integers once more -/
theorem y_remw {t t' : TypeId} {k : IntKind} {a b : Int} (hx : ev E x = .int k a) (hy : ev E y = .int k b) (hb : b ≠ 0) : Yld P W E (.binOp .rem t x y t') ty (.int k (a.tmod b)) := fun _ _ => by
  simp [exe, execOp, hx, hy, eqGuard, binOp, Op.intDiv, hb]
theorem y_conv {s d : TypeId} {k k' : IntKind} {n m : Int} (hd : P.underlying d = some (.int k)) (hs : ∃ ds, P.underlying s = some ds) (hx : ev E x = .int k' n) (hm : k.wrap n = m) : Yld P W E (.convert s d x) ty (.int k m) := fun w _ => by
  obtain ⟨ds, hs⟩ := hs
  simp only [exe, execOp, convert, Sem.run_bind, run_und hs, run_und hd, Result.andThen_ok, hx, Conv.intToInt, hm]
  cases ds <;> rfl
theorem y_and {t t' : TypeId} {k : IntKind} {a b : Int} (hx : ev E x = .int k a) (hy : ev E y = .int k b) : Yld P W E (.binOp .and t x y t') ty (.int k (k.wrap ((BitVec.ofInt k.bits a &&& BitVec.ofInt k.bits b).toNat))) := fun _ _ => by
  simp [exe, execOp, hx, hy, eqGuard, binOp, Op.intBits]
theorem y_xor {t t' : TypeId} {k : IntKind} {a b : Int} (hx : ev E x = .int k a) (hy : ev E y = .int k b) : Yld P W E (.binOp .xor t x y t') ty (.int k (k.wrap ((BitVec.ofInt k.bits a ^^^ BitVec.ofInt k.bits b).toNat))) := fun _ _ => by
  simp [exe, execOp, hx, hy, eqGuard, binOp, Op.intBits]
/-! strings -/
theorem y_strof {s d e : TypeId} {b o n c : Nat} {l : List UInt8} (hs : P.underlying s = some (.slice e)) (hd : P.underlying d = some .string) (he : P.underlying e = some (.int .u8)) (hx : ev E x = .slice (some ⟨b, o, none⟩) n c) (hn : l.length = n)
    (hb : ∀ w, W w → ∃ cs T fz, w.heap[b]? = some (.cells cs T fz) ∧ (cs.toList.drop o).take n = l.map u8) : Yld P W E (.convert s d x) ty (.string ⟨l.toArray⟩) := by
  intro w hw
  obtain ⟨cs, T, fz, hc, hl⟩ := hb w hw
  have hrow := run_loadRow (P := P) (w := w) (b := b) (o := o) (vs := l.map u8) (fun j v hj => by
    rw [cell_of hc]
    have hjl : j < (l.map u8).length := by
      rcases Nat.lt_or_ge j (l.map u8).length with h | h
      · exact h
      · rw [List.getElem?_eq_none h] at hj; cases hj
    rw [← Array.getElem?_toList, take_get hl hjl, hj])
  rw [List.length_map, hn] at hrow
  have h2 := run_bytesToString (P := P) w ⟨b, o, none⟩ n c (l.map fun u => Int.ofNat u.toNat) (by
    rw [hrow, List.map_map]; rfl)
  simp only [exe, execOp, convert, Sem.run_bind, run_und hs, run_und hd, run_und he, Result.andThen_ok, hx, h2]
  have h3 : ∀ (l : List UInt8) (a : Array UInt8), (l.map fun u => Int.ofNat u.toNat).foldl (fun (r : ByteArray) n => r.push (UInt8.ofNat n.toNat)) ⟨a⟩ = ⟨a ++ l.toArray⟩ := by
    intro l
    induction l with
    | nil => intro a; simp
    | cons u l ih =>
      intro a
      simp only [List.map_cons, List.foldl_cons]
      have e1 : (UInt8.ofNat (Int.toNat (Int.ofNat u.toNat))) = u := by simp
      rw [e1]
      have e2 : (ByteArray.push ⟨a⟩ u) = ⟨a.push u⟩ := rfl
      rw [e2, ih]
      congr 1
      apply Array.ext'
      simp
  have h4 := h3 l #[]
  have e3 : (⟨#[]⟩ : ByteArray) = ByteArray.empty := rfl
  rw [e3] at h4
  rw [h4]
  simp
theorem beq_bytes (s u : ByteArray) : (s.toList == u.toList) = decide (s = u) := by
  rw [ByteArray.toList_eq, ByteArray.toList_eq, Bool.eq_iff_iff, beq_iff_eq, decide_eq_true_iff]
  constructor
  · intro h
    cases s; cases u
    congr
    exact Array.ext' h
  · intro h; rw [h]
theorem y_neqS {t t' : TypeId} {s u : ByteArray} (hx : ev E x = .string s) (hy : ev E y = .string u) : Yld P W E (.binOp .neq t x y t') ty (.bool (decide (s ≠ u))) := fun _ _ => by
  have : (s.toList == u.toList) = decide (s = u) := beq_bytes s u
  simp [exe, execOp, hx, hy, eqGuard, binOp, Op.stringOp, this]
/-- a range over a string: where it stands -/
def SIter (w : World) (r : Nat) (s : ByteArray) (pos : Nat) : Prop := w.heap[r]? = some (.stringIter s pos)
theorem SIter.kp {w w' : World} {r : Nat} {s : ByteArray} {pos : Nat} (h : SIter w r s pos) {F : Nat → Prop} (k : Kp F w w') (hr : ¬ F r) : SIter w' r s pos := k.get h hr
theorem e_rangeS {t : TypeId} {s : ByteArray} (ht : P.underlying t = some .string) (hx : ev E x = .string s) : Eff P E (.range t x) ty w fun u w' => u = .pointer (some ⟨w.heap.size, 0, none⟩) ∧ SIter w' w.heap.size s 0 ∧ K0 w w' := by
  refine .inl ⟨_, w.alloc (.stringIter s 0), ?_, rfl, heap_new w _, Kp.alloc w _⟩
  simp only [exe, execOp, hx, Instr.range, Sem.run_bind, run_und ht, Result.andThen_ok]; simp
theorem e_nextS_done {r : Nat} {s : ByteArray} {pos : Nat} (h : SIter w r s pos) (hp : ¬ pos < s.size) (hx : ev E x = .pointer (some ⟨r, 0, none⟩)) : Eff P E (.next x true) ty w fun u w' => u = .tuple #[.bool false] ∧ K0 w w' := by
  refine .inl ⟨_, w, ?_, rfl, Kp.refl _ _⟩
  have hg : (getObj r).run P w = .ok (.stringIter s pos) w := by simp only [getObj, Sem.run]; rw [show w.heap[r]? = _ from h]
  simp only [exe, execOp, hx, Instr.next, Sem.run_bind, hg, Result.andThen_ok, if_neg hp, Sem.run_pure]
theorem e_nextS_more {r : Nat} {s : ByteArray} {pos : Nat} (h : SIter w r s pos) (hp : pos < s.size) (hx : ev E x = .pointer (some ⟨r, 0, none⟩)) : Eff P E (.next x true) ty w fun u w' => u = .tuple #[.bool true, .int .i64 pos, .int .i32 (Int.ofNat (Utf8.decode s pos).1)] ∧ SIter w' r s (pos + (Utf8.decode s pos).2) ∧ Kp (· = r) w w' := by
  have hg : (getObj r).run P w = .ok (.stringIter s pos) w := by simp only [getObj, Sem.run]; rw [show w.heap[r]? = _ from h]
  have hs : (setObj r (.stringIter s (pos + (Utf8.decode s pos).2))).run P w = .ok () { w with heap := w.heap.setIfInBounds r (.stringIter s (pos + (Utf8.decode s pos).2)) } := by simp only [setObj, Sem.run]; rw [show w.heap[r]? = _ from h]
  refine .inl ⟨_, { w with heap := w.heap.setIfInBounds r (.stringIter s (pos + (Utf8.decode s pos).2)) }, ?_, rfl, get_set h, kp_set w r _⟩
  simp only [exe, execOp, hx, Instr.next, Sem.run_bind, hg, Result.andThen_ok, if_pos hp, Sem.run_pure, hs]
  rfl
/-! a nil slice asked for -/
theorem eqIn_sn {t e : TypeId} {p : Addr} {n c : Nat} (d : Nat) (ht : P.underlying t = some (.slice e)) : (Op.equalIn (d + 1) t (.slice (some p) n c) (.slice none 0 0)).run P w = .ok false w := by simp [Op.equalIn, run_und ht]
theorem y_seq {t t' e : TypeId} {p : Addr} {n c : Nat} (ht : P.underlying t = some (.slice e)) (hx : ev E x = .slice (some p) n c) (hy : ev E y = .slice none 0 0) : Yld P W E (.binOp .eql t x y t') ty (.bool false) := fun _ _ => by
  simp [exe, execOp, hx, hy, eqGuard, binOp, Op.equal, Op.maxDepth, eqIn_sn 9999 ht]
end
end Go.V
