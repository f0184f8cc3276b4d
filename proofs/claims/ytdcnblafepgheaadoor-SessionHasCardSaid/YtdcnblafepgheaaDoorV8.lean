/-
  A heap's order over a list (container/heap's up and down), where each thing stands; a method called through an interface value; an assertion that holds. Of whatever program.
-/
import Derived.Test.YtdcnblafepgheaaDoorV5
namespace Go.V
open Go

section
variable {P : Program} {W : World → Prop} {E : Env} {ty : TypeId}
/-- a method of a listed type's value -/
def Met (P : Program) (t : TypeId) (name : String) (f : FuncId) : Prop := ∀ v args w, (callMethod (.iface t v) name args).run P w = .ok (.enter f (#[v] ++ args)) w
theorem e_invoke {f : FuncId} {t : TypeId} {name : String} {r : Operand} {v : Value} {xs : Array Operand} {ats : Array TypeId} {args : List Value} {w : World} {R : Value → World → Prop} (hm : Met P t name f) (hr : ev E r = .iface t v)
    (ha : xs.toList.map (ev E) = args) (h : Rets P f (v :: args).toArray w R) : Eff P E (.call { callee := .invoke r name, args := xs, argTypes := ats }) ty w R := by
  subst ha
  refine .inr (.inr ⟨f, (v :: xs.toList.map (ev E)).toArray, w, ?_, h⟩)
  have e1 : ∀ ys : Array Value, (#[Value.iface t v] ++ ys)[0]? = some (.iface t v) := fun ys => by rw [Array.getElem?_append]; rfl
  have e2 : ∀ ys : Array Value, (#[Value.iface t v] ++ ys).extract 1 (#[Value.iface t v] ++ ys).size = ys := fun ys => by
    apply Array.ext'; simp
  have e3 : #[v] ++ xs.map (ev E) = (v :: xs.toList.map (ev E)).toArray := by apply Array.ext'; simp
  rw [← e3, ← hm v (xs.map (ev E)) w]
  simp only [exe, execOp, resolve, hr, Sem.run_bind, Sem.run_pure, Result.andThen_ok, invoke]
  rw [e1, e2]
theorem y_assert {t xt : TypeId} {x : Operand} {v : Value} {d : TypeDesc} (hd : P.underlying t = some d) (hn : ∀ ms, d ≠ .interface ms) (h : ev E x = .iface t v) : Yld P W E (.typeAssert x xt t false) ty v := fun w _ => by
  have h1 := run_und hd w
  simp only [exe, execOp, h, Instr.typeAssert, Sem.run_bind, h1, Result.andThen_ok]
  cases d with
  | interface ms => exact absurd rfl (hn ms)
  | _ => simp
end

section
variable {K V : Type} {P : Program} {kt et T : TypeId} {kv : K → Value} {vv : V → Value} {good : K → Prop} {E : Env} {ty : TypeId} {x y z : Operand} {w : World}
/-- the map's entry of k is the one that bears s -/
def MapSl (kv : K → Value) (vv : V → Value) (good : K → Prop) (w : World) (b : Nat) (l : List (K × V)) (k : K) (s : Nat) : Prop :=
  ∃ (es : Array MapEntry) (clock j : Nat) (e : MapEntry) (v : V), w.heap[b]? = some (.map es clock) ∧ Ents kv vv good es clock l ∧ es[j]? = some e ∧ e.born = s ∧ l[j]? = some (k, v) ∧ good k
theorem MapSl.map {b : Nat} {l : List (K × V)} {k : K} {s : Nat} (h : MapSl kv vv good w b l k s) : MapAt kv vv good w b l := by
  obtain ⟨es, c, j, e, v, h1, h2, _⟩ := h; exact ⟨es, c, h1, h2⟩
theorem MapSl.k0 {b : Nat} {l : List (K × V)} {k : K} {s : Nat} {w' : World} (h : MapSl kv vv good w b l k s) (hk : K0 w w') : MapSl kv vv good w' b l k s := by
  obtain ⟨es, c, j, e, v, h1, h2⟩ := h; exact ⟨es, c, j, e, v, hk.get0 h1, h2⟩
theorem e_mapEntry [DecidableEq K] (L : KF P kt kv good) (hT : P.underlying T = some (.map kt et)) {b : Nat} {l : List (K × V)} (h : MapAt kv vv good w b l) (hx : ev E x = .map (some b)) {k : K} (hy : ev E y = kv k) (hk : good k) {v : V} (hv : aget l k = some v) :
    Eff P E (.mapEntry T x y) ty w fun u w' => ∃ s : Nat, u = .tuple #[vv v, .int .i64 s] ∧ MapSl kv vv good w' b l k s ∧ Kp (· = b) w w' := by
  obtain ⟨es, c, hb, he⟩ := h
  rcases L.at_ he hk w with ⟨h1, h2, h3⟩ | ⟨j, e, v0, h1, h4, h5, h6, h7, h2⟩
  · rw [h2] at hv; cases hv
  · rw [h2] at hv; cases hv
    have hj : es[j]? = some e := by simpa using h4
    have hm : es.modify j (fun e => { e with key := kv k }) = es := by
      apply Array.ext'
      rw [Array.toList_modify, Go.ChangeMaps.modify_eq_set _ _ _ _ h4]
      have : ({ e with key := kv k } : MapEntry) = e := by rw [← h5]
      rw [this]
      apply List.ext_getElem?; intro i
      rw [List.getElem?_set]
      split
      · rename_i e2; subst e2; rw [h4, if_pos (List.getElem?_eq_some_iff.1 h4).1]
      · rfl
    refine .inl ⟨.tuple #[vv v, goInt e.born], { w with heap := w.heap.setIfInBounds b (.map es c) }, ?_, e.born, rfl, ⟨es, c, j, e, v, get_set hb, he, hj, rfl, h7, hk⟩, kp_set w b _⟩
    have hr : (Instr.mapEntry T (.map (some b)) (kv k)).run P w = .ok (.tuple #[vv v, goInt e.born]) { w with heap := w.heap.setIfInBounds b (.map es c) } := by
      simp only [Instr.mapEntry, Sem.run_bind, run_und hT, Result.andThen_ok, run_getMap hb, L.check w _ hk, h1, hj, Option.map_some, Option.getD_some, h5, L.stays w hk, hm, run_setMap hb, Sem.run_pure]
    simp [exe, execOp, hx, hy, hr]
theorem e_entryStore [DecidableEq K] {b : Nat} {l : List (K × V)} {k : K} {s : Nat} (h : MapSl kv vv good w b l k s) (hx : ev E x = .map (some b)) (hy : ev E y = .int .i64 s) {v : V} (hz : ev E z = vv v) :
    Eff P E (.entryStore T x y z) ty w fun _ w' => MapAt kv vv good w' b (aset l k v) ∧ Kp (· = b) w w' := by
  obtain ⟨es, c, j, e, v0, hb, he, hj, hs, hl, hk⟩ := h
  have h4 : es.toList[j]? = some e := by simpa using hj
  have hkv : e.key = kv k := by
    obtain ⟨p, hp, hpk, _⟩ := he.get h4
    rw [hl] at hp; cases hp; exact hpk
  have hf : es.findIdx? (fun e => (e.born : Int) == (s : Int)) = some j := by
    rw [Array.findIdx?_eq_some_iff_getElem]
    obtain ⟨hjl, hje⟩ := Array.getElem?_eq_some_iff.1 hj
    refine ⟨hjl, by rw [hje, hs]; simp, fun i hi => ?_⟩
    intro hc
    have hc' : es[i].born = s := by have := beq_iff_eq.1 hc; omega
    have hn := he.st.2.1
    have hil : i < es.size := by omega
    have e1 : (es.toList.map (·.born))[i]? = some s := by rw [List.getElem?_map]; simp [hil, hc']
    have e2 : (es.toList.map (·.born))[j]? = some s := by rw [List.getElem?_map, h4]; simp [hs]
    have := (List.getElem?_inj (by simpa using hil) hn).1 (e1.trans e2.symm)
    omega
  have hr : (Instr.entryStore T (.map (some b)) (.int .i64 s) (vv v)).run P w = .ok () { w with heap := w.heap.setIfInBounds b (.map (es.modify j fun e => { e with val := vv v }) c) } := by
    simp only [Instr.entryStore, Sem.run_bind, Result.andThen_ok, run_getMap hb, asInt, asIntOf, Sem.run_pure, hf, run_setMap hb]
  refine .inr (.inl ⟨_, by simp [exe, execOp, hx, hy, hz, hr]; rfl, ⟨_, _, get_set hb, ?_⟩, kp_set w b _⟩)
  refine ⟨?_, MapKept.stamped_modify he.st _ _ (fun _ _ => rfl) (fun e' _ _ => rfl), ?_⟩
  · rw [aset_at he.nodup hl, Array.toList_modify, Go.ChangeMaps.modify_eq_set _ _ _ _ h4, List.map_set, List.map_set, he.eq]
    rw [hkv]
  · rw [aset_at he.nodup hl]
    intro p hp
    rcases List.mem_or_eq_of_mem_set hp with hp | rfl
    · exact he.good p hp
    · exact hk
theorem y_quow {W : World → Prop} {t t' : TypeId} {k : IntKind} {a b : Int} (hx : ev E x = .int k a) (hy : ev E y = .int k b) (hb : b ≠ 0) : Yld P W E (.binOp .quo t x y t') ty (.int k (k.wrap (a.tdiv b))) := fun _ _ => by
  simp [exe, execOp, hx, hy, eqGuard, binOp, Op.intDiv, hb]
theorem y_quo {W : World → Prop} {t t' : TypeId} {a b c : Int} (hx : ev E x = .int .i64 a) (hy : ev E y = .int .i64 b) (hb : b ≠ 0) (hc : a.tdiv b = c) (hr : -9223372036854775808 ≤ c ∧ c ≤ 9223372036854775807) : Yld P W E (.binOp .quo t x y t') ty (.int .i64 c) := by
  have := y_quow (P := P) (W := W) (ty := ty) (t := t) (t' := t') hx hy hb
  rwa [hc, wrap_i64 hr] at this
end

section
variable {X : Type} {P : Program} {f : X → List Value} {sz g cap i : Nat} {T : TypeId} {w : World} {xs : List X} {E : Env} {ty : TypeId} {a c : Operand}
/-- one element stored in a row with room -/
theorem e_storeC {t : TypeId} {y : X} (hx : ev E a = .pointer (some ⟨g, 0 + i * sz, none⟩)) (hy : ev E c = .agg (f y).toArray) (hs : TySz P t sz) (hb : OwnC f sz w g T cap xs) (hi : i < xs.length) (h1 : ∀ y, ∀ v ∈ f y, v.oneCell' = true) :
    Eff P E (.store t a c) ty w fun _ w' => OwnC f sz w' g T cap (xs.set i y) ∧ Kp (· = g) w w' := by
  have hle := hb.le
  obtain ⟨w', hr, hb', hk⟩ := run_storeC (P := P) (news := [y]) hb i (by omega) (by simp only [List.length_singleton]; omega) h1
  rw [show xs.take i ++ [y] ++ xs.drop (i + [y].length) = xs.set i y from set_splice xs i y hi] at hb'
  refine .inr (.inl ⟨w', ?_, hb', hk⟩)
  have hf : ([y].flatMap f) = f y := by simp
  rw [hf] at hr
  simp only [exe, execOp, hx, hy, Nat.zero_add, Sem.run_bind, Instr.storeAt, Instr.sureAddr, storeVar, hs w, Sem.run_pure, Result.andThen_ok]
  simp [Value.cells, hb.len y, hr]
/-- one cell of an element -/
theorem e_storeCf {t : TypeId} {x y : X} {k : Nat} {v : Value} (hx : ev E a = .pointer (some ⟨g, 0 + i * sz + k, none⟩)) (hy : ev E c = v) (hs : TySz P t 1) (hb : OwnC f sz w g T cap xs) (hi : xs[i]? = some x) (hk : k < sz) (hc : v.cells = #[v]) (h1 : v.oneCell' = true) (he : (f x).set k v = f y) :
    Eff P E (.store t a c) ty w fun _ w' => OwnC f sz w' g T cap (xs.set i y) ∧ Kp (· = g) w w' := by
  obtain ⟨cur, hbl, hcs, hxl, hcm, ht, hf⟩ := hb
  have hil : i < xs.length := (List.getElem?_eq_some_iff.1 hi).1
  have hle : i * sz + sz ≤ xs.length * sz := by have := Nat.mul_le_mul_right sz hil; rw [Nat.succ_mul] at this; exact this
  have hle2 : xs.length * sz ≤ cap * sz := Nat.mul_le_mul_right _ hxl
  obtain ⟨w', hr, hb', hkp⟩ := run_storeCells (P := P) [v] (i * sz + k) 0 _ w hbl (by simp only [Nat.add_zero, List.size_toArray, List.length_singleton, hcs]; omega) (by simpa using h1)
  refine .inr (.inl ⟨w', ?_, ⟨cur.set (i * sz + k) v, ?_, by simpa using hcs, by simpa using hxl, hcm, ?_, hf⟩, hkp⟩)
  · simp only [exe, execOp, hx, hy, Nat.zero_add, Sem.run_bind, Instr.storeAt, Instr.sureAddr, storeVar, hs w, Sem.run_pure, Result.andThen_ok, hc]
    simp [hr]
  · rw [Nat.add_zero, splice_one _ _ _ (by simp only [List.size_toArray, hcs]; omega)] at hb'
    simpa using hb'
  · rw [List.length_set, List.take_set, ht, ← set_splice xs i y hil]
    simp only [List.flatMap_append, List.flatMap_cons, List.flatMap_nil, List.append_nil]
    have h2 : xs.flatMap f = (xs.take i).flatMap f ++ (f x ++ (xs.drop (i + 1)).flatMap f) := by
      conv => lhs; rw [← List.take_append_drop i xs]
      rw [List.flatMap_append, List.drop_eq_getElem_cons hil, List.flatMap_cons, (List.getElem?_eq_some_iff.1 hi).2]
    rw [h2]
    have hl1 : ((xs.take i).flatMap f).length = i * sz := by rw [flat_len hf, List.length_take, Nat.min_eq_left (Nat.le_of_lt hil)]
    rw [List.set_append, hl1, if_neg (by omega), show i * sz + k - i * sz = k by omega, List.set_append, if_pos (by rw [hf]; exact hk), he]
    simp
/-- append to a row with room, or to one that is none yet -/
theorem e_appendC {t : TypeId} {bytes m cp b o n k : Nat} {z : Value} {news : List X} (ht : SlcOf P t T) (hi : TyInfo P T sz bytes z) (hzs : z.cells.size = sz) (hs : 0 < sz) (hv : ev E a = .slice (some ⟨g, 0, none⟩) n cap) (hn : n = xs.length) (hown : OwnC f sz w g T cap xs) (hx : ev E c = .slice (some ⟨b, o, none⟩) m cp) (hm : m = news.length) (hel : Elts f sz w b o news)
    (h1 : ∀ y, ∀ u ∈ f y, u.oneCell' = true) (hb : (xs.length + news.length) * bytes ≤ 140737488355328) (hl : xs.length + news.length ≤ maxLen) (hne : news ≠ []) (hk : k = xs.length + news.length) :
    Eff P E (.call { callee := .builtin .append, args := #[a, c], argTypes := #[t, t] }) ty w fun u w' => ∃ g' cap', u = .slice (some ⟨g', 0, none⟩) k cap' ∧ OwnC f sz w' g' T cap' (xs ++ news) ∧ (g = g' ∨ w.heap.size = g') ∧ Kp (· = g) w w' := by
  subst hn
  refine (e_append (v := .slice (some ⟨g, 0, none⟩) xs.length cap) ht hi hzs hs hv hown.ownS hx hm hel h1 hb hl).mono fun u w' ⟨h2, h3, h4⟩ => ?_
  obtain ⟨g', cap', rfl, ho⟩ := h2.ownC (by simp [hne])
  refine ⟨g', cap', by rw [hk, List.length_append], ho, ?_, h3.mono fun i _ e => ?_⟩
  · rcases h4 with h4 | h4
    · left; exact (by simpa [Value.ownBlock] using h4 : g' = g).symm
    · right; exact (by simpa [Value.ownBlock] using h4 : g' = w.heap.size).symm
  · have e : (Value.slice (some ⟨g, 0, none⟩) xs.length cap).ownBlock = some i := e
    simp [Value.ownBlock] at e
    exact e.symm
theorem e_append0 {t : TypeId} {bytes m cp b o : Nat} {z : Value} {news : List X} (ht : SlcOf P t T) (hi : TyInfo P T sz bytes z) (hzs : z.cells.size = sz) (hs : 0 < sz) (hf : ∀ y, (f y).length = sz) (hv : ev E a = .slice none 0 0) (hx : ev E c = .slice (some ⟨b, o, none⟩) m cp) (hm : m = news.length) (hel : Elts f sz w b o news)
    (h1 : ∀ y, ∀ u ∈ f y, u.oneCell' = true) (hb : news.length * bytes ≤ 140737488355328) (hl : news.length ≤ maxLen) (hne : news ≠ []) :
    Eff P E (.call { callee := .builtin .append, args := #[a, c], argTypes := #[t, t] }) ty w fun u w' => ∃ g' cap', u = .slice (some ⟨g', 0, none⟩) news.length cap' ∧ OwnC f sz w' g' T cap' news ∧ w.heap.size = g' ∧ K0 w w' := by
  refine (e_append (v := .slice none 0 0) (xs := ([] : List X)) ht hi hzs hs hv (OwnS.nil f sz w T hf) hx hm hel h1 (by simpa using hb) (by simpa using hl)).mono fun u w' ⟨h2, h3, h4⟩ => ?_
  obtain ⟨g', cap', rfl, ho⟩ := h2.ownC (by simp [hne])
  refine ⟨g', cap', rfl, ho, ?_, h3.mono fun i _ e => ?_⟩
  · rcases h4 with h4 | h4
    · simp [Value.ownBlock] at h4
    · exact (by simpa [Value.ownBlock] using h4 : g' = w.heap.size).symm
  · have e : (Value.slice none 0 0).ownBlock = some i := e
    simp [Value.ownBlock] at e
end

def ahd (a b : Thing) : Prop := a.due < b.due ∨ (a.due = b.due ∧ a.id < b.id)
instance (a b : Thing) : Decidable (ahd a b) := by unfold ahd; infer_instance
theorem ahd_asymm {a b : Thing} (h : ahd a b) : ¬ ahd b a := by unfold ahd at *; omega
/-- a ≤ b ≤ c -/
theorem nahd_trans {a b c : Thing} (h1 : ¬ ahd b a) (h2 : ¬ ahd c b) : ¬ ahd c a := by unfold ahd at *; omega
theorem nahd_irrefl (a : Thing) : ¬ ahd a a := by unfold ahd; omega
def ix (l : List Thing) (i : Nat) : Thing := l.getD i ⟨0, 0⟩
theorem ix_some {l : List Thing} {i : Nat} {x : Thing} (h : l[i]? = some x) : ix l i = x := by unfold ix; simp [List.getD_eq_getElem?_getD, h]
theorem some_ix {l : List Thing} {i : Nat} (h : i < l.length) : l[i]? = some (ix l i) := by unfold ix; simp [List.getD_eq_getElem?_getD, h]
theorem ix_mem {l : List Thing} {i : Nat} (h : i < l.length) : ix l i ∈ l := List.mem_of_getElem? (some_ix h)
theorem mem_ix {l : List Thing} {x : Thing} (h : x ∈ l) : ∃ i, i < l.length ∧ ix l i = x := by
  obtain ⟨i, hi, e⟩ := List.getElem_of_mem h
  exact ⟨i, hi, ix_some (by rw [← e]; exact List.getElem?_eq_getElem hi)⟩
theorem ix_ext {l l' : List Thing} (hl : l.length = l'.length) (h : ∀ i, i < l.length → ix l i = ix l' i) : l = l' := by
  apply List.ext_getElem? ; intro i
  by_cases hi : i < l.length
  · rw [some_ix hi, some_ix (hl ▸ hi), h i hi]
  · rw [List.getElem?_eq_none (by omega), List.getElem?_eq_none (by omega)]
def swpL (l : List Thing) (i j : Nat) : List Thing := (l.set i (ix l j)).set j (ix l i)
theorem swpL_len (l : List Thing) (i j : Nat) : (swpL l i j).length = l.length := by simp [swpL]
theorem ix_set (l : List Thing) (i k : Nat) (x : Thing) (hi : i < l.length) : ix (l.set i x) k = if k = i then x else ix l k := by
  unfold ix
  rw [List.getD_eq_getElem?_getD, List.getD_eq_getElem?_getD, List.getElem?_set]
  by_cases h : k = i
  · subst h; simp [hi]
  · rw [if_neg (fun e => h e.symm), if_neg h]
theorem ix_swp {l : List Thing} {i j : Nat} (hi : i < l.length) (hj : j < l.length) (k : Nat) : ix (swpL l i j) k = if k = j then ix l i else if k = i then ix l j else ix l k := by
  unfold swpL
  rw [ix_set _ _ _ _ (by simpa using hj), ix_set _ _ _ _ hi]
theorem swpL_perm {l : List Thing} {i j : Nat} (hi : i < l.length) (hj : j < l.length) : (swpL l i j).Perm l := by
  have e1 : ix l j = l[j] := ix_some (List.getElem?_eq_getElem hj)
  have e2 : ix l i = l[i] := ix_some (List.getElem?_eq_getElem hi)
  unfold swpL
  rw [e1, e2]
  exact List.set_set_perm hi hj
def HeapN (l : List Thing) (n : Nat) : Prop := ∀ k, 0 < k → k < n → ¬ ahd (ix l k) (ix l ((k - 1) / 2))
def UpI (l : List Thing) (n j : Nat) : Prop :=
  (∀ k, 0 < k → k < n → k ≠ j → ¬ ahd (ix l k) (ix l ((k - 1) / 2))) ∧ (∀ k, 0 < k → k < n → (k - 1) / 2 = j → 0 < j → ¬ ahd (ix l k) (ix l ((j - 1) / 2)))
theorem UpI.done {l : List Thing} {n j : Nat} (h : UpI l n j) (hj : j = 0 ∨ ¬ ahd (ix l j) (ix l ((j - 1) / 2))) : HeapN l n := fun k h0 hk => by
  by_cases e : k = j
  · subst e
    rcases hj with e | e
    · omega
    · exact e
  · exact h.1 k h0 hk e
theorem UpI.step {l : List Thing} {n j : Nat} (h : UpI l n j) (hn : n ≤ l.length) (hj : j < n) (h0 : 0 < j) (ha : ahd (ix l j) (ix l ((j - 1) / 2))) : UpI (swpL l ((j - 1) / 2) j) n ((j - 1) / 2) := by
  obtain ⟨p, hp⟩ : ∃ p, p = (j - 1) / 2 := ⟨_, rfl⟩
  have hpj : p < j := by omega
  have sw : ∀ k, ix (swpL l p j) k = if k = j then ix l p else if k = p then ix l j else ix l k := ix_swp (by omega) (by omega)
  rw [← hp] at ha ⊢
  refine ⟨fun k hk hkn hkp => ?_, fun k hk hkn hkp hp0 => ?_⟩
  · rw [sw, sw]
    by_cases e1 : k = j
    · subst e1
      rw [if_pos rfl, ← hp, if_neg (by omega), if_pos rfl]
      exact ahd_asymm ha
    · rw [if_neg e1, if_neg hkp]
      by_cases e2 : (k - 1) / 2 = j
      · rw [if_pos e2, hp]
        exact h.2 k hk hkn e2 h0
      · rw [if_neg e2]
        by_cases e3 : (k - 1) / 2 = p
        · rw [if_pos e3]
          have h1 := h.1 k hk hkn e1
          rw [e3] at h1
          exact nahd_trans (ahd_asymm ha) h1
        · rw [if_neg e3]
          exact h.1 k hk hkn e1
  · have hpp : (p - 1) / 2 < p := by omega
    rw [sw k, sw ((p - 1) / 2), if_neg (show ¬ (p - 1) / 2 = j by omega), if_neg (show ¬ (p - 1) / 2 = p by omega)]
    have h2 := h.1 p hp0 (by omega) (by omega)
    by_cases e1 : k = j
    · rw [if_pos e1]; exact h2
    · rw [if_neg e1, if_neg (by omega)]
      have h1 := h.1 k hk hkn e1
      rw [hkp] at h1
      exact nahd_trans h2 h1
/-- mv: has anything been moved yet? -/
def DownI (l : List Thing) (n i : Nat) (mv : Prop) : Prop :=
  (∀ k, 0 < k → k < n → (k - 1) / 2 ≠ i → (k = i → mv) → ¬ ahd (ix l k) (ix l ((k - 1) / 2))) ∧ (∀ k, 0 < k → k < n → (k - 1) / 2 = i → 0 < i → ¬ ahd (ix l k) (ix l ((i - 1) / 2)))
theorem DownI.step {l : List Thing} {n i j : Nat} {mv : Prop} (h : DownI l n i mv) (hn : n ≤ l.length) (hj : j < n) (h0 : 0 < j) (hji : (j - 1) / 2 = i) (ha : ahd (ix l j) (ix l i)) (ho : ∀ k, 0 < k → k < n → (k - 1) / 2 = i → ¬ ahd (ix l k) (ix l j)) : DownI (swpL l i j) n j True := by
  have hij : i < j := by omega
  have sw : ∀ k, ix (swpL l i j) k = if k = j then ix l i else if k = i then ix l j else ix l k := ix_swp (by omega) (by omega)
  refine ⟨fun k hk hkn hkp _ => ?_, fun k hk hkn hkp _ => ?_⟩
  · rw [sw, sw, if_neg hkp]
    by_cases e1 : k = j
    · subst e1
      rw [if_pos rfl, if_pos hji]
      exact ahd_asymm ha
    · rw [if_neg e1]
      by_cases e2 : k = i
      · subst e2
        rw [if_pos rfl, if_neg (show ¬ (k - 1) / 2 = k by omega)]
        exact h.2 j h0 hj hji hk
      · rw [if_neg e2]
        by_cases e3 : (k - 1) / 2 = i
        · rw [if_pos e3]; exact ho k hk hkn e3
        · rw [if_neg e3]; exact h.1 k hk hkn e3 fun e => absurd e e2
  · rw [sw, sw, if_neg (show ¬ k = j by omega), if_neg (show ¬ k = i by omega), hji, if_neg (show ¬ i = j by omega), if_pos rfl]
    have := h.1 k hk hkn (by omega) (fun e => by omega)
    rwa [hkp] at this
theorem DownI.up {l : List Thing} {n i : Nat} {mv : Prop} (h : DownI l n i mv) (hc : ∀ k, 0 < k → k < n → (k - 1) / 2 = i → ¬ ahd (ix l k) (ix l i)) : UpI l n i := by
  refine ⟨fun k hk hkn hki => ?_, h.2⟩
  by_cases e : (k - 1) / 2 = i
  · rw [e]; exact hc k hk hkn e
  · exact h.1 k hk hkn e fun e2 => absurd e2 hki
theorem DownI.done {l : List Thing} {n i : Nat} {mv : Prop} (h : DownI l n i mv) (hm : mv) (hc : ∀ k, 0 < k → k < n → (k - 1) / 2 = i → ¬ ahd (ix l k) (ix l i)) : HeapN l n := fun k hk hkn => by
  by_cases e : (k - 1) / 2 = i
  · rw [e]; exact hc k hk hkn e
  · exact h.1 k hk hkn e fun _ => hm
/-- the first is the least -/
theorem HeapN.least {l : List Thing} {n : Nat} (h : HeapN l n) : ∀ k, k < n → ¬ ahd (ix l k) (ix l 0) := by
  intro k
  induction k using Nat.strongRecOn with
  | _ k ih =>
    intro hk
    by_cases e : k = 0
    · subst e; exact nahd_irrefl _
    · exact nahd_trans (ih ((k - 1) / 2) (by omega) (by omega)) (h k (by omega) hk)
/-- an element set anew at i: the heap but for i -/
theorem HeapN.setI {l : List Thing} {n i : Nat} (h : HeapN l n) (hi : i < n) (hn : n ≤ l.length) (x : Thing) : DownI (l.set i x) n i False := by
  have sw : ∀ k, ix (l.set i x) k = if k = i then x else ix l k := fun k => ix_set l i k x (by omega)
  refine ⟨fun k hk hkn hkp hki => ?_, fun k hk hkn hkp h0 => ?_⟩
  · rw [sw, sw, if_neg hkp, if_neg (fun e => hki e)]
    exact h k hk hkn
  · rw [sw, sw, if_neg (show ¬ k = i by omega), if_neg (show ¬ (i - 1) / 2 = i by omega)]
    have h1 := h k hk hkn
    rw [hkp] at h1
    exact nahd_trans (h i h0 hi) h1
theorem DownI.congr {l l' : List Thing} {n i : Nat} {mv : Prop} (h : DownI l n i mv) (hi : i < n) (e : ∀ k, k < n → ix l' k = ix l k) : DownI l' n i mv :=
  ⟨fun k hk hkn h1 h2 => by rw [e k hkn, e _ (by omega)]; exact h.1 k hk hkn h1 h2, fun k hk hkn h1 h2 => by rw [e k hkn, e _ (by omega)]; exact h.2 k hk hkn h1 h2⟩
/-- the last put at i -/
theorem HeapN.swpI {l : List Thing} {n i : Nat} (h : HeapN l (n + 1)) (hi : i < n) (hn : n < l.length) : DownI (swpL l i n) n i False :=
  (HeapN.setI (l := l) (n := n) (fun k h0 hk => h k h0 (by omega)) hi (by omega) (ix l n)).congr hi fun k hk => by
    rw [ix_swp (by omega) hn, ix_set _ _ _ _ (by omega), if_neg (by omega)]
theorem drop_ix {l l' : List Thing} {n : Nat} (h : l'.drop n = l.drop n) (hn : n < l.length) : ix l' n = ix l n := by
  have h1 := some_ix hn
  have h2 : l'[n]? = l[n]? := by
    have e1 : (l'.drop n)[0]? = (l.drop n)[0]? := by rw [h]
    simpa using e1
  rw [h1] at h2
  exact ix_some h2
theorem take_last {l : List Thing} {n : Nat} (hn : l.length = n + 1) : l.take n ++ [ix l n] = l := by
  have h1 : l[n]? = some (ix l n) := some_ix (by omega)
  apply List.ext_getElem?
  intro k
  rw [List.getElem?_append, List.length_take, Nat.min_eq_left (by omega)]
  by_cases hk : k < n
  · rw [if_pos hk, List.getElem?_take, if_pos hk]
  · rw [if_neg hk]
    by_cases hk2 : k = n
    · subst hk2; simp [h1]
    · rw [List.getElem?_eq_none (by simp; omega), List.getElem?_eq_none (by omega)]
theorem HeapN.mono {l : List Thing} {n m : Nat} (h : HeapN l n) (hm : m ≤ n) : HeapN l m := fun k hk hkm => h k hk (by omega)
theorem HeapN.congr {l l' : List Thing} {n : Nat} (h : HeapN l n) (e : ∀ k, k < n → ix l' k = ix l k) : HeapN l' n := fun k hk hkn => by rw [e k hkn, e _ (by omega)]; exact h k hk hkn
theorem HeapN.take {l : List Thing} {n m : Nat} (h : HeapN l n) (hm : n ≤ m) : HeapN (l.take m) n := h.congr fun k hk => by
  unfold ix; simp only [List.getD_eq_getElem?_getD, List.getElem?_take]; rw [if_pos (by omega)]
theorem UpI.push {l : List Thing} (h : HeapN l l.length) (x : Thing) : UpI (l ++ [x]) (l ++ [x]).length l.length := by
  have e : ∀ k, k < l.length → ix (l ++ [x]) k = ix l k := fun k hk => by unfold ix; simp [List.getD_eq_getElem?_getD, List.getElem?_append_left hk]
  refine ⟨fun k hk hkn hkj => ?_, fun k hk hkn hkp _ => ?_⟩
  · simp at hkn
    rw [e k (by omega), e _ (by omega)]; exact h k hk (by omega)
  · simp at hkn; omega
/-- where each stands -/
structure PosOK (l : List Thing) (m : List (Int × Int)) : Prop where
  fwd : ∀ i, i < l.length → aget m (ix l i).id = some (i : Int)
  back : ∀ k v, aget m k = some v → ∃ i, i < l.length ∧ (ix l i).id = k
theorem PosOK.inj {l : List Thing} {m : List (Int × Int)} (h : PosOK l m) {i j : Nat} (hi : i < l.length) (hj : j < l.length) (e : (ix l i).id = (ix l j).id) : i = j := by
  have h1 := h.fwd i hi; have h2 := h.fwd j hj
  rw [e, h2] at h1; injection h1 with h1; omega
theorem PosOK.nil : PosOK [] [] := ⟨fun i hi => absurd hi (by simp), fun k v h => by simp [aget] at h⟩
theorem PosOK.swap {l : List Thing} {m : List (Int × Int)} (h : PosOK l m) {i j : Nat} (hi : i < l.length) (hj : j < l.length) : PosOK (swpL l i j) (aset (aset m (ix (swpL l i j) i).id (i : Int)) (ix (swpL l i j) j).id (j : Int)) := by
  have sw := ix_swp hi hj
  have hij : ix (swpL l i j) j = ix l i := by rw [sw, if_pos rfl]
  have hii : ix (swpL l i j) i = ix l j := by
    rw [sw]; split
    · rename_i e; rw [e]
    · rw [if_pos rfl]
  rw [hij, hii]
  refine ⟨fun k hk => ?_, fun k v hv => ?_⟩
  · rw [swpL_len] at hk
    rw [sw, aget_aset, aget_aset]
    by_cases e1 : k = j
    · rw [if_pos e1, if_pos rfl, e1]
    · rw [if_neg e1]
      by_cases e2 : k = i
      · rw [if_pos e2, e2]
        by_cases e3 : (ix l i).id = (ix l j).id
        · have := h.inj hi hj e3; omega
        · rw [if_neg e3, if_pos rfl]
      · rw [if_neg e2, if_neg (fun e => e2 (h.inj hi hk e).symm), if_neg (fun e => e1 (h.inj hj hk e).symm)]
        exact h.fwd k hk
  · rw [aget_aset, aget_aset] at hv
    rw [swpL_len]
    split at hv
    · rename_i e; exact ⟨j, hj, by rw [hij]; exact e⟩
    · split at hv
      · rename_i e; exact ⟨i, hi, by rw [hii]; exact e⟩
      · obtain ⟨x, hx, hxe⟩ := h.back k v hv
        by_cases e1 : x = i
        · exact ⟨j, hj, by rw [hij, ← e1]; exact hxe⟩
        · by_cases e2 : x = j
          · exact ⟨i, hi, by rw [hii, ← e2]; exact hxe⟩
          · exact ⟨x, hx, by rw [sw, if_neg e2, if_neg e1]; exact hxe⟩
theorem ix_app {l : List Thing} {x : Thing} (k : Nat) (hk : k < l.length) : ix (l ++ [x]) k = ix l k := by unfold ix; simp [List.getD_eq_getElem?_getD, List.getElem?_append_left hk]
theorem ix_last (l : List Thing) (x : Thing) : ix (l ++ [x]) l.length = x := by unfold ix; simp [List.getD_eq_getElem?_getD]
theorem PosOK.push {l : List Thing} {m : List (Int × Int)} (h : PosOK l m) {x : Thing} (hx : aget m x.id = none) : PosOK (l ++ [x]) (m ++ [(x.id, (l.length : Int))]) := by
  have hs : ∀ k, aget (m ++ [(x.id, (l.length : Int))]) k = if x.id = k then some (l.length : Int) else aget m k := fun k => by rw [← aset_new _ hx, aget_aset]
  refine ⟨fun i hi => ?_, fun k v hv => ?_⟩
  · simp at hi
    rw [hs]
    by_cases e : i = l.length
    · rw [e, ix_last, if_pos rfl]
    · rw [ix_app i (by omega), if_neg, h.fwd i (by omega)]
      intro e2
      rw [e2, h.fwd i (by omega)] at hx; cases hx
  · rw [hs] at hv
    split at hv
    · rename_i e; exact ⟨l.length, by simp, by rw [ix_last]; exact e⟩
    · obtain ⟨i, hi, e⟩ := h.back k v hv
      exact ⟨i, by simp; omega, by rw [ix_app i hi]; exact e⟩
theorem ix_take {l : List Thing} {n k : Nat} (hk : k < n) : ix (l.take n) k = ix l k := by
  unfold ix; simp only [List.getD_eq_getElem?_getD, List.getElem?_take]; rw [if_pos hk]
theorem PosOK.pop {l : List Thing} {m : List (Int × Int)} (h : PosOK l m) {n : Nat} (hn : l.length = n + 1) : PosOK (l.take n) (adel m (ix l n).id) := by
  refine ⟨fun i hi => ?_, fun k v hv => ?_⟩
  · simp at hi
    rw [ix_take (by omega), aget_adel, if_neg, h.fwd i (by omega)]
    intro e
    have := h.inj (i := n) (j := i) (by omega) (by omega) e
    omega
  · rw [aget_adel] at hv
    split at hv
    · cases hv
    · rename_i hne
      obtain ⟨i, hi, e⟩ := h.back k v hv
      refine ⟨i, ?_, ?_⟩
      · simp
        have : i ≠ n := fun e2 => hne (by rw [← e2]; exact e)
        omega
      · rw [ix_take]; exact e
        have : i ≠ n := fun e2 => hne (by rw [← e2]; exact e)
        omega
theorem PosOK.setDue {l : List Thing} {m : List (Int × Int)} (h : PosOK l m) {i : Nat} (hi : i < l.length) (d : Int) : PosOK (l.set i ⟨(ix l i).id, d⟩) m := by
  have sw : ∀ k, (ix (l.set i ⟨(ix l i).id, d⟩) k).id = (ix l k).id := fun k => by
    rw [ix_set _ _ _ _ hi]; split
    · rename_i e; rw [e]
    · rfl
  refine ⟨fun k hk => ?_, fun k v hv => ?_⟩
  · rw [sw]; exact h.fwd k (by simpa using hk)
  · obtain ⟨x, hx, e⟩ := h.back k v hv
    exact ⟨x, by simpa using hx, by rw [sw]; exact e⟩
end Go.V
