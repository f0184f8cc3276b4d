/-
  Maps: what a block that is a map holds, as a list of keys and elements in the order in which they came; a look-up, a store, a deletion, the length, a range over it. Of whatever program.
-/
import Derived.Test.YtdcnblafepgheaaDoorV1
import Derived.Maps.Keyed
namespace Go.V
open Go

/-! ### lists of keys and elements -/
section
variable {K V : Type} [DecidableEq K]
def aget : List (K × V) → K → Option V
  | [], _ => none
  | p :: l, k => if p.1 = k then some p.2 else aget l k
def aset : List (K × V) → K → V → List (K × V)
  | [], k, v => [(k, v)]
  | p :: l, k, v => if p.1 = k then (k, v) :: l else p :: aset l k v
def adel (l : List (K × V)) (k : K) : List (K × V) := l.filter fun p => !decide (p.1 = k)
theorem aget_none {l : List (K × V)} {k : K} : aget l k = none ↔ ∀ p ∈ l, p.1 ≠ k := by
  induction l with
  | nil => simp [aget]
  | cons p l ih =>
    unfold aget
    by_cases h : p.1 = k
    · simp [h]
    · simp only [if_neg h, ih, List.mem_cons, forall_eq_or_imp]
      exact ⟨fun h2 => ⟨h, h2⟩, fun h2 => h2.2⟩
theorem aget_mem {l : List (K × V)} {k : K} {v : V} (h : aget l k = some v) : (k, v) ∈ l := by
  induction l with
  | nil => cases h
  | cons p l ih =>
    unfold aget at h
    split at h
    · rename_i e; cases h; subst e; simp
    · exact List.mem_cons_of_mem _ (ih h)
theorem aget_of_mem {l : List (K × V)} (hn : (l.map (·.1)).Nodup) {k : K} {v : V} (h : (k, v) ∈ l) : aget l k = some v := by
  induction l with
  | nil => cases h
  | cons p l ih =>
    rw [List.map_cons, List.nodup_cons] at hn
    unfold aget
    rcases List.mem_cons.1 h with rfl | h
    · simp
    · have : p.1 ≠ k := fun e => hn.1 (e ▸ List.mem_map.2 ⟨(k, v), h, rfl⟩)
      rw [if_neg this]; exact ih hn.2 h
theorem aset_new {l : List (K × V)} {k : K} (v : V) (h : aget l k = none) : aset l k v = l ++ [(k, v)] := by
  induction l with
  | nil => rfl
  | cons p l ih =>
    unfold aget at h
    split at h
    · cases h
    · rename_i e; unfold aset; rw [if_neg e, ih h]; rfl
theorem aget_aset (l : List (K × V)) (k k' : K) (v : V) : aget (aset l k v) k' = if k = k' then some v else aget l k' := by
  induction l with
  | nil => simp [aset, aget]
  | cons p l ih =>
    unfold aset
    by_cases h : p.1 = k
    · rw [if_pos h]; unfold aget
      by_cases h2 : k = k'
      · simp [h2]
      · have : p.1 ≠ k' := fun e => h2 (h.symm.trans e)
        simp [h2, this]
    · rw [if_neg h]; unfold aget
      by_cases h2 : p.1 = k'
      · have : k ≠ k' := fun e => h (h2.trans e.symm)
        simp [h2, this]
      · simp only [if_neg h2]; exact ih
theorem aget_adel (l : List (K × V)) (k k' : K) : aget (adel l k) k' = if k = k' then none else aget l k' := by
  induction l with
  | nil => simp [adel, aget]
  | cons p l ih =>
    unfold adel at *
    by_cases h : p.1 = k
    · rw [List.filter_cons_of_neg (by simp [h]), ih]
      by_cases h2 : k = k'
      · simp [h2]
      · have : p.1 ≠ k' := fun e => h2 (h.symm.trans e)
        simp [h2, aget, this]
    · rw [List.filter_cons_of_pos (by simp [h])]
      unfold aget
      by_cases h2 : p.1 = k'
      · have : k ≠ k' := fun e => h (h2.trans e.symm)
        simp [h2, this]
      · simp only [if_neg h2]; exact ih
theorem adel_none {l : List (K × V)} {k : K} (h : aget l k = none) : adel l k = l := by
  unfold adel
  rw [List.filter_eq_self]
  intro p hp
  simpa using aget_none.1 h p hp
end

theorem eraseIdx_map' {α β : Type} (f : α → β) (l : List α) (i : Nat) : (l.eraseIdx i).map f = (l.map f).eraseIdx i := by
  induction l generalizing i with
  | nil => rfl
  | cons a l ih => cases i with
    | zero => rfl
    | succ i => simp [ih]
/-- a type's values as keys of a map -/
structure KF (P : Program) (kt : TypeId) {K : Type} (kv : K → Value) (good : K → Prop) : Prop where
  inj : ∀ {a b}, good a → good b → kv a = kv b → a = b
  check : ∀ (w : World) (em : Bool) {k}, good k → (Instr.checkKey em 10000 kt (kv k)).run P w = .ok () w
  find : ∀ (w : World) {k}, good k → ∀ es : List MapEntry, (∀ e ∈ es, ∃ k', good k' ∧ e.key = kv k') →
    ((Instr.findKey kt (kv k) es).run P w = .ok none w ∧ ∀ e ∈ es, e.key ≠ kv k) ∨ ∃ j e, (Instr.findKey kt (kv k) es).run P w = .ok (some (j, e.val)) w ∧ es[j]? = some e ∧ e.key = kv k
  stays : ∀ (w : World) {k}, good k → (Instr.keyThatStays (kv k) (kv k)).run P w = .ok (kv k) w
theorem KF.of_keyed {P : Program} {kt : TypeId} {K : Type} {kv : K → Value} {good : K → Prop} (law : Maps.Keyed P kt) (hk : ∀ k, good k → ∃ l, keyOf P kt (kv k) = some l) (hi : ∀ a b, kv a = kv b → a = b) : KF P kt kv good where
  inj _ _ e := hi _ _ e
  check w em k hg := by obtain ⟨l, hl⟩ := hk k hg; exact law.check w em hl
  find w k hg es hes := by
    obtain ⟨l, hl⟩ := hk k hg
    exact law.find w hl es fun e he => by
      obtain ⟨k', hg', hk'⟩ := hes e he
      obtain ⟨l', hl'⟩ := hk k' hg'
      exact ⟨l', hk' ▸ hl'⟩
  stays w k hg := by obtain ⟨l, hl⟩ := hk k hg; exact law.stays w hl

section
variable {K V : Type} {P : Program} {kt : TypeId} {kv : K → Value} {vv : V → Value} {good : K → Prop}
/-- the entries, as they stand, are those of the list -/
structure Ents (kv : K → Value) (vv : V → Value) (good : K → Prop) (es : Array MapEntry) (clock : Nat) (l : List (K × V)) : Prop where
  eq : es.toList.map (fun e => (e.key, e.val)) = l.map fun p => (kv p.1, vv p.2)
  st : MapKept.Stamped es clock
  good : ∀ p ∈ l, good p.1
/-- block b is a map that holds the list -/
def MapAt (kv : K → Value) (vv : V → Value) (good : K → Prop) (w : World) (b : Nat) (l : List (K × V)) : Prop :=
  ∃ es clock, w.heap[b]? = some (.map es clock) ∧ Ents kv vv good es clock l
theorem MapAt.lt {w : World} {b : Nat} {l : List (K × V)} (h : MapAt kv vv good w b l) : b < w.heap.size := by obtain ⟨_, _, h, _⟩ := h; exact lt_of_get h
theorem MapAt.kp {w w' : World} {b : Nat} {l : List (K × V)} (h : MapAt kv vv good w b l) {F : Nat → Prop} (k : Kp F w w') (hn : ¬ F b) : MapAt kv vv good w' b l := by
  obtain ⟨es, c, hb, he⟩ := h; exact ⟨es, c, k.get hb hn, he⟩
theorem Ents.len {es : Array MapEntry} {clock : Nat} {l : List (K × V)} (h : Ents kv vv good es clock l) : es.size = l.length := by
  have := congrArg List.length h.eq; simpa using this
theorem Ents.get {es : Array MapEntry} {clock : Nat} {l : List (K × V)} (h : Ents kv vv good es clock l) {j : Nat} {e : MapEntry} (hj : es.toList[j]? = some e) : ∃ p, l[j]? = some p ∧ e.key = kv p.1 ∧ e.val = vv p.2 := by
  have h1 := congrArg (fun x => x[j]?) h.eq
  simp only [List.getElem?_map, hj, Option.map_some] at h1
  cases hl : l[j]? with
  | none => rw [hl] at h1; cases h1
  | some p => rw [hl] at h1; simp at h1; exact ⟨p, rfl, h1.1, h1.2⟩
theorem Ents.mem {es : Array MapEntry} {clock : Nat} {l : List (K × V)} (h : Ents kv vv good es clock l) {e : MapEntry} (he : e ∈ es.toList) : ∃ k', good k' ∧ e.key = kv k' := by
  obtain ⟨j, hj⟩ := List.mem_iff_getElem?.1 he
  obtain ⟨p, hp, hk, _⟩ := h.get hj
  exact ⟨p.1, h.good p (List.mem_of_getElem? hp), hk⟩
theorem Ents.nodup {es : Array MapEntry} {clock : Nat} {l : List (K × V)} (h : Ents kv vv good es clock l) : (l.map (·.1)).Nodup := by
  have h1 := ((MapKept.stamped_iff es clock).1 h.st).2.2
  have h2 : (es.toList.map (·.key)).Pairwise (· ≠ ·) := by rw [List.pairwise_map]; exact h1
  have h3 : es.toList.map (·.key) = l.map fun p => kv p.1 := by
    have := congrArg (List.map Prod.fst) h.eq
    simpa [Function.comp_def] using this
  rw [h3] at h2
  rw [List.Nodup, List.pairwise_map]
  rw [List.pairwise_map] at h2
  exact h2.imp fun hne e => hne (by rw [e])
theorem MapAt.nodup {w : World} {b : Nat} {l : List (K × V)} (h : MapAt kv vv good w b l) : (l.map (·.1)).Nodup := by obtain ⟨_, _, _, h⟩ := h; exact h.nodup
theorem MapAt.goods {w : World} {b : Nat} {l : List (K × V)} (h : MapAt kv vv good w b l) : ∀ p ∈ l, good p.1 := by obtain ⟨_, _, _, h⟩ := h; exact h.good
theorem MapAt.new {w : World} {b : Nat} (h : w.heap[b]? = some (.map #[] 0)) : MapAt kv vv good w b ([] : List (K × V)) := ⟨#[], 0, h, by simp, MapKept.stamped_empty 0, by simp⟩
/-- where a key stands -/
theorem KF.at_ [DecidableEq K] (L : KF P kt kv good) {es : Array MapEntry} {clock : Nat} {l : List (K × V)} (h : Ents kv vv good es clock l) {k : K} (hk : good k) (w : World) :
    ((Instr.findKey kt (kv k) es.toList).run P w = .ok none w ∧ aget l k = none ∧ ∀ e ∈ es.toList, e.key ≠ kv k) ∨
    ∃ j e v, (Instr.findKey kt (kv k) es.toList).run P w = .ok (some (j, vv v)) w ∧ es.toList[j]? = some e ∧ e.key = kv k ∧ e.val = vv v ∧ l[j]? = some (k, v) ∧ aget l k = some v := by
  rcases L.find w hk es.toList (fun e he => h.mem he) with ⟨h1, h2⟩ | ⟨j, e, h1, h2, h3⟩
  · refine .inl ⟨h1, aget_none.2 fun p hp e => ?_, h2⟩
    obtain ⟨j, hj⟩ := List.mem_iff_getElem?.1 hp
    have hlen := h.len
    have hjl : j < es.toList.length := by have := (List.getElem?_eq_some_iff.1 hj).1; simpa [hlen] using this
    obtain ⟨p', hp', hk', _⟩ := h.get (List.getElem?_eq_getElem hjl)
    rw [hj] at hp'; cases hp'
    exact h2 _ (List.getElem_mem hjl) (by rw [hk', e])
  · obtain ⟨p, hp, hk', hv⟩ := h.get h2
    have hpk : p.1 = k := L.inj (h.good p (List.mem_of_getElem? hp)) hk (hk'.symm.trans h3)
    obtain ⟨pk, pv⟩ := p
    dsimp only at hpk hv
    subst hpk
    exact .inr ⟨j, e, pv, by rw [h1, hv], h2, h3, hv, hp, aget_of_mem h.nodup (List.mem_of_getElem? hp)⟩

/-! the operations -/
def MapOn (kv : K → Value) (vv : V → Value) (good : K → Prop) (W : World → Prop) (b : Nat) (l : List (K × V)) : Prop := ∀ w, W w → MapAt kv vv good w b l
theorem MapOn.now {w : World} {b : Nat} {l : List (K × V)} (h : MapAt kv vv good w b l) : MapOn kv vv good (· = w) b l := fun _ e => by cases e; exact h
theorem MapOn.kp {F : Nat → Prop} {w : World} {b : Nat} {l : List (K × V)} (h : MapAt kv vv good w b l) (hn : ¬ F b) : MapOn kv vv good (Kp F w) b l := fun _ k => h.kp k hn
variable {W : World → Prop} {E : Env} {ty T et : TypeId} {x y z : Operand} {w : World}
theorem run_lookup [DecidableEq K] (L : KF P kt kv good) (hT : P.underlying T = some (.map kt et)) {zv : Value} (hz : TyZero P et zv) {b : Nat} {l : List (K × V)} (h : MapAt kv vv good w b l) {k : K} (hk : good k) (ok : Bool) :
    (Instr.lookup T (.map (some b)) (kv k) ok).run P w = .ok (if ok then .tuple #[match aget l k with | some v => vv v | none => zv, .bool (aget l k).isSome] else match aget l k with | some v => vv v | none => zv) w := by
  obtain ⟨es, c, hb, he⟩ := h
  rcases L.at_ he hk w with ⟨h1, h2, _⟩ | ⟨j, e, v, h1, _, _, _, _, h2⟩
  · simp [Instr.lookup, run_und hT, run_getMap hb, L.check w _ hk, h1, hz w, h2]
  · simp [Instr.lookup, run_und hT, run_getMap hb, L.check w _ hk, h1, h2]
theorem y_lookup_some [DecidableEq K] (L : KF P kt kv good) (hT : P.underlying T = some (.map kt et)) {zv : Value} (hz : TyZero P et zv) {b : Nat} {l : List (K × V)} (h : MapOn kv vv good W b l) (hx : ev E x = .map (some b)) {k : K} (hy : ev E y = kv k) (hk : good k) {v : V} (hv : aget l k = some v) : Yld P W E (.lookup T x y false) ty (vv v) := fun w hw => by
  simp [exe, execOp, hx, hy, run_lookup L hT hz (h w hw) hk, hv]
theorem y_lookup_none [DecidableEq K] (L : KF P kt kv good) (hT : P.underlying T = some (.map kt et)) {zv : Value} (hz : TyZero P et zv) {b : Nat} {l : List (K × V)} (h : MapOn kv vv good W b l) (hx : ev E x = .map (some b)) {k : K} (hy : ev E y = kv k) (hk : good k) (hv : aget l k = none) : Yld P W E (.lookup T x y false) ty zv := fun w hw => by
  simp [exe, execOp, hx, hy, run_lookup L hT hz (h w hw) hk, hv]
theorem y_lookup2_some [DecidableEq K] (L : KF P kt kv good) (hT : P.underlying T = some (.map kt et)) {zv : Value} (hz : TyZero P et zv) {b : Nat} {l : List (K × V)} (h : MapOn kv vv good W b l) (hx : ev E x = .map (some b)) {k : K} (hy : ev E y = kv k) (hk : good k) {v : V} (hv : aget l k = some v) : Yld P W E (.lookup T x y true) ty (.tuple #[vv v, .bool true]) := fun w hw => by
  simp [exe, execOp, hx, hy, run_lookup L hT hz (h w hw) hk, hv]
theorem y_lookup2_none [DecidableEq K] (L : KF P kt kv good) (hT : P.underlying T = some (.map kt et)) {zv : Value} (hz : TyZero P et zv) {b : Nat} {l : List (K × V)} (h : MapOn kv vv good W b l) (hx : ev E x = .map (some b)) {k : K} (hy : ev E y = kv k) (hk : good k) (hv : aget l k = none) : Yld P W E (.lookup T x y true) ty (.tuple #[zv, .bool false]) := fun w hw => by
  simp [exe, execOp, hx, hy, run_lookup L hT hz (h w hw) hk, hv]
theorem y_lenMap (hT : P.underlying T = some (.map kt et)) {b : Nat} {l : List (K × V)} (h : MapOn kv vv good W b l) (hx : ev E x = .map (some b)) : Yld P W E (.call { callee := .builtin .len, args := #[x], argTypes := #[T] }) ty (.int .i64 ((l.length : Nat) : Int)) := fun w hw => by
  obtain ⟨es, c, hb, he⟩ := h w hw
  rw [exe_builtin, BigFrame.builtin_len]
  simp [hx, Builtin.len_, run_und hT, run_getMap hb, goInt, he.len]
theorem run_setMap {b : Nat} {es es' : Array MapEntry} {c c' : Nat} (h : w.heap[b]? = some (.map es c)) : (setObj b (.map es' c')).run P w = .ok () { w with heap := w.heap.setIfInBounds b (.map es' c') } := by
  simp only [setObj, Sem.run, h]
theorem kp_set (w : World) (b : Nat) (o : Obj) : Kp (· = b) w { w with heap := w.heap.setIfInBounds b o } :=
  ⟨rfl, rfl, rfl, by simp, fun k _ hk => by simp [Array.getElem?_setIfInBounds_ne (Ne.symm hk)]⟩
theorem get_set {w : World} {b : Nat} {o o' : Obj} (h : w.heap[b]? = some o) : ({ w with heap := w.heap.setIfInBounds b o' } : World).heap[b]? = some o' := by
  have := lt_of_get h
  simp [this]
theorem Ents.push {es : Array MapEntry} {clock : Nat} {l : List (K × V)} (h : Ents kv vv good es clock l) {k : K} (v : V) (hk : good k) (hn : ∀ e ∈ es.toList, e.key ≠ kv k) : Ents kv vv good (es.push ⟨kv k, vv v, clock⟩) (clock + 1) (l ++ [(k, v)]) :=
  ⟨by simp [h.eq], MapKept.stamped_push h.st hn, fun p hp => by
    rcases List.mem_append.1 hp with hp | hp
    · exact h.good p hp
    · simp at hp; subst hp; exact hk⟩
theorem aset_at [DecidableEq K] {l : List (K × V)} (hn : (l.map (·.1)).Nodup) {j : Nat} {k : K} {v0 : V} (hj : l[j]? = some (k, v0)) (v : V) : aset l k v = l.set j (k, v) := by
  induction l generalizing j with
  | nil => cases hj
  | cons p l ih =>
    rw [List.map_cons, List.nodup_cons] at hn
    cases j with
    | zero => simp at hj; subst hj; simp [aset]
    | succ j =>
      simp only [List.getElem?_cons_succ] at hj
      have : p.1 ≠ k := fun e => hn.1 (e ▸ List.mem_map.2 ⟨(k, v0), List.mem_of_getElem? hj, rfl⟩)
      unfold aset
      rw [if_neg this, ih hn.2 hj]; rfl
theorem adel_at [DecidableEq K] {l : List (K × V)} (hn : (l.map (·.1)).Nodup) {j : Nat} {k : K} {v0 : V} (hj : l[j]? = some (k, v0)) : adel l k = l.eraseIdx j := by
  induction l generalizing j with
  | nil => cases hj
  | cons p l ih =>
    rw [List.map_cons, List.nodup_cons] at hn
    cases j with
    | zero =>
      simp at hj; subst hj
      have : aget l k = none := aget_none.2 fun q hq e => hn.1 (e ▸ List.mem_map.2 ⟨q, hq, rfl⟩)
      have h2 := adel_none this
      unfold adel at *
      rw [List.filter_cons_of_neg (by simp), h2]; rfl
    | succ j =>
      simp only [List.getElem?_cons_succ] at hj
      have : p.1 ≠ k := fun e => hn.1 (e ▸ List.mem_map.2 ⟨(k, v0), List.mem_of_getElem? hj, rfl⟩)
      have h2 := ih hn.2 hj
      unfold adel at *
      rw [List.filter_cons_of_pos (by simp [this]), h2]; rfl
theorem run_mapUpdate [DecidableEq K] (L : KF P kt kv good) (hT : P.underlying T = some (.map kt et)) {b : Nat} {l : List (K × V)} (h : MapAt kv vv good w b l) {k : K} (hk : good k) (v : V) :
    ∃ w', (Instr.mapUpdate T (.map (some b)) (kv k) (vv v)).run P w = .ok () w' ∧ MapAt kv vv good w' b (aset l k v) ∧ Kp (· = b) w w' := by
  obtain ⟨es, c, hb, he⟩ := h
  rcases L.at_ he hk w with ⟨h1, h2, h3⟩ | ⟨j, e, v0, h1, h4, h5, h6, h7, h2⟩
  · refine ⟨{ w with heap := w.heap.setIfInBounds b (.map (es.push ⟨kv k, vv v, c⟩) (c + 1)) }, ?_, ⟨_, _, get_set hb, ?_⟩, kp_set w b _⟩
    · simp only [Instr.mapUpdate, Sem.run_bind, run_und hT, Result.andThen_ok, run_getMap hb, L.check w _ hk, h1, run_setMap hb]
    · rw [aset_new v h2]; exact he.push v hk h3
  · have hj : es[j]? = some e := by simpa using h4
    refine ⟨{ w with heap := w.heap.setIfInBounds b (.map (es.modify j fun e => { e with key := kv k, val := vv v }) c) }, ?_, ⟨_, _, get_set hb, ?_⟩, kp_set w b _⟩
    · simp only [Instr.mapUpdate, Sem.run_bind, run_und hT, Result.andThen_ok, run_getMap hb, L.check w _ hk, h1, hj, Option.map_some, Option.getD_some, h5, L.stays w hk, run_setMap hb]
    · refine ⟨?_, MapKept.stamped_modify he.st _ _ (fun _ _ => rfl) (fun e' _ he' => by rw [hj] at he'; cases he'; exact h5.symm), ?_⟩
      · rw [aset_at he.nodup h7, Array.toList_modify, Go.ChangeMaps.modify_eq_set _ _ _ _ h4, List.map_set, List.map_set, he.eq]
      · rw [aset_at he.nodup h7]
        intro p hp
        rcases List.mem_or_eq_of_mem_set hp with hp | rfl
        · exact he.good p hp
        · exact hk
theorem e_mapUpdate [DecidableEq K] (L : KF P kt kv good) (hT : P.underlying T = some (.map kt et)) {b : Nat} {l : List (K × V)} (h : MapAt kv vv good w b l) (hx : ev E x = .map (some b)) {k : K} (hy : ev E y = kv k) {v : V} (hz : ev E z = vv v) (hk : good k) :
    Eff P E (.mapUpdate T x y z) ty w fun _ w' => MapAt kv vv good w' b (aset l k v) ∧ Kp (· = b) w w' := by
  obtain ⟨w', hr, h1, h2⟩ := run_mapUpdate L hT h hk v
  exact .inr (.inl ⟨w', by simp [exe, execOp, hx, hy, hz, hr], h1, h2⟩)
theorem e_mapPut [DecidableEq K] (L : KF P kt kv good) (hT : P.underlying T = some (.map kt et)) {b : Nat} {l : List (K × V)} (h : MapAt kv vv good w b l) (hx : ev E x = .map (some b)) {k : K} (hy : ev E y = kv k) {v : V} (hz : ev E z = vv v) (hk : good k) (hn : aget l k = none) :
    Eff P E (.mapUpdate T x y z) ty w fun _ w' => MapAt kv vv good w' b (l ++ [(k, v)]) ∧ Kp (· = b) w w' := by
  have := e_mapUpdate (ty := ty) L hT h hx hy hz hk
  rw [aset_new v hn] at this; exact this
theorem e_delete [DecidableEq K] (L : KF P kt kv good) (hT : P.underlying T = some (.map kt et)) {b : Nat} {l : List (K × V)} (h : MapAt kv vv good w b l) (hx : ev E x = .map (some b)) {k : K} (hy : ev E y = kv k) (hk : good k) {t2 : TypeId} :
    Eff P E (.call { callee := .builtin .delete, args := #[x, y], argTypes := #[T, t2] }) ty w fun _ w' => MapAt kv vv good w' b (adel l k) ∧ Kp (· = b) w w' := by
  obtain ⟨es, c, hb, he⟩ := h
  rcases L.at_ he hk w with ⟨h1, h2, h3⟩ | ⟨j, e, v0, h1, h4, h5, h6, h7, h2⟩
  · refine .inl ⟨.tuple #[], { w with heap := w.heap.setIfInBounds b (.map es c) }, ?_, ⟨es, c, get_set hb, ?_⟩, kp_set w b _⟩
    · rw [exe_builtin, BigFrame.builtin_delete]
      simp [hx, hy, Builtin.delete_, run_und hT, run_getMap hb, L.check w _ hk, h1, run_setMap hb]
    · rw [adel_none h2]; exact he
  · refine .inl ⟨.tuple #[], { w with heap := w.heap.setIfInBounds b (.map (es.eraseIdxIfInBounds j) c) }, ?_, ⟨es.eraseIdxIfInBounds j, c, get_set hb, ?_⟩, kp_set w b _⟩
    · rw [exe_builtin, BigFrame.builtin_delete]
      simp [hx, hy, Builtin.delete_, run_und hT, run_getMap hb, L.check w _ hk, h1, run_setMap hb]
    · have hjl : j < es.size := by have := (List.getElem?_eq_some_iff.1 h4).1; simpa using this
      refine ⟨?_, MapKept.stamped_erase he.st j, ?_⟩
      · rw [adel_at he.nodup h7]
        have : (es.eraseIdxIfInBounds j).toList = es.toList.eraseIdx j := by
          rw [Array.eraseIdxIfInBounds, dif_pos hjl]; simp
        rw [this, eraseIdx_map', he.eq, eraseIdx_map']
      · intro p hp
        exact he.good p (List.mem_filter.1 hp).1

/-! ### a range over a map that stands still -/
/-- block r ranges over block b, a map that holds l; 'left': what is still to come; 'cur': what came last -/
def IterAt (kv : K → Value) (vv : V → Value) (good : K → Prop) (w : World) (r b : Nat) (l left : List (K × V)) (cur : Option (K × V)) : Prop :=
  ∃ es clock seen, w.heap[b]? = some (.map es clock) ∧ Ents kv vv good es clock l ∧ w.heap[r]? = some (.mapIter (some b) clock seen clock) ∧
    (es.toList.filter fun e => !seen.contains e.born).map (fun e => (e.key, e.val)) = left.map (fun p => (kv p.1, vv p.2)) ∧
    (∀ p, cur = some p → ∃ e, e ∈ es.toList ∧ seen.back? = some e.born ∧ e.key = kv p.1 ∧ e.val = vv p.2)
theorem IterAt.kp {w w' : World} {r b : Nat} {l left : List (K × V)} {cur : Option (K × V)} (h : IterAt kv vv good w r b l left cur) {F : Nat → Prop} (k : Kp F w w') (hr : ¬ F r) (hb : ¬ F b) : IterAt kv vv good w' r b l left cur := by
  obtain ⟨es, c, seen, h1, h2, h3, h4, h5⟩ := h
  exact ⟨es, c, seen, k.get h1 hb, h2, k.get h3 hr, h4, h5⟩
theorem IterAt.map {w : World} {r b : Nat} {l left : List (K × V)} {cur : Option (K × V)} (h : IterAt kv vv good w r b l left cur) : MapAt kv vv good w b l := by
  obtain ⟨es, c, seen, h1, h2, _⟩ := h; exact ⟨es, c, h1, h2⟩
theorem inI_of {n : Int} (h1 : -9223372036854775808 ≤ n) (h2 : n ≤ 9223372036854775807) : -9223372036854775808 ≤ n ∧ n ≤ 9223372036854775807 := ⟨h1, h2⟩
end
end Go.V
