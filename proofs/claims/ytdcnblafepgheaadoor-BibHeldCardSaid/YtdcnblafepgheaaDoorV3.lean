/-
  Maps: what a block that is a map holds, as a list of keys and elements in the order in which they came; a look-up, a store, a deletion, the length, a range over it. Of whatever program.
-/
import Derived.Test.YtdcnblafepgheaaDoorV1
import Derived.Maps.Keyed
namespace Go.V
open Go

/-! ### lists of keys and elements -/
section
variable {K V : Type} [DecidableEq K]
def aget : List (K × V) → K → Option V
  | [], _ => none
  | p :: l, k => if p.1 = k then some p.2 else aget l k
def aset : List (K × V) → K → V → List (K × V)
  | [], k, v => [(k, v)]
  | p :: l, k, v => if p.1 = k then (k, v) :: l else p :: aset l k v
def adel (l : List (K × V)) (k : K) : List (K × V) := l.filter fun p => !decide (p.1 = k)
theorem aget_none {l : List (K × V)} {k : K} : aget l k = none ↔ ∀ p ∈ l, p.1 ≠ k := by
  induction l with
  | nil => simp [aget]
  | cons p l ih =>
    unfold aget
    by_cases h : p.1 = k
    · simp [h]
    · simp only [if_neg h, ih, List.mem_cons, forall_eq_or_imp]
      exact ⟨fun h2 => ⟨h, h2⟩, fun h2 => h2.2⟩
theorem aget_of_mem {l : List (K × V)} (hn : (l.map (·.1)).Nodup) {k : K} {v : V} (h : (k, v) ∈ l) : aget l k = some v := by
  induction l with
  | nil => cases h
  | cons p l ih =>
    rw [List.map_cons, List.nodup_cons] at hn
    unfold aget
    rcases List.mem_cons.1 h with rfl | h
    · simp
    · have : p.1 ≠ k := fun e => hn.1 (e ▸ List.mem_map.2 ⟨(k, v), h, rfl⟩)
      rw [if_neg this]; exact ih hn.2 h
theorem aset_new {l : List (K × V)} {k : K} (v : V) (h : aget l k = none) : aset l k v = l ++ [(k, v)] := by
  induction l with
  | nil => rfl
  | cons p l ih =>
    unfold aget at h
    split at h
    · cases h
    · rename_i e; unfold aset; rw [if_neg e, ih h]; rfl
theorem aget_adel (l : List (K × V)) (k k' : K) : aget (adel l k) k' = if k = k' then none else aget l k' := by
  induction l with
  | nil => simp [adel, aget]
  | cons p l ih =>
    unfold adel at *
    by_cases h : p.1 = k
    · rw [List.filter_cons_of_neg (by simp [h]), ih]
      by_cases h2 : k = k'
      · simp [h2]
      · have : p.1 ≠ k' := fun e => h2 (h.symm.trans e)
        simp [h2, aget, this]
    · rw [List.filter_cons_of_pos (by simp [h])]
      unfold aget
      by_cases h2 : p.1 = k'
      · have : k ≠ k' := fun e => h (h2.trans e.symm)
        simp [h2, this]
      · simp only [if_neg h2]; exact ih
theorem adel_none {l : List (K × V)} {k : K} (h : aget l k = none) : adel l k = l := by
  unfold adel
  rw [List.filter_eq_self]
  intro p hp
  simpa using aget_none.1 h p hp
end

theorem eraseIdx_map' {α β : Type} (f : α → β) (l : List α) (i : Nat) : (l.eraseIdx i).map f = (l.map f).eraseIdx i := by
  induction l generalizing i with
  | nil => rfl
  | cons a l ih => cases i with
    | zero => rfl
    | succ i => simp [ih]
/-- a type's values as keys of a map -/
structure KF (P : Program) (kt : TypeId) {K : Type} (kv : K → Value) (good : K → Prop) : Prop where
  inj : ∀ {a b}, good a → good b → kv a = kv b → a = b
  check : ∀ (w : World) (em : Bool) {k}, good k → (Instr.checkKey em 10000 kt (kv k)).run P w = .ok () w
  find : ∀ (w : World) {k}, good k → ∀ es : List MapEntry, (∀ e ∈ es, ∃ k', good k' ∧ e.key = kv k') →
    ((Instr.findKey kt (kv k) es).run P w = .ok none w ∧ ∀ e ∈ es, e.key ≠ kv k) ∨ ∃ j e, (Instr.findKey kt (kv k) es).run P w = .ok (some (j, e.val)) w ∧ es[j]? = some e ∧ e.key = kv k
  stays : ∀ (w : World) {k}, good k → (Instr.keyThatStays (kv k) (kv k)).run P w = .ok (kv k) w
theorem KF.of_keyed {P : Program} {kt : TypeId} {K : Type} {kv : K → Value} {good : K → Prop} (law : Maps.Keyed P kt) (hk : ∀ k, good k → ∃ l, keyOf P kt (kv k) = some l) (hi : ∀ a b, kv a = kv b → a = b) : KF P kt kv good where
  inj _ _ e := hi _ _ e
  check w em k hg := by obtain ⟨l, hl⟩ := hk k hg; exact law.check w em hl
  find w k hg es hes := by
    obtain ⟨l, hl⟩ := hk k hg
    exact law.find w hl es fun e he => by
      obtain ⟨k', hg', hk'⟩ := hes e he
      obtain ⟨l', hl'⟩ := hk k' hg'
      exact ⟨l', hk' ▸ hl'⟩
  stays w k hg := by obtain ⟨l, hl⟩ := hk k hg; exact law.stays w hl

section
variable {K V : Type} {P : Program} {kt : TypeId} {kv : K → Value} {vv : V → Value} {good : K → Prop}
/-- the entries, as they stand, are those of the list -/
structure Ents (kv : K → Value) (vv : V → Value) (good : K → Prop) (es : Array MapEntry) (clock : Nat) (l : List (K × V)) : Prop where
  eq : es.toList.map (fun e => (e.key, e.val)) = l.map fun p => (kv p.1, vv p.2)
  st : MapKept.Stamped es clock
  good : ∀ p ∈ l, good p.1
/-- block b is a map that holds the list -/
def MapAt (kv : K → Value) (vv : V → Value) (good : K → Prop) (w : World) (b : Nat) (l : List (K × V)) : Prop :=
  ∃ es clock, w.heap[b]? = some (.map es clock) ∧ Ents kv vv good es clock l
theorem MapAt.lt {w : World} {b : Nat} {l : List (K × V)} (h : MapAt kv vv good w b l) : b < w.heap.size := by obtain ⟨_, _, h, _⟩ := h; exact lt_of_get h
theorem MapAt.kp {w w' : World} {b : Nat} {l : List (K × V)} (h : MapAt kv vv good w b l) {F : Nat → Prop} (k : Kp F w w') (hn : ¬ F b) : MapAt kv vv good w' b l := by
  obtain ⟨es, c, hb, he⟩ := h; exact ⟨es, c, k.get hb hn, he⟩
theorem Ents.len {es : Array MapEntry} {clock : Nat} {l : List (K × V)} (h : Ents kv vv good es clock l) : es.size = l.length := by
  have := congrArg List.length h.eq; simpa using this
theorem Ents.get {es : Array MapEntry} {clock : Nat} {l : List (K × V)} (h : Ents kv vv good es clock l) {j : Nat} {e : MapEntry} (hj : es.toList[j]? = some e) : ∃ p, l[j]? = some p ∧ e.key = kv p.1 ∧ e.val = vv p.2 := by
  have h1 := congrArg (fun x => x[j]?) h.eq
  simp only [List.getElem?_map, hj, Option.map_some] at h1
  cases hl : l[j]? with
  | none => rw [hl] at h1; cases h1
  | some p => rw [hl] at h1; simp at h1; exact ⟨p, rfl, h1.1, h1.2⟩
theorem Ents.mem {es : Array MapEntry} {clock : Nat} {l : List (K × V)} (h : Ents kv vv good es clock l) {e : MapEntry} (he : e ∈ es.toList) : ∃ k', good k' ∧ e.key = kv k' := by
  obtain ⟨j, hj⟩ := List.mem_iff_getElem?.1 he
  obtain ⟨p, hp, hk, _⟩ := h.get hj
  exact ⟨p.1, h.good p (List.mem_of_getElem? hp), hk⟩
theorem Ents.nodup {es : Array MapEntry} {clock : Nat} {l : List (K × V)} (h : Ents kv vv good es clock l) : (l.map (·.1)).Nodup := by
  have h1 := ((MapKept.stamped_iff es clock).1 h.st).2.2
  have h2 : (es.toList.map (·.key)).Pairwise (· ≠ ·) := by rw [List.pairwise_map]; exact h1
  have h3 : es.toList.map (·.key) = l.map fun p => kv p.1 := by
    have := congrArg (List.map Prod.fst) h.eq
    simpa [Function.comp_def] using this
  rw [h3] at h2
  rw [List.Nodup, List.pairwise_map]
  rw [List.pairwise_map] at h2
  exact h2.imp fun hne e => hne (by rw [e])
theorem MapAt.nodup {w : World} {b : Nat} {l : List (K × V)} (h : MapAt kv vv good w b l) : (l.map (·.1)).Nodup := by obtain ⟨_, _, _, h⟩ := h; exact h.nodup
theorem MapAt.goods {w : World} {b : Nat} {l : List (K × V)} (h : MapAt kv vv good w b l) : ∀ p ∈ l, good p.1 := by obtain ⟨_, _, _, h⟩ := h; exact h.good
theorem MapAt.new {w : World} {b : Nat} (h : w.heap[b]? = some (.map #[] 0)) : MapAt kv vv good w b ([] : List (K × V)) := ⟨#[], 0, h, by simp, MapKept.stamped_empty 0, by simp⟩
/-- where a key stands -/
theorem KF.at_ [DecidableEq K] (L : KF P kt kv good) {es : Array MapEntry} {clock : Nat} {l : List (K × V)} (h : Ents kv vv good es clock l) {k : K} (hk : good k) (w : World) :
    ((Instr.findKey kt (kv k) es.toList).run P w = .ok none w ∧ aget l k = none ∧ ∀ e ∈ es.toList, e.key ≠ kv k) ∨
    ∃ j e v, (Instr.findKey kt (kv k) es.toList).run P w = .ok (some (j, vv v)) w ∧ es.toList[j]? = some e ∧ e.key = kv k ∧ e.val = vv v ∧ l[j]? = some (k, v) ∧ aget l k = some v := by
  rcases L.find w hk es.toList (fun e he => h.mem he) with ⟨h1, h2⟩ | ⟨j, e, h1, h2, h3⟩
  · refine .inl ⟨h1, aget_none.2 fun p hp e => ?_, h2⟩
    obtain ⟨j, hj⟩ := List.mem_iff_getElem?.1 hp
    have hlen := h.len
    have hjl : j < es.toList.length := by have := (List.getElem?_eq_some_iff.1 hj).1; simpa [hlen] using this
    obtain ⟨p', hp', hk', _⟩ := h.get (List.getElem?_eq_getElem hjl)
    rw [hj] at hp'; cases hp'
    exact h2 _ (List.getElem_mem hjl) (by rw [hk', e])
  · obtain ⟨p, hp, hk', hv⟩ := h.get h2
    have hpk : p.1 = k := L.inj (h.good p (List.mem_of_getElem? hp)) hk (hk'.symm.trans h3)
    obtain ⟨pk, pv⟩ := p
    dsimp only at hpk hv
    subst hpk
    exact .inr ⟨j, e, pv, by rw [h1, hv], h2, h3, hv, hp, aget_of_mem h.nodup (List.mem_of_getElem? hp)⟩

/-! the operations -/
def MapOn (kv : K → Value) (vv : V → Value) (good : K → Prop) (W : World → Prop) (b : Nat) (l : List (K × V)) : Prop := ∀ w, W w → MapAt kv vv good w b l
theorem MapOn.now {w : World} {b : Nat} {l : List (K × V)} (h : MapAt kv vv good w b l) : MapOn kv vv good (· = w) b l := fun _ e => by cases e; exact h
theorem MapOn.kp {F : Nat → Prop} {w : World} {b : Nat} {l : List (K × V)} (h : MapAt kv vv good w b l) (hn : ¬ F b) : MapOn kv vv good (Kp F w) b l := fun _ k => h.kp k hn
variable {W : World → Prop} {E : Env} {ty T et : TypeId} {x y z : Operand} {w : World}
theorem run_lookup [DecidableEq K] (L : KF P kt kv good) (hT : P.underlying T = some (.map kt et)) {zv : Value} (hz : TyZero P et zv) {b : Nat} {l : List (K × V)} (h : MapAt kv vv good w b l) {k : K} (hk : good k) (ok : Bool) :
    (Instr.lookup T (.map (some b)) (kv k) ok).run P w = .ok (if ok then .tuple #[match aget l k with | some v => vv v | none => zv, .bool (aget l k).isSome] else match aget l k with | some v => vv v | none => zv) w := by
  obtain ⟨es, c, hb, he⟩ := h
  rcases L.at_ he hk w with ⟨h1, h2, _⟩ | ⟨j, e, v, h1, _, _, _, _, h2⟩
  · simp [Instr.lookup, run_und hT, run_getMap hb, L.check w _ hk, h1, hz w, h2]
  · simp [Instr.lookup, run_und hT, run_getMap hb, L.check w _ hk, h1, h2]
theorem y_lookup_some [DecidableEq K] (L : KF P kt kv good) (hT : P.underlying T = some (.map kt et)) {zv : Value} (hz : TyZero P et zv) {b : Nat} {l : List (K × V)} (h : MapOn kv vv good W b l) (hx : ev E x = .map (some b)) {k : K} (hy : ev E y = kv k) (hk : good k) {v : V} (hv : aget l k = some v) : Yld P W E (.lookup T x y false) ty (vv v) := fun w hw => by
  simp [exe, execOp, hx, hy, run_lookup L hT hz (h w hw) hk, hv]
theorem y_lookup_none [DecidableEq K] (L : KF P kt kv good) (hT : P.underlying T = some (.map kt et)) {zv : Value} (hz : TyZero P et zv) {b : Nat} {l : List (K × V)} (h : MapOn kv vv good W b l) (hx : ev E x = .map (some b)) {k : K} (hy : ev E y = kv k) (hk : good k) (hv : aget l k = none) : Yld P W E (.lookup T x y false) ty zv := fun w hw => by
  simp [exe, execOp, hx, hy, run_lookup L hT hz (h w hw) hk, hv]
theorem y_lookup2_some [DecidableEq K] (L : KF P kt kv good) (hT : P.underlying T = some (.map kt et)) {zv : Value} (hz : TyZero P et zv) {b : Nat} {l : List (K × V)} (h : MapOn kv vv good W b l) (hx : ev E x = .map (some b)) {k : K} (hy : ev E y = kv k) (hk : good k) {v : V} (hv : aget l k = some v) : Yld P W E (.lookup T x y true) ty (.tuple #[vv v, .bool true]) := fun w hw => by
  simp [exe, execOp, hx, hy, run_lookup L hT hz (h w hw) hk, hv]
theorem y_lookup2_none [DecidableEq K] (L : KF P kt kv good) (hT : P.underlying T = some (.map kt et)) {zv : Value} (hz : TyZero P et zv) {b : Nat} {l : List (K × V)} (h : MapOn kv vv good W b l) (hx : ev E x = .map (some b)) {k : K} (hy : ev E y = kv k) (hk : good k) (hv : aget l k = none) : Yld P W E (.lookup T x y true) ty (.tuple #[zv, .bool false]) := fun w hw => by
  simp [exe, execOp, hx, hy, run_lookup L hT hz (h w hw) hk, hv]
theorem y_lenMap (hT : P.underlying T = some (.map kt et)) {b : Nat} {l : List (K × V)} (h : MapOn kv vv good W b l) (hx : ev E x = .map (some b)) : Yld P W E (.call { callee := .builtin .len, args := #[x], argTypes := #[T] }) ty (.int .i64 ((l.length : Nat) : Int)) := fun w hw => by
  obtain ⟨es, c, hb, he⟩ := h w hw
  rw [exe_builtin, BigFrame.builtin_len]
  simp [hx, Builtin.len_, run_und hT, run_getMap hb, goInt, he.len]
theorem run_setMap {b : Nat} {es es' : Array MapEntry} {c c' : Nat} (h : w.heap[b]? = some (.map es c)) : (setObj b (.map es' c')).run P w = .ok () { w with heap := w.heap.setIfInBounds b (.map es' c') } := by
  simp only [setObj, Sem.run, h]
theorem kp_set (w : World) (b : Nat) (o : Obj) : Kp (· = b) w { w with heap := w.heap.setIfInBounds b o } :=
  ⟨rfl, rfl, rfl, by simp, fun k _ hk => by simp [Array.getElem?_setIfInBounds_ne (Ne.symm hk)]⟩
theorem get_set {w : World} {b : Nat} {o o' : Obj} (h : w.heap[b]? = some o) : ({ w with heap := w.heap.setIfInBounds b o' } : World).heap[b]? = some o' := by
  have := lt_of_get h
  simp [this]
theorem Ents.push {es : Array MapEntry} {clock : Nat} {l : List (K × V)} (h : Ents kv vv good es clock l) {k : K} (v : V) (hk : good k) (hn : ∀ e ∈ es.toList, e.key ≠ kv k) : Ents kv vv good (es.push ⟨kv k, vv v, clock⟩) (clock + 1) (l ++ [(k, v)]) :=
  ⟨by simp [h.eq], MapKept.stamped_push h.st hn, fun p hp => by
    rcases List.mem_append.1 hp with hp | hp
    · exact h.good p hp
    · simp at hp; subst hp; exact hk⟩
theorem aset_at [DecidableEq K] {l : List (K × V)} (hn : (l.map (·.1)).Nodup) {j : Nat} {k : K} {v0 : V} (hj : l[j]? = some (k, v0)) (v : V) : aset l k v = l.set j (k, v) := by
  induction l generalizing j with
  | nil => cases hj
  | cons p l ih =>
    rw [List.map_cons, List.nodup_cons] at hn
    cases j with
    | zero => simp at hj; subst hj; simp [aset]
    | succ j =>
      simp only [List.getElem?_cons_succ] at hj
      have : p.1 ≠ k := fun e => hn.1 (e ▸ List.mem_map.2 ⟨(k, v0), List.mem_of_getElem? hj, rfl⟩)
      unfold aset
      rw [if_neg this, ih hn.2 hj]; rfl
theorem adel_at [DecidableEq K] {l : List (K × V)} (hn : (l.map (·.1)).Nodup) {j : Nat} {k : K} {v0 : V} (hj : l[j]? = some (k, v0)) : adel l k = l.eraseIdx j := by
  induction l generalizing j with
  | nil => cases hj
  | cons p l ih =>
    rw [List.map_cons, List.nodup_cons] at hn
    cases j with
    | zero =>
      simp at hj; subst hj
      have : aget l k = none := aget_none.2 fun q hq e => hn.1 (e ▸ List.mem_map.2 ⟨q, hq, rfl⟩)
      have h2 := adel_none this
      unfold adel at *
      rw [List.filter_cons_of_neg (by simp), h2]; rfl
    | succ j =>
      simp only [List.getElem?_cons_succ] at hj
      have : p.1 ≠ k := fun e => hn.1 (e ▸ List.mem_map.2 ⟨(k, v0), List.mem_of_getElem? hj, rfl⟩)
      have h2 := ih hn.2 hj
      unfold adel at *
      rw [List.filter_cons_of_pos (by simp [this]), h2]; rfl
theorem run_mapUpdate [DecidableEq K] (L : KF P kt kv good) (hT : P.underlying T = some (.map kt et)) {b : Nat} {l : List (K × V)} (h : MapAt kv vv good w b l) {k : K} (hk : good k) (v : V) :
    ∃ w', (Instr.mapUpdate T (.map (some b)) (kv k) (vv v)).run P w = .ok () w' ∧ MapAt kv vv good w' b (aset l k v) ∧ Kp (· = b) w w' := by
  obtain ⟨es, c, hb, he⟩ := h
  rcases L.at_ he hk w with ⟨h1, h2, h3⟩ | ⟨j, e, v0, h1, h4, h5, h6, h7, h2⟩
  · refine ⟨{ w with heap := w.heap.setIfInBounds b (.map (es.push ⟨kv k, vv v, c⟩) (c + 1)) }, ?_, ⟨_, _, get_set hb, ?_⟩, kp_set w b _⟩
    · simp only [Instr.mapUpdate, Sem.run_bind, run_und hT, Result.andThen_ok, run_getMap hb, L.check w _ hk, h1, run_setMap hb]
    · rw [aset_new v h2]; exact he.push v hk h3
  · have hj : es[j]? = some e := by simpa using h4
    refine ⟨{ w with heap := w.heap.setIfInBounds b (.map (es.modify j fun e => { e with key := kv k, val := vv v }) c) }, ?_, ⟨_, _, get_set hb, ?_⟩, kp_set w b _⟩
    · simp only [Instr.mapUpdate, Sem.run_bind, run_und hT, Result.andThen_ok, run_getMap hb, L.check w _ hk, h1, hj, Option.map_some, Option.getD_some, h5, L.stays w hk, run_setMap hb]
    · refine ⟨?_, MapKept.stamped_modify he.st _ _ (fun _ _ => rfl) (fun e' _ he' => by rw [hj] at he'; cases he'; exact h5.symm), ?_⟩
      · rw [aset_at he.nodup h7, Array.toList_modify, Go.ChangeMaps.modify_eq_set _ _ _ _ h4, List.map_set, List.map_set, he.eq]
      · rw [aset_at he.nodup h7]
        intro p hp
        rcases List.mem_or_eq_of_mem_set hp with hp | rfl
        · exact he.good p hp
        · exact hk
theorem e_mapUpdate [DecidableEq K] (L : KF P kt kv good) (hT : P.underlying T = some (.map kt et)) {b : Nat} {l : List (K × V)} (h : MapAt kv vv good w b l) (hx : ev E x = .map (some b)) {k : K} (hy : ev E y = kv k) {v : V} (hz : ev E z = vv v) (hk : good k) :
    Eff P E (.mapUpdate T x y z) ty w fun _ w' => MapAt kv vv good w' b (aset l k v) ∧ Kp (· = b) w w' := by
  obtain ⟨w', hr, h1, h2⟩ := run_mapUpdate L hT h hk v
  exact .inr (.inl ⟨w', by simp [exe, execOp, hx, hy, hz, hr], h1, h2⟩)
theorem e_mapPut [DecidableEq K] (L : KF P kt kv good) (hT : P.underlying T = some (.map kt et)) {b : Nat} {l : List (K × V)} (h : MapAt kv vv good w b l) (hx : ev E x = .map (some b)) {k : K} (hy : ev E y = kv k) {v : V} (hz : ev E z = vv v) (hk : good k) (hn : aget l k = none) :
    Eff P E (.mapUpdate T x y z) ty w fun _ w' => MapAt kv vv good w' b (l ++ [(k, v)]) ∧ Kp (· = b) w w' := by
  have := e_mapUpdate (ty := ty) L hT h hx hy hz hk
  rw [aset_new v hn] at this; exact this
theorem e_delete [DecidableEq K] (L : KF P kt kv good) (hT : P.underlying T = some (.map kt et)) {b : Nat} {l : List (K × V)} (h : MapAt kv vv good w b l) (hx : ev E x = .map (some b)) {k : K} (hy : ev E y = kv k) (hk : good k) {t2 : TypeId} :
    Eff P E (.call { callee := .builtin .delete, args := #[x, y], argTypes := #[T, t2] }) ty w fun _ w' => MapAt kv vv good w' b (adel l k) ∧ Kp (· = b) w w' := by
  obtain ⟨es, c, hb, he⟩ := h
  rcases L.at_ he hk w with ⟨h1, h2, h3⟩ | ⟨j, e, v0, h1, h4, h5, h6, h7, h2⟩
  · refine .inl ⟨.tuple #[], { w with heap := w.heap.setIfInBounds b (.map es c) }, ?_, ⟨es, c, get_set hb, ?_⟩, kp_set w b _⟩
    · rw [exe_builtin, BigFrame.builtin_delete]
      simp [hx, hy, Builtin.delete_, run_und hT, run_getMap hb, L.check w _ hk, h1, run_setMap hb]
    · rw [adel_none h2]; exact he
  · refine .inl ⟨.tuple #[], { w with heap := w.heap.setIfInBounds b (.map (es.eraseIdxIfInBounds j) c) }, ?_, ⟨es.eraseIdxIfInBounds j, c, get_set hb, ?_⟩, kp_set w b _⟩
    · rw [exe_builtin, BigFrame.builtin_delete]
      simp [hx, hy, Builtin.delete_, run_und hT, run_getMap hb, L.check w _ hk, h1, run_setMap hb]
    · have hjl : j < es.size := by have := (List.getElem?_eq_some_iff.1 h4).1; simpa using this
      refine ⟨?_, MapKept.stamped_erase he.st j, ?_⟩
      · rw [adel_at he.nodup h7]
        have : (es.eraseIdxIfInBounds j).toList = es.toList.eraseIdx j := by
          rw [Array.eraseIdxIfInBounds, dif_pos hjl]; simp
        rw [this, eraseIdx_map', he.eq, eraseIdx_map']
      · intro p hp
        exact he.good p (List.mem_filter.1 hp).1

/-! ### a range over a map that stands still -/
/-- block r ranges over block b, a map that holds l; 'left': what is still to come; 'cur': what came last -/
def IterAt (kv : K → Value) (vv : V → Value) (good : K → Prop) (w : World) (r b : Nat) (l left : List (K × V)) (cur : Option (K × V)) : Prop :=
  ∃ es clock seen, w.heap[b]? = some (.map es clock) ∧ Ents kv vv good es clock l ∧ w.heap[r]? = some (.mapIter (some b) clock seen clock) ∧
    (es.toList.filter fun e => !seen.contains e.born).map (fun e => (e.key, e.val)) = left.map (fun p => (kv p.1, vv p.2)) ∧
    (∀ p, cur = some p → ∃ e, e ∈ es.toList ∧ seen.back? = some e.born ∧ e.key = kv p.1 ∧ e.val = vv p.2)
theorem IterAt.kp {w w' : World} {r b : Nat} {l left : List (K × V)} {cur : Option (K × V)} (h : IterAt kv vv good w r b l left cur) {F : Nat → Prop} (k : Kp F w w') (hr : ¬ F r) (hb : ¬ F b) : IterAt kv vv good w' r b l left cur := by
  obtain ⟨es, c, seen, h1, h2, h3, h4, h5⟩ := h
  exact ⟨es, c, seen, k.get h1 hb, h2, k.get h3 hr, h4, h5⟩
theorem IterAt.ltr {w : World} {r b : Nat} {l left : List (K × V)} {cur : Option (K × V)} (h : IterAt kv vv good w r b l left cur) : r < w.heap.size := by
  obtain ⟨_, _, _, _, _, h3, _⟩ := h; exact lt_of_get h3
theorem IterAt.ltb {w : World} {r b : Nat} {l left : List (K × V)} {cur : Option (K × V)} (h : IterAt kv vv good w r b l left cur) : b < w.heap.size := by
  obtain ⟨_, _, _, h1, _⟩ := h; exact lt_of_get h1
theorem IterAt.map {w : World} {r b : Nat} {l left : List (K × V)} {cur : Option (K × V)} (h : IterAt kv vv good w r b l left cur) : MapAt kv vv good w b l := by
  obtain ⟨es, c, seen, h1, h2, _⟩ := h; exact ⟨es, c, h1, h2⟩
theorem IterAt.forget {w : World} {r b : Nat} {l left : List (K × V)} {cur : Option (K × V)} (h : IterAt kv vv good w r b l left cur) : IterAt kv vv good w r b l left none := by
  obtain ⟨es, c, seen, h1, h2, h3, h4, _⟩ := h; exact ⟨es, c, seen, h1, h2, h3, h4, fun _ e => by cases e⟩
theorem e_range (hT : P.underlying T = some (.map kt et)) {b : Nat} {l : List (K × V)} (h : MapAt kv vv good w b l) (hx : ev E x = .map (some b)) :
    Eff P E (.range T x) ty w fun u w' => u = .pointer (some ⟨w.heap.size, 0, none⟩) ∧ IterAt kv vv good w' w.heap.size b l l none ∧ K0 w w' := by
  obtain ⟨es, c, hb, he⟩ := h
  refine .inl ⟨_, w.alloc (.mapIter (some b) c #[] c), ?_, rfl, ⟨es, c, #[], (Kp.alloc w _).get0 hb, he, heap_new w _, ?_, fun p e => by cases e⟩, Kp.alloc w _⟩
  · simp only [exe, execOp, hx, Instr.range, Sem.run_bind, run_und hT, Result.andThen_ok, run_getMap hb]; simp
  · have : es.toList.filter (fun e => !(#[] : Array Nat).contains e.born) = es.toList := List.filter_eq_self.2 (by simp)
    rw [this]; exact he.eq
theorem back_notin {es : Array MapEntry} {clock : Nat} (h : MapKept.Stamped es clock) (hne : es.toList ≠ []) : es.all (fun e => decide (e.born ≥ clock)) = false := by
  have h1 := ((MapKept.stamped_iff es clock).1 h).1
  cases hl : es.toList with
  | nil => exact absurd hl hne
  | cons e t =>
    rw [Array.all_eq_false]
    have hm : e ∈ es.toList := by rw [hl]; simp
    obtain ⟨j, hj, e1⟩ := List.mem_iff_getElem.1 hm
    refine ⟨j, by simpa using hj, ?_⟩
    have := h1 e hm
    simp only [Array.getElem_toList] at e1
    rw [e1]; simp; omega
theorem run_getIter {r b : Nat} {c c' : Nat} {seen : Array Nat} (h : w.heap[r]? = some (.mapIter (some b) c seen c')) : (getObj r).run P w = .ok (.mapIter (some b) c seen c') w := by
  simp only [getObj, Sem.run, h]
theorem filter_pick {α : Type} (l : List α) (f : α → Nat) (hn : (l.map f).Nodup) (s : Nat → Bool) (i : Nat) (e : α) (h : (l.filter fun a => !s (f a))[i]? = some e) :
    l.filter (fun a => !(s (f a) || f a == f e)) = (l.filter fun a => !s (f a)).eraseIdx i := by
  have h1 : l.filter (fun a => !(s (f a) || f a == f e)) = (l.filter fun a => !s (f a)).filter fun a => !(f a == f e) := by
    rw [List.filter_filter]; congr 1; funext a; cases s (f a) <;> simp
  rw [h1]
  have hn2 : ((l.filter fun a => !s (f a)).map f).Nodup := (List.filter_sublist.map f).nodup hn
  generalize (l.filter fun a => !s (f a)) = m at *
  clear h1 hn
  induction m generalizing i with
  | nil => simp at h
  | cons a m ih =>
    rw [List.map_cons, List.nodup_cons] at hn2
    cases i with
    | zero =>
      simp at h; subst h
      have : m.filter (fun b => !(f b == f a)) = m := List.filter_eq_self.2 fun b hb => by
        simp; intro e; exact hn2.1 (e ▸ List.mem_map.2 ⟨b, hb, rfl⟩)
      rw [List.filter_cons_of_neg (by simp), this]; rfl
    | succ i =>
      simp only [List.getElem?_cons_succ] at h
      have : f a ≠ f e := fun e1 => hn2.1 (e1 ▸ List.mem_map.2 ⟨e, List.mem_of_getElem? h, rfl⟩)
      rw [List.filter_cons_of_pos (by simp [this]), ih i h hn2.2]; rfl
theorem filter_pick' (l : List MapEntry) (hn : (l.map (·.born)).Nodup) (seen : Array Nat) (i : Nat) (e : MapEntry) (h : (l.filter fun a => !seen.contains a.born)[i]? = some e) :
    l.filter (fun a => !(seen.push e.born).contains a.born) = (l.filter fun a => !seen.contains a.born).eraseIdx i := by
  have h2 := filter_pick l (·.born) hn (fun n => seen.contains n) i e h
  rw [← h2]
  congr 1; funext a
  rw [Bool.eq_iff_iff]; simp
theorem e_next_done {r b : Nat} {l : List (K × V)} {cur : Option (K × V)} (h : IterAt kv vv good w r b l [] cur) (hx : ev E x = .pointer (some ⟨r, 0, none⟩)) :
    Eff P E (.next x false) ty w fun u w' => u = .tuple #[.bool false] ∧ IterAt kv vv good w' r b l [] cur ∧ K0 w w' := by
  have h0 := h
  obtain ⟨es, c, seen, h1, h2, h3, h4, _⟩ := h
  refine .inl ⟨_, w, ?_, rfl, h0, Kp.refl _ _⟩
  have hf : es.filter (fun e => !seen.contains e.born) = #[] := by
    apply Array.ext'
    have : (es.toList.filter fun e => !seen.contains e.born) = [] := by
      cases hh : (es.toList.filter fun e => !seen.contains e.born) with
      | nil => rfl
      | cons a t => rw [hh] at h4; simp at h4
    simpa using this
  have hall : (!seen.isEmpty && !es.isEmpty && es.all fun e => decide (e.born ≥ c)) = false := by
    by_cases he : es.toList = []
    · have : es.isEmpty = true := by simpa using he
      simp [this]
    · rw [back_notin h2.st he]; simp
  simp only [exe, execOp, hx, Instr.next, Sem.run_bind, run_getIter h3, Result.andThen_ok, run_getMap h1, hall, Bool.false_eq_true, if_false, Sem.run_pure, hf]
  simp [Question.forced]
theorem e_next_done' {r b : Nat} {l left : List (K × V)} {cur : Option (K × V)} (h : IterAt kv vv good w r b l left cur) (hl : left = []) (hx : ev E x = .pointer (some ⟨r, 0, none⟩)) :
    Eff P E (.next x false) ty w fun u w' => u = .tuple #[.bool false] ∧ IterAt kv vv good w' r b l left cur ∧ K0 w w' := by subst hl; exact e_next_done h hx
theorem e_next_more {r b : Nat} {l left : List (K × V)} {cur : Option (K × V)} (h : IterAt kv vv good w r b l left cur) (hne : left ≠ []) (hx : ev E x = .pointer (some ⟨r, 0, none⟩)) :
    Eff P E (.next x false) ty w fun u w' => ∃ i p, left[i]? = some p ∧ u = .tuple #[.bool true, kv p.1, vv p.2] ∧ IterAt kv vv good w' r b l (left.eraseIdx i) (some p) ∧ Kp (· = r) w w' := by
  obtain ⟨es, c, seen, h1, h2, h3, h4, h5⟩ := h
  have hst := (MapKept.stamped_iff es c).1 h2.st
  have hes : es.toList ≠ [] := fun e => by rw [e] at h4; simp at h4; exact hne h4
  have hall : (!seen.isEmpty && !es.isEmpty && es.all fun e => decide (e.born ≥ c)) = false := by rw [back_notin h2.st hes]; simp
  have hlen : (es.filter fun e => !seen.contains e.born).size = left.length := by
    have := congrArg List.length h4
    simpa [← Array.length_toList] using this
  have hold : (es.filter fun e => !seen.contains e.born).filter (fun e => decide (e.born < c)) = es.filter fun e => !seen.contains e.born := by
    apply Array.ext'
    rw [Array.toList_filter, List.filter_eq_self]
    intro e he
    have : e ∈ es.toList := by simp at he; simpa using he.1
    simpa using hst.1 e this
  have hnew : (es.filter fun e => !seen.contains e.born).filter (fun e => decide (e.born ≥ c)) = #[] := by
    apply Array.ext'
    rw [Array.toList_filter]
    apply List.filter_eq_nil_iff.2
    intro e he
    have : e ∈ es.toList := by simp at he; simpa using he.1
    have := hst.1 e this
    simp; omega
  have hpos : 0 < left.length := by cases left with | nil => exact absurd rfl hne | cons _ _ => simp
  have hemp : (es.filter fun e => !seen.contains e.born).isEmpty = false := by
    simp only [Array.isEmpty_eq_false_iff]
    intro e; rw [e] at hlen; simp at hlen; omega
  have fin : ∀ (i : Nat) (w0 : World), i < left.length → w0.heap = w.heap → w0.os = w.os → w0.tape = w.tape → w0.output = w.output →
      ∃ e p, (es.filter fun e => !seen.contains e.born)[i]? = some e ∧ left[i]? = some p ∧ e.key = kv p.1 ∧ e.val = vv p.2 ∧
        (setObj r (.mapIter (some b) c (seen.push e.born) c)).run P w0 = .ok () { w0 with heap := w0.heap.setIfInBounds r (.mapIter (some b) c (seen.push e.born) c) } ∧
        IterAt kv vv good { w0 with heap := w0.heap.setIfInBounds r (.mapIter (some b) c (seen.push e.born) c) } r b l (left.eraseIdx i) (some p) ∧
        Kp (· = r) w { w0 with heap := w0.heap.setIfInBounds r (.mapIter (some b) c (seen.push e.born) c) } := by
    intro i w0 hi e1 e2 e3 e4
    have hi' : i < (es.filter fun e => !seen.contains e.born).size := by omega
    have hg := Array.getElem?_eq_getElem hi'
    generalize (es.filter fun e => !seen.contains e.born)[i] = e at hg
    have hgl : (es.toList.filter fun e => !seen.contains e.born)[i]? = some e := by
      have := hg; rw [← Array.getElem?_toList, Array.toList_filter] at this; exact this
    have hp : left[i]? = some left[i] := List.getElem?_eq_getElem hi
    have hkv := congrArg (fun x => x[i]?) h4
    simp only [List.getElem?_map, hgl, hp, Option.map_some, Option.some.injEq, Prod.mk.injEq] at hkv
    have hem : e ∈ es.toList := (List.mem_filter.1 (List.mem_of_getElem? hgl)).1
    have hne2 : r ≠ b := fun e => by subst e; rw [h1] at h3; cases h3
    refine ⟨e, left[i], hg, hp, hkv.1, hkv.2, by simp only [setObj, Sem.run, e1, h3], ⟨es, c, seen.push e.born, ?_, h2, ?_, ?_, ?_⟩, ?_⟩
    · simp only [e1]; rw [Array.getElem?_setIfInBounds_ne hne2]; exact h1
    · have := lt_of_get h3; simp [e1, this]
    · have := filter_pick' es.toList hst.2.1 seen i e hgl
      rw [this, eraseIdx_map', h4, eraseIdx_map']
    · intro p hp'; cases hp'; exact ⟨e, hem, by simp, hkv.1, hkv.2⟩
    · exact ⟨e2, e3, e4, by simp [e1], fun k _ hk => by simp [e1, Array.getElem?_setIfInBounds_ne (Ne.symm hk)]⟩
  have hq : ∃ i w0, i < left.length ∧ w0.heap = w.heap ∧ w0.os = w.os ∧ w0.tape = w.tape ∧ w0.output = w.output ∧ (choose (.mapNext left.length)).run P w = .ok i w0 := by
    rw [run_choose]
    by_cases hl : left.length ≤ 1
    · exact ⟨0, w, hpos, rfl, rfl, rfl, rfl, by simp [Question.forced, hl]⟩
    · refine ⟨(Question.mapNext left.length).cut (w.tape w.drawn (.mapNext left.length)), w.drew, ?_, rfl, rfl, rfl, rfl, ?_⟩
      · exact Nat.mod_lt _ hpos
      · have : (Question.mapNext left.length).forced = false := by simp [Question.forced]; omega
        simp [this]
  obtain ⟨i, w0, hi, e1, e2, e3, e4, hch⟩ := hq
  obtain ⟨e, p, hg, hp, hk, hv, hset, hit, hkp⟩ := fin i w0 hi e1 e2 e3 e4
  refine .inl ⟨.tuple #[.bool true, kv p.1, vv p.2], _, ?_, i, p, hp, rfl, hit, hkp⟩
  have hcand : ((if (es.filter fun (e : MapEntry) => !seen.contains e.born).isEmpty then #[none] else #[]) ++ ((es.filter fun (e : MapEntry) => !seen.contains e.born) ++ #[]).map some : Array (Option MapEntry)) = (es.filter fun (e : MapEntry) => !seen.contains e.born).map some := by
    rw [hemp]; simp
  simp only [exe, execOp, hx, Instr.next, Sem.run_bind, run_getIter h3, Result.andThen_ok, run_getMap h1, hall, Bool.false_eq_true, if_false, Sem.run_pure, hold, hnew, hcand, Array.size_map]
  simp only [hlen, hch, Result.andThen_ok, Array.getElem?_map, hg, Option.map_some, Sem.run_bind, hset, Sem.run_pure, hk, hv]
theorem y_entry {r b : Nat} {l left : List (K × V)} {p : K × V} (h : IterAt kv vv good w r b l left (some p)) (hx : ev E x = .pointer (some ⟨r, 0, none⟩)) :
    Yld P (· = w) E (.entry x) ty (.tuple #[kv p.1, vv p.2]) := by
  intro w' hw; subst hw
  obtain ⟨es, c, seen, h1, h2, h3, h4, h5⟩ := h
  obtain ⟨e, he, hs, hk, hv⟩ := h5 p rfl
  have hst := (MapKept.stamped_iff es c).1 h2.st
  have hfind : es.find? (fun e' => e'.born == e.born) = some e := by
    rw [← Array.find?_toList]
    have hn := hst.2.1
    revert he hn
    generalize es.toList = m
    intro he hn
    induction m with
    | nil => cases he
    | cons a m ih =>
      rw [List.map_cons, List.nodup_cons] at hn
      rcases List.mem_cons.1 he with rfl | he
      · simp
      · have : a.born ≠ e.born := fun e1 => hn.1 (e1 ▸ List.mem_map.2 ⟨e, he, rfl⟩)
        rw [List.find?_cons_of_neg (by simpa using this)]
        exact ih he hn.2
  simp only [exe, execOp, hx, Instr.entry, Sem.run_bind, run_getIter h3, Result.andThen_ok, hs, run_getMap h1, bne_self_eq_false, Bool.false_eq_true, if_false, Sem.run_pure, hfind, hk, hv]
theorem perm_erase {α : Type} {l : List α} {i : Nat} {p : α} (h : l[i]? = some p) : (p :: l.eraseIdx i).Perm l := by
  induction l generalizing i with
  | nil => cases h
  | cons a l ih =>
    cases i with
    | zero => simp at h; subst h; exact List.Perm.refl _
    | succ i =>
      simp only [List.getElem?_cons_succ] at h
      rw [List.eraseIdx_cons_succ]
      exact (List.Perm.swap a p _).trans ((ih h).cons a)
theorem len_erase {α : Type} {l : List α} {i : Nat} {p : α} (h : l[i]? = some p) : (l.eraseIdx i).length < l.length := by
  have := (perm_erase h).length_eq
  simp only [List.length_cons] at this
  omega
/-- what came and what is to come -/
theorem perm_step {α : Type} {l d left : List α} {i : Nat} {p : α} (h : (d ++ left).Perm l) (hp : left[i]? = some p) : ((d ++ [p]) ++ left.eraseIdx i).Perm l := by
  rw [List.append_assoc]
  exact ((perm_erase hp).append_left d).trans h
theorem inI_of {n : Int} (h1 : -9223372036854775808 ≤ n) (h2 : n ≤ 9223372036854775807) : -9223372036854775808 ≤ n ∧ n ≤ 9223372036854775807 := ⟨h1, h2⟩
end
end Go.V
