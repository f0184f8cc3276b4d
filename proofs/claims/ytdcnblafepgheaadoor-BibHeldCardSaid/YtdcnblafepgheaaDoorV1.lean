/-
  The operations, one law each, over the judgements of V0. Of whatever program; what is asked of the program's types are small facts, each proved once.
-/
import Derived.Test.YtdcnblafepgheaaDoorV0
namespace Go.V
open Go

/-! ### facts on types -/
/-- a variable of this type is one cell -/
def TySc (P : Program) (t : TypeId) : Prop := (∀ w, (isAgg t).run P w = .ok false w) ∧ ∀ w, (sizeOf t).run P w = .ok 1 w
/-- a struct or an array of n cells -/
def TyAgg (P : Program) (t : TypeId) (n : Nat) : Prop := (∀ w, (isAgg t).run P w = .ok true w) ∧ ∀ w, (sizeOf t).run P w = .ok n w
def TySz (P : Program) (t : TypeId) (n : Nat) : Prop := ∀ w, (sizeOf t).run P w = .ok n w
theorem TySc.sz {P : Program} {t : TypeId} (h : TySc P t) : TySz P t 1 := h.2
theorem TyAgg.sz {P : Program} {t : TypeId} {n : Nat} (h : TyAgg P t n) : TySz P t n := h.2
def TyZero (P : Program) (t : TypeId) (v : Value) : Prop := ∀ w, (zeroValue t).run P w = .ok v w
def FldOff (P : Program) (s : TypeId) (k off : Nat) : Prop := ∃ fs f, P.underlying s = some (.struct fs) ∧ fs[k]? = some f ∧ f.offset = off ∧ ∃ n, TySz P f.type (n + 1)
def SlcOf (P : Program) (t e : TypeId) : Prop := P.underlying t = some (.slice e)
def ArrOf (P : Program) (t : TypeId) (n : Nat) (e : TypeId) : Prop := P.underlying t = some (.array n e)

/-! ### rows of cells -/
abbrev Vp (b o : Nat) : Value := .pointer (some ⟨b, o, none⟩)
abbrev Vi (n : Int) : Value := .int .i64 n
abbrev Vt : Value := .bool true
abbrev Vf : Value := .bool false
abbrev U0 : Value := .int .u8 0
abbrev zBc : List Value := [Vi 0, Vi 0, U0, U0, U0, U0, U0, U0, U0, U0, U0, U0, U0, U0, U0, U0, U0, U0, Vi 0, U0, U0, U0, U0, Vi 0, Vf, Vi 0]
theorem nl {a b c : Nat} (h : a ≤ b) (k : b ≤ c) : a ≤ c := Nat.le_trans h k
theorem nt {a b c : Nat} (h : a < b) (k : b ≤ c) : a < c := Nat.lt_of_lt_of_le h k
abbrev Blk (w : World) (b : Nat) (cs : Array Value) (T : TypeId) : Prop := w.heap[b]? = some (.cells cs T (0, 0))
/-- block b is o in every world of W -/
def On (W : World → Prop) (b : Nat) (o : Obj) : Prop := ∀ w, W w → w.heap[b]? = some o
theorem On.now {w : World} {b : Nat} {o : Obj} (h : w.heap[b]? = some o) : On (· = w) b o := fun _ e => by cases e; exact h
theorem On.kp {F : Nat → Prop} {w : World} {b : Nat} {o : Obj} (h : w.heap[b]? = some o) (hn : ¬ F b) : On (Kp F w) b o := fun _ k => k.get h hn
theorem add_eq (b o j : Nat) : (⟨b, o, none⟩ : Addr).add j = ⟨b, o + j, none⟩ := by
  unfold Addr.add; split
  · rename_i h; subst h; rfl
  · rfl
theorem cell_of {w : World} {b : Nat} {cs : Array Value} {T : TypeId} {fz : Nat × Nat} (h : w.heap[b]? = some (.cells cs T fz)) (i : Nat) : w.cell? ⟨b, i, none⟩ = cs[i]? := by
  unfold World.cell?; rw [h]; rfl
theorem frozen_of {w : World} {b : Nat} {cs : Array Value} {T : TypeId} (h : Blk w b cs T) (i : Nat) : w.frozen? ⟨b, i, none⟩ = false := by
  unfold World.frozen?; rw [h]; simp

/-- what is read at a place in every world of W -/
def Rd (P : Program) (W : World → Prop) (t : TypeId) (p : Addr) (v : Value) : Prop := ∀ w, W w → (loadVar t p).run P w = .ok v w
theorem rd_sc {P : Program} {W : World → Prop} {t T : TypeId} {b o : Nat} {cs : Array Value} {fz : Nat × Nat} {v : Value} (ht : TySc P t) (h : On W b (.cells cs T fz)) (hc : cs[o]? = some v) : Rd P W t ⟨b, o, none⟩ v := by
  intro w hw
  have h1 := cell_of (h w hw) o
  rw [hc] at h1
  simp [loadVar, ht.1 w, h1]
theorem run_loadRow {P : Program} {w : World} {b o : Nat} {vs : List Value} (h : ∀ j v, vs[j]? = some v → w.cell? ⟨b, o + j, none⟩ = some v) : (loadCells ⟨b, o, none⟩ vs.length).run P w = .ok vs.toArray w :=
  run_loadCells_list w _ vs fun j v hj => by rw [add_eq]; exact h j v hj
theorem rd_agg {P : Program} {W : World → Prop} {t T : TypeId} {b o n : Nat} {cs : Array Value} {fz : Nat × Nat} {vs : List Value} (ht : TyAgg P t n) (h : On W b (.cells cs T fz))
    (hc : (cs.toList.drop o).take n = vs) (hn : vs.length = n) : Rd P W t ⟨b, o, none⟩ (.agg vs.toArray) := by
  intro w hw
  have hrow : ∀ j v, vs[j]? = some v → w.cell? ⟨b, o + j, none⟩ = some v := by
    intro j v hj
    rw [cell_of (h w hw)]
    subst hc
    have hjn : j < n := by
      rcases Nat.lt_or_ge j n with h' | h'
      · exact h'
      · rw [List.getElem?_eq_none (by simp; omega)] at hj; cases hj
    rw [List.getElem?_take_of_lt hjn, List.getElem?_drop] at hj
    simpa using hj
  have := run_loadRow (P := P) hrow
  subst hn
  simp [loadVar, ht.1 w, ht.2 w, this]

/-- the cells vs laid over cs from o on -/
def splice (cs : Array Value) (o : Nat) (vs : List Value) : Array Value := (cs.toList.take o ++ vs ++ cs.toList.drop (o + vs.length)).toArray
theorem splice_cons (cs : Array Value) (o : Nat) (v : Value) (vs : List Value) (h : o + (vs.length + 1) ≤ cs.size) : splice (cs.setIfInBounds o v) (o + 1) vs = splice cs o (v :: vs) := by
  apply Array.ext'
  simp only [splice, List.length_cons, Array.toList_setIfInBounds]
  have h1 : (cs.toList.set o v).take (o + 1) = cs.toList.take o ++ [v] := by
    rw [List.set_eq_take_append_cons_drop, if_pos (by simp; omega)]
    have hl : (cs.toList.take o).length = o := by simp; omega
    rw [List.take_append, hl, List.take_of_length_le (by omega)]
    simp
  have h2 : (cs.toList.set o v).drop (o + 1 + vs.length) = cs.toList.drop (o + (vs.length + 1)) := by
    rw [List.drop_set_of_lt (by omega)]
    congr 1; omega
  rw [h1, h2]
  simp
theorem splice_nil (cs : Array Value) (o : Nat) : splice cs o [] = cs := by
  apply Array.ext'
  simp [splice]
theorem kp_setCell (w : World) (b i : Nat) (v : Value) : Kp (· = b) w (w.setCell ⟨b, i, none⟩ v) :=
  ⟨rfl, rfl, rfl, by simp, fun k _ hk => RowKit.Below.heap_setCell w ⟨b, i, none⟩ v k hk⟩
theorem blk_setCell {w : World} {b : Nat} {cs : Array Value} {T : TypeId} (h : Blk w b cs T) (i : Nat) (v : Value) : Blk (w.setCell ⟨b, i, none⟩ v) b (cs.setIfInBounds i v) T := by
  simp only [Blk, World.setCell, Array.getElem?_modify, if_true]
  rw [h]; rfl
theorem run_storeCells {P : Program} {b : Nat} {T : TypeId} : ∀ (vs : List Value) (o i : Nat) (cs : Array Value) (w : World), Blk w b cs T → o + i + vs.length ≤ cs.size → (∀ v ∈ vs, v.oneCell' = true) →
    ∃ w', (storeCells ⟨b, o, none⟩ vs i).run P w = .ok () w' ∧ Blk w' b (splice cs (o + i) vs) T ∧ Kp (· = b) w w'
  | [], o, i, cs, w, h, _, _ => ⟨w, rfl, by rw [splice_nil]; exact h, Kp.refl _ _⟩
  | v :: vs, o, i, cs, w, h, hl, h1 => by
    simp only [List.length_cons] at hl
    have hv := h1 v (by simp)
    have hc : w.cell? ⟨b, o + i, none⟩ = some cs[o + i] := by rw [cell_of h, Array.getElem?_eq_getElem]
    have hst : (store ⟨b, o + i, none⟩ v).run P w = .ok () (w.setCell ⟨b, o + i, none⟩ v) := by
      rw [run_store P w _ v .plain hv, hc]; simp [frozen_of h]
    obtain ⟨w', hr, hb, hk⟩ := run_storeCells (P := P) vs o (i + 1) (cs.setIfInBounds (o + i) v) (w.setCell ⟨b, o + i, none⟩ v) (blk_setCell h _ v) (by simp; omega) (fun u hu => h1 u (by simp [hu]))
    refine ⟨w', ?_, ?_, (kp_setCell w b (o + i) v).trans hk fun _ _ e => e⟩
    · unfold storeCells
      rw [add_eq]
      simp [hst, hr]
    · rw [← Nat.add_assoc, splice_cons cs (o + i) v vs (by omega)] at hb
      exact hb

/-! ### what yields -/
section
variable {P : Program} {W : World → Prop} {E : Env} {ty : TypeId} {x y z : Operand}
theorem y_move {v : Value} (h : ev E x = v) : Yld P W E (.move x) ty v := fun _ _ => by subst h; rfl
theorem y_assign {v : Value} (h : ev E x = v) : Yld P W E (.assign x) ty v := fun _ _ => by subst h; rfl
theorem y_pick_t {v : Value} (hc : ev E x = .bool true) (h : ev E y = v) : Yld P W E (.pick x y z) ty v := fun _ _ => by simp [exe, execOp, hc, h, asBool]
theorem y_pick_f {v : Value} (hc : ev E x = .bool false) (h : ev E z = v) : Yld P W E (.pick x y z) ty v := fun _ _ => by simp [exe, execOp, hc, h, asBool]
theorem y_nil {p : Addr} (h : ev E x = .pointer (some p)) : Yld P W E (.nilCheck x) ty (.pointer (some p)) := fun _ _ => by simp [exe, execOp, h]
theorem y_ext {vs : Array Value} {i : Nat} {v : Value} (h : ev E x = .tuple vs) (hi : vs[i]? = some v) : Yld P W E (.extract x i) ty v := fun _ _ => by simp [exe, execOp, h, Instr.extract, hi]
theorem y_load {t : TypeId} {p : Addr} {v : Value} (h : ev E x = .pointer (some p)) (hr : Rd P W t p v) : Yld P W E (.load t x) ty v := fun w hw => by simp [exe, execOp, h, Instr.loadAt, Instr.sureAddr, hr w hw]
theorem run_und {t : TypeId} {d : TypeDesc} (h : P.underlying t = some d) (w : World) : (underlying t).run P w = .ok d w := by simp [underlying, h]
theorem y_fld {s : TypeId} {k off b o : Nat} (hf : FldOff P s k off) (h : ev E x = .pointer (some ⟨b, o, none⟩)) : Yld P W E (.fieldAddr s x k) ty (.pointer (some ⟨b, o + off, none⟩)) := by
  intro w _
  obtain ⟨fs, f, hu, hk, ho, n, hs⟩ := hf
  simp [exe, execOp, h, Instr.fieldAt, run_und hu, hk, Instr.sureAddr, fieldPlace, hs w, add_eq, ho]
theorem y_idx {t e : TypeId} {b o len cap i n : Nat} (ht : SlcOf P t e) (he : TySz P e n) (h : ev E x = .slice (some ⟨b, o, none⟩) len cap) {ki : IntKind} (hi : ev E y = .int ki i) (hl : i < len) :
    Yld P W E (.indexAddr t x y) ty (.pointer (some ⟨b, o + i * n, none⟩)) := by
  intro w _
  simp [exe, execOp, h, hi, Instr.indexAt, asIntOf, run_und ht, he w, add_eq, hl]
theorem y_idxA {t e : TypeId} {b o len i n : Nat} (ht : ArrOf P t len e) (he : TySz P e n) (h : ev E x = .pointer (some ⟨b, o, none⟩)) {ki : IntKind} (hi : ev E y = .int ki i) (hl : i < len) :
    Yld P W E (.indexAddr t x y) ty (.pointer (some ⟨b, o + i * n, none⟩)) := by
  intro w _
  simp [exe, execOp, h, hi, Instr.indexAt, asIntOf, run_und ht, Instr.sureAddr, he w, add_eq, hl]
theorem y_not {b : Bool} {t : TypeId} (h : ev E x = .bool b) : Yld P W E (.unOp .not t x) ty (.bool !b) := fun _ _ => by simp [exe, execOp, h, Op.unary]
theorem y_notd {p : Prop} [Decidable p] {t : TypeId} (h : ev E x = .bool (decide p)) : Yld P W E (.unOp .not t x) ty (.bool (decide ¬p)) := fun _ _ => by simp [exe, execOp, h, Op.unary]
/-! integers -/
theorem wrap_i64 {n : Int} (h : -9223372036854775808 ≤ n ∧ n ≤ 9223372036854775807) : IntKind.i64.wrap n = n := IntWalk.i64_in n h
section
variable {k : IntKind} {a b : Int} {t t' : TypeId} (hx : ev E x = .int k a) (hy : ev E y = .int k b)
include hx hy
theorem y_addw : Yld P W E (.binOp .add t x y t') ty (.int k (k.wrap (a + b))) := fun _ _ => by simp [exe, execOp, hx, hy, eqGuard, binOp, Op.intArith]
theorem y_subw : Yld P W E (.binOp .sub t x y t') ty (.int k (k.wrap (a - b))) := fun _ _ => by simp [exe, execOp, hx, hy, eqGuard, binOp, Op.intArith]
theorem y_mulw : Yld P W E (.binOp .mul t x y t') ty (.int k (k.wrap (a * b))) := fun _ _ => by simp [exe, execOp, hx, hy, eqGuard, binOp, Op.intArith]
theorem y_lss : Yld P W E (.binOp .lss t x y t') ty (.bool (decide (a < b))) := fun _ _ => by simp [exe, execOp, hx, hy, eqGuard, binOp, Op.intCmp]
theorem y_leq : Yld P W E (.binOp .leq t x y t') ty (.bool (decide (a ≤ b))) := fun _ _ => by simp [exe, execOp, hx, hy, eqGuard, binOp, Op.intCmp]
theorem y_gtr : Yld P W E (.binOp .gtr t x y t') ty (.bool (decide (b < a))) := fun _ _ => by simp [exe, execOp, hx, hy, eqGuard, binOp, Op.intCmp]
theorem y_geq : Yld P W E (.binOp .geq t x y t') ty (.bool (decide (b ≤ a))) := fun _ _ => by simp [exe, execOp, hx, hy, eqGuard, binOp, Op.intCmp]
theorem y_eql : Yld P W E (.binOp .eql t x y t') ty (.bool (decide (a = b))) := fun _ _ => by
  have : (a == b) = decide (a = b) := by by_cases h : a = b <;> simp [h]
  simp [exe, execOp, hx, hy, eqGuard, binOp, Op.intCmp, this]
theorem y_neq : Yld P W E (.binOp .neq t x y t') ty (.bool (decide (a ≠ b))) := fun _ _ => by
  have : (a != b) = decide (a ≠ b) := by by_cases h : a = b <;> simp [h]
  simp [exe, execOp, hx, hy, eqGuard, binOp, Op.intCmp, this]
end
section
variable {a b : Int} {t t' : TypeId} (hx : ev E x = .int .i64 a) (hy : ev E y = .int .i64 b)
include hx hy
omit hx hy in
theorem y_add {c : Int} (hx : ev E x = .int .i64 a) (hy : ev E y = .int .i64 b) (hr : -9223372036854775808 ≤ c ∧ c ≤ 9223372036854775807) (hc : a + b = c) : Yld P W E (.binOp .add t x y t') ty (.int .i64 c) := by
  have := y_addw (P := P) (W := W) (t := t) (t' := t') (ty := ty) hx hy; rw [hc, wrap_i64 hr] at this; exact this
omit hx hy in
theorem y_sub {c : Int} (hx : ev E x = .int .i64 a) (hy : ev E y = .int .i64 b) (hr : -9223372036854775808 ≤ c ∧ c ≤ 9223372036854775807) (hc : a - b = c) : Yld P W E (.binOp .sub t x y t') ty (.int .i64 c) := by
  have := y_subw (P := P) (W := W) (t := t) (t' := t') (ty := ty) hx hy; rw [hc, wrap_i64 hr] at this; exact this
omit hx hy in
theorem y_mul {c : Int} (hx : ev E x = .int .i64 a) (hy : ev E y = .int .i64 b) (hr : -9223372036854775808 ≤ c ∧ c ≤ 9223372036854775807) (hc : a * b = c) : Yld P W E (.binOp .mul t x y t') ty (.int .i64 c) := by
  have := y_mulw (P := P) (W := W) (t := t) (t' := t') (ty := ty) hx hy; rw [hc, wrap_i64 hr] at this; exact this
end
/-! nil -/
section
variable {t k e : TypeId} {w : World} (d : Nat)
theorem eqIn_pn {p : Addr} (ht : P.underlying t = some (.pointer e)) : (Op.equalIn (d + 1) t (.pointer (some p)) (.pointer none)).run P w = .ok false w := by simp [Op.equalIn, run_und ht]
theorem eqIn_nn (ht : P.underlying t = some (.pointer e)) : (Op.equalIn (d + 1) t (.pointer none) (.pointer none)).run P w = .ok true w := by simp [Op.equalIn, run_und ht]
theorem eqIn_mn {r : Nat} (ht : P.underlying t = some (.map k e)) : (Op.equalIn (d + 1) t (.map (some r)) (.map none)).run P w = .ok false w := by simp [Op.equalIn, run_und ht]
theorem eqIn_b {a b : Bool} (ht : P.underlying t = some .bool) : (Op.equalIn (d + 1) t (.bool a) (.bool b)).run P w = .ok (a == b) w := by simp [Op.equalIn, run_und ht]
end
theorem y_peq {t t' : TypeId} {e : TypeId} {p : Addr} (ht : P.underlying t = some (.pointer e)) (hx : ev E x = .pointer (some p)) (hy : ev E y = .pointer none) : Yld P W E (.binOp .eql t x y t') ty (.bool false) := fun _ _ => by
  simp [exe, execOp, hx, hy, eqGuard, binOp, Op.equal, Op.maxDepth, eqIn_pn 9999 ht]
theorem y_peq0 {t t' : TypeId} {e : TypeId} (ht : P.underlying t = some (.pointer e)) (hx : ev E x = .pointer none) (hy : ev E y = .pointer none) : Yld P W E (.binOp .eql t x y t') ty (.bool true) := fun _ _ => by
  simp [exe, execOp, hx, hy, eqGuard, binOp, Op.equal, Op.maxDepth, eqIn_nn 9999 ht]
theorem y_meq {t t' k e : TypeId} {r : Nat} (ht : P.underlying t = some (.map k e)) (hx : ev E x = .map (some r)) (hy : ev E y = .map none) : Yld P W E (.binOp .eql t x y t') ty (.bool false) := fun _ _ => by
  simp [exe, execOp, hx, hy, eqGuard, binOp, Op.equal, Op.maxDepth, eqIn_mn 9999 ht]
theorem y_beql {t t' : TypeId} {a b : Bool} (ht : P.underlying t = some .bool) (hx : ev E x = .bool a) (hy : ev E y = .bool b) : Yld P W E (.binOp .eql t x y t') ty (.bool (a == b)) := fun _ _ => by
  simp [exe, execOp, hx, hy, eqGuard, binOp, Op.equal, Op.maxDepth, eqIn_b 9999 ht]
theorem y_bneq {t t' : TypeId} {a b : Bool} (ht : P.underlying t = some .bool) (hx : ev E x = .bool a) (hy : ev E y = .bool b) : Yld P W E (.binOp .neq t x y t') ty (.bool (!(a == b))) := fun _ _ => by
  simp [exe, execOp, hx, hy, eqGuard, binOp, Op.equal, Op.maxDepth, eqIn_b 9999 ht]
/-! strings -/
theorem y_sadd {s u : ByteArray} {t t' : TypeId} (hx : ev E x = .string s) (hy : ev E y = .string u) (hl : s.size + u.size ≤ 9223372036854775807) : Yld P W E (.binOp .add t x y t') ty (.string (s ++ u)) := fun _ _ => by
  have h2 : (s.size : Int) + (u.size : Int) ≤ 9223372036854775807 := by omega
  simp [exe, execOp, hx, hy, eqGuard, binOp, Op.stringOp]
  exact h2
/-! what is put together: the kernel reckons -/
theorem map_list {α β : Type} (f : α → β) (xs : Array α) : xs.map f = (xs.toList.map f).toArray := by apply Array.ext'; simp
theorem y_build {t : TypeId} {parts : Array (Nat × Operand)} {vs : List (Nat × Value)} {v : Value} (hp : parts.toList.map (fun p => (p.1, ev E p.2)) = vs) (h : ∀ w, (Instr.build t vs.toArray).run P w = .ok v w) : Yld P W E (.build t parts) ty v := fun w _ => by
  subst hp
  rw [← map_list] at h
  have := h w
  simp only [exe, execOp, Sem.run_bind]
  rw [this]; rfl
/-! len -/
theorem exe_builtin (bi : Builtin) (xs : Array Operand) (ats : Array TypeId) : exe E (.call { callee := .builtin bi, args := xs, argTypes := ats }) ty = builtin bi ats ty (xs.map fun | .const _ => true | _ => false) (xs.map (ev E)) := rfl
theorem y_lenS {t : TypeId} {e : TypeId} {a : Option Addr} {n c : Nat} (ht : SlcOf P t e) (h : ev E x = .slice a n c) : Yld P W E (.call { callee := .builtin .len, args := #[x], argTypes := #[t] }) ty (.int .i64 n) := fun w _ => by
  rw [exe_builtin, BigFrame.builtin_len]
  simp [h, Builtin.len_, run_und ht, goInt]
theorem run_getMap {w : World} {r : Nat} {es : Array MapEntry} {c : Nat} (h : w.heap[r]? = some (.map es c)) : (getObj r).run P w = .ok (.map es c) w := by
  simp only [getObj, Sem.run, h]
end

/-! ### what turns the world -/
section
variable {P : Program} {E : Env} {ty : TypeId} {x y z : Operand} {w : World}
theorem heap_new (w : World) (o : Obj) : (w.alloc o).heap[w.heap.size]? = some o := by
  show (w.heap.push o)[w.heap.size]? = _
  simp
theorem e_alloc {t : TypeId} {v : Value} (hz : TyZero P t v) : Eff P E (.alloc t) ty w fun u w' => u = .pointer (some ⟨w.heap.size, 0, none⟩) ∧ Blk w' w.heap.size v.cells t ∧ K0 w w' := by
  refine .inl ⟨_, w.alloc (.cells v.cells t), ?_, rfl, heap_new w _, Kp.alloc w _⟩
  simp [exe, execOp, Instr.alloc, hz w, newVar, newRow]
theorem e_box {t : TypeId} {v : Value} (h : ev E x = v) : Eff P E (.box t x) ty w fun u w' => u = .pointer (some ⟨w.heap.size, 0, none⟩) ∧ Blk w' w.heap.size v.cells t ∧ K0 w w' := by
  refine .inl ⟨_, w.alloc (.cells v.cells t), ?_, rfl, heap_new w _, Kp.alloc w _⟩
  simp [exe, execOp, Instr.box, h, newVar, newRow]
theorem e_store {t T : TypeId} {b o : Nat} {cs cs' : Array Value} {v : Value} (hx : ev E x = .pointer (some ⟨b, o, none⟩)) (hy : ev E y = v) (hs : TySz P t v.cells.size) (hb : Blk w b cs T) (hl : o + v.cells.size ≤ cs.size)
    (h1 : ∀ u ∈ v.cells.toList, u.oneCell' = true) (hc : splice cs o v.cells.toList = cs') : Eff P E (.store t x y) ty w fun _ w' => Blk w' b cs' T ∧ Kp (· = b) w w' := by
  obtain ⟨w', hr, hb', hk⟩ := run_storeCells (P := P) v.cells.toList o 0 cs w hb (by simpa using hl) h1
  refine .inr (.inl ⟨w', ?_, by rw [← hc]; exact hb', hk⟩)
  simp [exe, execOp, hx, hy, Instr.storeAt, Instr.sureAddr, storeVar, hs w, hr]
theorem run_callFunc {f : FuncId} {fn : Func} {args : Array Value} (hf : P.funcs[f]? = some fn) (hb : fn.body.isNone = false) (hn : (fn.name == "runtime.NumGoroutine") = false) : (callFunc f args).run P w = .ok (.enter f args) w := by
  simp only [callFunc, Sem.run_bind, run_program, Result.andThen_ok, hf, hn, hb, if_false, Bool.false_eq_true, Sem.run_pure]
/-- a function of the program that has a body -/
def Cal (P : Program) (f : FuncId) : Prop := ∀ args w, (callFunc f args).run P w = .ok (.enter f args) w
theorem Cal.mk' {f : FuncId} {fn : Func} (hf : P.funcs[f]? = some fn) (hb : fn.body.isNone = false) (hn : (fn.name == "runtime.NumGoroutine") = false) : Cal P f := fun _ _ => run_callFunc hf hb hn
theorem e_call {f : FuncId} {xs : Array Operand} {ats : Array TypeId} {args : List Value} {R : Value → World → Prop} (hc : Cal P f)
    (ha : xs.toList.map (ev E) = args) (h : Rets P f args.toArray w R) : Eff P E (.call { callee := .value (.func f), args := xs, argTypes := ats }) ty w R := by
  subst ha
  rw [← map_list] at h
  refine .inr (.inr ⟨f, _, w, ?_, h⟩)
  simp [exe, execOp, resolve, ev, Deferred.ofValue, invoke, hc _ w]
theorem e_makeMap {t : TypeId} : Eff P E (.makeMap t none) ty w fun u w' => u = .map (some w.heap.size) ∧ w'.heap[w.heap.size]? = some (.map #[] 0) ∧ K0 w w' := by
  refine .inl ⟨_, w.alloc (.map #[] 0), ?_, rfl, heap_new w _, Kp.alloc w _⟩
  simp [exe, execOp, Instr.makeMap]
theorem e_buildSlice {t e : TypeId} {n : Nat} {parts : Array (Nat × Operand)} {vs : List (Nat × Value)} {cs : Array Value} (hp : parts.toList.map (fun p => (p.1, ev E p.2)) = vs)
    (h : ∀ w, (Instr.buildSlice t n vs.toArray).run P w = .ok (.slice (some ⟨w.heap.size, 0, none⟩) n n) (w.alloc (.cells cs e))) :
    Eff P E (.buildSlice t n parts) ty w fun u w' => u = .slice (some ⟨w.heap.size, 0, none⟩) n n ∧ Blk w' w.heap.size cs e ∧ K0 w w' := by
  refine .inl ⟨_, w.alloc (.cells cs e), ?_, rfl, heap_new w _, Kp.alloc w _⟩
  subst hp
  rw [← map_list] at h
  have := h w
  simp only [exe, execOp, Sem.run_bind]
  rw [this]; rfl
end

/-! ### entering and leaving a function -/
/-- what a result's variable hands back -/
def Res1 (P : Program) (E : Env) (w : World) : ResultVar → Value → Prop
  | .tmp t, v => E t = v
  | .cell p t, v => ∃ a, E p = .pointer (some a) ∧ Rd P (· = w) t a v
def ResL (P : Program) (E : Env) (w : World) : List ResultVar → List Value → Prop
  | [], [] => True
  | r :: rs, v :: vs => Res1 P E w r v ∧ ResL P E w rs vs
  | _, _ => False
def tup : List Value → Value
  | [v] => v
  | vs => .tuple vs.toArray
def resOf (tmps : Array Value) : ResultVar → Sem Value
  | .tmp t => pure (tmps.getD t undef)
  | .cell a t => do loadVar t (← asAddr (tmps.getD a undef))
theorem run_resOf {P : Program} {E : Env} {tmps : Array Value} (ht : ∀ t, tmps.getD t undef = E t) {w : World} {r : ResultVar} {v : Value} (h : Res1 P E w r v) : (resOf tmps r).run P w = .ok v w := by
  cases r with
  | tmp t =>
    have h1 : E t = v := h
    simp [resOf, ht, h1]
  | cell a t =>
    obtain ⟨p, hp, hr⟩ := h
    have hrun := hr w rfl
    have e : tmps.getD a undef = .pointer (some p) := (ht a).trans hp
    show (do loadVar t (← asAddr (tmps.getD a undef)) : Sem Value).run P w = _
    rw [e]
    simp [asAddr, hrun]
theorem mapM_res {P : Program} {E : Env} {tmps : Array Value} (ht : ∀ t, tmps.getD t undef = E t) {w : World} : ∀ (rs : List ResultVar) (vs : List Value), ResL P E w rs vs → (rs.mapM (resOf tmps)).run P w = .ok vs w
  | [], [], _ => rfl
  | [], _ :: _, h => h.elim
  | _ :: _, [], h => h.elim
  | r :: rs, v :: vs, h => by
    have ih := mapM_res ht rs vs h.2
    rw [List.mapM_cons]
    simp only [Sem.run_bind, run_resOf ht h.1, Result.andThen_ok, ih, Sem.run_pure]
theorem results_run {P : Program} {fn : Func} {E : Env} {a : Act} {n : Nat} {w : World} {vs : List Value} (ha : Fits n E a) (h : ResL P E w fn.results.toList vs) : (results fn a.tmps).run P w = .ok (tup vs) w := by
  have h1 := mapM_res ha.at_ fn.results.toList vs h
  have e : results fn a.tmps = (do let vs ← fn.results.mapM (resOf a.tmps); pure (if h : vs.size = 1 then vs[0] else .tuple vs)) := by
    unfold results
    congr 2
  rw [e, Array.mapM_eq_mapM_toList]
  simp only [Sem.run_bind, Sem.run_map, h1, Result.andThen_ok]
  match vs with
  | [] => rfl
  | [v] => rfl
  | u :: v :: vs => simp [tup]
/-- Entering. What is asked at a 'return': what the results hold, and R of that. -/
theorem enter {P : Program} {f : FuncId} {fn : Func} {c : Code} {n : Nat} {args : Array Value} {w : World} {R : Value → World → Prop} (hf : P.funcs[f]? = some fn) (hb : fn.body = some c) (hn : fn.ntmps = n) (ha : Nat.ble args.size n = true)
    (h : ∀ Q : Exit → Env → World → Prop, (∀ E w' vs, ResL P E w' fn.results.toList vs → R (tup vs) w' → Q .ret E w') → (∀ E w' vs, ResL P E w' fn.results.toList vs → R (tup vs) w' → Q .normal E w') →
      ∀ E : Env, (∀ t, E t = args.getD t undef) → wpC P n c Q E w) : Rets P f args w R := by
  have ha' : args.size ≤ n := Nat.le_of_ble_eq_true ha
  unfold Rets
  refine calls_of_wp hf hb ?_
  have h1 := h (fun e E w' => (e = .ret ∨ e = .normal) ∧ ∃ vs, ResL P E w' fn.results.toList vs ∧ R (tup vs) w') (fun E w' vs h1 h2 => ⟨.inl rfl, vs, h1, h2⟩) (fun E w' vs h1 h2 => ⟨.inr rfl, vs, h1, h2⟩) (fun t => args.getD t undef) (fun t => rfl)
  refine wp_mono (h1 _ ⟨rfl, by simp [hn]; omega, fun t => ?_⟩) fun e a w' hq => ?_
  · simp only [Array.getD_eq_getD_getElem?, Array.getElem?_append]
    split
    · rfl
    · rename_i ht
      rw [Array.getElem?_eq_none (by omega : args.size ≤ t)]
      by_cases h2 : t - args.size < fn.ntmps - args.size
      · simp [h2]
      · rw [Array.getElem?_eq_none (by simpa using h2)]
  · cases e with
    | ret => obtain ⟨E, hE, _, vs, h1, h2⟩ := hq; exact ⟨hE.defers, tup vs, results_run hE h1, tup vs, rfl, h2⟩
    | normal => obtain ⟨E, hE, _, vs, h1, h2⟩ := hq; exact ⟨hE.defers, tup vs, results_run hE h1, tup vs, rfl, h2⟩
    | exit id => obtain ⟨E, hE, h0, _⟩ := hq; rcases h0 with h0 | h0 <;> cases h0
    | goto l => obtain ⟨E, hE, h0, _⟩ := hq; rcases h0 with h0 | h0 <;> cases h0
    | panic c => exact hq.elim
    | outgrown => exact hq.elim

/-! ### lists of operands -/
theorem arr_ev2 {E : Env} {x1 x2 : Operand} {a1 a2 : Value} (h1 : ev E x1 = a1) (h2 : ev E x2 = a2) : ([x1, x2] : List Operand).map (ev E) = [a1, a2] := by
  subst h1; subst h2; rfl
/-! ### the environment, forgotten but for some slots -/
def Has (E : Env) : List (Nat × Value) → Prop
  | [] => True
  | p :: r => E p.1 = p.2 ∧ Has E r
theorem genC {P : Program} {n : Nat} {c : Code} {Q : Exit → Env → World → Prop} {E' : Env} {w : World} (L : List (Nat × Value)) (hL : Has E' L) (h : ∀ E, Has E L → wpC P n c Q E w) : wpC P n c Q E' w := h E' hL
end Go.V
