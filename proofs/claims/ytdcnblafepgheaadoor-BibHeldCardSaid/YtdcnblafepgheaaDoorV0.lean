/-
  How a walk goes here: the judgements over an environment of slots (a function, not an array), the control's rules, the regions' rules. Of whatever program.
-/
import Derived.WalkKit
import Derived.OrdersHeld
import Derived.KernelRfl
namespace Go.V
open Go

abbrev Env := Nat → Value
def put (E : Env) (d : Nat) (v : Value) : Env := fun t => bif Nat.beq t d then v else E t
theorem put_same (E : Env) (d : Nat) (v : Value) : put E d v d = v := by
  simp [put]
theorem put_ne (E : Env) {d t : Nat} (v : Value) (h : t ≠ d) : put E d v t = E t := by
  have : Nat.beq t d = false := by
    cases hb : Nat.beq t d
    · rfl
    · exact absurd (Nat.eq_of_beq_eq_true hb) h
  simp [put, this]
def ev (E : Env) : Operand → Value
  | .tmp t => E t
  | .const v => v
  | .global g => .pointer (some ⟨g, 0, none⟩)
  | .func f => .func (.func f) #[] #[]

/-- The frame holds just what the environment says. -/
structure Fits (n : Nat) (E : Env) (a : Act) : Prop where
  defers : a.defers = []
  size : a.tmps.size = n
  at_ : ∀ t, a.tmps.getD t undef = E t
theorem Fits.eval {n : Nat} {E : Env} {a : Act} (h : Fits n E a) : a.eval = ev E := by
  funext x
  cases x with
  | tmp t => exact h.at_ t
  | _ => rfl
theorem Fits.put {n : Nat} {E : Env} {a : Act} (h : Fits n E a) {d : Nat} (hd : Nat.blt d n = true) (v : Value) : Fits n (put E d v) (a.put (some d) v) := by
  have hd' : d + 1 ≤ n := by simpa [Nat.blt] using hd
  refine ⟨h.defers, by simp [Act.put, h.size], fun t => ?_⟩
  by_cases e : t = d
  · subst e
    rw [put_same]
    have : t < a.tmps.size := by rw [h.size]; exact hd'
    simp [Act.put, this]
  · rw [put_ne _ _ e, ← h.at_ t]
    simp [Act.put, Array.getElem?_setIfInBounds_ne (Ne.symm e)]
theorem Fits.put_none {n : Nat} {E : Env} {a : Act} (h : Fits n E a) (v : Value) : Fits n E (a.put none v) := h

/-- No panic, and no growth beyond what memory bears, is let out. -/
def lift (n : Nat) (Q : Exit → Env → World → Prop) : Exit → Act → World → Prop
  | .panic _, _, _ => False
  | .outgrown, _, _ => False
  | e, a, w => ∃ E, Fits n E a ∧ Q e E w

/-! ### calls -/
/-- The call returns, and of what it returns and of the world behind it R holds. -/
def Rets (P : Program) (f : FuncId) (args : Array Value) (w : World) (R : Value → World → Prop) : Prop :=
  Calls P f args w fun e w' => ∃ v, e = .returned v ∧ R v w'
theorem Rets.mono {P : Program} {f : FuncId} {args : Array Value} {w : World} {R R' : Value → World → Prop} (h : Rets P f args w R) (hr : ∀ v w', R v w' → R' v w') : Rets P f args w R' :=
  Calls.mono h fun _ w' ⟨v, he, hR⟩ => ⟨v, he, hr v w' hR⟩

/-! ### single operations -/
def exe (E : Env) (op : Op) (ty : TypeId) : Sem Next := execOp (ev E) { dst := none, op := op, type := ty, pos := "", after := #[], guard := none }
theorem execOp_exe {n : Nat} {E : Env} {a : Act} (h : Fits n E a) (o : Oper) : execOp a.eval o = exe E o.op o.type := by
  rw [h.eval]; rfl
/-- In every world of W the operation yields v and does nothing else. -/
def Yld (P : Program) (W : World → Prop) (E : Env) (op : Op) (ty : TypeId) (v : Value) : Prop := ∀ w, W w → (exe E op ty).run P w = .ok (.value v) w
/-- What an operation does that may turn the world. -/
def Eff (P : Program) (E : Env) (op : Op) (ty : TypeId) (w : World) (R : Value → World → Prop) : Prop :=
  (∃ v w', (exe E op ty).run P w = .ok (.value v) w' ∧ R v w') ∨ (∃ w', (exe E op ty).run P w = .ok .skip w' ∧ R undef w') ∨
  (∃ f args w', (exe E op ty).run P w = .ok (.enter f args) w' ∧ Rets P f args w' R)
theorem Eff.mono {P : Program} {E : Env} {op : Op} {ty : TypeId} {w : World} {R R' : Value → World → Prop} (h : Eff P E op ty w R) (hr : ∀ v w', R v w' → R' v w') : Eff P E op ty w R' := by
  rcases h with ⟨v, w', h, r⟩ | ⟨w', h, r⟩ | ⟨f, args, w', h, r⟩
  · exact .inl ⟨v, w', h, hr _ _ r⟩
  · exact .inr (.inl ⟨w', h, hr _ _ r⟩)
  · exact .inr (.inr ⟨f, args, w', h, r.mono hr⟩)
theorem Eff.of_yld {P : Program} {E : Env} {op : Op} {ty : TypeId} {w : World} {v : Value} {R : Value → World → Prop} (h : Yld P (· = w) E op ty v) (r : R v w) : Eff P E op ty w R := .inl ⟨v, w, h w rfl, r⟩
theorem Eff.wp {P : Program} {n : Nat} {E : Env} {a : Act} {o : Oper} {w : World} {R : Value → World → Prop} {K : Act → World → Prop} {Q : Exit → Env → World → Prop}
    (ha : Fits n E a) (h : Eff P E o.op o.type w R) (hk : ∀ v w', R v w' → K (a.put o.dst v) w') : o.wp P a w K (lift n Q) := by
  unfold Oper.wp
  rw [execOp_exe ha]
  rcases h with ⟨v, w', h, r⟩ | ⟨w', h, r⟩ | ⟨f, args, w', h, r⟩
  · rw [h]; exact hk v w' r
  · rw [h]; exact hk undef w' r
  · rw [h]
    refine Calls.mono r fun e w'' ⟨v, he, hR⟩ => ?_
    subst he
    exact hk v w'' hR

/-! ### guards -/
def gslot (ops : Array Oper) (j : Nat) : Option Nat := (ops[j]?).bind (·.dst)
theorem yielded_of {n : Nat} {E : Env} {a : Act} (h : Fits n E a) {ops : Array Oper} {j s : Nat} (hs : gslot ops j = some s) {b : Bool} (hv : E s = .bool b) : yielded ops a.tmps j = some b := by
  have h1 := h.at_ s
  rw [hv] at h1
  unfold yielded gslot at *
  rw [hs]
  cases ht : a.tmps[s]? with
  | none => simp [Array.getD_eq_getD_getElem?, ht, undef] at h1
  | some x => simp [Array.getD_eq_getD_getElem?, ht] at h1; simp [ht, h1]
theorem yielded_undef {n : Nat} {E : Env} {a : Act} (h : Fits n E a) {ops : Array Oper} {j s : Nat} (hs : gslot ops j = some s) (hv : E s = undef) : yielded ops a.tmps j = none := by
  have h1 := h.at_ s
  rw [hv] at h1
  unfold yielded gslot at *
  rw [hs]
  cases ht : a.tmps[s]? with
  | none => simp [ht]
  | some x => simp [Array.getD_eq_getD_getElem?, ht] at h1; simp [ht, h1, undef]
/-- Is an operation carried out? By what its guard's slot holds. -/
inductive Wants (ops : Array Oper) (E : Env) : Option (Nat × Bool) → Bool → Prop
  | always : Wants ops E none true
  | yes {j s : Nat} {b : Bool} (hs : gslot ops j = some s) (hv : E s = .bool b) : Wants ops E (some (j, b)) true
  | no {j s : Nat} {b c : Bool} (hs : gslot ops j = some s) (hv : E s = .bool c) (hc : (b == c) = false) : Wants ops E (some (j, b)) false
  | off {j s : Nat} {b : Bool} (hs : gslot ops j = some s) (hv : E s = undef) : Wants ops E (some (j, b)) false
theorem Wants.wanted {n : Nat} {E : Env} {a : Act} (h : Fits n E a) {ops : Array Oper} {o : Oper} {b : Bool} (hw : Wants ops E o.guard b) : Region.wanted o (yielded ops a.tmps) = b := by
  unfold Region.wanted
  cases o with
  | mk dst op type pos after guard =>
    dsimp only at hw ⊢
    cases hw with
    | always => rfl
    | yes hs hv => simp [yielded_of h hs hv]
    | no hs hv hc => simp [yielded_of h hs hv]; intro e; subst e; simp at hc
    | off hs hv => simp [yielded_undef h hs hv]

/-! ### a region in the text's order -/
def wpR (P : Program) (n : Nat) (ops : Array Oper) (Q : Exit → Env → World → Prop) (l : List Oper) (E : Env) (w : World) : Prop :=
  ∀ a, Fits n E a → wpList P ops (lift n Q) l a w
section
variable {P : Program} {n : Nat} {ops : Array Oper} {Q : Exit → Env → World → Prop} {E : Env} {w : World} {rest : List Oper}
theorem s_nil (h : Q .normal E w) : wpR P n ops Q [] E w := fun _ ha => ⟨E, ha, h⟩
theorem wpR_eff {o : Oper} {R : Value → World → Prop} (hw : Wants ops E o.guard true) (h : Eff P E o.op o.type w R) (hd : ∀ d, o.dst = some d → Nat.blt d n = true)
    (k : ∀ v w', R v w' → wpR P n ops Q rest (match o.dst with | some d => put E d v | none => E) w') : wpR P n ops Q (o :: rest) E w := by
  intro a ha
  unfold wpList
  rw [if_pos (hw.wanted ha)]
  refine .inl (h.wp ha fun v w' r => ?_)
  cases hdst : o.dst with
  | none => have := k v w' r; rw [hdst] at this; exact this _ (ha.put_none v)
  | some d => have := k v w' r; rw [hdst] at this; exact this _ (ha.put (hd d hdst) v)
theorem wpR_skip {o : Oper} (hw : Wants ops E o.guard false) (hd : ∀ d, o.dst = some d → Nat.blt d n = true)
    (k : wpR P n ops Q rest (match o.dst with | some d => put E d undef | none => E) w) : wpR P n ops Q (o :: rest) E w := by
  intro a ha
  unfold wpList
  rw [if_neg (by rw [hw.wanted ha]; simp)]
  cases hdst : o.dst with
  | none => rw [hdst] at k; exact k _ (ha.put_none _)
  | some d => rw [hdst] at k; exact k _ (ha.put (hd d hdst) _)
variable {d : Nat} {op : Op} {ty : TypeId} {pos : String} {aft : Array Edge} {v : Value} {R : Value → World → Prop} {g : Nat × Bool}
/-- it yields -/
theorem s_y (h : Yld P (· = w) E op ty v) (hd : Nat.blt d n = true) (k : wpR P n ops Q rest (put E d v) w) : wpR P n ops Q (⟨some d, op, ty, pos, aft, none⟩ :: rest) E w :=
  wpR_eff (R := fun v' w' => v' = v ∧ w' = w) .always (.of_yld h ⟨rfl, rfl⟩) (fun _ e => by cases e; exact hd) (fun v' w' ⟨e1, e2⟩ => by subst e1; subst e2; exact k)
/-- it yields, its guard says yes -/
theorem s_gy (hg : Wants ops E (some g) true) (h : Yld P (· = w) E op ty v) (hd : Nat.blt d n = true) (k : wpR P n ops Q rest (put E d v) w) : wpR P n ops Q (⟨some d, op, ty, pos, aft, some g⟩ :: rest) E w :=
  wpR_eff (R := fun v' w' => v' = v ∧ w' = w) hg (.of_yld h ⟨rfl, rfl⟩) (fun _ e => by cases e; exact hd) (fun v' w' ⟨e1, e2⟩ => by subst e1; subst e2; exact k)
/-- its guard says no -/
theorem s_no (hg : Wants ops E (some g) false) (hd : Nat.blt d n = true) (k : wpR P n ops Q rest (put E d undef) w) : wpR P n ops Q (⟨some d, op, ty, pos, aft, some g⟩ :: rest) E w :=
  wpR_skip hg (fun _ e => by cases e; exact hd) k
/-- it turns the world -/
theorem s_e (h : Eff P E op ty w R) (hd : Nat.blt d n = true) (k : ∀ v w', R v w' → wpR P n ops Q rest (put E d v) w') : wpR P n ops Q (⟨some d, op, ty, pos, aft, none⟩ :: rest) E w :=
  wpR_eff .always h (fun _ e => by cases e; exact hd) k
theorem s_ge (hg : Wants ops E (some g) true) (h : Eff P E op ty w R) (hd : Nat.blt d n = true) (k : ∀ v w', R v w' → wpR P n ops Q rest (put E d v) w') : wpR P n ops Q (⟨some d, op, ty, pos, aft, some g⟩ :: rest) E w :=
  wpR_eff hg h (fun _ e => by cases e; exact hd) k
theorem s_e0 (h : Eff P E op ty w R) (k : ∀ v w', R v w' → wpR P n ops Q rest E w') : wpR P n ops Q (⟨none, op, ty, pos, aft, none⟩ :: rest) E w :=
  wpR_eff .always h (fun _ e => by cases e) k
end

/-! ### what stays -/
/-- But for the blocks of F nothing that was there has turned. -/
structure Kp (F : Nat → Prop) (w w' : World) : Prop where
  os : w'.os = w.os
  tape : w'.tape = w.tape
  output : w'.output = w.output
  size : w.heap.size ≤ w'.heap.size
  block : ∀ k, k < w.heap.size → ¬ F k → w'.heap[k]? = w.heap[k]?
abbrev K0 (w w' : World) : Prop := Kp (fun _ => False) w w'
theorem Kp.refl (F : Nat → Prop) (w : World) : Kp F w w := ⟨rfl, rfl, rfl, Nat.le_refl _, fun _ _ _ => rfl⟩
theorem Kp.trans {F G : Nat → Prop} {w w' w'' : World} (h : Kp F w w') (k : Kp G w' w'') (hs : ∀ i, i < w.heap.size → G i → F i) : Kp F w w'' :=
  ⟨k.os.trans h.os, k.tape.trans h.tape, k.output.trans h.output, Nat.le_trans h.size k.size, fun i hi hF => (k.block i (Nat.lt_of_lt_of_le hi h.size) fun hG => hF (hs i hi hG)).trans (h.block i hi hF)⟩
theorem Kp.then0 {F : Nat → Prop} {w w' w'' : World} (h : Kp F w w') (k : K0 w' w'') : Kp F w w'' := h.trans k fun _ _ e => e.elim
theorem Kp.mono {F G : Nat → Prop} {w w' : World} (h : Kp F w w') (hs : ∀ i, i < w.heap.size → F i → G i) : Kp G w w' :=
  ⟨h.os, h.tape, h.output, h.size, fun i hi hG => h.block i hi fun hF => hG (hs i hi hF)⟩
theorem Kp.of0 {F : Nat → Prop} {w w' : World} (h : K0 w w') : Kp F w w' := h.mono fun _ _ e => e.elim
/-- what is written is new -/
theorem Kp.fresh {F G : Nat → Prop} {w w' w'' : World} (h : Kp F w w') (k : Kp G w' w'') (hs : ∀ i, G i → w.heap.size ≤ i) : Kp F w w'' := h.trans k fun i hi hG => absurd (hs i hG) (by omega)
theorem lt_of_get {w : World} {b : Nat} {o : Obj} (h : w.heap[b]? = some o) : b < w.heap.size := (Array.getElem?_eq_some_iff.1 h).1
theorem Kp.get {F : Nat → Prop} {w w' : World} (h : Kp F w w') {b : Nat} {o : Obj} (hb : w.heap[b]? = some o) (hn : ¬ F b) : w'.heap[b]? = some o := (h.block b (lt_of_get hb) hn).trans hb
theorem Kp.get0 {w w' : World} (h : K0 w w') {b : Nat} {o : Obj} (hb : w.heap[b]? = some o) : w'.heap[b]? = some o := h.get hb id
theorem Kp.drew (w : World) : K0 w w.drew := ⟨rfl, rfl, rfl, Nat.le_refl _, fun _ _ _ => rfl⟩
theorem Kp.alloc (w : World) (o : Obj) : K0 w (w.alloc o) :=
  ⟨rfl, rfl, rfl, by simp, fun k hk _ => RowKit.Below.heap_alloc w o k hk⟩

/-! ### a region whose order is drawn -/
inductive Ord where
  | done
  | take (i : Nat) (r : Ord)
  | one (i : Nat) (r : Ord)
  | two (i : Nat) (r : Ord) (j : Nat) (q : Ord)
  | three (i : Nat) (r : Ord) (j : Nat) (q : Ord) (k : Nat) (p : Ord)
def okOrd (ops : Array Oper) : Array Bool → Ord → Bool
  | L, .done => (Region.ready .any ops L).isEmpty
  | L, .take i r => Region.free .any ops L i && (Region.ready .any ops L).contains i && okOrd ops (L.setIfInBounds i true) r
  | L, .one i r => Region.ready .any ops L == [i] && okOrd ops (L.setIfInBounds i true) r
  | L, .two i r j q => Region.ready .any ops L == [i, j] && okOrd ops (L.setIfInBounds i true) r && okOrd ops (L.setIfInBounds j true) q
  | L, .three i r j q k p => Region.ready .any ops L == [i, j, k] && okOrd ops (L.setIfInBounds i true) r && okOrd ops (L.setIfInBounds j true) q && okOrd ops (L.setIfInBounds k true) p
def len : Ord → Nat
  | .done => 0
  | .take _ r => len r + 1
  | .one _ r => len r + 1
  | .two _ r _ q => max (len r) (len q) + 1
  | .three _ r _ q _ p => max (max (len r) (len q)) (len p) + 1
def putO (E : Env) (d : Option Nat) (v : Value) : Env := match d with | some d => put E d v | none => E
/-- one operation, its guard with it, taken first -/
def Takes (P : Program) (ops : Array Oper) (S : World → Prop) (E : Env) (o : Oper) (v : Value) : Prop :=
  (Wants ops E o.guard true ∧ Yld P S E o.op o.type v) ∨ (Wants ops E o.guard false ∧ v = undef)
/-- one operation, its guard with it, when it comes up -/
def Does (P : Program) (ops : Array Oper) (E : Env) (o : Oper) (w : World) (R : Value → World → Prop) : Prop :=
  (Wants ops E o.guard true ∧ Eff P E o.op o.type w R) ∨ (Wants ops E o.guard false ∧ R undef w)
def dstOk (n : Nat) (ops : Array Oper) : Bool := ops.all fun o => match o.dst with | some d => Nat.blt d n | none => true
def wpO (P : Program) (n : Nat) (ops : Array Oper) (Q : Exit → Env → World → Prop) (S : World → Prop) : Ord → Env → World → Prop
  | .done, E, w => Q .normal E w
  | .take i r, E, w => ∃ o v, ops[i]? = some o ∧ Takes P ops S E o v ∧ wpO P n ops Q S r (putO E o.dst v) w
  | .one i r, E, w => ∃ o, ops[i]? = some o ∧ Does P ops E o w fun v w' => S w' ∧ wpO P n ops Q S r (putO E o.dst v) w'
  | .two i r j q, E, w => (∃ o, ops[i]? = some o ∧ Does P ops E o w fun v w' => S w' ∧ wpO P n ops Q S r (putO E o.dst v) w') ∧
      (∃ o, ops[j]? = some o ∧ Does P ops E o w fun v w' => S w' ∧ wpO P n ops Q S q (putO E o.dst v) w')
  | .three i r j q k p, E, w => (∃ o, ops[i]? = some o ∧ Does P ops E o w fun v w' => S w' ∧ wpO P n ops Q S r (putO E o.dst v) w') ∧
      (∃ o, ops[j]? = some o ∧ Does P ops E o w fun v w' => S w' ∧ wpO P n ops Q S q (putO E o.dst v) w') ∧
      (∃ o, ops[k]? = some o ∧ Does P ops E o w fun v w' => S w' ∧ wpO P n ops Q S p (putO E o.dst v) w')
theorem dstOk_spec {n : Nat} {ops : Array Oper} (h : dstOk n ops = true) {i : Nat} {o : Oper} (ho : ops[i]? = some o) (d : Nat) (hd : o.dst = some d) : Nat.blt d n = true := by
  have := Array.all_eq_true_iff_forall_mem.1 h o (Array.mem_of_getElem? ho)
  rw [hd] at this
  exact this
theorem Fits.putO {n : Nat} {E : Env} {a : Act} (h : Fits n E a) {o : Oper} (hd : ∀ d, o.dst = some d → Nat.blt d n = true) (v : Value) : Fits n (putO E o.dst v) (a.put o.dst v) := by
  cases hdst : o.dst with
  | none => exact h
  | some d => exact h.put (hd d hdst) v
theorem Does.wpOp {P : Program} {n : Nat} {ops : Array Oper} {E : Env} {a : Act} {o : Oper} {i : Nat} {w : World} {R : Value → World → Prop} {K : Act → World → Prop} {Q : Exit → Env → World → Prop}
    (ha : Fits n E a) (ho : ops[i]? = some o) (h : Does P ops E o w R) (hk : ∀ v w', R v w' → K (a.put o.dst v) w') : wpOp P ops (lift n Q) i K a w := by
  unfold Go.wpOp
  simp only [ho]
  rcases h with ⟨hw, h⟩ | ⟨hw, h⟩
  · rw [if_pos (hw.wanted ha)]; exact .inl (h.wp ha hk)
  · rw [if_neg (by rw [hw.wanted ha]; simp)]; exact hk _ _ h
theorem wpAnyH_of_wpO {P : Program} {n : Nat} {ops : Array Oper} {Q : Exit → Env → World → Prop} {S : World → Prop} (hn : Region.noSelect ops = true) (hd : dstOk n ops = true) :
    ∀ (π : Ord) (L : Array Bool) (fuel : Nat) (E : Env) (w : World) (a : Act), len π ≤ fuel → okOrd ops L π = true → S w → Fits n E a → wpO P n ops Q S π E w → wpAnyH P .any ops (lift n Q) S fuel L a w := by
  intro π
  induction π with
  | done =>
    intro L fuel E w a _ hok _ ha h
    exact wpAnyH_done (by simpa [okOrd] using hok) ⟨E, ha, h⟩ fuel
  | take i r ih =>
    intro L fuel E w a hf hok hS ha h
    obtain ⟨fuel, rfl⟩ : ∃ m, fuel = m + 1 := ⟨fuel - 1, by simp only [len] at hf; omega⟩
    simp only [okOrd, Bool.and_eq_true] at hok
    obtain ⟨o, v, ho, ht, h⟩ := h
    refine wpAnyH_take (oi := o) (v := v) ho hn hok.1.1 hok.1.2 (fun _ _ _ hh => hh) ?_ hS (ih _ fuel _ _ _ (by simp only [len] at hf; omega) hok.2 hS (ha.putO (dstOk_spec hd ho) v) h)
    rcases ht with ⟨hw, hy⟩ | ⟨hw, rfl⟩
    · exact .inl ⟨hw.wanted ha, fun w' hw' => by rw [execOp_exe ha]; exact hy w' hw'⟩
    · exact .inr ⟨hw.wanted ha, rfl⟩
  | one i r ih =>
    intro L fuel E w a hf hok hS ha h
    obtain ⟨fuel, rfl⟩ : ∃ m, fuel = m + 1 := ⟨fuel - 1, by simp only [len] at hf; omega⟩
    simp only [okOrd, Bool.and_eq_true, beq_iff_eq] at hok
    obtain ⟨o, ho, h⟩ := h
    refine wpAnyH_all hok.1 (by simp) fun k hk => ?_
    obtain rfl : k = i := by simpa using hk
    exact h.wpOp ha ho fun v w' ⟨hS', h'⟩ => ⟨hS', ih _ fuel _ _ _ (by simp only [len] at hf; omega) hok.2 hS' (ha.putO (dstOk_spec hd ho) v) h'⟩
  | two i r j q ih1 ih2 =>
    intro L fuel E w a hf hok hS ha h
    obtain ⟨fuel, rfl⟩ : ∃ m, fuel = m + 1 := ⟨fuel - 1, by simp only [len] at hf; omega⟩
    simp only [okOrd, Bool.and_eq_true, beq_iff_eq] at hok
    obtain ⟨⟨o, ho, h⟩, ⟨o2, ho2, h2⟩⟩ := h
    refine wpAnyH_all hok.1.1 (by simp) fun k hk => ?_
    simp only [List.mem_cons, List.not_mem_nil, or_false] at hk
    rcases hk with rfl | rfl
    · exact h.wpOp ha ho fun v w' ⟨hS', h'⟩ => ⟨hS', ih1 _ fuel _ _ _ (by simp only [len] at hf; omega) hok.1.2 hS' (ha.putO (dstOk_spec hd ho) v) h'⟩
    · exact h2.wpOp ha ho2 fun v w' ⟨hS', h'⟩ => ⟨hS', ih2 _ fuel _ _ _ (by simp only [len] at hf; omega) hok.2 hS' (ha.putO (dstOk_spec hd ho2) v) h'⟩
  | three i r j q k p ih1 ih2 ih3 =>
    intro L fuel E w a hf hok hS ha h
    obtain ⟨fuel, rfl⟩ : ∃ m, fuel = m + 1 := ⟨fuel - 1, by simp only [len] at hf; omega⟩
    simp only [okOrd, Bool.and_eq_true, beq_iff_eq] at hok
    obtain ⟨⟨o, ho, h⟩, ⟨o2, ho2, h2⟩, ⟨o3, ho3, h3⟩⟩ := h
    refine wpAnyH_all hok.1.1.1 (by simp) fun m hk => ?_
    simp only [List.mem_cons, List.not_mem_nil, or_false] at hk
    rcases hk with rfl | rfl | rfl
    · exact h.wpOp ha ho fun v w' ⟨hS', h'⟩ => ⟨hS', ih1 _ fuel _ _ _ (by simp only [len] at hf; omega) hok.1.1.2 hS' (ha.putO (dstOk_spec hd ho) v) h'⟩
    · exact h2.wpOp ha ho2 fun v w' ⟨hS', h'⟩ => ⟨hS', ih2 _ fuel _ _ _ (by simp only [len] at hf; omega) hok.1.2 hS' (ha.putO (dstOk_spec hd ho2) v) h'⟩
    · exact h3.wpOp ha ho3 fun v w' ⟨hS', h'⟩ => ⟨hS', ih3 _ fuel _ _ _ (by simp only [len] at hf; omega) hok.2 hS' (ha.putO (dstOk_spec hd ho3) v) h'⟩
section
variable {P : Program} {n : Nat} {ops : Array Oper} {Q : Exit → Env → World → Prop} {S : World → Prop} {E : Env} {w : World} {r q p : Ord} {i j k : Nat}
variable {d : Nat} {op : Op} {ty : TypeId} {pos : String} {aft : Array Edge} {v : Value} {R : Value → World → Prop} {g : Nat × Bool}
theorem o_done (h : Q .normal E w) : wpO P n ops Q S .done E w := h
theorem o_y (ho : ops[i]? = some ⟨some d, op, ty, pos, aft, none⟩) (h : Yld P S E op ty v) (k : wpO P n ops Q S r (put E d v) w) : wpO P n ops Q S (.take i r) E w :=
  ⟨_, v, ho, .inl ⟨.always, h⟩, k⟩
theorem o_gy (ho : ops[i]? = some ⟨some d, op, ty, pos, aft, some g⟩) (hg : Wants ops E (some g) true) (h : Yld P S E op ty v) (k : wpO P n ops Q S r (put E d v) w) : wpO P n ops Q S (.take i r) E w :=
  ⟨_, v, ho, .inl ⟨hg, h⟩, k⟩
theorem o_no (ho : ops[i]? = some ⟨some d, op, ty, pos, aft, some g⟩) (hg : Wants ops E (some g) false) (k : wpO P n ops Q S r (put E d undef) w) : wpO P n ops Q S (.take i r) E w :=
  ⟨_, undef, ho, .inr ⟨hg, rfl⟩, k⟩
/-- what comes up -/
def Comes (P : Program) (n : Nat) (ops : Array Oper) (Q : Exit → Env → World → Prop) (S : World → Prop) (i : Nat) (r : Ord) (E : Env) (w : World) : Prop :=
  ∃ o, ops[i]? = some o ∧ Does P ops E o w fun v w' => S w' ∧ wpO P n ops Q S r (putO E o.dst v) w'
theorem o_one (h : Comes P n ops Q S i r E w) : wpO P n ops Q S (.one i r) E w := h
theorem o_two (h : Comes P n ops Q S i r E w) (h' : Comes P n ops Q S j q E w) : wpO P n ops Q S (.two i r j q) E w := ⟨h, h'⟩
theorem c_e (ho : ops[i]? = some ⟨some d, op, ty, pos, aft, none⟩) (h : Eff P E op ty w R) (k : ∀ v w', R v w' → S w' ∧ wpO P n ops Q S r (put E d v) w') : Comes P n ops Q S i r E w :=
  ⟨_, ho, .inl ⟨.always, h.mono k⟩⟩
theorem c_e0 (ho : ops[i]? = some ⟨none, op, ty, pos, aft, none⟩) (h : Eff P E op ty w R) (k : ∀ v w', R v w' → S w' ∧ wpO P n ops Q S r E w') : Comes P n ops Q S i r E w :=
  ⟨_, ho, .inl ⟨.always, h.mono k⟩⟩
theorem c_ge (ho : ops[i]? = some ⟨some d, op, ty, pos, aft, some g⟩) (hg : Wants ops E (some g) true) (h : Eff P E op ty w R) (k : ∀ v w', R v w' → S w' ∧ wpO P n ops Q S r (put E d v) w') : Comes P n ops Q S i r E w :=
  ⟨_, ho, .inl ⟨hg, h.mono k⟩⟩
theorem c_no (ho : ops[i]? = some ⟨some d, op, ty, pos, aft, some g⟩) (hg : Wants ops E (some g) false) (hS : S w) (k : wpO P n ops Q S r (put E d undef) w) : Comes P n ops Q S i r E w :=
  ⟨_, ho, .inr ⟨hg, hS, k⟩⟩
end

/-! ### control -/
def wpC (P : Program) (n : Nat) (c : Code) (Q : Exit → Env → World → Prop) (E : Env) (w : World) : Prop := ∀ a, Fits n E a → c.wp P (lift n Q) a w
def thenE (K : Env → World → Prop) (Q : Exit → Env → World → Prop) : Exit → Env → World → Prop
  | .normal, E, w => K E w
  | e, E, w => Q e E w
def inBlockE (id : Nat) (Q : Exit → Env → World → Prop) : Exit → Env → World → Prop
  | .exit id', E, w => bif Nat.beq id' id then Q .normal E w else Q (.exit id') E w
  | e, E, w => Q e E w
section
variable {P : Program} {n : Nat} {Q : Exit → Env → World → Prop} {E : Env} {w : World}
theorem seq {x y : Code} (h : ∀ K : Env → World → Prop, (∀ E w, wpC P n y Q E w → K E w) → wpC P n x (thenE K Q) E w) : wpC P n (.seq x y) Q E w := by
  intro a ha
  refine wp_seq (wp_mono (h _ (fun _ _ h => h) a ha) fun e a w hh => ?_)
  cases e with
  | normal => obtain ⟨E, hf, hq⟩ := hh; exact hq a hf
  | panic c => exact hh
  | outgrown => exact hh
  | _ => exact hh
theorem skip (h : Q .normal E w) : wpC P n .skip Q E w := fun _ ha => wp_skip ⟨E, ha, h⟩
theorem ret (h : Q .ret E w) : wpC P n .ret Q E w := fun _ ha => wp_ret ⟨E, ha, h⟩
theorem exit {id : Nat} (h : Q (.exit id) E w) : wpC P n (.exit id) Q E w := fun _ ha => wp_exit ⟨E, ha, h⟩
theorem block {id : Nat} {c : Code} (h : wpC P n c (inBlockE id Q) E w) : wpC P n (.block id c) Q E w := by
  intro a ha
  refine wp_block (wp_mono (h a ha) fun e a w hh => ?_)
  cases e with
  | exit id' =>
    obtain ⟨E, hf, hq⟩ := hh
    unfold Exit.inBlock
    by_cases e : id' = id
    · subst e
      have : Nat.beq id' id' = true := Nat.beq_refl _
      simp only [inBlockE, this, cond_true] at hq
      simp only [if_true]
      exact ⟨E, hf, hq⟩
    · have : Nat.beq id' id = false := by
        cases hb : Nat.beq id' id
        · rfl
        · exact absurd (Nat.eq_of_beq_eq_true hb) e
      simp only [inBlockE, this, cond_false] at hq
      simp only [if_neg e]
      exact ⟨E, hf, hq⟩
  | panic c => exact hh
  | outgrown => exact hh
  | _ => exact hh
theorem reg {id : Nat} {l : List Oper} (h : wpR P n l.toArray Q l E w) : wpC P n (.region id l.toArray false) Q E w := fun a ha => wp_region_lit (h a ha)
/-- A region whose order is drawn, in an order that serves for all. F: what is written in it. -/
theorem regD {id : Nat} {ops : Array Oper} (F : Nat → Prop) (π : Ord) (hm : P.follows .mixedOrders = true)
    (hok : (Region.noSelect ops && dstOk n ops && decide (len π ≤ ops.size) && okOrd ops (Array.replicate ops.size false) π) = true)
    (h : ∀ w1, w1.heap = w.heap → K0 w w1 → wpO P n ops Q (Kp F w1) π E w1) : wpC P n (.region id ops true) Q E w := by
  simp only [Bool.and_eq_true, decide_eq_true_eq] at hok
  intro a ha
  exact wp_region_held hm (wpAnyH_of_wpO hok.1.1.1 hok.1.1.2 π _ _ E _ a hok.1.2 hok.2 (Kp.refl _ _) ha (h w.drew rfl (Kp.drew w)))
theorem cond_t {c : Operand} {x y : Code} (hc : ev E c = .bool true) (h : wpC P n x Q E w) : wpC P n (.cond c x y) Q E w :=
  fun a ha => wp_cond_true (by rw [ha.eval]; exact hc) (h a ha)
theorem cond_f {c : Operand} {x y : Code} (hc : ev E c = .bool false) (h : wpC P n y Q E w) : wpC P n (.cond c x y) Q E w :=
  fun a ha => wp_cond_false (by rw [ha.eval]; exact hc) (h a ha)
theorem cond_b {c : Operand} {x y : Code} {b : Bool} (hc : ev E c = .bool b) (ht : b = true → wpC P n x Q E w) (hf : b = false → wpC P n y Q E w) : wpC P n (.cond c x y) Q E w :=
  fun a ha => wp_cond_split (by rw [ha.eval]; exact hc) (fun e => ht e a ha) (fun e => hf e a ha)
theorem cond_d {c : Operand} {x y : Code} {p : Prop} [Decidable p] (hc : ev E c = .bool (decide p)) (ht : p → wpC P n x Q E w) (hf : ¬ p → wpC P n y Q E w) : wpC P n (.cond c x y) Q E w :=
  cond_b hc (fun e => ht (of_decide_eq_true e)) (fun e => hf (of_decide_eq_false e))
theorem loop {c : Code} (I : Env → World → Prop) (μ : Env → World → Nat) (h0 : I E w)
    (round : ∀ E w, I E w → ∀ K : Env → World → Prop, (∀ E' w', I E' w' → μ E' w' < μ E w → K E' w') → wpC P n c (thenE K Q) E w) : wpC P n (.loop c) Q E w := by
  intro a ha
  refine wp_loop (fun a w => ∃ E, Fits n E a ∧ I E w) (fun a w => μ (fun t => a.tmps.getD t undef) w) ⟨E, ha, h0⟩ fun a w ⟨E, ha, hI⟩ => ?_
  have hE : (fun t => a.tmps.getD t undef) = E := funext ha.at_
  rw [hE]
  refine wp_mono (round E w hI (fun E' w' => I E' w' ∧ μ E' w' < μ E w) (fun E' w' h1 h2 => ⟨h1, h2⟩) a ha) fun e a' w' hh => ?_
  cases e with
  | normal =>
    obtain ⟨E', hf, h1, h2⟩ := hh
    have hE' : (fun t => a'.tmps.getD t undef) = E' := funext hf.at_
    exact ⟨⟨E', hf, h1⟩, by rw [hE']; exact h2⟩
  | panic c => exact hh
  | outgrown => exact hh
  | _ => exact hh
/-- a loop whose rounds are counted by a ghost -/
theorem loopG {c : Code} {X : Type} (I : X → Env → World → Prop) (μ : X → Nat) (x : X) (h0 : I x E w)
    (round : ∀ x E w, I x E w → ∀ K : Env → World → Prop, (∀ x' E' w', I x' E' w' → μ x' < μ x → K E' w') → wpC P n c (thenE K Q) E w) : wpC P n (.loop c) Q E w := by
  intro a ha b k cs
  have key : ∀ m x E w a, μ x = m → I x E w → Fits n E a → ∃ e a' w', lift n Q e a' w' ∧ Arrives P (lone (b.at a (.code c :: .inLoop c :: k)) cs w) b k cs e a' w' := by
    intro m
    induction m using Nat.strongRecOn with
    | _ m ih =>
      intro x E w a hm hI ha
      obtain ⟨e, a', w', hq, harr⟩ := round x E w hI (fun E' w' => ∃ x', I x' E' w' ∧ μ x' < μ x) (fun x' E' w' h1 h2 => ⟨x', h1, h2⟩) a ha b (.inLoop c :: k) cs
      cases e with
      | normal =>
        obtain ⟨E', hf, x', h1, h2⟩ := hq
        obtain ⟨e2, a2, w2, hq2, harr2⟩ := ih (μ x') (hm ▸ h2) x' E' w' a' rfl h1 hf
        exact ⟨e2, a2, w2, hq2, .of_steps (Steps.trans harr (.one step_inLoop)) harr2⟩
      | exit id => exact ⟨.exit id, a', w', hq, .pass (x := .inLoop c) rfl (fun _ _ => .inl (by simp)) harr⟩
      | goto l => exact ⟨.goto l, a', w', hq, .pass (x := .inLoop c) rfl (fun _ _ => .inl (by simp)) harr⟩
      | ret => exact ⟨.ret, a', w', hq, .pass (x := .inLoop c) rfl (fun _ _ => .inl (by simp)) harr⟩
      | panic ch => exact hq.elim
      | outgrown => exact hq.elim
  obtain ⟨e, a', w', hq, harr⟩ := key _ x E w a rfl h0 ha
  exact ⟨e, a', w', hq, .of_steps (.one step_loop) harr⟩
end
end Go.V
