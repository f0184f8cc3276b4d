/-
  The values of the gateway that walks speak of: addresses, transport addresses, bindings, sessions; how two of them are told apart, how they are keys. Of whatever program; what is asked of its types are facts.
-/
import Derived.Test.YtdcnblafepgheaaDoorV3
import Derived.Stop.BytesEq
namespace Go.V
open Go

structure V4 where
  (a b c d : UInt8)
deriving DecidableEq
structure V6 where
  (b0 b1 b2 b3 b4 b5 b6 b7 b8 b9 b10 b11 b12 b13 b14 b15 : UInt8)
deriving DecidableEq
structure T4 where
  (addr : V4) (port : Int)
deriving DecidableEq
structure T6 where
  (addr : V6) (port : Int)
deriving DecidableEq
structure Binding where
  (id proto : Int) (inn : T6) (out : T4) (static : Bool) (sessions : Int)
deriving DecidableEq
structure Session where
  (id binding : Int) (peer : T4) (state due : Int)
deriving DecidableEq
abbrev V4.l (x : V4) : List UInt8 := [x.a, x.b, x.c, x.d]
abbrev V6.l (x : V6) : List UInt8 := [x.b0, x.b1, x.b2, x.b3, x.b4, x.b5, x.b6, x.b7, x.b8, x.b9, x.b10, x.b11, x.b12, x.b13, x.b14, x.b15]
def u8 (x : UInt8) : Value := .int .u8 (Int.ofNat x.toNat)
abbrev V4.cs (x : V4) : List Value := [u8 x.a, u8 x.b, u8 x.c, u8 x.d]
abbrev V6.cs (x : V6) : List Value := [u8 x.b0, u8 x.b1, u8 x.b2, u8 x.b3, u8 x.b4, u8 x.b5, u8 x.b6, u8 x.b7, u8 x.b8, u8 x.b9, u8 x.b10, u8 x.b11, u8 x.b12, u8 x.b13, u8 x.b14, u8 x.b15]
abbrev T4.cs (t : T4) : List Value := [u8 t.addr.a, u8 t.addr.b, u8 t.addr.c, u8 t.addr.d, .int .i64 t.port]
abbrev T6.cs (t : T6) : List Value := [u8 t.addr.b0, u8 t.addr.b1, u8 t.addr.b2, u8 t.addr.b3, u8 t.addr.b4, u8 t.addr.b5, u8 t.addr.b6, u8 t.addr.b7, u8 t.addr.b8, u8 t.addr.b9, u8 t.addr.b10, u8 t.addr.b11, u8 t.addr.b12, u8 t.addr.b13, u8 t.addr.b14, u8 t.addr.b15, .int .i64 t.port]
abbrev Binding.cs (x : Binding) : List Value := [.int .i64 x.id, .int .i64 x.proto, u8 x.inn.addr.b0, u8 x.inn.addr.b1, u8 x.inn.addr.b2, u8 x.inn.addr.b3, u8 x.inn.addr.b4, u8 x.inn.addr.b5, u8 x.inn.addr.b6, u8 x.inn.addr.b7, u8 x.inn.addr.b8, u8 x.inn.addr.b9, u8 x.inn.addr.b10, u8 x.inn.addr.b11, u8 x.inn.addr.b12, u8 x.inn.addr.b13, u8 x.inn.addr.b14, u8 x.inn.addr.b15, .int .i64 x.inn.port,
  u8 x.out.addr.a, u8 x.out.addr.b, u8 x.out.addr.c, u8 x.out.addr.d, .int .i64 x.out.port, .bool x.static, .int .i64 x.sessions]
abbrev Session.cs (x : Session) : List Value := [.int .i64 x.id, .int .i64 x.binding, u8 x.peer.addr.a, u8 x.peer.addr.b, u8 x.peer.addr.c, u8 x.peer.addr.d, .int .i64 x.peer.port, .int .i64 x.state, .int .i64 x.due]
abbrev v4 (x : V4) : Value := .agg x.cs.toArray
abbrev t4 (x : T4) : Value := .agg x.cs.toArray
abbrev sv (x : Session) : Value := .agg x.cs.toArray
theorem V4.l_inj {x y : V4} : x.l = y.l ↔ x = y := by
  cases x; cases y; simp
theorem V6.l_inj {x y : V6} : x.l = y.l ↔ x = y := by
  cases x; cases y; simp
/-! ### told apart -/
/-- values of a type are told apart -/
def EqT (P : Program) (t : TypeId) (d : Nat) {X : Type} [DecidableEq X] (enc : X → Value) : Prop := ∀ (w : World) (x y : X), (Op.equalIn d t (enc x) (enc y)).run P w = .ok (decide (x = y)) w
theorem eqT_int {P : Program} {t : TypeId} {k : IntKind} (d : Nat) (ht : P.underlying t = some (.int k)) : EqT P t (d + 1) (fun n => .int k n) := fun w x y => by
  rw [run_equalIn_int w d t k k x y ht]
  rfl
theorem eqT_v4 {P : Program} {t e : TypeId} (d : Nat) (ht : P.underlying t = some (.array 4 e)) (he : P.underlying e = some (.int .u8)) (hs : TySz P e 1) : EqT P t (d + 2) v4 := fun w x y => by
  have := run_equalIn_bytes (P := P) w d t e 4 ht he hs x.l y.l rfl rfl
  refine Eq.trans this ?_
  congr 1
  rw [Bool.eq_iff_iff]
  rw [beq_iff_eq, V4.l_inj, decide_eq_true_iff]
theorem eqF_nil {P : Program} {d : Nat} {xs ys : Array Value} {w : World} : (Op.eqFields d xs ys []).run P w = .ok (decide True) w := by simp [Op.eqFields]
theorem eqF_cons {P : Program} {d : Nat} {xs ys : Array Value} {w : World} {f : Field} {fs : List Field} {a b : Value} {p q : Prop} [Decidable p] [Decidable q] (hn : f.name ≠ "_") (ha : (part f.type xs f.offset).run P w = .ok a w) (hb : (part f.type ys f.offset).run P w = .ok b w)
    (he : (Op.equalIn d f.type a b).run P w = .ok (decide p) w) (hr : (Op.eqFields d xs ys fs).run P w = .ok (decide q) w) : (Op.eqFields d xs ys (f :: fs)).run P w = .ok (decide (p ∧ q)) w := by
  simp only [Op.eqFields, if_pos hn, Sem.run_bind, ha, hb, he, Result.andThen_ok]
  by_cases hp : p
  · simp only [hp, decide_true, Bool.not_true, Bool.false_eq_true, if_false, hr, true_and]
  · simp [hp]
theorem eq_struct {P : Program} {d : Nat} {t : TypeId} {xs ys : Array Value} {w : World} {fs : Array Field} {p q : Prop} [Decidable p] [Decidable q] (ht : P.underlying t = some (.struct fs)) (hp : P.stoodInHeld t = false)
    (h : (Op.eqFields d xs ys fs.toList).run P w = .ok (decide p) w) (hpq : p ↔ q) : (Op.equalIn (d + 1) t (.agg xs) (.agg ys)).run P w = .ok (decide q) w := by
  have hf : P.fieldsOf t = fs := by simp [Program.fieldsOf, ht]
  rw [run_equalIn_agg w d t xs ys (by rw [hf]; exact ht) hp, hf, h]
  congr 1
  exact decide_eq_decide.2 hpq
section
variable {P : Program} {W : World → Prop} {E : Env} {ty t t' : TypeId} {a b : Operand} {X : Type} [DecidableEq X] {enc : X → Value} {x y : X}
theorem y_eqT (h : EqT P t 10000 enc) (hg : P.eqGuardType P.depth t = false) (hx : ev E a = enc x) (hy : ev E b = enc y) (hax : ∃ xs, enc x = .agg xs) (hay : ∃ ys, enc y = .agg ys) : Yld P W E (.binOp .eql t a b t') ty (.bool (decide (x = y))) := by
  intro w _
  obtain ⟨xs, hxs⟩ := hax; obtain ⟨ys, hys⟩ := hay
  have h2 := h w x y
  rw [hxs, hys] at h2
  simp only [exe, execOp, hx, hy, hxs, hys, Sem.run_bind, run_eqGuard_agg w _ _ _ _ _ _ hg, Result.andThen_ok, run_eql_struct, h2]
  rfl
theorem y_neqT (h : EqT P t 10000 enc) (hg : P.eqGuardType P.depth t = false) (hx : ev E a = enc x) (hy : ev E b = enc y) (hax : ∃ xs, enc x = .agg xs) (hay : ∃ ys, enc y = .agg ys) : Yld P W E (.binOp .neq t a b t') ty (.bool (decide (x ≠ y))) := by
  intro w _
  obtain ⟨xs, hxs⟩ := hax; obtain ⟨ys, hys⟩ := hay
  have h2 := h w x y
  rw [hxs, hys] at h2
  simp only [exe, execOp, hx, hy, hxs, hys, Sem.run_bind, run_eqGuard_agg w _ _ _ _ _ _ hg, Result.andThen_ok, run_neq_struct, h2]
  by_cases e : x = y <;> simp [e]
end
/-! ### keys -/
def inI (n : Int) : Prop := -9223372036854775808 ≤ n ∧ n ≤ 9223372036854775807
theorem wf_i64 {n : Int} (h : inI n) : (Lit.int .i64 n).wf = true := by
  unfold inI at h
  simp only [Lit.wf, Bool.and_eq_true, decide_eq_true_eq]
  exact h
theorem kf_int {P : Program} {t : TypeId} (ht : P.underlying t = some (.int .i64)) : KF P t (fun n : Int => .int .i64 n) inI :=
  KF.of_keyed (Maps.int_keyed ht) (fun _ hk => ⟨_, Maps.keyOf_int_mk ht (wf_i64 hk)⟩) fun a b h => by injection h
end Go.V
