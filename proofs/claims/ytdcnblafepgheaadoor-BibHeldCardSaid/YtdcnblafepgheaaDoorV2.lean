/-
  The values of the gateway that walks speak of: addresses, transport addresses, bindings, sessions; how two of them are told apart, how they are keys. Of whatever program; what is asked of its types are facts.
-/
import Derived.Test.YtdcnblafepgheaaDoorV3
import Derived.Stop.BytesEq
namespace Go.V
open Go

structure V4 where
  (a b c d : UInt8)
deriving DecidableEq
structure V6 where
  (b0 b1 b2 b3 b4 b5 b6 b7 b8 b9 b10 b11 b12 b13 b14 b15 : UInt8)
deriving DecidableEq
structure T4 where
  (addr : V4) (port : Int)
deriving DecidableEq
structure T6 where
  (addr : V6) (port : Int)
deriving DecidableEq
structure Binding where
  (id proto : Int) (inn : T6) (out : T4) (static : Bool) (sessions : Int)
deriving DecidableEq
structure Session where
  (id binding : Int) (peer : T4) (state due : Int)
deriving DecidableEq
abbrev V4.l (x : V4) : List UInt8 := [x.a, x.b, x.c, x.d]
abbrev V6.l (x : V6) : List UInt8 := [x.b0, x.b1, x.b2, x.b3, x.b4, x.b5, x.b6, x.b7, x.b8, x.b9, x.b10, x.b11, x.b12, x.b13, x.b14, x.b15]
def u8 (x : UInt8) : Value := .int .u8 (Int.ofNat x.toNat)
abbrev V4.cs (x : V4) : List Value := [u8 x.a, u8 x.b, u8 x.c, u8 x.d]
abbrev V6.cs (x : V6) : List Value := [u8 x.b0, u8 x.b1, u8 x.b2, u8 x.b3, u8 x.b4, u8 x.b5, u8 x.b6, u8 x.b7, u8 x.b8, u8 x.b9, u8 x.b10, u8 x.b11, u8 x.b12, u8 x.b13, u8 x.b14, u8 x.b15]
abbrev T4.cs (t : T4) : List Value := [u8 t.addr.a, u8 t.addr.b, u8 t.addr.c, u8 t.addr.d, .int .i64 t.port]
abbrev T6.cs (t : T6) : List Value := [u8 t.addr.b0, u8 t.addr.b1, u8 t.addr.b2, u8 t.addr.b3, u8 t.addr.b4, u8 t.addr.b5, u8 t.addr.b6, u8 t.addr.b7, u8 t.addr.b8, u8 t.addr.b9, u8 t.addr.b10, u8 t.addr.b11, u8 t.addr.b12, u8 t.addr.b13, u8 t.addr.b14, u8 t.addr.b15, .int .i64 t.port]
abbrev Binding.cs (x : Binding) : List Value := [.int .i64 x.id, .int .i64 x.proto, u8 x.inn.addr.b0, u8 x.inn.addr.b1, u8 x.inn.addr.b2, u8 x.inn.addr.b3, u8 x.inn.addr.b4, u8 x.inn.addr.b5, u8 x.inn.addr.b6, u8 x.inn.addr.b7, u8 x.inn.addr.b8, u8 x.inn.addr.b9, u8 x.inn.addr.b10, u8 x.inn.addr.b11, u8 x.inn.addr.b12, u8 x.inn.addr.b13, u8 x.inn.addr.b14, u8 x.inn.addr.b15, .int .i64 x.inn.port,
  u8 x.out.addr.a, u8 x.out.addr.b, u8 x.out.addr.c, u8 x.out.addr.d, .int .i64 x.out.port, .bool x.static, .int .i64 x.sessions]
abbrev Session.cs (x : Session) : List Value := [.int .i64 x.id, .int .i64 x.binding, u8 x.peer.addr.a, u8 x.peer.addr.b, u8 x.peer.addr.c, u8 x.peer.addr.d, .int .i64 x.peer.port, .int .i64 x.state, .int .i64 x.due]
abbrev v4 (x : V4) : Value := .agg x.cs.toArray
abbrev v6 (x : V6) : Value := .agg x.cs.toArray
abbrev t4 (x : T4) : Value := .agg x.cs.toArray
abbrev t6 (x : T6) : Value := .agg x.cs.toArray
abbrev bv (x : Binding) : Value := .agg x.cs.toArray
theorem V4.l_inj {x y : V4} : x.l = y.l ↔ x = y := by
  cases x; cases y; simp
theorem V6.l_inj {x y : V6} : x.l = y.l ↔ x = y := by
  cases x; cases y; simp
theorem u8_inj {x y : UInt8} (h : u8 x = u8 y) : x = y := by
  unfold u8 at h
  injection h with _ h
  exact UInt8.toNat_inj.1 (Int.ofNat.inj h)
theorem t4_inj {x y : T4} (h : t4 x = t4 y) : x = y := by
  cases x with | mk a p => cases y with | mk b q =>
  cases a; cases b
  injection h with h
  have h := congrArg Array.toList h
  simp only [List.cons.injEq, and_true] at h
  obtain ⟨h1, h2, h3, h4, h5⟩ := h
  have h5 : p = q := by injection h5
  simp [u8_inj h1, u8_inj h2, u8_inj h3, u8_inj h4, h5]

/-! ### told apart -/
/-- values of a type are told apart -/
def EqT (P : Program) (t : TypeId) (d : Nat) {X : Type} [DecidableEq X] (enc : X → Value) : Prop := ∀ (w : World) (x y : X), (Op.equalIn d t (enc x) (enc y)).run P w = .ok (decide (x = y)) w
theorem eqT_int {P : Program} {t : TypeId} {k : IntKind} (d : Nat) (ht : P.underlying t = some (.int k)) : EqT P t (d + 1) (fun n => .int k n) := fun w x y => by
  rw [run_equalIn_int w d t k k x y ht]
  rfl
theorem eqT_bool {P : Program} {t : TypeId} (d : Nat) (ht : P.underlying t = some .bool) : EqT P t (d + 1) (fun b => .bool b) := fun w x y => by
  rw [run_equalIn_bool' w d t x y ht]
  cases x <;> cases y <;> rfl
theorem eqT_v4 {P : Program} {t e : TypeId} (d : Nat) (ht : P.underlying t = some (.array 4 e)) (he : P.underlying e = some (.int .u8)) (hs : TySz P e 1) : EqT P t (d + 2) v4 := fun w x y => by
  have := run_equalIn_bytes (P := P) w d t e 4 ht he hs x.l y.l rfl rfl
  refine Eq.trans this ?_
  congr 1
  rw [Bool.eq_iff_iff]
  rw [beq_iff_eq, V4.l_inj, decide_eq_true_iff]
theorem eqT_v6 {P : Program} {t e : TypeId} (d : Nat) (ht : P.underlying t = some (.array 16 e)) (he : P.underlying e = some (.int .u8)) (hs : TySz P e 1) : EqT P t (d + 2) v6 := fun w x y => by
  have := run_equalIn_bytes (P := P) w d t e 16 ht he hs x.l y.l rfl rfl
  refine Eq.trans this ?_
  congr 1
  rw [Bool.eq_iff_iff]
  rw [beq_iff_eq, V6.l_inj, decide_eq_true_iff]
theorem eqF_nil {P : Program} {d : Nat} {xs ys : Array Value} {w : World} : (Op.eqFields d xs ys []).run P w = .ok (decide True) w := by simp [Op.eqFields]
theorem eqF_cons {P : Program} {d : Nat} {xs ys : Array Value} {w : World} {f : Field} {fs : List Field} {a b : Value} {p q : Prop} [Decidable p] [Decidable q] (hn : f.name ≠ "_") (ha : (part f.type xs f.offset).run P w = .ok a w) (hb : (part f.type ys f.offset).run P w = .ok b w)
    (he : (Op.equalIn d f.type a b).run P w = .ok (decide p) w) (hr : (Op.eqFields d xs ys fs).run P w = .ok (decide q) w) : (Op.eqFields d xs ys (f :: fs)).run P w = .ok (decide (p ∧ q)) w := by
  simp only [Op.eqFields, if_pos hn, Sem.run_bind, ha, hb, he, Result.andThen_ok]
  by_cases hp : p
  · simp only [hp, decide_true, Bool.not_true, Bool.false_eq_true, if_false, hr, true_and]
  · simp [hp]
theorem eq_struct {P : Program} {d : Nat} {t : TypeId} {xs ys : Array Value} {w : World} {fs : Array Field} {p q : Prop} [Decidable p] [Decidable q] (ht : P.underlying t = some (.struct fs)) (hp : P.stoodInHeld t = false)
    (h : (Op.eqFields d xs ys fs.toList).run P w = .ok (decide p) w) (hpq : p ↔ q) : (Op.equalIn (d + 1) t (.agg xs) (.agg ys)).run P w = .ok (decide q) w := by
  have hf : P.fieldsOf t = fs := by simp [Program.fieldsOf, ht]
  rw [run_equalIn_agg w d t xs ys (by rw [hf]; exact ht) hp, hf, h]
  congr 1
  exact decide_eq_decide.2 hpq
section
variable {P : Program} {W : World → Prop} {E : Env} {ty t t' : TypeId} {a b : Operand} {X : Type} [DecidableEq X] {enc : X → Value} {x y : X}
theorem y_eqT (h : EqT P t 10000 enc) (hg : P.eqGuardType P.depth t = false) (hx : ev E a = enc x) (hy : ev E b = enc y) (hax : ∃ xs, enc x = .agg xs) (hay : ∃ ys, enc y = .agg ys) : Yld P W E (.binOp .eql t a b t') ty (.bool (decide (x = y))) := by
  intro w _
  obtain ⟨xs, hxs⟩ := hax; obtain ⟨ys, hys⟩ := hay
  have h2 := h w x y
  rw [hxs, hys] at h2
  simp only [exe, execOp, hx, hy, hxs, hys, Sem.run_bind, run_eqGuard_agg w _ _ _ _ _ _ hg, Result.andThen_ok, run_eql_struct, h2]
  rfl
end
/-! ### keys -/
def inI (n : Int) : Prop := -9223372036854775808 ≤ n ∧ n ≤ 9223372036854775807
theorem wf_i64 {n : Int} (h : inI n) : (Lit.int .i64 n).wf = true := by
  unfold inI at h
  simp only [Lit.wf, Bool.and_eq_true, decide_eq_true_eq]
  exact h
theorem wf_u8 (x : UInt8) : (Lit.int .u8 (Int.ofNat x.toNat)).wf = true := by
  have := x.toNat_lt
  simp only [Lit.wf, Bool.and_eq_true, decide_eq_true_eq]
  constructor
  · exact Int.natCast_nonneg _
  · show (x.toNat : Int) ≤ 255
    omega
theorem kf_int {P : Program} {t : TypeId} (ht : P.underlying t = some (.int .i64)) : KF P t (fun n : Int => .int .i64 n) inI :=
  KF.of_keyed (Maps.int_keyed ht) (fun _ hk => ⟨_, Maps.keyOf_int_mk ht (wf_i64 hk)⟩) fun a b h => by injection h
theorem lits_u8 {P : Program} {e : TypeId} (he : P.underlying e = some (.int .u8)) (d : Nat) (x : UInt8) : P.keyLits (d + 1) e [u8 x] = some [.int .u8 (Int.ofNat x.toNat)] := by
  unfold Program.keyLits
  rw [he]
  have := wf_u8 x
  unfold u8
  simp only [true_and]
  rw [if_pos this]
theorem lits_i64 {P : Program} {e : TypeId} (he : P.underlying e = some (.int .i64)) (d : Nat) {n : Int} (hn : inI n) : P.keyLits (d + 1) e [.int .i64 n] = some [.int .i64 n] := by
  unfold Program.keyLits
  rw [he]
  have := wf_i64 hn
  simp only [true_and]
  rw [if_pos this]
theorem lits_v4 {P : Program} {t e : TypeId} (ht : P.underlying t = some (.array 4 e)) (he : P.underlying e = some (.int .u8)) (hc : P.cellsOf t = 4) (hce : P.cellsOf e = 1) (d : Nat) (x : V4) : ∃ l, P.keyLits (d + 2) t x.cs = some l := by
  refine ⟨[.int .u8 (Int.ofNat x.a.toNat), .int .u8 (Int.ofNat x.b.toNat), .int .u8 (Int.ofNat x.c.toNat), .int .u8 (Int.ofNat x.d.toNat)], ?_⟩
  unfold Program.keyLits
  rw [ht]
  have h := fun y => lits_u8 he d y
  have hr : List.range 4 = [0, 1, 2, 3] := by decide
  simp only [hc, hce, V4.cs, List.length_cons, List.length_nil, if_true, hr, List.mapM_cons, List.mapM_nil]
  simp [h]
theorem kf_t4 {P : Program} {t v i e : TypeId} {fs : Array Field} {f0 f1 : Field} (law : Maps.Keyed P t) (ht : P.underlying t = some (.struct fs)) (hfs : fs = #[f0, f1]) (h0 : f0.type = v) (h1 : f1.type = i) (o0 : f0.offset = 0) (o1 : f1.offset = 4) (hn : fs.all (·.name != "_") = true)
    (hv : P.underlying v = some (.array 4 e)) (hi : P.underlying i = some (.int .i64)) (he : P.underlying e = some (.int .u8)) (ct : P.cellsOf t = 5) (cv : P.cellsOf v = 4) (ci : P.cellsOf i = 1) (ce : P.cellsOf e = 1) (hk : P.keyType t = true) {d : Nat} (hd : P.types.size + 1 = d + 3) : KF P t t4 (fun x => inI x.port) := by
  refine KF.of_keyed law (fun x hx => ?_) fun a b h => t4_inj h
  obtain ⟨l, hl⟩ := lits_v4 hv he cv ce d x.addr
  have h2 := lits_i64 hi (d + 1) hx
  have : ∃ l, P.keyLits (P.types.size + 1) t x.cs = some l := by
    rw [hd]
    unfold Program.keyLits
    rw [ht]
    simp only
    rw [if_pos ⟨by rw [ct]; rfl, hn⟩, hfs]
    simp only [List.mapM_cons, List.mapM_nil, h0, h1, o0, o1, cv, ci]
    have e1 : (List.drop 0 x.cs).take 4 = x.addr.cs := rfl
    have e2 : (List.drop 4 x.cs).take 1 = [.int .i64 x.port] := rfl
    rw [e1, e2, hl, h2]
    exact ⟨_, rfl⟩
  obtain ⟨l, hl⟩ := this
  refine ⟨.string (keyBytes l), ?_⟩
  unfold keyOf
  rw [ht]
  have hf : (t4 x).formed P t = true := by
    unfold Value.formed
    rw [ht]
    simp [ct]
  simp only [hk, hf, Bool.and_self, if_true]
  have : (t4 x).cells.toList = x.cs := rfl
  rw [this, hl]; rfl
end Go.V
