/-
  Rows of the program's own that have room behind their elements: append, copy, clear within them; two rows that do not overlap. Of whatever program.
-/
import Derived.Test.YtdcnblafepgheaaDoorV4
import Derived.Lib.Overlaps
namespace Go.V
open Go

section
variable {X : Type} {P : Program} {f : X → List Value} {sz g b o cap : Nat} {T : TypeId} {w : World} {xs news : List X}
/-- block g is a row of cap elements' room; the first of them are xs -/
def OwnC (f : X → List Value) (sz : Nat) (w : World) (g : Nat) (T : TypeId) (cap : Nat) (xs : List X) : Prop :=
  ∃ cur : List Value, Blk w g cur.toArray T ∧ cur.length = cap * sz ∧ xs.length ≤ cap ∧ cap ≤ maxLen ∧ cur.take (xs.length * sz) = xs.flatMap f ∧ ∀ y, (f y).length = sz
theorem OwnC.kp {w' : World} (h : OwnC f sz w g T cap xs) {F : Nat → Prop} (k : Kp F w w') (hn : ¬ F g) : OwnC f sz w' g T cap xs := by
  obtain ⟨cur, h1, h2⟩ := h; exact ⟨cur, k.get h1 hn, h2⟩
theorem OwnC.lt (h : OwnC f sz w g T cap xs) : g < w.heap.size := by obtain ⟨cur, h1, _⟩ := h; exact lt_of_get h1
theorem OwnC.le (h : OwnC f sz w g T cap xs) : xs.length ≤ cap := by obtain ⟨cur, _, _, h1, _⟩ := h; exact h1
theorem OwnC.capmax (h : OwnC f sz w g T cap xs) : cap ≤ maxLen := by obtain ⟨cur, _, _, _, h1, _⟩ := h; exact h1
theorem OwnC.len (h : OwnC f sz w g T cap xs) : ∀ y, (f y).length = sz := by obtain ⟨cur, _, _, _, _, _, h1⟩ := h; exact h1
theorem OwnC.elts (h : OwnC f sz w g T cap xs) : Elts f sz w g 0 xs := by
  obtain ⟨cur, h1, _, _, _, ht, hf⟩ := h
  refine ⟨_, T, (0, 0), h1, fun i x hx => ⟨hf x, ?_⟩⟩
  have hil : i < xs.length := (List.getElem?_eq_some_iff.1 hx).1
  have e1 : (cur.take (xs.length * sz)).drop (i * sz) = (xs.drop i).flatMap f := by rw [ht, flat_drop hf]
  rw [Nat.zero_add]
  have e2 : (cur.drop (i * sz)).take sz = ((cur.take (xs.length * sz)).drop (i * sz)).take sz := by
    rw [List.drop_take, List.take_take]
    congr 1
    have : i * sz + sz ≤ xs.length * sz := by have := Nat.mul_le_mul_right sz hil; rw [Nat.succ_mul] at this; exact this
    omega
  show (cur.drop (i * sz)).take sz = _
  rw [e2, e1, List.drop_eq_getElem_cons hil, List.flatMap_cons, (List.getElem?_eq_some_iff.1 hx).2, List.take_append, hf, List.take_of_length_le (by rw [hf]; omega)]
  simp
theorem OwnC.take (h : OwnC f sz w g T cap xs) (n : Nat) : OwnC f sz w g T cap (xs.take n) := by
  obtain ⟨cur, h1, h2, h3, h4, ht, hf⟩ := h
  refine ⟨cur, h1, h2, by simp; omega, h4, ?_, hf⟩
  have : cur.take ((xs.take n).length * sz) = (cur.take (xs.length * sz)).take ((xs.take n).length * sz) := by
    rw [List.take_take]
    congr 1
    have : (xs.take n).length * sz ≤ xs.length * sz := Nat.mul_le_mul_right _ (by simp; omega)
    omega
  rw [this, ht, flat_take hf]
  congr 1
  simp
theorem OwnS.ownC {v : Value} (h : OwnS f sz w T v xs) (hne : xs ≠ []) : ∃ g cap, v = .slice (some ⟨g, 0, none⟩) xs.length cap ∧ OwnC f sz w g T cap xs := by
  rcases h.1.2 with ⟨_, hn⟩ | ⟨g, cap, cur, hv, _, hg, h1, h2, hcs, ht⟩
  · exact absurd (List.eq_nil_of_length_eq_zero hn) hne
  · exact ⟨g, cap, hv, cur.toList, by simpa [Blk] using hg, by simpa using hcs, h1, h2, ht, h.2⟩
/-- elements laid over others, or behind them -/
theorem run_storeC (h : OwnC f sz w g T cap xs) (k : Nat) (hk : k ≤ xs.length) (hl : k + news.length ≤ cap) (h1 : ∀ y, ∀ v ∈ f y, v.oneCell' = true) :
    ∃ w', (storeCells ⟨g, k * sz, none⟩ (news.flatMap f)).run P w = .ok () w' ∧ OwnC f sz w' g T cap (xs.take k ++ news ++ xs.drop (k + news.length)) ∧ Kp (· = g) w w' := by
  obtain ⟨cur, hb, hs, hxl, hc, ht, hf⟩ := h
  have hbound : k * sz + news.length * sz ≤ cap * sz := by rw [← Nat.add_mul]; exact Nat.mul_le_mul_right _ hl
  obtain ⟨w', hr, hb', hkp⟩ := run_storeCells (P := P) (news.flatMap f) (k * sz) 0 _ w hb (by
    simp only [Nat.add_zero, List.size_toArray]
    rw [flat_len hf, hs]; exact hbound) (fun v hv => by
      obtain ⟨y, _, hy⟩ := List.mem_flatMap.1 hv
      exact h1 y v hy)
  rw [Nat.add_zero] at hb'
  refine ⟨w', hr, ⟨cur.take (k * sz) ++ news.flatMap f ++ cur.drop (k * sz + (news.flatMap f).length), hb', ?_, ?_, hc, ?_, hf⟩, hkp⟩
  · simp only [List.length_append, List.length_take, List.length_drop, flat_len hf, hs]; omega
  · simp only [List.length_append, List.length_take, List.length_drop]; omega
  · have e1 : cur.take (k * sz) = (xs.take k).flatMap f := by
      rw [← flat_take hf, ← ht, List.take_take]
      congr 1
      have := Nat.mul_le_mul_right sz hk
      omega
    have e2 : (cur.drop (k * sz + (news.flatMap f).length)).take ((xs.length - (k + news.length)) * sz) = (xs.drop (k + news.length)).flatMap f := by
      rw [← flat_drop hf, ← ht, flat_len hf, ← Nat.add_mul, List.drop_take]
      congr 1
      rw [Nat.sub_mul]
    rw [e1, List.flatMap_append, List.flatMap_append, ← e2]
    rw [List.take_append]
    have hlen : ((xs.take k ++ news ++ xs.drop (k + news.length)).length) = k + news.length + (xs.length - (k + news.length)) := by
      simp only [List.length_append, List.length_take, List.length_drop]; omega
    have hl2 : ((xs.take k).flatMap f ++ news.flatMap f).length = (k + news.length) * sz := by
      rw [List.length_append, flat_len hf, flat_len hf, List.length_take, Nat.min_eq_left hk, Nat.add_mul]
    rw [hlen, hl2, List.take_of_length_le (by rw [hl2]; exact Nat.mul_le_mul_right _ (by omega))]
    congr 2
    rw [Nat.add_mul (k + news.length) _ sz]; omega
variable {E : Env} {ty : TypeId} {a c : Operand}
theorem elts_load (h : Elts f sz w b o news) (hf : ∀ y, (f y).length = sz) : (loadCells ⟨b, o, none⟩ (news.length * sz)).run P w = .ok (news.flatMap f).toArray w := by
  have := run_loadCells_list (P := P) w ⟨b, o, none⟩ (news.flatMap f) (elts_cells h hf)
  rwa [flat_len hf] at this
/-- append where there is room -/
theorem e_appendR {t : TypeId} {bytes k m n cp : Nat} {z : Value} (ht : SlcOf P t T) (hi : TyInfo P T sz bytes z) (hv : ev E a = .slice (some ⟨g, 0, none⟩) k cap) (hown : OwnC f sz w g T cap xs) (hk : k ≤ xs.length) (hx : ev E c = .slice (some ⟨b, o, none⟩) m cp) (hm : m = news.length) (hel : Elts f sz w b o news)
    (h1 : ∀ y, ∀ u ∈ f y, u.oneCell' = true) (hroom : k + news.length ≤ cap) (hn : n = k + news.length) :
    Eff P E (.call { callee := .builtin .append, args := #[a, c], argTypes := #[t, t] }) ty w fun u w' => u = .slice (some ⟨g, 0, none⟩) n cap ∧ OwnC f sz w' g T cap (xs.take k ++ news) ∧ Kp (· = g) w w' := by
  obtain ⟨i, hi1, hi2, hi3, hi4⟩ := hi.get
  subst hm; subst hn
  have hf := hown.len
  obtain ⟨w', hr, ho, hkp⟩ := run_storeC (P := P) (news := news) hown k hk hroom h1
  have ho2 := ho.take (k + news.length)
  have e1 : (xs.take k ++ news ++ xs.drop (k + news.length)).take (k + news.length) = xs.take k ++ news := by
    apply List.take_left'
    rw [List.length_append, List.length_take, Nat.min_eq_left hk]
  rw [e1] at ho2
  refine .inl ⟨_, w', ?_, rfl, ho2, hkp⟩
  have hl := elts_load (P := P) hel hf
  have ht' : P.underlying t = some (.slice T) := ht
  have hfc : (Builtin.firstCells sz news.length (.slice (some ⟨b, o, none⟩) news.length cp)).run P w = .ok (news.flatMap f).toArray w := hl
  simp only [exe, execOp, resolve, invoke, builtin, Sem.run_bind, Sem.run_pure, Result.andThen_ok, List.map_toArray, List.map_cons, List.map_nil, hv, hx]
  simp [Builtin.append_, run_und ht', sizeOf, typeInfo, hi1, hi2, Builtin.lenOf, hroom, hfc, add_eq, hr]
/-- copy into a row of the program's own -/
theorem e_copy {t t' : TypeId} {k dl dc sl sc : Nat} {bytes : Nat} {z : Value} (ht : SlcOf P t T) (hi : TyInfo P T sz bytes z) (hv : ev E a = .slice (some ⟨g, 0 + k * sz, none⟩) dl dc) (hown : OwnC f sz w g T cap xs) (hk : k ≤ xs.length) (hx : ev E c = .slice (some ⟨b, o, none⟩) sl sc) (hm : Nat.min sl dl = news.length) (hel : Elts f sz w b o news)
    (h1 : ∀ y, ∀ u ∈ f y, u.oneCell' = true) (hroom : k + news.length ≤ cap) :
    Eff P E (.call { callee := .builtin .copy, args := #[a, c], argTypes := #[t, t'] }) ty w fun u w' => u = .int .i64 news.length ∧ OwnC f sz w' g T cap (xs.take k ++ news ++ xs.drop (k + news.length)) ∧ Kp (· = g) w w' := by
  obtain ⟨i, hi1, hi2, hi3, hi4⟩ := hi.get
  have hf := hown.len
  obtain ⟨w', hr, ho, hkp⟩ := run_storeC (P := P) (news := news) hown k hk hroom h1
  refine .inl ⟨_, w', ?_, rfl, ho, hkp⟩
  have hl := elts_load (P := P) hel hf
  have ht' : P.underlying t = some (.slice T) := ht
  have hfc : (Builtin.firstCells sz news.length (.slice (some ⟨b, o, none⟩) sl sc)).run P w = .ok (news.flatMap f).toArray w := hl
  rw [Nat.zero_add] at hv
  simp only [exe, execOp, resolve, invoke, builtin, Sem.run_bind, Sem.run_pure, Result.andThen_ok, List.map_toArray, List.map_cons, List.map_nil, hv, hx]
  simp [Builtin.copy_, run_und ht', sizeOf, typeInfo, hi1, hi2, Builtin.lenOf, hm, hfc, hr, goInt]
/-- clear behind the elements -/
theorem e_clear {t e : TypeId} {k n dc : Nat} {z : Value} {x0 : X} (ht : SlcOf P t e) (hz : TyZero P e z) (hzc : z.cells.toList = f x0) (hv : ev E a = .slice (some ⟨g, 0 + k * sz, none⟩) n dc) (hn : 0 < n) (hown : OwnC f sz w g T cap xs) (hk : k = xs.length) (h1 : ∀ y, ∀ u ∈ f y, u.oneCell' = true) (hroom : k + n ≤ cap) :
    Eff P E (.call { callee := .builtin .clear, args := #[a], argTypes := #[t] }) ty w fun _ w' => OwnC f sz w' g T cap xs ∧ Kp (· = g) w w' := by
  have hf := hown.len
  obtain ⟨w', hr, ho, hkp⟩ := run_storeC (P := P) (news := List.replicate n x0) hown k (by omega) (by simpa using hroom) h1
  have ho2 := ho.take k
  subst hk
  have e1 : (xs.take xs.length ++ List.replicate n x0 ++ xs.drop (xs.length + (List.replicate n x0).length)).take xs.length = xs := by simp
  rw [e1] at ho2
  have ht' : P.underlying t = some (.slice e) := ht
  have hzs : z.cells.size = sz := by have := congrArg List.length hzc; rw [hf] at this; simpa using this
  have hzz : (Builtin.zeroCells z.cells n).toList = (List.replicate n x0).flatMap f := by
    have := made_flat hzc hf n
    unfold madeCells at this
    unfold Builtin.zeroCells
    rw [hzs]; rw [hzs] at this; exact this
  rw [Nat.zero_add] at hv
  obtain ⟨n, rfl⟩ : ∃ m, n = m + 1 := ⟨n - 1, by omega⟩
  refine .inl ⟨.tuple #[], w', ?_, ho2, hkp⟩
  simp only [exe, execOp, resolve, invoke, builtin, Sem.run_bind, Sem.run_pure, Result.andThen_ok, List.map_toArray, List.map_cons, List.map_nil, hv]
  simp [Builtin.clear_, run_und ht', hz w, hzz, hr]
/-- a call of what the model has an entry for -/
theorem e_extern {F : FuncId} {fn : Func} {ex : Array Value → Sem Value} {xs : Array Operand} {ats : Array TypeId} {args : List Value} {v : Value} (hf : P.funcs[F]? = some fn) (hname : (fn.name == "runtime.NumGoroutine") = false)
    (hb : fn.body.isNone = true) (hn : Extern.findNext fn = none) (he : Extern.find fn = some ex) (ha : xs.toList.map (ev E) = args) (h : (ex args.toArray).run P w = .ok v w) :
    Yld P (· = w) E (.call { callee := .value (.func F), args := xs, argTypes := ats }) ty v := by
  intro w' hw; subst hw
  subst ha
  rw [← map_list] at h
  have h2 := run_callFunc_extern hf hname hb hn he (xs.map (ev E)) w'
  rw [h] at h2
  simp only [exe, execOp, resolve, ev, Deferred.ofValue, invoke, Sem.run_bind, Sem.run_pure, Result.andThen_ok] at h2 ⊢
  rw [Array.empty_append, Array.append_empty, h2]
end
end Go.V
namespace Go.V
open Go
theorem e_storeV {P : Program} {E : Env} {ty : TypeId} {x y : Operand} {w : World} {t T : TypeId} {b o : Nat} {cs cs' : Array Value} {v : Value} (vs : List Value) (hx : ev E x = .pointer (some ⟨b, o, none⟩)) (hy : ev E y = v) (hv : v.cells.toList = vs) (hs : TySz P t vs.length) (hb : Blk w b cs T) (hl : Nat.ble (o + vs.length) cs.size = true)
    (h1 : vs.all (·.oneCell') = true) (hc : splice cs o vs = cs') : Eff P E (.store t x y) ty w fun _ w' => Blk w' b cs' T ∧ Kp (· = b) w w' := by
  subst hv
  exact e_store hx hy (by simpa using hs) hb (by simpa using Nat.le_of_ble_eq_true hl) (List.all_eq_true.1 h1) hc
/-- a slot of an index -/
structure Slot where
  (key : ByteArray) (v : Int) (full : Bool)
/-- what is due, and when -/
structure Thing where
  (id due : Int)
deriving DecidableEq
abbrev Slot.cs (x : Slot) : List Value := [.string x.key, .int .i64 x.v, .bool x.full]
abbrev Thing.cs (x : Thing) : List Value := [.int .i64 x.id, .int .i64 x.due]
theorem one_v4 (y : V4) : ∀ v ∈ y.cs, v.oneCell' = true := by simp [u8, Value.oneCell']
theorem one_slot (y : Slot) : ∀ v ∈ y.cs, v.oneCell' = true := by simp [Value.oneCell']
theorem ne_cm {w : World} {a b : Nat} {cs : Array Value} {T : TypeId} {fz : Nat × Nat} {es : Array MapEntry} {c : Nat} (h1 : w.heap[a]? = some (.cells cs T fz)) (h2 : w.heap[b]? = some (.map es c)) : a ≠ b := fun e => by
  subst e; rw [h1] at h2; cases h2
theorem ne_TT {w : World} {a b : Nat} {cs ds : Array Value} {T U : TypeId} {fz fy : Nat × Nat} (h1 : w.heap[a]? = some (.cells cs T fz)) (h2 : w.heap[b]? = some (.cells ds U fy)) (h : T ≠ U) : a ≠ b := fun e => by
  subst e; rw [h1] at h2; injection h2 with h2; injection h2 with _ h2; exact h h2
theorem Elts.ne_map {X K V : Type} {f : X → List Value} {sz : Nat} {w : World} {a o b : Nat} {xs : List X} {kv : K → Value} {vv : V → Value} {good : K → Prop} {l : List (K × V)} (h1 : Elts f sz w a o xs) (h2 : MapAt kv vv good w b l) : a ≠ b := by
  obtain ⟨_, _, _, h1, _⟩ := h1; obtain ⟨_, _, h2, _⟩ := h2; exact ne_cm h1 h2
theorem blk_ne_map {K V : Type} {w : World} {a b : Nat} {cs : Array Value} {T : TypeId} {kv : K → Value} {vv : V → Value} {good : K → Prop} {l : List (K × V)} (h1 : Blk w a cs T) (h2 : MapAt kv vv good w b l) : a ≠ b := by
  obtain ⟨_, _, h2, _⟩ := h2; exact ne_cm h1 h2
end Go.V
