/-
  What an index of the gateway holds: its slots as a table of Ix, a key's hash, masks. Of whatever program.
-/
import Derived.Test.YtdcnblafepgheaaDoorV5
import Derived.Test.YtdcnblafepgheaaDoorIx
namespace Go.V
open Go

/-! ### hashes -/
def hstep (h : Int) (r : Nat) : Int := IntKind.u32.wrap (IntKind.u32.wrap ((BitVec.ofInt IntKind.u32.bits h ^^^ BitVec.ofInt IntKind.u32.bits (IntKind.u32.wrap (Int.ofNat r))).toNat) * 16777619)
def hgo (s : ByteArray) : Nat → Nat → Int → Int
  | 0, _, h => h
  | f + 1, pos, h => if pos < s.size then hgo s f (pos + (Utf8.decode s pos).2) (hstep h (Utf8.decode s pos).1) else h
def hashI (s : ByteArray) : Int := hgo s s.size 0 2166136261
theorem hgo_end {s : ByteArray} {f pos : Nat} {h : Int} (hp : ¬ pos < s.size) : hgo s f pos h = h := by
  cases f with
  | zero => rfl
  | succ f => unfold hgo; rw [if_neg hp]
theorem hgo_step {s : ByteArray} {f pos : Nat} {h : Int} (hp : pos < s.size) : hgo s (f + 1) pos h = hgo s f (pos + (Utf8.decode s pos).2) (hstep h (Utf8.decode s pos).1) := by
  conv => lhs; unfold hgo
  rw [if_pos hp]
theorem width_pos (s : ByteArray) (pos : Nat) (h : pos < s.size) : 1 ≤ (Utf8.decode s pos).2 := by
  by_cases ha : (s[pos]'h).toNat < 128
  · rw [decode_ascii s pos h ha]
    exact Nat.le_refl _
  · exact (decode_high s pos h (by omega)).2
theorem u32_range (n : Int) : 0 ≤ IntKind.u32.wrap n ∧ IntKind.u32.wrap n < 4294967296 := by
  have : IntKind.u32.wrap n = n % 4294967296 := by simp [IntKind.wrap, IntKind.signed, IntKind.bits]
  rw [this]; omega
theorem hgo_range (s : ByteArray) : ∀ (f pos : Nat) (h : Int), 0 ≤ h ∧ h < 4294967296 → 0 ≤ hgo s f pos h ∧ hgo s f pos h < 4294967296
  | 0, _, _, hh => hh
  | f + 1, pos, h, hh => by
    unfold hgo
    split
    · exact hgo_range s f _ _ (u32_range _)
    · exact hh
theorem hash_range (s : ByteArray) : 0 ≤ hashI s ∧ hashI s < 4294967296 := hgo_range s _ _ _ (by omega)
def hN (N : Nat) (s : ByteArray) : Nat := (hashI s).toNat % N
theorem mask {a N k : Nat} (hN : N = 2 ^ k) (hk : k ≤ 62) (ha : a < 9223372036854775808) : IntKind.i64.wrap ((BitVec.ofInt IntKind.i64.bits (a : Int) &&& BitVec.ofInt IntKind.i64.bits ((N : Int) - 1)).toNat) = ((a % N : Nat) : Int) := by
  have hN1 : 1 ≤ N := by rw [hN]; exact Nat.one_le_two_pow
  have hN2 : N ≤ 4611686018427387904 := by rw [hN]; exact Nat.le_trans (Nat.pow_le_pow_right (by omega) hk) (by decide)
  have e1 : ((N : Int) - 1) = ((N - 1 : Nat) : Int) := by omega
  have e2 : (BitVec.ofInt 64 (a : Int)).toNat = a := by rw [BitVec.toNat_ofInt]; omega
  have e3 : (BitVec.ofInt 64 ((N - 1 : Nat) : Int)).toNat = N - 1 := by rw [BitVec.toNat_ofInt]; omega
  have e4 : (BitVec.ofInt IntKind.i64.bits (a : Int) &&& BitVec.ofInt IntKind.i64.bits ((N : Int) - 1)).toNat = a % N := by
    show (BitVec.ofInt 64 (a : Int) &&& BitVec.ofInt 64 ((N : Int) - 1)).toNat = a % N
    rw [BitVec.toNat_and, e1, e2, e3, hN, Nat.and_two_pow_sub_one_eq_mod]
  rw [e4]
  have : a % N < N := Nat.mod_lt _ hN1
  exact wrap_i64 (by omega)
section
variable {P : Program} {W : World → Prop} {E : Env} {ty : TypeId} {x y : Operand}
theorem y_mask {t t' : TypeId} {a N k r : Nat} (hx : ev E x = .int .i64 (a : Int)) (hy : ev E y = .int .i64 ((N : Int) - 1)) (hN : N = 2 ^ k) (hk : k ≤ 62) (ha : a < 9223372036854775808) (hr : a % N = r) : Yld P W E (.binOp .and t x y t') ty (.int .i64 (r : Int)) := by
  have := y_and (P := P) (W := W) (t := t) (t' := t') (ty := ty) hx hy
  rw [mask hN hk ha, hr] at this; exact this
end
theorem nxt_mod {N i : Nat} (hi : i < N) : (i + 1) % N = Ix.nxt N i := by
  unfold Ix.nxt
  split
  · exact Nat.mod_eq_of_lt (by omega)
  · rw [show i + 1 = N by omega, Nat.mod_self]
/-! ### the slots as a table -/
def tab (sl : List Slot) : Ix.Tab ByteArray Int := fun i => match sl[i]? with
  | some s => if s.full then some (s.key, s.v) else none
  | none => none
theorem tab_at {sl : List Slot} {i : Nat} {s : Slot} (h : sl[i]? = some s) : tab sl i = if s.full then some (s.key, s.v) else none := by unfold tab; rw [h]
theorem tab_full {sl : List Slot} {i : Nat} {s : Slot} (h : sl[i]? = some s) (hf : s.full = true) : tab sl i = some (s.key, s.v) := by rw [tab_at h, if_pos hf]
theorem tab_empty {sl : List Slot} {i : Nat} {s : Slot} (h : sl[i]? = some s) (hf : s.full = false) : tab sl i = none := by rw [tab_at h, if_neg (by simp [hf])]
theorem tab_set {sl : List Slot} {i : Nat} (hi : i < sl.length) (s : Slot) : tab (sl.set i s) = Ix.upd (tab sl) i (if s.full then some (s.key, s.v) else none) := by
  funext j
  unfold Ix.upd
  by_cases e : j = i
  · subst e
    rw [if_pos rfl, tab_at (s := s) (by simp [hi])]
  · rw [if_neg e]
    unfold tab
    rw [List.getElem?_set_ne (Ne.symm e)]
theorem tab_new (n : Nat) (s : Slot) (h : s.full = false) : tab (List.replicate n s) = fun _ => none := by
  funext j
  unfold tab
  cases hj : (List.replicate n s)[j]? with
  | none => rfl
  | some x =>
    have := List.eq_of_mem_replicate (List.mem_of_getElem? hj)
    subst this
    simp [h]
end Go.V
