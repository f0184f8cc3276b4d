/-
  The keys under which bindings and sessions are found: two differ where what they are of differs. In plain Lean.
-/
import Derived.Test.YtdcnblafepgheaaDoorV6
import Derived.Lib.ItoaNum
namespace Go.V
open Go

def itoaB (n : Int) : ByteArray := ⟨(Lib.itoa n).toArray⟩
def sp : ByteArray := ⟨#[32]⟩
/-- two numbers and bytes as a key -/
def kk (p q : Int) (l : List UInt8) : ByteArray := itoaB p ++ sp ++ itoaB q ++ sp ++ ⟨l.toArray⟩
theorem dig_range : ∀ (u : Nat), ∀ b ∈ Lib.decDigits u, 48 ≤ b.toNat ∧ b.toNat ≤ 57 := by
  intro u
  induction u using Nat.strongRecOn with
  | _ u ih =>
    intro b hb
    rw [Lib.decDigits] at hb
    split at hb
    · rename_i h
      simp at hb; subst hb
      simp; omega
    · rename_i h
      rcases List.mem_append.1 hb with hb | hb
      · exact ih (u / 10) (by omega) b hb
      · simp at hb; subst hb
        have := Nat.mod_lt u (show 10 > 0 by omega)
        simp; omega
def dval (l : List UInt8) : Nat := l.foldl (fun a b => a * 10 + (b.toNat - 48)) 0
theorem dval_dig (u : Nat) : dval (Lib.decDigits u) = u := by
  induction u using Nat.strongRecOn with
  | _ u ih =>
    rw [Lib.decDigits]
    split
    · simp [dval]; omega
    · have h1 := ih (u / 10) (by omega)
      have := Nat.mod_lt u (show 10 > 0 by omega)
      unfold dval at h1 ⊢
      rw [List.foldl_append, h1]
      simp
      omega
theorem dig_inj {u v : Nat} (h : Lib.decDigits u = Lib.decDigits v) : u = v := by rw [← dval_dig u, ← dval_dig v, h]
theorem dig_len : ∀ (k u : Nat), u < 10 ^ (k + 1) → (Lib.decDigits u).length ≤ k + 1
  | 0, u, h => by rw [Lib.decDigits, dif_pos (by omega)]; simp
  | k + 1, u, h => by
    rw [Lib.decDigits]
    split
    · simp
    · have := dig_len k (u / 10) (by rw [Nat.pow_succ] at h; omega)
      simp; omega
theorem itoa_no32 (n : Int) : (32 : UInt8) ∉ Lib.itoa n := by
  unfold Lib.itoa
  have h32 : (32 : UInt8).toNat = 32 := rfl
  split
  · intro h
    rcases List.mem_cons.1 h with h | h
    · cases h
    · have := dig_range _ _ h; omega
  · intro h; have := dig_range _ _ h; omega
theorem itoa_inj {n m : Int} (h : Lib.itoa n = Lib.itoa m) : n = m := by
  unfold Lib.itoa at h
  have h45 : (45 : UInt8).toNat = 45 := rfl
  split at h <;> split at h
  · injection h with _ h; have := dig_inj h; omega
  · exfalso
    have h2 : (45 : UInt8) ∈ Lib.decDigits m.toNat := by rw [← h]; simp
    have := dig_range _ _ h2; omega
  · exfalso
    have h2 : (45 : UInt8) ∈ Lib.decDigits n.toNat := by rw [h]; simp
    have := dig_range _ _ h2; omega
  · have := dig_inj h; omega
theorem cut32 {a a' r r' : List UInt8} (ha : (32 : UInt8) ∉ a) (ha' : (32 : UInt8) ∉ a') (h : a ++ 32 :: r = a' ++ 32 :: r') : a = a' ∧ r = r' := by
  induction a generalizing a' with
  | nil =>
    cases a' with
    | nil => simp at h; exact ⟨rfl, h⟩
    | cons b a' => simp at h; exact absurd (by simp [h.1]) ha'
  | cons b a ih =>
    cases a' with
    | nil => simp at h; exact absurd (by simp [h.1]) ha
    | cons c a' =>
      simp only [List.cons_append, List.cons.injEq] at h
      obtain ⟨h1, h2⟩ := ih (fun hm => ha (List.mem_cons_of_mem _ hm)) (fun hm => ha' (List.mem_cons_of_mem _ hm)) h.2
      exact ⟨by rw [h.1, h1], h2⟩
theorem kk_list (p q : Int) (l : List UInt8) : (kk p q l).data.toList = Lib.itoa p ++ 32 :: (Lib.itoa q ++ 32 :: l) := by
  simp [kk, itoaB, sp, ByteArray.data_append]
theorem kk_inj {p q p' q' : Int} {l l' : List UInt8} (h : kk p q l = kk p' q' l') : p = p' ∧ q = q' ∧ l = l' := by
  have h1 := congrArg (fun b => b.data.toList) h
  simp only [kk_list] at h1
  obtain ⟨h2, h3⟩ := cut32 (itoa_no32 _) (itoa_no32 _) h1
  obtain ⟨h4, h5⟩ := cut32 (itoa_no32 _) (itoa_no32 _) h3
  exact ⟨itoa_inj h2, itoa_inj h4, h5⟩
theorem itoaB_size {n : Int} (h : -9223372036854775808 ≤ n ∧ n ≤ 9223372036854775807) : (itoaB n).size ≤ 30 := by
  show (Lib.itoa n).toArray.size ≤ 30
  rw [List.size_toArray]
  unfold Lib.itoa
  split
  · have := dig_len 19 n.natAbs (by omega)
    simp; omega
  · have := dig_len 19 n.toNat (by omega)
    omega
theorem size_add (a b : ByteArray) : (a ++ b).size = a.size + b.size := ByteArray.size_append
/-- bindings' keys -/
def k6 (p : Int) (t : T6) : ByteArray := kk p t.port t.addr.l
def k4 (p : Int) (t : T4) : ByteArray := kk p t.port t.addr.l
theorem k6_inj {p p' : Int} {t t' : T6} : k6 p t = k6 p' t' ↔ p = p' ∧ t = t' := by
  constructor
  · intro h
    obtain ⟨h1, h2, h3⟩ := kk_inj h
    refine ⟨h1, ?_⟩
    cases t; cases t'
    simp only at h2 h3
    rw [V6.l_inj.1 h3, h2]
  · rintro ⟨rfl, rfl⟩; rfl
theorem k4_inj {p p' : Int} {t t' : T4} : k4 p t = k4 p' t' ↔ p = p' ∧ t = t' := by
  constructor
  · intro h
    obtain ⟨h1, h2, h3⟩ := kk_inj h
    refine ⟨h1, ?_⟩
    cases t; cases t'
    simp only at h2 h3
    rw [V4.l_inj.1 h3, h2]
  · rintro ⟨rfl, rfl⟩; rfl
end Go.V
