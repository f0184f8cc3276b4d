/-
  Written by a program (wip/walks).
-/
import Derived.Test.YtdcnblafepgheaaDoorS17
namespace Go.Proofs.YtdcnblafepgheaaDoor
open Go Go.V
set_option maxRecDepth 100000
open Go.ChangeShapes Go.WideShapes
theorem u8min : IntKind.u8.min = 0 := rfl
theorem u8max : IntKind.u8.max = 255 := rfl
theorem i64min : IntKind.i64.min = -9223372036854775808 := rfl
theorem i64max : IntKind.i64.max = 9223372036854775807 := rfl
theorem open_act {H : Type} {enc : TypeId × Value → H} {w : World} {base : Nat} {sp : Nat → Bool} {held : Bool} (n : Nat) (cs : List Value) (y : DataW H × List MemPlace) (h : DataW.trod enc Tryd.prog w base sp held n 57 cs = some y) : ∃ x : Act, cs = x.cs ∧ x.good := by
  obtain ⟨hl, hk⟩ := trod_ints (ks := [.u8, .u8, .i64, .i64, .i64, .i64, .i64]) Tryd.underlying57 rfl (by kernel_rfl) (fun i f hf => by
    match i, hf with
    | 0, hf => cases hf; exact ⟨rfl, by kernel_rfl, _, rfl, Tryd.underlying5⟩
    | 1, hf => cases hf; exact ⟨rfl, by kernel_rfl, _, rfl, Tryd.underlying5⟩
    | 2, hf => cases hf; exact ⟨rfl, by kernel_rfl, _, rfl, Tryd.underlying3⟩
    | 3, hf => cases hf; exact ⟨rfl, by kernel_rfl, _, rfl, Tryd.underlying3⟩
    | 4, hf => cases hf; exact ⟨rfl, by kernel_rfl, _, rfl, Tryd.underlying3⟩
    | 5, hf => cases hf; exact ⟨rfl, by kernel_rfl, _, rfl, Tryd.underlying3⟩
    | 6, hf => cases hf; exact ⟨rfl, by kernel_rfl, _, rfl, Tryd.underlying3⟩
    | i + 7, hf => simp at hf) h
  obtain ⟨m0, e0, a0, b0⟩ := hk 0 .u8 rfl
  obtain ⟨m1, e1, a1, b1⟩ := hk 1 .u8 rfl
  obtain ⟨m2, e2, a2, b2⟩ := hk 2 .i64 rfl
  obtain ⟨m3, e3, a3, b3⟩ := hk 3 .i64 rfl
  obtain ⟨m4, e4, a4, b4⟩ := hk 4 .i64 rfl
  obtain ⟨m5, e5, a5, b5⟩ := hk 5 .i64 rfl
  obtain ⟨m6, e6, a6, b6⟩ := hk 6 .i64 rfl
  rw [u8min] at a0; rw [u8max] at b0
  rw [u8min] at a1; rw [u8max] at b1
  rw [i64min] at a2; rw [i64max] at b2
  rw [i64min] at a3; rw [i64max] at b3
  rw [i64min] at a4; rw [i64max] at b4
  rw [i64min] at a5; rw [i64max] at b5
  rw [i64min] at a6; rw [i64max] at b6
  match cs, hl with
  | [c0, c1, c2, c3, c4, c5, c6], _ =>
    simp only [List.getElem?_cons_zero, List.getElem?_cons_succ, Option.some.injEq] at e0 e1 e2 e3 e4 e5 e6
    subst e0 e1 e2 e3 e4 e5 e6
    exact ⟨⟨m0, UInt8.ofNat m1.toNat, m2, m3, m4, m5, m6⟩, by rw [u8_of a1 b1], ⟨a0, b0⟩, ⟨a2, b2⟩, ⟨a3, b3⟩, ⟨a4, b4⟩, ⟨a5, b5⟩, ⟨a6, b6⟩⟩
theorem wf_i64 {n : Int} (h : (Lit.int .i64 n).wf = true) : -9223372036854775808 ≤ n ∧ n ≤ 9223372036854775807 := by
  simp only [Lit.wf, Bool.and_eq_true, decide_eq_true_eq] at h
  rw [i64min, i64max] at h; exact h
end Go.Proofs.YtdcnblafepgheaaDoor
