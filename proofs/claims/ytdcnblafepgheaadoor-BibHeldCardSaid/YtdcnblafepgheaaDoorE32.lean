/-
  Written by a program (wip/walks).
-/
import Derived.Test.YtdcnblafepgheaaDoorE31
import Derived.Test.YtdcnblafepgheaaDoorV12
namespace Go.Proofs.YtdcnblafepgheaaDoor
open Go Go.V
set_option maxRecDepth 100000
open Go.ChangeShapes Go.WideShapes Go.Deep
theorem u8minB : IntKind.u8.min = 0 := rfl
theorem u8maxB : IntKind.u8.max = 255 := rfl
theorem i64minB : IntKind.i64.min = -9223372036854775808 := rfl
theorem i64maxB : IntKind.i64.max = 9223372036854775807 := rfl
theorem wf_i64B {n : Int} (h : (Lit.int .i64 n).wf = true) : -9223372036854775808 ≤ n ∧ n ≤ 9223372036854775807 := by
  simp only [Lit.wf, Bool.and_eq_true, decide_eq_true_eq] at h
  rw [i64minB, i64maxB] at h; exact h
theorem wf_u8B {n : Int} (h : (Lit.int .u8 n).wf = true) : 0 ≤ n ∧ n ≤ 255 := by
  simp only [Lit.wf, Bool.and_eq_true, decide_eq_true_eq] at h
  rw [u8minB, u8maxB] at h; exact h
section
variable {H : Type} {enc : TypeId × Value → H} {w : World} {base : Nat} {sp : Nat → Bool} {held : Bool}
theorem slice_le {P : Program} {t e : TypeId} {p : Option Addr} {n c : Nat} {d : DataW H} {ps : List MemPlace} (ht : P.underlying t = some (.slice e)) (h : DataW.Trod enc P w base sp held t (.slice p n c) d ps) : n ≤ c := by
  obtain ⟨f, h⟩ := h
  rcases open_slice ht h with ⟨h1, _⟩ | ⟨a, len, cap, m, k, D, Pl, h1, _, hl, _⟩
  · have h2 : (Value.slice p n c) = .slice none 0 0 := by simpa [Value.cells] using h1
    simp only [Value.slice.injEq] at h2; omega
  · have h2 : (Value.slice p n c) = .slice (some a) len cap := by simpa [Value.cells] using h1
    simp only [Value.slice.injEq] at h2; omega
theorem open_v4 (n : Nat) (cs : List Value) (y : DataW H × List MemPlace) (h : DataW.trod enc Tryd.prog w base sp held n 27 cs = some y) : ∃ x : V4, cs = x.cs ∧ True := by
  obtain ⟨xs, m, _, _, hl, hlen, hel⟩ := DataW.trod_array Tryd.underlying27 h
  have hc : Tryd.prog.cellsOf 27 = 4 := by kernel_rfl
  have hc1 : Tryd.prog.cellsOf 5 = 1 := by kernel_rfl
  rw [hc] at hl
  match cs, hl with
  | [c0, c1, c2, c3], _ =>
    have hb : ∀ i, i < 4 → ∃ m : Int, [c0, c1, c2, c3][i]? = some (.int .u8 m) ∧ 0 ≤ m ∧ m ≤ 255 := fun i hi => by
      have h5 := hel i (by omega)
      rw [hc1, List.getElem?_eq_getElem (by omega)] at h5
      obtain ⟨m, h6, _, h7⟩ := DataW.trod_int Tryd.underlying5 h5
      have h8 := congrArg (·[0]?) h6
      exact ⟨m, by simpa [List.getElem?_take, List.getElem?_drop] using h8, wf_u8B h7⟩
    obtain ⟨m0, e0, a0, b0⟩ := hb 0 (by omega)
    obtain ⟨m1, e1, a1, b1⟩ := hb 1 (by omega)
    obtain ⟨m2, e2, a2, b2⟩ := hb 2 (by omega)
    obtain ⟨m3, e3, a3, b3⟩ := hb 3 (by omega)
    simp only [List.getElem?_cons_zero, List.getElem?_cons_succ, Option.some.injEq] at e0 e1 e2 e3
    subst e0 e1 e2 e3
    exact ⟨⟨UInt8.ofNat m0.toNat, UInt8.ofNat m1.toNat, UInt8.ofNat m2.toNat, UInt8.ofNat m3.toNat⟩, by rw [u8_of a0 b0, u8_of a1 b1, u8_of a2 b2, u8_of a3 b3], trivial⟩
end
instance : Inhabited V4 := ⟨⟨0, 0, 0, 0⟩⟩
theorem bibHeld_all (low high max n8 p x tt : Int) (hm : -9223372036854775808 ≤ max ∧ max ≤ 9223372036854775807) (h80 : 0 ≤ n8 ∧ n8 ≤ 255) (hp : -9223372036854775808 ≤ p ∧ p ≤ 9223372036854775807) (hx : -9223372036854775808 ≤ x ∧ x ≤ 9223372036854775807) (htt : -9223372036854775808 ≤ tt ∧ tt ≤ 9223372036854775807) {q : Option Addr} {n c : Nat} {l : List V4} {w : World} (hn : n = l.length) (hnc : n ≤ c) (he : n = 0 ∨ ∃ b o, q = some ⟨b, o, none⟩ ∧ Elts V4.cs 4 w b o l) (hT : Tb w) :
    Rets Tryd.prog 4 #[.slice q n c, .int .i64 low, .int .i64 high, .int .i64 max, .int .u8 n8, .int .i64 p, .int .i64 x, .int .i64 tt] w fun v w' => v = .bool true ∧ K0 w w' := by
  rcases he with rfl | ⟨b, o, rfl, he⟩
  · exact bibHeld_nil low high max n8 p x tt hm h80 hp hx htt hT
  · exact bibHeld_spec low high max n8 p x tt hm h80 hp hx htt hn hnc he hT
end Go.Proofs.YtdcnblafepgheaaDoor
