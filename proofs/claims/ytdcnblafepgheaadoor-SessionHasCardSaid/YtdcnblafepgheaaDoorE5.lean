/-
  Written by a program (wip/walks).
-/
import Derived.Test.YtdcnblafepgheaaDoorDom
import Derived.Test.YtdcnblafepgheaaDoorShelf
import Derived.Test.YtdcnblafepgheaaDoorE3
import Derived.Test.YtdcnblafepgheaaDoorV7
namespace Go.Proofs.YtdcnblafepgheaaDoor
open Go Go.V
set_option maxRecDepth 100000
/-- the table of the powers of ten is as it was laid -/
def Tb (w : World) : Prop := Lib.TabIs Tryd.prog w "internal/strconv.uint64pow10" .u64 Lib.pow10Tab
theorem tbG : Tryd.prog.globalNamed "internal/strconv.uint64pow10" = some 0 := by kernel_rfl
theorem Tb.get {w : World} (h : Tb w) : ∃ T fz, w.heap[0]? = some (.cells (Lib.pow10Tab.map fun z => Value.int .u64 z).toArray T fz) := by
  unfold Tb Lib.TabIs World.var? at h
  rw [tbG] at h
  simp only [Option.bind_some] at h
  split at h
  · rename_i cs T fz hc; injection h with h; exact ⟨T, fz, by rw [hc, h]⟩
  · cases h
theorem Tb.lt {w : World} (h : Tb w) : 0 < w.heap.size := by obtain ⟨_, _, h⟩ := h.get; exact lt_of_get h
theorem Tb.kp {w w' : World} (h : Tb w) {F : Nat → Prop} (k : Kp F w w') (hn : ¬ F 0) : Tb w' := by
  have h0 := h
  obtain ⟨T, fz, hg⟩ := h.get
  have := k.get hg hn
  unfold Tb Lib.TabIs World.var? at h0 ⊢
  rw [tbG] at h0 ⊢
  simp only [Option.bind_some, this]
theorem Tb.ne {w : World} (h : Tb w) {b : Nat} {cs : Array Value} {T : TypeId} {fz : Nat × Nat} (hb : w.heap[b]? = some (.cells cs T fz)) (hc : ∀ v, cs[0]? = some v → v ≠ .int .u64 1) : b ≠ 0 := fun e => by
  obtain ⟨U, fy, hg⟩ := h.get
  subst e
  rw [hb] at hg
  injection hg with hg; injection hg with hg
  exact hc _ (by rw [hg]; rfl) rfl
theorem Tb.ne_map {w : World} (h : Tb w) {b : Nat} {es : Array MapEntry} {c : Nat} (hb : w.heap[b]? = some (.map es c)) : b ≠ 0 := fun e => by
  obtain ⟨U, fy, hg⟩ := h.get
  subst e
  rw [hb] at hg; cases hg
theorem itoa_spec (n : Int) (w : World) (hn : -9223372036854775808 ≤ n ∧ n ≤ 9223372036854775807) (ht : Tb w) : Rets Tryd.prog 89 #[.int .i64 n] w fun v w' => v = .string (itoaB n) ∧ K0 w w' := by
  refine Calls.mono (Tryd.strconv_Itoa n hn.1 hn.2 w ht) fun e w' ⟨h1, k, os, h2⟩ => ⟨_, h1, rfl, ?_⟩
  subst h2
  exact ⟨rfl, rfl, rfl, by simp [Sort.grow, World.drewN], fun i hi _ => by simp [Sort.grow, World.drewN, Array.getElem?_append_left hi]⟩
end Go.Proofs.YtdcnblafepgheaaDoor
