/-
  Written by a program (wip/walks).
-/
import Derived.Test.YtdcnblafepgheaaDoorE5
import Derived.Test.YtdcnblafepgheaaDoorE4
namespace Go.Proofs.YtdcnblafepgheaaDoor
open Go Go.V
set_option maxRecDepth 100000
structure BibG where
  (tb mb : Nat) (i1 i2 : IxG) (p : Nat → PoolG) (max : Int) (first : V4)
structure BibS where
  (last : Int) (l : List (Binding × Nat)) (h : Nat → List (T4 × Bool))
def zeroB : Binding := ⟨0, 0, ⟨⟨0, 0, 0, 0, 0, 0, 0, 0, 0, 0, 0, 0, 0, 0, 0, 0⟩, 0⟩, ⟨⟨0, 0, 0, 0⟩, 0⟩, false, 0⟩
def zeroT4 : T4 := ⟨⟨0, 0, 0, 0⟩, 0⟩
def BibG.blocks (g : BibG) : List Nat := [g.tb, g.mb, g.i1.ib, g.i1.sb, g.i2.ib, g.i2.sb, (g.p 0).pb, (g.p 0).lb, (g.p 0).mb, (g.p 1).pb, (g.p 1).lb, (g.p 1).mb, (g.p 2).pb, (g.p 2).lb, (g.p 2).mb]
/-- all that is a table's -/
def bfp (g : BibG) (st : BibS) : List Nat := g.blocks ++ st.l.map (·.2)
def inM (l : List (Binding × Nat)) : ByteArray → Option Int := fun k => (l.find? fun q => decide (k6 q.1.proto q.1.inn = k)).map (·.1.id)
def outM (l : List (Binding × Nat)) : ByteArray → Option Int := fun k => (l.find? fun q => decide (k4 q.1.proto q.1.out = k)).map (·.1.id)
def lookIn (l : List (Binding × Nat)) (p : Int) (t : T6) : Option (Binding × Nat) := l.find? fun q => decide (q.1.proto = p ∧ q.1.inn = t)
def lookOut (l : List (Binding × Nat)) (p : Int) (t : T4) : Option (Binding × Nat) := l.find? fun q => decide (q.1.proto = p ∧ q.1.out = t)
def lookId (l : List (Binding × Nat)) (id : Int) : Option (Binding × Nat) := l.find? fun q => decide (q.1.id = id)
def idl (l : List (Binding × Nat)) : List (Int × Nat) := l.map fun q => (q.1.id, q.2)
structure BibIs (g : BibG) (st : BibS) (w : World) : Prop where
  blk : Blk w g.tb #[.int .i64 g.max, .int .i64 st.last, u8 g.first.a, u8 g.first.b, u8 g.first.c, u8 g.first.d, .map (some g.mb), .pointer (some ⟨g.i1.ib, 0, none⟩), .pointer (some ⟨g.i2.ib, 0, none⟩), .pointer (some ⟨(g.p 0).pb, 0, none⟩), .pointer (some ⟨(g.p 1).pb, 0, none⟩), .pointer (some ⟨(g.p 2).pb, 0, none⟩)] 95
  map : MapAt (fun n : Int => .int .i64 n) (fun p : Nat => Value.pointer (some ⟨p, 0, none⟩)) inI w g.mb (idl st.l)
  box : ∀ q ∈ st.l, Blk w q.2 q.1.cs.toArray 36
  ixin : IxIs g.i1 (inM st.l) st.l.length w
  ixout : IxIs g.i2 (outM st.l) st.l.length w
  pool : ∀ k, k < 3 → PoolIs (g.p k) (st.h k) w
  tb : Tb w
  nd : (bfp g st).Nodup
  tbn : 0 ∉ bfp g st
structure BibOk (g : BibG) : Prop where
  i1 : IxOk g.i1
  i2 : IxOk g.i2
  n1 : g.i1.n = g.max
  n2 : g.i2.n = g.max
  mx : g.max ≤ 65536
  pool : ∀ k, k < 3 → PoolOk (g.p k)
theorem mem_blocks {g : BibG} {st : BibS} {b : Nat} (h : b ∈ g.blocks) : b ∈ bfp g st := List.mem_append_left _ h
theorem BibIs.kp {g : BibG} {st : BibS} {w w' : World} (h : BibIs g st w) {F : Nat → Prop} (k : Kp F w w') (hF : ∀ b ∈ bfp g st, ¬ F b) (hT : ¬ F 0) : BibIs g st w' := by
  have hb : ∀ b ∈ g.blocks, ¬ F b := fun b hb => hF b (mem_blocks hb)
  simp only [BibG.blocks, List.mem_cons, List.not_mem_nil, or_false, forall_eq_or_imp, forall_eq] at hb
  obtain ⟨h1, h2, h3, h4, h5, h6, h7, h8, h9, h10, h11, h12, h13, h14, h15⟩ := hb
  refine ⟨k.get h.blk h1, h.map.kp k h2, fun q hq => k.get (h.box q hq) (hF q.2 (List.mem_append_right _ (List.mem_map.2 ⟨q, hq, rfl⟩))), h.ixin.kp k h3 h4, h.ixout.kp k h5 h6, fun i hi => ?_, h.tb.kp k hT, h.nd, h.tbn⟩
  match i, hi with
  | 0, hi => exact (h.pool 0 hi).kp k h7 h8 h9
  | 1, hi => exact (h.pool 1 hi).kp k h10 h11 h12
  | 2, hi => exact (h.pool 2 hi).kp k h13 h14 h15
theorem BibIs.k0 {g : BibG} {st : BibS} {w w' : World} (h : BibIs g st w) (k : K0 w w') : BibIs g st w' := h.kp k (fun _ _ e => e) id
theorem BibIs.lt {g : BibG} {st : BibS} {w : World} (h : BibIs g st w) : ∀ b ∈ bfp g st, b < w.heap.size := by
  intro b hb
  rcases List.mem_append.1 hb with hb | hb
  · have hp := fun i hi => h.pool i hi
    simp only [BibG.blocks, List.mem_cons, List.not_mem_nil, or_false] at hb
    rcases hb with rfl | rfl | rfl | rfl | rfl | rfl | rfl | rfl | rfl | rfl | rfl | rfl | rfl | rfl | rfl
    · exact lt_of_get h.blk
    · exact h.map.lt
    · exact h.ixin.lt.1
    · exact h.ixin.lt.2
    · exact h.ixout.lt.1
    · exact h.ixout.lt.2
    · exact lt_of_get (hp 0 (by omega)).blk
    · exact (hp 0 (by omega)).row.lt
    · exact (hp 0 (by omega)).map.lt
    · exact lt_of_get (hp 1 (by omega)).blk
    · exact (hp 1 (by omega)).row.lt
    · exact (hp 1 (by omega)).map.lt
    · exact lt_of_get (hp 2 (by omega)).blk
    · exact (hp 2 (by omega)).row.lt
    · exact (hp 2 (by omega)).map.lt
  · obtain ⟨q, hq, rfl⟩ := List.mem_map.1 hb
    exact lt_of_get (h.box q hq)
theorem idl_mem {l : List (Binding × Nat)} {q : Binding × Nat} (h : q ∈ l) : (q.1.id, q.2) ∈ idl l := List.mem_map.2 ⟨q, h, rfl⟩
theorem BibIs.ids {g : BibG} {st : BibS} {w : World} (h : BibIs g st w) : (st.l.map (·.1.id)).Nodup := by
  have := h.map.nodup
  simpa [idl, List.map_map, Function.comp_def] using this
theorem BibIs.aget {g : BibG} {st : BibS} {w : World} (h : BibIs g st w) {q : Binding × Nat} (hq : q ∈ st.l) : aget (idl st.l) q.1.id = some q.2 := aget_of_mem h.map.nodup (idl_mem hq)
theorem BibIs.good {g : BibG} {st : BibS} {w : World} (h : BibIs g st w) {q : Binding × Nat} (hq : q ∈ st.l) : inI q.1.id := h.map.goods _ (idl_mem hq)
theorem inM_look (l : List (Binding × Nat)) (p : Int) (t : T6) : inM l (k6 p t) = (lookIn l p t).map (·.1.id) := by
  unfold inM lookIn; congr 2; funext q; exact decide_eq_decide.2 k6_inj
theorem outM_look (l : List (Binding × Nat)) (p : Int) (t : T4) : outM l (k4 p t) = (lookOut l p t).map (·.1.id) := by
  unfold outM lookOut; congr 2; funext q; exact decide_eq_decide.2 k4_inj
theorem look_mem {l : List (Binding × Nat)} {f : Binding × Nat → Bool} {q : Binding × Nat} (h : l.find? f = some q) : q ∈ l := List.mem_of_find?_eq_some h
theorem getin_spec {g : BibG} {st : BibS} {w : World} (ok : BibOk g) (h : BibIs g st w) (p : Int) (t : T6) : Rets Tryd.prog 73 #[.pointer (some ⟨g.i1.ib, 0, none⟩), .string (k6 p t)] w fun v w' => ((lookIn st.l p t = none ∧ ∃ u : Int, v = .tuple #[.int .i64 u, .bool false]) ∨ (∃ q, lookIn st.l p t = some q ∧ q ∈ st.l ∧ v = .tuple #[.int .i64 q.1.id, .bool true])) ∧ K0 w w' :=
  (get_spec ok.i1 h.ixin (k6 p t)).mono fun v w' ⟨⟨u, h1, h2⟩, k⟩ => ⟨by
    rw [inM_look] at h1 h2
    cases hq : lookIn st.l p t with
    | none => rw [hq] at h1; exact .inl ⟨rfl, u, h1⟩
    | some q => rw [hq] at h1 h2; exact .inr ⟨q, rfl, look_mem hq, by rw [h1, h2 q.1.id rfl]; rfl⟩, k⟩
theorem getout_spec {g : BibG} {st : BibS} {w : World} (ok : BibOk g) (h : BibIs g st w) (p : Int) (t : T4) : Rets Tryd.prog 73 #[.pointer (some ⟨g.i2.ib, 0, none⟩), .string (k4 p t)] w fun v w' => ((lookOut st.l p t = none ∧ ∃ u : Int, v = .tuple #[.int .i64 u, .bool false]) ∨ (∃ q, lookOut st.l p t = some q ∧ q ∈ st.l ∧ v = .tuple #[.int .i64 q.1.id, .bool true])) ∧ K0 w w' :=
  (get_spec ok.i2 h.ixout (k4 p t)).mono fun v w' ⟨⟨u, h1, h2⟩, k⟩ => ⟨by
    rw [outM_look] at h1 h2
    cases hq : lookOut st.l p t with
    | none => rw [hq] at h1; exact .inl ⟨rfl, u, h1⟩
    | some q => rw [hq] at h1 h2; exact .inr ⟨q, rfl, look_mem hq, by rw [h1, h2 q.1.id rfl]; rfl⟩, k⟩
end Go.Proofs.YtdcnblafepgheaaDoor
