/-
  Written by a program (wip/walks).
-/
import Derived.Test.YtdcnblafepgheaaDoorE22
namespace Go.Proofs.YtdcnblafepgheaaDoor
open Go Go.V
set_option maxRecDepth 100000
structure GM (G : Gp) (g : BibG) : Prop where
  ok : BibOk g
  max : g.max = G.max
  first : g.first = G.first
  pl : ∀ k, k < 3 → (g.p k).l = G.L ∧ (g.p k).low = G.low ∧ (g.p k).high = G.high
  fL : G.first ∈ G.L
/-- an act has turned the table -/
structure Stp (G : Gp) (g : BibG) (c : Int) (st : BibS) (w : World) (st' : BibS) (w' : World) : Prop where
  is : BibIs g st' w'
  wf : Wf G (c + 1) (ab st')
  sub : ∀ b ∈ bfp g st', b ∈ bfp g st ∨ w.heap.size ≤ b
  kp : Kp (fun k => k ∈ bfp g st) w w'
section
variable {G : Gp} {g : BibG} {c : Int} {st : BibS} {w : World}
theorem abm {q : Binding × Nat} (hq : q ∈ st.l) : q.1 ∈ (ab st).l := List.mem_map.2 ⟨q, hq, rfl⟩
theorem Wf.h1 (h : Wf G c (ab st)) : ∀ q ∈ st.l, 1 ≤ q.1.id := fun q hq => (h.id1 q.1 (abm hq)).1
theorem Wf.hle (h : Wf G c (ab st)) : ∀ q ∈ st.l, q.1.id ≤ st.last := fun q hq => (h.id1 q.1 (abm hq)).2
theorem Wf.hout (h : Wf G c (ab st)) {p : Int} {k : Nat} (hk : kN p = k) : ∀ q ∈ st.l, q.1.proto = p → aget (st.h k) q.1.out ≠ none := fun q hq e => by
  have := h.held q.1 (abm hq)
  rw [e, hk] at this
  show aget ((ab st).h k) q.1.out ≠ none
  rw [this]; simp
theorem port_rng {n : Int} (h : isPort n) : -9223372036854775808 ≤ n ∧ n ≤ 9223372036854775807 := by unfold isPort at h; omega
theorem kind_rng {p : Int} (h : 0 ≤ kindI p) : -9223372036854775808 ≤ p ∧ p ≤ 9223372036854775807 := by
  unfold kindI at h
  split at h
  · omega
  · split at h
    · omega
    · split at h <;> omega
theorem kind_three {p : Int} (h : 0 ≤ kindI p) : p = 1 ∨ p = 6 ∨ p = 17 := by
  unfold kindI at h
  split at h
  · omega
  · split at h
    · omega
    · split at h <;> omega
theorem Wf.rngs (h : Wf G c (ab st)) : ∀ q ∈ st.l, (-9223372036854775808 ≤ q.1.proto ∧ q.1.proto ≤ 9223372036854775807) ∧ (-9223372036854775808 ≤ q.1.inn.port ∧ q.1.inn.port ≤ 9223372036854775807) ∧ (-9223372036854775808 ≤ q.1.out.port ∧ q.1.out.port ≤ 9223372036854775807) := fun q hq =>
  ⟨kind_rng (h.kind q.1 (abm hq)), port_rng (h.inn q.1 (abm hq)), port_rng (h.out q.1 (abm hq)).1⟩
theorem BibIs.hU (hb : BibIs g st w) (h : Wf G c (ab st)) : ∀ q ∈ st.l, ∀ q' ∈ st.l, k6 q'.1.proto q'.1.inn = k6 q.1.proto q.1.inn → q' = q := fun q hq q' hq' e => by
  obtain ⟨e1, e2⟩ := k6_inj.1 e
  exact same_q' hb.ids hq hq' (by rw [h.ins q.1 (abm hq) q'.1 (abm hq') e1 e2])
theorem BibIs.hV (hb : BibIs g st w) (h : Wf G c (ab st)) : ∀ q ∈ st.l, ∀ q' ∈ st.l, k4 q'.1.proto q'.1.out = k4 q.1.proto q.1.out → q' = q := fun q hq q' hq' e => by
  obtain ⟨e1, e2⟩ := k4_inj.1 e
  exact same_q' hb.ids hq hq' (by rw [h.outs q.1 (abm hq) q'.1 (abm hq') e1 e2])
theorem Stp.same (h : BibIs g st w) (wf : Wf G c (ab st)) {w' : World} (k : K0 w w') : Stp G g c st w st w' := ⟨h.k0 k, wf.mono (by omega), fun b hb => .inl hb, Kp.of0 k⟩
theorem kp_add {k : Nat} (hk : k < 3) {w' : World} (kp : Kp (fun i => i = g.tb ∨ i = g.mb ∨ i = g.i1.ib ∨ i = g.i1.sb ∨ i = g.i2.ib ∨ i = g.i2.sb ∨ i = (g.p k).mb) w w') : Kp (fun i => i ∈ bfp g st) w w' := kp.mono fun i _ h => by
  rcases h with h | h | h | h | h | h | h
  all_goals refine mem_blocks ?_
  · rw [h]; simp [BibG.blocks]
  · rw [h]; simp [BibG.blocks]
  · rw [h]; simp [BibG.blocks]
  · rw [h]; simp [BibG.blocks]
  · rw [h]; simp [BibG.blocks]
  · rw [h]; simp [BibG.blocks]
  · rw [h]; exact mbAt_mem g hk
theorem add_lift (m : GM G g) (wf : Wf G c (ab st)) (hc : 0 ≤ c) {p : Int} {k : Nat} (hk : k < 3) (hkN : kN p = k) (hkI : 0 ≤ kindI p) {t : T6} {plain : Bool} (hpl : plain = decide (p = 1)) {v : Value} {w' : World}
    (hr : ((mayE g st p t ≠ 0 ∧ v = .tuple #[bv zeroB, .int .i64 (mayE g st p t)] ∧ BibIs g st w') ∨ (mayE g st p t = 0 ∧ (∃ a, PairR g st.l t.addr a ∧ TakeQ (g.p k) (st.h k) a t.port plain none) ∧ v = .tuple #[bv zeroB, .int .i64 13] ∧ BibIs g st w') ∨ (mayE g st p t = 0 ∧ ∃ r x, (∃ a, PairR g st.l t.addr a ∧ TakeQ (g.p k) (st.h k) a t.port plain (some r)) ∧ v = .tuple #[bv ⟨st.last + 1, p, t, r, false, 0⟩, .int .i64 0] ∧ w.heap.size ≤ x ∧ BibIs g ⟨st.last + 1, st.l ++ [(⟨st.last + 1, p, t, r, false, 0⟩, x)], setH st.h k (st.h k ++ [(r, false)])⟩ w')) ∧
      Kp (fun i => i = g.tb ∨ i = g.mb ∨ i = g.i1.ib ∨ i = g.i1.sb ∨ i = g.i2.ib ∨ i = g.i2.sb ∨ i = (g.p k).mb) w w') :
    ∃ st', v = .tuple #[bv (addA G (ab st) p t).1, .int .i64 (addA G (ab st) p t).2.1] ∧ ab st' = (addA G (ab st) p t).2.2 ∧ Stp G g c st w st' w' := by
  obtain ⟨hr, kp⟩ := hr
  have kp' := kp_add (st := st) hk kp
  have hm := may_fun (G := G) (st := st) (p := p) (t := t) m.max
  obtain ⟨hpl1, hpl2, hpl3⟩ := m.pl k hk
  unfold addA
  rw [← hm]
  rcases hr with ⟨h1, h2, h3⟩ | ⟨h1, ⟨a, ha, hq⟩, h2, h3⟩ | ⟨h1, r, x, ⟨a, ha, hq⟩, h2, hx, h3⟩
  · rw [if_pos h1]
    exact ⟨st, h2, rfl, h3, wf.mono (by omega), fun b hb => .inl hb, kp'⟩
  · rw [if_neg (by simpa using h1)]
    obtain ⟨m1, m2, m3, m4⟩ := mayE_zero h1
    unfold TakeQ at hq; rw [if_pos m2] at hq
    have e1 := take_fun hpl1 hpl2 hpl3 hq
    have e2 := pair_fun m.first wf.ids ha
    rw [← hpl]
    show ∃ st', v = _ ∧ _ ∧ _
    have e3 : takeA G ((ab st).h (kN p)) (pairA G (ab st).l t.addr) t.port plain = none := by rw [hkN]; exact (congrArg (fun f => takeA G (st.h k) f t.port plain) e2).trans e1
    rw [e3]
    exact ⟨st, h2, rfl, h3, wf.mono (by omega), fun b hb => .inl hb, kp'⟩
  · rw [if_neg (by simpa using h1)]
    obtain ⟨m1, m2, m3, m4⟩ := mayE_zero h1
    have hto := take_out m2 hq
    unfold TakeQ at hq; rw [if_pos m2] at hq
    have e1 := take_fun hpl1 hpl2 hpl3 hq
    have e2 := pair_fun m.first wf.ids ha
    rw [← hpl]
    have e3 : takeA G ((ab st).h (kN p)) (pairA G (ab st).l t.addr) t.port plain = some r := by rw [hkN]; exact (congrArg (fun f => takeA G (st.h k) f t.port plain) e2).trans e1
    rw [e3]
    have hok := m.ok.pool k hk
    have hra : r.addr ∈ G.L := by
      obtain ⟨_, _, _, i, hi, _⟩ := hq
      have := List.mem_of_getElem? hi
      rw [← hpl1]
      unfold ord at this
      split at this
      · rcases List.mem_cons.1 this with e | e
        · rw [e]; assumption
        · exact List.mem_of_mem_erase e
      · exact this
    refine ⟨⟨st.last + 1, st.l ++ [(⟨st.last + 1, p, t, r, false, 0⟩, x)], setH st.h k (st.h k ++ [(r, false)])⟩, h2, ?_, h3, ?_, fun b hb => ?_, kp'⟩
    · simp [ab, hkN]
    · have hp1 : isPort r.port := by have := hok.lo; have := hok.hi; unfold isPort; omega
      have := wf.put ⟨st.last + 1, p, t, r, false, 0⟩ rfl hkI m2 ⟨hp1, hra⟩ ((in_fun st.l p t).symm.trans (by rw [m3]; rfl)) (by show aget (st.h (kN p)) r = none; rw [hkN]; exact hto.2.2) rfl (by have := m4; rw [m.max] at this; simpa [ab] using this) hc
      simpa [ab, hkN] using this
    · rcases bfp_add hb with e | e
      · exact .inl e
      · exact .inr (by omega)
theorem add_w (m : GM G g) (h : BibIs g st w) (wf : Wf G c (ab st)) (hc : 0 ≤ c ∧ c ≤ 1000000) (p : Int) (hp : -9223372036854775808 ≤ p ∧ p ≤ 9223372036854775807) (t : T6) (ht : -9223372036854775808 ≤ t.port ∧ t.port ≤ 9223372036854775807) :
    Rets Tryd.prog 13 #[.pointer (some ⟨g.tb, 0, none⟩), .int .i64 p, t6 t] w fun v w' => ∃ st', v = .tuple #[bv (addA G (ab st) p t).1, .int .i64 (addA G (ab st) p t).2.1] ∧ ab st' = (addA G (ab st) p t).2.2 ∧ Stp G g c st w st' w' := by
  by_cases hk : kindI p < 0
  · refine (add_no m.ok h p hp hk t ht).mono fun v w' hr => ⟨st, ?_, ?_, Stp.same h wf hr.2⟩
    · have : mayA G (ab st) p t = 10 := by unfold mayA; rw [if_pos hk]
      unfold addA; rw [this, if_pos (by decide)]; exact hr.1
    · have : mayA G (ab st) p t = 10 := by unfold mayA; rw [if_pos hk]
      unfold addA; rw [this, if_pos (by decide)]
  · have hl := wf.last
    have hla : 0 ≤ st.last ∧ st.last ≤ 4611686018427387904 := by have : 0 ≤ st.last ∧ st.last ≤ c := hl; omega
    rcases kind_three (by omega : 0 ≤ kindI p) with rfl | rfl | rfl
    · exact (add_0 m.ok h t ht wf.h1 wf.hle hla (wf.hout (k := 0) rfl)).mono fun v w' hr => add_lift (k := 0) m wf hc.1 (by decide) rfl (by decide) rfl hr
    · exact (add_1 m.ok h t ht wf.h1 wf.hle hla (wf.hout (k := 1) rfl)).mono fun v w' hr => add_lift (k := 1) m wf hc.1 (by decide) rfl (by decide) rfl hr
    · exact (add_2 m.ok h t ht wf.h1 wf.hle hla (wf.hout (k := 2) rfl)).mono fun v w' hr => add_lift (k := 2) m wf hc.1 (by decide) rfl (by decide) rfl hr
end
end Go.Proofs.YtdcnblafepgheaaDoor
