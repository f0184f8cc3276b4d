/-
  Written by a program (wip/walks).
-/
import Derived.Test.YtdcnblafepgheaaDoorE23
namespace Go.Proofs.YtdcnblafepgheaaDoor
open Go Go.V
set_option maxRecDepth 100000
section
variable {G : Gp} {g : BibG} {c : Int} {st : BibS} {w : World}
theorem bind_lift (m : GM G g) (wf : Wf G c (ab st)) (hc : 0 ≤ c) {p : Int} {k : Nat} (hk : k < 3) (hkN : kN p = k) (hkI : 0 ≤ kindI p) {t : T6} {u : T4} {v : Value} {w' : World}
    (hr : ((bindE g st k p t u ≠ 0 ∧ v = .tuple #[bv zeroB, .int .i64 (bindE g st k p t u)] ∧ BibIs g st w') ∨ (bindE g st k p t u = 0 ∧ ∃ x, v = .tuple #[bv ⟨st.last + 1, p, t, u, true, 0⟩, .int .i64 0] ∧ w.heap.size ≤ x ∧ BibIs g ⟨st.last + 1, st.l ++ [(⟨st.last + 1, p, t, u, true, 0⟩, x)], setH st.h k (st.h k ++ [(u, true)])⟩ w')) ∧
      Kp (fun i => i = g.tb ∨ i = g.mb ∨ i = g.i1.ib ∨ i = g.i1.sb ∨ i = g.i2.ib ∨ i = g.i2.sb ∨ i = (g.p k).mb) w w') :
    ∃ st', v = .tuple #[bv (bindA G (ab st) p t u).1, .int .i64 (bindA G (ab st) p t u).2.1] ∧ ab st' = (bindA G (ab st) p t u).2.2 ∧ Stp G g c st w st' w' := by
  obtain ⟨hr, kp⟩ := hr
  have kp' := kp_add (st := st) hk kp
  have hm := may_fun (G := G) (st := st) (p := p) (t := t) m.max
  obtain ⟨hpl1, hpl2, hpl3⟩ := m.pl k hk
  have hsame : Wf G (c + 1) (ab st) := wf.mono (by omega)
  unfold bindA bindE at *
  rw [if_neg (by omega : ¬ kindI p < 0), ← hm]
  rw [hpl1] at hr
  have hh : (ab st).h (kN p) = st.h k := by rw [hkN]; rfl
  rw [hh]
  by_cases hc1 : isPort t.port ∧ isPort u.port ∧ u.addr ∈ G.L
  · rw [if_pos hc1] at hr ⊢
    by_cases hc2 : (aget (st.h k) u).isSome = true
    · rw [if_pos hc2] at hr ⊢
      rcases hr with ⟨_, h2, h3⟩ | ⟨h1, _⟩
      · exact ⟨st, h2, rfl, h3, hsame, fun b hb => .inl hb, kp'⟩
      · cases h1
    · rw [if_neg hc2] at hr ⊢
      rcases hr with ⟨h1, h2, h3⟩ | ⟨h1, x, h2, hx, h3⟩
      · rw [if_pos h1]
        exact ⟨st, h2, rfl, h3, hsame, fun b hb => .inl hb, kp'⟩
      · rw [if_neg (by simpa using h1)]
        obtain ⟨m1, m2, m3, m4⟩ := mayE_zero h1
        have hn : aget (st.h k) u = none := by cases e : aget (st.h k) u with
          | none => rfl
          | some b => rw [e] at hc2; simp at hc2
        refine ⟨⟨st.last + 1, st.l ++ [(⟨st.last + 1, p, t, u, true, 0⟩, x)], setH st.h k (st.h k ++ [(u, true)])⟩, h2, ?_, h3, ?_, fun b hb => ?_, kp'⟩
        · simp [ab, hkN]
        · have := wf.put ⟨st.last + 1, p, t, u, true, 0⟩ rfl hkI m2 ⟨hc1.2.1, hc1.2.2⟩ ((in_fun st.l p t).symm.trans (by rw [m3]; rfl)) (by show aget (st.h (kN p)) u = none; rw [hkN]; exact hn) rfl (by have := m4; rw [m.max] at this; simpa [ab] using this) hc
          simpa [ab, hkN] using this
        · rcases bfp_add hb with e | e
          · exact .inl e
          · exact .inr (by omega)
  · rw [if_neg hc1] at hr ⊢
    rcases hr with ⟨_, h2, h3⟩ | ⟨h1, _⟩
    · exact ⟨st, h2, rfl, h3, hsame, fun b hb => .inl hb, kp'⟩
    · cases h1
theorem bind_w (m : GM G g) (h : BibIs g st w) (wf : Wf G c (ab st)) (hc : 0 ≤ c ∧ c ≤ 1000000) (p : Int) (t : T6) (u : T4) (ht : -9223372036854775808 ≤ t.port ∧ t.port ≤ 9223372036854775807) (hu : -9223372036854775808 ≤ u.port ∧ u.port ≤ 9223372036854775807) :
    Rets Tryd.prog 19 #[.pointer (some ⟨g.tb, 0, none⟩), .int .i64 p, t6 t, t4 u] w fun v w' => ∃ st', v = .tuple #[bv (bindA G (ab st) p t u).1, .int .i64 (bindA G (ab st) p t u).2.1] ∧ ab st' = (bindA G (ab st) p t u).2.2 ∧ Stp G g c st w st' w' := by
  by_cases hk : kindI p < 0
  · exact (bind_no h p hk t u).mono fun v w' hr => ⟨st, by unfold bindA; rw [if_pos hk]; exact hr.1, by unfold bindA; rw [if_pos hk], Stp.same h wf hr.2⟩
  · have hl := wf.last
    have hla : 0 ≤ st.last ∧ st.last ≤ 4611686018427387904 := by have : 0 ≤ st.last ∧ st.last ≤ c := hl; omega
    rcases kind_three (by omega : 0 ≤ kindI p) with rfl | rfl | rfl
    · exact (bind_0 m.ok h t u ht hu wf.hle hla (wf.hout (k := 0) rfl)).mono fun v w' hr => bind_lift (k := 0) m wf hc.1 (by decide) rfl (by decide) hr
    · exact (bind_1 m.ok h t u ht hu wf.hle hla (wf.hout (k := 1) rfl)).mono fun v w' hr => bind_lift (k := 1) m wf hc.1 (by decide) rfl (by decide) hr
    · exact (bind_2 m.ok h t u ht hu wf.hle hla (wf.hout (k := 2) rfl)).mono fun v w' hr => bind_lift (k := 2) m wf hc.1 (by decide) rfl (by decide) hr
theorem ab_cut (st : BibS) (id : Int) : (cutL st.l id).map (·.1) = cutA (ab st).l id := by
  unfold cutL cutA ab
  rw [List.filter_map]; rfl
theorem ab_upd (st : BibS) (id : Int) (b' : Binding) : (updL st.l id fun _ => b').map (·.1) = updA (ab st).l id b' := by
  unfold updL updA ab
  rw [List.map_map, List.map_map]
  apply List.map_congr_left
  intro q _
  simp only [Function.comp_apply]
  split <;> rfl
theorem upd_bfp {g : BibG} {st : BibS} {x : Int} {id : Int} {b' : Binding} {hh : Nat → List (T4 × Bool)} {b : Nat} (hb : b ∈ bfp g ⟨x, updL st.l id fun _ => b', hh⟩) : b ∈ bfp g st := by
  have e : (updL st.l id fun _ => b').map (·.2) = st.l.map (·.2) := upd_same _ fun x hx e => rfl
  unfold bfp at *
  rw [e] at hb; exact hb
theorem box_mem {q : Binding × Nat} (hq : q ∈ st.l) : q.2 ∈ bfp g st := List.mem_append_right _ (List.mem_map.2 ⟨q, hq, rfl⟩)
theorem rel_one (m : GM G g) (wf : Wf G c (ab st)) {q : Binding × Nat} (hq : q ∈ st.l) {k : Nat} (hk : k < 3) (hkN : kN q.1.proto = k) (hs : q.1.static = true) : pRel (g.p k).l (st.h k) q.1.out = (0, adel (st.h k) q.1.out) := by
  have h1 := wf.held q.1 (abm hq)
  have h2 := wf.out q.1 (abm hq)
  have h3 : aget (st.h k) q.1.out = some true := by rw [← hkN]; rw [hs] at h1; exact h1
  unfold pRel
  rw [if_pos ⟨h2.1, by rw [(m.pl k hk).1]; exact h2.2⟩, if_pos h3]
theorem give_one (m : GM G g) (wf : Wf G c (ab st)) {q : Binding × Nat} (hq : q ∈ st.l) {k : Nat} (hk : k < 3) (hkN : kN q.1.proto = k) (hs : q.1.static = false) : pGive (g.p k).l (st.h k) q.1.out = (0, adel (st.h k) q.1.out) := by
  have h1 := wf.held q.1 (abm hq)
  have h2 := wf.out q.1 (abm hq)
  have h3 : aget (st.h k) q.1.out = some false := by rw [← hkN]; rw [hs] at h1; exact h1
  unfold pGive
  rw [if_pos ⟨h2.1, by rw [(m.pl k hk).1]; exact h2.2⟩, h3]
end
end Go.Proofs.YtdcnblafepgheaaDoor
