/-
  Written by a program (wip/walks).
-/
import Derived.Test.YtdcnblafepgheaaDoorE24
namespace Go.Proofs.YtdcnblafepgheaaDoor
open Go Go.V
set_option maxRecDepth 100000
section
variable {G : Gp} {g : BibG} {c : Int} {st : BibS} {w : World}
theorem unbind_lift (m : GM G g) (wf : Wf G c (ab st)) {p : Int} {k : Nat} (hk : k < 3) (hkN : kN p = k) (hkI : 0 ≤ kindI p) {t : T6} {v : Value} {w' : World}
    (hr : (((∀ q, lookIn st.l p t = some q → q.1.static = false) ∧ v = .tuple #[bv zeroB, .int .i64 4] ∧ BibIs g st w') ∨ (∃ q, lookIn st.l p t = some q ∧ q ∈ st.l ∧ q.1.static = true ∧ v = .tuple #[bv q.1, .int .i64 (pRel (g.p k).l (st.h k) q.1.out).1] ∧ BibIs g ⟨st.last, cutL st.l q.1.id, setH st.h k (pRel (g.p k).l (st.h k) q.1.out).2⟩ w')) ∧
      Kp (fun i => i = g.tb ∨ i = g.mb ∨ i = g.i1.ib ∨ i = g.i1.sb ∨ i = g.i2.ib ∨ i = g.i2.sb ∨ i = (g.p k).mb) w w') :
    ∃ st', v = .tuple #[bv (unbindA (ab st) p t).1, .int .i64 (unbindA (ab st) p t).2.1] ∧ ab st' = (unbindA (ab st) p t).2.2 ∧ Stp G g c st w st' w' := by
  obtain ⟨hr, kp⟩ := hr
  have kp' := kp_add (st := st) hk kp
  have hin := in_fun st.l p t
  have hsame : Wf G (c + 1) (ab st) := wf.mono (by omega)
  unfold unbindA
  rw [if_neg (by omega : ¬ kindI p < 0)]
  have hin' : inA (ab st).l p t = (lookIn st.l p t).map (·.1) := hin.symm
  rw [hin']
  rcases hr with ⟨h1, h2, h3⟩ | ⟨q, h1, hq, hs, h2, h3⟩
  · cases hl : lookIn st.l p t with
    | none => exact ⟨st, h2, rfl, h3, hsame, fun b hb => .inl hb, kp'⟩
    | some q =>
      simp only [Option.map_some, h1 q hl, Bool.false_eq_true, if_false]
      exact ⟨st, h2, rfl, h3, hsame, fun b hb => .inl hb, kp'⟩
  · have hpq : q.1.proto = p := by have := List.find?_some h1; simp at this; exact this.1
    have e1 := rel_one m wf hq hk (by rw [hpq]; exact hkN) hs
    rw [e1] at h2 h3
    rw [h1]
    simp only [Option.map_some, hs, if_true]
    refine ⟨_, h2, ?_, h3, ?_, fun b hb => .inl (bfp_cut hb), kp'⟩
    · simp only [ab, ab_cut, hkN]
    · have := wf.cut (abm hq)
      rw [hpq, hkN] at this
      simp only [ab, ab_cut]
      exact this
theorem unbind_w (m : GM G g) (h : BibIs g st w) (wf : Wf G c (ab st)) (p : Int) (t : T6) (ht : -9223372036854775808 ≤ t.port ∧ t.port ≤ 9223372036854775807) :
    Rets Tryd.prog 20 #[.pointer (some ⟨g.tb, 0, none⟩), .int .i64 p, t6 t] w fun v w' => ∃ st', v = .tuple #[bv (unbindA (ab st) p t).1, .int .i64 (unbindA (ab st) p t).2.1] ∧ ab st' = (unbindA (ab st) p t).2.2 ∧ Stp G g c st w st' w' := by
  by_cases hk : kindI p < 0
  · exact (unbind_no h p hk t).mono fun v w' hr => ⟨st, by unfold unbindA; rw [if_pos hk]; exact hr.1, by unfold unbindA; rw [if_pos hk], Stp.same h wf hr.2⟩
  · rcases kind_three (by omega : 0 ≤ kindI p) with rfl | rfl | rfl
    · exact (unbind_0 m.ok h t ht (h.hU wf) (h.hV wf) wf.rngs).mono fun v w' hr => unbind_lift (k := 0) m wf (by decide) rfl (by decide) hr
    · exact (unbind_1 m.ok h t ht (h.hU wf) (h.hV wf) wf.rngs).mono fun v w' hr => unbind_lift (k := 1) m wf (by decide) rfl (by decide) hr
    · exact (unbind_2 m.ok h t ht (h.hU wf) (h.hV wf) wf.rngs).mono fun v w' hr => unbind_lift (k := 2) m wf (by decide) rfl (by decide) hr
theorem hold_w (h : BibIs g st w) (wf : Wf G c (ab st)) (hc : c ≤ 1000000) (n : Int) (hn : -9223372036854775808 ≤ n ∧ n ≤ 9223372036854775807) :
    Rets Tryd.prog 16 #[.pointer (some ⟨g.tb, 0, none⟩), .int .i64 n] w fun v w' => ∃ st', v = .int .i64 (holdA (ab st) n).1 ∧ ab st' = (holdA (ab st) n).2 ∧ Stp G g c st w st' w' := by
  have hid : idA (ab st).l n = (lookId st.l n).map (·.1) := (id_fun st.l n).symm
  unfold holdA
  rw [hid]
  cases hl : lookId st.l n with
  | none => exact (hold_none h n hn hl).mono fun v w' hr => ⟨st, hr.1, rfl, Stp.same h wf hr.2⟩
  | some q =>
    have hq := look_mem hl
    have hqn := lookId_id hl
    subst hqn
    have hs := wf.ses q.1 (abm hq)
    refine (hold_some h q hq (by omega)).mono fun v w' hr => ⟨_, hr.1, ?_, hr.2.1, ?_, fun b hb => .inl (upd_bfp hb), hr.2.2.mono fun i _ e => e ▸ box_mem hq⟩
    · simp only [ab, ab_upd, Option.map_some]
    · have := wf.upd (abm hq) 1 (by omega)
      simp only [ab, ab_upd]
      exact this
theorem drop_w (m : GM G g) (h : BibIs g st w) (wf : Wf G c (ab st)) (hc : c ≤ 1000000) (n : Int) (hn : -9223372036854775808 ≤ n ∧ n ≤ 9223372036854775807) :
    Rets Tryd.prog 17 #[.pointer (some ⟨g.tb, 0, none⟩), .int .i64 n] w fun v w' => ∃ st', v = .tuple #[.bool (dropA (ab st) n).1, .int .i64 (dropA (ab st) n).2.1] ∧ ab st' = (dropA (ab st) n).2.2 ∧ Stp G g c st w st' w' := by
  have hid : idA (ab st).l n = (lookId st.l n).map (·.1) := (id_fun st.l n).symm
  unfold dropA
  rw [hid]
  cases hl : lookId st.l n with
  | none => exact (drop_none h n hn hl).mono fun v w' hr => ⟨st, hr.1, rfl, Stp.same h wf hr.2⟩
  | some q =>
    have hq := look_mem hl
    have hqn := lookId_id hl
    subst hqn
    have hs := wf.ses q.1 (abm hq)
    simp only [Option.map_some]
    by_cases h0 : q.1.sessions = 0
    · rw [if_pos h0]
      exact (drop_zero h q hq h0).mono fun v w' hr => ⟨st, hr.1, rfl, Stp.same h wf hr.2⟩
    · rw [if_neg h0]
      by_cases h1 : q.1.static = true ∨ 1 < q.1.sessions
      · rw [if_pos h1]
        refine (drop_stay h q hq (by omega) h1).mono fun v w' hr => ⟨_, hr.1, ?_, hr.2.1, ?_, fun b hb => .inl (upd_bfp hb), hr.2.2.mono fun i _ e => e ▸ box_mem hq⟩
        · simp only [ab, ab_upd]
        · have := wf.upd (abm hq) (-1) (by omega)
          simp only [ab, ab_upd]
          exact this
      · rw [if_neg h1]
        have h2 : q.1.sessions = 1 := by omega
        have h3 : q.1.static = false := by cases e : q.1.static with
          | false => rfl
          | true => exact absurd (.inl e) h1
        have lift : ∀ k, k < 3 → kN q.1.proto = k → ∀ (v : Value) (w' : World), (v = .tuple #[.bool true, .int .i64 (pGive (g.p k).l (st.h k) q.1.out).1] ∧ BibIs g ⟨st.last, cutL st.l q.1.id, setH st.h k (pGive (g.p k).l (st.h k) q.1.out).2⟩ w' ∧ Kp (fun i => i = q.2 ∨ i = g.tb ∨ i = g.mb ∨ i = g.i1.ib ∨ i = g.i1.sb ∨ i = g.i2.ib ∨ i = g.i2.sb ∨ i = (g.p k).mb) w w') →
            ∃ st', v = .tuple #[.bool true, .int .i64 0] ∧ ab st' = ⟨(ab st).last, cutA (ab st).l q.1.id, setH (ab st).h (kN q.1.proto) (adel ((ab st).h (kN q.1.proto)) q.1.out)⟩ ∧ Stp G g c st w st' w' := by
          intro k hk hkN v w' ⟨r1, r2, r3⟩
          have e1 := give_one m wf hq hk hkN h3
          rw [e1] at r1 r2
          refine ⟨_, r1, ?_, r2, ?_, fun b hb => .inl (bfp_cut hb), r3.mono fun i _ e => ?_⟩
          · simp only [ab, ab_cut, hkN]
          · have := wf.cut (abm hq)
            rw [hkN] at this
            simp only [ab, ab_cut]
            exact this
          · rcases e with e | e | e | e | e | e | e | e
            · exact e ▸ box_mem hq
            all_goals refine mem_blocks ?_
            · rw [e]; simp [BibG.blocks]
            · rw [e]; simp [BibG.blocks]
            · rw [e]; simp [BibG.blocks]
            · rw [e]; simp [BibG.blocks]
            · rw [e]; simp [BibG.blocks]
            · rw [e]; simp [BibG.blocks]
            · rw [e]; exact mbAt_mem g hk
        have hu := h.hU wf q hq; have hv := h.hV wf q hq; have hr0 := wf.rngs q hq
        rcases kind_three (wf.kind q.1 (abm hq)) with e | e | e
        · exact (drop_gone_0 m.ok h q hq h2 h3 (by rw [e]; rfl) hu hv hr0).mono fun v w' hr => lift 0 (by decide) (by rw [e]; rfl) v w' hr
        · exact (drop_gone_1 m.ok h q hq h2 h3 (by rw [e]; rfl) hu hv hr0).mono fun v w' hr => lift 1 (by decide) (by rw [e]; rfl) v w' hr
        · exact (drop_gone_2 m.ok h q hq h2 h3 (by rw [e]; rfl) hu hv hr0).mono fun v w' hr => lift 2 (by decide) (by rw [e]; rfl) v w' hr
end
end Go.Proofs.YtdcnblafepgheaaDoor
