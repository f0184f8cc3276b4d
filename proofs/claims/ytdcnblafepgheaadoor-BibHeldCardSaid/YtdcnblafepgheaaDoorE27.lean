/-
  Written by a program (wip/walks).
-/
import Derived.Test.YtdcnblafepgheaaDoorE26
namespace Go.Proofs.YtdcnblafepgheaaDoor
open Go Go.V
set_option maxRecDepth 100000
def inT (a : UInt8) (p : Int) : T6 := ⟨⟨32, 1, 0, 0, 0, 0, 0, 0, 0, 0, 0, 0, 0, 0, 0, a⟩, p⟩
def outT (a : UInt8) (p : Int) : T4 := ⟨⟨1, 0, 0, a⟩, p⟩
section
variable {G : Gp} {g : BibG} {c : Int} {B : Nat} {st : BibS} {w : World}
/-- the table stands as the plain machine's a, after c acts -/
structure Tab (G : Gp) (g : BibG) (c : Int) (B : Nat) (a : Ab) (st : BibS) (w : World) : Prop where
  gm : GM G g
  is : BibIs g st w
  eq : ab st = a
  wf : Wf G c a
  ge : ∀ b ∈ bfp g st, B ≤ b
theorem Tab.k0 {a : Ab} {w' : World} (h : Tab G g c B a st w) (k : K0 w w') : Tab G g c B a st w' := ⟨h.gm, h.is.k0 k, h.eq, h.wf, h.ge⟩
theorem Tab.kp {a : Ab} {w' : World} (h : Tab G g c B a st w) {F : Nat → Prop} (k : Kp F w w') (hF : ∀ b ∈ bfp g st, ¬ F b) (hT : ¬ F 0) : Tab G g c B a st w' := ⟨h.gm, h.is.kp k hF hT, h.eq, h.wf, h.ge⟩
theorem Tab.lt {a : Ab} (h : Tab G g c B a st w) : ∀ b ∈ bfp g st, b < w.heap.size := h.is.lt
theorem Tab.tbn {a : Ab} (h : Tab G g c B a st w) : 0 ∉ bfp g st := h.is.tbn
theorem Tab.wf' {a : Ab} (h : Tab G g c B a st w) : Wf G c (ab st) := h.eq ▸ h.wf
theorem Tab.le {a : Ab} (h : Tab G g c B a st w) : B ≤ w.heap.size := by
  have hm : g.tb ∈ bfp g st := mem_blocks (by simp [BibG.blocks])
  have := h.ge _ hm; have := h.is.lt _ hm; omega
theorem Tab.mono {a : Ab} {d : Int} (h : Tab G g c B a st w) (hd : c ≤ d) : Tab G g d B a st w := ⟨h.gm, h.is, h.eq, h.wf.mono hd, h.ge⟩
/-- the next state -/
structure Nx (G : Gp) (g : BibG) (c : Int) (B : Nat) (a' : Ab) (st : BibS) (w : World) (st' : BibS) (w' : World) : Prop where
  tab : Tab G g (c + 1) B a' st' w'
  sub : ∀ b ∈ bfp g st', b ∈ bfp g st ∨ w.heap.size ≤ b
  kp : Kp (fun k => k ∈ bfp g st) w w'
  kpB : Kp (fun k => B ≤ k) w w'
theorem Nx.notin {a' : Ab} {st' : BibS} {w' : World} (h : Nx G g c B a' st w st' w') {b : Nat} (hn : b ∉ bfp g st) (hl : b < w.heap.size) : b ∉ bfp g st' := fun e => (h.sub b e).elim hn fun x => Nat.not_le.2 hl x
theorem Stp.nx {a a' : Ab} {st' : BibS} {w' : World} (t : Tab G g c B a st w) (h : Stp G g c st w st' w') (e : ab st' = a') : Nx G g c B a' st w st' w' := ⟨⟨t.gm, h.is, e, e ▸ h.wf, fun b hb => (h.sub b hb).elim (fun x => t.ge b x) fun x => Nat.le_trans t.le x⟩, h.sub, h.kp, h.kp.mono fun i _ hi => t.ge i hi⟩
theorem add_x {a : Ab} (h : Tab G g c B a st w) (hc : 0 ≤ c ∧ c ≤ 1000000) (p : Int) (hp : -9223372036854775808 ≤ p ∧ p ≤ 9223372036854775807) (t : T6) (ht : -9223372036854775808 ≤ t.port ∧ t.port ≤ 9223372036854775807) : Rets Tryd.prog 13 #[.pointer (some ⟨g.tb, 0, none⟩), .int .i64 p, t6 t] w fun v w' => ∃ st', v = .tuple #[bv (addA G a p t).1, .int .i64 (addA G a p t).2.1] ∧ Nx G g c B (addA G a p t).2.2 st w st' w' :=
  (add_w h.gm h.is h.wf' hc p hp t ht).mono fun v w' ⟨st', h1, h2, h3⟩ => ⟨st', by rw [h1, h.eq], Stp.nx h h3 (by rw [h2, h.eq])⟩
theorem bind_x {a : Ab} (h : Tab G g c B a st w) (hc : 0 ≤ c ∧ c ≤ 1000000) (p : Int) (t : T6) (u : T4) (ht : -9223372036854775808 ≤ t.port ∧ t.port ≤ 9223372036854775807) (hu : -9223372036854775808 ≤ u.port ∧ u.port ≤ 9223372036854775807) : Rets Tryd.prog 19 #[.pointer (some ⟨g.tb, 0, none⟩), .int .i64 p, t6 t, t4 u] w fun v w' => ∃ st', v = .tuple #[bv (bindA G a p t u).1, .int .i64 (bindA G a p t u).2.1] ∧ Nx G g c B (bindA G a p t u).2.2 st w st' w' :=
  (bind_w h.gm h.is h.wf' hc p t u ht hu).mono fun v w' ⟨st', h1, h2, h3⟩ => ⟨st', by rw [h1, h.eq], Stp.nx h h3 (by rw [h2, h.eq])⟩
theorem unbind_x {a : Ab} (h : Tab G g c B a st w) (p : Int) (t : T6) (ht : -9223372036854775808 ≤ t.port ∧ t.port ≤ 9223372036854775807) : Rets Tryd.prog 20 #[.pointer (some ⟨g.tb, 0, none⟩), .int .i64 p, t6 t] w fun v w' => ∃ st', v = .tuple #[bv (unbindA a p t).1, .int .i64 (unbindA a p t).2.1] ∧ Nx G g c B (unbindA a p t).2.2 st w st' w' :=
  (unbind_w h.gm h.is h.wf' p t ht).mono fun v w' ⟨st', h1, h2, h3⟩ => ⟨st', by rw [h1, h.eq], Stp.nx h h3 (by rw [h2, h.eq])⟩
theorem hold_x {a : Ab} (h : Tab G g c B a st w) (hc : c ≤ 1000000) (n : Int) (hn : -9223372036854775808 ≤ n ∧ n ≤ 9223372036854775807) : Rets Tryd.prog 16 #[.pointer (some ⟨g.tb, 0, none⟩), .int .i64 n] w fun v w' => ∃ st', v = .int .i64 (holdA a n).1 ∧ Nx G g c B (holdA a n).2 st w st' w' :=
  (hold_w h.is h.wf' hc n hn).mono fun v w' ⟨st', h1, h2, h3⟩ => ⟨st', by rw [h1, h.eq], Stp.nx h h3 (by rw [h2, h.eq])⟩
theorem drop_x {a : Ab} (h : Tab G g c B a st w) (hc : c ≤ 1000000) (n : Int) (hn : -9223372036854775808 ≤ n ∧ n ≤ 9223372036854775807) : Rets Tryd.prog 17 #[.pointer (some ⟨g.tb, 0, none⟩), .int .i64 n] w fun v w' => ∃ st', v = .tuple #[.bool (dropA a n).1, .int .i64 (dropA a n).2.1] ∧ Nx G g c B (dropA a n).2.2 st w st' w' :=
  (drop_w h.gm h.is h.wf' hc n hn).mono fun v w' ⟨st', h1, h2, h3⟩ => ⟨st', by rw [h1, h.eq], Stp.nx h h3 (by rw [h2, h.eq])⟩
theorem out_x {a : Ab} (h : Tab G g c B a st w) (p : Int) (t : T4) (hp : -9223372036854775808 ≤ p ∧ p ≤ 9223372036854775807) (ht : -9223372036854775808 ≤ t.port ∧ t.port ≤ 9223372036854775807) : Rets Tryd.prog 41 #[.pointer (some ⟨g.tb, 0, none⟩), .int .i64 p, t4 t] w fun v w' => v = .tuple #[bv ((outA a.l p t).getD zeroB), .bool (outA a.l p t).isSome] ∧ K0 w w' := by
  have := out_w h.gm h.is p t hp ht; rwa [h.eq] at this
theorem id_x {a : Ab} (h : Tab G g c B a st w) (n : Int) (hn : -9223372036854775808 ≤ n ∧ n ≤ 9223372036854775807) : Rets Tryd.prog 24 #[.pointer (some ⟨g.tb, 0, none⟩), .int .i64 n] w fun v w' => v = .tuple #[bv ((idA a.l n).getD zeroB), .bool (idA a.l n).isSome] ∧ K0 w w' := by
  have := id_w h.is n hn; rwa [h.eq] at this
theorem len_x {a : Ab} (h : Tab G g c B a st w) : Rets Tryd.prog 18 #[.pointer (some ⟨g.tb, 0, none⟩)] w fun v w' => v = .int .i64 (a.l.length : Nat) ∧ K0 w w' := by
  have := len_w h.is; rwa [h.eq] at this
theorem free_x {a : Ab} (h : Tab G g c B a st w) (hm : G.max ≤ 65536) (p : Int) : Rets Tryd.prog 21 #[.pointer (some ⟨g.tb, 0, none⟩), .int .i64 p] w fun v w' => v = .int .i64 (freeA G a p) ∧ K0 w w' := by
  have := free_w h.gm h.is h.wf' hm p; rwa [h.eq] at this
end
theorem NewBib.tab {l : List V4} {low high max : Int} {w w' : World} {g : BibG} (h : NewBib l low high max w w' g) (hm : 0 ≤ max) : Tab ⟨l, low, high, max, g.first⟩ g 0 w.heap.size ab0 ⟨0, [], fun _ => []⟩ w' := ⟨h.gm, h.is, rfl, wf0 hm, fun b hb => h.new b (by simpa [bfp] using hb)⟩
theorem inT_spec (a : UInt8) (p : Int) (w : World) : Rets Tryd.prog 14 #[(u8 a), (.int .i64 p)] w fun v w' => v = t6 (inT a p) ∧ K0 w w' := by
  refine enter Tryd.func14 rfl Tryd.ntmps14 rfl fun Q hret hend E hE => ?_
  have g1 : E 0 = (u8 a) := hE 0
  have g2 : E 1 = (Vi p) := hE 1
  clear hE
  refine seq fun K3 hK3 => ?_
  refine reg ?_
  refine s_e (e_alloc ze32) rfl ?_
  rintro _ w4 ⟨rfl, hb5, hk6⟩
  have ka7 : Kp (fun _ => False) w w4 := (Kp.then0 (Kp.refl _ _) hk6)
  refine s_nil (hK3 _ _ (genC [(0, (u8 a)), (1, (Vi p)), (4, (Vp w.heap.size 0))] ⟨g1, g2, rfl, trivial⟩ ?_))
  clear hK3; rintro E ⟨g8, g9, g10, -⟩
  refine seq fun K11 hK11 => ?_
  refine reg ?_
  refine s_y (y_move (v := (u8 a)) g8) rfl ?_
  refine s_y (y_build (vs := [(0, (.int .u8 32)), (1, (.int .u8 1)), (15, (u8 a))]) (v := (.agg #[.int .u8 32, .int .u8 1, U0, U0, U0, U0, U0, U0, U0, U0, U0, U0, U0, U0, U0, u8 a])) rfl (fun _ => by kernel_rfl)) rfl ?_
  refine s_y (y_move (v := (Vi p)) g9) rfl ?_
  refine s_y (y_build (vs := [(0, (.agg #[.int .u8 32, .int .u8 1, U0, U0, U0, U0, U0, U0, U0, U0, U0, U0, U0, U0, U0, u8 a])), (1, (Vi p))]) (v := (.agg #[.int .u8 32, .int .u8 1, U0, U0, U0, U0, U0, U0, U0, U0, U0, U0, U0, U0, U0, u8 a, .int .i64 p])) rfl (fun _ => by kernel_rfl)) rfl ?_
  refine s_e0 (e_storeV (cs' := #[(.int .u8 32), (.int .u8 1), U0, U0, U0, U0, U0, U0, U0, U0, U0, U0, U0, U0, U0, (u8 a), (Vi p)]) [(.int .u8 32), (.int .u8 1), U0, U0, U0, U0, U0, U0, U0, U0, U0, U0, U0, U0, U0, (u8 a), (Vi p)] g10 (v := (.agg #[.int .u8 32, .int .u8 1, U0, U0, U0, U0, U0, U0, U0, U0, U0, U0, U0, U0, U0, u8 a, .int .i64 p])) rfl rfl sz32 hb5 rfl rfl rfl) ?_
  rintro _ w12 ⟨hb13, hk14⟩
  have ka15 := (Kp.fresh ka7 hk14 fun _ e => nl (nl (Nat.le_refl _) (Nat.le_refl _)) (Nat.le_of_eq e.symm))
  refine s_nil (hK11 _ _ (genC [(4, (Vp w.heap.size 0))] ⟨g10, trivial⟩ ?_))
  clear hK11; rintro E ⟨g16, -⟩
  refine ret (hret _ _ [(t6 (⟨(⟨32, 1, 0, 0, 0, 0, 0, 0, 0, 0, 0, 0, 0, 0, 0, a⟩ : V6), p⟩ : T6))] ⟨⟨_, g16, (rd_agg (vs := [(.int .u8 32), (.int .u8 1), U0, U0, U0, U0, U0, U0, U0, U0, U0, U0, U0, U0, U0, (u8 a), (Vi p)]) ag32 (On.now hb13) (by kernel_rfl) rfl)⟩, trivial⟩ ?_)
  exact ⟨rfl, ka15⟩

theorem outT_spec (a : UInt8) (p : Int) (w : World) : Rets Tryd.prog 15 #[(u8 a), (.int .i64 p)] w fun v w' => v = t4 (outT a p) ∧ K0 w w' := by
  refine enter Tryd.func15 rfl Tryd.ntmps15 rfl fun Q hret hend E hE => ?_
  have g1 : E 0 = (u8 a) := hE 0
  have g2 : E 1 = (Vi p) := hE 1
  clear hE
  refine seq fun K3 hK3 => ?_
  refine reg ?_
  refine s_e (e_alloc ze34) rfl ?_
  rintro _ w4 ⟨rfl, hb5, hk6⟩
  have ka7 : Kp (fun _ => False) w w4 := (Kp.then0 (Kp.refl _ _) hk6)
  refine s_nil (hK3 _ _ (genC [(0, (u8 a)), (1, (Vi p)), (4, (Vp w.heap.size 0))] ⟨g1, g2, rfl, trivial⟩ ?_))
  clear hK3; rintro E ⟨g8, g9, g10, -⟩
  refine seq fun K11 hK11 => ?_
  refine reg ?_
  refine s_y (y_move (v := (u8 a)) g8) rfl ?_
  refine s_y (y_build (vs := [(0, (.int .u8 1)), (1, U0), (2, U0), (3, (u8 a))]) (v := (.agg #[.int .u8 1, U0, U0, u8 a])) rfl (fun _ => by kernel_rfl)) rfl ?_
  refine s_y (y_move (v := (Vi p)) g9) rfl ?_
  refine s_y (y_build (vs := [(0, (.agg #[.int .u8 1, U0, U0, u8 a])), (1, (Vi p))]) (v := (.agg #[.int .u8 1, U0, U0, u8 a, .int .i64 p])) rfl (fun _ => by kernel_rfl)) rfl ?_
  refine s_e0 (e_storeV (cs' := #[(.int .u8 1), U0, U0, (u8 a), (Vi p)]) [(.int .u8 1), U0, U0, (u8 a), (Vi p)] g10 (v := (.agg #[.int .u8 1, U0, U0, u8 a, .int .i64 p])) rfl rfl sz34 hb5 rfl rfl rfl) ?_
  rintro _ w12 ⟨hb13, hk14⟩
  have ka15 := (Kp.fresh ka7 hk14 fun _ e => nl (nl (Nat.le_refl _) (Nat.le_refl _)) (Nat.le_of_eq e.symm))
  refine s_nil (hK11 _ _ (genC [(4, (Vp w.heap.size 0))] ⟨g10, trivial⟩ ?_))
  clear hK11; rintro E ⟨g16, -⟩
  refine ret (hret _ _ [(t4 (⟨(⟨1, 0, 0, a⟩ : V4), p⟩ : T4))] ⟨⟨_, g16, (rd_agg (vs := [(.int .u8 1), U0, U0, (u8 a), (Vi p)]) ag34 (On.now hb13) (by kernel_rfl) rfl)⟩, trivial⟩ ?_)
  exact ⟨rfl, ka15⟩

end Go.Proofs.YtdcnblafepgheaaDoor
