/-
  Written by a program (wip/walks).
-/
import Derived.WalkKit
import Derived.Test.YtdcnblafepgheaaDoorS6
import Derived.Test.YtdcnblafepgheaaDoorV10
import Derived.Test.YtdcnblafepgheaaDoorV11
import Derived.Test.YtdcnblafepgheaaDoorE5
import Derived.Test.YtdcnblafepgheaaDoorE4
namespace Go.Proofs.YtdcnblafepgheaaDoor
open Go Go.V
set_option maxRecDepth 100000
instance : Inhabited Session := ⟨⟨0, 0, ⟨⟨0, 0, 0, 0⟩, 0⟩, 0, 0⟩⟩
def sesC (x y : Session) : Int := Lib.compareInt x.id y.id
theorem sesLt (x y : Session) : Go.Proofs.ltOf sesC x y = decide (x.id < y.id) := by
  unfold Go.Proofs.ltOf sesC Lib.compareInt
  by_cases h1 : x.id < y.id
  · simp [h1]
  · by_cases h2 : y.id < x.id <;> simp [h1, h2]
theorem sesSwo : Go.Sort.SWO (Go.Proofs.ltOf sesC) where
  irrefl x := by rw [sesLt]; simp
  trans x y z h1 h2 := by rw [sesLt] at *; simp at *; omega
  ntrans x y z h1 h2 := by rw [sesLt] at *; simp at *; omega
open Go.RowKit Go.Sort Go.Lib in
theorem sesClosure (x y : Session) (W : World) : Calls Tryd.prog 96 #[.agg #[.int .i64 x.id, .int .i64 x.binding, u8 x.peer.addr.a, u8 x.peer.addr.b, u8 x.peer.addr.c, u8 x.peer.addr.d, .int .i64 x.peer.port, .int .i64 x.state, .int .i64 x.due], .agg #[.int .i64 y.id, .int .i64 y.binding, u8 y.peer.addr.a, u8 y.peer.addr.b, u8 y.peer.addr.c, u8 y.peer.addr.d, .int .i64 y.peer.port, .int .i64 y.state, .int .i64 y.due]] W
    fun e w' => e = .returned (.int .i64 (sesC x y)) ∧ ∃ q os', w' = grow (W.drewN q) os' := by
  have hcon := fun W' => Tryd.cmp_Compare_int x.id y.id W'
  unfold sesC
  generalize Lib.compareInt x.id y.id = r at hcon ⊢
  go_enter Tryd.func96, Tryd.ntmps96
  go_wp2_with (go_at_call 77; refine (hcon _).mono ?_; rintro e w' ⟨rfl, rfl⟩)
  go_ret
  exact ⟨rfl, 0, _, by rw [alloc_eq_grow, alloc_eq_grow, grow_grow]; rfl⟩
theorem sort_ses {rb cap n : Nat} {xs : List Session} {w : World} (h : OwnC Session.cs 9 w rb 59 cap xs) (hn : n = xs.length) (hb : xs.length ≤ 1000000) : Rets Tryd.prog 95 #[.slice (some ⟨rb, 0, none⟩) n cap, .func (.func 96) #[] #[]] w fun v w' =>
    ∃ ys, v = .tuple #[] ∧ ys.Perm xs ∧ ys.Pairwise (fun a b => a.id ≤ b.id) ∧ OwnC Session.cs 9 w' rb 59 cap ys ∧ Kp (· = rb) w w' := by
  subst hn
  have eg : ∀ args w, (callFunc 96 args).run Tryd.prog w = .ok (.enter 96 args) w := ca96
  have hc := Go.Proofs.AnyQ.slices_SortFunc Tryd.sortSes 9 Tryd.isAgg59 Tryd.sizeOf59 Session.cs (fun _ => rfl) one_session sesC sesSwo 96 #[] rb 0 cap xs.toArray w eg (fun _ _ _ _ x y => sesClosure x y _) h.holdsK h.lt (by simp; omega)
  refine Calls.mono hc fun e w' ⟨he, d', m, os, hp, hs, hw⟩ => ?_
  obtain ⟨h1, h2⟩ := perm_list hp
  have h3 := h.sorted (n := m) (os := os) (d' := d') (by simpa using h2)
  rw [← hw] at h3
  refine ⟨_, he, d'.toList, rfl, by simpa using h1, ?_, h3.1, h3.2⟩
  rw [List.pairwise_iff_getElem]
  intro i j hi hj hij
  have hj' : j < d'.size := by simpa using hj
  have := hs i j (Nat.zero_le _) hij (by simpa [h2] using hj')
  rw [sesLt] at this
  have e1 : d'[i]! = d'.toList[i] := by rw [getElem!_pos d' i (by omega)]; simp
  have e2 : d'[j]! = d'.toList[j] := by rw [getElem!_pos d' j hj']; simp
  rw [e1, e2] at this
  have := of_decide_eq_false this
  omega
/-- the keys of a map, in some order -/
def KeysV (w0 : World) (ks : List Int) (v : Value) (w : World) : Prop := (ks = [] ∧ v = .slice none 0 0) ∨ ∃ rb cap, v = .slice (some ⟨rb, 0, none⟩) ks.length cap ∧ Elts (fun n : Int => [.int .i64 n]) 1 w rb 0 ks ∧ w0.heap.size ≤ rb

open Go.Proofs Go.RowKit in
theorem keys_spec_b (mb : Option Nat) (w : World) : Rets Tryd.prog 70 #[.map mb] w fun v w' => v = .func (.func 98) #[] #[.pointer (some ⟨w.heap.size, 0, none⟩)] ∧ Blk w' w.heap.size #[.map mb] 120 ∧ K0 w w' := by
  refine Calls.mono ((callsIn_wide (n := 5)).1 (AnyZI.keys_in Tryd.keysB Fence.wide 5 trivial rfl mb w)) fun e w' ⟨he, hw⟩ => ?_
  subst hw
  exact ⟨_, he, rfl, heap_new w _, Kp.alloc w _⟩
open Go.Proofs Go.RowKit in
theorem collect_spec_b {V : Type} {vv : V → Value} {b mb : Nat} {l : List (Int × V)} {w : World} (hb : Blk w b #[.map (some mb)] 120) (hm : MapAt (fun n : Int => .int .i64 n) vv inI w mb l) (hc : l.length ≤ 1000000) :
    Rets Tryd.prog 69 #[.func (.func 98) #[] #[.pointer (some ⟨b, 0, none⟩)]] w fun v w' => (∃ ks : List Int, ks.Perm (l.map (·.1)) ∧ KeysV w ks v w') ∧ K0 w w' := by
  obtain ⟨D, hown, hp, hs⟩ := hm.owns (P := Tryd.prog) (kt := 3) Tryd.underlying3 (by unfold maxLen; omega)
  have hseq : SeqGives Fence.wide 4 Tryd.prog 98 #[.pointer (some ⟨b, 0, none⟩)] encZ (fun ss => ss.Perm (intKeys D)) (Maps.size D) w := AnyZI.keys_gives (ρ := Tryd.keysB_ren) { Tryd.keysB with } Fence.wide 4 trivial rfl (by omega) b mb l.length D w (lt_of_get hb) (by rw [cell_of hb]; rfl) hown
  have hcl := AnyZI.collect_in Tryd.collect Fence.wide 6 trivial trivial rfl (by omega) 98 #[.pointer (some ⟨b, 0, none⟩)] trivial ca98 _ (Maps.size D) (by rw [hs]; unfold maxLen; omega) (by rw [hs]; omega) w hseq
  refine Calls.mono ((callsIn_wide (n := 6)).1 hcl) fun e w' ⟨v, ss, he, hS, hrow, hn, hbel⟩ => ?_
  exact ⟨v, he, ⟨ss, hS.trans hp, ints_of_row hrow hn⟩, below_k0 hbel⟩
open Go.Proofs Go.RowKit in
theorem collect_nil_b {b : Nat} {w : World} (hb : Blk w b #[.map none] 120) :
    Rets Tryd.prog 69 #[.func (.func 98) #[] #[.pointer (some ⟨b, 0, none⟩)]] w fun v w' => v = .slice none 0 0 ∧ K0 w w' := by
  have hseq : SeqGives Fence.wide 4 Tryd.prog 98 #[.pointer (some ⟨b, 0, none⟩)] encZ (fun ss : List Int => ss = []) 0 w := AnyZI.keys_gives_nil (ρ := Tryd.keysB_ren) { Tryd.keysB with } Fence.wide 4 trivial rfl b w (lt_of_get hb) (by rw [cell_of hb]; rfl)
  have hcl := AnyZI.collect_in Tryd.collect Fence.wide 6 trivial trivial rfl (by omega) 98 #[.pointer (some ⟨b, 0, none⟩)] trivial ca98 _ 0 (Nat.zero_le _) (by omega) w hseq
  refine Calls.mono ((callsIn_wide (n := 6)).1 hcl) fun e w' ⟨v, ss, he, hS, hrow, hn, hbel⟩ => ?_
  exact ⟨v, he, hn.2 hS, below_k0 hbel⟩
open Go.Proofs Go.RowKit in
theorem keys_spec_s (mb : Option Nat) (w : World) : Rets Tryd.prog 74 #[.map mb] w fun v w' => v = .func (.func 100) #[] #[.pointer (some ⟨w.heap.size, 0, none⟩)] ∧ Blk w' w.heap.size #[.map mb] 110 ∧ K0 w w' := by
  refine Calls.mono ((callsIn_wide (n := 5)).1 (AnyZI.keys_in Tryd.keysS Fence.wide 5 trivial rfl mb w)) fun e w' ⟨he, hw⟩ => ?_
  subst hw
  exact ⟨_, he, rfl, heap_new w _, Kp.alloc w _⟩
open Go.Proofs Go.RowKit in
theorem collect_spec_s {V : Type} {vv : V → Value} {b mb : Nat} {l : List (Int × V)} {w : World} (hb : Blk w b #[.map (some mb)] 110) (hm : MapAt (fun n : Int => .int .i64 n) vv inI w mb l) (hc : l.length ≤ 1000000) :
    Rets Tryd.prog 69 #[.func (.func 100) #[] #[.pointer (some ⟨b, 0, none⟩)]] w fun v w' => (∃ ks : List Int, ks.Perm (l.map (·.1)) ∧ KeysV w ks v w') ∧ K0 w w' := by
  obtain ⟨D, hown, hp, hs⟩ := hm.owns (P := Tryd.prog) (kt := 3) Tryd.underlying3 (by unfold maxLen; omega)
  have hseq : SeqGives Fence.wide 4 Tryd.prog 100 #[.pointer (some ⟨b, 0, none⟩)] encZ (fun ss => ss.Perm (intKeys D)) (Maps.size D) w := AnyZI.keys_gives (ρ := Tryd.keysS_ren) { Tryd.keysS with } Fence.wide 4 trivial rfl (by omega) b mb l.length D w (lt_of_get hb) (by rw [cell_of hb]; rfl) hown
  have hcl := AnyZI.collect_in Tryd.collect Fence.wide 6 trivial trivial rfl (by omega) 100 #[.pointer (some ⟨b, 0, none⟩)] trivial ca100 _ (Maps.size D) (by rw [hs]; unfold maxLen; omega) (by rw [hs]; omega) w hseq
  refine Calls.mono ((callsIn_wide (n := 6)).1 hcl) fun e w' ⟨v, ss, he, hS, hrow, hn, hbel⟩ => ?_
  exact ⟨v, he, ⟨ss, hS.trans hp, ints_of_row hrow hn⟩, below_k0 hbel⟩
end Go.Proofs.YtdcnblafepgheaaDoor
