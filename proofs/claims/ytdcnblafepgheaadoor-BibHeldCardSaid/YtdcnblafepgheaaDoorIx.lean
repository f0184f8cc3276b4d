/-
  Open addressing, in plain Lean: no program in sight.
-/
import Derived.KernelRfl
namespace Ix
/-- u lies on the cyclic way from a (with it) to b (without it). -/
def Btw (a b u : Nat) : Prop := (a ≤ b ∧ a ≤ u ∧ u < b) ∨ (b < a ∧ (a ≤ u ∨ u < b))
def nxt (N i : Nat) : Nat := if i + 1 < N then i + 1 else 0
def dist (N a b : Nat) : Nat := if a ≤ b then b - a else b + N - a
theorem nxt_lt {N i : Nat} (h : i < N) : nxt N i < N := by unfold nxt; split <;> omega
theorem dist_nxt {N i e : Nat} (hi : i < N) (he : e < N) (hne : i ≠ e) : dist N (nxt N i) e < dist N i e := by
  unfold dist nxt; repeat' split
  all_goals omega
theorem btw_nxt {N a i u : Nat} (hi : i < N) (hu : u < N) (ha : a < N) (h : Btw a (nxt N i) u) : u = i ∨ Btw a i u := by
  unfold Btw nxt at *; split at h <;> omega
theorem btw_total {a i t : Nat} (hne : i ≠ t) : Btw a t i ∨ Btw a i t := by
  unfold Btw; omega
theorem btw_irrefl (a u : Nat) : ¬ Btw a a u := by unfold Btw; omega

variable {K V : Type}
abbrev Tab (K V : Type) := Nat → Option (K × V)
def upd (T : Tab K V) (i : Nat) (x : Option (K × V)) : Tab K V := fun j => if j = i then x else T j
theorem upd_same (T : Tab K V) (i : Nat) (x) : upd T i x i = x := by simp [upd]
theorem upd_other (T : Tab K V) {i j : Nat} (x) (h : j ≠ i) : upd T i x j = T j := by simp [upd, h]

structure Ok (N : Nat) (h : K → Nat) (T : Tab K V) : Prop where
  hlt : ∀ k, h k < N
  uniq : ∀ i j k v v', i < N → j < N → T i = some (k, v) → T j = some (k, v') → i = j
  path : ∀ t k v, t < N → T t = some (k, v) → ∀ u, u < N → Btw (h k) t u → T u ≠ none

/-- where a search for k ends. -/
structure Finds (N : Nat) (h : K → Nat) (T : Tab K V) (k : K) (i : Nat) : Prop where
  lt : i < N
  way : ∀ u, u < N → Btw (h k) i u → ∃ k' v', T u = some (k', v') ∧ k' ≠ k
  here : T i = none ∨ ∃ v, T i = some (k, v)

theorem Finds.absent {N : Nat} {h : K → Nat} {T : Tab K V} {k : K} {i : Nat} (o : Ok N h T) (f : Finds N h T k i) (hn : T i = none) :
    ∀ t v, t < N → T t ≠ some (k, v) := by
  intro t v ht e
  have hne : i ≠ t := fun e1 => by rw [e1, e] at hn; cases hn
  rcases btw_total hne with b | b
  · exact o.path t k v ht e i f.lt b hn
  · obtain ⟨k', v', e', hk⟩ := f.way t ht b
    rw [e] at e'; cases e'; exact hk rfl

theorem Ok.put {N : Nat} {h : K → Nat} {T : Tab K V} {k : K} {v : V} {i : Nat} (o : Ok N h T) (f : Finds N h T k i) (hn : T i = none) : Ok N h (upd T i (some (k, v))) := by
  have ab := f.absent o hn
  refine ⟨o.hlt, ?_, ?_⟩
  · intro a b k1 v1 v2 ha hb e1 e2
    by_cases h1 : a = i <;> by_cases h2 : b = i
    · omega
    · subst h1; rw [upd_same] at e1; rw [upd_other _ _ h2] at e2
      cases e1; exact absurd e2 (ab b _ hb)
    · subst h2; rw [upd_same] at e2; rw [upd_other _ _ h1] at e1
      cases e2; exact absurd e1 (ab a _ ha)
    · rw [upd_other _ _ h1] at e1; rw [upd_other _ _ h2] at e2; exact o.uniq a b k1 v1 v2 ha hb e1 e2
  · intro t k1 v1 ht e u hu hb
    by_cases hui : u = i
    · subst hui; rw [upd_same]; simp
    · rw [upd_other _ _ hui]
      by_cases hti : t = i
      · subst hti; rw [upd_same] at e; cases e
        obtain ⟨k', v', e', _⟩ := f.way u hu hb
        rw [e']; simp
      · rw [upd_other _ _ hti] at e; exact o.path t k1 v1 ht e u hu hb

/-- the state of a deletion: i was emptied, j is looked at, e is the first empty one behind i as it was. -/
structure Del (N : Nat) (h : K → Nat) (T : Tab K V) (i j e : Nat) : Prop where
  hlt : ∀ k, h k < N
  uniq : ∀ i j k v v', i < N → j < N → T i = some (k, v) → T j = some (k, v') → i = j
  il : i < N
  jl : j < N
  el : e < N
  empty : T e = none
  ord : i ≠ j ∧ i ≠ e ∧ (j = e ∨ Btw i e j)
  full : ∀ u, u < N → Btw j e u → T u ≠ none
  path : ∀ t k v, t < N → T t = some (k, v) → ∀ u, u < N → Btw (h k) t u → T u ≠ none ∨ (Btw i j u ∧ Btw j e t)

theorem Del.start {N : Nat} {h : K → Nat} {T : Tab K V} {i e : Nat} (o : Ok N h T) (hi : i < N) (he : e < N) (hne : i ≠ e) (hemp : T e = none)
    (hfull : ∀ u, u < N → Btw i e u → T u ≠ none) : Del N h (upd T i none) i (nxt N i) e := by
  refine ⟨o.hlt, ?_, hi, nxt_lt hi, he, ?_, ?_, ?_, ?_⟩
  · intro a b k v v' ha hb e1 e2
    by_cases h1 : a = i
    · subst h1; rw [upd_same] at e1; cases e1
    · by_cases h2 : b = i
      · subst h2; rw [upd_same] at e2; cases e2
      · rw [upd_other _ _ h1] at e1; rw [upd_other _ _ h2] at e2; exact o.uniq a b k v v' ha hb e1 e2
  · rw [upd_other _ _ (Ne.symm hne)]; exact hemp
  · unfold Btw nxt; split <;> omega
  · intro u hu hb
    have hui : u ≠ i ∧ Btw i e u := by unfold Btw nxt at *; split at hb <;> omega
    rw [upd_other _ _ hui.1]; exact hfull u hu hui.2
  · intro t k v ht e1 u hu hb
    by_cases hti : t = i
    · subst hti; rw [upd_same] at e1; cases e1
    · rw [upd_other _ _ hti] at e1
      by_cases hui : u = i
      · subst hui
        right
        have hbe : ¬ Btw (h k) t e := fun hb' => o.path t k v ht e1 e he hb' hemp
        have hte : t ≠ e := fun e2 => by subst e2; rw [hemp] at e1; cases e1
        have := o.hlt k
        unfold Btw nxt at *; split <;> omega
      · left; rw [upd_other _ _ hui]; exact o.path t k v ht e1 u hu hb

theorem Del.done {N : Nat} {h : K → Nat} {T : Tab K V} {i j e : Nat} (d : Del N h T i j e) (hj : T j = none) : j = e ∧ Ok N h T := by
  have hje : j = e := by
    apply Decidable.byContradiction
    intro hne
    refine d.full j d.jl ?_ hj
    have := d.ord; have := d.jl; have := d.el
    unfold Btw; omega
  refine ⟨hje, d.hlt, d.uniq, ?_⟩
  intro t k v ht e1 u hu hb
  rcases d.path t k v ht e1 u hu hb with h1 | ⟨_, h2⟩
  · exact h1
  · subst hje; exact absurd h2 (btw_irrefl _ _)

/-- while it stands there, the taken one is sought in what is left: no other has its key. -/
theorem Del.step {N : Nat} {h : K → Nat} {T : Tab K V} {i j e p : Nat} {kj : K} {vj : V} (d : Del N h T i j e) (hj : T j = some (kj, vj))
    (f : Finds N h (upd T j none) kj p) : upd T j none p = none ∧ Del N h (upd (upd T j none) p (some (kj, vj))) i (nxt N j) e := by
  have hjl := d.jl
  have hel := d.el
  have hil := d.il
  have hpl := f.lt
  have hje : j ≠ e := fun e1 => by subst e1; rw [d.empty] at hj; cases hj
  have hord := d.ord
  have hk := d.hlt kj
  have habs : ∀ t v, t < N → upd T j none t ≠ some (kj, v) := by
    intro t v ht e1
    by_cases htj : t = j
    · subst htj; rw [upd_same] at e1; cases e1
    · rw [upd_other _ _ htj] at e1
      exact htj (d.uniq t j kj v vj ht hjl e1 hj)
  have hp0 : upd T j none p = none := by
    rcases f.here with h1 | ⟨v, h1⟩
    · exact h1
    · exact absurd h1 (habs p v hpl)
  have hpe : p ≠ e := by
    intro hpe
    subst hpe
    have hnb : ¬ Btw (h kj) p j := fun hb => by
      obtain ⟨k', v', e', _⟩ := f.way j hjl hb
      rw [upd_same] at e'; cases e'
    have hb : Btw (h kj) j p := by
      rcases btw_total hje with b | b
      · exact absurd b hnb
      · exact b
    rcases d.path j kj vj hjl hj p hel hb with h1 | ⟨h1, _⟩
    · exact h1 d.empty
    · unfold Btw at *; omega
  have hnotfull : ∀ u, u < N → Btw (nxt N j) e u → u ≠ j ∧ u ≠ p ∧ Btw j e u := by
    intro u hu hb
    have h1 : u ≠ j ∧ Btw j e u := by unfold Btw nxt at *; split at hb <;> omega
    refine ⟨h1.1, ?_, h1.2⟩
    intro hup; subst hup
    rw [upd_other _ _ h1.1] at hp0
    exact d.full u hu h1.2 hp0
  refine ⟨hp0, d.hlt, ?_, hil, nxt_lt hjl, hel, ?_, ?_, ?_, ?_⟩
  · intro a b k v v' ha hb e1 e2
    by_cases h1 : a = p <;> by_cases h2 : b = p
    · omega
    · subst h1; rw [upd_same] at e1; rw [upd_other _ _ h2] at e2; cases e1
      exact absurd e2 (habs b _ hb)
    · subst h2; rw [upd_same] at e2; rw [upd_other _ _ h1] at e1; cases e2
      exact absurd e1 (habs a _ ha)
    · rw [upd_other _ _ h1] at e1; rw [upd_other _ _ h2] at e2
      by_cases h3 : a = j
      · subst h3; rw [upd_same] at e1; cases e1
      · by_cases h4 : b = j
        · subst h4; rw [upd_same] at e2; cases e2
        · rw [upd_other _ _ h3] at e1; rw [upd_other _ _ h4] at e2; exact d.uniq a b k v v' ha hb e1 e2
  · rw [upd_other _ _ (Ne.symm hpe), upd_other _ _ (Ne.symm hje)]; exact d.empty
  · unfold Btw nxt at *; split <;> omega
  · intro u hu hb
    obtain ⟨h1, h2, h3⟩ := hnotfull u hu hb
    rw [upd_other _ _ h2, upd_other _ _ h1]; exact d.full u hu h3
  · intro t k v ht e1 u hu hb
    by_cases hup : u = p
    · subst hup; left; rw [upd_same]; simp
    by_cases htp : t = p
    · subst htp; rw [upd_same] at e1; cases e1
      left
      obtain ⟨k', v', e', _⟩ := f.way u hu hb
      rw [upd_other _ _ hup, e']; simp
    · rw [upd_other _ _ htp] at e1
      have htj : t ≠ j := fun e2 => by subst e2; rw [upd_same] at e1; cases e1
      rw [upd_other _ _ htj] at e1
      have hkk := d.hlt k
      have hte : t ≠ e := fun e2 => by subst e2; rw [d.empty] at e1; cases e1
      by_cases huj : u = j
      · subst huj
        right
        have hne : ¬ Btw (h k) t e := by
          intro hb'
          rcases d.path t k v ht e1 e hel hb' with h1 | ⟨h1, _⟩
          · exact h1 d.empty
          · unfold Btw at *; omega
        unfold Btw nxt at *; split <;> omega
      · rcases d.path t k v ht e1 u hu hb with h1 | ⟨h1, h2⟩
        · left; rw [upd_other _ _ hup, upd_other _ _ huj]; exact h1
        · right; unfold Btw nxt at *; split <;> omega

/-! ### how many -/
def cnt (T : Tab K V) : Nat → Nat
  | 0 => 0
  | n + 1 => cnt T n + if (T n).isSome then 1 else 0
theorem cnt_full (T : Tab K V) (n : Nat) (h : ∀ u, u < n → T u ≠ none) : cnt T n = n := by
  induction n with
  | zero => rfl
  | succ n ih =>
    have h1 := h n (by omega)
    have : (T n).isSome = true := by cases hT : T n <;> simp_all
    unfold cnt; rw [ih (fun u hu => h u (by omega)), if_pos this]
theorem cnt_empty {T : Tab K V} {n : Nat} (h : cnt T n < n) : ∃ u, u < n ∧ T u = none := by
  apply Classical.byContradiction
  intro hc
  have := cnt_full T n (fun u hu e => hc ⟨u, hu, e⟩)
  omega
theorem cnt_congr {T T' : Tab K V} (n : Nat) (h : ∀ u, u < n → (T u).isSome = (T' u).isSome) : cnt T n = cnt T' n := by
  induction n with
  | zero => rfl
  | succ n ih => unfold cnt; rw [ih (fun u hu => h u (by omega)), h n (by omega)]
theorem cnt_upd (T : Tab K V) (i : Nat) (x : Option (K × V)) (n : Nat) (hi : i < n) :
    cnt (upd T i x) n + (if (T i).isSome then 1 else 0) = cnt T n + (if x.isSome then 1 else 0) := by
  induction n with
  | zero => omega
  | succ n ih =>
    by_cases h : i = n
    · subst h
      have : cnt (upd T i x) i = cnt T i := cnt_congr i (fun u hu => by rw [upd_other _ _ (by omega)])
      unfold cnt; rw [this, upd_same]; omega
    · have := ih (by omega)
      unfold cnt; rw [upd_other T x (show n ≠ i by omega)]; omega
theorem cnt_none (n : Nat) : cnt (fun _ => none : Tab K V) n = 0 := by
  induction n with
  | zero => rfl
  | succ n ih => unfold cnt; rw [ih]; rfl

/-- the first empty one behind i. -/
theorem first_empty {T : Tab K V} {N i : Nat} (hi : i < N) (hf : T i ≠ none) (h : ∃ u, u < N ∧ T u = none) :
    ∃ e, e < N ∧ i ≠ e ∧ T e = none ∧ ∀ u, u < N → Btw i e u → T u ≠ none := by
  have key : ∀ d, ∀ e, e < N → T e = none → dist N i e = d → ∃ e, e < N ∧ i ≠ e ∧ T e = none ∧ ∀ u, u < N → Btw i e u → T u ≠ none := by
    intro d
    induction d using Nat.strongRecOn with
    | _ d ih =>
      intro e he hT hd
      by_cases hall : ∀ u, u < N → Btw i e u → T u ≠ none
      · exact ⟨e, he, fun e1 => by subst e1; exact hf hT, hT, hall⟩
      · have : ∃ u, u < N ∧ Btw i e u ∧ T u = none := by
          apply Classical.byContradiction
          intro hc; exact hall (fun u hu hb e1 => hc ⟨u, hu, hb, e1⟩)
        obtain ⟨u, hu, hb, hTu⟩ := this
        refine ih (dist N i u) ?_ u hu hTu rfl
        rw [← hd]; unfold dist Btw at *; repeat' split
        all_goals omega
  obtain ⟨u, hu, hT⟩ := h
  exact key _ u hu hT rfl

/-! ### what there is -/
def Cont (N : Nat) (T : Tab K V) (M : K → Option V) : Prop := ∀ k v, M k = some v ↔ ∃ t, t < N ∧ T t = some (k, v)
theorem Cont.get {N : Nat} {h : K → Nat} {T : Tab K V} {M : K → Option V} (c : Cont N T M) (o : Ok N h T) {k : K} {i : Nat} (f : Finds N h T k i) :
    T i = (M k).map fun v => (k, v) := by
  rcases f.here with h1 | ⟨v, h1⟩
  · have : M k = none := by
      cases hM : M k with
      | none => rfl
      | some v => obtain ⟨t, ht, e⟩ := (c k v).1 hM; exact absurd e (f.absent o h1 t v ht)
    rw [h1, this]; rfl
  · have := (c k v).2 ⟨i, f.lt, h1⟩
    rw [h1, this]; rfl
theorem Cont.put [DecidableEq K] {N : Nat} {h : K → Nat} {T : Tab K V} {M : K → Option V} (c : Cont N T M) (o : Ok N h T) {k : K} {v : V} {i : Nat} (f : Finds N h T k i) (hn : T i = none) :
    Cont N (upd T i (some (k, v))) (fun k' => if k' = k then some v else M k') := by
  intro k1 v1
  have ab := f.absent o hn
  constructor
  · intro e
    by_cases hk : k1 = k
    · subst hk; simp at e; subst e; exact ⟨i, f.lt, upd_same _ _ _⟩
    · simp [hk] at e
      obtain ⟨t, ht, e1⟩ := (c k1 v1).1 e
      have : t ≠ i := fun e2 => by subst e2; rw [hn] at e1; cases e1
      exact ⟨t, ht, by rw [upd_other _ _ this]; exact e1⟩
  · rintro ⟨t, ht, e⟩
    by_cases hti : t = i
    · subst hti; rw [upd_same] at e; cases e; simp
    · rw [upd_other _ _ hti] at e
      have : k1 ≠ k := fun e2 => by subst e2; exact ab t v1 ht e
      simp [this]; exact (c k1 v1).2 ⟨t, ht, e⟩
theorem Cont.del [DecidableEq K] {N : Nat} {h : K → Nat} {T : Tab K V} {M : K → Option V} (c : Cont N T M) (o : Ok N h T) {k : K} {v : V} {i : Nat} (hi : i < N) (hn : T i = some (k, v)) :
    Cont N (upd T i none) (fun k' => if k' = k then none else M k') := by
  intro k1 v1
  constructor
  · intro e
    by_cases hk : k1 = k
    · simp [hk] at e
    · simp [hk] at e
      obtain ⟨t, ht, e1⟩ := (c k1 v1).1 e
      have : t ≠ i := fun e2 => by subst e2; rw [hn] at e1; cases e1; exact hk rfl
      exact ⟨t, ht, by rw [upd_other _ _ this]; exact e1⟩
  · rintro ⟨t, ht, e⟩
    by_cases hti : t = i
    · subst hti; rw [upd_same] at e; cases e
    · rw [upd_other _ _ hti] at e
      have : k1 ≠ k := fun e2 => by subst e2; exact hti (o.uniq t i k1 v1 v ht hi e hn)
      simp [this]; exact (c k1 v1).2 ⟨t, ht, e⟩
theorem Cont.move {N : Nat} {T : Tab K V} {M : K → Option V} (c : Cont N T M) {kj : K} {vj : V} {j p : Nat} (hj : T j = some (kj, vj)) (hjl : j < N) (hp : p < N) (hn : upd T j none p = none) :
    Cont N (upd (upd T j none) p (some (kj, vj))) M := by
  intro k1 v1
  rw [c k1 v1]
  constructor
  · rintro ⟨t, ht, e⟩
    by_cases htj : t = j
    · subst htj; rw [hj] at e; cases e; exact ⟨p, hp, upd_same _ _ _⟩
    · have : t ≠ p := fun e2 => by subst e2; rw [upd_other _ _ htj, e] at hn; cases hn
      exact ⟨t, ht, by rw [upd_other _ _ this, upd_other _ _ htj]; exact e⟩
  · rintro ⟨t, ht, e⟩
    by_cases htp : t = p
    · subst htp; rw [upd_same] at e; cases e; exact ⟨j, hjl, hj⟩
    · rw [upd_other _ _ htp] at e
      by_cases htj : t = j
      · subst htj; rw [upd_same] at e; cases e
      · rw [upd_other _ _ htj] at e; exact ⟨t, ht, e⟩
theorem cnt_move {T : Tab K V} {N : Nat} {kj : K} {vj : V} {j p : Nat} (hj : T j = some (kj, vj)) (hjl : j < N) (hp : p < N) (hn : upd T j none p = none) :
    cnt (upd (upd T j none) p (some (kj, vj))) N = cnt T N := by
  have h1 := cnt_upd T j none N hjl
  have h2 := cnt_upd (upd T j none) p (some (kj, vj)) N hp
  rw [hn] at h2; rw [hj] at h1
  simp at h1 h2; omega
end Ix
