/-
  Written by a program (wip/walks).
-/
import Derived.Test.YtdcnblafepgheaaDoorE18
namespace Go.Proofs.YtdcnblafepgheaaDoor
open Go Go.V
set_option maxRecDepth 100000
/-- what makes a table -/
structure Gp where
  (L : List V4) (low high max : Int) (first : V4)
deriving DecidableEq
/-- a table, plainly -/
structure Ab where
  (last : Int) (l : List Binding) (h : Nat → List (T4 × Bool))
def kN (p : Int) : Nat := if p = 1 then 0 else if p = 6 then 1 else 2
def rng (low high : Int) : List Int := (List.range (high - low + 1).toNat).map fun (i : Nat) => low + (i : Int)
instance (held : List (T4 × Bool)) (plain : Bool) (x : Int) (t : T4) : Decidable (hit held plain x t) := by unfold hit; infer_instance
def cands (L : List V4) (low high : Int) (first : V4) : List T4 := (ord L first).flatMap fun a => (rng low high).map fun m => ⟨a, m⟩
def takeA (G : Gp) (held : List (T4 × Bool)) (first : V4) (x : Int) (plain : Bool) : Option T4 := (cands G.L G.low G.high first).find? fun t => decide (hit held plain x t)
def pairA (G : Gp) (l : List Binding) (a : V6) : V4 := match l.find? fun b => decide (b.inn.addr = a) with | some b => b.out.addr | none => G.first
def inA (l : List Binding) (p : Int) (t : T6) : Option Binding := l.find? fun b => decide (b.proto = p ∧ b.inn = t)
def outA (l : List Binding) (p : Int) (t : T4) : Option Binding := l.find? fun b => decide (b.proto = p ∧ b.out = t)
def idA (l : List Binding) (id : Int) : Option Binding := l.find? fun b => decide (b.id = id)
def mayA (G : Gp) (a : Ab) (p : Int) (t : T6) : Int :=
  if kindI p < 0 then 10 else if isPort t.port then (if (inA a.l p t).isSome then 5 else if G.max ≤ a.l.length then 6 else 0) else 1
def addA (G : Gp) (a : Ab) (p : Int) (t : T6) : Binding × Int × Ab :=
  if mayA G a p t ≠ 0 then (zeroB, mayA G a p t, a) else
  match takeA G (a.h (kN p)) (pairA G a.l t.addr) t.port (decide (p = 1)) with
  | none => (zeroB, 13, a)
  | some r => (⟨a.last + 1, p, t, r, false, 0⟩, 0, ⟨a.last + 1, a.l ++ [⟨a.last + 1, p, t, r, false, 0⟩], setH a.h (kN p) (a.h (kN p) ++ [(r, false)])⟩)
def bindA (G : Gp) (a : Ab) (p : Int) (t : T6) (u : T4) : Binding × Int × Ab :=
  if kindI p < 0 then (zeroB, 10, a) else
  if isPort t.port ∧ isPort u.port ∧ u.addr ∈ G.L then
    if (aget (a.h (kN p)) u).isSome then (zeroB, 5, a) else
    if mayA G a p t ≠ 0 then (zeroB, mayA G a p t, a) else
    (⟨a.last + 1, p, t, u, true, 0⟩, 0, ⟨a.last + 1, a.l ++ [⟨a.last + 1, p, t, u, true, 0⟩], setH a.h (kN p) (a.h (kN p) ++ [(u, true)])⟩)
  else (zeroB, 1, a)
def cutA (l : List Binding) (id : Int) : List Binding := l.filter fun b => !decide (b.id = id)
def updA (l : List Binding) (id : Int) (b' : Binding) : List Binding := l.map fun b => if b.id = id then b' else b
def unbindA (a : Ab) (p : Int) (t : T6) : Binding × Int × Ab :=
  if kindI p < 0 then (zeroB, 10, a) else
  match inA a.l p t with
  | none => (zeroB, 4, a)
  | some b => if b.static then (b, 0, ⟨a.last, cutA a.l b.id, setH a.h (kN p) (adel (a.h (kN p)) b.out)⟩) else (zeroB, 4, a)
def holdA (a : Ab) (id : Int) : Int × Ab :=
  match idA a.l id with
  | none => (4, a)
  | some b => (0, ⟨a.last, updA a.l id (addS b 1), a.h⟩)
def dropA (a : Ab) (id : Int) : Bool × Int × Ab :=
  match idA a.l id with
  | none => (false, 4, a)
  | some b => if b.sessions = 0 then (false, 11, a) else
    if b.static = true ∨ 1 < b.sessions then (false, 0, ⟨a.last, updA a.l id (addS b (-1)), a.h⟩) else
    (true, 0, ⟨a.last, cutA a.l id, setH a.h (kN b.proto) (adel (a.h (kN b.proto)) b.out)⟩)
def freeA (G : Gp) (a : Ab) (p : Int) : Int :=
  if kindI p < 0 then 0 else (G.L.length : Int) * (G.high - G.low + 1) - ((a.h (kN p)).countP (inR G.low G.high) : Int)
def ab (st : BibS) : Ab := ⟨st.last, st.l.map (·.1), st.h⟩
/-- the plain machine's state is one that can be, after c acts at most -/
structure Wf (G : Gp) (c : Int) (a : Ab) : Prop where
  last : 0 ≤ a.last ∧ a.last ≤ c
  id1 : ∀ b ∈ a.l, 1 ≤ b.id ∧ b.id ≤ a.last
  ids : a.l.Pairwise (·.id < ·.id)
  kind : ∀ b ∈ a.l, 0 ≤ kindI b.proto
  inn : ∀ b ∈ a.l, isPort b.inn.port
  out : ∀ b ∈ a.l, isPort b.out.port ∧ b.out.addr ∈ G.L
  ins : ∀ b ∈ a.l, ∀ c ∈ a.l, c.proto = b.proto → c.inn = b.inn → c = b
  outs : ∀ b ∈ a.l, ∀ c ∈ a.l, c.proto = b.proto → c.out = b.out → c = b
  held : ∀ b ∈ a.l, aget (a.h (kN b.proto)) b.out = some b.static
  back : ∀ k, k < 3 → ∀ t s, aget (a.h k) t = some s → ∃ b ∈ a.l, kN b.proto = k ∧ b.out = t
  hnd : ∀ k, k < 3 → ((a.h k).map (·.1)).Nodup
  hlen : ∀ k, k < 3 → (a.h k).length = a.l.countP fun b => decide (kN b.proto = k)
  ses : ∀ b ∈ a.l, 0 ≤ b.sessions ∧ b.sessions ≤ c
  len : (a.l.length : Int) ≤ G.max
end Go.Proofs.YtdcnblafepgheaaDoor
