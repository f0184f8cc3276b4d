/-
  Written by a program (wip/walks).
-/
import Derived.Test.YtdcnblafepgheaaDoorE2
namespace Go.Proofs.YtdcnblafepgheaaDoor
open Go Go.V
set_option maxRecDepth 100000
def hit (held : List (T4 × Bool)) (plain : Bool) (x : Int) (t : T4) : Prop := aget held t = none ∧ (plain = true ∨ cls x t.port)
structure Right (l : List V4) (low high : Int) : Prop where
  ne : l ≠ []
  len : l.length ≤ 4
  lo : isPort low
  hi : isPort high
  le : low ≤ high
  rng : high - low < 1024
  nd : l.Nodup
/-- a pool that is new -/
structure NewPool (l : List V4) (low high : Int) (w w' : World) (g : PoolG) : Prop where
  l : g.l = l
  low : g.low = low
  high : g.high = high
  ok : PoolOk g
  is : PoolIs g [] w'
  pb : w.heap.size ≤ g.pb
  lb : w.heap.size ≤ g.lb
  mb : w.heap.size ≤ g.mb
  pl : g.pb ≠ g.lb
end Go.Proofs.YtdcnblafepgheaaDoor
