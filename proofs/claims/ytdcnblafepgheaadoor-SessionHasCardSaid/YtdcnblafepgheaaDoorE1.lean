/-
  Written by a program (wip/walks).
-/
import Derived.Test.YtdcnblafepgheaaDoorDom
namespace Go.Proofs.YtdcnblafepgheaaDoor
open Go Go.V
set_option maxRecDepth 100000
structure PoolG where
  (pb lb mb cap : Nat) (l : List V4) (low high : Int)
/-- block g.pb is a pool -/
structure PoolIs (g : PoolG) (held : List (T4 × Bool)) (w : World) : Prop where
  blk : Blk w g.pb #[.slice (some ⟨g.lb, 0, none⟩) g.l.length g.cap, .int .i64 g.low, .int .i64 g.high, .map (some g.mb)] 146
  row : Elts V4.cs 4 w g.lb 0 g.l
  map : MapAt t4 (fun b : Bool => Value.bool b) (fun x => inI x.port) w g.mb held
structure PoolOk (g : PoolG) : Prop where
  ne : g.l ≠ []
  nd : g.l.Nodup
  len : g.l.length ≤ 4
  cap : g.l.length ≤ g.cap
  lo : 0 ≤ g.low
  hi : g.high ≤ 65535
  le : g.low ≤ g.high
theorem PoolIs.kp {g : PoolG} {held : List (T4 × Bool)} {w w' : World} (h : PoolIs g held w) {F : Nat → Prop} (k : Kp F w w') (h1 : ¬ F g.pb) (h2 : ¬ F g.lb) (h3 : ¬ F g.mb) : PoolIs g held w' :=
  ⟨k.get h.blk h1, h.row.kp k h2, h.map.kp k h3⟩
/-- but for its map -/
theorem PoolIs.put {g : PoolG} {held held' : List (T4 × Bool)} {w w' : World} (h : PoolIs g held w) (k : Kp (· = g.mb) w w') (m : MapAt t4 (fun b : Bool => Value.bool b) (fun x => inI x.port) w' g.mb held') : PoolIs g held' w' :=
  ⟨k.get h.blk (blk_ne_map h.blk h.map), h.row.kp k (h.row.ne_map h.map), m⟩
def isPort (n : Int) : Prop := 0 ≤ n ∧ n ≤ 65535
instance (n : Int) : Decidable (isPort n) := by unfold isPort; infer_instance
def owns (l : List V4) (t : T4) : Prop := isPort t.port ∧ t.addr ∈ l
instance (l : List V4) (t : T4) : Decidable (owns l t) := by unfold owns; infer_instance
def cls (x p : Int) : Prop := isPort x ∧ isPort p ∧ (x < 1024 ↔ p < 1024) ∧ x.tmod 2 = p.tmod 2
instance (x p : Int) : Decidable (cls x p) := by unfold cls; infer_instance
end Go.Proofs.YtdcnblafepgheaaDoor
