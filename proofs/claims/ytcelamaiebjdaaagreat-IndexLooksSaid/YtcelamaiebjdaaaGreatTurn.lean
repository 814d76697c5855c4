/- The turn of a way towards a spot; ways and boxes in plain words. -/
import Derived.Test.YtcelamaiebjdaaaGreatSolid
namespace Go.Proofs.YtcelamaiebjdaaaGreat
open Go.RowKit

abbrev Bx4 := Int × Int × Int × Int
/-- The turn of a way towards a spot. -/
def turnL (fx fy tx ty x y : Int) : Int := (tx - fx) * (y - fy) - (ty - fy) * (x - fx)
/-- Corner number j of a box. -/
def cornX (b : Bx4) (j : Nat) : Int := if j < 2 then b.1 else b.2.2.1
def cornY (b : Bx4) (j : Nat) : Int := if j % 2 = 0 then b.2.1 else b.2.2.2
def lowN (b : Bx4) (fx fy tx ty : Int) (n : Nat) : Bool := (List.range n).any fun j => decide (turnL fx fy tx ty (cornX b j) (cornY b j) ≤ 0)
def highN (b : Bx4) (fx fy tx ty : Int) (n : Nat) : Bool := (List.range n).any fun j => decide (0 ≤ turnL fx fy tx ty (cornX b j) (cornY b j))
theorem lowN_succ (b : Bx4) (fx fy tx ty : Int) (n : Nat) : lowN b fx fy tx ty (n + 1) = (lowN b fx fy tx ty n || decide (turnL fx fy tx ty (cornX b n) (cornY b n) ≤ 0)) := by
  unfold lowN; rw [List.range_succ, List.any_append]; simp
theorem highN_succ (b : Bx4) (fx fy tx ty : Int) (n : Nat) : highN b fx fy tx ty (n + 1) = (highN b fx fy tx ty n || decide (0 ≤ turnL fx fy tx ty (cornX b n) (cornY b n))) := by
  unfold highN; rw [List.range_succ, List.any_append]; simp

/-- The least box around a way. -/
def roundB (fx fy tx ty : Int) : Bx4 := (min fx tx, min fy ty, max fx tx, max fy ty)
/-- A way meets a box. -/
def alongB (b : Bx4) (fx fy tx ty : Int) : Bool :=
  (fairB fx fy && fairB tx ty) && (meetB b.1 b.2.1 b.2.2.1 b.2.2.2 (min fx tx) (min fy ty) (max fx tx) (max fy ty) && (lowN b fx fy tx ty 4 && highN b fx fy tx ty 4))

end Go.Proofs.YtcelamaiebjdaaaGreat
