/- Ratios: sums, comparison, shares. -/
import Derived.Test.YtiplcndacmicoaaDoorRatio2
namespace Go.Proofs.YtiplcndacmicoaaDoor
open Go.RowKit
set_option linter.unusedVariables false
/-- the order of two numbers -/
def cmpI (x y : Int) : Int := if x < y then -1 else if y < x then 1 else 0
theorem mul_bd {x y X Y : Int} (h1 : -X ≤ x) (h2 : x ≤ X) (h3 : 0 ≤ y) (h4 : y ≤ Y) : -(X * Y) ≤ x * y ∧ x * y ≤ X * Y := by
  have hX : 0 ≤ X := by omega
  have a := Int.mul_le_mul_of_nonneg_right h2 h3
  have b := Int.mul_le_mul_of_nonneg_left h4 hX
  have c := Int.mul_le_mul_of_nonneg_right h1 h3
  rw [Int.neg_mul] at c
  omega
def cmpR (n1 d1 n2 d2 : Int) : Int := if ratioOk n1 d1 = true then (if ratioOk n2 d2 = true then cmpI (n1 * d2) (n2 * d1) else 2) else 2
end Go.Proofs.YtiplcndacmicoaaDoor
