/- Ratios: sums, shares. -/
import Derived.Test.YtiplcndacmicoaaDoorRatio4
namespace Go.Proofs.YtiplcndacmicoaaDoor
open Go.RowKit
set_option linter.unusedVariables false
/-- what lowest returns -/
def lowRes (n d : Int) : Int × Int × Bool := if ratioOk (lowN n d) (lowD n d) = true then (lowN n d, lowD n d, true) else (0, 0, false)
def ratV (x : Int × Int × Bool) : Value := .tuple #[.agg #[.int .i64 x.1, .int .i64 x.2.1], .bool x.2.2]
theorem lowestI_any (n d : Int) (w : World) (hn : -2000000000000000000 ≤ n) (hn' : n ≤ 2000000000000000000) (hd : 1 ≤ d) (hd' : d ≤ 2000000000000000000) :
    Calls Tryd.prog 49 #[.int .i64 n, .int .i64 d] w fun e w' => e = .returned (.tuple #[.agg #[.int .i64 (lowRes n d).1, .int .i64 (lowRes n d).2.1], .bool (lowRes n d).2.2]) ∧ Below w.heap.size w w' := by
  unfold lowRes
  by_cases h : ratioOk (lowN n d) (lowD n d) = true
  · rw [if_pos h]
    by_cases h0 : 0 ≤ n
    · exact lowestI_yes_any n d w hn hn' hd hd' h h0
    · exact lowestI_yes_neg n d w hn hn' hd hd' h (by unfold side_neg; omega)
  · rw [if_neg h]
    by_cases h0 : 0 ≤ n
    · exact lowestI_no_any n d w hn hn' hd hd' (by simpa using h) h0
    · exact lowestI_no_neg n d w hn hn' hd hd' (by simpa using h) (by unfold side_neg; omega)
end Go.Proofs.YtiplcndacmicoaaDoor
