/- Dates: the exported functions DayOf, DateOf, ValidDate. -/
import Derived.Test.YtiplcndacmicoaaDoorDate7
namespace Go.Proofs.YtiplcndacmicoaaDoor
open Go.RowKit
set_option linter.unusedVariables false
/-- the number of a date, or -1 -/
def dayF (y m d : Int) : Int := if dtB y m d = true then num y m d else -1
/-- the date of a day, as DateOf gives it -/
noncomputable def oY (n : Int) : Int := if inR n 0 36524 = true then dY n else 0
noncomputable def oM (n : Int) : Int := if inR n 0 36524 = true then dM n else 0
noncomputable def oD (n : Int) : Int := if inR n 0 36524 = true then dD n else 0
theorem o_yes {n : Int} (h : inR n 0 36524 = true) : oY n = dY n ∧ oM n = dM n ∧ oD n = dD n := by
  unfold oY oM oD; rw [if_pos h, if_pos h, if_pos h]; exact ⟨rfl, rfl, rfl⟩
theorem o_no {n : Int} (h : inR n 0 36524 = false) : oY n = 0 ∧ oM n = 0 ∧ oD n = 0 := by
  unfold oY oM oD; rw [h]; exact ⟨rfl, rfl, rfl⟩
end Go.Proofs.YtiplcndacmicoaaDoor
