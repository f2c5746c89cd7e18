/- Dates: the exported functions DayOf, DateOf, ValidDate. -/
import Derived.Test.YtoecdlemoimacaaDoorDate7
namespace Go.Proofs.YtoecdlemoimacaaDoor
open Go.RowKit
set_option linter.unusedVariables false
/-- the number of a date, or -1 -/
def dayF (y m d : Int) : Int := if dtB y m d = true then num y m d else -1
/-- the date of a day, as DateOf gives it -/
noncomputable def oY (n : Int) : Int := if inR n 0 36524 = true then dY n else 0
noncomputable def oM (n : Int) : Int := if inR n 0 36524 = true then dM n else 0
noncomputable def oD (n : Int) : Int := if inR n 0 36524 = true then dD n else 0
theorem o_yes {n : Int} (h : inR n 0 36524 = true) : oY n = dY n ∧ oM n = dM n ∧ oD n = dD n := by
  unfold oY oM oD; rw [if_pos h, if_pos h, if_pos h]; exact ⟨rfl, rfl, rfl⟩
theorem o_no {n : Int} (h : inR n 0 36524 = false) : oY n = 0 ∧ oM n = 0 ∧ oD n = 0 := by
  unfold oY oM oD; rw [h]; exact ⟨rfl, rfl, rfl⟩
set_option maxHeartbeats 400000 in
theorem toDate_any (y m d : Int) (w : World) :
    Calls Tryd.prog 16 #[.agg #[.int .i64 y, .int .i64 m, .int .i64 d]] w fun e w' => e = .returned (.agg #[.int .i64 y, .int .i64 m, .int .i64 d]) ∧ Below w.heap.size w w' := by
  go_enter Tryd.func16, Tryd.ntmps16
  have HB := Lib.hid (Below.refl w.heap.size w)
  go_wp2
  exact bodyPost_ret (v := .agg #[.int .i64 y, .int .i64 m, .int .i64 d]) (by simp [results, Tryd.results16, go_sem]) rfl ⟨rfl, (by repeat (first | exact Below.refl _ _ | exact HB.out | refine Below.drew ?_ | refine bel_drewN _ ?_ | refine Below.alloc ?_ (by first | omega | (simp; done) | (simp; omega)) _ | refine Below.setCell ?_ (by first | (show _ ≤ _; omega) | (simp; done) | (simp; omega)) _))⟩
end Go.Proofs.YtoecdlemoimacaaDoor
