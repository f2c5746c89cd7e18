/- The interest of a repo, exactly. -/
import Derived.Test.YtiplcndacmicoaaDoorRepo
namespace Go.Proofs.YtiplcndacmicoaaDoor
open Go.RowKit
set_option linter.unusedVariables false
theorem toRepo_any (c r a b h : Int) (w : World) :
    Calls Tryd.prog 7 #[.agg #[.int .i64 c, .int .i64 r, .int .i64 a, .int .i64 b, .int .i64 h]] w fun e w' => e = .returned (.agg #[.int .i64 c, .int .i64 r, .int .i64 a, .int .i64 b, .int .i64 h]) ∧ Below w.heap.size w w' := by
  go_enter Tryd.func7, Tryd.ntmps7
  have HB := Lib.hid (Below.refl w.heap.size w)
  go_wp2
  exact bodyPost_ret (v := .agg #[.int .i64 c, .int .i64 r, .int .i64 a, .int .i64 b, .int .i64 h]) (by simp [results, Tryd.results7, go_sem]) rfl ⟨rfl, (by repeat (first | exact Below.refl _ _ | exact HB.out | refine Below.drew ?_ | refine bel_drewN _ ?_ | refine Below.alloc ?_ (by first | omega | (simp; done) | (simp; omega)) _ | refine Below.setCell ?_ (by first | (show _ ≤ _; omega) | (simp; done) | (simp; omega)) _))⟩
end Go.Proofs.YtiplcndacmicoaaDoor
