/- Schedules, exactly. -/
import Derived.Test.YtoidghdgebdfaaaDoorSch8
namespace Go.Proofs.YtoidghdgebdfaaaDoor
open Go.RowKit
set_option linter.unusedVariables false
theorem scS_pv (s e m : Int) (W : World) : Calls Tryd.prog 52 #[.int .i64 s, .int .i64 e, .int .i64 m] W (ScI s e m W) := by
  refine (scheduleOfS_any s e m W).mono ?_
  rintro ed w' ⟨v, rfl, hown, hnil, hb⟩
  refine ⟨v, rfl, ?_, hb⟩
  by_cases h0 : schL s e m = 0
  · exact .inl ⟨h0, hnil h0⟩
  · obtain ⟨g, cap, rfl, q1, q2, q3, q4⟩ := own_slice hown (by omega)
    have hL : schL s e m = schN s e m := by
      unfold schL at h0 ⊢
      split
      · rfl
      · rename_i q; rw [if_neg q] at h0; omega
    refine .inr ⟨by omega, g, cap, cap, rfl, q1, q3, Nat.le_refl _, q4, ?_⟩
    rw [perL_flat] at hown
    have := pb_of_own hown
    rw [← hL] at this
    exact this
end Go.Proofs.YtoidghdgebdfaaaDoor
