/- Lattices: what the right to call is worth. -/
import Derived.Test.YtmidbphfbaldiaaDoorLat7
namespace Go.Proofs.YtmidbphfbaldiaaDoor
open Go.RowKit
set_option linter.unusedVariables false
theorem mx0_max (x : Int) : (if x < 0 then (0 : Int) else x) = mx0 x := rfl
theorem mx0_max' (x : Int) : (if (0 : Int) < x then x else 0) = mx0 x := by unfold mx0; split <;> split <;> omega
theorem cwB_not {s r p c k : Int} (h : cwB s r p c k = false) : lvB s r p c 0 = false ∨ (lvB s r p c 0 = true ∧ lvB s r p c k = false) ∨ (lvB s r p c 0 = true ∧ lvB s r p c k = true ∧ (k == 0) = true) := by
  cases h0 : lvB s r p c 0
  · exact .inl rfl
  cases h1 : lvB s r p c k
  · exact .inr (.inl ⟨rfl, rfl⟩)
  · refine .inr (.inr ⟨rfl, rfl, ?_⟩)
    by_cases q : k = 0
    · simp [q]
    · rw [cwB_lv.2 ⟨h0, h1, q⟩] at h; cases h
end Go.Proofs.YtmidbphfbaldiaaDoor
