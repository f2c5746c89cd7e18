/- Schedules: equal rows of periods; a row that is marked, and held. -/
import Derived.Test.YtoidghdgebdfaaaDoorSch7
import Derived.Deep.RegionHeld3
namespace Go.Proofs.YtoidghdgebdfaaaDoor
open Go.RowKit
set_option linter.unusedVariables false
theorem PB.fwd {w w' : World} {g cap n B : Nat} {A : Nat → Int × Int × Bool} (h : PB w g cap n A) (k : Below B w w') (hg : g < B) : PB w' g cap n A := by
  obtain ⟨cur, h1, h2, h3⟩ := h
  exact ⟨cur, (k.block g hg).trans h1, h2, h3⟩
theorem PB.below {w w' : World} {g cap n : Nat} {A : Nat → Int × Int × Bool} (h : PB w g cap n A) (k : Below w.heap.size w w') : PB w' g cap n A := h.fwd k h.lt
/-- a row of L periods in the world at hand -/
def PR (w : World) (v : Value) (L : Nat) (A : Nat → Int × Int × Bool) : Prop :=
  (L = 0 ∧ v = .slice none 0 0) ∨ (1 ≤ L ∧ ∃ g c cap, v = .slice (some ⟨g, 0, none⟩) L c ∧ L ≤ c ∧ c ≤ 9223372036854775807 ∧ PB w g cap L A)
theorem PV.pr {w : World} {b : Nat} {v : Value} {L : Nat} {A : Nat → Int × Int × Bool} (h : PV w b v L A) : PR w v L A := by
  rcases h with h | ⟨h1, g, c, cap, h2, h3, h4, h5, h6, h7⟩
  · exact .inl h
  · unfold maxLen at h6
    exact .inr ⟨h1, g, c, cap, h2, h4, by omega, h7⟩
theorem PR.below {w w' : World} {v : Value} {L : Nat} {A : Nat → Int × Int × Bool} (h : PR w v L A) (k : Below w.heap.size w w') : PR w' v L A := by
  rcases h with h | ⟨h1, g, c, cap, h2, h3, h4, h5⟩
  · exact .inl h
  · exact .inr ⟨h1, g, c, cap, h2, h3, h4, h5.below k⟩
/-- the marks -/
def mkA (t : Nat) : Int × Int × Bool := (3 * (t : Int) + 1, 3 * (t : Int) + 2, true)
def mkTo (A : Nat → Int × Int × Bool) (k j : Nat) : Int × Int × Bool := if j < k then mkA j else A j
end Go.Proofs.YtoidghdgebdfaaaDoor
