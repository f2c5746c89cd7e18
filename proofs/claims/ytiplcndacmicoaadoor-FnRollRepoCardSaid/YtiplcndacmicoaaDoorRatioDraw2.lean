/- The draws of two ratios. -/
import Derived.Test.YtiplcndacmicoaaDoorRatioDraw
import Derived.Deep.RegionWith
namespace Go.Proofs.YtiplcndacmicoaaDoor
open Go.RowKit
set_option linter.unusedVariables false
def TwoRatPost (w : World) (e : Ending) (w' : World) : Prop :=
  ∃ n1 d1 n2 d2 : Int, e = .returned (.tuple #[.agg #[.int .i64 n1, .int .i64 d1], .agg #[.int .i64 n2, .int .i64 d2]]) ∧ Below w.heap.size w w'
theorem cmpR_two {n1 d1 n2 d2 : Int} (h : cmpR n1 d1 n2 d2 ≠ 2) : ratioOk n1 d1 = true ∧ ratioOk n2 d2 = true := by
  unfold cmpR at h
  by_cases h1 : ratioOk n1 d1 = true <;> by_cases h2 : ratioOk n2 d2 = true
  · exact ⟨h1, h2⟩
  · simp [h1, h2] at h
  · simp [h1] at h
  · simp [h1] at h
theorem cmpR_yes {n1 d1 n2 d2 : Int} (h1 : ratioOk n1 d1 = true) (h2 : ratioOk n2 d2 = true) : cmpR n1 d1 n2 d2 = cmpI (n1 * d2) (n2 * d1) := by
  unfold cmpR; rw [if_pos h1, if_pos h2]
theorem cmpI_neg (x y : Int) : cmpI y x = -cmpI x y := by
  unfold cmpI
  by_cases a : x < y
  · rw [if_pos a, if_neg (by omega), if_pos a]; rfl
  · by_cases b : y < x
    · rw [if_pos b, if_neg a]; rw [if_pos b]
    · rw [if_neg b, if_neg a]; rw [if_neg a, if_neg b]; rfl
theorem cmpI_zero (x y : Int) : cmpI x y = 0 ↔ x = y := by
  unfold cmpI
  by_cases a : x < y
  · rw [if_pos a]; constructor <;> intro h <;> omega
  · by_cases b : y < x
    · rw [if_neg a, if_pos b]; constructor <;> intro h <;> omega
    · rw [if_neg b, if_neg a]; constructor <;> intro h <;> omega
theorem cmpI_bd (x y : Int) : -1 ≤ cmpI x y ∧ cmpI x y ≤ 1 := by
  unfold cmpI
  split
  · omega
  · split <;> omega
theorem cmpR_neg (n1 d1 n2 d2 : Int) (h : cmpR n1 d1 n2 d2 ≠ 2) : cmpR n2 d2 n1 d1 = -cmpR n1 d1 n2 d2 := by
  obtain ⟨h1, h2⟩ := cmpR_two h
  rw [cmpR_yes h1 h2, cmpR_yes h2 h1, cmpI_neg]
theorem cmpR_bd (n1 d1 n2 d2 : Int) : -1 ≤ cmpR n1 d1 n2 d2 ∧ cmpR n1 d1 n2 d2 ≤ 2 := by
  unfold cmpR
  have := cmpI_bd (n1 * d2) (n2 * d1)
  split
  · split <;> omega
  · omega
theorem dvd_of_gcd {k m n : Int} (h : Int.gcd m k = 1) (hd : k ∣ m * n) : k ∣ n := by
  have h1 : k.natAbs ∣ m.natAbs * n.natAbs := by rw [← Int.natAbs_mul]; exact Int.natAbs_dvd_natAbs.2 hd
  have h2 : Nat.Coprime k.natAbs m.natAbs := by unfold Nat.Coprime; rw [Nat.gcd_comm]; exact h
  exact Int.natAbs_dvd_natAbs.1 (h2.dvd_of_dvd_mul_left h1)
/-- ratios in lowest terms that are equal have equal parts -/
theorem ratio_eq {n1 d1 n2 d2 : Int} (h1 : ratioOk n1 d1 = true) (h2 : ratioOk n2 d2 = true) (h : n1 * d2 = n2 * d1) : n1 = n2 ∧ d1 = d2 := by
  obtain ⟨_, ⟨a3, _⟩, g1⟩ := ratioOk_iff.1 h1
  obtain ⟨_, ⟨b3, _⟩, g2⟩ := ratioOk_iff.1 h2
  have e1 : Int.gcd n1 d1 = 1 := by unfold gd at g1; omega
  have e2 : Int.gcd n2 d2 = 1 := by unfold gd at g2; omega
  have q1 : d1 ∣ d2 := by
    have : d1 ∣ n1 * d2 := by rw [h]; exact Int.dvd_mul_left _ _
    exact dvd_of_gcd e1 this
  have q2 : d2 ∣ d1 := by
    have : d2 ∣ n2 * d1 := by rw [← h]; exact Int.dvd_mul_left _ _
    exact dvd_of_gcd e2 this
  have e : d1 = d2 := Int.le_antisymm (Int.le_of_dvd (by omega) q1) (Int.le_of_dvd (by omega) q2)
  refine ⟨?_, e⟩
  subst e
  exact Int.eq_of_mul_eq_mul_right (by omega) h
theorem cmpR_zero {n1 d1 n2 d2 : Int} (h : cmpR n1 d1 n2 d2 ≠ 2) : cmpR n1 d1 n2 d2 = 0 ↔ n1 = n2 ∧ d1 = d2 := by
  obtain ⟨h1, h2⟩ := cmpR_two h
  rw [cmpR_yes h1 h2, cmpI_zero]
  constructor
  · exact ratio_eq h1 h2
  · rintro ⟨rfl, rfl⟩; rfl
end Go.Proofs.YtiplcndacmicoaaDoor
