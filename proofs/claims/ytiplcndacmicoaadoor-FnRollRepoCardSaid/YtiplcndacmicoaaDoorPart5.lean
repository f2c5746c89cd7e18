/- Parts of years: YearPart. -/
import Derived.Test.YtiplcndacmicoaaDoorPart4
namespace Go.Proofs.YtiplcndacmicoaaDoor
open Go.RowKit
set_option linter.unusedVariables false
theorem vp_k {k a b : Int} (h : inR k 0 3 = false) : vpart k a b = false := by unfold vpart; rw [h]; rfl
theorem vp_a {k a b : Int} (h : inR a 0 36524 = false) : vpart k a b = false := by unfold vpart; rw [h]; simp
theorem vp_b {k a b : Int} (hk : inR k 0 3 = true) (h : inR a 0 36524 = true) : vpart k a b = inR b a (if a + 4000 < 36524 then a + 4000 else 36524) := by unfold vpart; rw [h, hk]; rfl
set_option maxHeartbeats 1000000 in
theorem validPart_k (k a b : Int) (w : World) (h : inR k 0 3 = false) :
    Calls Tryd.prog 29 #[.int .i64 k, .int .i64 a, .int .i64 b] w fun e w' => e = .returned (.bool (vpart k a b)) ∧ w = w' := by
  rw [vp_k h]
  go_enter Tryd.func29, Tryd.ntmps29
  go_wp2_with (go_at_call 24; refine (inRange_any _ _ _ _).mono ?_; rintro e w' ⟨rfl, rfl⟩)
  go_ret
  exact ⟨rfl, rfl⟩
set_option maxHeartbeats 1000000 in
theorem validPart_a (k a b : Int) (w : World) (hk : inR k 0 3 = true) (h : inR a 0 36524 = false) :
    Calls Tryd.prog 29 #[.int .i64 k, .int .i64 a, .int .i64 b] w fun e w' => e = .returned (.bool (vpart k a b)) ∧ w = w' := by
  rw [vp_a h]
  go_enter Tryd.func29, Tryd.ntmps29
  go_wp2_with (go_at_call 24; refine (inRange_any _ _ _ _).mono ?_; rintro e w' ⟨rfl, rfl⟩)
  go_ret
  exact ⟨rfl, rfl⟩
set_option maxHeartbeats 1000000 in
theorem validPart_b (k a b : Int) (w : World) (hk : inR k 0 3 = true) (h : inR a 0 36524 = true) (ht : (a + 4000 < 36524) = True) :
    Calls Tryd.prog 29 #[.int .i64 k, .int .i64 a, .int .i64 b] w fun e w' => e = .returned (.bool (vpart k a b)) ∧ w = w' := by
  have e : vpart k a b = inR b a (a+4000) := by rw [vp_b hk h]; simp [ht]
  rw [e]
  clear e
  obtain ⟨a0, a1⟩ := inR_true.1 h
  go_enter Tryd.func29, Tryd.ntmps29
  go_wp2_with (go_at_call 24; refine (inRange_any _ _ _ _).mono ?_; rintro e w' ⟨rfl, rfl⟩)
  go_ret
  exact ⟨rfl, rfl⟩
set_option maxHeartbeats 1000000 in
theorem validPart_c (k a b : Int) (w : World) (hk : inR k 0 3 = true) (h : inR a 0 36524 = true) (ht : (a + 4000 < 36524) = False) :
    Calls Tryd.prog 29 #[.int .i64 k, .int .i64 a, .int .i64 b] w fun e w' => e = .returned (.bool (vpart k a b)) ∧ w = w' := by
  have e : vpart k a b = inR b a 36524 := by rw [vp_b hk h]; simp [ht]
  rw [e]
  clear e
  obtain ⟨a0, a1⟩ := inR_true.1 h
  go_enter Tryd.func29, Tryd.ntmps29
  go_wp2_with (go_at_call 24; refine (inRange_any _ _ _ _).mono ?_; rintro e w' ⟨rfl, rfl⟩)
  go_ret
  exact ⟨rfl, rfl⟩
theorem validPart_any (k a b : Int) (w : World) :
    Calls Tryd.prog 29 #[.int .i64 k, .int .i64 a, .int .i64 b] w fun e w' => e = .returned (.bool (vpart k a b)) ∧ w = w' := by
  by_cases hk : inR k 0 3 = true
  · by_cases ha : inR a 0 36524 = true
    · by_cases ht : a + 4000 < 36524
      · exact validPart_b k a b w hk ha (by simp [ht])
      · exact validPart_c k a b w hk ha (by simp [ht])
    · exact validPart_a k a b w hk (by simpa using ha)
  · exact validPart_k k a b w (by simpa using hk)
end Go.Proofs.YtiplcndacmicoaaDoor
