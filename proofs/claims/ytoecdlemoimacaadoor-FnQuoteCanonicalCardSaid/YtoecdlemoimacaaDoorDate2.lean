/- Dates: validity, numbers. -/
import Derived.Test.YtoecdlemoimacaaDoorDate1
import Derived.Deep.RegionWith
import Derived.Deep.RegionHeld3
namespace Go.Proofs.YtoecdlemoimacaaDoor
open Go.RowKit
set_option linter.unusedVariables false
/-- a date that there is, as a Bool -/
def dimO (y m : Int) : Int := if inR y 1990 2089 = true then (if inR m 1 12 = true then dim y m else -1) else -1
def dtB (y m d : Int) : Bool := inR y 1990 2089 && (inR m 1 12 && inR d 1 (dim y m))
theorem dtB_iff {y m d : Int} : dtB y m d = true ↔ Dt y m d := by
  unfold dtB Dt
  rw [Bool.and_eq_true, Bool.and_eq_true, inR_true, inR_true, inR_true]
theorem dimO_dt (y m d : Int) : inR d 1 (dimO y m) = dtB y m d := by
  unfold dimO dtB
  by_cases h1 : inR y 1990 2089 = true
  · rw [if_pos h1, h1]
    by_cases h2 : inR m 1 12 = true
    · rw [if_pos h2, h2]; rfl
    · rw [if_neg h2]
      have h2' : inR m 1 12 = false := by simpa using h2
      rw [h2', inR_no (by omega)]; rfl
  · rw [if_neg h1]
    have h1' : inR y 1990 2089 = false := by simpa using h1
    rw [h1', inR_no (by omega)]; rfl
theorem dimI_any (y m : Int) (w : World) (hM : MD w) :
    Calls Tryd.prog 55 #[.int .i64 y, .int .i64 m] w fun e w' => e = .returned (.int .i64 (dimO y m)) ∧ w = w' := by
  have HM := Lib.hid hM
  clear hM
  unfold dimO
  by_cases h1 : inR y 1990 2089 = true
  · rw [if_pos h1]
    by_cases h2 : inR m 1 12 = true
    · rw [if_pos h2]
      obtain ⟨a1, a2⟩ := inR_true.1 h1
      obtain ⟨b1, b2⟩ := inR_true.1 h2
      go_enter Tryd.func55, Tryd.ntmps55
      go_wp2_with (first | (go_at_call 27; refine (within_any _ _ _ _).mono ?_; rintro e w' ⟨rfl, rfl⟩) | (go_at_call 68; refine (daysInI_any _ _ _ HM.out (by omega) (by omega) (by omega) (by omega)).mono ?_; rintro e w' ⟨rfl, rfl⟩))
      go_ret
      exact ⟨rfl, rfl⟩
    · rw [if_neg h2]
      have h2' : inR m 1 12 = false := by simpa using h2
      clear h2
      go_enter Tryd.func55, Tryd.ntmps55
      go_wp2_with (first | (go_at_call 27; refine (within_any _ _ _ _).mono ?_; rintro e w' ⟨rfl, rfl⟩))
      go_ret
      exact ⟨rfl, rfl⟩
  · rw [if_neg h1]
    have h1' : inR y 1990 2089 = false := by simpa using h1
    clear h1
    go_enter Tryd.func55, Tryd.ntmps55
    go_wp2_with (first | (go_at_call 27; refine (within_any _ _ _ _).mono ?_; rintro e w' ⟨rfl, rfl⟩))
    go_ret
    exact ⟨rfl, rfl⟩
set_option maxHeartbeats 400000 in
theorem validDateI_any (y m d : Int) (w : World) (hM : MD w) :
    Calls Tryd.prog 39 #[.agg #[.int .i64 y, .int .i64 m, .int .i64 d]] w fun e w' => e = .returned (.bool (dtB y m d)) ∧ Below w.heap.size w w' := by
  have hM1 := hM.size
  have HM := Lib.hid (hM.fwd (w' := w.alloc (.cells #[.int .i64 y, .int .i64 m, .int .i64 d] 33)) ((Below.refl _ _).alloc hM1 _))
  clear hM
  go_enter Tryd.func39, Tryd.ntmps39
  go_wp2_with fail
  go_quiet (first | (go_at_call 55; exact quiet_left (dimI_any _ _ _ HM.out)) | (go_at_call 27; exact quiet_left (within_any _ _ _ _)))
  go_wp2
  go_ret
  exact ⟨ret_bool (dimO_dt y m d), bel_drewN _ ((Below.refl _ _).alloc (Nat.le_refl _) _)⟩
end Go.Proofs.YtoecdlemoimacaaDoor
