/- Dates: the reference's validity and numbers. -/
import Derived.Test.YtoecdlemoimacaaDoorDate2
namespace Go.Proofs.YtoecdlemoimacaaDoor
open Go.RowKit
set_option linter.unusedVariables false
set_option maxHeartbeats 1500000 in
theorem validDateS_a (y m d : Int) (w : World) (h : inR y 1990 2089 = false) :
    Calls Tryd.prog 37 #[.agg #[.int .i64 y, .int .i64 m, .int .i64 d]] w fun e w' => e = .returned (.bool (dtB y m d)) ∧ Below w.heap.size w w' := by
  have F : Hid (dtB y m d = false) := by unfold dtB; rw [h]; simp [Hid]
  go_enter Tryd.func37, Tryd.ntmps37
  go_wp2_with fail
  go_quiet (first | (go_at_call 22; exact quiet_left (inRange_any _ _ _ _)))
  go_wp2
  go_ret
  exact ⟨ret_bool F.out.symm, bel_drewN _ ((Below.refl _ _).alloc (Nat.le_refl _) _)⟩
set_option maxHeartbeats 1500000 in
theorem validDateS_b (y m d : Int) (w : World) (h1 : inR y 1990 2089 = true) (h : inR m 1 12 = false) :
    Calls Tryd.prog 37 #[.agg #[.int .i64 y, .int .i64 m, .int .i64 d]] w fun e w' => e = .returned (.bool (dtB y m d)) ∧ Below w.heap.size w w' := by
  have F : Hid (dtB y m d = false) := by unfold dtB; rw [h]; simp [Hid]
  go_enter Tryd.func37, Tryd.ntmps37
  go_wp2_with fail
  go_quiet (first | (go_at_call 22; exact quiet_left (inRange_any _ _ _ _)))
  go_wp2
  go_ret
  exact ⟨ret_bool F.out.symm, bel_drewN _ ((Below.refl _ _).alloc (Nat.le_refl _) _)⟩
set_option maxHeartbeats 1000000 in
theorem validDateS_c (y m d : Int) (w : World) (h1 : inR y 1990 2089 = true) (h2 : inR m 1 12 = true) :
    Calls Tryd.prog 37 #[.agg #[.int .i64 y, .int .i64 m, .int .i64 d]] w fun e w' => e = .returned (.bool (dtB y m d)) ∧ Below w.heap.size w w' := by
  have F : Hid (dtB y m d = inR d 1 (dim y m)) := by unfold dtB; rw [h1, h2]; simp [Hid]
  obtain ⟨a1, a2⟩ := inR_true.1 h1
  obtain ⟨b1, b2⟩ := inR_true.1 h2
  go_enter Tryd.func37, Tryd.ntmps37
  go_wp2_with fail
  go_region_held3 (fun w' => w'.cell? ⟨w.heap.size, 0, none⟩ = some (.int .i64 y) ∧ w'.cell? ⟨w.heap.size, 1, none⟩ = some (.int .i64 m) ∧ w'.cell? ⟨w.heap.size, 2, none⟩ = some (.int .i64 d)) ((refine ⟨?_, ?_, ?_⟩ <;> first | assumption | exact bc hb (by assumption) | exact bc hb (by simp) | (simp; done)))
    (first | (go_at_call 22; refine (inRange_any _ _ _ _).mono ?_; rintro e w' ⟨rfl, rfl⟩) | (go_at_call 53; refine (daysInS_any _ _ _ (by omega) (by omega) (by omega) (by omega)).mono ?_; rintro e v ⟨rfl, hb⟩))
  go_wp2
  go_ret
  exact ⟨ret_bool F.out.symm, (((Below.refl _ _).alloc (Nat.le_refl _) _).drew).trans (hb.mono (by simp))⟩
theorem validDateS_any (y m d : Int) (w : World) :
    Calls Tryd.prog 37 #[.agg #[.int .i64 y, .int .i64 m, .int .i64 d]] w fun e w' => e = .returned (.bool (dtB y m d)) ∧ Below w.heap.size w w' := by
  by_cases h1 : inR y 1990 2089 = true
  · by_cases h2 : inR m 1 12 = true
    · exact validDateS_c y m d w h1 h2
    · exact validDateS_b y m d w h1 (by simpa using h2)
  · exact validDateS_a y m d w (by simpa using h1)
end Go.Proofs.YtoecdlemoimacaaDoor
