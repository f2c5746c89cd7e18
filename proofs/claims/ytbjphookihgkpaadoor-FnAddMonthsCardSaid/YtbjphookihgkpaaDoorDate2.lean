/- Dates: validity, numbers. -/
import Derived.Test.YtbjphookihgkpaaDoorDate1
import Derived.Deep.RegionWith
import Derived.Deep.RegionHeld3
namespace Go.Proofs.YtbjphookihgkpaaDoor
open Go.RowKit
set_option linter.unusedVariables false
/-- a date that there is, as a Bool -/
def dimO (y m : Int) : Int := if inR y 1990 2089 = true then (if inR m 1 12 = true then dim y m else -1) else -1
def dtB (y m d : Int) : Bool := inR y 1990 2089 && (inR m 1 12 && inR d 1 (dim y m))
theorem dtB_iff {y m d : Int} : dtB y m d = true ↔ Dt y m d := by
  unfold dtB Dt
  rw [Bool.and_eq_true, Bool.and_eq_true, inR_true, inR_true, inR_true]
theorem dimO_dt (y m d : Int) : inR d 1 (dimO y m) = dtB y m d := by
  unfold dimO dtB
  by_cases h1 : inR y 1990 2089 = true
  · rw [if_pos h1, h1]
    by_cases h2 : inR m 1 12 = true
    · rw [if_pos h2, h2]; rfl
    · rw [if_neg h2]
      have h2' : inR m 1 12 = false := by simpa using h2
      rw [h2', inR_no (by omega)]; rfl
  · rw [if_neg h1]
    have h1' : inR y 1990 2089 = false := by simpa using h1
    rw [h1', inR_no (by omega)]; rfl
theorem dimI_any (y m : Int) (w : World) (hM : MD w) :
    Calls Tryd.prog 8 #[.int .i64 y, .int .i64 m] w fun e w' => e = .returned (.int .i64 (dimO y m)) ∧ w = w' := by
  have HM := Lib.hid hM
  clear hM
  unfold dimO
  by_cases h1 : inR y 1990 2089 = true
  · rw [if_pos h1]
    by_cases h2 : inR m 1 12 = true
    · rw [if_pos h2]
      obtain ⟨a1, a2⟩ := inR_true.1 h1
      obtain ⟨b1, b2⟩ := inR_true.1 h2
      go_enter Tryd.func8, Tryd.ntmps8
      go_wp2_with (first | (go_at_call 13; refine (within_any _ _ _ _).mono ?_; rintro e w' ⟨rfl, rfl⟩) | (go_at_call 15; refine (daysInI_any _ _ _ HM.out (by omega) (by omega) (by omega) (by omega)).mono ?_; rintro e w' ⟨rfl, rfl⟩))
      go_ret
      exact ⟨rfl, rfl⟩
    · rw [if_neg h2]
      have h2' : inR m 1 12 = false := by simpa using h2
      clear h2
      go_enter Tryd.func8, Tryd.ntmps8
      go_wp2_with (first | (go_at_call 13; refine (within_any _ _ _ _).mono ?_; rintro e w' ⟨rfl, rfl⟩))
      go_ret
      exact ⟨rfl, rfl⟩
  · rw [if_neg h1]
    have h1' : inR y 1990 2089 = false := by simpa using h1
    clear h1
    go_enter Tryd.func8, Tryd.ntmps8
    go_wp2_with (first | (go_at_call 13; refine (within_any _ _ _ _).mono ?_; rintro e w' ⟨rfl, rfl⟩))
    go_ret
    exact ⟨rfl, rfl⟩
set_option maxHeartbeats 1000000 in
theorem numberI_any (y m d : Int) (w : World) (hM : MD w) (hd : Dt y m d) :
    Calls Tryd.prog 16 #[.agg #[.int .i64 y, .int .i64 m, .int .i64 d]] w fun e w' => e = .returned (.int .i64 (num y m d)) ∧ Below w.heap.size w w' := by
  have hM1 := hM.size
  have HM := Lib.hid (hM.fwd (w' := w.alloc (.cells #[.int .i64 y, .int .i64 m, .int .i64 d] 27)) ((Below.refl _ _).alloc hM1 _))
  clear hM
  have hb := num_bd hd
  have HD := Lib.hid hd
  obtain ⟨⟨a1, a2⟩, ⟨a3, a4⟩, ⟨a5, a6⟩⟩ := hd
  have hdm := @dim_bd y m
  obtain ⟨dm1, dm2⟩ := hdm
  go_enter Tryd.func16, Tryd.ntmps16
  go_wp2
  go_loop [3, 4] (fun n i => ∃ k : Int, 1990 ≤ k ∧ k ≤ y ∧ n = .int .i64 (d - 1 + dby k) ∧ i = .int .i64 k) (fun _ i => (y - intOf i).toNat)
  case atStart => exact ⟨1990, by omega, by omega, by rw [dby_first]; simp, rfl⟩
  case round =>
    obtain ⟨k, k1, k2, rfl, rfl⟩ := hrel
    have e1 := dby_mono k1
    have e2 := dby_mono (show k ≤ 2090 by omega)
    rw [dby_first] at e1
    rw [dby_last] at e2
    by_cases hk : k < y
    · have e3 := ydays_bd k
      obtain ⟨e3, e4⟩ := e3
      have E := Lib.hid (dby_succ k1 (by omega))
      go_wp2_with (go_at_call 21; refine (yearDaysI_any _ _ (by omega) (by omega)).mono ?_; rintro e w' ⟨rfl, rfl⟩)
      go_round
      case rel => exact ⟨k + 1, by omega, by omega, by rw [E.out]; go_num, rfl⟩
      case measure => simp [intOf]; omega
    · obtain rfl : k = y := by omega
      go_wp2
      go_loop [3, 5] (fun n i => ∃ j : Int, 1 ≤ j ∧ j ≤ m ∧ n = .int .i64 (d - 1 + dby k + cum k j) ∧ i = .int .i64 j) (fun _ i => (m - intOf i).toNat)
      case atStart => exact ⟨1, by omega, by omega, by rw [cum_first]; simp, rfl⟩
      case round =>
        obtain ⟨j, j1, j2, rfl, rfl⟩ := hrel
        have c := cum_nonneg k j1 (by omega)
        have cy := ydays_bd k
        obtain ⟨c1, c2⟩ := c
        obtain ⟨c3, c4⟩ := cy
        by_cases hj : j < m
        · have cd := @dim_bd k j
          obtain ⟨c5, c6⟩ := cd
          have E := Lib.hid (cum_succ k j1 (by omega))
          go_wp2_with (go_at_call 15; refine (daysInI_any _ _ _ HM.out (by omega) (by omega) (by omega) (by omega)).mono ?_; rintro e w' ⟨rfl, rfl⟩)
          go_round
          case rel => exact ⟨j + 1, by omega, by omega, by rw [E.out]; go_num, rfl⟩
          case measure => simp [intOf]; omega
        · obtain rfl : j = m := by omega
          go_wp2
          go_ret
          exact ⟨ret_int (by unfold num; omega), (Below.refl _ _).alloc (Nat.le_refl _) _⟩
end Go.Proofs.YtbjphookihgkpaaDoor
