/- Dates: leap years, lengths of years and months. -/
import Derived.Test.YtbjphookihgkpaaDoorInts
import Derived.Test.YtbjphookihgkpaaDoorWorld
import Derived.Test.YtbjphookihgkpaaDoorCal
namespace Go.Proofs.YtbjphookihgkpaaDoor
open Go.RowKit
set_option linter.unusedVariables false
/-- What a function does between two calls turns nothing below B. -/
theorem Below.to {B : Nat} {a b : World} (h : Below B a b) : Below B a b := h
/-- The table of the months' days is as the program's text lays it. -/
def MD (w : World) : Prop := ∀ m : Int, 1 ≤ m → m ≤ 12 → w.cell? ⟨0, (m - 1).toNat, none⟩ = some (.int .i64 (md m))
theorem MD.size {w : World} (h : MD w) : 0 + 1 ≤ w.heap.size := cell_lt (h 1 (by omega) (by omega))
theorem MD.fwd {w w' : World} (h : MD w) (b : Below (0 + 1) w w') : MD w' := fun m h1 h2 => by rw [b.cell (by simp)]; exact h m h1 h2
theorem MD.below {w w' : World} (h : MD w) (b : Below w.heap.size w w') : MD w' := h.fwd (b.mono h.size)
theorem leapI_any (y : Int) (w : World) (h1 : 1 ≤ y) (h2 : y ≤ 100000) :
    Calls Tryd.prog 22 #[.int .i64 y] w fun e w' => e = .returned (.bool (lp y)) ∧ w = w' := by
  unfold lp
  by_cases a : y % 4 = 0
  · have a' : (y % 4 == 0) = true := by simpa using a
    clear a
    by_cases b : y % 100 = 0
    · have b1 : (y % 100 == 0) = true := by simpa using b
      have b' : (y % 100 != 0) = false := by simpa using b
      clear b
      go_enter Tryd.func22, Tryd.ntmps22
      go_wp2
      go_ret
      exact ⟨ret_bool (by rw [a', b']; rfl), rfl⟩
    · have b1 : (y % 100 == 0) = false := by simpa using b
      have b' : (y % 100 != 0) = true := by simpa using b
      clear b
      go_enter Tryd.func22, Tryd.ntmps22
      go_wp2
      go_ret
      exact ⟨ret_bool (by rw [a', b']; rfl), rfl⟩
  · have a' : (y % 4 == 0) = false := by simpa using a
    clear a
    go_enter Tryd.func22, Tryd.ntmps22
    go_wp2
    go_ret
    exact ⟨ret_bool (by rw [a']; rfl), rfl⟩
theorem leapS_any (y : Int) (w : World) (h1 : 1 ≤ y) (h2 : y ≤ 100000) :
    Calls Tryd.prog 28 #[.int .i64 y] w fun e w' => e = .returned (.bool (lp y)) ∧ w = w' := by
  unfold lp
  by_cases a : y % 4 = 0
  · have a' : (y % 4 == 0) = true := by simpa using a
    clear a
    by_cases b : y % 100 = 0
    · have b1 : (y % 100 == 0) = true := by simpa using b
      have b' : (y % 100 != 0) = false := by simpa using b
      clear b
      go_enter Tryd.func28, Tryd.ntmps28
      go_wp2
      go_ret
      exact ⟨ret_bool (by rw [a', b']; rfl), rfl⟩
    · have b1 : (y % 100 == 0) = false := by simpa using b
      have b' : (y % 100 != 0) = true := by simpa using b
      clear b
      go_enter Tryd.func28, Tryd.ntmps28
      go_wp2
      go_ret
      exact ⟨ret_bool (by rw [a', b']; rfl), rfl⟩
  · have a' : (y % 4 == 0) = false := by simpa using a
    clear a
    go_enter Tryd.func28, Tryd.ntmps28
    go_wp2
    go_ret
    exact ⟨ret_bool (by rw [a']; rfl), rfl⟩
theorem lpI_yes {y : Int} (h : lp y = true) : lpI y = 1 := by unfold lpI; rw [if_pos h]
theorem lpI_no {y : Int} (h : lp y = false) : lpI y = 0 := by unfold lpI; rw [h]; rfl
theorem yearDaysI_any (y : Int) (w : World) (h1 : 1 ≤ y) (h2 : y ≤ 100000) :
    Calls Tryd.prog 21 #[.int .i64 y] w fun e w' => e = .returned (.int .i64 (ydays y)) ∧ w = w' := by
  unfold ydays
  by_cases h : lp y = true
  · rw [lpI_yes h]
    go_enter Tryd.func21, Tryd.ntmps21
    go_wp2_with (go_at_call 22; refine (leapI_any _ _ (by omega) (by omega)).mono ?_; rintro e w' ⟨rfl, rfl⟩)
    go_ret
    exact ⟨rfl, rfl⟩
  · have h' : lp y = false := by simpa using h
    clear h
    rw [lpI_no h']
    go_enter Tryd.func21, Tryd.ntmps21
    go_wp2_with (go_at_call 22; refine (leapI_any _ _ (by omega) (by omega)).mono ?_; rintro e w' ⟨rfl, rfl⟩)
    go_ret
    exact ⟨rfl, rfl⟩
theorem yearDaysS_any (y : Int) (w : World) (h1 : 1 ≤ y) (h2 : y ≤ 100000) :
    Calls Tryd.prog 27 #[.int .i64 y] w fun e w' => e = .returned (.int .i64 (ydays y)) ∧ w = w' := by
  unfold ydays
  have hb := lpI_bd y
  have hT : ∀ (b : Bool) (w : World), b = lp y → Calls Tryd.prog 29 #[.bool b] w fun e w' => e = .returned (.int .i64 (lpI y)) ∧ w = w' := by
    rintro b w rfl
    exact toInt_any (lp y) w
  have HT := Lib.hid hT
  clear hT
  obtain ⟨b1, b2⟩ := hb
  go_enter Tryd.func27, Tryd.ntmps27
  go_wp2_with (first | (go_at_call 28; refine (leapS_any _ _ (by omega) (by omega)).mono ?_; rintro e w' ⟨rfl, rfl⟩) | (go_at_call 29; refine (HT.out _ _ rfl).mono ?_; rintro e w' ⟨rfl, rfl⟩))
  go_ret
  exact ⟨rfl, rfl⟩
theorem dim_other {y m : Int} (h : m ≠ 2) : dim y m = md m := by unfold dim; rw [if_neg h]
theorem dim_leap {y : Int} (h : lp y = true) : dim y 2 = 29 := by unfold dim; rw [lpI_yes h]; rfl
theorem dim_common {y : Int} (h : lp y = false) : dim y 2 = 28 := by unfold dim; rw [lpI_no h]; rfl
theorem daysInI_any (y m : Int) (w : World) (hM : MD w) (h1 : 1 ≤ y) (h2 : y ≤ 100000) (h3 : 1 ≤ m) (h4 : m ≤ 12) :
    Calls Tryd.prog 15 #[.int .i64 y, .int .i64 m] w fun e w' => e = .returned (.int .i64 (dim y m)) ∧ w = w' := by
  have hc := hM m h3 h4
  rw [show (m - 1).toNat = m.toNat - 1 by omega] at hc
  have hM' := Lib.hid hM
  clear hM
  by_cases hm : m = 2
  · subst hm
    by_cases h : lp y = true
    · rw [dim_leap h]
      go_enter Tryd.func15, Tryd.ntmps15
      go_wp2_with (go_at_call 22; refine (leapI_any _ _ (by omega) (by omega)).mono ?_; rintro e w' ⟨rfl, rfl⟩)
      go_ret
      exact ⟨rfl, rfl⟩
    · have h' : lp y = false := by simpa using h
      clear h
      rw [dim_common h']
      have hc1 : w.cell? ⟨0, 1, none⟩ = some (.int .i64 28) := hc
      clear hc
      go_enter Tryd.func15, Tryd.ntmps15
      go_wp2_with (go_at_call 22; refine (leapI_any _ _ (by omega) (by omega)).mono ?_; rintro e w' ⟨rfl, rfl⟩)
      go_ret
      exact ⟨rfl, rfl⟩
  · have hm' : (m == 2) = false := by simpa using hm
    rw [dim_other hm]
    clear hm
    go_enter Tryd.func15, Tryd.ntmps15
    go_wp2
    go_ret
    exact ⟨rfl, rfl⟩
theorem months_cell (w : World) (T : TypeId) (m : Int) (h3 : 1 ≤ m) (h4 : m ≤ 12) : (w.alloc (.cells ([31, 28, 31, 30, 31, 30, 31, 31, 30, 31, 30, 31].map (Value.int .i64)).toArray T)).cell? ⟨w.heap.size, (m - 1).toNat, none⟩ = some (.int .i64 (md m)) := by
  rcases month_cases h3 h4 with rfl | rfl | rfl | rfl | rfl | rfl | rfl | rfl | rfl | rfl | rfl | rfl <;> (rw [World.cell?_alloc_mark]; rfl)
theorem daysInS_any (y m : Int) (w : World) (h1 : 1 ≤ y) (h2 : y ≤ 100000) (h3 : 1 ≤ m) (h4 : m ≤ 12) :
    Calls Tryd.prog 26 #[.int .i64 y, .int .i64 m] w fun e w' => e = .returned (.int .i64 (dim y m)) ∧ Below w.heap.size w w' := by
  have hc : (w.alloc (.cells #[.int .i64 31, .int .i64 28, .int .i64 31, .int .i64 30, .int .i64 31, .int .i64 30, .int .i64 31, .int .i64 31, .int .i64 30, .int .i64 31, .int .i64 30, .int .i64 31] 3)).cell? ⟨w.heap.size, (m - 1).toNat, none⟩ = some (.int .i64 (md m)) := months_cell w 3 m h3 h4
  rw [show (m - 1).toNat = m.toNat - 1 by omega] at hc
  by_cases hm : m = 2
  · subst hm
    clear hc
    by_cases h : lp y = true
    · rw [dim_leap h]
      go_enter Tryd.func26, Tryd.ntmps26
      go_wp2_with (go_at_call 28; refine (leapS_any _ _ (by omega) (by omega)).mono ?_; rintro e w' ⟨rfl, rfl⟩)
      go_ret
      exact ⟨rfl, Below.refl _ _⟩
    · have h' : lp y = false := by simpa using h
      clear h
      rw [dim_common h']
      go_enter Tryd.func26, Tryd.ntmps26
      go_wp2_with (go_at_call 28; refine (leapS_any _ _ (by omega) (by omega)).mono ?_; rintro e w' ⟨rfl, rfl⟩)
      go_ret
      exact ⟨rfl, (Below.refl _ _).alloc (Nat.le_refl _) _⟩
  · have hm' : (m == 2) = false := by simpa using hm
    rw [dim_other hm]
    clear hm
    go_enter Tryd.func26, Tryd.ntmps26
    go_wp2
    go_ret
    exact ⟨rfl, (Below.refl _ _).alloc (Nat.le_refl _) _⟩
end Go.Proofs.YtbjphookihgkpaaDoor
