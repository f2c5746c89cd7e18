/- The small functions over numbers: what each returns. -/
import Derived.Test.YtiplcndacmicoaaDoorProg
import Derived.Test.YtiplcndacmicoaaDoorPlain
import Derived.WalkKit
import Derived.WalkSpells
import Derived.WalkLawsBesides
import Derived.Lib.Hide
namespace Go.Proofs.YtiplcndacmicoaaDoor
open Go.RowKit
theorem ret_int {k : IntKind} {a b : Int} (h : a = b) : Ending.returned (.int k a) = .returned (.int k b) := by rw [h]
theorem ret_bool {a b : Bool} (h : a = b) : Ending.returned (.bool a) = .returned (.bool b) := by rw [h]
theorem ret_ib {k : IntKind} {a b : Int} {p q : Bool} (h : a = b) (h' : p = q) : Ending.returned (.tuple #[.int k a, .bool p]) = .returned (.tuple #[.int k b, .bool q]) := by rw [h, h']
theorem within_any (n lo hi : Int) (w : World) :
    Calls Tryd.prog 21 #[.int .i64 n, .int .i64 lo, .int .i64 hi] w fun e w' => e = .returned (.bool (inR n lo hi)) ∧ w = w' := by
  go_enter Tryd.func21, Tryd.ntmps21
  go_wp2
  · go_ret
    exact ⟨ret_bool (by unfold inR; simp [*]), rfl⟩
  · go_ret
    exact ⟨ret_bool (inR_no (Or.inl ‹_›)).symm, rfl⟩
theorem inRange_any (n lo hi : Int) (w : World) :
    Calls Tryd.prog 24 #[.int .i64 n, .int .i64 lo, .int .i64 hi] w fun e w' => e = .returned (.bool (inR n lo hi)) ∧ w = w' := by
  go_enter Tryd.func24, Tryd.ntmps24
  go_wp2
  · go_ret
    exact ⟨ret_bool (by unfold inR; simp [*]), rfl⟩
  · go_ret
    exact ⟨ret_bool (inR_no (Or.inl ‹_›)).symm, rfl⟩
theorem floor_any (n dv : Int) (w : World) (hn : -4000000000000000000 ≤ n) (hn' : n ≤ 4000000000000000000) (hb : 1 ≤ dv) (hb' : dv ≤ 4000000000000000000) :
    Calls Tryd.prog 34 #[.int .i64 n, .int .i64 dv] w fun e w' => e = .returned (.int .i64 (n / dv)) ∧ w = w' := by
  have hf := tdiv_floor (n := n) (d := dv) (by omega)
  by_cases h0 : 0 ≤ n
  · clear hf
    have hm := Int.emod_nonneg n (b := dv) (by omega)
    go_enter Tryd.func34, Tryd.ntmps34
    go_wp2
    go_ret
    exact ⟨rfl, rfl⟩
  · obtain ⟨hl, hl'⟩ := tdiv_neg_bd hb (by omega) hn
    have hf' := Lib.hid hf
    clear hf
    go_enter Tryd.func34, Tryd.ntmps34
    go_wp2
    all_goals go_ret
    all_goals exact ⟨ret_int (by rw [hf'.out]; first | rw [if_pos ‹_›] | rw [if_neg (by omega)]), rfl⟩
theorem floorDiv_any (n dv : Int) (w : World) (hn : -4000000000000000000 ≤ n) (hn' : n ≤ 4000000000000000000) (hb : 1 ≤ dv) (hb' : dv ≤ 4000000000000000000) :
    Calls Tryd.prog 39 #[.int .i64 n, .int .i64 dv] w fun e w' => e = .returned (.int .i64 (n / dv)) ∧ w = w' := by
  have hf := tdiv_floor (n := n) (d := dv) (by omega)
  by_cases h0 : 0 ≤ n
  · clear hf
    have hm := Int.emod_nonneg n (b := dv) (by omega)
    go_enter Tryd.func39, Tryd.ntmps39
    go_wp2
    go_ret
    exact ⟨rfl, rfl⟩
  · obtain ⟨hl, hl'⟩ := tdiv_neg_bd hb (by omega) hn
    have hf' := Lib.hid hf
    clear hf
    go_enter Tryd.func39, Tryd.ntmps39
    go_wp2
    all_goals go_ret
    all_goals exact ⟨ret_int (by rw [hf'.out]; first | rw [if_pos ‹_›] | rw [if_neg (by omega)]), rfl⟩
theorem nearestI_any (n dv : Int) (w : World) (hn : -1000000000000000000 ≤ n) (hn' : n ≤ 1000000000000000000) (hb : 1 ≤ dv) (hb' : dv ≤ 1000000000000000000) :
    Calls Tryd.prog 28 #[.int .i64 n, .int .i64 dv] w fun e w' => e = .returned (.int .i64 (near n dv)) ∧ w = w' := by
  go_enter Tryd.func28, Tryd.ntmps28
  go_wp2_with (go_at_call 34; refine (floor_any _ _ _ (by omega) (by omega) (by omega) (by omega)).mono ?_; rintro e w' ⟨rfl, rfl⟩)
  go_ret
  exact ⟨rfl, rfl⟩
theorem nearestS_any (n dv : Int) (w : World) (hn : -1000000000000000000 ≤ n) (hn' : n ≤ 1000000000000000000) (hb : 1 ≤ dv) (hb' : dv ≤ 1000000000000000000) :
    Calls Tryd.prog 31 #[.int .i64 n, .int .i64 dv] w fun e w' => e = .returned (.int .i64 (near n dv)) ∧ w = w' := by
  go_enter Tryd.func31, Tryd.ntmps31
  go_wp2_with (go_at_call 39; refine (floorDiv_any _ _ _ (by omega) (by omega) (by omega) (by omega)).mono ?_; rintro e w' ⟨rfl, rfl⟩)
  go_ret
  exact ⟨rfl, rfl⟩
theorem distance_any (n : Int) (w : World) (hn : -4000000000000000000 ≤ n) (hn' : n ≤ 4000000000000000000) :
    Calls Tryd.prog 44 #[.int .i64 n] w fun e w' => e = .returned (.int .i64 (absI n)) ∧ w = w' := by
  go_enter Tryd.func44, Tryd.ntmps44
  go_wp2
  all_goals go_ret
  · exact ⟨ret_int (absI_neg ‹_›).symm, rfl⟩
  · exact ⟨ret_int (absI_pos ‹_›).symm, rfl⟩
theorem toInt_true (w : World) : Calls Tryd.prog 53 #[.bool true] w fun e w' => e = .returned (.int .i64 1) ∧ w = w' := by
  go_enter Tryd.func53, Tryd.ntmps53
  go_wp2
  go_ret
  exact ⟨rfl, rfl⟩
theorem toInt_false (w : World) : Calls Tryd.prog 53 #[.bool false] w fun e w' => e = .returned (.int .i64 0) ∧ w = w' := by
  go_enter Tryd.func53, Tryd.ntmps53
  go_wp2
  go_ret
  exact ⟨rfl, rfl⟩
theorem toInt_any (b : Bool) (w : World) :
    Calls Tryd.prog 53 #[.bool b] w fun e w' => e = .returned (.int .i64 (ofB b)) ∧ w = w' := by
  cases b
  all_goals
    go_enter Tryd.func53, Tryd.ntmps53
    go_wp2
    go_ret
    exact ⟨rfl, rfl⟩
end Go.Proofs.YtiplcndacmicoaaDoor
