/- The small functions over numbers: what each returns. -/
import Derived.Test.YtoecdlemoimacaaDoorProg
import Derived.Test.YtoecdlemoimacaaDoorPlain
import Derived.WalkKit
import Derived.WalkSpells
import Derived.WalkLawsBesides
import Derived.Lib.Hide
namespace Go.Proofs.YtoecdlemoimacaaDoor
open Go.RowKit
theorem ret_int {k : IntKind} {a b : Int} (h : a = b) : Ending.returned (.int k a) = .returned (.int k b) := by rw [h]
theorem ret_bool {a b : Bool} (h : a = b) : Ending.returned (.bool a) = .returned (.bool b) := by rw [h]
theorem ret_ib {k : IntKind} {a b : Int} {p q : Bool} (h : a = b) (h' : p = q) : Ending.returned (.tuple #[.int k a, .bool p]) = .returned (.tuple #[.int k b, .bool q]) := by rw [h, h']
theorem within_any (n lo hi : Int) (w : World) :
    Calls Tryd.prog 27 #[.int .i64 n, .int .i64 lo, .int .i64 hi] w fun e w' => e = .returned (.bool (inR n lo hi)) ∧ w = w' := by
  go_enter Tryd.func27, Tryd.ntmps27
  go_wp2
  · go_ret
    exact ⟨ret_bool (by unfold inR; simp [*]), rfl⟩
  · go_ret
    exact ⟨ret_bool (inR_no (Or.inl ‹_›)).symm, rfl⟩
theorem inRange_any (n lo hi : Int) (w : World) :
    Calls Tryd.prog 22 #[.int .i64 n, .int .i64 lo, .int .i64 hi] w fun e w' => e = .returned (.bool (inR n lo hi)) ∧ w = w' := by
  go_enter Tryd.func22, Tryd.ntmps22
  go_wp2
  · go_ret
    exact ⟨ret_bool (by unfold inR; simp [*]), rfl⟩
  · go_ret
    exact ⟨ret_bool (inR_no (Or.inl ‹_›)).symm, rfl⟩
theorem toInt_true (w : World) : Calls Tryd.prog 43 #[.bool true] w fun e w' => e = .returned (.int .i64 1) ∧ w = w' := by
  go_enter Tryd.func43, Tryd.ntmps43
  go_wp2
  go_ret
  exact ⟨rfl, rfl⟩
theorem toInt_false (w : World) : Calls Tryd.prog 43 #[.bool false] w fun e w' => e = .returned (.int .i64 0) ∧ w = w' := by
  go_enter Tryd.func43, Tryd.ntmps43
  go_wp2
  go_ret
  exact ⟨rfl, rfl⟩
theorem toInt_any (b : Bool) (w : World) :
    Calls Tryd.prog 43 #[.bool b] w fun e w' => e = .returned (.int .i64 (ofB b)) ∧ w = w' := by
  cases b
  all_goals
    go_enter Tryd.func43, Tryd.ntmps43
    go_wp2
    go_ret
    exact ⟨rfl, rfl⟩
end Go.Proofs.YtoecdlemoimacaaDoor
