/- The small functions over numbers: what each returns. -/
import Derived.Test.YtbjphookihgkpaaDoorProg
import Derived.Test.YtbjphookihgkpaaDoorPlain
import Derived.WalkKit
import Derived.WalkSpells
import Derived.WalkLawsBesides
import Derived.Lib.Hide
namespace Go.Proofs.YtbjphookihgkpaaDoor
open Go.RowKit
theorem ret_int {k : IntKind} {a b : Int} (h : a = b) : Ending.returned (.int k a) = .returned (.int k b) := by rw [h]
theorem ret_bool {a b : Bool} (h : a = b) : Ending.returned (.bool a) = .returned (.bool b) := by rw [h]
theorem ret_ib {k : IntKind} {a b : Int} {p q : Bool} (h : a = b) (h' : p = q) : Ending.returned (.tuple #[.int k a, .bool p]) = .returned (.tuple #[.int k b, .bool q]) := by rw [h, h']
theorem within_any (n lo hi : Int) (w : World) :
    Calls Tryd.prog 13 #[.int .i64 n, .int .i64 lo, .int .i64 hi] w fun e w' => e = .returned (.bool (inR n lo hi)) ∧ w = w' := by
  go_enter Tryd.func13, Tryd.ntmps13
  go_wp2
  · go_ret
    exact ⟨ret_bool (by unfold inR; simp [*]), rfl⟩
  · go_ret
    exact ⟨ret_bool (inR_no (Or.inl ‹_›)).symm, rfl⟩
theorem inRange_any (n lo hi : Int) (w : World) :
    Calls Tryd.prog 17 #[.int .i64 n, .int .i64 lo, .int .i64 hi] w fun e w' => e = .returned (.bool (inR n lo hi)) ∧ w = w' := by
  go_enter Tryd.func17, Tryd.ntmps17
  go_wp2
  · go_ret
    exact ⟨ret_bool (by unfold inR; simp [*]), rfl⟩
  · go_ret
    exact ⟨ret_bool (inR_no (Or.inl ‹_›)).symm, rfl⟩
theorem floorDiv_any (n dv : Int) (w : World) (hn : -4000000000000000000 ≤ n) (hn' : n ≤ 4000000000000000000) (hb : 1 ≤ dv) (hb' : dv ≤ 4000000000000000000) :
    Calls Tryd.prog 24 #[.int .i64 n, .int .i64 dv] w fun e w' => e = .returned (.int .i64 (n / dv)) ∧ w = w' := by
  have hf := tdiv_floor (n := n) (d := dv) (by omega)
  by_cases h0 : 0 ≤ n
  · clear hf
    have hm := Int.emod_nonneg n (b := dv) (by omega)
    go_enter Tryd.func24, Tryd.ntmps24
    go_wp2
    go_ret
    exact ⟨rfl, rfl⟩
  · obtain ⟨hl, hl'⟩ := tdiv_neg_bd hb (by omega) hn
    have hf' := Lib.hid hf
    clear hf
    go_enter Tryd.func24, Tryd.ntmps24
    go_wp2
    all_goals go_ret
    all_goals exact ⟨ret_int (by rw [hf'.out]; first | rw [if_pos ‹_›] | rw [if_neg (by omega)]), rfl⟩
theorem toInt_true (w : World) : Calls Tryd.prog 29 #[.bool true] w fun e w' => e = .returned (.int .i64 1) ∧ w = w' := by
  go_enter Tryd.func29, Tryd.ntmps29
  go_wp2
  go_ret
  exact ⟨rfl, rfl⟩
theorem toInt_false (w : World) : Calls Tryd.prog 29 #[.bool false] w fun e w' => e = .returned (.int .i64 0) ∧ w = w' := by
  go_enter Tryd.func29, Tryd.ntmps29
  go_wp2
  go_ret
  exact ⟨rfl, rfl⟩
theorem toInt_any (b : Bool) (w : World) :
    Calls Tryd.prog 29 #[.bool b] w fun e w' => e = .returned (.int .i64 (ofB b)) ∧ w = w' := by
  cases b
  all_goals
    go_enter Tryd.func29, Tryd.ntmps29
    go_wp2
    go_ret
    exact ⟨rfl, rfl⟩
end Go.Proofs.YtbjphookihgkpaaDoor
