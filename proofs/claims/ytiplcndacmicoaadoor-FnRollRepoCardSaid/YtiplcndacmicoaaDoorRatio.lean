/- Ratios: what the functions over them return. -/
import Derived.Test.YtiplcndacmicoaaDoorInts
import Derived.Test.YtiplcndacmicoaaDoorRatioPlain
import Derived.Test.YtiplcndacmicoaaDoorWorld
import Derived.BigQuiet
import Derived.Deep.QuietTactic
import Derived.BigRegion
import Derived.RegionTactic
namespace Go.Proofs.YtiplcndacmicoaaDoor
open Go.RowKit
set_option linter.unusedVariables false
set_option maxHeartbeats 400000 in
theorem divisorI_any (a b : Int) (w : World) (ha : 0 ≤ a) (ha' : a ≤ 4000000000000000000) (hb : 0 ≤ b) (hb' : b ≤ 4000000000000000000) :
    Calls Tryd.prog 54 #[.int .i64 a, .int .i64 b] w fun e w' => e = .returned (.int .i64 (gd a b)) ∧ Below w.heap.size w w' := by
  go_enter Tryd.func54, Tryd.ntmps54
  go_wp2
  go_loopw [0, 1] (fun x y wr => ∃ p q : Int, 0 ≤ p ∧ p ≤ 4000000000000000000 ∧ 0 ≤ q ∧ q ≤ 4000000000000000000 ∧ x = .int .i64 p ∧ y = .int .i64 q ∧ gd p q = gd a b ∧ Below w.heap.size w wr) (fun _ y _ => (intOf y).toNat)
  case atStart => exact ⟨a, b, ha, ha', hb, hb', rfl, rfl, rfl, Below.refl _ _⟩
  case round =>
    obtain ⟨p, q, p0, p1, q0, q1, rfl, rfl, hg, hbel⟩ := hrel
    have G := Lib.hid hg
    have B := Lib.hid hbel
    clear hg hbel
    by_cases hq : q = 0
    · subst hq
      go_wp2
      go_ret
      exact ⟨ret_int (by rw [← G.out, gd_zero p0]), B.out⟩
    · have hq1 : (q != 0) = true := by simpa using hq
      have hq2 : (q == 0) = false := by simpa using hq
      have m0 := Int.emod_nonneg p hq
      have m1 := Int.emod_lt_of_pos p (b := q) (by omega)
      go_wp2
      go_quiet (fail)
      go_roundw
      case rel =>
        (repeat apply Exists.intro)
        exact ⟨⟨q, p % q, q0, q1, m0, by omega, rfl, rfl, by rw [gd_rec p0]; exact G.out, bel_drewN _ B.out⟩, rfl⟩
      case measure => simp [intOf]; omega
set_option maxHeartbeats 400000 in
theorem divisorS_any (a b : Int) (w : World) (ha : 0 ≤ a) (ha' : a ≤ 4000000000000000000) (hb : 0 ≤ b) (hb' : b ≤ 4000000000000000000) :
    Calls Tryd.prog 43 #[.int .i64 a, .int .i64 b] w fun e w' => e = .returned (.int .i64 (gd a b)) ∧ w = w' := by
  go_enter Tryd.func43, Tryd.ntmps43
  go_wp2
  go_loop [0, 1] (fun x y => ∃ p q : Int, 0 ≤ p ∧ p ≤ 4000000000000000000 ∧ 0 ≤ q ∧ q ≤ 4000000000000000000 ∧ x = .int .i64 p ∧ y = .int .i64 q ∧ gd p q = gd a b) (fun _ y => (intOf y).toNat)
  case atStart => exact ⟨a, b, ha, ha', hb, hb', rfl, rfl, rfl⟩
  case round =>
    obtain ⟨p, q, p0, p1, q0, q1, rfl, rfl, hg⟩ := hrel
    have G := Lib.hid hg
    clear hg
    by_cases hq : q = 0
    · subst hq
      go_wp2
      go_ret
      exact ⟨ret_int (by rw [← G.out, gd_zero p0]), rfl⟩
    · have m0 := Int.emod_nonneg p hq
      have m1 := Int.emod_lt_of_pos p (b := q) (by omega)
      have hq0 : 0 < q := by omega
      clear hq
      go_wp2
      go_round
      case rel => exact ⟨q, p % q, q0, q1, m0, by omega, rfl, rfl, by rw [gd_rec p0]; exact G.out⟩
      case measure => simp [intOf]; omega
set_option maxHeartbeats 400000 in
theorem ratioValid_any (n d : Int) (w : World) :
    Calls Tryd.prog 55 #[.agg #[.int .i64 n, .int .i64 d]] w fun e w' => e = .returned (.bool (ratioOk n d)) ∧ Below w.heap.size w w' := by
  by_cases h1 : inR n (-2000000) 2000000 = true
  · by_cases h2 : inR d 1 2000000 = true
    · obtain ⟨a1, a2⟩ := inR_true.1 h1
      obtain ⟨b1, b2⟩ := inR_true.1 h2
      have H1 := Lib.hid h1
      have H2 := Lib.hid h2
      go_enter Tryd.func55, Tryd.ntmps55
      go_wp2_with (first | (go_at_call 21; refine (within_any _ _ _ _).mono ?_; rintro e w' ⟨rfl, rfl⟩) | (go_at_call 54; refine (divisorI_any _ _ _ (by omega) (by omega) (by omega) (by omega)).mono ?_; rintro e w1 ⟨rfl, hb⟩))
      all_goals go_ret
      all_goals refine ⟨ret_bool ?_, ((Below.refl _ _).alloc (Nat.le_refl _) _).trans (hb.mono (by simp))⟩
      all_goals (unfold ratioOk; rw [H1.out, H2.out]; simp [gd, Int.neg_gcd])
    · have h2' : inR d 1 2000000 = false := by simpa using h2
      have f : ratioOk n d = false := by unfold ratioOk; rw [h2']; simp
      have F := Lib.hid f
      clear h2 f
      go_enter Tryd.func55, Tryd.ntmps55
      go_wp2_with (go_at_call 21; refine (within_any _ _ _ _).mono ?_; rintro e w' ⟨rfl, rfl⟩)
      go_ret
      exact ⟨ret_bool F.out.symm, (Below.refl _ _).alloc (Nat.le_refl _) _⟩
  · have h1' : inR n (-2000000) 2000000 = false := by simpa using h1
    have f : ratioOk n d = false := by unfold ratioOk; rw [h1']; simp
    have F := Lib.hid f
    clear h1 f
    go_enter Tryd.func55, Tryd.ntmps55
    go_wp2_with (go_at_call 21; refine (within_any _ _ _ _).mono ?_; rintro e w' ⟨rfl, rfl⟩)
    go_ret
    exact ⟨ret_bool F.out.symm, (Below.refl _ _).alloc (Nat.le_refl _) _⟩
end Go.Proofs.YtiplcndacmicoaaDoor
