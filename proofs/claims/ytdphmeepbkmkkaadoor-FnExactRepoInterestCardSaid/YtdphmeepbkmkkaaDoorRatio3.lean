/- Ratios: sums, comparison, shares. -/
import Derived.Test.YtdphmeepbkmkkaaDoorRatio2
namespace Go.Proofs.YtdphmeepbkmkkaaDoor
open Go.RowKit
set_option linter.unusedVariables false
/-- the order of two numbers -/
def cmpI (x y : Int) : Int := if x < y then -1 else if y < x then 1 else 0
theorem mul_bd {x y X Y : Int} (h1 : -X ≤ x) (h2 : x ≤ X) (h3 : 0 ≤ y) (h4 : y ≤ Y) : -(X * Y) ≤ x * y ∧ x * y ≤ X * Y := by
  have hX : 0 ≤ X := by omega
  have a := Int.mul_le_mul_of_nonneg_right h2 h3
  have b := Int.mul_le_mul_of_nonneg_left h4 hX
  have c := Int.mul_le_mul_of_nonneg_right h1 h3
  rw [Int.neg_mul] at c
  omega
theorem cmp_any (x y : Int) (w : World) :
    Calls Tryd.prog 73 #[.int .i64 x, .int .i64 y] w fun e w' => e = .returned (.int .i64 (cmpI x y)) ∧ w = w' := by
  unfold cmpI
  by_cases h : x < y
  · rw [if_pos h]
    go_enter Tryd.func73, Tryd.ntmps73
    go_wp2
    go_ret
    exact ⟨rfl, rfl⟩
  · rw [if_neg h]
    by_cases h' : y < x
    · rw [if_pos h']
      go_enter Tryd.func73, Tryd.ntmps73
      go_wp2
      go_ret
      exact ⟨rfl, rfl⟩
    · rw [if_neg h']
      go_enter Tryd.func73, Tryd.ntmps73
      go_wp2
      go_ret
      exact ⟨rfl, rfl⟩
theorem compare_any (n1 d1 n2 d2 : Int) (w : World) (h1 : ratioOk n1 d1 = true) (h2 : ratioOk n2 d2 = true) :
    Calls Tryd.prog 56 #[.agg #[.int .i64 n1, .int .i64 d1], .agg #[.int .i64 n2, .int .i64 d2]] w fun e w' => e = .returned (.int .i64 (cmpI (n1 * d2) (n2 * d1))) ∧ Below w.heap.size w w' := by
  obtain ⟨⟨a1, a2⟩, ⟨a3, a4⟩, _⟩ := ratioOk_iff.1 h1
  obtain ⟨⟨b1, b2⟩, ⟨b3, b4⟩, _⟩ := ratioOk_iff.1 h2
  obtain ⟨m1, m2⟩ := mul_bd a1 a2 (y := d2) (by omega) b4
  obtain ⟨m3, m4⟩ := mul_bd b1 b2 (y := d1) (by omega) a4
  clear h1 h2
  go_enter Tryd.func56, Tryd.ntmps56
  go_wp2_with (go_at_call 73; refine (cmp_any _ _ _).mono ?_; rintro e w' ⟨rfl, rfl⟩)
  go_ret
  exact ⟨rfl, ((Below.refl _ _).alloc (Nat.le_refl _) _).alloc (by simp) _⟩
def cmpR (n1 d1 n2 d2 : Int) : Int := if ratioOk n1 d1 = true then (if ratioOk n2 d2 = true then cmpI (n1 * d2) (n2 * d1) else 2) else 2
set_option maxHeartbeats 400000 in
theorem compareI_any (n1 d1 n2 d2 : Int) (w : World) :
    Calls Tryd.prog 27 #[.agg #[.int .i64 n1, .int .i64 d1], .agg #[.int .i64 n2, .int .i64 d2]] w fun e w' => e = .returned (.int .i64 (cmpR n1 d1 n2 d2)) ∧ Below w.heap.size w w' := by
  unfold cmpR
  by_cases h1 : ratioOk n1 d1 = true
  · rw [if_pos h1]
    by_cases h2 : ratioOk n2 d2 = true
    · rw [if_pos h2]
      go_enter Tryd.func27, Tryd.ntmps27
      go_wp2_with fail
      refine (ratioValid_any n1 d1 _).mono ?_
      rintro e w1 ⟨rfl, hb⟩
      have a0_1 : w1.cell? ⟨w.heap.size, 0, none⟩ = some (.int .i64 n1) := bc hb (by first | (simp; done) | go_simp)
      have a1_1 : w1.cell? ⟨w.heap.size, 1, none⟩ = some (.int .i64 d1) := bc hb (by first | (simp; done) | go_simp)
      have al_1 : w.heap.size < w1.heap.size := cell_lt a0_1
      have b0_1 : w1.cell? ⟨w.heap.size + 1, 0, none⟩ = some (.int .i64 n2) := bc hb (by first | (simp; done) | go_simp)
      have b1_1 : w1.cell? ⟨w.heap.size + 1, 1, none⟩ = some (.int .i64 d2) := bc hb (by first | (simp; done) | go_simp)
      have bl_1 : w.heap.size + 1 < w1.heap.size := cell_lt b0_1
      have z1 := below_size hb
      try simp at z1
      go_wp2_with fail
      refine (ratioValid_any n2 d2 _).mono ?_
      rintro e w2 ⟨rfl, hb2⟩
      have a0_2 : w2.cell? ⟨w.heap.size, 0, none⟩ = some (.int .i64 n1) := bc hb2 (by first | exact a0_1 | exact ca a0_1 | exact ca (ca a0_1) | exact ca (ca (ca a0_1)) | (simp; done) | go_simp)
      have a1_2 : w2.cell? ⟨w.heap.size, 1, none⟩ = some (.int .i64 d1) := bc hb2 (by first | exact a1_1 | exact ca a1_1 | exact ca (ca a1_1) | exact ca (ca (ca a1_1)) | (simp; done) | go_simp)
      have al_2 : w.heap.size < w2.heap.size := cell_lt a0_2
      clear a0_1 a1_1 al_1
      have b0_2 : w2.cell? ⟨w.heap.size + 1, 0, none⟩ = some (.int .i64 n2) := bc hb2 (by first | exact b0_1 | exact ca b0_1 | exact ca (ca b0_1) | exact ca (ca (ca b0_1)) | (simp; done) | go_simp)
      have b1_2 : w2.cell? ⟨w.heap.size + 1, 1, none⟩ = some (.int .i64 d2) := bc hb2 (by first | exact b1_1 | exact ca b1_1 | exact ca (ca b1_1) | exact ca (ca (ca b1_1)) | (simp; done) | go_simp)
      have bl_2 : w.heap.size + 1 < w2.heap.size := cell_lt b0_2
      clear b0_1 b1_1 bl_1
      have z2 := below_size hb2
      try simp at z2
      go_wp2_with fail
      refine (compare_any n1 d1 n2 d2 _ h1 h2).mono ?_
      rintro e w3 ⟨rfl, hb3⟩
      go_wp2
      go_ret
      exact ⟨rfl, (((((Below.refl _ _).alloc (Nat.le_refl _) _).alloc (by simp) _).trans (hb.mono (by simp; omega))).trans (hb2.mono (by omega))).trans (hb3.mono (by omega))⟩
    · rw [if_neg h2]
      have h2' : ratioOk n2 d2 = false := by simpa using h2
      clear h2
      go_enter Tryd.func27, Tryd.ntmps27
      go_wp2_with fail
      refine (ratioValid_any n1 d1 _).mono ?_
      rintro e w1 ⟨rfl, hb⟩
      have a0_1 : w1.cell? ⟨w.heap.size, 0, none⟩ = some (.int .i64 n1) := bc hb (by first | (simp; done) | go_simp)
      have a1_1 : w1.cell? ⟨w.heap.size, 1, none⟩ = some (.int .i64 d1) := bc hb (by first | (simp; done) | go_simp)
      have al_1 : w.heap.size < w1.heap.size := cell_lt a0_1
      have b0_1 : w1.cell? ⟨w.heap.size + 1, 0, none⟩ = some (.int .i64 n2) := bc hb (by first | (simp; done) | go_simp)
      have b1_1 : w1.cell? ⟨w.heap.size + 1, 1, none⟩ = some (.int .i64 d2) := bc hb (by first | (simp; done) | go_simp)
      have bl_1 : w.heap.size + 1 < w1.heap.size := cell_lt b0_1
      have z1 := below_size hb
      try simp at z1
      go_wp2_with fail
      refine (ratioValid_any n2 d2 _).mono ?_
      rintro e w2 ⟨rfl, hb2⟩
      go_wp2
      go_ret
      exact ⟨rfl, ((((Below.refl _ _).alloc (Nat.le_refl _) _).alloc (by simp) _).trans (hb.mono (by simp; omega))).trans (hb2.mono (by omega))⟩
  · rw [if_neg h1]
    have h1' : ratioOk n1 d1 = false := by simpa using h1
    clear h1
    go_enter Tryd.func27, Tryd.ntmps27
    go_wp2_with fail
    refine (ratioValid_any n1 d1 _).mono ?_
    rintro e w1 ⟨rfl, hb⟩
    go_wp2
    go_ret
    exact ⟨rfl, (((Below.refl _ _).alloc (Nat.le_refl _) _).alloc (by simp) _).trans (hb.mono (by simp; omega))⟩
end Go.Proofs.YtdphmeepbkmkkaaDoor
