/- Ratios: the reference's comparison, sums, shares. -/
import Derived.Test.YtlobbphhhdklfaaRatio3
namespace Go.Proofs.Ytlobbphhhdklfaa
open Go.RowKit
set_option linter.unusedVariables false
set_option maxHeartbeats 400000 in
theorem compareS_no1 (n1 d1 n2 d2 : Int) (w : World) (h1' : ratioOk n1 d1 = false) :
    Calls Try.prog 18 #[.agg #[.int .i64 n1, .int .i64 d1], .agg #[.int .i64 n2, .int .i64 d2]] w fun e w' => e = .returned (.int .i64 2) ∧ Below w.heap.size w w' := by
  go_enter Try.func18, Try.ntmps18
  go_wp2_with fail
  refine (validRatio_any n1 d1 _).mono ?_
  rintro e w1 ⟨rfl, hb⟩
  go_wp2
  go_ret
  exact ⟨rfl, (((Below.refl _ _).alloc (Nat.le_refl _) _).alloc (by simp) _).trans (hb.mono (by simp; omega))⟩
set_option maxHeartbeats 400000 in
theorem compareS_no2 (n1 d1 n2 d2 : Int) (w : World) (h1 : ratioOk n1 d1 = true) (h2' : ratioOk n2 d2 = false) :
    Calls Try.prog 18 #[.agg #[.int .i64 n1, .int .i64 d1], .agg #[.int .i64 n2, .int .i64 d2]] w fun e w' => e = .returned (.int .i64 2) ∧ Below w.heap.size w w' := by
  go_enter Try.func18, Try.ntmps18
  go_wp2_with fail
  refine (validRatio_any n1 d1 _).mono ?_
  rintro e w1 ⟨rfl, hb⟩
  have a0_1 : w1.cell? ⟨w.heap.size, 0, none⟩ = some (.int .i64 n1) := bc hb (by first | (simp; done) | go_simp)
  have a1_1 : w1.cell? ⟨w.heap.size, 1, none⟩ = some (.int .i64 d1) := bc hb (by first | (simp; done) | go_simp)
  have al_1 : w.heap.size < w1.heap.size := cell_lt a0_1
  have b0_1 : w1.cell? ⟨w.heap.size + 1, 0, none⟩ = some (.int .i64 n2) := bc hb (by first | (simp; done) | go_simp)
  have b1_1 : w1.cell? ⟨w.heap.size + 1, 1, none⟩ = some (.int .i64 d2) := bc hb (by first | (simp; done) | go_simp)
  have bl_1 : w.heap.size + 1 < w1.heap.size := cell_lt b0_1
  have z1 := below_size hb
  try simp at z1
  go_wp2_with fail
  refine (validRatio_any n2 d2 _).mono ?_
  rintro e w2 ⟨rfl, hb2⟩
  go_wp2
  go_ret
  exact ⟨rfl, ((((Below.refl _ _).alloc (Nat.le_refl _) _).alloc (by simp) _).trans (hb.mono (by simp; omega))).trans (hb2.mono (by omega))⟩
set_option maxHeartbeats 400000 in
theorem compareS_lt (n1 d1 n2 d2 : Int) (w : World) (h1 : ratioOk n1 d1 = true) (h2 : ratioOk n2 d2 = true) (hs : n1*d2<n2*d1) :
    Calls Try.prog 18 #[.agg #[.int .i64 n1, .int .i64 d1], .agg #[.int .i64 n2, .int .i64 d2]] w fun e w' => e = .returned (.int .i64 ((-1))) ∧ Below w.heap.size w w' := by
  obtain ⟨⟨a1, a2⟩, ⟨a3, a4⟩, _⟩ := ratioOk_iff.1 h1
  obtain ⟨⟨b1, b2⟩, ⟨b3, b4⟩, _⟩ := ratioOk_iff.1 h2
  obtain ⟨m1, m2⟩ := mul_bd a1 a2 (y := d2) (by omega) b4
  obtain ⟨m3, m4⟩ := mul_bd b1 b2 (y := d1) (by omega) a4
  have T1 := Lib.hid hs
  clear hs
  go_enter Try.func18, Try.ntmps18
  go_wp2_with fail
  refine (validRatio_any n1 d1 _).mono ?_
  rintro e w1 ⟨rfl, hb⟩
  have a0_1 : w1.cell? ⟨w.heap.size, 0, none⟩ = some (.int .i64 n1) := bc hb (by first | (simp; done) | go_simp)
  have a1_1 : w1.cell? ⟨w.heap.size, 1, none⟩ = some (.int .i64 d1) := bc hb (by first | (simp; done) | go_simp)
  have al_1 : w.heap.size < w1.heap.size := cell_lt a0_1
  have b0_1 : w1.cell? ⟨w.heap.size + 1, 0, none⟩ = some (.int .i64 n2) := bc hb (by first | (simp; done) | go_simp)
  have b1_1 : w1.cell? ⟨w.heap.size + 1, 1, none⟩ = some (.int .i64 d2) := bc hb (by first | (simp; done) | go_simp)
  have bl_1 : w.heap.size + 1 < w1.heap.size := cell_lt b0_1
  have z1 := below_size hb
  try simp at z1
  go_wp2_with fail
  refine (validRatio_any n2 d2 _).mono ?_
  rintro e w2 ⟨rfl, hb2⟩
  have a0_2 : w2.cell? ⟨w.heap.size, 0, none⟩ = some (.int .i64 n1) := bc hb2 (by first | exact a0_1 | exact ca a0_1 | exact ca (ca a0_1) | exact ca (ca (ca a0_1)) | (simp; done) | go_simp)
  have a1_2 : w2.cell? ⟨w.heap.size, 1, none⟩ = some (.int .i64 d1) := bc hb2 (by first | exact a1_1 | exact ca a1_1 | exact ca (ca a1_1) | exact ca (ca (ca a1_1)) | (simp; done) | go_simp)
  have al_2 : w.heap.size < w2.heap.size := cell_lt a0_2
  clear a0_1 a1_1 al_1
  have b0_2 : w2.cell? ⟨w.heap.size + 1, 0, none⟩ = some (.int .i64 n2) := bc hb2 (by first | exact b0_1 | exact ca b0_1 | exact ca (ca b0_1) | exact ca (ca (ca b0_1)) | (simp; done) | go_simp)
  have b1_2 : w2.cell? ⟨w.heap.size + 1, 1, none⟩ = some (.int .i64 d2) := bc hb2 (by first | exact b1_1 | exact ca b1_1 | exact ca (ca b1_1) | exact ca (ca (ca b1_1)) | (simp; done) | go_simp)
  have bl_2 : w.heap.size + 1 < w2.heap.size := cell_lt b0_2
  clear b0_1 b1_1 bl_1
  have z2 := below_size hb2
  try simp at z2
  go_wp2_with fail
  rw [show decide (n2 * d1 < n1 * d2) = false from by have := T1.out; simp; omega]
  refine (toInt_false _).mono ?_
  rintro e w3 ⟨rfl, rfl⟩
  go_wp2_with fail
  rw [show decide (n1 * d2 - n2 * d1 < 0) = true from by have := T1.out; simp; omega]
  refine (toInt_true _).mono ?_
  rintro e w3 ⟨rfl, rfl⟩
  go_wp2
  go_ret
  exact ⟨rfl, (((((Below.refl _ _).alloc (Nat.le_refl _) _).alloc (by simp) _).trans (hb.mono (by simp; omega))).trans (hb2.mono (by omega)))⟩
set_option maxHeartbeats 400000 in
theorem compareS_gt (n1 d1 n2 d2 : Int) (w : World) (h1 : ratioOk n1 d1 = true) (h2 : ratioOk n2 d2 = true) (hs : n2*d1<n1*d2) :
    Calls Try.prog 18 #[.agg #[.int .i64 n1, .int .i64 d1], .agg #[.int .i64 n2, .int .i64 d2]] w fun e w' => e = .returned (.int .i64 (1)) ∧ Below w.heap.size w w' := by
  obtain ⟨⟨a1, a2⟩, ⟨a3, a4⟩, _⟩ := ratioOk_iff.1 h1
  obtain ⟨⟨b1, b2⟩, ⟨b3, b4⟩, _⟩ := ratioOk_iff.1 h2
  obtain ⟨m1, m2⟩ := mul_bd a1 a2 (y := d2) (by omega) b4
  obtain ⟨m3, m4⟩ := mul_bd b1 b2 (y := d1) (by omega) a4
  have T1 := Lib.hid hs
  clear hs
  go_enter Try.func18, Try.ntmps18
  go_wp2_with fail
  refine (validRatio_any n1 d1 _).mono ?_
  rintro e w1 ⟨rfl, hb⟩
  have a0_1 : w1.cell? ⟨w.heap.size, 0, none⟩ = some (.int .i64 n1) := bc hb (by first | (simp; done) | go_simp)
  have a1_1 : w1.cell? ⟨w.heap.size, 1, none⟩ = some (.int .i64 d1) := bc hb (by first | (simp; done) | go_simp)
  have al_1 : w.heap.size < w1.heap.size := cell_lt a0_1
  have b0_1 : w1.cell? ⟨w.heap.size + 1, 0, none⟩ = some (.int .i64 n2) := bc hb (by first | (simp; done) | go_simp)
  have b1_1 : w1.cell? ⟨w.heap.size + 1, 1, none⟩ = some (.int .i64 d2) := bc hb (by first | (simp; done) | go_simp)
  have bl_1 : w.heap.size + 1 < w1.heap.size := cell_lt b0_1
  have z1 := below_size hb
  try simp at z1
  go_wp2_with fail
  refine (validRatio_any n2 d2 _).mono ?_
  rintro e w2 ⟨rfl, hb2⟩
  have a0_2 : w2.cell? ⟨w.heap.size, 0, none⟩ = some (.int .i64 n1) := bc hb2 (by first | exact a0_1 | exact ca a0_1 | exact ca (ca a0_1) | exact ca (ca (ca a0_1)) | (simp; done) | go_simp)
  have a1_2 : w2.cell? ⟨w.heap.size, 1, none⟩ = some (.int .i64 d1) := bc hb2 (by first | exact a1_1 | exact ca a1_1 | exact ca (ca a1_1) | exact ca (ca (ca a1_1)) | (simp; done) | go_simp)
  have al_2 : w.heap.size < w2.heap.size := cell_lt a0_2
  clear a0_1 a1_1 al_1
  have b0_2 : w2.cell? ⟨w.heap.size + 1, 0, none⟩ = some (.int .i64 n2) := bc hb2 (by first | exact b0_1 | exact ca b0_1 | exact ca (ca b0_1) | exact ca (ca (ca b0_1)) | (simp; done) | go_simp)
  have b1_2 : w2.cell? ⟨w.heap.size + 1, 1, none⟩ = some (.int .i64 d2) := bc hb2 (by first | exact b1_1 | exact ca b1_1 | exact ca (ca b1_1) | exact ca (ca (ca b1_1)) | (simp; done) | go_simp)
  have bl_2 : w.heap.size + 1 < w2.heap.size := cell_lt b0_2
  clear b0_1 b1_1 bl_1
  have z2 := below_size hb2
  try simp at z2
  go_wp2_with fail
  rw [show decide (n2 * d1 < n1 * d2) = true from by have := T1.out; simp; omega]
  refine (toInt_true _).mono ?_
  rintro e w3 ⟨rfl, rfl⟩
  go_wp2_with fail
  rw [show decide (n1 * d2 - n2 * d1 < 0) = false from by have := T1.out; simp; omega]
  refine (toInt_false _).mono ?_
  rintro e w3 ⟨rfl, rfl⟩
  go_wp2
  go_ret
  exact ⟨rfl, (((((Below.refl _ _).alloc (Nat.le_refl _) _).alloc (by simp) _).trans (hb.mono (by simp; omega))).trans (hb2.mono (by omega)))⟩
set_option maxHeartbeats 400000 in
theorem compareS_eq (n1 d1 n2 d2 : Int) (w : World) (h1 : ratioOk n1 d1 = true) (h2 : ratioOk n2 d2 = true) (hs : n1*d2=n2*d1) :
    Calls Try.prog 18 #[.agg #[.int .i64 n1, .int .i64 d1], .agg #[.int .i64 n2, .int .i64 d2]] w fun e w' => e = .returned (.int .i64 (0)) ∧ Below w.heap.size w w' := by
  obtain ⟨⟨a1, a2⟩, ⟨a3, a4⟩, _⟩ := ratioOk_iff.1 h1
  obtain ⟨⟨b1, b2⟩, ⟨b3, b4⟩, _⟩ := ratioOk_iff.1 h2
  obtain ⟨m1, m2⟩ := mul_bd a1 a2 (y := d2) (by omega) b4
  obtain ⟨m3, m4⟩ := mul_bd b1 b2 (y := d1) (by omega) a4
  have T1 := Lib.hid hs
  clear hs
  go_enter Try.func18, Try.ntmps18
  go_wp2_with fail
  refine (validRatio_any n1 d1 _).mono ?_
  rintro e w1 ⟨rfl, hb⟩
  have a0_1 : w1.cell? ⟨w.heap.size, 0, none⟩ = some (.int .i64 n1) := bc hb (by first | (simp; done) | go_simp)
  have a1_1 : w1.cell? ⟨w.heap.size, 1, none⟩ = some (.int .i64 d1) := bc hb (by first | (simp; done) | go_simp)
  have al_1 : w.heap.size < w1.heap.size := cell_lt a0_1
  have b0_1 : w1.cell? ⟨w.heap.size + 1, 0, none⟩ = some (.int .i64 n2) := bc hb (by first | (simp; done) | go_simp)
  have b1_1 : w1.cell? ⟨w.heap.size + 1, 1, none⟩ = some (.int .i64 d2) := bc hb (by first | (simp; done) | go_simp)
  have bl_1 : w.heap.size + 1 < w1.heap.size := cell_lt b0_1
  have z1 := below_size hb
  try simp at z1
  go_wp2_with fail
  refine (validRatio_any n2 d2 _).mono ?_
  rintro e w2 ⟨rfl, hb2⟩
  have a0_2 : w2.cell? ⟨w.heap.size, 0, none⟩ = some (.int .i64 n1) := bc hb2 (by first | exact a0_1 | exact ca a0_1 | exact ca (ca a0_1) | exact ca (ca (ca a0_1)) | (simp; done) | go_simp)
  have a1_2 : w2.cell? ⟨w.heap.size, 1, none⟩ = some (.int .i64 d1) := bc hb2 (by first | exact a1_1 | exact ca a1_1 | exact ca (ca a1_1) | exact ca (ca (ca a1_1)) | (simp; done) | go_simp)
  have al_2 : w.heap.size < w2.heap.size := cell_lt a0_2
  clear a0_1 a1_1 al_1
  have b0_2 : w2.cell? ⟨w.heap.size + 1, 0, none⟩ = some (.int .i64 n2) := bc hb2 (by first | exact b0_1 | exact ca b0_1 | exact ca (ca b0_1) | exact ca (ca (ca b0_1)) | (simp; done) | go_simp)
  have b1_2 : w2.cell? ⟨w.heap.size + 1, 1, none⟩ = some (.int .i64 d2) := bc hb2 (by first | exact b1_1 | exact ca b1_1 | exact ca (ca b1_1) | exact ca (ca (ca b1_1)) | (simp; done) | go_simp)
  have bl_2 : w.heap.size + 1 < w2.heap.size := cell_lt b0_2
  clear b0_1 b1_1 bl_1
  have z2 := below_size hb2
  try simp at z2
  go_wp2_with fail
  rw [show decide (n2 * d1 < n1 * d2) = false from by have := T1.out; simp; omega]
  refine (toInt_false _).mono ?_
  rintro e w3 ⟨rfl, rfl⟩
  go_wp2_with fail
  rw [show decide (n1 * d2 - n2 * d1 < 0) = false from by have := T1.out; simp; omega]
  refine (toInt_false _).mono ?_
  rintro e w3 ⟨rfl, rfl⟩
  go_wp2
  go_ret
  exact ⟨rfl, (((((Below.refl _ _).alloc (Nat.le_refl _) _).alloc (by simp) _).trans (hb.mono (by simp; omega))).trans (hb2.mono (by omega)))⟩
theorem compareS_any (n1 d1 n2 d2 : Int) (w : World) :
    Calls Try.prog 18 #[.agg #[.int .i64 n1, .int .i64 d1], .agg #[.int .i64 n2, .int .i64 d2]] w fun e w' => e = .returned (.int .i64 (cmpR n1 d1 n2 d2)) ∧ Below w.heap.size w w' := by
  unfold cmpR cmpI
  by_cases h1 : ratioOk n1 d1 = true
  · rw [if_pos h1]
    by_cases h2 : ratioOk n2 d2 = true
    · rw [if_pos h2]
      by_cases h3 : n1 * d2 < n2 * d1
      · rw [if_pos h3]; exact compareS_lt n1 d1 n2 d2 w h1 h2 h3
      · rw [if_neg h3]
        by_cases h4 : n2 * d1 < n1 * d2
        · rw [if_pos h4]; exact compareS_gt n1 d1 n2 d2 w h1 h2 h4
        · rw [if_neg h4]; exact compareS_eq n1 d1 n2 d2 w h1 h2 (by omega)
    · rw [if_neg h2]; exact compareS_no2 n1 d1 n2 d2 w h1 (by simpa using h2)
  · rw [if_neg h1]; exact compareS_no1 n1 d1 n2 d2 w (by simpa using h1)
end Go.Proofs.Ytlobbphhhdklfaa
