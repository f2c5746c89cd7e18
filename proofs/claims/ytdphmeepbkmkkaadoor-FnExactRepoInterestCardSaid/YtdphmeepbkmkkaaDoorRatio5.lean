/- Ratios: sums, shares. -/
import Derived.Test.YtdphmeepbkmkkaaDoorRatio4
namespace Go.Proofs.YtdphmeepbkmkkaaDoor
open Go.RowKit
set_option linter.unusedVariables false
/-- what lowest returns -/
def lowRes (n d : Int) : Int × Int × Bool := if ratioOk (lowN n d) (lowD n d) = true then (lowN n d, lowD n d, true) else (0, 0, false)
def ratV (x : Int × Int × Bool) : Value := .tuple #[.agg #[.int .i64 x.1, .int .i64 x.2.1], .bool x.2.2]
theorem lowestI_any (n d : Int) (w : World) (hn : -2000000000000000000 ≤ n) (hn' : n ≤ 2000000000000000000) (hd : 1 ≤ d) (hd' : d ≤ 2000000000000000000) :
    Calls Tryd.prog 50 #[.int .i64 n, .int .i64 d] w fun e w' => e = .returned (.tuple #[.agg #[.int .i64 (lowRes n d).1, .int .i64 (lowRes n d).2.1], .bool (lowRes n d).2.2]) ∧ Below w.heap.size w w' := by
  unfold lowRes
  by_cases h : ratioOk (lowN n d) (lowD n d) = true
  · rw [if_pos h]
    by_cases h0 : 0 ≤ n
    · exact lowestI_yes_any n d w hn hn' hd hd' h h0
    · exact lowestI_yes_neg n d w hn hn' hd hd' h (by unfold side_neg; omega)
  · rw [if_neg h]
    by_cases h0 : 0 ≤ n
    · exact lowestI_no_any n d w hn hn' hd hd' (by simpa using h) h0
    · exact lowestI_no_neg n d w hn hn' hd hd' (by simpa using h) (by unfold side_neg; omega)
set_option maxHeartbeats 400000 in
theorem addRatio_any (n1 d1 n2 d2 : Int) (w : World) (h1 : ratioOk n1 d1 = true) (h2 : ratioOk n2 d2 = true) :
    Calls Tryd.prog 21 #[.agg #[.int .i64 n1, .int .i64 d1], .agg #[.int .i64 n2, .int .i64 d2]] w fun e w' => e = .returned (.tuple #[.agg #[.int .i64 (lowRes (n1 * d2 + n2 * d1) (d1 * d2)).1, .int .i64 (lowRes (n1 * d2 + n2 * d1) (d1 * d2)).2.1], .bool (lowRes (n1 * d2 + n2 * d1) (d1 * d2)).2.2]) ∧ Below w.heap.size w w' := by
  obtain ⟨⟨a1, a2⟩, ⟨a3, a4⟩, _⟩ := ratioOk_iff.1 h1
  obtain ⟨⟨b1, b2⟩, ⟨b3, b4⟩, _⟩ := ratioOk_iff.1 h2
  obtain ⟨m1, m2⟩ := mul_bd a1 a2 (y := d2) (by omega) b4
  obtain ⟨m3, m4⟩ := mul_bd b1 b2 (y := d1) (by omega) a4
  obtain ⟨_, m5⟩ := mul_bd (x := d1) (X := 2000000) (by omega) a4 (y := d2) (by omega) b4
  have m6 : 1 ≤ d1 * d2 := Int.mul_pos (by omega) (by omega)
  go_enter Tryd.func21, Tryd.ntmps21
  go_wp2_with fail
  refine (ratioValid_any n1 d1 _).mono ?_
  rintro e w1 ⟨rfl, hb⟩
  have a0_1 : w1.cell? ⟨w.heap.size, 0, none⟩ = some (.int .i64 n1) := bc hb (by first | (simp; done) | go_simp)
  have a1_1 : w1.cell? ⟨w.heap.size, 1, none⟩ = some (.int .i64 d1) := bc hb (by first | (simp; done) | go_simp)
  have al_1 : w.heap.size < w1.heap.size := cell_lt a0_1
  have b0_1 : w1.cell? ⟨w.heap.size + 1, 0, none⟩ = some (.int .i64 n2) := bc hb (by first | (simp; done) | go_simp)
  have b1_1 : w1.cell? ⟨w.heap.size + 1, 1, none⟩ = some (.int .i64 d2) := bc hb (by first | (simp; done) | go_simp)
  have bl_1 : w.heap.size + 1 < w1.heap.size := cell_lt b0_1
  have c0_1 : w1.cell? ⟨w.heap.size + 1 + 1, 0, none⟩ = some (.int .i64 0) := bc hb (by first | (simp; done) | go_simp)
  have cf0_1 : w1.frozen? ⟨w.heap.size + 1 + 1, 0, none⟩ = false := bf hb (by first | (simp; done) | (simp; omega) | (show w.heap.size + 1 + 1 < _; omega)) (by first | (simp; done) | go_simp)
  have c1_1 : w1.cell? ⟨w.heap.size + 1 + 1, 1, none⟩ = some (.int .i64 0) := bc hb (by first | (simp; done) | go_simp)
  have cf1_1 : w1.frozen? ⟨w.heap.size + 1 + 1, 1, none⟩ = false := bf hb (by first | (simp; done) | (simp; omega) | (show w.heap.size + 1 + 1 < _; omega)) (by first | (simp; done) | go_simp)
  have cl_1 : w.heap.size + 1 + 1 < w1.heap.size := cell_lt c0_1
  have z1 := below_size hb
  try simp at z1
  go_wp2_with fail
  refine (ratioValid_any n2 d2 _).mono ?_
  rintro e w2 ⟨rfl, hb2⟩
  have a0_2 : w2.cell? ⟨w.heap.size, 0, none⟩ = some (.int .i64 n1) := bc hb2 (by first | exact a0_1 | exact ca a0_1 | exact ca (ca a0_1) | exact ca (ca (ca a0_1)) | (simp; done) | go_simp)
  have a1_2 : w2.cell? ⟨w.heap.size, 1, none⟩ = some (.int .i64 d1) := bc hb2 (by first | exact a1_1 | exact ca a1_1 | exact ca (ca a1_1) | exact ca (ca (ca a1_1)) | (simp; done) | go_simp)
  have al_2 : w.heap.size < w2.heap.size := cell_lt a0_2
  clear a0_1 a1_1 al_1
  have b0_2 : w2.cell? ⟨w.heap.size + 1, 0, none⟩ = some (.int .i64 n2) := bc hb2 (by first | exact b0_1 | exact ca b0_1 | exact ca (ca b0_1) | exact ca (ca (ca b0_1)) | (simp; done) | go_simp)
  have b1_2 : w2.cell? ⟨w.heap.size + 1, 1, none⟩ = some (.int .i64 d2) := bc hb2 (by first | exact b1_1 | exact ca b1_1 | exact ca (ca b1_1) | exact ca (ca (ca b1_1)) | (simp; done) | go_simp)
  have bl_2 : w.heap.size + 1 < w2.heap.size := cell_lt b0_2
  clear b0_1 b1_1 bl_1
  have c0_2 : w2.cell? ⟨w.heap.size + 1 + 1, 0, none⟩ = some (.int .i64 0) := bc hb2 (by first | exact c0_1 | exact ca c0_1 | exact ca (ca c0_1) | exact ca (ca (ca c0_1)) | (simp; done) | go_simp)
  have cf0_2 : w2.frozen? ⟨w.heap.size + 1 + 1, 0, none⟩ = false := bf hb2 (by first | (simp; done) | (simp; omega) | (show w.heap.size + 1 + 1 < _; omega)) (by first | exact cf0_1 | exact fa (by show w.heap.size + 1 + 1 < _; omega) cf0_1 | exact fa (by show w.heap.size + 1 + 1 < _; simp; omega) (fa (by show w.heap.size + 1 + 1 < _; omega) cf0_1) | (simp; done) | go_simp)
  have c1_2 : w2.cell? ⟨w.heap.size + 1 + 1, 1, none⟩ = some (.int .i64 0) := bc hb2 (by first | exact c1_1 | exact ca c1_1 | exact ca (ca c1_1) | exact ca (ca (ca c1_1)) | (simp; done) | go_simp)
  have cf1_2 : w2.frozen? ⟨w.heap.size + 1 + 1, 1, none⟩ = false := bf hb2 (by first | (simp; done) | (simp; omega) | (show w.heap.size + 1 + 1 < _; omega)) (by first | exact cf1_1 | exact fa (by show w.heap.size + 1 + 1 < _; omega) cf1_1 | exact fa (by show w.heap.size + 1 + 1 < _; simp; omega) (fa (by show w.heap.size + 1 + 1 < _; omega) cf1_1) | (simp; done) | go_simp)
  have cl_2 : w.heap.size + 1 + 1 < w2.heap.size := cell_lt c0_2
  clear c0_1 cf0_1 c1_1 cf1_1 cl_1
  have z2 := below_size hb2
  try simp at z2
  go_wp2_with fail
  refine (lowestI_any _ _ _ (by omega) (by omega) m6 (by omega)).mono ?_
  rintro e w3 ⟨rfl, hb3⟩
  have a0_3 : w3.cell? ⟨w.heap.size, 0, none⟩ = some (.int .i64 n1) := bc hb3 (by first | exact a0_2 | exact ca a0_2 | exact ca (ca a0_2) | exact ca (ca (ca a0_2)) | (simp; done) | go_simp)
  have a1_3 : w3.cell? ⟨w.heap.size, 1, none⟩ = some (.int .i64 d1) := bc hb3 (by first | exact a1_2 | exact ca a1_2 | exact ca (ca a1_2) | exact ca (ca (ca a1_2)) | (simp; done) | go_simp)
  have al_3 : w.heap.size < w3.heap.size := cell_lt a0_3
  clear a0_2 a1_2 al_2
  have b0_3 : w3.cell? ⟨w.heap.size + 1, 0, none⟩ = some (.int .i64 n2) := bc hb3 (by first | exact b0_2 | exact ca b0_2 | exact ca (ca b0_2) | exact ca (ca (ca b0_2)) | (simp; done) | go_simp)
  have b1_3 : w3.cell? ⟨w.heap.size + 1, 1, none⟩ = some (.int .i64 d2) := bc hb3 (by first | exact b1_2 | exact ca b1_2 | exact ca (ca b1_2) | exact ca (ca (ca b1_2)) | (simp; done) | go_simp)
  have bl_3 : w.heap.size + 1 < w3.heap.size := cell_lt b0_3
  clear b0_2 b1_2 bl_2
  have c0_3 : w3.cell? ⟨w.heap.size + 1 + 1, 0, none⟩ = some (.int .i64 0) := bc hb3 (by first | exact c0_2 | exact ca c0_2 | exact ca (ca c0_2) | exact ca (ca (ca c0_2)) | (simp; done) | go_simp)
  have cf0_3 : w3.frozen? ⟨w.heap.size + 1 + 1, 0, none⟩ = false := bf hb3 (by first | (simp; done) | (simp; omega) | (show w.heap.size + 1 + 1 < _; omega)) (by first | exact cf0_2 | exact fa (by show w.heap.size + 1 + 1 < _; omega) cf0_2 | exact fa (by show w.heap.size + 1 + 1 < _; simp; omega) (fa (by show w.heap.size + 1 + 1 < _; omega) cf0_2) | (simp; done) | go_simp)
  have c1_3 : w3.cell? ⟨w.heap.size + 1 + 1, 1, none⟩ = some (.int .i64 0) := bc hb3 (by first | exact c1_2 | exact ca c1_2 | exact ca (ca c1_2) | exact ca (ca (ca c1_2)) | (simp; done) | go_simp)
  have cf1_3 : w3.frozen? ⟨w.heap.size + 1 + 1, 1, none⟩ = false := bf hb3 (by first | (simp; done) | (simp; omega) | (show w.heap.size + 1 + 1 < _; omega)) (by first | exact cf1_2 | exact fa (by show w.heap.size + 1 + 1 < _; omega) cf1_2 | exact fa (by show w.heap.size + 1 + 1 < _; simp; omega) (fa (by show w.heap.size + 1 + 1 < _; omega) cf1_2) | (simp; done) | go_simp)
  have cl_3 : w.heap.size + 1 + 1 < w3.heap.size := cell_lt c0_3
  clear c0_2 cf0_2 c1_2 cf1_2 cl_2
  have z3 := below_size hb3
  try simp at z3
  go_wp2
  generalize lowRes (n1 * d2 + n2 * d1) (d1 * d2) = r
  refine bodyPost_ret (v := .tuple #[.agg #[.int .i64 r.1, .int .i64 r.2.1], .bool r.2.2]) (by simp [results, Tryd.results21, go_sem, *]) rfl ⟨rfl, ?_⟩
  have k0 : Below w.heap.size w w3 := (((((((Below.refl _ _).alloc (Nat.le_refl _) _).alloc (by simp) _).alloc (by simp; omega) _).trans (hb.mono (by simp; omega))).trans (hb2.mono (by omega))).trans (hb3.mono (by omega)))
  exact (k0.setCell (by simp; omega) _).setCell (by simp; omega) _
end Go.Proofs.YtdphmeepbkmkkaaDoor
