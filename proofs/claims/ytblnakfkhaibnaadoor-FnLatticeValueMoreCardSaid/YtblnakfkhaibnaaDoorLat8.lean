/- Lattices: what the right to call is worth. -/
import Derived.Test.YtblnakfkhaibnaaDoorLat7
namespace Go.Proofs.YtblnakfkhaibnaaDoor
open Go.RowKit
set_option linter.unusedVariables false
theorem mx0_max (x : Int) : (if x < 0 then (0 : Int) else x) = mx0 x := rfl
theorem mx0_max' (x : Int) : (if (0 : Int) < x then x else 0) = mx0 x := by unfold mx0; split <;> split <;> omega
theorem cwB_not {s r p c k : Int} (h : cwB s r p c k = false) : lvB s r p c 0 = false ∨ (lvB s r p c 0 = true ∧ lvB s r p c k = false) ∨ (lvB s r p c 0 = true ∧ lvB s r p c k = true ∧ (k == 0) = true) := by
  cases h0 : lvB s r p c 0
  · exact .inl rfl
  cases h1 : lvB s r p c k
  · exact .inr (.inl ⟨rfl, rfl⟩)
  · refine .inr (.inr ⟨rfl, rfl, ?_⟩)
    by_cases q : k = 0
    · simp [q]
    · rw [cwB_lv.2 ⟨h0, h1, q⟩] at h; cases h
set_option maxHeartbeats 2000000 in
theorem callWorthI_any (s r p c k : Int) (w : World) :
    Calls Tryd.prog 14 #[.agg #[.int .i64 s, .int .i64 r, .int .i64 p], .int .i64 c, .int .i64 k] w (RP (cwL s r p c k) (cwH s r p c k) w) := by
  have HV := Lib.hid (fun W => latValueI0_any s r p c 0 W)
  have HW := Lib.hid (fun W => latValueI0_any s r p c k W)
  unfold LvP at HV HW
  cases h : cwB s r p c k
  · obtain ⟨e1, e2⟩ := cw_no h
    rw [e1, e2]
    rcases cwB_not h with q0 | ⟨q0, q1⟩ | ⟨q0, q1, q2⟩
    · simp only [q0] at HV
      (try simp only [q1] at HW)
      (try have q3 : k = 0 := by simpa using q2)
      (try subst q3)
      clear h e1 e2
      generalize lvL s r p c 0 = X at *
      generalize lvH s r p c 0 = Y at *
      (try generalize lvL s r p c k = X1 at *)
      (try generalize lvH s r p c k = Y1 at *)
      (try generalize lvB s r p c k = B1 at *)
      go_enter Tryd.func14, Tryd.ntmps14
      have HB := Lib.hid (Below.refl w.heap.size w)
      go_wp2_with fail
      refine (HV.out _).mono ?_
      rintro e w1 ⟨rfl, hb⟩
      have b0_1 : w1.cell? ⟨w.heap.size, 0, none⟩ = some (.int .i64 s) := bc hb (by first | (simp; done) | go_simp)
      have b1_1 : w1.cell? ⟨w.heap.size, 1, none⟩ = some (.int .i64 r) := bc hb (by first | (simp; done) | go_simp)
      have b2_1 : w1.cell? ⟨w.heap.size, 2, none⟩ = some (.int .i64 p) := bc hb (by first | (simp; done) | go_simp)
      have bl_1 : w.heap.size < w1.heap.size := cell_lt b0_1
      have q0_1 : w1.cell? ⟨w.heap.size + 1, 0, none⟩ = some (.int .i64 0) := bc hb (by first | (simp; done) | go_simp)
      have qf0_1 : w1.frozen? ⟨w.heap.size + 1, 0, none⟩ = false := bf hb (by first | (simp; done) | (simp; omega) | (show w.heap.size + 1 < _; omega)) (by first | (simp; done) | go_simp)
      have q1_1 : w1.cell? ⟨w.heap.size + 1, 1, none⟩ = some (.int .i64 0) := bc hb (by first | (simp; done) | go_simp)
      have qf1_1 : w1.frozen? ⟨w.heap.size + 1, 1, none⟩ = false := bf hb (by first | (simp; done) | (simp; omega) | (show w.heap.size + 1 < _; omega)) (by first | (simp; done) | go_simp)
      have ql_1 : w.heap.size + 1 < w1.heap.size := cell_lt q0_1
      have hszw1 := below_size hb
      try simp at hszw1
      have HBq : Below w.heap.size w w1 := Below.trans (by repeat (first | exact Below.refl _ _ | exact HB.out | refine Below.drew ?_ | refine bel_drewN _ ?_ | refine Below.alloc ?_ (by first | omega | (simp; done) | (simp; omega)) _ | refine Below.setCell ?_ (by first | (show _ ≤ _; omega) | (simp; done) | (simp; omega)) _)) (hb.mono (by first | omega | (simp; done) | (simp; omega)))
      have HB := Lib.hid HBq
      clear HBq hb
      go_wp2_with fail
      refine (HW.out _).mono ?_
      rintro e w2 ⟨rfl, hb⟩
      have b0_2 : w2.cell? ⟨w.heap.size, 0, none⟩ = some (.int .i64 s) := bc hb (by first | exact b0_1 | exact ca b0_1 | exact ca (ca b0_1) | exact ca (ca (ca b0_1)) | (simp; done) | go_simp)
      have b1_2 : w2.cell? ⟨w.heap.size, 1, none⟩ = some (.int .i64 r) := bc hb (by first | exact b1_1 | exact ca b1_1 | exact ca (ca b1_1) | exact ca (ca (ca b1_1)) | (simp; done) | go_simp)
      have b2_2 : w2.cell? ⟨w.heap.size, 2, none⟩ = some (.int .i64 p) := bc hb (by first | exact b2_1 | exact ca b2_1 | exact ca (ca b2_1) | exact ca (ca (ca b2_1)) | (simp; done) | go_simp)
      have bl_2 : w.heap.size < w2.heap.size := cell_lt b0_2
      clear b0_1 b1_1 b2_1 bl_1
      have q0_2 : w2.cell? ⟨w.heap.size + 1, 0, none⟩ = some (.int .i64 0) := bc hb (by first | exact q0_1 | exact ca q0_1 | exact ca (ca q0_1) | exact ca (ca (ca q0_1)) | (simp; done) | go_simp)
      have qf0_2 : w2.frozen? ⟨w.heap.size + 1, 0, none⟩ = false := bf hb (by first | (simp; done) | (simp; omega) | (show w.heap.size + 1 < _; omega)) (by first | exact qf0_1 | exact fa (by show w.heap.size + 1 < _; omega) qf0_1 | exact fa (by show w.heap.size + 1 < _; simp; omega) (fa (by show w.heap.size + 1 < _; omega) qf0_1) | (simp; done) | go_simp)
      have q1_2 : w2.cell? ⟨w.heap.size + 1, 1, none⟩ = some (.int .i64 0) := bc hb (by first | exact q1_1 | exact ca q1_1 | exact ca (ca q1_1) | exact ca (ca (ca q1_1)) | (simp; done) | go_simp)
      have qf1_2 : w2.frozen? ⟨w.heap.size + 1, 1, none⟩ = false := bf hb (by first | (simp; done) | (simp; omega) | (show w.heap.size + 1 < _; omega)) (by first | exact qf1_1 | exact fa (by show w.heap.size + 1 < _; omega) qf1_1 | exact fa (by show w.heap.size + 1 < _; simp; omega) (fa (by show w.heap.size + 1 < _; omega) qf1_1) | (simp; done) | go_simp)
      have ql_2 : w.heap.size + 1 < w2.heap.size := cell_lt q0_2
      clear q0_1 qf0_1 q1_1 qf1_1 ql_1
      have hszw2 := below_size hb
      try simp at hszw2
      have HBq : Below w.heap.size w w2 := Below.trans (by repeat (first | exact Below.refl _ _ | exact HB.out | refine Below.drew ?_ | refine bel_drewN _ ?_ | refine Below.alloc ?_ (by first | omega | (simp; done) | (simp; omega)) _ | refine Below.setCell ?_ (by first | (show _ ≤ _; omega) | (simp; done) | (simp; omega)) _)) (hb.mono (by first | omega | (simp; done) | (simp; omega)))
      have HB := Lib.hid HBq
      clear HBq hb
      go_wp2
      refine bodyPost_ret (res2 (b := w.heap.size + 1) Tryd.results14 (by rfl) ⟨by first | (exact sc_far (by simp) (sc_same (by first | assumption | (exact ca (by assumption)) | (exact ca (ca (by assumption))) | (exact ca (ca (ca (by assumption))))))) | (exact ca (sc_far (by simp) (sc_same (by first | assumption | (exact ca (by assumption)) | (exact ca (ca (by assumption))) | (exact ca (ca (ca (by assumption)))))))) | (exact ca (ca (sc_far (by simp) (sc_same (by first | assumption | (exact ca (by assumption)) | (exact ca (ca (by assumption))) | (exact ca (ca (ca (by assumption))))))))) | (exact ca (ca (ca (sc_far (by simp) (sc_same (by first | assumption | (exact ca (by assumption)) | (exact ca (ca (by assumption))) | (exact ca (ca (ca (by assumption)))))))))), by first | (exact sc_same (sc_far (by simp) (by first | assumption | (exact ca (by assumption)) | (exact ca (ca (by assumption))) | (exact ca (ca (ca (by assumption))))))) | (exact ca (sc_same (sc_far (by simp) (by first | assumption | (exact ca (by assumption)) | (exact ca (ca (by assumption))) | (exact ca (ca (ca (by assumption)))))))) | (exact ca (ca (sc_same (sc_far (by simp) (by first | assumption | (exact ca (by assumption)) | (exact ca (ca (by assumption))) | (exact ca (ca (ca (by assumption))))))))) | (exact ca (ca (ca (sc_same (sc_far (by simp) (by first | assumption | (exact ca (by assumption)) | (exact ca (ca (by assumption))) | (exact ca (ca (ca (by assumption))))))))))⟩) rfl ⟨rfl, ?_⟩
      repeat (first | (with_reducible exact HB.out) | (with_reducible refine bel_set ?_ (by omega)) | (with_reducible refine Below.alloc ?_ (by have := HB.out.size; first | omega | (simp; omega)) _))
    · simp only [q0] at HV
      (try simp only [q1] at HW)
      (try have q3 : k = 0 := by simpa using q2)
      (try subst q3)
      clear h e1 e2
      generalize lvL s r p c 0 = X at *
      generalize lvH s r p c 0 = Y at *
      (try generalize lvL s r p c k = X1 at *)
      (try generalize lvH s r p c k = Y1 at *)
      (try generalize lvB s r p c k = B1 at *)
      go_enter Tryd.func14, Tryd.ntmps14
      have HB := Lib.hid (Below.refl w.heap.size w)
      go_wp2_with fail
      refine (HV.out _).mono ?_
      rintro e w1 ⟨rfl, hb⟩
      have b0_1 : w1.cell? ⟨w.heap.size, 0, none⟩ = some (.int .i64 s) := bc hb (by first | (simp; done) | go_simp)
      have b1_1 : w1.cell? ⟨w.heap.size, 1, none⟩ = some (.int .i64 r) := bc hb (by first | (simp; done) | go_simp)
      have b2_1 : w1.cell? ⟨w.heap.size, 2, none⟩ = some (.int .i64 p) := bc hb (by first | (simp; done) | go_simp)
      have bl_1 : w.heap.size < w1.heap.size := cell_lt b0_1
      have q0_1 : w1.cell? ⟨w.heap.size + 1, 0, none⟩ = some (.int .i64 0) := bc hb (by first | (simp; done) | go_simp)
      have qf0_1 : w1.frozen? ⟨w.heap.size + 1, 0, none⟩ = false := bf hb (by first | (simp; done) | (simp; omega) | (show w.heap.size + 1 < _; omega)) (by first | (simp; done) | go_simp)
      have q1_1 : w1.cell? ⟨w.heap.size + 1, 1, none⟩ = some (.int .i64 0) := bc hb (by first | (simp; done) | go_simp)
      have qf1_1 : w1.frozen? ⟨w.heap.size + 1, 1, none⟩ = false := bf hb (by first | (simp; done) | (simp; omega) | (show w.heap.size + 1 < _; omega)) (by first | (simp; done) | go_simp)
      have ql_1 : w.heap.size + 1 < w1.heap.size := cell_lt q0_1
      have hszw1 := below_size hb
      try simp at hszw1
      have HBq : Below w.heap.size w w1 := Below.trans (by repeat (first | exact Below.refl _ _ | exact HB.out | refine Below.drew ?_ | refine bel_drewN _ ?_ | refine Below.alloc ?_ (by first | omega | (simp; done) | (simp; omega)) _ | refine Below.setCell ?_ (by first | (show _ ≤ _; omega) | (simp; done) | (simp; omega)) _)) (hb.mono (by first | omega | (simp; done) | (simp; omega)))
      have HB := Lib.hid HBq
      clear HBq hb
      go_wp2_with fail
      refine (HW.out _).mono ?_
      rintro e w2 ⟨rfl, hb⟩
      have b0_2 : w2.cell? ⟨w.heap.size, 0, none⟩ = some (.int .i64 s) := bc hb (by first | exact b0_1 | exact ca b0_1 | exact ca (ca b0_1) | exact ca (ca (ca b0_1)) | (simp; done) | go_simp)
      have b1_2 : w2.cell? ⟨w.heap.size, 1, none⟩ = some (.int .i64 r) := bc hb (by first | exact b1_1 | exact ca b1_1 | exact ca (ca b1_1) | exact ca (ca (ca b1_1)) | (simp; done) | go_simp)
      have b2_2 : w2.cell? ⟨w.heap.size, 2, none⟩ = some (.int .i64 p) := bc hb (by first | exact b2_1 | exact ca b2_1 | exact ca (ca b2_1) | exact ca (ca (ca b2_1)) | (simp; done) | go_simp)
      have bl_2 : w.heap.size < w2.heap.size := cell_lt b0_2
      clear b0_1 b1_1 b2_1 bl_1
      have q0_2 : w2.cell? ⟨w.heap.size + 1, 0, none⟩ = some (.int .i64 0) := bc hb (by first | exact q0_1 | exact ca q0_1 | exact ca (ca q0_1) | exact ca (ca (ca q0_1)) | (simp; done) | go_simp)
      have qf0_2 : w2.frozen? ⟨w.heap.size + 1, 0, none⟩ = false := bf hb (by first | (simp; done) | (simp; omega) | (show w.heap.size + 1 < _; omega)) (by first | exact qf0_1 | exact fa (by show w.heap.size + 1 < _; omega) qf0_1 | exact fa (by show w.heap.size + 1 < _; simp; omega) (fa (by show w.heap.size + 1 < _; omega) qf0_1) | (simp; done) | go_simp)
      have q1_2 : w2.cell? ⟨w.heap.size + 1, 1, none⟩ = some (.int .i64 0) := bc hb (by first | exact q1_1 | exact ca q1_1 | exact ca (ca q1_1) | exact ca (ca (ca q1_1)) | (simp; done) | go_simp)
      have qf1_2 : w2.frozen? ⟨w.heap.size + 1, 1, none⟩ = false := bf hb (by first | (simp; done) | (simp; omega) | (show w.heap.size + 1 < _; omega)) (by first | exact qf1_1 | exact fa (by show w.heap.size + 1 < _; omega) qf1_1 | exact fa (by show w.heap.size + 1 < _; simp; omega) (fa (by show w.heap.size + 1 < _; omega) qf1_1) | (simp; done) | go_simp)
      have ql_2 : w.heap.size + 1 < w2.heap.size := cell_lt q0_2
      clear q0_1 qf0_1 q1_1 qf1_1 ql_1
      have hszw2 := below_size hb
      try simp at hszw2
      have HBq : Below w.heap.size w w2 := Below.trans (by repeat (first | exact Below.refl _ _ | exact HB.out | refine Below.drew ?_ | refine bel_drewN _ ?_ | refine Below.alloc ?_ (by first | omega | (simp; done) | (simp; omega)) _ | refine Below.setCell ?_ (by first | (show _ ≤ _; omega) | (simp; done) | (simp; omega)) _)) (hb.mono (by first | omega | (simp; done) | (simp; omega)))
      have HB := Lib.hid HBq
      clear HBq hb
      go_wp2
      refine bodyPost_ret (res2 (b := w.heap.size + 1) Tryd.results14 (by rfl) ⟨by first | (exact sc_far (by simp) (sc_same (by first | assumption | (exact ca (by assumption)) | (exact ca (ca (by assumption))) | (exact ca (ca (ca (by assumption))))))) | (exact ca (sc_far (by simp) (sc_same (by first | assumption | (exact ca (by assumption)) | (exact ca (ca (by assumption))) | (exact ca (ca (ca (by assumption)))))))) | (exact ca (ca (sc_far (by simp) (sc_same (by first | assumption | (exact ca (by assumption)) | (exact ca (ca (by assumption))) | (exact ca (ca (ca (by assumption))))))))) | (exact ca (ca (ca (sc_far (by simp) (sc_same (by first | assumption | (exact ca (by assumption)) | (exact ca (ca (by assumption))) | (exact ca (ca (ca (by assumption)))))))))), by first | (exact sc_same (sc_far (by simp) (by first | assumption | (exact ca (by assumption)) | (exact ca (ca (by assumption))) | (exact ca (ca (ca (by assumption))))))) | (exact ca (sc_same (sc_far (by simp) (by first | assumption | (exact ca (by assumption)) | (exact ca (ca (by assumption))) | (exact ca (ca (ca (by assumption)))))))) | (exact ca (ca (sc_same (sc_far (by simp) (by first | assumption | (exact ca (by assumption)) | (exact ca (ca (by assumption))) | (exact ca (ca (ca (by assumption))))))))) | (exact ca (ca (ca (sc_same (sc_far (by simp) (by first | assumption | (exact ca (by assumption)) | (exact ca (ca (by assumption))) | (exact ca (ca (ca (by assumption))))))))))⟩) rfl ⟨rfl, ?_⟩
      repeat (first | (with_reducible exact HB.out) | (with_reducible refine bel_set ?_ (by omega)) | (with_reducible refine Below.alloc ?_ (by have := HB.out.size; first | omega | (simp; omega)) _))
    · simp only [q0] at HV
      (try simp only [q1] at HW)
      (try have q3 : k = 0 := by simpa using q2)
      (try subst q3)
      clear h e1 e2
      generalize lvL s r p c 0 = X at *
      generalize lvH s r p c 0 = Y at *
      (try generalize lvL s r p c k = X1 at *)
      (try generalize lvH s r p c k = Y1 at *)
      (try generalize lvB s r p c k = B1 at *)
      go_enter Tryd.func14, Tryd.ntmps14
      have HB := Lib.hid (Below.refl w.heap.size w)
      go_wp2_with fail
      refine (HV.out _).mono ?_
      rintro e w1 ⟨rfl, hb⟩
      have b0_1 : w1.cell? ⟨w.heap.size, 0, none⟩ = some (.int .i64 s) := bc hb (by first | (simp; done) | go_simp)
      have b1_1 : w1.cell? ⟨w.heap.size, 1, none⟩ = some (.int .i64 r) := bc hb (by first | (simp; done) | go_simp)
      have b2_1 : w1.cell? ⟨w.heap.size, 2, none⟩ = some (.int .i64 p) := bc hb (by first | (simp; done) | go_simp)
      have bl_1 : w.heap.size < w1.heap.size := cell_lt b0_1
      have q0_1 : w1.cell? ⟨w.heap.size + 1, 0, none⟩ = some (.int .i64 0) := bc hb (by first | (simp; done) | go_simp)
      have qf0_1 : w1.frozen? ⟨w.heap.size + 1, 0, none⟩ = false := bf hb (by first | (simp; done) | (simp; omega) | (show w.heap.size + 1 < _; omega)) (by first | (simp; done) | go_simp)
      have q1_1 : w1.cell? ⟨w.heap.size + 1, 1, none⟩ = some (.int .i64 0) := bc hb (by first | (simp; done) | go_simp)
      have qf1_1 : w1.frozen? ⟨w.heap.size + 1, 1, none⟩ = false := bf hb (by first | (simp; done) | (simp; omega) | (show w.heap.size + 1 < _; omega)) (by first | (simp; done) | go_simp)
      have ql_1 : w.heap.size + 1 < w1.heap.size := cell_lt q0_1
      have hszw1 := below_size hb
      try simp at hszw1
      have HBq : Below w.heap.size w w1 := Below.trans (by repeat (first | exact Below.refl _ _ | exact HB.out | refine Below.drew ?_ | refine bel_drewN _ ?_ | refine Below.alloc ?_ (by first | omega | (simp; done) | (simp; omega)) _ | refine Below.setCell ?_ (by first | (show _ ≤ _; omega) | (simp; done) | (simp; omega)) _)) (hb.mono (by first | omega | (simp; done) | (simp; omega)))
      have HB := Lib.hid HBq
      clear HBq hb
      go_wp2_with fail
      refine (HW.out _).mono ?_
      rintro e w2 ⟨rfl, hb⟩
      have b0_2 : w2.cell? ⟨w.heap.size, 0, none⟩ = some (.int .i64 s) := bc hb (by first | exact b0_1 | exact ca b0_1 | exact ca (ca b0_1) | exact ca (ca (ca b0_1)) | (simp; done) | go_simp)
      have b1_2 : w2.cell? ⟨w.heap.size, 1, none⟩ = some (.int .i64 r) := bc hb (by first | exact b1_1 | exact ca b1_1 | exact ca (ca b1_1) | exact ca (ca (ca b1_1)) | (simp; done) | go_simp)
      have b2_2 : w2.cell? ⟨w.heap.size, 2, none⟩ = some (.int .i64 p) := bc hb (by first | exact b2_1 | exact ca b2_1 | exact ca (ca b2_1) | exact ca (ca (ca b2_1)) | (simp; done) | go_simp)
      have bl_2 : w.heap.size < w2.heap.size := cell_lt b0_2
      clear b0_1 b1_1 b2_1 bl_1
      have q0_2 : w2.cell? ⟨w.heap.size + 1, 0, none⟩ = some (.int .i64 0) := bc hb (by first | exact q0_1 | exact ca q0_1 | exact ca (ca q0_1) | exact ca (ca (ca q0_1)) | (simp; done) | go_simp)
      have qf0_2 : w2.frozen? ⟨w.heap.size + 1, 0, none⟩ = false := bf hb (by first | (simp; done) | (simp; omega) | (show w.heap.size + 1 < _; omega)) (by first | exact qf0_1 | exact fa (by show w.heap.size + 1 < _; omega) qf0_1 | exact fa (by show w.heap.size + 1 < _; simp; omega) (fa (by show w.heap.size + 1 < _; omega) qf0_1) | (simp; done) | go_simp)
      have q1_2 : w2.cell? ⟨w.heap.size + 1, 1, none⟩ = some (.int .i64 0) := bc hb (by first | exact q1_1 | exact ca q1_1 | exact ca (ca q1_1) | exact ca (ca (ca q1_1)) | (simp; done) | go_simp)
      have qf1_2 : w2.frozen? ⟨w.heap.size + 1, 1, none⟩ = false := bf hb (by first | (simp; done) | (simp; omega) | (show w.heap.size + 1 < _; omega)) (by first | exact qf1_1 | exact fa (by show w.heap.size + 1 < _; omega) qf1_1 | exact fa (by show w.heap.size + 1 < _; simp; omega) (fa (by show w.heap.size + 1 < _; omega) qf1_1) | (simp; done) | go_simp)
      have ql_2 : w.heap.size + 1 < w2.heap.size := cell_lt q0_2
      clear q0_1 qf0_1 q1_1 qf1_1 ql_1
      have hszw2 := below_size hb
      try simp at hszw2
      have HBq : Below w.heap.size w w2 := Below.trans (by repeat (first | exact Below.refl _ _ | exact HB.out | refine Below.drew ?_ | refine bel_drewN _ ?_ | refine Below.alloc ?_ (by first | omega | (simp; done) | (simp; omega)) _ | refine Below.setCell ?_ (by first | (show _ ≤ _; omega) | (simp; done) | (simp; omega)) _)) (hb.mono (by first | omega | (simp; done) | (simp; omega)))
      have HB := Lib.hid HBq
      clear HBq hb
      go_wp2
      refine bodyPost_ret (res2 (b := w.heap.size + 1) Tryd.results14 (by rfl) ⟨by first | (exact sc_far (by simp) (sc_same (by first | assumption | (exact ca (by assumption)) | (exact ca (ca (by assumption))) | (exact ca (ca (ca (by assumption))))))) | (exact ca (sc_far (by simp) (sc_same (by first | assumption | (exact ca (by assumption)) | (exact ca (ca (by assumption))) | (exact ca (ca (ca (by assumption)))))))) | (exact ca (ca (sc_far (by simp) (sc_same (by first | assumption | (exact ca (by assumption)) | (exact ca (ca (by assumption))) | (exact ca (ca (ca (by assumption))))))))) | (exact ca (ca (ca (sc_far (by simp) (sc_same (by first | assumption | (exact ca (by assumption)) | (exact ca (ca (by assumption))) | (exact ca (ca (ca (by assumption)))))))))), by first | (exact sc_same (sc_far (by simp) (by first | assumption | (exact ca (by assumption)) | (exact ca (ca (by assumption))) | (exact ca (ca (ca (by assumption))))))) | (exact ca (sc_same (sc_far (by simp) (by first | assumption | (exact ca (by assumption)) | (exact ca (ca (by assumption))) | (exact ca (ca (ca (by assumption)))))))) | (exact ca (ca (sc_same (sc_far (by simp) (by first | assumption | (exact ca (by assumption)) | (exact ca (ca (by assumption))) | (exact ca (ca (ca (by assumption))))))))) | (exact ca (ca (ca (sc_same (sc_far (by simp) (by first | assumption | (exact ca (by assumption)) | (exact ca (ca (by assumption))) | (exact ca (ca (ca (by assumption))))))))))⟩) rfl ⟨rfl, ?_⟩
      repeat (first | (with_reducible exact HB.out) | (with_reducible refine bel_set ?_ (by omega)) | (with_reducible refine Below.alloc ?_ (by have := HB.out.size; first | omega | (simp; omega)) _))
  · obtain ⟨e1, e2⟩ := cw_yes h
    obtain ⟨q0, q1, q2⟩ := cwB_lv.1 h
    have q3 : (k == 0) = false := by simp [q2]
    rw [e1, e2]
    obtain ⟨a0, a1, a2⟩ := lv_bd s r p c 0
    obtain ⟨b0, b1, b2⟩ := lv_bd s r p c k
    simp only [q0] at HV
    simp only [q1] at HW
    clear h e1 e2
    generalize lvL s r p c 0 = X at *
    generalize lvH s r p c 0 = Y at *
    generalize lvL s r p c k = X1 at *
    generalize lvH s r p c k = Y1 at *
    have HA : Hid (∀ W : World, Calls Tryd.prog 21 #[.agg #[.int .i64 X, .int .i64 Y], .agg #[.int .i64 X1, .int .i64 Y1]] W (RP (X - Y1) (Y - X1) W)) := Lib.hid fun W => apart_any _ _ _ _ W (by omega) (by omega) (by omega) (by omega)
    unfold RP at HA
    clear a0 a1 a2 b0 b1 b2
    have hm := mx0_max (X - Y1)
    have hm' := mx0_max' (X - Y1)
    generalize X - Y1 = U at *
    generalize Y - X1 = V at *
    generalize hM : mx0 U = M at *
    clear hM
    go_enter Tryd.func14, Tryd.ntmps14
    have HB := Lib.hid (Below.refl w.heap.size w)
    go_wp2_with fail
    refine (HV.out _).mono ?_
    rintro e w1 ⟨rfl, hb⟩
    have b0_1 : w1.cell? ⟨w.heap.size, 0, none⟩ = some (.int .i64 s) := bc hb (by first | (simp; done) | go_simp)
    have b1_1 : w1.cell? ⟨w.heap.size, 1, none⟩ = some (.int .i64 r) := bc hb (by first | (simp; done) | go_simp)
    have b2_1 : w1.cell? ⟨w.heap.size, 2, none⟩ = some (.int .i64 p) := bc hb (by first | (simp; done) | go_simp)
    have bl_1 : w.heap.size < w1.heap.size := cell_lt b0_1
    have q0_1 : w1.cell? ⟨w.heap.size + 1, 0, none⟩ = some (.int .i64 0) := bc hb (by first | (simp; done) | go_simp)
    have qf0_1 : w1.frozen? ⟨w.heap.size + 1, 0, none⟩ = false := bf hb (by first | (simp; done) | (simp; omega) | (show w.heap.size + 1 < _; omega)) (by first | (simp; done) | go_simp)
    have q1_1 : w1.cell? ⟨w.heap.size + 1, 1, none⟩ = some (.int .i64 0) := bc hb (by first | (simp; done) | go_simp)
    have qf1_1 : w1.frozen? ⟨w.heap.size + 1, 1, none⟩ = false := bf hb (by first | (simp; done) | (simp; omega) | (show w.heap.size + 1 < _; omega)) (by first | (simp; done) | go_simp)
    have ql_1 : w.heap.size + 1 < w1.heap.size := cell_lt q0_1
    have hszw1 := below_size hb
    try simp at hszw1
    have HBq : Below w.heap.size w w1 := Below.trans (by repeat (first | exact Below.refl _ _ | exact HB.out | refine Below.drew ?_ | refine bel_drewN _ ?_ | refine Below.alloc ?_ (by first | omega | (simp; done) | (simp; omega)) _ | refine Below.setCell ?_ (by first | (show _ ≤ _; omega) | (simp; done) | (simp; omega)) _)) (hb.mono (by first | omega | (simp; done) | (simp; omega)))
    have HB := Lib.hid HBq
    clear HBq hb
    go_wp2_with fail
    refine (HW.out _).mono ?_
    rintro e w2 ⟨rfl, hb⟩
    have b0_2 : w2.cell? ⟨w.heap.size, 0, none⟩ = some (.int .i64 s) := bc hb (by first | exact b0_1 | exact ca b0_1 | exact ca (ca b0_1) | exact ca (ca (ca b0_1)) | (simp; done) | go_simp)
    have b1_2 : w2.cell? ⟨w.heap.size, 1, none⟩ = some (.int .i64 r) := bc hb (by first | exact b1_1 | exact ca b1_1 | exact ca (ca b1_1) | exact ca (ca (ca b1_1)) | (simp; done) | go_simp)
    have b2_2 : w2.cell? ⟨w.heap.size, 2, none⟩ = some (.int .i64 p) := bc hb (by first | exact b2_1 | exact ca b2_1 | exact ca (ca b2_1) | exact ca (ca (ca b2_1)) | (simp; done) | go_simp)
    have bl_2 : w.heap.size < w2.heap.size := cell_lt b0_2
    clear b0_1 b1_1 b2_1 bl_1
    have q0_2 : w2.cell? ⟨w.heap.size + 1, 0, none⟩ = some (.int .i64 0) := bc hb (by first | exact q0_1 | exact ca q0_1 | exact ca (ca q0_1) | exact ca (ca (ca q0_1)) | (simp; done) | go_simp)
    have qf0_2 : w2.frozen? ⟨w.heap.size + 1, 0, none⟩ = false := bf hb (by first | (simp; done) | (simp; omega) | (show w.heap.size + 1 < _; omega)) (by first | exact qf0_1 | exact fa (by show w.heap.size + 1 < _; omega) qf0_1 | exact fa (by show w.heap.size + 1 < _; simp; omega) (fa (by show w.heap.size + 1 < _; omega) qf0_1) | (simp; done) | go_simp)
    have q1_2 : w2.cell? ⟨w.heap.size + 1, 1, none⟩ = some (.int .i64 0) := bc hb (by first | exact q1_1 | exact ca q1_1 | exact ca (ca q1_1) | exact ca (ca (ca q1_1)) | (simp; done) | go_simp)
    have qf1_2 : w2.frozen? ⟨w.heap.size + 1, 1, none⟩ = false := bf hb (by first | (simp; done) | (simp; omega) | (show w.heap.size + 1 < _; omega)) (by first | exact qf1_1 | exact fa (by show w.heap.size + 1 < _; omega) qf1_1 | exact fa (by show w.heap.size + 1 < _; simp; omega) (fa (by show w.heap.size + 1 < _; omega) qf1_1) | (simp; done) | go_simp)
    have ql_2 : w.heap.size + 1 < w2.heap.size := cell_lt q0_2
    clear q0_1 qf0_1 q1_1 qf1_1 ql_1
    have f0_1 : w2.cell? ⟨w1.heap.size, 0, none⟩ = some (.int .i64 X) := bc hb (by first | (simp; done) | go_simp)
    have f1_1 : w2.cell? ⟨w1.heap.size, 1, none⟩ = some (.int .i64 Y) := bc hb (by first | (simp; done) | go_simp)
    have fl_1 : w1.heap.size < w2.heap.size := cell_lt f0_1
    have hszw2 := below_size hb
    try simp at hszw2
    have HBq : Below w.heap.size w w2 := Below.trans (by repeat (first | exact Below.refl _ _ | exact HB.out | refine Below.drew ?_ | refine bel_drewN _ ?_ | refine Below.alloc ?_ (by first | omega | (simp; done) | (simp; omega)) _ | refine Below.setCell ?_ (by first | (show _ ≤ _; omega) | (simp; done) | (simp; omega)) _)) (hb.mono (by first | omega | (simp; done) | (simp; omega)))
    have HB := Lib.hid HBq
    clear HBq hb
    go_wp2_with fail
    refine (HA.out _).mono ?_
    rintro e w3 ⟨rfl, hb⟩
    have b0_3 : w3.cell? ⟨w.heap.size, 0, none⟩ = some (.int .i64 s) := bc hb (by first | exact b0_2 | exact ca b0_2 | exact ca (ca b0_2) | exact ca (ca (ca b0_2)) | (simp; done) | go_simp)
    have b1_3 : w3.cell? ⟨w.heap.size, 1, none⟩ = some (.int .i64 r) := bc hb (by first | exact b1_2 | exact ca b1_2 | exact ca (ca b1_2) | exact ca (ca (ca b1_2)) | (simp; done) | go_simp)
    have b2_3 : w3.cell? ⟨w.heap.size, 2, none⟩ = some (.int .i64 p) := bc hb (by first | exact b2_2 | exact ca b2_2 | exact ca (ca b2_2) | exact ca (ca (ca b2_2)) | (simp; done) | go_simp)
    have bl_3 : w.heap.size < w3.heap.size := cell_lt b0_3
    clear b0_2 b1_2 b2_2 bl_2
    have q0_3 : w3.cell? ⟨w.heap.size + 1, 0, none⟩ = some (.int .i64 0) := bc hb (by first | exact q0_2 | exact ca q0_2 | exact ca (ca q0_2) | exact ca (ca (ca q0_2)) | (simp; done) | go_simp)
    have qf0_3 : w3.frozen? ⟨w.heap.size + 1, 0, none⟩ = false := bf hb (by first | (simp; done) | (simp; omega) | (show w.heap.size + 1 < _; omega)) (by first | exact qf0_2 | exact fa (by show w.heap.size + 1 < _; omega) qf0_2 | exact fa (by show w.heap.size + 1 < _; simp; omega) (fa (by show w.heap.size + 1 < _; omega) qf0_2) | (simp; done) | go_simp)
    have q1_3 : w3.cell? ⟨w.heap.size + 1, 1, none⟩ = some (.int .i64 0) := bc hb (by first | exact q1_2 | exact ca q1_2 | exact ca (ca q1_2) | exact ca (ca (ca q1_2)) | (simp; done) | go_simp)
    have qf1_3 : w3.frozen? ⟨w.heap.size + 1, 1, none⟩ = false := bf hb (by first | (simp; done) | (simp; omega) | (show w.heap.size + 1 < _; omega)) (by first | exact qf1_2 | exact fa (by show w.heap.size + 1 < _; omega) qf1_2 | exact fa (by show w.heap.size + 1 < _; simp; omega) (fa (by show w.heap.size + 1 < _; omega) qf1_2) | (simp; done) | go_simp)
    have ql_3 : w.heap.size + 1 < w3.heap.size := cell_lt q0_3
    clear q0_2 qf0_2 q1_2 qf1_2 ql_2
    have f0_2 : w3.cell? ⟨w1.heap.size, 0, none⟩ = some (.int .i64 X) := bc hb (by first | exact f0_1 | exact ca f0_1 | exact ca (ca f0_1) | exact ca (ca (ca f0_1)) | (simp; done) | go_simp)
    have f1_2 : w3.cell? ⟨w1.heap.size, 1, none⟩ = some (.int .i64 Y) := bc hb (by first | exact f1_1 | exact ca f1_1 | exact ca (ca f1_1) | exact ca (ca (ca f1_1)) | (simp; done) | go_simp)
    have fl_2 : w1.heap.size < w3.heap.size := cell_lt f0_2
    clear f0_1 f1_1 fl_1
    have g0_1 : w3.cell? ⟨w2.heap.size, 0, none⟩ = some (.int .i64 X1) := bc hb (by first | (simp; done) | go_simp)
    have g1_1 : w3.cell? ⟨w2.heap.size, 1, none⟩ = some (.int .i64 Y1) := bc hb (by first | (simp; done) | go_simp)
    have gl_1 : w2.heap.size < w3.heap.size := cell_lt g0_1
    have hszw3 := below_size hb
    try simp at hszw3
    have HBq : Below w.heap.size w w3 := Below.trans (by repeat (first | exact Below.refl _ _ | exact HB.out | refine Below.drew ?_ | refine bel_drewN _ ?_ | refine Below.alloc ?_ (by first | omega | (simp; done) | (simp; omega)) _ | refine Below.setCell ?_ (by first | (show _ ≤ _; omega) | (simp; done) | (simp; omega)) _)) (hb.mono (by first | omega | (simp; done) | (simp; omega)))
    have HB := Lib.hid HBq
    clear HBq hb
    go_wp2
    refine bodyPost_ret (res2 (b := w.heap.size + 1) Tryd.results14 (by rfl) ⟨by first | (exact sc_far (by simp) (sc_same (by first | assumption | (exact ca (by assumption)) | (exact ca (ca (by assumption))) | (exact ca (ca (ca (by assumption))))))) | (exact ca (sc_far (by simp) (sc_same (by first | assumption | (exact ca (by assumption)) | (exact ca (ca (by assumption))) | (exact ca (ca (ca (by assumption)))))))) | (exact ca (ca (sc_far (by simp) (sc_same (by first | assumption | (exact ca (by assumption)) | (exact ca (ca (by assumption))) | (exact ca (ca (ca (by assumption))))))))) | (exact ca (ca (ca (sc_far (by simp) (sc_same (by first | assumption | (exact ca (by assumption)) | (exact ca (ca (by assumption))) | (exact ca (ca (ca (by assumption)))))))))), by first | (exact sc_same (sc_far (by simp) (by first | assumption | (exact ca (by assumption)) | (exact ca (ca (by assumption))) | (exact ca (ca (ca (by assumption))))))) | (exact ca (sc_same (sc_far (by simp) (by first | assumption | (exact ca (by assumption)) | (exact ca (ca (by assumption))) | (exact ca (ca (ca (by assumption)))))))) | (exact ca (ca (sc_same (sc_far (by simp) (by first | assumption | (exact ca (by assumption)) | (exact ca (ca (by assumption))) | (exact ca (ca (ca (by assumption))))))))) | (exact ca (ca (ca (sc_same (sc_far (by simp) (by first | assumption | (exact ca (by assumption)) | (exact ca (ca (by assumption))) | (exact ca (ca (ca (by assumption))))))))))⟩) rfl ⟨rfl, ?_⟩
    repeat (first | (with_reducible exact HB.out) | (with_reducible refine bel_set ?_ (by omega)) | (with_reducible refine Below.alloc ?_ (by have := HB.out.size; first | omega | (simp; omega)) _))
set_option maxHeartbeats 2000000 in
theorem callWorthS_any (s r p c k : Int) (w : World) :
    Calls Tryd.prog 13 #[.agg #[.int .i64 s, .int .i64 r, .int .i64 p], .int .i64 c, .int .i64 k] w (RP (cwL s r p c k) (cwH s r p c k) w) := by
  have hcase : cwB s r p c k = true ∨ (cwB s r p c k = false ∧ (latB s r p = false ∨ (latB s r p = true ∧ inR c 0 3000 = false) ∨ (latB s r p = true ∧ inR c 0 3000 = true ∧ inR k 50 200 = false))) := by
    cases h : cwB s r p c k
    · refine .inr ⟨rfl, ?_⟩
      cases h1 : latB s r p
      · exact .inl rfl
      cases h2 : inR c 0 3000
      · exact .inr (.inl ⟨rfl, rfl⟩)
      · refine .inr (.inr ⟨rfl, rfl, ?_⟩)
        unfold cwB at h
        rw [h1, h2] at h
        simpa using h
    · exact .inl rfl
  rcases hcase with h | ⟨h, h1 | ⟨h1, h2⟩ | ⟨h1, h2, h3⟩⟩
  · obtain ⟨e1, e2⟩ := cw_yes h
    obtain ⟨h1, h2, h3⟩ := cwB_iff.1 h
    rw [e1, e2]
    obtain ⟨a0, a1, a2⟩ := lv_bd s r p c 0
    obtain ⟨b0, b1, b2⟩ := lv_bd s r p c k
    have HV := Lib.hid (fun W => latValueS_any s r p c 0 W)
    have HW := Lib.hid (fun W => latValueS_any s r p c k W)
    unfold RP at HV HW
    generalize lvL s r p c 0 = X at *
    generalize lvH s r p c 0 = Y at *
    generalize lvL s r p c k = X1 at *
    generalize lvH s r p c k = Y1 at *
    have hm := mx0_max (X - Y1)
    have hm' := mx0_max' (X - Y1)
    obtain ⟨U, hU⟩ : ∃ U, X - Y1 = U := ⟨_, rfl⟩
    obtain ⟨V, hV⟩ : ∃ V, Y - X1 = V := ⟨_, rfl⟩
    have hw1 : wrap64 (X - Y1) = U := by unfold wrap64; omega
    have hw2 : wrap64 (Y - X1) = V := by unfold wrap64; omega
    rw [hU] at hm hm' ⊢
    rw [hV]
    generalize hM : mx0 U = M at *
    clear a0 a1 a2 b0 b1 b2 e1 e2 h hM hU hV
    go_enter Tryd.func13, Tryd.ntmps13
    have HB := Lib.hid (Below.refl w.heap.size w)
    go_wp2_with fail
    refine (latValidS_any s r p _).mono ?_
    rintro e w1 ⟨rfl, hb⟩
    have b0_1 : w1.cell? ⟨w.heap.size, 0, none⟩ = some (.int .i64 s) := bc hb (by first | (simp; done) | go_simp)
    have b1_1 : w1.cell? ⟨w.heap.size, 1, none⟩ = some (.int .i64 r) := bc hb (by first | (simp; done) | go_simp)
    have b2_1 : w1.cell? ⟨w.heap.size, 2, none⟩ = some (.int .i64 p) := bc hb (by first | (simp; done) | go_simp)
    have bl_1 : w.heap.size < w1.heap.size := cell_lt b0_1
    have q0_1 : w1.cell? ⟨w.heap.size + 1, 0, none⟩ = some (.int .i64 0) := bc hb (by first | (simp; done) | go_simp)
    have qf0_1 : w1.frozen? ⟨w.heap.size + 1, 0, none⟩ = false := bf hb (by first | (simp; done) | (simp; omega) | (show w.heap.size + 1 < _; omega)) (by first | (simp; done) | go_simp)
    have q1_1 : w1.cell? ⟨w.heap.size + 1, 1, none⟩ = some (.int .i64 0) := bc hb (by first | (simp; done) | go_simp)
    have qf1_1 : w1.frozen? ⟨w.heap.size + 1, 1, none⟩ = false := bf hb (by first | (simp; done) | (simp; omega) | (show w.heap.size + 1 < _; omega)) (by first | (simp; done) | go_simp)
    have ql_1 : w.heap.size + 1 < w1.heap.size := cell_lt q0_1
    have hszw1 := below_size hb
    try simp at hszw1
    have HBq : Below w.heap.size w w1 := Below.trans (by repeat (first | exact Below.refl _ _ | exact HB.out | refine Below.drew ?_ | refine bel_drewN _ ?_ | refine Below.alloc ?_ (by first | omega | (simp; done) | (simp; omega)) _ | refine Below.setCell ?_ (by first | (show _ ≤ _; omega) | (simp; done) | (simp; omega)) _)) (hb.mono (by first | omega | (simp; done) | (simp; omega)))
    have HB := Lib.hid HBq
    clear HBq hb
    go_wp2_with (go_at_call 18; refine (inRange_any _ _ _ _).mono ?_; rintro e w' ⟨rfl, rfl⟩)
    refine (HV.out _).mono ?_
    rintro ed w2 ⟨rfl, hb⟩
    have b0_2 : w2.cell? ⟨w.heap.size, 0, none⟩ = some (.int .i64 s) := bc hb (by first | exact b0_1 | exact ca b0_1 | exact ca (ca b0_1) | exact ca (ca (ca b0_1)) | (simp; done) | go_simp)
    have b1_2 : w2.cell? ⟨w.heap.size, 1, none⟩ = some (.int .i64 r) := bc hb (by first | exact b1_1 | exact ca b1_1 | exact ca (ca b1_1) | exact ca (ca (ca b1_1)) | (simp; done) | go_simp)
    have b2_2 : w2.cell? ⟨w.heap.size, 2, none⟩ = some (.int .i64 p) := bc hb (by first | exact b2_1 | exact ca b2_1 | exact ca (ca b2_1) | exact ca (ca (ca b2_1)) | (simp; done) | go_simp)
    have bl_2 : w.heap.size < w2.heap.size := cell_lt b0_2
    clear b0_1 b1_1 b2_1 bl_1
    have q0_2 : w2.cell? ⟨w.heap.size + 1, 0, none⟩ = some (.int .i64 0) := bc hb (by first | exact q0_1 | exact ca q0_1 | exact ca (ca q0_1) | exact ca (ca (ca q0_1)) | (simp; done) | go_simp)
    have qf0_2 : w2.frozen? ⟨w.heap.size + 1, 0, none⟩ = false := bf hb (by first | (simp; done) | (simp; omega) | (show w.heap.size + 1 < _; omega)) (by first | exact qf0_1 | exact fa (by show w.heap.size + 1 < _; omega) qf0_1 | exact fa (by show w.heap.size + 1 < _; simp; omega) (fa (by show w.heap.size + 1 < _; omega) qf0_1) | (simp; done) | go_simp)
    have q1_2 : w2.cell? ⟨w.heap.size + 1, 1, none⟩ = some (.int .i64 0) := bc hb (by first | exact q1_1 | exact ca q1_1 | exact ca (ca q1_1) | exact ca (ca (ca q1_1)) | (simp; done) | go_simp)
    have qf1_2 : w2.frozen? ⟨w.heap.size + 1, 1, none⟩ = false := bf hb (by first | (simp; done) | (simp; omega) | (show w.heap.size + 1 < _; omega)) (by first | exact qf1_1 | exact fa (by show w.heap.size + 1 < _; omega) qf1_1 | exact fa (by show w.heap.size + 1 < _; simp; omega) (fa (by show w.heap.size + 1 < _; omega) qf1_1) | (simp; done) | go_simp)
    have ql_2 : w.heap.size + 1 < w2.heap.size := cell_lt q0_2
    clear q0_1 qf0_1 q1_1 qf1_1 ql_1
    have hszw2 := below_size hb
    try simp at hszw2
    have HBq2 : Below w.heap.size w w2 := HB.out.trans (hb.mono HB.out.size)
    have HB := Lib.hid HBq2
    clear HBq2 hb
    go_wp2_with fail
    refine (HW.out _).mono ?_
    rintro e w3 ⟨rfl, hb⟩
    have b0_3 : w3.cell? ⟨w.heap.size, 0, none⟩ = some (.int .i64 s) := bc hb (by first | exact b0_2 | exact ca b0_2 | exact ca (ca b0_2) | exact ca (ca (ca b0_2)) | (simp; done) | go_simp)
    have b1_3 : w3.cell? ⟨w.heap.size, 1, none⟩ = some (.int .i64 r) := bc hb (by first | exact b1_2 | exact ca b1_2 | exact ca (ca b1_2) | exact ca (ca (ca b1_2)) | (simp; done) | go_simp)
    have b2_3 : w3.cell? ⟨w.heap.size, 2, none⟩ = some (.int .i64 p) := bc hb (by first | exact b2_2 | exact ca b2_2 | exact ca (ca b2_2) | exact ca (ca (ca b2_2)) | (simp; done) | go_simp)
    have bl_3 : w.heap.size < w3.heap.size := cell_lt b0_3
    clear b0_2 b1_2 b2_2 bl_2
    have q0_3 : w3.cell? ⟨w.heap.size + 1, 0, none⟩ = some (.int .i64 0) := bc hb (by first | exact q0_2 | exact ca q0_2 | exact ca (ca q0_2) | exact ca (ca (ca q0_2)) | (simp; done) | go_simp)
    have qf0_3 : w3.frozen? ⟨w.heap.size + 1, 0, none⟩ = false := bf hb (by first | (simp; done) | (simp; omega) | (show w.heap.size + 1 < _; omega)) (by first | exact qf0_2 | exact fa (by show w.heap.size + 1 < _; omega) qf0_2 | exact fa (by show w.heap.size + 1 < _; simp; omega) (fa (by show w.heap.size + 1 < _; omega) qf0_2) | (simp; done) | go_simp)
    have q1_3 : w3.cell? ⟨w.heap.size + 1, 1, none⟩ = some (.int .i64 0) := bc hb (by first | exact q1_2 | exact ca q1_2 | exact ca (ca q1_2) | exact ca (ca (ca q1_2)) | (simp; done) | go_simp)
    have qf1_3 : w3.frozen? ⟨w.heap.size + 1, 1, none⟩ = false := bf hb (by first | (simp; done) | (simp; omega) | (show w.heap.size + 1 < _; omega)) (by first | exact qf1_2 | exact fa (by show w.heap.size + 1 < _; omega) qf1_2 | exact fa (by show w.heap.size + 1 < _; simp; omega) (fa (by show w.heap.size + 1 < _; omega) qf1_2) | (simp; done) | go_simp)
    have ql_3 : w.heap.size + 1 < w3.heap.size := cell_lt q0_3
    clear q0_2 qf0_2 q1_2 qf1_2 ql_2
    have f0_1 : w3.cell? ⟨w2.heap.size, 0, none⟩ = some (.int .i64 X) := bc hb (by first | (simp; done) | go_simp)
    have f1_1 : w3.cell? ⟨w2.heap.size, 1, none⟩ = some (.int .i64 Y) := bc hb (by first | (simp; done) | go_simp)
    have fl_1 : w2.heap.size < w3.heap.size := cell_lt f0_1
    have hszw3 := below_size hb
    try simp at hszw3
    have HBq : Below w.heap.size w w3 := Below.trans (by repeat (first | exact Below.refl _ _ | exact HB.out | refine Below.drew ?_ | refine bel_drewN _ ?_ | refine Below.alloc ?_ (by first | omega | (simp; done) | (simp; omega)) _ | refine Below.setCell ?_ (by first | (show _ ≤ _; omega) | (simp; done) | (simp; omega)) _)) (hb.mono (by first | omega | (simp; done) | (simp; omega)))
    have HB := Lib.hid HBq
    clear HBq hb
    go_wp2
    refine bodyPost_ret (res2 (b := w.heap.size + 1) Tryd.results13 (by rfl) ⟨by first | (exact sc_far (by simp) (sc_same (by first | assumption | (exact ca (by assumption)) | (exact ca (ca (by assumption))) | (exact ca (ca (ca (by assumption))))))) | (exact ca (sc_far (by simp) (sc_same (by first | assumption | (exact ca (by assumption)) | (exact ca (ca (by assumption))) | (exact ca (ca (ca (by assumption)))))))) | (exact ca (ca (sc_far (by simp) (sc_same (by first | assumption | (exact ca (by assumption)) | (exact ca (ca (by assumption))) | (exact ca (ca (ca (by assumption))))))))) | (exact ca (ca (ca (sc_far (by simp) (sc_same (by first | assumption | (exact ca (by assumption)) | (exact ca (ca (by assumption))) | (exact ca (ca (ca (by assumption)))))))))), by first | (exact sc_same (sc_far (by simp) (by first | assumption | (exact ca (by assumption)) | (exact ca (ca (by assumption))) | (exact ca (ca (ca (by assumption))))))) | (exact ca (sc_same (sc_far (by simp) (by first | assumption | (exact ca (by assumption)) | (exact ca (ca (by assumption))) | (exact ca (ca (ca (by assumption)))))))) | (exact ca (ca (sc_same (sc_far (by simp) (by first | assumption | (exact ca (by assumption)) | (exact ca (ca (by assumption))) | (exact ca (ca (ca (by assumption))))))))) | (exact ca (ca (ca (sc_same (sc_far (by simp) (by first | assumption | (exact ca (by assumption)) | (exact ca (ca (by assumption))) | (exact ca (ca (ca (by assumption))))))))))⟩) rfl ⟨rfl, ?_⟩
    repeat (first | (with_reducible exact HB.out) | (with_reducible refine bel_set ?_ (by omega)) | (with_reducible refine Below.alloc ?_ (by have := HB.out.size; first | omega | (simp; omega)) _))
  all_goals
    obtain ⟨e1, e2⟩ := cw_no h
    rw [e1, e2]
    clear h e1 e2
    go_enter Tryd.func13, Tryd.ntmps13
    have HB := Lib.hid (Below.refl w.heap.size w)
    go_wp2_with fail
    refine (latValidS_any s r p _).mono ?_
    rintro e w1 ⟨rfl, hb⟩
    have b0_1 : w1.cell? ⟨w.heap.size, 0, none⟩ = some (.int .i64 s) := bc hb (by first | (simp; done) | go_simp)
    have b1_1 : w1.cell? ⟨w.heap.size, 1, none⟩ = some (.int .i64 r) := bc hb (by first | (simp; done) | go_simp)
    have b2_1 : w1.cell? ⟨w.heap.size, 2, none⟩ = some (.int .i64 p) := bc hb (by first | (simp; done) | go_simp)
    have bl_1 : w.heap.size < w1.heap.size := cell_lt b0_1
    have q0_1 : w1.cell? ⟨w.heap.size + 1, 0, none⟩ = some (.int .i64 0) := bc hb (by first | (simp; done) | go_simp)
    have qf0_1 : w1.frozen? ⟨w.heap.size + 1, 0, none⟩ = false := bf hb (by first | (simp; done) | (simp; omega) | (show w.heap.size + 1 < _; omega)) (by first | (simp; done) | go_simp)
    have q1_1 : w1.cell? ⟨w.heap.size + 1, 1, none⟩ = some (.int .i64 0) := bc hb (by first | (simp; done) | go_simp)
    have qf1_1 : w1.frozen? ⟨w.heap.size + 1, 1, none⟩ = false := bf hb (by first | (simp; done) | (simp; omega) | (show w.heap.size + 1 < _; omega)) (by first | (simp; done) | go_simp)
    have ql_1 : w.heap.size + 1 < w1.heap.size := cell_lt q0_1
    have hszw1 := below_size hb
    try simp at hszw1
    have HBq : Below w.heap.size w w1 := Below.trans (by repeat (first | exact Below.refl _ _ | exact HB.out | refine Below.drew ?_ | refine bel_drewN _ ?_ | refine Below.alloc ?_ (by first | omega | (simp; done) | (simp; omega)) _ | refine Below.setCell ?_ (by first | (show _ ≤ _; omega) | (simp; done) | (simp; omega)) _)) (hb.mono (by first | omega | (simp; done) | (simp; omega)))
    have HB := Lib.hid HBq
    clear HBq hb
    go_wp2_with (go_at_call 18; refine (inRange_any _ _ _ _).mono ?_; rintro e w' ⟨rfl, rfl⟩)
    refine bodyPost_ret (res2 (b := w.heap.size + 1) Tryd.results13 (by rfl) ⟨sc_far (by simp) (sc_same (by assumption)), sc_same (sc_far (by simp) (by assumption))⟩) rfl ⟨rfl, ?_⟩
    exact Below.setCell (Below.setCell HB.out (by show w.heap.size ≤ w.heap.size + 1; omega) _) (by show w.heap.size ≤ w.heap.size + 1; omega) _
set_option maxHeartbeats 1000000 in
theorem fnExactCallWorth_walk (s r p c k : Int) (w : World) (_w0 : True) (_w1 : (Lit.int .i64 c).wf = true) (_w2 : (Lit.int .i64 k).wf = true) :
    Calls Tryd.prog 4 #[.agg #[.int .i64 s, .int .i64 r, .int .i64 p], .int .i64 c, .int .i64 k] w fun ed w' => ed = .returned (.bool true) ∧ Below w.heap.size w w' := by
  have HS := Lib.hid (fun W => callWorthS_any s r p c k W)
  have HI := Lib.hid (fun W => callWorthI_any s r p c k W)
  unfold RP at HS HI
  clear _w1 _w2
  generalize cwL s r p c k = X at *
  generalize cwH s r p c k = Y at *
  go_enter Tryd.func4, Tryd.ntmps4
  have HB := Lib.hid (Below.refl w.heap.size w)
  go_wp2_with fail
  refine (toLattice_any s r p _).mono ?_
  rintro e w1 ⟨rfl, hb⟩
  have x0_1 : w1.cell? ⟨w.heap.size, 0, none⟩ = some (.int .i64 s) := bc hb (by first | (simp; done) | go_simp)
  have x1_1 : w1.cell? ⟨w.heap.size, 1, none⟩ = some (.int .i64 r) := bc hb (by first | (simp; done) | go_simp)
  have x2_1 : w1.cell? ⟨w.heap.size, 2, none⟩ = some (.int .i64 p) := bc hb (by first | (simp; done) | go_simp)
  have xl_1 : w.heap.size < w1.heap.size := cell_lt x0_1
  have hszw1 := below_size hb
  try simp at hszw1
  have HBq : Below w.heap.size w w1 := Below.trans (by repeat (first | exact Below.refl _ _ | exact HB.out | refine Below.drew ?_ | refine bel_drewN _ ?_ | refine Below.alloc ?_ (by first | omega | (simp; done) | (simp; omega)) _ | refine Below.setCell ?_ (by first | (show _ ≤ _; omega) | (simp; done) | (simp; omega)) _)) (hb.mono (by first | omega | (simp; done) | (simp; omega)))
  have HB := Lib.hid HBq
  clear HBq hb
  go_wp2_with fail
  refine (HS.out _).mono ?_
  rintro e w2 ⟨rfl, hb⟩
  have x0_2 : w2.cell? ⟨w.heap.size, 0, none⟩ = some (.int .i64 s) := bc hb (by first | exact x0_1 | exact ca x0_1 | exact ca (ca x0_1) | exact ca (ca (ca x0_1)) | (simp; done) | go_simp)
  have x1_2 : w2.cell? ⟨w.heap.size, 1, none⟩ = some (.int .i64 r) := bc hb (by first | exact x1_1 | exact ca x1_1 | exact ca (ca x1_1) | exact ca (ca (ca x1_1)) | (simp; done) | go_simp)
  have x2_2 : w2.cell? ⟨w.heap.size, 2, none⟩ = some (.int .i64 p) := bc hb (by first | exact x2_1 | exact ca x2_1 | exact ca (ca x2_1) | exact ca (ca (ca x2_1)) | (simp; done) | go_simp)
  have xl_2 : w.heap.size < w2.heap.size := cell_lt x0_2
  clear x0_1 x1_1 x2_1 xl_1
  have hszw2 := below_size hb
  try simp at hszw2
  have HBq : Below w.heap.size w w2 := Below.trans (by repeat (first | exact Below.refl _ _ | exact HB.out | refine Below.drew ?_ | refine bel_drewN _ ?_ | refine Below.alloc ?_ (by first | omega | (simp; done) | (simp; omega)) _ | refine Below.setCell ?_ (by first | (show _ ≤ _; omega) | (simp; done) | (simp; omega)) _)) (hb.mono (by first | omega | (simp; done) | (simp; omega)))
  have HB := Lib.hid HBq
  clear HBq hb
  go_wp2_with fail
  refine (toLattice_any s r p _).mono ?_
  rintro e w3 ⟨rfl, hb⟩
  have x0_3 : w3.cell? ⟨w.heap.size, 0, none⟩ = some (.int .i64 s) := bc hb (by first | exact x0_2 | exact ca x0_2 | exact ca (ca x0_2) | exact ca (ca (ca x0_2)) | (simp; done) | go_simp)
  have x1_3 : w3.cell? ⟨w.heap.size, 1, none⟩ = some (.int .i64 r) := bc hb (by first | exact x1_2 | exact ca x1_2 | exact ca (ca x1_2) | exact ca (ca (ca x1_2)) | (simp; done) | go_simp)
  have x2_3 : w3.cell? ⟨w.heap.size, 2, none⟩ = some (.int .i64 p) := bc hb (by first | exact x2_2 | exact ca x2_2 | exact ca (ca x2_2) | exact ca (ca (ca x2_2)) | (simp; done) | go_simp)
  have xl_3 : w.heap.size < w3.heap.size := cell_lt x0_3
  clear x0_2 x1_2 x2_2 xl_2
  have y0_1 : w3.cell? ⟨w2.heap.size, 0, none⟩ = some (.int .i64 X) := bc hb (by first | (simp; done) | go_simp)
  have y1_1 : w3.cell? ⟨w2.heap.size, 1, none⟩ = some (.int .i64 Y) := bc hb (by first | (simp; done) | go_simp)
  have yl_1 : w2.heap.size < w3.heap.size := cell_lt y0_1
  have hszw3 := below_size hb
  try simp at hszw3
  have HBq : Below w.heap.size w w3 := Below.trans (by repeat (first | exact Below.refl _ _ | exact HB.out | refine Below.drew ?_ | refine bel_drewN _ ?_ | refine Below.alloc ?_ (by first | omega | (simp; done) | (simp; omega)) _ | refine Below.setCell ?_ (by first | (show _ ≤ _; omega) | (simp; done) | (simp; omega)) _)) (hb.mono (by first | omega | (simp; done) | (simp; omega)))
  have HB := Lib.hid HBq
  clear HBq hb
  go_wp2_with fail
  refine (HI.out _).mono ?_
  rintro e w4 ⟨rfl, hb⟩
  have x0_4 : w4.cell? ⟨w.heap.size, 0, none⟩ = some (.int .i64 s) := bc hb (by first | exact x0_3 | exact ca x0_3 | exact ca (ca x0_3) | exact ca (ca (ca x0_3)) | (simp; done) | go_simp)
  have x1_4 : w4.cell? ⟨w.heap.size, 1, none⟩ = some (.int .i64 r) := bc hb (by first | exact x1_3 | exact ca x1_3 | exact ca (ca x1_3) | exact ca (ca (ca x1_3)) | (simp; done) | go_simp)
  have x2_4 : w4.cell? ⟨w.heap.size, 2, none⟩ = some (.int .i64 p) := bc hb (by first | exact x2_3 | exact ca x2_3 | exact ca (ca x2_3) | exact ca (ca (ca x2_3)) | (simp; done) | go_simp)
  have xl_4 : w.heap.size < w4.heap.size := cell_lt x0_4
  clear x0_3 x1_3 x2_3 xl_3
  have y0_2 : w4.cell? ⟨w2.heap.size, 0, none⟩ = some (.int .i64 X) := bc hb (by first | exact y0_1 | exact ca y0_1 | exact ca (ca y0_1) | exact ca (ca (ca y0_1)) | (simp; done) | go_simp)
  have y1_2 : w4.cell? ⟨w2.heap.size, 1, none⟩ = some (.int .i64 Y) := bc hb (by first | exact y1_1 | exact ca y1_1 | exact ca (ca y1_1) | exact ca (ca (ca y1_1)) | (simp; done) | go_simp)
  have yl_2 : w2.heap.size < w4.heap.size := cell_lt y0_2
  clear y0_1 y1_1 yl_1
  have hszw4 := below_size hb
  try simp at hszw4
  have HBq : Below w.heap.size w w4 := Below.trans (by repeat (first | exact Below.refl _ _ | exact HB.out | refine Below.drew ?_ | refine bel_drewN _ ?_ | refine Below.alloc ?_ (by first | omega | (simp; done) | (simp; omega)) _ | refine Below.setCell ?_ (by first | (show _ ≤ _; omega) | (simp; done) | (simp; omega)) _)) (hb.mono (by first | omega | (simp; done) | (simp; omega)))
  have HB := Lib.hid HBq
  clear HBq hb
  go_wp2_with fail
  refine (eqRange_same X Y _).mono ?_
  rintro e w5 ⟨rfl, hb⟩
  have x0_5 : w5.cell? ⟨w.heap.size, 0, none⟩ = some (.int .i64 s) := bc hb (by first | exact x0_4 | exact ca x0_4 | exact ca (ca x0_4) | exact ca (ca (ca x0_4)) | (simp; done) | go_simp)
  have x1_5 : w5.cell? ⟨w.heap.size, 1, none⟩ = some (.int .i64 r) := bc hb (by first | exact x1_4 | exact ca x1_4 | exact ca (ca x1_4) | exact ca (ca (ca x1_4)) | (simp; done) | go_simp)
  have x2_5 : w5.cell? ⟨w.heap.size, 2, none⟩ = some (.int .i64 p) := bc hb (by first | exact x2_4 | exact ca x2_4 | exact ca (ca x2_4) | exact ca (ca (ca x2_4)) | (simp; done) | go_simp)
  have xl_5 : w.heap.size < w5.heap.size := cell_lt x0_5
  clear x0_4 x1_4 x2_4 xl_4
  have y0_3 : w5.cell? ⟨w2.heap.size, 0, none⟩ = some (.int .i64 X) := bc hb (by first | exact y0_2 | exact ca y0_2 | exact ca (ca y0_2) | exact ca (ca (ca y0_2)) | (simp; done) | go_simp)
  have y1_3 : w5.cell? ⟨w2.heap.size, 1, none⟩ = some (.int .i64 Y) := bc hb (by first | exact y1_2 | exact ca y1_2 | exact ca (ca y1_2) | exact ca (ca (ca y1_2)) | (simp; done) | go_simp)
  have yl_3 : w2.heap.size < w5.heap.size := cell_lt y0_3
  clear y0_2 y1_2 yl_2
  have hszw5 := below_size hb
  try simp at hszw5
  have HBq : Below w.heap.size w w5 := Below.trans (by repeat (first | exact Below.refl _ _ | exact HB.out | refine Below.drew ?_ | refine bel_drewN _ ?_ | refine Below.alloc ?_ (by first | omega | (simp; done) | (simp; omega)) _ | refine Below.setCell ?_ (by first | (show _ ≤ _; omega) | (simp; done) | (simp; omega)) _)) (hb.mono (by first | omega | (simp; done) | (simp; omega)))
  have HB := Lib.hid HBq
  clear HBq hb
  go_wp2
  go_ret
  exact ⟨ret_bool (by first | rfl | simp), HB.out⟩
end Go.Proofs.YtblnakfkhaibnaaDoor
