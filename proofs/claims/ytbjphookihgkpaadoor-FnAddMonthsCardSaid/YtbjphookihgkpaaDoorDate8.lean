/- Dates: the exported functions DayOf, DateOf, ValidDate. -/
import Derived.Test.YtbjphookihgkpaaDoorDate7
namespace Go.Proofs.YtbjphookihgkpaaDoor
open Go.RowKit
set_option linter.unusedVariables false
/-- the number of a date, or -1 -/
def dayF (y m d : Int) : Int := if dtB y m d = true then num y m d else -1
/-- the date of a day, as DateOf gives it -/
noncomputable def oY (n : Int) : Int := if inR n 0 36524 = true then dY n else 0
noncomputable def oM (n : Int) : Int := if inR n 0 36524 = true then dM n else 0
noncomputable def oD (n : Int) : Int := if inR n 0 36524 = true then dD n else 0
theorem o_yes {n : Int} (h : inR n 0 36524 = true) : oY n = dY n ∧ oM n = dM n ∧ oD n = dD n := by
  unfold oY oM oD; rw [if_pos h, if_pos h, if_pos h]; exact ⟨rfl, rfl, rfl⟩
theorem o_no {n : Int} (h : inR n 0 36524 = false) : oY n = 0 ∧ oM n = 0 ∧ oD n = 0 := by
  unfold oY oM oD; rw [h]; exact ⟨rfl, rfl, rfl⟩
set_option maxHeartbeats 400000 in
theorem dateOfI2_any (n : Int) (w : World) (hM : MD w) :
    Calls Tryd.prog 7 #[.int .i64 n] w fun e w' => e = .returned (.tuple #[.agg #[.int .i64 (oY n), .int .i64 (oM n), .int .i64 (oD n)], .bool (inR n 0 36524)]) ∧ Below w.heap.size w w' := by
  have hM1 := hM.size
  have HM := Lib.hid hM
  clear hM
  by_cases h : inR n 0 36524 = true
  · obtain ⟨e1, e2, e3⟩ := o_yes h
    rw [e1, e2, e3]
    clear e1 e2 e3
    obtain ⟨n0, n1⟩ := inR_true.1 h
    go_enter Tryd.func7, Tryd.ntmps7
    have HB := Lib.hid (Below.refl w.heap.size w)
    go_wp2_with fail
    refine (dayValid_any _ _).mono ?_
    rintro e w1 ⟨rfl, rfl⟩
    go_wp2_with fail
    refine (dateOfI_any n _ (by exact HM.out.fwd (by repeat (first | exact Below.refl _ _ | exact HB.out.mono hM1 | refine Below.drew ?_ | refine bel_drewN _ ?_ | refine Below.alloc ?_ (by first | omega | (simp; done) | (simp; omega)) _ | refine Below.setCell ?_ (by first | (show _ ≤ _; omega) | (simp; done) | (simp; omega)) _))) n0 n1).mono ?_
    rintro e w1 ⟨rfl, hb⟩
    have r0_1 : w1.cell? ⟨w.heap.size, 0, none⟩ = some (.int .i64 0) := bc hb (by first | (simp; done) | go_simp)
    have rf0_1 : w1.frozen? ⟨w.heap.size, 0, none⟩ = false := bf hb (by first | (simp; done) | (simp; omega) | (show w.heap.size < _; omega)) (by first | (simp; done) | go_simp)
    have r1_1 : w1.cell? ⟨w.heap.size, 1, none⟩ = some (.int .i64 0) := bc hb (by first | (simp; done) | go_simp)
    have rf1_1 : w1.frozen? ⟨w.heap.size, 1, none⟩ = false := bf hb (by first | (simp; done) | (simp; omega) | (show w.heap.size < _; omega)) (by first | (simp; done) | go_simp)
    have r2_1 : w1.cell? ⟨w.heap.size, 2, none⟩ = some (.int .i64 0) := bc hb (by first | (simp; done) | go_simp)
    have rf2_1 : w1.frozen? ⟨w.heap.size, 2, none⟩ = false := bf hb (by first | (simp; done) | (simp; omega) | (show w.heap.size < _; omega)) (by first | (simp; done) | go_simp)
    have rl_1 : w.heap.size < w1.heap.size := cell_lt r0_1
    have hszw1 := below_size hb
    try simp at hszw1
    have HBq : Below w.heap.size w w1 := Below.trans (by repeat (first | exact Below.refl _ _ | exact HB.out | refine Below.drew ?_ | refine bel_drewN _ ?_ | refine Below.alloc ?_ (by first | omega | (simp; done) | (simp; omega)) _ | refine Below.setCell ?_ (by first | (show _ ≤ _; omega) | (simp; done) | (simp; omega)) _)) (hb.mono (by first | omega | (simp; done) | (simp; omega)))
    have HB := Lib.hid HBq
    clear HBq hb
    go_wp2
    exact bodyPost_ret (v := .tuple #[.agg #[.int .i64 (dY n), .int .i64 (dM n), .int .i64 (dD n)], .bool true]) (by simp [results, Tryd.results7, go_sem, *]) rfl ⟨by rw [h], (by repeat (first | exact Below.refl _ _ | exact HB.out | refine Below.drew ?_ | refine bel_drewN _ ?_ | refine Below.alloc ?_ (by first | omega | (simp; done) | (simp; omega)) _ | refine Below.setCell ?_ (by first | (show _ ≤ _; omega) | (simp; done) | (simp; omega)) _))⟩
  · have h' : inR n 0 36524 = false := by simpa using h
    obtain ⟨e1, e2, e3⟩ := o_no h'
    rw [e1, e2, e3]
    clear e1 e2 e3 h
    go_enter Tryd.func7, Tryd.ntmps7
    have HB := Lib.hid (Below.refl w.heap.size w)
    go_wp2_with fail
    refine (dayValid_any _ _).mono ?_
    rintro e w1 ⟨rfl, rfl⟩
    go_wp2
    exact bodyPost_ret (v := .tuple #[.agg #[.int .i64 0, .int .i64 0, .int .i64 0], .bool false]) (by simp [results, Tryd.results7, go_sem, *]) rfl ⟨by rw [h'], (by repeat (first | exact Below.refl _ _ | exact HB.out | refine Below.drew ?_ | refine bel_drewN _ ?_ | refine Below.alloc ?_ (by first | omega | (simp; done) | (simp; omega)) _ | refine Below.setCell ?_ (by first | (show _ ≤ _; omega) | (simp; done) | (simp; omega)) _))⟩
end Go.Proofs.YtbjphookihgkpaaDoor
