/- Lattices: the program's value and what the right to call is worth; the exact laws. -/
import Derived.Test.YtblnakfkhaibnaaDoorLat6
namespace Go.Proofs.YtblnakfkhaibnaaDoor
open Go.RowKit
set_option linter.unusedVariables false
theorem latValueI0_any (s r p c k : Int) (w : World) :
    Calls Tryd.prog 20 #[.agg #[.int .i64 s, .int .i64 r, .int .i64 p], .int .i64 c, .int .i64 k] w (LvP s r p c k w) := by
  cases h : lvB s r p c k
  · exact latValue_no s r p c k w h
  · obtain ⟨h1, h2, h3⟩ := lvB_iff.1 h
    obtain ⟨⟨s0, s1⟩, _⟩ := latB_iff.1 h1
    obtain ⟨n, rfl⟩ : ∃ n : Nat, s = n := ⟨s.toNat, by omega⟩
    obtain ⟨e1, e2⟩ := lv_yes h
    unfold LvP
    rw [e1, e2, h]
    rcases h3 with rfl | h3
    · exact latValue_zero n r p c w h1 h2
    · exact latValue_call n r p c k w h1 h2 h3.1 h3.2
set_option maxHeartbeats 1000000 in
theorem latValueI_any (s r p c k : Int) (w : World) :
    Calls Tryd.prog 11 #[.agg #[.int .i64 s, .int .i64 r, .int .i64 p], .int .i64 c, .int .i64 k] w (RP (lvL s r p c k) (lvH s r p c k) w) := by
  have HV := Lib.hid (fun W => latValueI0_any s r p c k W)
  unfold LvP at HV
  generalize lvL s r p c k = X at *
  generalize lvH s r p c k = Y at *
  generalize lvB s r p c k = B at *
  go_enter Tryd.func11, Tryd.ntmps11
  have HB := Lib.hid (Below.refl w.heap.size w)
  go_wp2_with fail
  refine (HV.out _).mono ?_
  rintro e w1 ⟨rfl, hb⟩
  have b0_1 : w1.cell? ⟨w.heap.size, 0, none⟩ = some (.int .i64 s) := bc hb (by first | (simp; done) | go_simp)
  have b1_1 : w1.cell? ⟨w.heap.size, 1, none⟩ = some (.int .i64 r) := bc hb (by first | (simp; done) | go_simp)
  have b2_1 : w1.cell? ⟨w.heap.size, 2, none⟩ = some (.int .i64 p) := bc hb (by first | (simp; done) | go_simp)
  have bl_1 : w.heap.size < w1.heap.size := cell_lt b0_1
  have q0_1 : w1.cell? ⟨w.heap.size + 1, 0, none⟩ = some (.int .i64 0) := bc hb (by first | (simp; done) | go_simp)
  have qf0_1 : w1.frozen? ⟨w.heap.size + 1, 0, none⟩ = false := bf hb (by first | (simp; done) | (simp; omega) | (show w.heap.size + 1 < _; omega)) (by first | (simp; done) | go_simp)
  have q1_1 : w1.cell? ⟨w.heap.size + 1, 1, none⟩ = some (.int .i64 0) := bc hb (by first | (simp; done) | go_simp)
  have qf1_1 : w1.frozen? ⟨w.heap.size + 1, 1, none⟩ = false := bf hb (by first | (simp; done) | (simp; omega) | (show w.heap.size + 1 < _; omega)) (by first | (simp; done) | go_simp)
  have ql_1 : w.heap.size + 1 < w1.heap.size := cell_lt q0_1
  have hszw1 := below_size hb
  try simp at hszw1
  have HBq : Below w.heap.size w w1 := Below.trans (by repeat (first | exact Below.refl _ _ | exact HB.out | refine Below.drew ?_ | refine bel_drewN _ ?_ | refine Below.alloc ?_ (by first | omega | (simp; done) | (simp; omega)) _ | refine Below.setCell ?_ (by first | (show _ ≤ _; omega) | (simp; done) | (simp; omega)) _)) (hb.mono (by first | omega | (simp; done) | (simp; omega)))
  have HB := Lib.hid HBq
  clear HBq hb
  go_wp2
  refine bodyPost_ret (res2 (b := w.heap.size + 1) Tryd.results11 (by rfl) ⟨by first | (exact sc_far (by simp) (sc_same (by first | assumption | (exact ca (by assumption)) | (exact ca (ca (by assumption))) | (exact ca (ca (ca (by assumption))))))) | (exact ca (sc_far (by simp) (sc_same (by first | assumption | (exact ca (by assumption)) | (exact ca (ca (by assumption))) | (exact ca (ca (ca (by assumption)))))))) | (exact ca (ca (sc_far (by simp) (sc_same (by first | assumption | (exact ca (by assumption)) | (exact ca (ca (by assumption))) | (exact ca (ca (ca (by assumption))))))))) | (exact ca (ca (ca (sc_far (by simp) (sc_same (by first | assumption | (exact ca (by assumption)) | (exact ca (ca (by assumption))) | (exact ca (ca (ca (by assumption)))))))))), by first | (exact sc_same (sc_far (by simp) (by first | assumption | (exact ca (by assumption)) | (exact ca (ca (by assumption))) | (exact ca (ca (ca (by assumption))))))) | (exact ca (sc_same (sc_far (by simp) (by first | assumption | (exact ca (by assumption)) | (exact ca (ca (by assumption))) | (exact ca (ca (ca (by assumption)))))))) | (exact ca (ca (sc_same (sc_far (by simp) (by first | assumption | (exact ca (by assumption)) | (exact ca (ca (by assumption))) | (exact ca (ca (ca (by assumption))))))))) | (exact ca (ca (ca (sc_same (sc_far (by simp) (by first | assumption | (exact ca (by assumption)) | (exact ca (ca (by assumption))) | (exact ca (ca (ca (by assumption))))))))))⟩) rfl ⟨rfl, ?_⟩
  repeat (first | (with_reducible exact HB.out) | (with_reducible refine bel_set ?_ (by omega)) | (with_reducible refine Below.alloc ?_ (by have := HB.out.size; first | omega | (simp; omega)) _))
def mx0 (x : Int) : Int := if x < 0 then 0 else x
def cwB (s r p c k : Int) : Bool := latB s r p && (inR c 0 3000 && inR k 50 200)
def cwL (s r p c k : Int) : Int := if cwB s r p c k = true then mx0 (lvL s r p c 0 - lvH s r p c k) else 0
def cwH (s r p c k : Int) : Int := if cwB s r p c k = true then lvH s r p c 0 - lvL s r p c k else 0
theorem cwB_iff {s r p c k : Int} : cwB s r p c k = true ↔ latB s r p = true ∧ inR c 0 3000 = true ∧ inR k 50 200 = true := by
  unfold cwB; rw [Bool.and_eq_true, Bool.and_eq_true]
theorem cwB_lv {s r p c k : Int} : cwB s r p c k = true ↔ lvB s r p c 0 = true ∧ lvB s r p c k = true ∧ k ≠ 0 := by
  rw [cwB_iff, lvB_iff, lvB_iff, inR_true, inR_true]
  constructor
  · rintro ⟨a, b, c⟩; exact ⟨⟨a, b, .inl rfl⟩, ⟨a, b, .inr c⟩, by omega⟩
  · rintro ⟨⟨a, b, _⟩, ⟨_, _, c⟩, d⟩; exact ⟨a, b, by omega⟩
theorem cw_no {s r p c k : Int} (h : cwB s r p c k = false) : cwL s r p c k = 0 ∧ cwH s r p c k = 0 := by
  unfold cwL cwH; rw [if_neg (by rw [h]; simp), if_neg (by rw [h]; simp)]; exact ⟨rfl, rfl⟩
theorem cw_yes {s r p c k : Int} (h : cwB s r p c k = true) : cwL s r p c k = mx0 (lvL s r p c 0 - lvH s r p c k) ∧ cwH s r p c k = lvH s r p c 0 - lvL s r p c k := by
  unfold cwL cwH; rw [if_pos h, if_pos h]; exact ⟨rfl, rfl⟩
theorem toLattice_any (s r p : Int) (w : World) :
    Calls Tryd.prog 10 #[.agg #[.int .i64 s, .int .i64 r, .int .i64 p]] w fun ed w' => ed = .returned (.agg #[.int .i64 s, .int .i64 r, .int .i64 p]) ∧ Below w.heap.size w w' := by
  go_enter Tryd.func10, Tryd.ntmps10
  have HB := Lib.hid (Below.refl w.heap.size w)
  go_wp2
  exact bodyPost_ret (v := .agg #[.int .i64 s, .int .i64 r, .int .i64 p]) (by simp [results, Tryd.results10, go_sem]) rfl ⟨rfl, (by repeat (first | exact Below.refl _ _ | exact HB.out | refine Below.drew ?_ | refine bel_drewN _ ?_ | refine Below.alloc ?_ (by first | omega | (simp; done) | (simp; omega)) _ | refine Below.setCell ?_ (by first | (show _ ≤ _; omega) | (simp; done) | (simp; omega)) _))⟩
theorem eqRange_same (a b : Int) (w : World) :
    Calls Tryd.prog 12 #[.agg #[.int .i64 a, .int .i64 b], .agg #[.int .i64 a, .int .i64 b]] w fun e w' => e = .returned (.bool true) ∧ Below w.heap.size w w' := by
  go_enter Tryd.func12, Tryd.ntmps12
  have HB := Lib.hid (Below.refl w.heap.size w)
  go_wp2
  go_ret
  exact ⟨rfl, (by repeat (first | exact Below.refl _ _ | exact HB.out | refine Below.drew ?_ | refine bel_drewN _ ?_ | refine Below.alloc ?_ (by first | omega | (simp; done) | (simp; omega)) _ | refine Below.setCell ?_ (by first | (show _ ≤ _; omega) | (simp; done) | (simp; omega)) _))⟩
set_option maxHeartbeats 1000000 in
theorem fnExactLatticeValue_walk (s r p c k : Int) (w : World) (_w0 : True) (_w1 : (Lit.int .i64 c).wf = true) (_w2 : (Lit.int .i64 k).wf = true) :
    Calls Tryd.prog 3 #[.agg #[.int .i64 s, .int .i64 r, .int .i64 p], .int .i64 c, .int .i64 k] w fun ed w' => ed = .returned (.bool true) ∧ Below w.heap.size w w' := by
  have HS := Lib.hid (fun W => latValueS_any s r p c k W)
  have HI := Lib.hid (fun W => latValueI_any s r p c k W)
  unfold RP at HS HI
  clear _w1 _w2
  generalize lvL s r p c k = X at *
  generalize lvH s r p c k = Y at *
  go_enter Tryd.func3, Tryd.ntmps3
  have HB := Lib.hid (Below.refl w.heap.size w)
  go_wp2_with fail
  refine (toLattice_any s r p _).mono ?_
  rintro e w1 ⟨rfl, hb⟩
  have x0_1 : w1.cell? ⟨w.heap.size, 0, none⟩ = some (.int .i64 s) := bc hb (by first | (simp; done) | go_simp)
  have x1_1 : w1.cell? ⟨w.heap.size, 1, none⟩ = some (.int .i64 r) := bc hb (by first | (simp; done) | go_simp)
  have x2_1 : w1.cell? ⟨w.heap.size, 2, none⟩ = some (.int .i64 p) := bc hb (by first | (simp; done) | go_simp)
  have xl_1 : w.heap.size < w1.heap.size := cell_lt x0_1
  have hszw1 := below_size hb
  try simp at hszw1
  have HBq : Below w.heap.size w w1 := Below.trans (by repeat (first | exact Below.refl _ _ | exact HB.out | refine Below.drew ?_ | refine bel_drewN _ ?_ | refine Below.alloc ?_ (by first | omega | (simp; done) | (simp; omega)) _ | refine Below.setCell ?_ (by first | (show _ ≤ _; omega) | (simp; done) | (simp; omega)) _)) (hb.mono (by first | omega | (simp; done) | (simp; omega)))
  have HB := Lib.hid HBq
  clear HBq hb
  go_wp2_with fail
  refine (HS.out _).mono ?_
  rintro e w2 ⟨rfl, hb⟩
  have x0_2 : w2.cell? ⟨w.heap.size, 0, none⟩ = some (.int .i64 s) := bc hb (by first | exact x0_1 | exact ca x0_1 | exact ca (ca x0_1) | exact ca (ca (ca x0_1)) | (simp; done) | go_simp)
  have x1_2 : w2.cell? ⟨w.heap.size, 1, none⟩ = some (.int .i64 r) := bc hb (by first | exact x1_1 | exact ca x1_1 | exact ca (ca x1_1) | exact ca (ca (ca x1_1)) | (simp; done) | go_simp)
  have x2_2 : w2.cell? ⟨w.heap.size, 2, none⟩ = some (.int .i64 p) := bc hb (by first | exact x2_1 | exact ca x2_1 | exact ca (ca x2_1) | exact ca (ca (ca x2_1)) | (simp; done) | go_simp)
  have xl_2 : w.heap.size < w2.heap.size := cell_lt x0_2
  clear x0_1 x1_1 x2_1 xl_1
  have hszw2 := below_size hb
  try simp at hszw2
  have HBq : Below w.heap.size w w2 := Below.trans (by repeat (first | exact Below.refl _ _ | exact HB.out | refine Below.drew ?_ | refine bel_drewN _ ?_ | refine Below.alloc ?_ (by first | omega | (simp; done) | (simp; omega)) _ | refine Below.setCell ?_ (by first | (show _ ≤ _; omega) | (simp; done) | (simp; omega)) _)) (hb.mono (by first | omega | (simp; done) | (simp; omega)))
  have HB := Lib.hid HBq
  clear HBq hb
  go_wp2_with fail
  refine (toLattice_any s r p _).mono ?_
  rintro e w3 ⟨rfl, hb⟩
  have x0_3 : w3.cell? ⟨w.heap.size, 0, none⟩ = some (.int .i64 s) := bc hb (by first | exact x0_2 | exact ca x0_2 | exact ca (ca x0_2) | exact ca (ca (ca x0_2)) | (simp; done) | go_simp)
  have x1_3 : w3.cell? ⟨w.heap.size, 1, none⟩ = some (.int .i64 r) := bc hb (by first | exact x1_2 | exact ca x1_2 | exact ca (ca x1_2) | exact ca (ca (ca x1_2)) | (simp; done) | go_simp)
  have x2_3 : w3.cell? ⟨w.heap.size, 2, none⟩ = some (.int .i64 p) := bc hb (by first | exact x2_2 | exact ca x2_2 | exact ca (ca x2_2) | exact ca (ca (ca x2_2)) | (simp; done) | go_simp)
  have xl_3 : w.heap.size < w3.heap.size := cell_lt x0_3
  clear x0_2 x1_2 x2_2 xl_2
  have y0_1 : w3.cell? ⟨w2.heap.size, 0, none⟩ = some (.int .i64 X) := bc hb (by first | (simp; done) | go_simp)
  have y1_1 : w3.cell? ⟨w2.heap.size, 1, none⟩ = some (.int .i64 Y) := bc hb (by first | (simp; done) | go_simp)
  have yl_1 : w2.heap.size < w3.heap.size := cell_lt y0_1
  have hszw3 := below_size hb
  try simp at hszw3
  have HBq : Below w.heap.size w w3 := Below.trans (by repeat (first | exact Below.refl _ _ | exact HB.out | refine Below.drew ?_ | refine bel_drewN _ ?_ | refine Below.alloc ?_ (by first | omega | (simp; done) | (simp; omega)) _ | refine Below.setCell ?_ (by first | (show _ ≤ _; omega) | (simp; done) | (simp; omega)) _)) (hb.mono (by first | omega | (simp; done) | (simp; omega)))
  have HB := Lib.hid HBq
  clear HBq hb
  go_wp2_with fail
  refine (HI.out _).mono ?_
  rintro e w4 ⟨rfl, hb⟩
  have x0_4 : w4.cell? ⟨w.heap.size, 0, none⟩ = some (.int .i64 s) := bc hb (by first | exact x0_3 | exact ca x0_3 | exact ca (ca x0_3) | exact ca (ca (ca x0_3)) | (simp; done) | go_simp)
  have x1_4 : w4.cell? ⟨w.heap.size, 1, none⟩ = some (.int .i64 r) := bc hb (by first | exact x1_3 | exact ca x1_3 | exact ca (ca x1_3) | exact ca (ca (ca x1_3)) | (simp; done) | go_simp)
  have x2_4 : w4.cell? ⟨w.heap.size, 2, none⟩ = some (.int .i64 p) := bc hb (by first | exact x2_3 | exact ca x2_3 | exact ca (ca x2_3) | exact ca (ca (ca x2_3)) | (simp; done) | go_simp)
  have xl_4 : w.heap.size < w4.heap.size := cell_lt x0_4
  clear x0_3 x1_3 x2_3 xl_3
  have y0_2 : w4.cell? ⟨w2.heap.size, 0, none⟩ = some (.int .i64 X) := bc hb (by first | exact y0_1 | exact ca y0_1 | exact ca (ca y0_1) | exact ca (ca (ca y0_1)) | (simp; done) | go_simp)
  have y1_2 : w4.cell? ⟨w2.heap.size, 1, none⟩ = some (.int .i64 Y) := bc hb (by first | exact y1_1 | exact ca y1_1 | exact ca (ca y1_1) | exact ca (ca (ca y1_1)) | (simp; done) | go_simp)
  have yl_2 : w2.heap.size < w4.heap.size := cell_lt y0_2
  clear y0_1 y1_1 yl_1
  have hszw4 := below_size hb
  try simp at hszw4
  have HBq : Below w.heap.size w w4 := Below.trans (by repeat (first | exact Below.refl _ _ | exact HB.out | refine Below.drew ?_ | refine bel_drewN _ ?_ | refine Below.alloc ?_ (by first | omega | (simp; done) | (simp; omega)) _ | refine Below.setCell ?_ (by first | (show _ ≤ _; omega) | (simp; done) | (simp; omega)) _)) (hb.mono (by first | omega | (simp; done) | (simp; omega)))
  have HB := Lib.hid HBq
  clear HBq hb
  go_wp2_with fail
  refine (eqRange_same X Y _).mono ?_
  rintro e w5 ⟨rfl, hb⟩
  have x0_5 : w5.cell? ⟨w.heap.size, 0, none⟩ = some (.int .i64 s) := bc hb (by first | exact x0_4 | exact ca x0_4 | exact ca (ca x0_4) | exact ca (ca (ca x0_4)) | (simp; done) | go_simp)
  have x1_5 : w5.cell? ⟨w.heap.size, 1, none⟩ = some (.int .i64 r) := bc hb (by first | exact x1_4 | exact ca x1_4 | exact ca (ca x1_4) | exact ca (ca (ca x1_4)) | (simp; done) | go_simp)
  have x2_5 : w5.cell? ⟨w.heap.size, 2, none⟩ = some (.int .i64 p) := bc hb (by first | exact x2_4 | exact ca x2_4 | exact ca (ca x2_4) | exact ca (ca (ca x2_4)) | (simp; done) | go_simp)
  have xl_5 : w.heap.size < w5.heap.size := cell_lt x0_5
  clear x0_4 x1_4 x2_4 xl_4
  have y0_3 : w5.cell? ⟨w2.heap.size, 0, none⟩ = some (.int .i64 X) := bc hb (by first | exact y0_2 | exact ca y0_2 | exact ca (ca y0_2) | exact ca (ca (ca y0_2)) | (simp; done) | go_simp)
  have y1_3 : w5.cell? ⟨w2.heap.size, 1, none⟩ = some (.int .i64 Y) := bc hb (by first | exact y1_2 | exact ca y1_2 | exact ca (ca y1_2) | exact ca (ca (ca y1_2)) | (simp; done) | go_simp)
  have yl_3 : w2.heap.size < w5.heap.size := cell_lt y0_3
  clear y0_2 y1_2 yl_2
  have hszw5 := below_size hb
  try simp at hszw5
  have HBq : Below w.heap.size w w5 := Below.trans (by repeat (first | exact Below.refl _ _ | exact HB.out | refine Below.drew ?_ | refine bel_drewN _ ?_ | refine Below.alloc ?_ (by first | omega | (simp; done) | (simp; omega)) _ | refine Below.setCell ?_ (by first | (show _ ≤ _; omega) | (simp; done) | (simp; omega)) _)) (hb.mono (by first | omega | (simp; done) | (simp; omega)))
  have HB := Lib.hid HBq
  clear HBq hb
  go_wp2
  go_ret
  exact ⟨ret_bool (by first | rfl | simp), HB.out⟩
end Go.Proofs.YtblnakfkhaibnaaDoor
