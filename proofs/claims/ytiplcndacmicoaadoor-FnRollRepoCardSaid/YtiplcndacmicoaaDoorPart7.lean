/- Parts of years: YearPart of the reference; interest. -/
import Derived.Test.YtiplcndacmicoaaDoorPart6
namespace Go.Proofs.YtiplcndacmicoaaDoor
open Go.RowKit
set_option linter.unusedVariables false
theorem thirtyS_any (y m d y' m' d' : Int) (w : World) (h : Dt y m d) (h' : Dt y' m' d') :
    Calls Tryd.prog 36 #[.agg #[.int .i64 y, .int .i64 m, .int .i64 d], .agg #[.int .i64 y', .int .i64 m', .int .i64 d']] w fun e w' => e = .returned (.int .i64 (thD y m d y' m' d')) ∧ Below w.heap.size w w' := by
  rcases Int.lt_trichotomy d 30 with k | k | k
  · exact thirtyS_a y m d y' m' d' w h h' k
  · rcases Int.lt_or_le 30 d' with q | q
    · exact thirtyS_e y m d y' m' d' w h h' ⟨k, q⟩
    · exact thirtyS_b y m d y' m' d' w h h' ⟨k, q⟩
  · rcases Int.lt_or_le 30 d' with q | q
    · exact thirtyS_f y m d y' m' d' w h h' ⟨k, q⟩
    · exact thirtyS_c y m d y' m' d' w h h' ⟨k, q⟩
set_option maxHeartbeats 1000000 in
theorem yearPartS_0 (a b : Int) (w : World) (hs : spanB a b = true) :
    Calls Tryd.prog 30 #[.int .i64 0, .int .i64 a, .int .i64 b] w fun e w' => e = .returned (.agg #[.int .i64 (lowN (b - a) 365), .int .i64 (lowD (b - a) 365)]) ∧ Below w.heap.size w w' := by
  obtain ⟨s0, s1, s2, s3⟩ := span_iff.1 hs
  go_enter Tryd.func30, Tryd.ntmps30
  have HB := Lib.hid (Below.refl w.heap.size w)
  go_wp2_with fail
  refine (lowestS_any (b-a) 365 _ (by omega) (by omega) (by decide) (by decide)).mono ?_
  rintro e w1 ⟨rfl, hb⟩
  have r0_1 : w1.cell? ⟨w.heap.size, 0, none⟩ = some (.int .i64 0) := bc hb (by first | (simp; done) | go_simp)
  have rf0_1 : w1.frozen? ⟨w.heap.size, 0, none⟩ = false := bf hb (by first | (simp; done) | (simp; omega) | (show w.heap.size < _; omega)) (by first | (simp; done) | go_simp)
  have r1_1 : w1.cell? ⟨w.heap.size, 1, none⟩ = some (.int .i64 0) := bc hb (by first | (simp; done) | go_simp)
  have rf1_1 : w1.frozen? ⟨w.heap.size, 1, none⟩ = false := bf hb (by first | (simp; done) | (simp; omega) | (show w.heap.size < _; omega)) (by first | (simp; done) | go_simp)
  have rl_1 : w.heap.size < w1.heap.size := cell_lt r0_1
  have hszw1 := below_size hb
  try simp at hszw1
  have HBq : Below w.heap.size w w1 := Below.trans (by repeat (first | exact Below.refl _ _ | exact HB.out | refine Below.drew ?_ | refine bel_drewN _ ?_ | refine Below.alloc ?_ (by first | omega | (simp; done) | (simp; omega)) _ | refine Below.setCell ?_ (by first | (show _ ≤ _; omega) | (simp; done) | (simp; omega)) _)) (hb.mono (by first | omega | (simp; done) | (simp; omega)))
  have HB := Lib.hid HBq
  clear HBq hb
  go_wp2
  generalize lowN (b - a) 365 = x
  generalize lowD (b - a) 365 = y
  exact bodyPost_ret (v := .agg #[.int .i64 x, .int .i64 y]) (by simp [results, Tryd.results30, go_sem, *]) rfl ⟨rfl, (by repeat (first | exact Below.refl _ _ | exact HB.out | refine Below.drew ?_ | refine bel_drewN _ ?_ | refine Below.alloc ?_ (by first | omega | (simp; done) | (simp; omega)) _ | refine Below.setCell ?_ (by first | (show _ ≤ _; omega) | (simp; done) | (simp; omega)) _))⟩
set_option maxHeartbeats 1000000 in
theorem yearPartS_1 (a b : Int) (w : World) (hs : spanB a b = true) :
    Calls Tryd.prog 30 #[.int .i64 1, .int .i64 a, .int .i64 b] w fun e w' => e = .returned (.agg #[.int .i64 (lowN (b - a) 360), .int .i64 (lowD (b - a) 360)]) ∧ Below w.heap.size w w' := by
  obtain ⟨s0, s1, s2, s3⟩ := span_iff.1 hs
  go_enter Tryd.func30, Tryd.ntmps30
  have HB := Lib.hid (Below.refl w.heap.size w)
  go_wp2_with fail
  refine (lowestS_any (b-a) 360 _ (by omega) (by omega) (by decide) (by decide)).mono ?_
  rintro e w1 ⟨rfl, hb⟩
  have r0_1 : w1.cell? ⟨w.heap.size, 0, none⟩ = some (.int .i64 0) := bc hb (by first | (simp; done) | go_simp)
  have rf0_1 : w1.frozen? ⟨w.heap.size, 0, none⟩ = false := bf hb (by first | (simp; done) | (simp; omega) | (show w.heap.size < _; omega)) (by first | (simp; done) | go_simp)
  have r1_1 : w1.cell? ⟨w.heap.size, 1, none⟩ = some (.int .i64 0) := bc hb (by first | (simp; done) | go_simp)
  have rf1_1 : w1.frozen? ⟨w.heap.size, 1, none⟩ = false := bf hb (by first | (simp; done) | (simp; omega) | (show w.heap.size < _; omega)) (by first | (simp; done) | go_simp)
  have rl_1 : w.heap.size < w1.heap.size := cell_lt r0_1
  have hszw1 := below_size hb
  try simp at hszw1
  have HBq : Below w.heap.size w w1 := Below.trans (by repeat (first | exact Below.refl _ _ | exact HB.out | refine Below.drew ?_ | refine bel_drewN _ ?_ | refine Below.alloc ?_ (by first | omega | (simp; done) | (simp; omega)) _ | refine Below.setCell ?_ (by first | (show _ ≤ _; omega) | (simp; done) | (simp; omega)) _)) (hb.mono (by first | omega | (simp; done) | (simp; omega)))
  have HB := Lib.hid HBq
  clear HBq hb
  go_wp2
  generalize lowN (b - a) 360 = x
  generalize lowD (b - a) 360 = y
  exact bodyPost_ret (v := .agg #[.int .i64 x, .int .i64 y]) (by simp [results, Tryd.results30, go_sem, *]) rfl ⟨rfl, (by repeat (first | exact Below.refl _ _ | exact HB.out | refine Below.drew ?_ | refine bel_drewN _ ?_ | refine Below.alloc ?_ (by first | omega | (simp; done) | (simp; omega)) _ | refine Below.setCell ?_ (by first | (show _ ≤ _; omega) | (simp; done) | (simp; omega)) _))⟩
set_option maxHeartbeats 1000000 in
theorem yearPartS_2 (a b : Int) (w : World) (hs : spanB a b = true) :
    Calls Tryd.prog 30 #[.int .i64 2, .int .i64 a, .int .i64 b] w fun e w' => e = .returned (.agg #[.int .i64 (lowN (thN a b) 360), .int .i64 (lowD (thN a b) 360)]) ∧ Below w.heap.size w w' := by
  obtain ⟨s0, s1, s2, s3⟩ := span_iff.1 hs
  have s4 : a ≤ 36524 := by omega
  have s5 : 0 ≤ b := by omega
  have D1 := Lib.hid (date_ok ⟨s0, s4⟩).1
  have D2 := Lib.hid (date_ok ⟨s5, s2⟩).1
  obtain ⟨t0, t1⟩ := thN_bd (a := a) (b := b) ⟨s0, s4⟩ ⟨s5, s2⟩
  go_enter Tryd.func30, Tryd.ntmps30
  have HB := Lib.hid (Below.refl w.heap.size w)
  go_wp2_with fail
  refine (dateOfS_any a _ s0 s4).mono ?_
  rintro e w1 ⟨rfl, hb⟩
  have r0_1 : w1.cell? ⟨w.heap.size, 0, none⟩ = some (.int .i64 0) := bc hb (by first | (simp; done) | go_simp)
  have rf0_1 : w1.frozen? ⟨w.heap.size, 0, none⟩ = false := bf hb (by first | (simp; done) | (simp; omega) | (show w.heap.size < _; omega)) (by first | (simp; done) | go_simp)
  have r1_1 : w1.cell? ⟨w.heap.size, 1, none⟩ = some (.int .i64 0) := bc hb (by first | (simp; done) | go_simp)
  have rf1_1 : w1.frozen? ⟨w.heap.size, 1, none⟩ = false := bf hb (by first | (simp; done) | (simp; omega) | (show w.heap.size < _; omega)) (by first | (simp; done) | go_simp)
  have rl_1 : w.heap.size < w1.heap.size := cell_lt r0_1
  have hszw1 := below_size hb
  try simp at hszw1
  have HBq : Below w.heap.size w w1 := Below.trans (by repeat (first | exact Below.refl _ _ | exact HB.out | refine Below.drew ?_ | refine bel_drewN _ ?_ | refine Below.alloc ?_ (by first | omega | (simp; done) | (simp; omega)) _ | refine Below.setCell ?_ (by first | (show _ ≤ _; omega) | (simp; done) | (simp; omega)) _)) (hb.mono (by first | omega | (simp; done) | (simp; omega)))
  have HB := Lib.hid HBq
  clear HBq hb
  go_wp2_with fail
  refine (dateOfS_any b _ s5 s2).mono ?_
  rintro e w2 ⟨rfl, hb⟩
  have r0_2 : w2.cell? ⟨w.heap.size, 0, none⟩ = some (.int .i64 0) := bc hb (by first | exact r0_1 | exact ca r0_1 | exact ca (ca r0_1) | exact ca (ca (ca r0_1)) | (simp; done) | go_simp)
  have rf0_2 : w2.frozen? ⟨w.heap.size, 0, none⟩ = false := bf hb (by first | (simp; done) | (simp; omega) | (show w.heap.size < _; omega)) (by first | exact rf0_1 | exact fa (by show w.heap.size < _; omega) rf0_1 | exact fa (by show w.heap.size < _; simp; omega) (fa (by show w.heap.size < _; omega) rf0_1) | (simp; done) | go_simp)
  have r1_2 : w2.cell? ⟨w.heap.size, 1, none⟩ = some (.int .i64 0) := bc hb (by first | exact r1_1 | exact ca r1_1 | exact ca (ca r1_1) | exact ca (ca (ca r1_1)) | (simp; done) | go_simp)
  have rf1_2 : w2.frozen? ⟨w.heap.size, 1, none⟩ = false := bf hb (by first | (simp; done) | (simp; omega) | (show w.heap.size < _; omega)) (by first | exact rf1_1 | exact fa (by show w.heap.size < _; omega) rf1_1 | exact fa (by show w.heap.size < _; simp; omega) (fa (by show w.heap.size < _; omega) rf1_1) | (simp; done) | go_simp)
  have rl_2 : w.heap.size < w2.heap.size := cell_lt r0_2
  clear r0_1 rf0_1 r1_1 rf1_1 rl_1
  have hszw2 := below_size hb
  try simp at hszw2
  have HBq : Below w.heap.size w w2 := Below.trans (by repeat (first | exact Below.refl _ _ | exact HB.out | refine Below.drew ?_ | refine bel_drewN _ ?_ | refine Below.alloc ?_ (by first | omega | (simp; done) | (simp; omega)) _ | refine Below.setCell ?_ (by first | (show _ ≤ _; omega) | (simp; done) | (simp; omega)) _)) (hb.mono (by first | omega | (simp; done) | (simp; omega)))
  have HB := Lib.hid HBq
  clear HBq hb
  go_wp2_with fail
  refine (thirtyS_any _ _ _ _ _ _ _ D1.out D2.out).mono ?_
  rintro e w3 ⟨rfl, hb⟩
  have r0_3 : w3.cell? ⟨w.heap.size, 0, none⟩ = some (.int .i64 0) := bc hb (by first | exact r0_2 | exact ca r0_2 | exact ca (ca r0_2) | exact ca (ca (ca r0_2)) | (simp; done) | go_simp)
  have rf0_3 : w3.frozen? ⟨w.heap.size, 0, none⟩ = false := bf hb (by first | (simp; done) | (simp; omega) | (show w.heap.size < _; omega)) (by first | exact rf0_2 | exact fa (by show w.heap.size < _; omega) rf0_2 | exact fa (by show w.heap.size < _; simp; omega) (fa (by show w.heap.size < _; omega) rf0_2) | (simp; done) | go_simp)
  have r1_3 : w3.cell? ⟨w.heap.size, 1, none⟩ = some (.int .i64 0) := bc hb (by first | exact r1_2 | exact ca r1_2 | exact ca (ca r1_2) | exact ca (ca (ca r1_2)) | (simp; done) | go_simp)
  have rf1_3 : w3.frozen? ⟨w.heap.size, 1, none⟩ = false := bf hb (by first | (simp; done) | (simp; omega) | (show w.heap.size < _; omega)) (by first | exact rf1_2 | exact fa (by show w.heap.size < _; omega) rf1_2 | exact fa (by show w.heap.size < _; simp; omega) (fa (by show w.heap.size < _; omega) rf1_2) | (simp; done) | go_simp)
  have rl_3 : w.heap.size < w3.heap.size := cell_lt r0_3
  clear r0_2 rf0_2 r1_2 rf1_2 rl_2
  have hszw3 := below_size hb
  try simp at hszw3
  have HBq : Below w.heap.size w w3 := Below.trans (by repeat (first | exact Below.refl _ _ | exact HB.out | refine Below.drew ?_ | refine bel_drewN _ ?_ | refine Below.alloc ?_ (by first | omega | (simp; done) | (simp; omega)) _ | refine Below.setCell ?_ (by first | (show _ ≤ _; omega) | (simp; done) | (simp; omega)) _)) (hb.mono (by first | omega | (simp; done) | (simp; omega)))
  have HB := Lib.hid HBq
  clear HBq hb
  go_wp2_with fail
  refine (lowestS_any (thN a b) 360 _ (by omega) (by omega) (by decide) (by decide)).mono ?_
  rintro e w4 ⟨rfl, hb⟩
  have r0_4 : w4.cell? ⟨w.heap.size, 0, none⟩ = some (.int .i64 0) := bc hb (by first | exact r0_3 | exact ca r0_3 | exact ca (ca r0_3) | exact ca (ca (ca r0_3)) | (simp; done) | go_simp)
  have rf0_4 : w4.frozen? ⟨w.heap.size, 0, none⟩ = false := bf hb (by first | (simp; done) | (simp; omega) | (show w.heap.size < _; omega)) (by first | exact rf0_3 | exact fa (by show w.heap.size < _; omega) rf0_3 | exact fa (by show w.heap.size < _; simp; omega) (fa (by show w.heap.size < _; omega) rf0_3) | (simp; done) | go_simp)
  have r1_4 : w4.cell? ⟨w.heap.size, 1, none⟩ = some (.int .i64 0) := bc hb (by first | exact r1_3 | exact ca r1_3 | exact ca (ca r1_3) | exact ca (ca (ca r1_3)) | (simp; done) | go_simp)
  have rf1_4 : w4.frozen? ⟨w.heap.size, 1, none⟩ = false := bf hb (by first | (simp; done) | (simp; omega) | (show w.heap.size < _; omega)) (by first | exact rf1_3 | exact fa (by show w.heap.size < _; omega) rf1_3 | exact fa (by show w.heap.size < _; simp; omega) (fa (by show w.heap.size < _; omega) rf1_3) | (simp; done) | go_simp)
  have rl_4 : w.heap.size < w4.heap.size := cell_lt r0_4
  clear r0_3 rf0_3 r1_3 rf1_3 rl_3
  have hszw4 := below_size hb
  try simp at hszw4
  have HBq : Below w.heap.size w w4 := Below.trans (by repeat (first | exact Below.refl _ _ | exact HB.out | refine Below.drew ?_ | refine bel_drewN _ ?_ | refine Below.alloc ?_ (by first | omega | (simp; done) | (simp; omega)) _ | refine Below.setCell ?_ (by first | (show _ ≤ _; omega) | (simp; done) | (simp; omega)) _)) (hb.mono (by first | omega | (simp; done) | (simp; omega)))
  have HB := Lib.hid HBq
  clear HBq hb
  go_wp2
  generalize lowN (thN a b) 360 = x
  generalize lowD (thN a b) 360 = y
  exact bodyPost_ret (v := .agg #[.int .i64 x, .int .i64 y]) (by simp [results, Tryd.results30, go_sem, *]) rfl ⟨rfl, (by repeat (first | exact Below.refl _ _ | exact HB.out | refine Below.drew ?_ | refine bel_drewN _ ?_ | refine Below.alloc ?_ (by first | omega | (simp; done) | (simp; omega)) _ | refine Below.setCell ?_ (by first | (show _ ≤ _; omega) | (simp; done) | (simp; omega)) _))⟩
set_option maxHeartbeats 1000000 in
theorem yearPartS_3 (a b : Int) (w : World) (hs : spanB a b = true) :
    Calls Tryd.prog 30 #[.int .i64 3, .int .i64 a, .int .i64 b] w fun e w' => e = .returned (.agg #[.int .i64 (lowN (365 * (lpd b - lpd a) + 366 * ((b - a) - (lpd b - lpd a))) 133590), .int .i64 (lowD (365 * (lpd b - lpd a) + 366 * ((b - a) - (lpd b - lpd a))) 133590)]) ∧ Below w.heap.size w w' := by
  obtain ⟨s0, s1, s2, s3⟩ := span_iff.1 hs
  obtain ⟨l0, l1⟩ := lpd_bd s0 s1
  go_enter Tryd.func30, Tryd.ntmps30
  have HB := Lib.hid (Below.refl w.heap.size w)
  go_wp2_with fail
  refine (actual_any a b _ s0 s1 (by omega)).mono ?_
  rintro e w1 ⟨rfl, hb⟩
  have r0_1 : w1.cell? ⟨w.heap.size, 0, none⟩ = some (.int .i64 0) := bc hb (by first | (simp; done) | go_simp)
  have rf0_1 : w1.frozen? ⟨w.heap.size, 0, none⟩ = false := bf hb (by first | (simp; done) | (simp; omega) | (show w.heap.size < _; omega)) (by first | (simp; done) | go_simp)
  have r1_1 : w1.cell? ⟨w.heap.size, 1, none⟩ = some (.int .i64 0) := bc hb (by first | (simp; done) | go_simp)
  have rf1_1 : w1.frozen? ⟨w.heap.size, 1, none⟩ = false := bf hb (by first | (simp; done) | (simp; omega) | (show w.heap.size < _; omega)) (by first | (simp; done) | go_simp)
  have rl_1 : w.heap.size < w1.heap.size := cell_lt r0_1
  have hszw1 := below_size hb
  try simp at hszw1
  have HBq : Below w.heap.size w w1 := Below.trans (by repeat (first | exact Below.refl _ _ | exact HB.out | refine Below.drew ?_ | refine bel_drewN _ ?_ | refine Below.alloc ?_ (by first | omega | (simp; done) | (simp; omega)) _ | refine Below.setCell ?_ (by first | (show _ ≤ _; omega) | (simp; done) | (simp; omega)) _)) (hb.mono (by first | omega | (simp; done) | (simp; omega)))
  have HB := Lib.hid HBq
  clear HBq hb
  go_wp2_with fail
  refine (lowestS_any (365 * (lpd b - lpd a) + 366 * ((b - a) - (lpd b - lpd a))) 133590 _ (by omega) (by omega) (by decide) (by decide)).mono ?_
  rintro e w4 ⟨rfl, hb⟩
  have r0_2 : w4.cell? ⟨w.heap.size, 0, none⟩ = some (.int .i64 0) := bc hb (by first | exact r0_1 | exact ca r0_1 | exact ca (ca r0_1) | exact ca (ca (ca r0_1)) | (simp; done) | go_simp)
  have rf0_2 : w4.frozen? ⟨w.heap.size, 0, none⟩ = false := bf hb (by first | (simp; done) | (simp; omega) | (show w.heap.size < _; omega)) (by first | exact rf0_1 | exact fa (by show w.heap.size < _; omega) rf0_1 | exact fa (by show w.heap.size < _; simp; omega) (fa (by show w.heap.size < _; omega) rf0_1) | (simp; done) | go_simp)
  have r1_2 : w4.cell? ⟨w.heap.size, 1, none⟩ = some (.int .i64 0) := bc hb (by first | exact r1_1 | exact ca r1_1 | exact ca (ca r1_1) | exact ca (ca (ca r1_1)) | (simp; done) | go_simp)
  have rf1_2 : w4.frozen? ⟨w.heap.size, 1, none⟩ = false := bf hb (by first | (simp; done) | (simp; omega) | (show w.heap.size < _; omega)) (by first | exact rf1_1 | exact fa (by show w.heap.size < _; omega) rf1_1 | exact fa (by show w.heap.size < _; simp; omega) (fa (by show w.heap.size < _; omega) rf1_1) | (simp; done) | go_simp)
  have rl_2 : w.heap.size < w4.heap.size := cell_lt r0_2
  clear r0_1 rf0_1 r1_1 rf1_1 rl_1
  have hszw4 := below_size hb
  try simp at hszw4
  have HBq : Below w.heap.size w w4 := Below.trans (by repeat (first | exact Below.refl _ _ | exact HB.out | refine Below.drew ?_ | refine bel_drewN _ ?_ | refine Below.alloc ?_ (by first | omega | (simp; done) | (simp; omega)) _ | refine Below.setCell ?_ (by first | (show _ ≤ _; omega) | (simp; done) | (simp; omega)) _)) (hb.mono (by first | omega | (simp; done) | (simp; omega)))
  have HB := Lib.hid HBq
  clear HBq hb
  go_wp2
  generalize lowN (365 * (lpd b - lpd a) + 366 * ((b - a) - (lpd b - lpd a))) 133590 = x
  generalize lowD (365 * (lpd b - lpd a) + 366 * ((b - a) - (lpd b - lpd a))) 133590 = y
  exact bodyPost_ret (v := .agg #[.int .i64 x, .int .i64 y]) (by simp [results, Tryd.results30, go_sem, *]) rfl ⟨rfl, (by repeat (first | exact Below.refl _ _ | exact HB.out | refine Below.drew ?_ | refine bel_drewN _ ?_ | refine Below.alloc ?_ (by first | omega | (simp; done) | (simp; omega)) _ | refine Below.setCell ?_ (by first | (show _ ≤ _; omega) | (simp; done) | (simp; omega)) _))⟩
theorem yearPartS_any (k a b : Int) (w : World) (hv : vpart k a b = true) :
    Calls Tryd.prog 30 #[.int .i64 k, .int .i64 a, .int .i64 b] w fun e w' => e = .returned (.agg #[.int .i64 (lowN (ypN k a b) (ypD k)), .int .i64 (lowD (ypN k a b) (ypD k))]) ∧ Below w.heap.size w w' := by
  have hv' := hv
  rw [vpart_span, Bool.and_eq_true] at hv'
  obtain ⟨h, hs⟩ := hv'
  obtain ⟨k0, k1⟩ := inR_true.1 h
  have hc : k = 0 ∨ k = 1 ∨ k = 2 ∨ k = 3 := by omega
  rcases hc with rfl | rfl | rfl | rfl
  · exact yearPartS_0 a b w hs
  · exact yearPartS_1 a b w hs
  · exact yearPartS_2 a b w hs
  · exact yearPartS_3 a b w hs
end Go.Proofs.YtiplcndacmicoaaDoor
