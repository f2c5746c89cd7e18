/- Parts of years: the program's counts. -/
import Derived.Test.YtiplcndacmicoaaDoorPart1
import Derived.Test.YtiplcndacmicoaaDoorRatio5
namespace Go.Proofs.YtiplcndacmicoaaDoor
open Go.RowKit
set_option linter.unusedVariables false
theorem thN_bd {a b : Int} (ha : 0 ≤ a ∧ a ≤ 36524) (hb : 0 ≤ b ∧ b ≤ 36524) : -100000 ≤ thN a b ∧ thN a b ≤ 100000 := by
  have h := (date_ok ha).1
  have h' := (date_ok hb).1
  have t := dt_day h
  have t' := dt_day h'
  obtain ⟨⟨a1, a2⟩, ⟨a3, a4⟩, ⟨a5, a6⟩⟩ := h
  obtain ⟨⟨b1, b2⟩, ⟨b3, b4⟩, ⟨b5, b6⟩⟩ := h'
  unfold thN thD
  (repeat' split) <;> omega
set_option maxHeartbeats 2000000 in
theorem thirtyI_a (a b : Int) (w : World) (hT : MD w) (ha : 0 ≤ a ∧ a ≤ 36524) (hb : 0 ≤ b ∧ b ≤ 36524) (hyp : ((dD a)<30∧(dD b)≤30)) :
    Calls Tryd.prog 41 #[.int .i64 a, .int .i64 b] w fun e w' => e = .returned (.tuple #[.agg #[.int .i64 (lowRes (thN a b) 360).1, .int .i64 (lowRes (thN a b) 360).2.1], .bool (lowRes (thN a b) 360).2.2]) ∧ Below w.heap.size w w' := by
  have t := dt_day (date_ok ha).1
  have t' := dt_day (date_ok hb).1
  obtain ⟨⟨a1, a2⟩, ⟨a3, a4⟩, ⟨a5, a6⟩⟩ := (date_ok ha).1
  obtain ⟨⟨b1, b2⟩, ⟨b3, b4⟩, ⟨b5, b6⟩⟩ := (date_ok hb).1
  obtain ⟨h0, h1⟩ := ha
  obtain ⟨h2, h3⟩ := hb
  obtain ⟨p1, p2⟩ := hyp
  have hM1 := hT.size
  have HM := Lib.hid hT
  clear hT
  have F0 : thN a b = 360 * (dY b - dY a) + 30 * (dM b - dM a) + (dD b) - (dD a) := by unfold thN thD; (repeat' split) <;> omega
  have F := Lib.hid F0
  clear F0
  have e1 : (30 < dD a) = False := by simp; omega
  have e2 : (30 < dD b) = False := by simp; omega
  go_enter Tryd.func41, Tryd.ntmps41
  have HB := Lib.hid (Below.refl w.heap.size w)
  go_wp2_with fail
  refine (dateOfI_any a _ (by exact HM.out.fwd (by repeat (first | exact Below.refl _ _ | exact HB.out.mono hM1 | refine Below.drew ?_ | refine bel_drewN _ ?_ | refine Below.alloc ?_ (by first | omega | (simp; done) | (simp; omega)) _ | refine Below.setCell ?_ (by first | (show _ ≤ _; omega) | (simp; done) | (simp; omega)) _))) h0 h1).mono ?_
  rintro e w1 ⟨rfl, hb⟩
  have r0_1 : w1.cell? ⟨w.heap.size, 0, none⟩ = some (.int .i64 0) := bc hb (by first | (simp; done) | go_simp)
  have rf0_1 : w1.frozen? ⟨w.heap.size, 0, none⟩ = false := bf hb (by first | (simp; done) | (simp; omega) | (show w.heap.size < _; omega)) (by first | (simp; done) | go_simp)
  have r1_1 : w1.cell? ⟨w.heap.size, 1, none⟩ = some (.int .i64 0) := bc hb (by first | (simp; done) | go_simp)
  have rf1_1 : w1.frozen? ⟨w.heap.size, 1, none⟩ = false := bf hb (by first | (simp; done) | (simp; omega) | (show w.heap.size < _; omega)) (by first | (simp; done) | go_simp)
  have rl_1 : w.heap.size < w1.heap.size := cell_lt r0_1
  have hszw1 := below_size hb
  try simp at hszw1
  have HBq : Below w.heap.size w w1 := Below.trans (by repeat (first | exact Below.refl _ _ | exact HB.out | refine Below.drew ?_ | refine bel_drewN _ ?_ | refine Below.alloc ?_ (by first | omega | (simp; done) | (simp; omega)) _ | refine Below.setCell ?_ (by first | (show _ ≤ _; omega) | (simp; done) | (simp; omega)) _)) (hb.mono (by first | omega | (simp; done) | (simp; omega)))
  have HB := Lib.hid HBq
  clear HBq hb
  go_wp2_with fail
  refine (dateOfI_any b _ (by exact HM.out.fwd (by repeat (first | exact Below.refl _ _ | exact HB.out.mono hM1 | refine Below.drew ?_ | refine bel_drewN _ ?_ | refine Below.alloc ?_ (by first | omega | (simp; done) | (simp; omega)) _ | refine Below.setCell ?_ (by first | (show _ ≤ _; omega) | (simp; done) | (simp; omega)) _))) h2 h3).mono ?_
  rintro e w2 ⟨rfl, hb⟩
  have r0_2 : w2.cell? ⟨w.heap.size, 0, none⟩ = some (.int .i64 0) := bc hb (by first | exact r0_1 | exact ca r0_1 | exact ca (ca r0_1) | exact ca (ca (ca r0_1)) | (simp; done) | go_simp)
  have rf0_2 : w2.frozen? ⟨w.heap.size, 0, none⟩ = false := bf hb (by first | (simp; done) | (simp; omega) | (show w.heap.size < _; omega)) (by first | exact rf0_1 | exact fa (by show w.heap.size < _; omega) rf0_1 | exact fa (by show w.heap.size < _; simp; omega) (fa (by show w.heap.size < _; omega) rf0_1) | (simp; done) | go_simp)
  have r1_2 : w2.cell? ⟨w.heap.size, 1, none⟩ = some (.int .i64 0) := bc hb (by first | exact r1_1 | exact ca r1_1 | exact ca (ca r1_1) | exact ca (ca (ca r1_1)) | (simp; done) | go_simp)
  have rf1_2 : w2.frozen? ⟨w.heap.size, 1, none⟩ = false := bf hb (by first | (simp; done) | (simp; omega) | (show w.heap.size < _; omega)) (by first | exact rf1_1 | exact fa (by show w.heap.size < _; omega) rf1_1 | exact fa (by show w.heap.size < _; simp; omega) (fa (by show w.heap.size < _; omega) rf1_1) | (simp; done) | go_simp)
  have rl_2 : w.heap.size < w2.heap.size := cell_lt r0_2
  clear r0_1 rf0_1 r1_1 rf1_1 rl_1
  have hszw2 := below_size hb
  try simp at hszw2
  have HBq : Below w.heap.size w w2 := Below.trans (by repeat (first | exact Below.refl _ _ | exact HB.out | refine Below.drew ?_ | refine bel_drewN _ ?_ | refine Below.alloc ?_ (by first | omega | (simp; done) | (simp; omega)) _ | refine Below.setCell ?_ (by first | (show _ ≤ _; omega) | (simp; done) | (simp; omega)) _)) (hb.mono (by first | omega | (simp; done) | (simp; omega)))
  have HB := Lib.hid HBq
  clear HBq hb
  go_wp2_with fail
  refine (lowestI_any _ 360 _ (by omega) (by omega) (by omega) (by omega)).mono ?_
  rintro e w3 ⟨rfl, hb⟩
  have r0_3 : w3.cell? ⟨w.heap.size, 0, none⟩ = some (.int .i64 0) := bc hb (by first | exact r0_2 | exact ca r0_2 | exact ca (ca r0_2) | exact ca (ca (ca r0_2)) | (simp; done) | go_simp)
  have rf0_3 : w3.frozen? ⟨w.heap.size, 0, none⟩ = false := bf hb (by first | (simp; done) | (simp; omega) | (show w.heap.size < _; omega)) (by first | exact rf0_2 | exact fa (by show w.heap.size < _; omega) rf0_2 | exact fa (by show w.heap.size < _; simp; omega) (fa (by show w.heap.size < _; omega) rf0_2) | (simp; done) | go_simp)
  have r1_3 : w3.cell? ⟨w.heap.size, 1, none⟩ = some (.int .i64 0) := bc hb (by first | exact r1_2 | exact ca r1_2 | exact ca (ca r1_2) | exact ca (ca (ca r1_2)) | (simp; done) | go_simp)
  have rf1_3 : w3.frozen? ⟨w.heap.size, 1, none⟩ = false := bf hb (by first | (simp; done) | (simp; omega) | (show w.heap.size < _; omega)) (by first | exact rf1_2 | exact fa (by show w.heap.size < _; omega) rf1_2 | exact fa (by show w.heap.size < _; simp; omega) (fa (by show w.heap.size < _; omega) rf1_2) | (simp; done) | go_simp)
  have rl_3 : w.heap.size < w3.heap.size := cell_lt r0_3
  clear r0_2 rf0_2 r1_2 rf1_2 rl_2
  have hszw3 := below_size hb
  try simp at hszw3
  have HBq : Below w.heap.size w w3 := Below.trans (by repeat (first | exact Below.refl _ _ | exact HB.out | refine Below.drew ?_ | refine bel_drewN _ ?_ | refine Below.alloc ?_ (by first | omega | (simp; done) | (simp; omega)) _ | refine Below.setCell ?_ (by first | (show _ ≤ _; omega) | (simp; done) | (simp; omega)) _)) (hb.mono (by first | omega | (simp; done) | (simp; omega)))
  have HB := Lib.hid HBq
  clear HBq hb
  go_wp2
  obtain ⟨r, hr⟩ : ∃ r, lowRes (thN a b) 360 = r := ⟨_, rfl⟩
  rw [hr]
  have F1 := F.out
  try rw [Int.add_sub_cancel] at F1
  rw [F1] at hr
  rw [hr]
  exact bodyPost_ret (v := .tuple #[.agg #[.int .i64 r.1, .int .i64 r.2.1], .bool r.2.2]) (by simp [results, Tryd.results41, go_sem, *]) rfl ⟨rfl, (by repeat (first | exact Below.refl _ _ | exact HB.out | refine Below.drew ?_ | refine bel_drewN _ ?_ | refine Below.alloc ?_ (by first | omega | (simp; done) | (simp; omega)) _ | refine Below.setCell ?_ (by first | (show _ ≤ _; omega) | (simp; done) | (simp; omega)) _))⟩
set_option maxHeartbeats 2000000 in
theorem thirtyI_d (a b : Int) (w : World) (hT : MD w) (ha : 0 ≤ a ∧ a ≤ 36524) (hb : 0 ≤ b ∧ b ≤ 36524) (hyp : ((dD a)<30∧30<(dD b))) :
    Calls Tryd.prog 41 #[.int .i64 a, .int .i64 b] w fun e w' => e = .returned (.tuple #[.agg #[.int .i64 (lowRes (thN a b) 360).1, .int .i64 (lowRes (thN a b) 360).2.1], .bool (lowRes (thN a b) 360).2.2]) ∧ Below w.heap.size w w' := by
  have t := dt_day (date_ok ha).1
  have t' := dt_day (date_ok hb).1
  obtain ⟨⟨a1, a2⟩, ⟨a3, a4⟩, ⟨a5, a6⟩⟩ := (date_ok ha).1
  obtain ⟨⟨b1, b2⟩, ⟨b3, b4⟩, ⟨b5, b6⟩⟩ := (date_ok hb).1
  obtain ⟨h0, h1⟩ := ha
  obtain ⟨h2, h3⟩ := hb
  obtain ⟨p1, p2⟩ := hyp
  have hM1 := hT.size
  have HM := Lib.hid hT
  clear hT
  have F0 : thN a b = 360 * (dY b - dY a) + 30 * (dM b - dM a) + (dD b) - (dD a) := by unfold thN thD; (repeat' split) <;> omega
  have F := Lib.hid F0
  clear F0
  have e1 : (30 < dD a) = False := by simp; omega
  have e2 : (30 < dD b) = True := by simp; omega
  go_enter Tryd.func41, Tryd.ntmps41
  have HB := Lib.hid (Below.refl w.heap.size w)
  go_wp2_with fail
  refine (dateOfI_any a _ (by exact HM.out.fwd (by repeat (first | exact Below.refl _ _ | exact HB.out.mono hM1 | refine Below.drew ?_ | refine bel_drewN _ ?_ | refine Below.alloc ?_ (by first | omega | (simp; done) | (simp; omega)) _ | refine Below.setCell ?_ (by first | (show _ ≤ _; omega) | (simp; done) | (simp; omega)) _))) h0 h1).mono ?_
  rintro e w1 ⟨rfl, hb⟩
  have r0_1 : w1.cell? ⟨w.heap.size, 0, none⟩ = some (.int .i64 0) := bc hb (by first | (simp; done) | go_simp)
  have rf0_1 : w1.frozen? ⟨w.heap.size, 0, none⟩ = false := bf hb (by first | (simp; done) | (simp; omega) | (show w.heap.size < _; omega)) (by first | (simp; done) | go_simp)
  have r1_1 : w1.cell? ⟨w.heap.size, 1, none⟩ = some (.int .i64 0) := bc hb (by first | (simp; done) | go_simp)
  have rf1_1 : w1.frozen? ⟨w.heap.size, 1, none⟩ = false := bf hb (by first | (simp; done) | (simp; omega) | (show w.heap.size < _; omega)) (by first | (simp; done) | go_simp)
  have rl_1 : w.heap.size < w1.heap.size := cell_lt r0_1
  have hszw1 := below_size hb
  try simp at hszw1
  have HBq : Below w.heap.size w w1 := Below.trans (by repeat (first | exact Below.refl _ _ | exact HB.out | refine Below.drew ?_ | refine bel_drewN _ ?_ | refine Below.alloc ?_ (by first | omega | (simp; done) | (simp; omega)) _ | refine Below.setCell ?_ (by first | (show _ ≤ _; omega) | (simp; done) | (simp; omega)) _)) (hb.mono (by first | omega | (simp; done) | (simp; omega)))
  have HB := Lib.hid HBq
  clear HBq hb
  go_wp2_with fail
  refine (dateOfI_any b _ (by exact HM.out.fwd (by repeat (first | exact Below.refl _ _ | exact HB.out.mono hM1 | refine Below.drew ?_ | refine bel_drewN _ ?_ | refine Below.alloc ?_ (by first | omega | (simp; done) | (simp; omega)) _ | refine Below.setCell ?_ (by first | (show _ ≤ _; omega) | (simp; done) | (simp; omega)) _))) h2 h3).mono ?_
  rintro e w2 ⟨rfl, hb⟩
  have r0_2 : w2.cell? ⟨w.heap.size, 0, none⟩ = some (.int .i64 0) := bc hb (by first | exact r0_1 | exact ca r0_1 | exact ca (ca r0_1) | exact ca (ca (ca r0_1)) | (simp; done) | go_simp)
  have rf0_2 : w2.frozen? ⟨w.heap.size, 0, none⟩ = false := bf hb (by first | (simp; done) | (simp; omega) | (show w.heap.size < _; omega)) (by first | exact rf0_1 | exact fa (by show w.heap.size < _; omega) rf0_1 | exact fa (by show w.heap.size < _; simp; omega) (fa (by show w.heap.size < _; omega) rf0_1) | (simp; done) | go_simp)
  have r1_2 : w2.cell? ⟨w.heap.size, 1, none⟩ = some (.int .i64 0) := bc hb (by first | exact r1_1 | exact ca r1_1 | exact ca (ca r1_1) | exact ca (ca (ca r1_1)) | (simp; done) | go_simp)
  have rf1_2 : w2.frozen? ⟨w.heap.size, 1, none⟩ = false := bf hb (by first | (simp; done) | (simp; omega) | (show w.heap.size < _; omega)) (by first | exact rf1_1 | exact fa (by show w.heap.size < _; omega) rf1_1 | exact fa (by show w.heap.size < _; simp; omega) (fa (by show w.heap.size < _; omega) rf1_1) | (simp; done) | go_simp)
  have rl_2 : w.heap.size < w2.heap.size := cell_lt r0_2
  clear r0_1 rf0_1 r1_1 rf1_1 rl_1
  have hszw2 := below_size hb
  try simp at hszw2
  have HBq : Below w.heap.size w w2 := Below.trans (by repeat (first | exact Below.refl _ _ | exact HB.out | refine Below.drew ?_ | refine bel_drewN _ ?_ | refine Below.alloc ?_ (by first | omega | (simp; done) | (simp; omega)) _ | refine Below.setCell ?_ (by first | (show _ ≤ _; omega) | (simp; done) | (simp; omega)) _)) (hb.mono (by first | omega | (simp; done) | (simp; omega)))
  have HB := Lib.hid HBq
  clear HBq hb
  go_wp2_with fail
  refine (lowestI_any _ 360 _ (by omega) (by omega) (by omega) (by omega)).mono ?_
  rintro e w3 ⟨rfl, hb⟩
  have r0_3 : w3.cell? ⟨w.heap.size, 0, none⟩ = some (.int .i64 0) := bc hb (by first | exact r0_2 | exact ca r0_2 | exact ca (ca r0_2) | exact ca (ca (ca r0_2)) | (simp; done) | go_simp)
  have rf0_3 : w3.frozen? ⟨w.heap.size, 0, none⟩ = false := bf hb (by first | (simp; done) | (simp; omega) | (show w.heap.size < _; omega)) (by first | exact rf0_2 | exact fa (by show w.heap.size < _; omega) rf0_2 | exact fa (by show w.heap.size < _; simp; omega) (fa (by show w.heap.size < _; omega) rf0_2) | (simp; done) | go_simp)
  have r1_3 : w3.cell? ⟨w.heap.size, 1, none⟩ = some (.int .i64 0) := bc hb (by first | exact r1_2 | exact ca r1_2 | exact ca (ca r1_2) | exact ca (ca (ca r1_2)) | (simp; done) | go_simp)
  have rf1_3 : w3.frozen? ⟨w.heap.size, 1, none⟩ = false := bf hb (by first | (simp; done) | (simp; omega) | (show w.heap.size < _; omega)) (by first | exact rf1_2 | exact fa (by show w.heap.size < _; omega) rf1_2 | exact fa (by show w.heap.size < _; simp; omega) (fa (by show w.heap.size < _; omega) rf1_2) | (simp; done) | go_simp)
  have rl_3 : w.heap.size < w3.heap.size := cell_lt r0_3
  clear r0_2 rf0_2 r1_2 rf1_2 rl_2
  have hszw3 := below_size hb
  try simp at hszw3
  have HBq : Below w.heap.size w w3 := Below.trans (by repeat (first | exact Below.refl _ _ | exact HB.out | refine Below.drew ?_ | refine bel_drewN _ ?_ | refine Below.alloc ?_ (by first | omega | (simp; done) | (simp; omega)) _ | refine Below.setCell ?_ (by first | (show _ ≤ _; omega) | (simp; done) | (simp; omega)) _)) (hb.mono (by first | omega | (simp; done) | (simp; omega)))
  have HB := Lib.hid HBq
  clear HBq hb
  go_wp2
  obtain ⟨r, hr⟩ : ∃ r, lowRes (thN a b) 360 = r := ⟨_, rfl⟩
  rw [hr]
  have F1 := F.out
  try rw [Int.add_sub_cancel] at F1
  rw [F1] at hr
  rw [hr]
  exact bodyPost_ret (v := .tuple #[.agg #[.int .i64 r.1, .int .i64 r.2.1], .bool r.2.2]) (by simp [results, Tryd.results41, go_sem, *]) rfl ⟨rfl, (by repeat (first | exact Below.refl _ _ | exact HB.out | refine Below.drew ?_ | refine bel_drewN _ ?_ | refine Below.alloc ?_ (by first | omega | (simp; done) | (simp; omega)) _ | refine Below.setCell ?_ (by first | (show _ ≤ _; omega) | (simp; done) | (simp; omega)) _))⟩
set_option maxHeartbeats 2000000 in
theorem thirtyI_b (a b : Int) (w : World) (hT : MD w) (ha : 0 ≤ a ∧ a ≤ 36524) (hb : 0 ≤ b ∧ b ≤ 36524) (hyp : ((dD a)=30∧(dD b)≤30)) :
    Calls Tryd.prog 41 #[.int .i64 a, .int .i64 b] w fun e w' => e = .returned (.tuple #[.agg #[.int .i64 (lowRes (thN a b) 360).1, .int .i64 (lowRes (thN a b) 360).2.1], .bool (lowRes (thN a b) 360).2.2]) ∧ Below w.heap.size w w' := by
  have t := dt_day (date_ok ha).1
  have t' := dt_day (date_ok hb).1
  obtain ⟨⟨a1, a2⟩, ⟨a3, a4⟩, ⟨a5, a6⟩⟩ := (date_ok ha).1
  obtain ⟨⟨b1, b2⟩, ⟨b3, b4⟩, ⟨b5, b6⟩⟩ := (date_ok hb).1
  obtain ⟨h0, h1⟩ := ha
  obtain ⟨h2, h3⟩ := hb
  obtain ⟨p1, p2⟩ := hyp
  have hM1 := hT.size
  have HM := Lib.hid hT
  clear hT
  have F0 : thN a b = 360 * (dY b - dY a) + 30 * (dM b - dM a) + (dD b) - 30 := by unfold thN thD; (repeat' split) <;> omega
  have F := Lib.hid F0
  clear F0
  have e1 : (30 < dD a) = False := by simp; omega
  have e2 : (30 < dD b) = False := by simp; omega
  go_enter Tryd.func41, Tryd.ntmps41
  have HB := Lib.hid (Below.refl w.heap.size w)
  go_wp2_with fail
  refine (dateOfI_any a _ (by exact HM.out.fwd (by repeat (first | exact Below.refl _ _ | exact HB.out.mono hM1 | refine Below.drew ?_ | refine bel_drewN _ ?_ | refine Below.alloc ?_ (by first | omega | (simp; done) | (simp; omega)) _ | refine Below.setCell ?_ (by first | (show _ ≤ _; omega) | (simp; done) | (simp; omega)) _))) h0 h1).mono ?_
  rintro e w1 ⟨rfl, hb⟩
  have r0_1 : w1.cell? ⟨w.heap.size, 0, none⟩ = some (.int .i64 0) := bc hb (by first | (simp; done) | go_simp)
  have rf0_1 : w1.frozen? ⟨w.heap.size, 0, none⟩ = false := bf hb (by first | (simp; done) | (simp; omega) | (show w.heap.size < _; omega)) (by first | (simp; done) | go_simp)
  have r1_1 : w1.cell? ⟨w.heap.size, 1, none⟩ = some (.int .i64 0) := bc hb (by first | (simp; done) | go_simp)
  have rf1_1 : w1.frozen? ⟨w.heap.size, 1, none⟩ = false := bf hb (by first | (simp; done) | (simp; omega) | (show w.heap.size < _; omega)) (by first | (simp; done) | go_simp)
  have rl_1 : w.heap.size < w1.heap.size := cell_lt r0_1
  have hszw1 := below_size hb
  try simp at hszw1
  have HBq : Below w.heap.size w w1 := Below.trans (by repeat (first | exact Below.refl _ _ | exact HB.out | refine Below.drew ?_ | refine bel_drewN _ ?_ | refine Below.alloc ?_ (by first | omega | (simp; done) | (simp; omega)) _ | refine Below.setCell ?_ (by first | (show _ ≤ _; omega) | (simp; done) | (simp; omega)) _)) (hb.mono (by first | omega | (simp; done) | (simp; omega)))
  have HB := Lib.hid HBq
  clear HBq hb
  go_wp2_with fail
  refine (dateOfI_any b _ (by exact HM.out.fwd (by repeat (first | exact Below.refl _ _ | exact HB.out.mono hM1 | refine Below.drew ?_ | refine bel_drewN _ ?_ | refine Below.alloc ?_ (by first | omega | (simp; done) | (simp; omega)) _ | refine Below.setCell ?_ (by first | (show _ ≤ _; omega) | (simp; done) | (simp; omega)) _))) h2 h3).mono ?_
  rintro e w2 ⟨rfl, hb⟩
  have r0_2 : w2.cell? ⟨w.heap.size, 0, none⟩ = some (.int .i64 0) := bc hb (by first | exact r0_1 | exact ca r0_1 | exact ca (ca r0_1) | exact ca (ca (ca r0_1)) | (simp; done) | go_simp)
  have rf0_2 : w2.frozen? ⟨w.heap.size, 0, none⟩ = false := bf hb (by first | (simp; done) | (simp; omega) | (show w.heap.size < _; omega)) (by first | exact rf0_1 | exact fa (by show w.heap.size < _; omega) rf0_1 | exact fa (by show w.heap.size < _; simp; omega) (fa (by show w.heap.size < _; omega) rf0_1) | (simp; done) | go_simp)
  have r1_2 : w2.cell? ⟨w.heap.size, 1, none⟩ = some (.int .i64 0) := bc hb (by first | exact r1_1 | exact ca r1_1 | exact ca (ca r1_1) | exact ca (ca (ca r1_1)) | (simp; done) | go_simp)
  have rf1_2 : w2.frozen? ⟨w.heap.size, 1, none⟩ = false := bf hb (by first | (simp; done) | (simp; omega) | (show w.heap.size < _; omega)) (by first | exact rf1_1 | exact fa (by show w.heap.size < _; omega) rf1_1 | exact fa (by show w.heap.size < _; simp; omega) (fa (by show w.heap.size < _; omega) rf1_1) | (simp; done) | go_simp)
  have rl_2 : w.heap.size < w2.heap.size := cell_lt r0_2
  clear r0_1 rf0_1 r1_1 rf1_1 rl_1
  have hszw2 := below_size hb
  try simp at hszw2
  have HBq : Below w.heap.size w w2 := Below.trans (by repeat (first | exact Below.refl _ _ | exact HB.out | refine Below.drew ?_ | refine bel_drewN _ ?_ | refine Below.alloc ?_ (by first | omega | (simp; done) | (simp; omega)) _ | refine Below.setCell ?_ (by first | (show _ ≤ _; omega) | (simp; done) | (simp; omega)) _)) (hb.mono (by first | omega | (simp; done) | (simp; omega)))
  have HB := Lib.hid HBq
  clear HBq hb
  go_wp2_with fail
  refine (lowestI_any _ 360 _ (by omega) (by omega) (by omega) (by omega)).mono ?_
  rintro e w3 ⟨rfl, hb⟩
  have r0_3 : w3.cell? ⟨w.heap.size, 0, none⟩ = some (.int .i64 0) := bc hb (by first | exact r0_2 | exact ca r0_2 | exact ca (ca r0_2) | exact ca (ca (ca r0_2)) | (simp; done) | go_simp)
  have rf0_3 : w3.frozen? ⟨w.heap.size, 0, none⟩ = false := bf hb (by first | (simp; done) | (simp; omega) | (show w.heap.size < _; omega)) (by first | exact rf0_2 | exact fa (by show w.heap.size < _; omega) rf0_2 | exact fa (by show w.heap.size < _; simp; omega) (fa (by show w.heap.size < _; omega) rf0_2) | (simp; done) | go_simp)
  have r1_3 : w3.cell? ⟨w.heap.size, 1, none⟩ = some (.int .i64 0) := bc hb (by first | exact r1_2 | exact ca r1_2 | exact ca (ca r1_2) | exact ca (ca (ca r1_2)) | (simp; done) | go_simp)
  have rf1_3 : w3.frozen? ⟨w.heap.size, 1, none⟩ = false := bf hb (by first | (simp; done) | (simp; omega) | (show w.heap.size < _; omega)) (by first | exact rf1_2 | exact fa (by show w.heap.size < _; omega) rf1_2 | exact fa (by show w.heap.size < _; simp; omega) (fa (by show w.heap.size < _; omega) rf1_2) | (simp; done) | go_simp)
  have rl_3 : w.heap.size < w3.heap.size := cell_lt r0_3
  clear r0_2 rf0_2 r1_2 rf1_2 rl_2
  have hszw3 := below_size hb
  try simp at hszw3
  have HBq : Below w.heap.size w w3 := Below.trans (by repeat (first | exact Below.refl _ _ | exact HB.out | refine Below.drew ?_ | refine bel_drewN _ ?_ | refine Below.alloc ?_ (by first | omega | (simp; done) | (simp; omega)) _ | refine Below.setCell ?_ (by first | (show _ ≤ _; omega) | (simp; done) | (simp; omega)) _)) (hb.mono (by first | omega | (simp; done) | (simp; omega)))
  have HB := Lib.hid HBq
  clear HBq hb
  go_wp2
  obtain ⟨r, hr⟩ : ∃ r, lowRes (thN a b) 360 = r := ⟨_, rfl⟩
  rw [hr]
  have F1 := F.out
  try rw [Int.add_sub_cancel] at F1
  rw [F1] at hr
  rw [hr]
  exact bodyPost_ret (v := .tuple #[.agg #[.int .i64 r.1, .int .i64 r.2.1], .bool r.2.2]) (by simp [results, Tryd.results41, go_sem, *]) rfl ⟨rfl, (by repeat (first | exact Below.refl _ _ | exact HB.out | refine Below.drew ?_ | refine bel_drewN _ ?_ | refine Below.alloc ?_ (by first | omega | (simp; done) | (simp; omega)) _ | refine Below.setCell ?_ (by first | (show _ ≤ _; omega) | (simp; done) | (simp; omega)) _))⟩
set_option maxHeartbeats 2000000 in
theorem thirtyI_c (a b : Int) (w : World) (hT : MD w) (ha : 0 ≤ a ∧ a ≤ 36524) (hb : 0 ≤ b ∧ b ≤ 36524) (hyp : (30<(dD a)∧(dD b)≤30)) :
    Calls Tryd.prog 41 #[.int .i64 a, .int .i64 b] w fun e w' => e = .returned (.tuple #[.agg #[.int .i64 (lowRes (thN a b) 360).1, .int .i64 (lowRes (thN a b) 360).2.1], .bool (lowRes (thN a b) 360).2.2]) ∧ Below w.heap.size w w' := by
  have t := dt_day (date_ok ha).1
  have t' := dt_day (date_ok hb).1
  obtain ⟨⟨a1, a2⟩, ⟨a3, a4⟩, ⟨a5, a6⟩⟩ := (date_ok ha).1
  obtain ⟨⟨b1, b2⟩, ⟨b3, b4⟩, ⟨b5, b6⟩⟩ := (date_ok hb).1
  obtain ⟨h0, h1⟩ := ha
  obtain ⟨h2, h3⟩ := hb
  obtain ⟨p1, p2⟩ := hyp
  have hM1 := hT.size
  have HM := Lib.hid hT
  clear hT
  have F0 : thN a b = 360 * (dY b - dY a) + 30 * (dM b - dM a) + (dD b) - 30 := by unfold thN thD; (repeat' split) <;> omega
  have F := Lib.hid F0
  clear F0
  have e1 : (30 < dD a) = True := by simp; omega
  have e2 : (30 < dD b) = False := by simp; omega
  go_enter Tryd.func41, Tryd.ntmps41
  have HB := Lib.hid (Below.refl w.heap.size w)
  go_wp2_with fail
  refine (dateOfI_any a _ (by exact HM.out.fwd (by repeat (first | exact Below.refl _ _ | exact HB.out.mono hM1 | refine Below.drew ?_ | refine bel_drewN _ ?_ | refine Below.alloc ?_ (by first | omega | (simp; done) | (simp; omega)) _ | refine Below.setCell ?_ (by first | (show _ ≤ _; omega) | (simp; done) | (simp; omega)) _))) h0 h1).mono ?_
  rintro e w1 ⟨rfl, hb⟩
  have r0_1 : w1.cell? ⟨w.heap.size, 0, none⟩ = some (.int .i64 0) := bc hb (by first | (simp; done) | go_simp)
  have rf0_1 : w1.frozen? ⟨w.heap.size, 0, none⟩ = false := bf hb (by first | (simp; done) | (simp; omega) | (show w.heap.size < _; omega)) (by first | (simp; done) | go_simp)
  have r1_1 : w1.cell? ⟨w.heap.size, 1, none⟩ = some (.int .i64 0) := bc hb (by first | (simp; done) | go_simp)
  have rf1_1 : w1.frozen? ⟨w.heap.size, 1, none⟩ = false := bf hb (by first | (simp; done) | (simp; omega) | (show w.heap.size < _; omega)) (by first | (simp; done) | go_simp)
  have rl_1 : w.heap.size < w1.heap.size := cell_lt r0_1
  have hszw1 := below_size hb
  try simp at hszw1
  have HBq : Below w.heap.size w w1 := Below.trans (by repeat (first | exact Below.refl _ _ | exact HB.out | refine Below.drew ?_ | refine bel_drewN _ ?_ | refine Below.alloc ?_ (by first | omega | (simp; done) | (simp; omega)) _ | refine Below.setCell ?_ (by first | (show _ ≤ _; omega) | (simp; done) | (simp; omega)) _)) (hb.mono (by first | omega | (simp; done) | (simp; omega)))
  have HB := Lib.hid HBq
  clear HBq hb
  go_wp2_with fail
  refine (dateOfI_any b _ (by exact HM.out.fwd (by repeat (first | exact Below.refl _ _ | exact HB.out.mono hM1 | refine Below.drew ?_ | refine bel_drewN _ ?_ | refine Below.alloc ?_ (by first | omega | (simp; done) | (simp; omega)) _ | refine Below.setCell ?_ (by first | (show _ ≤ _; omega) | (simp; done) | (simp; omega)) _))) h2 h3).mono ?_
  rintro e w2 ⟨rfl, hb⟩
  have r0_2 : w2.cell? ⟨w.heap.size, 0, none⟩ = some (.int .i64 0) := bc hb (by first | exact r0_1 | exact ca r0_1 | exact ca (ca r0_1) | exact ca (ca (ca r0_1)) | (simp; done) | go_simp)
  have rf0_2 : w2.frozen? ⟨w.heap.size, 0, none⟩ = false := bf hb (by first | (simp; done) | (simp; omega) | (show w.heap.size < _; omega)) (by first | exact rf0_1 | exact fa (by show w.heap.size < _; omega) rf0_1 | exact fa (by show w.heap.size < _; simp; omega) (fa (by show w.heap.size < _; omega) rf0_1) | (simp; done) | go_simp)
  have r1_2 : w2.cell? ⟨w.heap.size, 1, none⟩ = some (.int .i64 0) := bc hb (by first | exact r1_1 | exact ca r1_1 | exact ca (ca r1_1) | exact ca (ca (ca r1_1)) | (simp; done) | go_simp)
  have rf1_2 : w2.frozen? ⟨w.heap.size, 1, none⟩ = false := bf hb (by first | (simp; done) | (simp; omega) | (show w.heap.size < _; omega)) (by first | exact rf1_1 | exact fa (by show w.heap.size < _; omega) rf1_1 | exact fa (by show w.heap.size < _; simp; omega) (fa (by show w.heap.size < _; omega) rf1_1) | (simp; done) | go_simp)
  have rl_2 : w.heap.size < w2.heap.size := cell_lt r0_2
  clear r0_1 rf0_1 r1_1 rf1_1 rl_1
  have hszw2 := below_size hb
  try simp at hszw2
  have HBq : Below w.heap.size w w2 := Below.trans (by repeat (first | exact Below.refl _ _ | exact HB.out | refine Below.drew ?_ | refine bel_drewN _ ?_ | refine Below.alloc ?_ (by first | omega | (simp; done) | (simp; omega)) _ | refine Below.setCell ?_ (by first | (show _ ≤ _; omega) | (simp; done) | (simp; omega)) _)) (hb.mono (by first | omega | (simp; done) | (simp; omega)))
  have HB := Lib.hid HBq
  clear HBq hb
  go_wp2_with fail
  refine (lowestI_any _ 360 _ (by omega) (by omega) (by omega) (by omega)).mono ?_
  rintro e w3 ⟨rfl, hb⟩
  have r0_3 : w3.cell? ⟨w.heap.size, 0, none⟩ = some (.int .i64 0) := bc hb (by first | exact r0_2 | exact ca r0_2 | exact ca (ca r0_2) | exact ca (ca (ca r0_2)) | (simp; done) | go_simp)
  have rf0_3 : w3.frozen? ⟨w.heap.size, 0, none⟩ = false := bf hb (by first | (simp; done) | (simp; omega) | (show w.heap.size < _; omega)) (by first | exact rf0_2 | exact fa (by show w.heap.size < _; omega) rf0_2 | exact fa (by show w.heap.size < _; simp; omega) (fa (by show w.heap.size < _; omega) rf0_2) | (simp; done) | go_simp)
  have r1_3 : w3.cell? ⟨w.heap.size, 1, none⟩ = some (.int .i64 0) := bc hb (by first | exact r1_2 | exact ca r1_2 | exact ca (ca r1_2) | exact ca (ca (ca r1_2)) | (simp; done) | go_simp)
  have rf1_3 : w3.frozen? ⟨w.heap.size, 1, none⟩ = false := bf hb (by first | (simp; done) | (simp; omega) | (show w.heap.size < _; omega)) (by first | exact rf1_2 | exact fa (by show w.heap.size < _; omega) rf1_2 | exact fa (by show w.heap.size < _; simp; omega) (fa (by show w.heap.size < _; omega) rf1_2) | (simp; done) | go_simp)
  have rl_3 : w.heap.size < w3.heap.size := cell_lt r0_3
  clear r0_2 rf0_2 r1_2 rf1_2 rl_2
  have hszw3 := below_size hb
  try simp at hszw3
  have HBq : Below w.heap.size w w3 := Below.trans (by repeat (first | exact Below.refl _ _ | exact HB.out | refine Below.drew ?_ | refine bel_drewN _ ?_ | refine Below.alloc ?_ (by first | omega | (simp; done) | (simp; omega)) _ | refine Below.setCell ?_ (by first | (show _ ≤ _; omega) | (simp; done) | (simp; omega)) _)) (hb.mono (by first | omega | (simp; done) | (simp; omega)))
  have HB := Lib.hid HBq
  clear HBq hb
  go_wp2
  obtain ⟨r, hr⟩ : ∃ r, lowRes (thN a b) 360 = r := ⟨_, rfl⟩
  rw [hr]
  have F1 := F.out
  try rw [Int.add_sub_cancel] at F1
  rw [F1] at hr
  rw [hr]
  exact bodyPost_ret (v := .tuple #[.agg #[.int .i64 r.1, .int .i64 r.2.1], .bool r.2.2]) (by simp [results, Tryd.results41, go_sem, *]) rfl ⟨rfl, (by repeat (first | exact Below.refl _ _ | exact HB.out | refine Below.drew ?_ | refine bel_drewN _ ?_ | refine Below.alloc ?_ (by first | omega | (simp; done) | (simp; omega)) _ | refine Below.setCell ?_ (by first | (show _ ≤ _; omega) | (simp; done) | (simp; omega)) _))⟩
set_option maxHeartbeats 2000000 in
theorem thirtyI_e (a b : Int) (w : World) (hT : MD w) (ha : 0 ≤ a ∧ a ≤ 36524) (hb : 0 ≤ b ∧ b ≤ 36524) (hyp : ((dD a)=30∧30<(dD b))) :
    Calls Tryd.prog 41 #[.int .i64 a, .int .i64 b] w fun e w' => e = .returned (.tuple #[.agg #[.int .i64 (lowRes (thN a b) 360).1, .int .i64 (lowRes (thN a b) 360).2.1], .bool (lowRes (thN a b) 360).2.2]) ∧ Below w.heap.size w w' := by
  have t := dt_day (date_ok ha).1
  have t' := dt_day (date_ok hb).1
  obtain ⟨⟨a1, a2⟩, ⟨a3, a4⟩, ⟨a5, a6⟩⟩ := (date_ok ha).1
  obtain ⟨⟨b1, b2⟩, ⟨b3, b4⟩, ⟨b5, b6⟩⟩ := (date_ok hb).1
  obtain ⟨h0, h1⟩ := ha
  obtain ⟨h2, h3⟩ := hb
  obtain ⟨p1, p2⟩ := hyp
  have hM1 := hT.size
  have HM := Lib.hid hT
  clear hT
  have F0 : thN a b = 360 * (dY b - dY a) + 30 * (dM b - dM a) + 30 - 30 := by unfold thN thD; (repeat' split) <;> omega
  have F := Lib.hid F0
  clear F0
  have e1 : (30 < dD a) = False := by simp; omega
  have e2 : (30 < dD b) = True := by simp; omega
  go_enter Tryd.func41, Tryd.ntmps41
  have HB := Lib.hid (Below.refl w.heap.size w)
  go_wp2_with fail
  refine (dateOfI_any a _ (by exact HM.out.fwd (by repeat (first | exact Below.refl _ _ | exact HB.out.mono hM1 | refine Below.drew ?_ | refine bel_drewN _ ?_ | refine Below.alloc ?_ (by first | omega | (simp; done) | (simp; omega)) _ | refine Below.setCell ?_ (by first | (show _ ≤ _; omega) | (simp; done) | (simp; omega)) _))) h0 h1).mono ?_
  rintro e w1 ⟨rfl, hb⟩
  have r0_1 : w1.cell? ⟨w.heap.size, 0, none⟩ = some (.int .i64 0) := bc hb (by first | (simp; done) | go_simp)
  have rf0_1 : w1.frozen? ⟨w.heap.size, 0, none⟩ = false := bf hb (by first | (simp; done) | (simp; omega) | (show w.heap.size < _; omega)) (by first | (simp; done) | go_simp)
  have r1_1 : w1.cell? ⟨w.heap.size, 1, none⟩ = some (.int .i64 0) := bc hb (by first | (simp; done) | go_simp)
  have rf1_1 : w1.frozen? ⟨w.heap.size, 1, none⟩ = false := bf hb (by first | (simp; done) | (simp; omega) | (show w.heap.size < _; omega)) (by first | (simp; done) | go_simp)
  have rl_1 : w.heap.size < w1.heap.size := cell_lt r0_1
  have hszw1 := below_size hb
  try simp at hszw1
  have HBq : Below w.heap.size w w1 := Below.trans (by repeat (first | exact Below.refl _ _ | exact HB.out | refine Below.drew ?_ | refine bel_drewN _ ?_ | refine Below.alloc ?_ (by first | omega | (simp; done) | (simp; omega)) _ | refine Below.setCell ?_ (by first | (show _ ≤ _; omega) | (simp; done) | (simp; omega)) _)) (hb.mono (by first | omega | (simp; done) | (simp; omega)))
  have HB := Lib.hid HBq
  clear HBq hb
  go_wp2_with fail
  refine (dateOfI_any b _ (by exact HM.out.fwd (by repeat (first | exact Below.refl _ _ | exact HB.out.mono hM1 | refine Below.drew ?_ | refine bel_drewN _ ?_ | refine Below.alloc ?_ (by first | omega | (simp; done) | (simp; omega)) _ | refine Below.setCell ?_ (by first | (show _ ≤ _; omega) | (simp; done) | (simp; omega)) _))) h2 h3).mono ?_
  rintro e w2 ⟨rfl, hb⟩
  have r0_2 : w2.cell? ⟨w.heap.size, 0, none⟩ = some (.int .i64 0) := bc hb (by first | exact r0_1 | exact ca r0_1 | exact ca (ca r0_1) | exact ca (ca (ca r0_1)) | (simp; done) | go_simp)
  have rf0_2 : w2.frozen? ⟨w.heap.size, 0, none⟩ = false := bf hb (by first | (simp; done) | (simp; omega) | (show w.heap.size < _; omega)) (by first | exact rf0_1 | exact fa (by show w.heap.size < _; omega) rf0_1 | exact fa (by show w.heap.size < _; simp; omega) (fa (by show w.heap.size < _; omega) rf0_1) | (simp; done) | go_simp)
  have r1_2 : w2.cell? ⟨w.heap.size, 1, none⟩ = some (.int .i64 0) := bc hb (by first | exact r1_1 | exact ca r1_1 | exact ca (ca r1_1) | exact ca (ca (ca r1_1)) | (simp; done) | go_simp)
  have rf1_2 : w2.frozen? ⟨w.heap.size, 1, none⟩ = false := bf hb (by first | (simp; done) | (simp; omega) | (show w.heap.size < _; omega)) (by first | exact rf1_1 | exact fa (by show w.heap.size < _; omega) rf1_1 | exact fa (by show w.heap.size < _; simp; omega) (fa (by show w.heap.size < _; omega) rf1_1) | (simp; done) | go_simp)
  have rl_2 : w.heap.size < w2.heap.size := cell_lt r0_2
  clear r0_1 rf0_1 r1_1 rf1_1 rl_1
  have hszw2 := below_size hb
  try simp at hszw2
  have HBq : Below w.heap.size w w2 := Below.trans (by repeat (first | exact Below.refl _ _ | exact HB.out | refine Below.drew ?_ | refine bel_drewN _ ?_ | refine Below.alloc ?_ (by first | omega | (simp; done) | (simp; omega)) _ | refine Below.setCell ?_ (by first | (show _ ≤ _; omega) | (simp; done) | (simp; omega)) _)) (hb.mono (by first | omega | (simp; done) | (simp; omega)))
  have HB := Lib.hid HBq
  clear HBq hb
  go_wp2_with fail
  refine (lowestI_any _ 360 _ (by omega) (by omega) (by omega) (by omega)).mono ?_
  rintro e w3 ⟨rfl, hb⟩
  have r0_3 : w3.cell? ⟨w.heap.size, 0, none⟩ = some (.int .i64 0) := bc hb (by first | exact r0_2 | exact ca r0_2 | exact ca (ca r0_2) | exact ca (ca (ca r0_2)) | (simp; done) | go_simp)
  have rf0_3 : w3.frozen? ⟨w.heap.size, 0, none⟩ = false := bf hb (by first | (simp; done) | (simp; omega) | (show w.heap.size < _; omega)) (by first | exact rf0_2 | exact fa (by show w.heap.size < _; omega) rf0_2 | exact fa (by show w.heap.size < _; simp; omega) (fa (by show w.heap.size < _; omega) rf0_2) | (simp; done) | go_simp)
  have r1_3 : w3.cell? ⟨w.heap.size, 1, none⟩ = some (.int .i64 0) := bc hb (by first | exact r1_2 | exact ca r1_2 | exact ca (ca r1_2) | exact ca (ca (ca r1_2)) | (simp; done) | go_simp)
  have rf1_3 : w3.frozen? ⟨w.heap.size, 1, none⟩ = false := bf hb (by first | (simp; done) | (simp; omega) | (show w.heap.size < _; omega)) (by first | exact rf1_2 | exact fa (by show w.heap.size < _; omega) rf1_2 | exact fa (by show w.heap.size < _; simp; omega) (fa (by show w.heap.size < _; omega) rf1_2) | (simp; done) | go_simp)
  have rl_3 : w.heap.size < w3.heap.size := cell_lt r0_3
  clear r0_2 rf0_2 r1_2 rf1_2 rl_2
  have hszw3 := below_size hb
  try simp at hszw3
  have HBq : Below w.heap.size w w3 := Below.trans (by repeat (first | exact Below.refl _ _ | exact HB.out | refine Below.drew ?_ | refine bel_drewN _ ?_ | refine Below.alloc ?_ (by first | omega | (simp; done) | (simp; omega)) _ | refine Below.setCell ?_ (by first | (show _ ≤ _; omega) | (simp; done) | (simp; omega)) _)) (hb.mono (by first | omega | (simp; done) | (simp; omega)))
  have HB := Lib.hid HBq
  clear HBq hb
  go_wp2
  obtain ⟨r, hr⟩ : ∃ r, lowRes (thN a b) 360 = r := ⟨_, rfl⟩
  rw [hr]
  have F1 := F.out
  try rw [Int.add_sub_cancel] at F1
  rw [F1] at hr
  rw [hr]
  exact bodyPost_ret (v := .tuple #[.agg #[.int .i64 r.1, .int .i64 r.2.1], .bool r.2.2]) (by simp [results, Tryd.results41, go_sem, *]) rfl ⟨rfl, (by repeat (first | exact Below.refl _ _ | exact HB.out | refine Below.drew ?_ | refine bel_drewN _ ?_ | refine Below.alloc ?_ (by first | omega | (simp; done) | (simp; omega)) _ | refine Below.setCell ?_ (by first | (show _ ≤ _; omega) | (simp; done) | (simp; omega)) _))⟩
set_option maxHeartbeats 2000000 in
theorem thirtyI_f (a b : Int) (w : World) (hT : MD w) (ha : 0 ≤ a ∧ a ≤ 36524) (hb : 0 ≤ b ∧ b ≤ 36524) (hyp : (30<(dD a)∧30<(dD b))) :
    Calls Tryd.prog 41 #[.int .i64 a, .int .i64 b] w fun e w' => e = .returned (.tuple #[.agg #[.int .i64 (lowRes (thN a b) 360).1, .int .i64 (lowRes (thN a b) 360).2.1], .bool (lowRes (thN a b) 360).2.2]) ∧ Below w.heap.size w w' := by
  have t := dt_day (date_ok ha).1
  have t' := dt_day (date_ok hb).1
  obtain ⟨⟨a1, a2⟩, ⟨a3, a4⟩, ⟨a5, a6⟩⟩ := (date_ok ha).1
  obtain ⟨⟨b1, b2⟩, ⟨b3, b4⟩, ⟨b5, b6⟩⟩ := (date_ok hb).1
  obtain ⟨h0, h1⟩ := ha
  obtain ⟨h2, h3⟩ := hb
  obtain ⟨p1, p2⟩ := hyp
  have hM1 := hT.size
  have HM := Lib.hid hT
  clear hT
  have F0 : thN a b = 360 * (dY b - dY a) + 30 * (dM b - dM a) + 30 - 30 := by unfold thN thD; (repeat' split) <;> omega
  have F := Lib.hid F0
  clear F0
  have e1 : (30 < dD a) = True := by simp; omega
  have e2 : (30 < dD b) = True := by simp; omega
  go_enter Tryd.func41, Tryd.ntmps41
  have HB := Lib.hid (Below.refl w.heap.size w)
  go_wp2_with fail
  refine (dateOfI_any a _ (by exact HM.out.fwd (by repeat (first | exact Below.refl _ _ | exact HB.out.mono hM1 | refine Below.drew ?_ | refine bel_drewN _ ?_ | refine Below.alloc ?_ (by first | omega | (simp; done) | (simp; omega)) _ | refine Below.setCell ?_ (by first | (show _ ≤ _; omega) | (simp; done) | (simp; omega)) _))) h0 h1).mono ?_
  rintro e w1 ⟨rfl, hb⟩
  have r0_1 : w1.cell? ⟨w.heap.size, 0, none⟩ = some (.int .i64 0) := bc hb (by first | (simp; done) | go_simp)
  have rf0_1 : w1.frozen? ⟨w.heap.size, 0, none⟩ = false := bf hb (by first | (simp; done) | (simp; omega) | (show w.heap.size < _; omega)) (by first | (simp; done) | go_simp)
  have r1_1 : w1.cell? ⟨w.heap.size, 1, none⟩ = some (.int .i64 0) := bc hb (by first | (simp; done) | go_simp)
  have rf1_1 : w1.frozen? ⟨w.heap.size, 1, none⟩ = false := bf hb (by first | (simp; done) | (simp; omega) | (show w.heap.size < _; omega)) (by first | (simp; done) | go_simp)
  have rl_1 : w.heap.size < w1.heap.size := cell_lt r0_1
  have hszw1 := below_size hb
  try simp at hszw1
  have HBq : Below w.heap.size w w1 := Below.trans (by repeat (first | exact Below.refl _ _ | exact HB.out | refine Below.drew ?_ | refine bel_drewN _ ?_ | refine Below.alloc ?_ (by first | omega | (simp; done) | (simp; omega)) _ | refine Below.setCell ?_ (by first | (show _ ≤ _; omega) | (simp; done) | (simp; omega)) _)) (hb.mono (by first | omega | (simp; done) | (simp; omega)))
  have HB := Lib.hid HBq
  clear HBq hb
  go_wp2_with fail
  refine (dateOfI_any b _ (by exact HM.out.fwd (by repeat (first | exact Below.refl _ _ | exact HB.out.mono hM1 | refine Below.drew ?_ | refine bel_drewN _ ?_ | refine Below.alloc ?_ (by first | omega | (simp; done) | (simp; omega)) _ | refine Below.setCell ?_ (by first | (show _ ≤ _; omega) | (simp; done) | (simp; omega)) _))) h2 h3).mono ?_
  rintro e w2 ⟨rfl, hb⟩
  have r0_2 : w2.cell? ⟨w.heap.size, 0, none⟩ = some (.int .i64 0) := bc hb (by first | exact r0_1 | exact ca r0_1 | exact ca (ca r0_1) | exact ca (ca (ca r0_1)) | (simp; done) | go_simp)
  have rf0_2 : w2.frozen? ⟨w.heap.size, 0, none⟩ = false := bf hb (by first | (simp; done) | (simp; omega) | (show w.heap.size < _; omega)) (by first | exact rf0_1 | exact fa (by show w.heap.size < _; omega) rf0_1 | exact fa (by show w.heap.size < _; simp; omega) (fa (by show w.heap.size < _; omega) rf0_1) | (simp; done) | go_simp)
  have r1_2 : w2.cell? ⟨w.heap.size, 1, none⟩ = some (.int .i64 0) := bc hb (by first | exact r1_1 | exact ca r1_1 | exact ca (ca r1_1) | exact ca (ca (ca r1_1)) | (simp; done) | go_simp)
  have rf1_2 : w2.frozen? ⟨w.heap.size, 1, none⟩ = false := bf hb (by first | (simp; done) | (simp; omega) | (show w.heap.size < _; omega)) (by first | exact rf1_1 | exact fa (by show w.heap.size < _; omega) rf1_1 | exact fa (by show w.heap.size < _; simp; omega) (fa (by show w.heap.size < _; omega) rf1_1) | (simp; done) | go_simp)
  have rl_2 : w.heap.size < w2.heap.size := cell_lt r0_2
  clear r0_1 rf0_1 r1_1 rf1_1 rl_1
  have hszw2 := below_size hb
  try simp at hszw2
  have HBq : Below w.heap.size w w2 := Below.trans (by repeat (first | exact Below.refl _ _ | exact HB.out | refine Below.drew ?_ | refine bel_drewN _ ?_ | refine Below.alloc ?_ (by first | omega | (simp; done) | (simp; omega)) _ | refine Below.setCell ?_ (by first | (show _ ≤ _; omega) | (simp; done) | (simp; omega)) _)) (hb.mono (by first | omega | (simp; done) | (simp; omega)))
  have HB := Lib.hid HBq
  clear HBq hb
  go_wp2_with fail
  refine (lowestI_any _ 360 _ (by omega) (by omega) (by omega) (by omega)).mono ?_
  rintro e w3 ⟨rfl, hb⟩
  have r0_3 : w3.cell? ⟨w.heap.size, 0, none⟩ = some (.int .i64 0) := bc hb (by first | exact r0_2 | exact ca r0_2 | exact ca (ca r0_2) | exact ca (ca (ca r0_2)) | (simp; done) | go_simp)
  have rf0_3 : w3.frozen? ⟨w.heap.size, 0, none⟩ = false := bf hb (by first | (simp; done) | (simp; omega) | (show w.heap.size < _; omega)) (by first | exact rf0_2 | exact fa (by show w.heap.size < _; omega) rf0_2 | exact fa (by show w.heap.size < _; simp; omega) (fa (by show w.heap.size < _; omega) rf0_2) | (simp; done) | go_simp)
  have r1_3 : w3.cell? ⟨w.heap.size, 1, none⟩ = some (.int .i64 0) := bc hb (by first | exact r1_2 | exact ca r1_2 | exact ca (ca r1_2) | exact ca (ca (ca r1_2)) | (simp; done) | go_simp)
  have rf1_3 : w3.frozen? ⟨w.heap.size, 1, none⟩ = false := bf hb (by first | (simp; done) | (simp; omega) | (show w.heap.size < _; omega)) (by first | exact rf1_2 | exact fa (by show w.heap.size < _; omega) rf1_2 | exact fa (by show w.heap.size < _; simp; omega) (fa (by show w.heap.size < _; omega) rf1_2) | (simp; done) | go_simp)
  have rl_3 : w.heap.size < w3.heap.size := cell_lt r0_3
  clear r0_2 rf0_2 r1_2 rf1_2 rl_2
  have hszw3 := below_size hb
  try simp at hszw3
  have HBq : Below w.heap.size w w3 := Below.trans (by repeat (first | exact Below.refl _ _ | exact HB.out | refine Below.drew ?_ | refine bel_drewN _ ?_ | refine Below.alloc ?_ (by first | omega | (simp; done) | (simp; omega)) _ | refine Below.setCell ?_ (by first | (show _ ≤ _; omega) | (simp; done) | (simp; omega)) _)) (hb.mono (by first | omega | (simp; done) | (simp; omega)))
  have HB := Lib.hid HBq
  clear HBq hb
  go_wp2
  obtain ⟨r, hr⟩ : ∃ r, lowRes (thN a b) 360 = r := ⟨_, rfl⟩
  rw [hr]
  have F1 := F.out
  try rw [Int.add_sub_cancel] at F1
  rw [F1] at hr
  rw [hr]
  exact bodyPost_ret (v := .tuple #[.agg #[.int .i64 r.1, .int .i64 r.2.1], .bool r.2.2]) (by simp [results, Tryd.results41, go_sem, *]) rfl ⟨rfl, (by repeat (first | exact Below.refl _ _ | exact HB.out | refine Below.drew ?_ | refine bel_drewN _ ?_ | refine Below.alloc ?_ (by first | omega | (simp; done) | (simp; omega)) _ | refine Below.setCell ?_ (by first | (show _ ≤ _; omega) | (simp; done) | (simp; omega)) _))⟩
theorem thirtyI_any (a b : Int) (w : World) (hT : MD w) (ha : 0 ≤ a ∧ a ≤ 36524) (hb : 0 ≤ b ∧ b ≤ 36524) :
    Calls Tryd.prog 41 #[.int .i64 a, .int .i64 b] w fun e w' => e = .returned (.tuple #[.agg #[.int .i64 (lowRes (thN a b) 360).1, .int .i64 (lowRes (thN a b) 360).2.1], .bool (lowRes (thN a b) 360).2.2]) ∧ Below w.heap.size w w' := by
  rcases Int.lt_trichotomy (dD a) 30 with h | h | h <;> rcases Int.lt_or_le 30 (dD b) with k | k
  · exact thirtyI_d a b w hT ha hb ⟨h, k⟩
  · exact thirtyI_a a b w hT ha hb ⟨h, k⟩
  · exact thirtyI_e a b w hT ha hb ⟨h, k⟩
  · exact thirtyI_b a b w hT ha hb ⟨h, k⟩
  · exact thirtyI_f a b w hT ha hb ⟨h, k⟩
  · exact thirtyI_c a b w hT ha hb ⟨h, k⟩
end Go.Proofs.YtiplcndacmicoaaDoor
