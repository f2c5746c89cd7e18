/- Dates: the reference's numbers; the date of a day. -/
import Derived.Test.YtbjphookihgkpaaDoorDate3
namespace Go.Proofs.YtbjphookihgkpaaDoor
open Go.RowKit
set_option linter.unusedVariables false
set_option maxHeartbeats 1000000 in
theorem dayOfS_any (y m d : Int) (w : World) (hd : Dt y m d) :
    Calls Tryd.prog 25 #[.agg #[.int .i64 y, .int .i64 m, .int .i64 d]] w fun e w' => e = .returned (.int .i64 (num y m d)) ∧ Below w.heap.size w w' := by
  have hb := num_bd hd
  obtain ⟨⟨a1, a2⟩, ⟨a3, a4⟩, ⟨a5, a6⟩⟩ := hd
  have hdm := @dim_bd y m
  obtain ⟨dm1, dm2⟩ := hdm
  go_enter Tryd.func25, Tryd.ntmps25
  go_wp2
  go_loop [3, 4] (fun n i => ∃ k : Int, 1990 ≤ k ∧ k ≤ y ∧ n = .int .i64 (d - 1 + dby k) ∧ i = .int .i64 k) (fun _ i => (y - intOf i).toNat)
  case atStart => exact ⟨1990, by omega, by omega, by rw [dby_first]; simp, rfl⟩
  case round =>
    obtain ⟨k, k1, k2, rfl, rfl⟩ := hrel
    have e1 := dby_mono k1
    have e2 := dby_mono (show k ≤ 2090 by omega)
    rw [dby_first] at e1
    rw [dby_last] at e2
    by_cases hk : k < y
    · have e3 := ydays_bd k
      obtain ⟨e3, e4⟩ := e3
      have E := Lib.hid (dby_succ k1 (by omega))
      go_wp2_with (go_at_call 27; refine (yearDaysS_any _ _ (by omega) (by omega)).mono ?_; rintro e w' ⟨rfl, rfl⟩)
      go_round
      case rel => exact ⟨k + 1, by omega, by omega, by rw [E.out]; go_num, rfl⟩
      case measure => simp [intOf]; omega
    · obtain rfl : k = y := by omega
      go_wp2
      go_loopw [3, 5] (fun n i wr => ∃ j : Int, 1 ≤ j ∧ j ≤ m ∧ n = .int .i64 (d - 1 + dby k + cum k j) ∧ i = .int .i64 j ∧ Below (w.heap.size + 1) (w.alloc (.cells #[.int .i64 k, .int .i64 m, .int .i64 d] 27)) wr) (fun _ i _ => (m - intOf i).toNat)
      case atStart => exact ⟨1, by omega, by omega, by rw [cum_first]; simp, rfl, Below.refl _ _⟩
      case round =>
        obtain ⟨j, j1, j2, rfl, rfl, hbel⟩ := hrel
        have q0 : wr.cell? ⟨w.heap.size, 0, none⟩ = some (.int .i64 k) := by rw [hbel.cell (by simp)]; simp
        have q1 : wr.cell? ⟨w.heap.size, 1, none⟩ = some (.int .i64 m) := by rw [hbel.cell (by simp)]; simp
        have qs := hbel.size
        simp at qs
        have HB := Lib.hid hbel
        clear hbel
        have c := cum_nonneg k j1 (by omega)
        have cy := ydays_bd k
        obtain ⟨c1, c2⟩ := c
        obtain ⟨c3, c4⟩ := cy
        by_cases hj : j < m
        · have cd := @dim_bd k j
          obtain ⟨c5, c6⟩ := cd
          have E := Lib.hid (cum_succ k j1 (by omega))
          go_wp2_with (go_at_call 26; refine (daysInS_any _ _ _ (by omega) (by omega) (by omega) (by omega)).mono ?_; rintro e v ⟨rfl, hb2⟩)
          go_roundw
          case rel => exact ⟨j + 1, by omega, by omega, by rw [E.out]; go_num, rfl, HB.out.trans (hb2.mono (by omega))⟩
          case measure => simp [intOf]; omega
        · obtain rfl : j = m := by omega
          go_wp2
          go_ret
          exact ⟨ret_int (by unfold num; omega), ((Below.refl _ _).alloc (Nat.le_refl _) _).trans (HB.out.mono (by omega))⟩
set_option maxHeartbeats 1000000 in
theorem dateOfS_any (n : Int) (w : World) (h0 : 0 ≤ n) (h1 : n ≤ 36524) :
    Calls Tryd.prog 23 #[.int .i64 n] w fun e w' => e = .returned (.agg #[.int .i64 (dY n), .int .i64 (dM n), .int .i64 (dD n)]) ∧ Below w.heap.size w w' := by
  obtain ⟨hd, hnum⟩ := date_ok ⟨h0, h1⟩
  have HD := Lib.hid hd
  have HN := Lib.hid hnum
  generalize hY : dY n = Y at *
  generalize hM : dM n = M at *
  generalize hD : dD n = D at *
  clear hY hM hD
  unfold num at hnum
  obtain ⟨⟨a1, a2⟩, ⟨a3, a4⟩, ⟨a5, a6⟩⟩ := hd
  have cM := cum_nonneg Y a3 (by omega)
  have cM2 := cum_mono Y a3 (show M < 13 by omega) (by omega)
  rw [cum_last] at cM2
  have HX := Lib.hid hnum
  clear hnum
  obtain ⟨cM, cM'⟩ := cM
  go_enter Tryd.func23, Tryd.ntmps23
  go_wp2
  go_loop [0, 3] (fun r i => ∃ k : Int, 1990 ≤ k ∧ k ≤ Y ∧ r = .int .i64 (n - dby k) ∧ i = .int .i64 k) (fun _ i => (Y - intOf i).toNat)
  case atStart => exact ⟨1990, by omega, by omega, by rw [dby_first]; simp, rfl⟩
  case round =>
    obtain ⟨k, k1, k2, rfl, rfl⟩ := hrel
    have e1 := dby_mono k1
    have e2 := dby_mono (show k ≤ 2090 by omega)
    rw [dby_first] at e1
    rw [dby_last] at e2
    have e3 := ydays_bd k
    obtain ⟨e3, e4⟩ := e3
    by_cases hk : k < Y
    · have E := Lib.hid (dby_succ k1 (by omega))
      have e5 := dby_lt k1 hk (by omega)
      have e6 : ydays k ≤ n - dby k := by have := HX.out; omega
      go_wp2_with (go_at_call 27; refine (yearDaysS_any _ _ (by omega) (by omega)).mono ?_; rintro e w' ⟨rfl, rfl⟩)
      go_round
      case rel => exact ⟨k + 1, by omega, by omega, by rw [E.out]; go_num, rfl⟩
      case measure => simp [intOf]; omega
    · obtain rfl : k = Y := by omega
      have e6 : n - dby k < ydays k := by have := HX.out; omega
      go_wp2_with (go_at_call 27; refine (yearDaysS_any _ _ (by omega) (by omega)).mono ?_; rintro e w' ⟨rfl, rfl⟩)
      go_loopw [0, 4] (fun r i wr => ∃ j : Int, 1 ≤ j ∧ j ≤ M ∧ r = .int .i64 (n - dby k - cum k j) ∧ i = .int .i64 j ∧ Below (w.heap.size + 1) (w.alloc (.cells #[.int .i64 0, .int .i64 0, .int .i64 0] 27)) wr) (fun _ i _ => (M - intOf i).toNat)
      case atStart => exact ⟨1, by omega, by omega, by rw [cum_first]; simp, rfl, Below.refl _ _⟩
      case round =>
        obtain ⟨j, j1, j2, rfl, rfl, hbel⟩ := hrel
        have q0 : wr.cell? ⟨w.heap.size, 0, none⟩ = some (.int .i64 0) := by rw [hbel.cell (by simp)]; simp
        have q1 : wr.cell? ⟨w.heap.size, 1, none⟩ = some (.int .i64 0) := by rw [hbel.cell (by simp)]; simp
        have q2 : wr.cell? ⟨w.heap.size, 2, none⟩ = some (.int .i64 0) := by rw [hbel.cell (by simp)]; simp
        have f0 : wr.frozen? ⟨w.heap.size, 0, none⟩ = false := by rw [hbel.frozen (by simp)]; simp
        have f1 : wr.frozen? ⟨w.heap.size, 1, none⟩ = false := by rw [hbel.frozen (by simp)]; simp
        have f2 : wr.frozen? ⟨w.heap.size, 2, none⟩ = false := by rw [hbel.frozen (by simp)]; simp
        have qs := hbel.size
        simp at qs
        have HB := Lib.hid hbel
        clear hbel
        have c := cum_nonneg k j1 (by omega)
        obtain ⟨c1, c2⟩ := c
        have cd := @dim_bd k j
        obtain ⟨c5, c6⟩ := cd
        by_cases hj : j < M
        · have E := Lib.hid (cum_succ k j1 (by omega))
          have e7 := cum_mono k j1 hj (by omega)
          have e8 : dim k j ≤ n - dby k - cum k j := by have := HX.out; omega
          go_wp2_with fail
          refine (daysInS_any _ _ _ (by omega) (by omega) (by omega) (by omega)).mono ?_
          rintro e v ⟨rfl, hb2⟩
          have hs2 := hb2.size
          go_wp2_with fail
          refine (daysInS_any _ _ _ (by omega) (by omega) (by omega) (by omega)).mono ?_
          rintro e v' ⟨rfl, hb3⟩
          go_wp2
          go_roundw
          case rel => exact ⟨j + 1, by omega, by omega, by rw [E.out]; go_num, rfl, (HB.out.trans (hb2.mono (by omega))).trans (hb3.mono (by omega))⟩
          case measure => simp [intOf]; omega
        · obtain rfl : j = M := by omega
          have e8 : n - dby k - cum k j < dim k j := by have := HX.out; omega
          have e9 : 0 ≤ n - dby k - cum k j := by have := HX.out; omega
          go_wp2_with fail
          refine (daysInS_any _ _ _ (by omega) (by omega) (by omega) (by omega)).mono ?_
          rintro e v ⟨rfl, hb2⟩
          have r0 : v.cell? ⟨w.heap.size, 0, none⟩ = some (.int .i64 0) := bc hb2 q0
          have r1 : v.cell? ⟨w.heap.size, 1, none⟩ = some (.int .i64 0) := bc hb2 q1
          have r2 : v.cell? ⟨w.heap.size, 2, none⟩ = some (.int .i64 0) := bc hb2 q2
          have g0 : v.frozen? ⟨w.heap.size, 0, none⟩ = false := bf hb2 (cell_lt q0) f0
          have g1 : v.frozen? ⟨w.heap.size, 1, none⟩ = false := bf hb2 (cell_lt q1) f1
          have g2 : v.frozen? ⟨w.heap.size, 2, none⟩ = false := bf hb2 (cell_lt q2) f2
          go_wp2
          have hfin : n - dby k - cum k j + 1 = D := by have := HX.out; omega
          refine bodyPost_ret (v := .agg #[.int .i64 k, .int .i64 j, .int .i64 (n - dby k - cum k j + 1)]) (by simp [results, Tryd.results23, go_sem, r0, r1, r2]) rfl ⟨by rw [hfin], ?_⟩
          have b0 : Below w.heap.size w v := (((Below.refl _ _).alloc (Nat.le_refl _) _).trans (HB.out.mono (by omega))).trans (hb2.mono (by omega))
          exact ((b0.setCell (Nat.le_refl _) _).setCell (Nat.le_refl _) _).setCell (Nat.le_refl _) _
end Go.Proofs.YtbjphookihgkpaaDoor
