/- Dates: the reference's months; the exported functions. -/
import Derived.Test.YtbjphookihgkpaaDoorDate6
namespace Go.Proofs.YtbjphookihgkpaaDoor
open Go.RowKit
set_option linter.unusedVariables false
set_option maxHeartbeats 2000000 in
theorem addMonthsS_le (n k : Int) (w : World) (n0 : 0 ≤ n) (n1 : n ≤ 36524) (k0 : -600 ≤ k) (k1 : k ≤ 600) (ht : 0 ≤ amT n k ∧ amT n k < 1200) (hmin : (dD n≤dim (1990+amT n k/12) (amT n k%12+1))) :
    Calls Tryd.prog 18 #[.int .i64 n, .int .i64 k] w fun e w' => e = .returned (.int .i64 (amIn n k)) ∧ Below w.heap.size w w' := by
  have D := am_dt (k := k) ⟨n0, n1⟩ ht
  have F : Hid (amIn n k = num (1990 + amT n k / 12) (amT n k % 12 + 1) (minI (dD n) (dim (1990 + amT n k / 12) (amT n k % 12 + 1)))) := by unfold amIn; rw [if_pos ht]; exact rfl
  have hmi : minI (dD n) (dim (1990 + amT n k / 12) (amT n k % 12 + 1)) = (dD n) := if_pos hmin
  rw [hmi] at D F
  clear hmi
  have hd := (date_ok ⟨n0, n1⟩).1
  obtain ⟨⟨a1, a2⟩, ⟨a3, a4⟩, ⟨a5, a6⟩⟩ := hd
  have a7 := @dim_bd (dY n) (dM n)
  obtain ⟨_, a7⟩ := a7
  have T : Hid (amT n k = 12 * (dY n - 1990) + dM n - 1 + k) := rfl
  obtain ⟨t0, t1⟩ := ht
  generalize amT n k = t at *
  have ey : Hid ((12 * dY n + dM n - 1 + k) / 12 = 1990 + t / 12) := by have := T.out; show _ = _; omega
  have em : Hid (12 * dY n + dM n - 1 + k - 12 * (1990 + t / 12) + 1 = t % 12 + 1) := by have := T.out; show _ = _; omega
  go_enter Tryd.func18, Tryd.ntmps18
  have HB := Lib.hid (Below.refl w.heap.size w)
  go_wp2_with fail
  refine (dateOfS_any n _ n0 n1).mono ?_
  rintro e w1 ⟨rfl, hb⟩
  have hszw1 := below_size hb
  try simp at hszw1
  have HBq : Below w.heap.size w w1 := Below.trans (by repeat (first | exact Below.refl _ _ | exact HB.out | refine Below.drew ?_ | refine bel_drewN _ ?_ | refine Below.alloc ?_ (by first | omega | (simp; done) | (simp; omega)) _ | refine Below.setCell ?_ (by first | (show _ ≤ _; omega) | (simp; done) | (simp; omega)) _)) (hb.mono (by first | omega | (simp; done) | (simp; omega)))
  have HB := Lib.hid HBq
  clear HBq hb
  go_wp2_with fail
  refine (floorDiv_any _ _ _ (by omega) (by omega) (by omega) (by omega)).mono ?_
  rintro e w' ⟨rfl, rfl⟩
  rw [ey.out]
  go_wp2_with fail
  refine (inRange_any _ _ _ _).mono ?_
  rintro e w' ⟨rfl, rfl⟩
  rw [inR_yes (show 1990 ≤ 1990 + t / 12 ∧ 1990 + t / 12 ≤ 2089 by omega), em.out]
  go_wp2_with fail
  have hmq : (dim (1990 + t / 12) (t % 12 + 1) < dD n) = False := by simp; omega
  have b1 := @dim_bd (1990 + t / 12) (t % 12 + 1)
  obtain ⟨b1, b2⟩ := b1
  have c2 : ∀ o, (w1.alloc (.cells #[.int .i64 (dY n), .int .i64 (dM n), .int .i64 (dD n)] 27 o)).cell? ⟨w1.heap.size, 2, none⟩ = some (.int .i64 (dD n)) := by intro o; rw [World.cell?_alloc_mark]; rfl
  go_region_held3 (fun w' => w'.cell? ⟨w1.heap.size, 2, none⟩ = some (.int .i64 (dD n))) ((first | assumption | exact bc hb2 (by assumption) | exact bc hb (by assumption) | (simp; done)))
    (first | (go_at_call 26; refine (daysInS_any _ _ _ (by omega) (by omega) (by omega) (by omega)).mono ?_; rintro e v ⟨rfl, hb⟩) | (go_at_call 25; refine (dayOfS_any _ _ _ _ D).mono ?_; rintro e v2 ⟨rfl, hb2⟩))
  go_wp2
  go_ret
  exact ⟨ret_int F.out.symm, Below.trans (by repeat (first | exact Below.refl _ _ | exact HB.out | refine Below.drew ?_ | refine bel_drewN _ ?_ | refine Below.alloc ?_ (by first | omega | (simp; done) | (simp; omega)) _ | refine Below.setCell ?_ (by first | (show _ ≤ _; omega) | (simp; done) | (simp; omega)) _)) ((hb.mono (by simp; omega)).trans (hb2.mono (by have := hb.size; simp at this; omega)))⟩
set_option maxHeartbeats 2000000 in
theorem addMonthsS_gt (n k : Int) (w : World) (n0 : 0 ≤ n) (n1 : n ≤ 36524) (k0 : -600 ≤ k) (k1 : k ≤ 600) (ht : 0 ≤ amT n k ∧ amT n k < 1200) (hmin : (¬dD n≤dim (1990+amT n k/12) (amT n k%12+1))) :
    Calls Tryd.prog 18 #[.int .i64 n, .int .i64 k] w fun e w' => e = .returned (.int .i64 (amIn n k)) ∧ Below w.heap.size w w' := by
  have D := am_dt (k := k) ⟨n0, n1⟩ ht
  have F : Hid (amIn n k = num (1990 + amT n k / 12) (amT n k % 12 + 1) (minI (dD n) (dim (1990 + amT n k / 12) (amT n k % 12 + 1)))) := by unfold amIn; rw [if_pos ht]; exact rfl
  have hmi : minI (dD n) (dim (1990 + amT n k / 12) (amT n k % 12 + 1)) = (dim (1990+amT n k/12) (amT n k%12+1)) := if_neg hmin
  rw [hmi] at D F
  clear hmi
  have hd := (date_ok ⟨n0, n1⟩).1
  obtain ⟨⟨a1, a2⟩, ⟨a3, a4⟩, ⟨a5, a6⟩⟩ := hd
  have a7 := @dim_bd (dY n) (dM n)
  obtain ⟨_, a7⟩ := a7
  have T : Hid (amT n k = 12 * (dY n - 1990) + dM n - 1 + k) := rfl
  obtain ⟨t0, t1⟩ := ht
  generalize amT n k = t at *
  have ey : Hid ((12 * dY n + dM n - 1 + k) / 12 = 1990 + t / 12) := by have := T.out; show _ = _; omega
  have em : Hid (12 * dY n + dM n - 1 + k - 12 * (1990 + t / 12) + 1 = t % 12 + 1) := by have := T.out; show _ = _; omega
  go_enter Tryd.func18, Tryd.ntmps18
  have HB := Lib.hid (Below.refl w.heap.size w)
  go_wp2_with fail
  refine (dateOfS_any n _ n0 n1).mono ?_
  rintro e w1 ⟨rfl, hb⟩
  have hszw1 := below_size hb
  try simp at hszw1
  have HBq : Below w.heap.size w w1 := Below.trans (by repeat (first | exact Below.refl _ _ | exact HB.out | refine Below.drew ?_ | refine bel_drewN _ ?_ | refine Below.alloc ?_ (by first | omega | (simp; done) | (simp; omega)) _ | refine Below.setCell ?_ (by first | (show _ ≤ _; omega) | (simp; done) | (simp; omega)) _)) (hb.mono (by first | omega | (simp; done) | (simp; omega)))
  have HB := Lib.hid HBq
  clear HBq hb
  go_wp2_with fail
  refine (floorDiv_any _ _ _ (by omega) (by omega) (by omega) (by omega)).mono ?_
  rintro e w' ⟨rfl, rfl⟩
  rw [ey.out]
  go_wp2_with fail
  refine (inRange_any _ _ _ _).mono ?_
  rintro e w' ⟨rfl, rfl⟩
  rw [inR_yes (show 1990 ≤ 1990 + t / 12 ∧ 1990 + t / 12 ≤ 2089 by omega), em.out]
  go_wp2_with fail
  have hmq : (dim (1990 + t / 12) (t % 12 + 1) < dD n) = True := by simp; omega
  have b1 := @dim_bd (1990 + t / 12) (t % 12 + 1)
  obtain ⟨b1, b2⟩ := b1
  have c2 : ∀ o, (w1.alloc (.cells #[.int .i64 (dY n), .int .i64 (dM n), .int .i64 (dD n)] 27 o)).cell? ⟨w1.heap.size, 2, none⟩ = some (.int .i64 (dD n)) := by intro o; rw [World.cell?_alloc_mark]; rfl
  go_region_held3 (fun w' => w'.cell? ⟨w1.heap.size, 2, none⟩ = some (.int .i64 (dD n))) ((first | assumption | exact bc hb2 (by assumption) | exact bc hb (by assumption) | (simp; done)))
    (first | (go_at_call 26; refine (daysInS_any _ _ _ (by omega) (by omega) (by omega) (by omega)).mono ?_; rintro e v ⟨rfl, hb⟩) | (go_at_call 25; refine (dayOfS_any _ _ _ _ D).mono ?_; rintro e v2 ⟨rfl, hb2⟩))
  go_wp2
  go_ret
  exact ⟨ret_int F.out.symm, Below.trans (by repeat (first | exact Below.refl _ _ | exact HB.out | refine Below.drew ?_ | refine bel_drewN _ ?_ | refine Below.alloc ?_ (by first | omega | (simp; done) | (simp; omega)) _ | refine Below.setCell ?_ (by first | (show _ ≤ _; omega) | (simp; done) | (simp; omega)) _)) ((hb.mono (by simp; omega)).trans (hb2.mono (by have := hb.size; simp at this; omega)))⟩
set_option maxHeartbeats 1000000 in
theorem addMonthsS_no (n k : Int) (w : World) (n0 : 0 ≤ n) (n1 : n ≤ 36524) (k0 : -600 ≤ k) (k1 : k ≤ 600) (ht : ¬ (0 ≤ amT n k ∧ amT n k < 1200)) :
    Calls Tryd.prog 18 #[.int .i64 n, .int .i64 k] w fun e w' => e = .returned (.int .i64 (amIn n k)) ∧ Below w.heap.size w w' := by
  have F : Hid (amIn n k = -1) := by unfold amIn; rw [if_neg ht]; exact rfl
  have hd := (date_ok ⟨n0, n1⟩).1
  obtain ⟨⟨a1, a2⟩, ⟨a3, a4⟩, ⟨a5, a6⟩⟩ := hd
  have T : Hid (amT n k = 12 * (dY n - 1990) + dM n - 1 + k) := rfl
  have ht' : Hid (12 * (dY n - 1990) + dM n - 1 + k < 0 ∨ 1200 ≤ 12 * (dY n - 1990) + dM n - 1 + k) := by rw [← T.out]; show _ ∨ _; omega
  clear ht
  go_enter Tryd.func18, Tryd.ntmps18
  have HB := Lib.hid (Below.refl w.heap.size w)
  go_wp2_with fail
  refine (dateOfS_any n _ n0 n1).mono ?_
  rintro e w1 ⟨rfl, hb⟩
  have hszw1 := below_size hb
  try simp at hszw1
  have HBq : Below w.heap.size w w1 := Below.trans (by repeat (first | exact Below.refl _ _ | exact HB.out | refine Below.drew ?_ | refine bel_drewN _ ?_ | refine Below.alloc ?_ (by first | omega | (simp; done) | (simp; omega)) _ | refine Below.setCell ?_ (by first | (show _ ≤ _; omega) | (simp; done) | (simp; omega)) _)) (hb.mono (by first | omega | (simp; done) | (simp; omega)))
  have HB := Lib.hid HBq
  clear HBq hb
  go_wp2_with fail
  refine (floorDiv_any _ _ _ (by omega) (by omega) (by omega) (by omega)).mono ?_
  rintro e w' ⟨rfl, rfl⟩
  go_wp2_with fail
  refine (inRange_any _ _ _ _).mono ?_
  rintro e w' ⟨rfl, rfl⟩
  rw [inR_no (show (12 * dY n + dM n - 1 + k) / 12 < 1990 ∨ 2089 < (12 * dY n + dM n - 1 + k) / 12 by have := ht'.out; omega)]
  go_wp2
  go_ret
  exact ⟨ret_int F.out.symm, (by repeat (first | exact Below.refl _ _ | exact HB.out | refine Below.drew ?_ | refine bel_drewN _ ?_ | refine Below.alloc ?_ (by first | omega | (simp; done) | (simp; omega)) _ | refine Below.setCell ?_ (by first | (show _ ≤ _; omega) | (simp; done) | (simp; omega)) _))⟩
theorem addMonthsS_in (n k : Int) (w : World) (n0 : 0 ≤ n) (n1 : n ≤ 36524) (k0 : -600 ≤ k) (k1 : k ≤ 600) :
    Calls Tryd.prog 18 #[.int .i64 n, .int .i64 k] w fun e w' => e = .returned (.int .i64 (amIn n k)) ∧ Below w.heap.size w w' := by
  by_cases ht : 0 ≤ amT n k ∧ amT n k < 1200
  · by_cases hmin : dD n ≤ dim (1990 + amT n k / 12) (amT n k % 12 + 1)
    · exact addMonthsS_le n k w n0 n1 k0 k1 ht hmin
    · exact addMonthsS_gt n k w n0 n1 k0 k1 ht hmin
  · exact addMonthsS_no n k w n0 n1 k0 k1 ht
theorem addMonthsS_any (n k : Int) (w : World) :
    Calls Tryd.prog 6 #[.int .i64 n, .int .i64 k] w fun e w' => e = .returned (.int .i64 (addM n k)) ∧ Below w.heap.size w w' := by
  unfold addM
  by_cases h1 : inR n 0 36524 = true
  · rw [if_pos h1]
    obtain ⟨n0, n1⟩ := inR_true.1 h1
    by_cases h2 : inR k (-600) 600 = true
    · rw [if_pos h2]
      obtain ⟨k0, k1⟩ := inR_true.1 h2
      go_enter Tryd.func6, Tryd.ntmps6
      go_wp2_with (first | (go_at_call 17; refine (inRange_any _ _ _ _).mono ?_; rintro e w' ⟨rfl, rfl⟩) | (go_at_call 18; refine (addMonthsS_in _ _ _ n0 n1 k0 k1).mono ?_; rintro e v ⟨rfl, hb⟩))
      go_ret
      exact ⟨rfl, hb⟩
    · rw [if_neg h2]
      have h2' : inR k (-600) 600 = false := by simpa using h2
      clear h2
      go_enter Tryd.func6, Tryd.ntmps6
      go_wp2_with (go_at_call 17; refine (inRange_any _ _ _ _).mono ?_; rintro e w' ⟨rfl, rfl⟩)
      go_ret
      exact ⟨rfl, Below.refl _ _⟩
  · rw [if_neg h1]
    have h1' : inR n 0 36524 = false := by simpa using h1
    clear h1
    go_enter Tryd.func6, Tryd.ntmps6
    go_wp2_with (go_at_call 17; refine (inRange_any _ _ _ _).mono ?_; rintro e w' ⟨rfl, rfl⟩)
    go_ret
    exact ⟨rfl, Below.refl _ _⟩
end Go.Proofs.YtbjphookihgkpaaDoor
