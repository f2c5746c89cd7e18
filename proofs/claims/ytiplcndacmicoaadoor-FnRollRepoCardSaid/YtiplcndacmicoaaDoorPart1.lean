/- Parts of years: the counts. -/
import Derived.Test.YtiplcndacmicoaaDoorPartPlain
import Derived.Test.YtiplcndacmicoaaDoorDate6
namespace Go.Proofs.YtiplcndacmicoaaDoor
open Go.RowKit
set_option linter.unusedVariables false
set_option maxHeartbeats 1000000 in
theorem actual_any (a b : Int) (w : World) (h0 : 0 ≤ a) (hab : a ≤ b) (h1 : b ≤ 36525) :
    Calls Tryd.prog 38 #[.int .i64 a, .int .i64 b] w fun e w' => e = .returned (.tuple #[.int .i64 (lpd b - lpd a), .int .i64 ((b - a) - (lpd b - lpd a))]) ∧ Below w.heap.size w w' := by
  go_enter Tryd.func38, Tryd.ntmps38
  go_wp2
  go_loopw [6, 7, 8] (fun x y i wr => ∃ k : Int, a ≤ k ∧ k ≤ b ∧ x = .int .i64 (lpd k - lpd a) ∧ y = .int .i64 ((k - a) - (lpd k - lpd a)) ∧ i = .int .i64 k ∧ Below w.heap.size w wr) (fun _ _ i _ => (b - intOf i).toNat)
  case atStart => exact ⟨a, by omega, by omega, by simp, by simp, rfl, Below.refl _ _⟩
  case round =>
    obtain ⟨k, k1, k2, rfl, rfl, rfl, hbel⟩ := hrel
    have hs := hbel.size
    have HB := Lib.hid hbel
    clear hbel
    have hl := lpd_bd h0 k1
    obtain ⟨l1, l2⟩ := hl
    by_cases hk : k < b
    · obtain ⟨⟨y1, y2⟩, _⟩ := dY_bd (n := k) ⟨by omega, by omega⟩
      have E := Lib.hid (lpd_succ (n := k) (by omega))
      by_cases hlp : lp (dY k) = true
      · have L := Lib.hid (lpI_yes hlp)
        go_wp2_with fail
        refine (dateOfS_any _ _ (by omega) (by omega)).mono ?_
        rintro e v ⟨rfl, hb2⟩
        go_wp2_with fail
        rename_i KK hKK
        refine hKK _ _ ?_
        go_frame
        go_simp
        go_wp2_with (go_at_call 47; refine (leapS_any _ _ (by omega) (by omega)).mono ?_; rintro e w' ⟨rfl, rfl⟩)
        go_roundw
        case rel => exact ⟨k + 1, by omega, by omega, by rw [E.out, L.out]; go_num, by rw [E.out, L.out]; go_num, rfl, HB.out.trans (hb2.mono (by omega))⟩
        case measure => simp [intOf]; omega
      · have hlp' : lp (dY k) = false := by simpa using hlp
        clear hlp
        have L := Lib.hid (lpI_no hlp')
        go_wp2_with fail
        refine (dateOfS_any _ _ (by omega) (by omega)).mono ?_
        rintro e v ⟨rfl, hb2⟩
        go_wp2_with fail
        rename_i KK hKK
        refine hKK _ _ ?_
        go_frame
        go_simp
        go_wp2_with (go_at_call 47; refine (leapS_any _ _ (by omega) (by omega)).mono ?_; rintro e w' ⟨rfl, rfl⟩)
        go_roundw
        case rel => exact ⟨k + 1, by omega, by omega, by rw [E.out, L.out]; go_num, by rw [E.out, L.out]; go_num, rfl, HB.out.trans (hb2.mono (by omega))⟩
        case measure => simp [intOf]; omega
    · obtain rfl : k = b := by omega
      go_wp2
      go_ret2
      exact ⟨rfl, HB.out⟩
set_option maxHeartbeats 1000000 in
theorem thirtyS_a (y m d y' m' d' : Int) (w : World) (h : Dt y m d) (h' : Dt y' m' d') (hyp : (d<30)) :
    Calls Tryd.prog 36 #[.agg #[.int .i64 y, .int .i64 m, .int .i64 d], .agg #[.int .i64 y', .int .i64 m', .int .i64 d']] w fun e w' => e = .returned (.int .i64 (thD y m d y' m' d')) ∧ Below w.heap.size w w' := by
  have t := dt_day h
  have t' := dt_day h'
  obtain ⟨⟨a1, a2⟩, ⟨a3, a4⟩, ⟨a5, a6⟩⟩ := h
  obtain ⟨⟨b1, b2⟩, ⟨b3, b4⟩, ⟨b5, b6⟩⟩ := h'
  have F : Hid (thD y m d y' m' d' = 360 * (y' - y) + 30 * (m' - m) + (if 30 ≤ d then (if 30 < d' then 30 else d') else d') - (if 30 < d then 30 else d)) := rfl
  have e1 : (30 < d) = True ∨ (30 < d) = False := by by_cases q : 30 < d <;> simp [q]
  have e2 : (30 < d') = True ∨ (30 < d') = False := by by_cases q : 30 < d' <;> simp [q]
  rcases e1 with e1 | e1 <;> rcases e2 with e2 | e2 <;> first
    | (exfalso; simp at e1 e2; omega)
    | (go_enter Tryd.func36, Tryd.ntmps36
       go_wp2
       all_goals go_ret
       all_goals exact ⟨ret_int (by rw [F.out]; simp only [e1, e2]; first | (simp; done) | (simp; omega) | (simp; split <;> omega)), (by repeat (first | exact Below.refl _ _ | refine Below.drew ?_ | refine bel_drewN _ ?_ | refine Below.alloc ?_ (by first | omega | (simp; done) | (simp; omega)) _ | refine Below.setCell ?_ (by first | (show _ ≤ _; omega) | (simp; done) | (simp; omega)) _))⟩)
set_option maxHeartbeats 1000000 in
theorem thirtyS_b (y m d y' m' d' : Int) (w : World) (h : Dt y m d) (h' : Dt y' m' d') (hyp : (d=30∧d'≤30)) :
    Calls Tryd.prog 36 #[.agg #[.int .i64 y, .int .i64 m, .int .i64 d], .agg #[.int .i64 y', .int .i64 m', .int .i64 d']] w fun e w' => e = .returned (.int .i64 (thD y m d y' m' d')) ∧ Below w.heap.size w w' := by
  have t := dt_day h
  have t' := dt_day h'
  obtain ⟨⟨a1, a2⟩, ⟨a3, a4⟩, ⟨a5, a6⟩⟩ := h
  obtain ⟨⟨b1, b2⟩, ⟨b3, b4⟩, ⟨b5, b6⟩⟩ := h'
  have F : Hid (thD y m d y' m' d' = 360 * (y' - y) + 30 * (m' - m) + (if 30 ≤ d then (if 30 < d' then 30 else d') else d') - (if 30 < d then 30 else d)) := rfl
  have e1 : (30 < d) = True ∨ (30 < d) = False := by by_cases q : 30 < d <;> simp [q]
  have e2 : (30 < d') = True ∨ (30 < d') = False := by by_cases q : 30 < d' <;> simp [q]
  rcases e1 with e1 | e1 <;> rcases e2 with e2 | e2 <;> first
    | (exfalso; simp at e1 e2; omega)
    | (go_enter Tryd.func36, Tryd.ntmps36
       go_wp2
       all_goals go_ret
       all_goals exact ⟨ret_int (by rw [F.out]; simp only [e1, e2]; first | (simp; done) | (simp; omega) | (simp; split <;> omega)), (by repeat (first | exact Below.refl _ _ | refine Below.drew ?_ | refine bel_drewN _ ?_ | refine Below.alloc ?_ (by first | omega | (simp; done) | (simp; omega)) _ | refine Below.setCell ?_ (by first | (show _ ≤ _; omega) | (simp; done) | (simp; omega)) _))⟩)
set_option maxHeartbeats 1000000 in
theorem thirtyS_c (y m d y' m' d' : Int) (w : World) (h : Dt y m d) (h' : Dt y' m' d') (hyp : (30<d∧d'≤30)) :
    Calls Tryd.prog 36 #[.agg #[.int .i64 y, .int .i64 m, .int .i64 d], .agg #[.int .i64 y', .int .i64 m', .int .i64 d']] w fun e w' => e = .returned (.int .i64 (thD y m d y' m' d')) ∧ Below w.heap.size w w' := by
  have t := dt_day h
  have t' := dt_day h'
  obtain ⟨⟨a1, a2⟩, ⟨a3, a4⟩, ⟨a5, a6⟩⟩ := h
  obtain ⟨⟨b1, b2⟩, ⟨b3, b4⟩, ⟨b5, b6⟩⟩ := h'
  have F : Hid (thD y m d y' m' d' = 360 * (y' - y) + 30 * (m' - m) + (if 30 ≤ d then (if 30 < d' then 30 else d') else d') - (if 30 < d then 30 else d)) := rfl
  have e1 : (30 < d) = True ∨ (30 < d) = False := by by_cases q : 30 < d <;> simp [q]
  have e2 : (30 < d') = True ∨ (30 < d') = False := by by_cases q : 30 < d' <;> simp [q]
  rcases e1 with e1 | e1 <;> rcases e2 with e2 | e2 <;> first
    | (exfalso; simp at e1 e2; omega)
    | (go_enter Tryd.func36, Tryd.ntmps36
       go_wp2
       all_goals go_ret
       all_goals exact ⟨ret_int (by rw [F.out]; simp only [e1, e2]; first | (simp; done) | (simp; omega) | (simp; split <;> omega)), (by repeat (first | exact Below.refl _ _ | refine Below.drew ?_ | refine bel_drewN _ ?_ | refine Below.alloc ?_ (by first | omega | (simp; done) | (simp; omega)) _ | refine Below.setCell ?_ (by first | (show _ ≤ _; omega) | (simp; done) | (simp; omega)) _))⟩)
set_option maxHeartbeats 1000000 in
theorem thirtyS_e (y m d y' m' d' : Int) (w : World) (h : Dt y m d) (h' : Dt y' m' d') (hyp : (d=30∧30<d')) :
    Calls Tryd.prog 36 #[.agg #[.int .i64 y, .int .i64 m, .int .i64 d], .agg #[.int .i64 y', .int .i64 m', .int .i64 d']] w fun e w' => e = .returned (.int .i64 (thD y m d y' m' d')) ∧ Below w.heap.size w w' := by
  have t := dt_day h
  have t' := dt_day h'
  obtain ⟨⟨a1, a2⟩, ⟨a3, a4⟩, ⟨a5, a6⟩⟩ := h
  obtain ⟨⟨b1, b2⟩, ⟨b3, b4⟩, ⟨b5, b6⟩⟩ := h'
  have F : Hid (thD y m d y' m' d' = 360 * (y' - y) + 30 * (m' - m) + (if 30 ≤ d then (if 30 < d' then 30 else d') else d') - (if 30 < d then 30 else d)) := rfl
  have e1 : (30 < d) = True ∨ (30 < d) = False := by by_cases q : 30 < d <;> simp [q]
  have e2 : (30 < d') = True ∨ (30 < d') = False := by by_cases q : 30 < d' <;> simp [q]
  rcases e1 with e1 | e1 <;> rcases e2 with e2 | e2 <;> first
    | (exfalso; simp at e1 e2; omega)
    | (go_enter Tryd.func36, Tryd.ntmps36
       go_wp2
       all_goals go_ret
       all_goals exact ⟨ret_int (by rw [F.out]; simp only [e1, e2]; first | (simp; done) | (simp; omega) | (simp; split <;> omega)), (by repeat (first | exact Below.refl _ _ | refine Below.drew ?_ | refine bel_drewN _ ?_ | refine Below.alloc ?_ (by first | omega | (simp; done) | (simp; omega)) _ | refine Below.setCell ?_ (by first | (show _ ≤ _; omega) | (simp; done) | (simp; omega)) _))⟩)
set_option maxHeartbeats 1000000 in
theorem thirtyS_f (y m d y' m' d' : Int) (w : World) (h : Dt y m d) (h' : Dt y' m' d') (hyp : (30<d∧30<d')) :
    Calls Tryd.prog 36 #[.agg #[.int .i64 y, .int .i64 m, .int .i64 d], .agg #[.int .i64 y', .int .i64 m', .int .i64 d']] w fun e w' => e = .returned (.int .i64 (thD y m d y' m' d')) ∧ Below w.heap.size w w' := by
  have t := dt_day h
  have t' := dt_day h'
  obtain ⟨⟨a1, a2⟩, ⟨a3, a4⟩, ⟨a5, a6⟩⟩ := h
  obtain ⟨⟨b1, b2⟩, ⟨b3, b4⟩, ⟨b5, b6⟩⟩ := h'
  have F : Hid (thD y m d y' m' d' = 360 * (y' - y) + 30 * (m' - m) + (if 30 ≤ d then (if 30 < d' then 30 else d') else d') - (if 30 < d then 30 else d)) := rfl
  have e1 : (30 < d) = True ∨ (30 < d) = False := by by_cases q : 30 < d <;> simp [q]
  have e2 : (30 < d') = True ∨ (30 < d') = False := by by_cases q : 30 < d' <;> simp [q]
  rcases e1 with e1 | e1 <;> rcases e2 with e2 | e2 <;> first
    | (exfalso; simp at e1 e2; omega)
    | (go_enter Tryd.func36, Tryd.ntmps36
       go_wp2
       all_goals go_ret
       all_goals exact ⟨ret_int (by rw [F.out]; simp only [e1, e2]; first | (simp; done) | (simp; omega) | (simp; split <;> omega)), (by repeat (first | exact Below.refl _ _ | refine Below.drew ?_ | refine bel_drewN _ ?_ | refine Below.alloc ?_ (by first | omega | (simp; done) | (simp; omega)) _ | refine Below.setCell ?_ (by first | (show _ ≤ _; omega) | (simp; done) | (simp; omega)) _))⟩)
end Go.Proofs.YtiplcndacmicoaaDoor
