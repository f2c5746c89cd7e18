/- Schedules: ScheduleOf of the program for all arguments; valid bonds, exactly. -/
import Derived.Test.YtoidghdgebdfaaaDoorSch6
namespace Go.Proofs.YtoidghdgebdfaaaDoor
open Go.RowKit
set_option linter.unusedVariables false
theorem scI_no {s e m : Int} {w w' : World} (h : spnB s e m = false) (hb : Below w.heap.size w w') : ScI s e m w (.returned (.slice none 0 0)) w' :=
  ⟨_, rfl, .inl ⟨schL_no h, rfl⟩, hb⟩
set_option maxHeartbeats 1000000 in
theorem scheduleOfI_any (s e m : Int) (w : World) (hM : MD w) :
    Calls Tryd.prog 20 #[.int .i64 s, .int .i64 e, .int .i64 m] w (ScI s e m w) := by
  cases h : spnB s e m
  · cases h1 : inR s 0 36524
    · go_enter Tryd.func20, Tryd.ntmps20
      go_wp2_with (go_at_call 42; refine (dayValid_any _ _).mono ?_; rintro e w' ⟨rfl, rfl⟩)
      exact bodyPost_ret (v := .slice none 0 0) (by simp [results, Tryd.results20, go_sem]) rfl (scI_no h (by repeat (first | exact Below.refl _ _ | refine Below.drew ?_ | refine bel_drewN _ ?_ | refine Below.alloc ?_ (by first | omega | (simp; done) | (simp; omega)) _ | refine Below.setCell ?_ (by first | (show _ ≤ _; omega) | (simp; done) | (simp; omega)) _)))
    cases h2 : inR e 0 36524
    · go_enter Tryd.func20, Tryd.ntmps20
      go_wp2_with (go_at_call 42; refine (dayValid_any _ _).mono ?_; rintro e w' ⟨rfl, rfl⟩)
      exact bodyPost_ret (v := .slice none 0 0) (by simp [results, Tryd.results20, go_sem]) rfl (scI_no h (by repeat (first | exact Below.refl _ _ | refine Below.drew ?_ | refine bel_drewN _ ?_ | refine Below.alloc ?_ (by first | omega | (simp; done) | (simp; omega)) _ | refine Below.setCell ?_ (by first | (show _ ≤ _; omega) | (simp; done) | (simp; omega)) _)))
    obtain ⟨e0, e1⟩ := inR_true.1 h2
    by_cases h3 : e ≤ s
    · have hd : decide (e ≤ s) = true := by simpa using h3
      go_enter Tryd.func20, Tryd.ntmps20
      go_wp2_with (go_at_call 42; refine (dayValid_any _ _).mono ?_; rintro e w' ⟨rfl, rfl⟩)
      exact bodyPost_ret (v := .slice none 0 0) (by simp [results, Tryd.results20, go_sem]) rfl (scI_no h (by repeat (first | exact Below.refl _ _ | refine Below.drew ?_ | refine bel_drewN _ ?_ | refine Below.alloc ?_ (by first | omega | (simp; done) | (simp; omega)) _ | refine Below.setCell ?_ (by first | (show _ ≤ _; omega) | (simp; done) | (simp; omega)) _)))
    · have hd : decide (e ≤ s) = false := by simpa using h3
      have h4 : inR e (s + 1) 36524 = true := inR_yes (by omega)
      have h5 : (m == 1 || m == 3 || m == 6 || m == 12) = false := by rw [← spn_c h1 h4]; exact h
      have H := Lib.hid h
      clear h h4
      go_enter Tryd.func20, Tryd.ntmps20
      go_wp2_with (go_at_call 42; refine (dayValid_any _ _).mono ?_; rintro e w' ⟨rfl, rfl⟩)
      refine (contains_any (w.heap.size + 1 + 1) 4 m _ (fun k hk => ?c1)).mono ?_
      case c1 =>
        have hc : k = 0 ∨ k = 1 ∨ k = 2 ∨ k = 3 := by omega
        rcases hc with rfl | rfl | rfl | rfl <;> exact new_cell (by simp) rfl
      rintro ed w' ⟨rfl, rfl⟩
      go_wp2
      exact bodyPost_ret (v := .slice none 0 0) (by simp [results, Tryd.results20, go_sem]) rfl (scI_no H.out (by repeat (first | exact Below.refl _ _ | refine Below.drew ?_ | refine bel_drewN _ ?_ | refine Below.alloc ?_ (by first | omega | (simp; done) | (simp; omega)) _ | refine Below.setCell ?_ (by first | (show _ ≤ _; omega) | (simp; done) | (simp; omega)) _)))
  · exact callsIn_wide.1 (scheduleOfI_in s e m w hM h)
theorem periods_any (s e m r : Int) (w : World) (hM : MD w) :
    Calls Tryd.prog 41 #[.agg #[.int .i64 s, .int .i64 e, .int .i64 m, .int .i64 r]] w (ScI s e m w) := by
  have HM := Lib.hid hM
  clear hM
  go_enter Tryd.func41, Tryd.ntmps41
  go_wp2_with fail
  refine (scheduleOfI_any s e m _ (HM.out.below (by repeat (first | exact Below.refl _ _ | refine Below.drew ?_ | refine bel_drewN _ ?_ | refine Below.alloc ?_ (by first | omega | (simp; done) | (simp; omega)) _ | refine Below.setCell ?_ (by first | (show _ ≤ _; omega) | (simp; done) | (simp; omega)) _)))).mono ?_
  rintro ed w1 ⟨v, rfl, hp, hb⟩
  have HP := Lib.hid hp
  have HB := Lib.hid hb
  clear hp hb
  go_wp2
  go_ret
  refine ⟨v, rfl, ?_, (Below.alloc (Below.refl _ _) (Nat.le_refl _) _).trans (HB.out.mono (by simp))⟩
  rcases HP.out with h | ⟨h1, g, c, cap, h2, h3, h4⟩
  · exact .inl h
  · exact .inr ⟨h1, g, c, cap, h2, by simp at h3; omega, h4⟩
theorem rateValid_any (n : Int) (w : World) :
    Calls Tryd.prog 40 #[.int .i64 n] w fun e w' => e = .returned (.bool (inR n 0 3000)) ∧ w = w' := by
  go_enter Tryd.func40, Tryd.ntmps40
  go_wp2_with (go_at_call 59; refine (within_any _ _ _ _).mono ?_; rintro e w' ⟨rfl, rfl⟩)
  go_ret
  exact ⟨rfl, rfl⟩
set_option maxHeartbeats 1000000 in
theorem validBondI_any (s e m r : Int) (w : World) (hM : MD w) :
    Calls Tryd.prog 17 #[.agg #[.int .i64 s, .int .i64 e, .int .i64 m, .int .i64 r]] w fun ed w' => ed = .returned (.bool (bdB s e m r)) ∧ Below w.heap.size w w' := by
  have hM1 := hM.size
  have HM := Lib.hid hM
  clear hM
  unfold bdB
  cases h2 : inR r 0 3000
  · go_enter Tryd.func17, Tryd.ntmps17
    go_wp2_with (go_at_call 40; refine (rateValid_any _ _).mono ?_; rintro e w' ⟨rfl, rfl⟩)
    go_ret
    exact ⟨ret_bool (by simp), Below.alloc (Below.refl _ _) (Nat.le_refl _) _⟩
  have hL := schL_le s e m
  have HS : Hid (∀ W : World, MD W → Calls Tryd.prog 41 #[.agg #[.int .i64 s, .int .i64 e, .int .i64 m, .int .i64 r]] W (ScI s e m W)) := Lib.hid fun W h => periods_any s e m r W h
  unfold ScI at HS
  obtain ⟨L, hLe⟩ : ∃ L, schL s e m = L := ⟨_, rfl⟩
  rw [hLe] at HS hL ⊢
  clear hLe
  go_enter Tryd.func17, Tryd.ntmps17
  have HB := Lib.hid (Below.refl w.heap.size w)
  go_wp2_with (go_at_call 40; refine (rateValid_any _ _).mono ?_; rintro e w' ⟨rfl, rfl⟩)
  refine (HS.out _ (by exact HM.out.fwd (by repeat (first | exact Below.refl _ _ | exact HB.out.mono hM1 | refine Below.drew ?_ | refine bel_drewN _ ?_ | refine Below.alloc ?_ (by first | omega | (simp; done) | (simp; omega)) _ | refine Below.setCell ?_ (by first | (show _ ≤ _; omega) | (simp; done) | (simp; omega)) _)))).mono ?_
  rintro ed w1 ⟨v, rfl, hp, hbel⟩
  have HF : Hid (Below w.heap.size w w1) := Below.trans (by repeat (first | exact Below.refl _ _ | exact HB.out | refine Below.drew ?_ | refine bel_drewN _ ?_ | refine Below.alloc ?_ (by first | omega | (simp; done) | (simp; omega)) _ | refine Below.setCell ?_ (by first | (show _ ≤ _; omega) | (simp; done) | (simp; omega)) _)) (hbel.mono (by simp))
  clear hbel
  rcases hp with ⟨rfl, rfl⟩ | ⟨hpos, g, c, cap, rfl, _, c1, c2, c3, _⟩
  · go_wp2
    go_ret
    exact ⟨rfl, HF.out⟩
  · have hpos' : 0 < L := by omega
    unfold maxLen at c3
    go_wp2
    go_ret
    exact ⟨ret_bool (by simp [hpos']), HF.out⟩
theorem toBond_any (s e m r : Int) (w : World) :
    Calls Tryd.prog 14 #[.agg #[.int .i64 s, .int .i64 e, .int .i64 m, .int .i64 r]] w fun ed w' => ed = .returned (.agg #[.int .i64 s, .int .i64 e, .int .i64 m, .int .i64 r]) ∧ Below w.heap.size w w' := by
  go_enter Tryd.func14, Tryd.ntmps14
  have HB := Lib.hid (Below.refl w.heap.size w)
  go_wp2
  exact bodyPost_ret (v := .agg #[.int .i64 s, .int .i64 e, .int .i64 m, .int .i64 r]) (by simp [results, Tryd.results14, go_sem]) rfl ⟨rfl, (by repeat (first | exact Below.refl _ _ | exact HB.out | refine Below.drew ?_ | refine bel_drewN _ ?_ | refine Below.alloc ?_ (by first | omega | (simp; done) | (simp; omega)) _ | refine Below.setCell ?_ (by first | (show _ ≤ _; omega) | (simp; done) | (simp; omega)) _))⟩
end Go.Proofs.YtoidghdgebdfaaaDoor
