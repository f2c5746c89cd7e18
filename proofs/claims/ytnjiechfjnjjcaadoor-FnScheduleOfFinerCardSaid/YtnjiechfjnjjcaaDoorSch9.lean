/- Schedules, exactly. -/
import Derived.Test.YtnjiechfjnjjcaaDoorSch8
namespace Go.Proofs.YtnjiechfjnjjcaaDoor
open Go.RowKit
set_option linter.unusedVariables false
theorem scS_pv (s e m : Int) (W : World) : Calls Tryd.prog 12 #[.int .i64 s, .int .i64 e, .int .i64 m] W (ScI s e m W) := by
  refine (scheduleOfS_any s e m W).mono ?_
  rintro ed w' ⟨v, rfl, hown, hnil, hb⟩
  refine ⟨v, rfl, ?_, hb⟩
  by_cases h0 : schL s e m = 0
  · exact .inl ⟨h0, hnil h0⟩
  · obtain ⟨g, cap, rfl, q1, q2, q3, q4⟩ := own_slice hown (by omega)
    have hL : schL s e m = schN s e m := by
      unfold schL at h0 ⊢
      split
      · rfl
      · rename_i q; rw [if_neg q] at h0; omega
    refine .inr ⟨by omega, g, cap, cap, rfl, q1, q3, Nat.le_refl _, q4, ?_⟩
    rw [perL_flat] at hown
    have := pb_of_own hown
    rw [← hL] at this
    exact this
theorem markPeriods_nil (w : World) :
    Calls Tryd.prog 15 #[.slice none 0 0, .int .i64 1] w fun e w' => e = .returned (.int .i64 1) ∧ w = w' := by
  go_enter Tryd.func15, Tryd.ntmps15
  go_wp2
  go_loop [1, 5] (fun k i => k = .int .i64 1 ∧ i = .int .i64 0) (fun _ _ => 0)
  case atStart => exact ⟨rfl, rfl⟩
  case round =>
    obtain ⟨rfl, rfl⟩ := hrel
    go_wp2
    go_ret
    exact ⟨rfl, rfl⟩
theorem heldPeriods_nil (w : World) :
    Calls Tryd.prog 16 #[.slice none 0 0, .int .i64 1] w fun e w' => e = .returned (.int .i64 1) ∧ w = w' := by
  go_enter Tryd.func16, Tryd.ntmps16
  go_wp2
  go_loop [1, 5] (fun k i => k = .int .i64 1 ∧ i = .int .i64 0) (fun _ _ => 0)
  case atStart => exact ⟨rfl, rfl⟩
  case round =>
    obtain ⟨rfl, rfl⟩ := hrel
    go_wp2
    go_ret
    exact ⟨rfl, rfl⟩
set_option maxHeartbeats 4000000 in
theorem fnExactScheduleOf_walk (s e m : Int) (w : World) (hM : MD w) (_w0 : (Lit.int .i64 s).wf = true) (_w1 : (Lit.int .i64 e).wf = true) (_w2 : (Lit.int .i64 m).wf = true) :
    Calls Tryd.prog 4 #[.int .i64 s, .int .i64 e, .int .i64 m] w fun ed w' => ed = .returned (.bool true) ∧ Below w.heap.size w w' := by
  have hM1 := hM.size
  have HM := Lib.hid hM
  clear hM _w0 _w1 _w2
  have hL := schL_le s e m
  have HS : Hid (∀ W : World, Calls Tryd.prog 12 #[.int .i64 s, .int .i64 e, .int .i64 m] W (ScI s e m W)) := Lib.hid fun W => scS_pv s e m W
  have HI : Hid (∀ W : World, MD W → Calls Tryd.prog 13 #[.int .i64 s, .int .i64 e, .int .i64 m] W (ScI s e m W)) := Lib.hid fun W h => scheduleOfI_any s e m W h
  unfold ScI at HS HI
  generalize schL s e m = L at *
  generalize perA s e m L = A at *
  go_enter Tryd.func4, Tryd.ntmps4
  have HB := Lib.hid (Below.refl w.heap.size w)
  go_wp2_with fail
  refine (HS.out _).mono ?_
  rintro ed w1 ⟨v0, rfl, hp0, hb1⟩
  have HB := Lib.hid hb1
  have hz1 := hb1.size
  go_wp2_with fail
  refine (HI.out _ (by exact HM.out.fwd (by repeat (first | exact Below.refl _ _ | exact HB.out.mono hM1 | refine Below.drew ?_ | refine bel_drewN _ ?_ | refine Below.alloc ?_ (by first | omega | (simp; done) | (simp; omega)) _ | refine Below.setCell ?_ (by first | (show _ ≤ _; omega) | (simp; done) | (simp; omega)) _)))).mono ?_
  rintro ed w2 ⟨v1, rfl, hp1, hb2⟩
  have HB2 : Hid (Below w.heap.size w w2) := HB.out.trans (hb2.mono hz1)
  have hz2 := hb2.size
  rcases hp1 with ⟨rfl, rfl⟩ | ⟨hpos, g, c, cap, rfl, b1, c1, c2, c3, pb⟩
  · have HP0 := Lib.hid (hp0.pr.below hb2)
    have HB := HB2
    clear HB2 hb1 hb2 hp0
    go_wp2_with fail
    refine (eqPeriods_any _ _ 0 A _ (by omega) (.inl ⟨rfl, rfl⟩) HP0.out).mono ?_
    rintro ed w3 ⟨rfl, hb3⟩
    have HP1 := Lib.hid (HP0.out.below hb3)
    have HB : Hid (Below w.heap.size w w3) := HB.out.trans (hb3.mono (by omega))
    have hz3 := hb3.size
    clear hb3
    go_wp2_with (first | (go_at_call 15; refine (markPeriods_nil _).mono ?_; rintro e w' ⟨rfl, rfl⟩) | (go_at_call 16; refine (heldPeriods_nil _).mono ?_; rintro e w' ⟨rfl, rfl⟩))
    refine (HI.out _ (by exact HM.out.fwd (by repeat (first | exact Below.refl _ _ | exact HB.out.mono hM1 | refine Below.drew ?_ | refine bel_drewN _ ?_ | refine Below.alloc ?_ (by first | omega | (simp; done) | (simp; omega)) _ | refine Below.setCell ?_ (by first | (show _ ≤ _; omega) | (simp; done) | (simp; omega)) _)))).mono ?_
    rintro ed w4 ⟨v2, rfl, hp2, hb4⟩
    have HP2 := Lib.hid (HP1.out.below hb4)
    have HQ2 := Lib.hid hp2.pr
    have HB : Hid (Below w.heap.size w w4) := HB.out.trans (hb4.mono (by omega))
    have hz4 := hb4.size
    clear hb4 hp2
    go_wp2_with fail
    refine (eqPeriods_any _ _ 0 A _ (by omega) HQ2.out HP2.out).mono ?_
    rintro ed w5 ⟨rfl, hb5⟩
    have HB : Hid (Below w.heap.size w w5) := HB.out.trans (hb5.mono (by omega))
    clear hb5
    go_wp2_with (first | (go_at_call 16; refine (heldPeriods_nil _).mono ?_; rintro e w' ⟨rfl, rfl⟩))
    go_ret
    exact ⟨rfl, HB.out⟩
  · have HP0 := Lib.hid (hp0.pr.below hb2)
    have PG := Lib.hid pb
    have hg := pb.lt
    -- the reference's row lies below the program's
    have HV0 : Hid (PR w1 v0 L A) := Lib.hid hp0.pr
    have HB2' := Lib.hid hb2
    have HB := HB2
    unfold maxLen at c3
    clear HB2 hb1 hb2 hp0 pb
    go_wp2_with fail
    refine (eqPeriods_any _ _ L A _ (by omega) (.inr ⟨hpos, g, c, cap, rfl, c1, by omega, PG.out⟩) HP0.out).mono ?_
    rintro ed w3 ⟨rfl, hb3⟩
    have PG3 := Lib.hid (PG.out.below hb3)
    have HB : Hid (Below w.heap.size w w3) := HB.out.trans (hb3.mono (by omega))
    have HB3' : Hid (Below w1.heap.size w1 w3) := HB2'.out.trans (hb3.mono (by omega))
    have hz3 := hb3.size
    clear hb3
    go_wp2_with fail
    refine (markPeriods_any g c cap L A _ (by omega) c1 (by omega) PG3.out).mono ?_
    rintro ed w4 ⟨rfl, pb4, hg4⟩
    have PG4 := Lib.hid pb4
    have HB : Hid (Below w.heap.size w w4) := Below.grown HB.out hg4 (by omega) (fun k hk => by cases hk; omega)
    have HB4' : Hid (Below w1.heap.size w1 w4) := Below.grown HB3'.out hg4 (by omega) (fun k hk => by cases hk; omega)
    have hz4 := hg4.size
    clear pb4 hg4
    go_wp2_with (first | (go_at_call 16; refine (heldPeriods_any g c cap L _ (by omega) c1 (by omega) PG4.out).mono ?_; rintro e w' ⟨rfl, rfl⟩))
    refine (HI.out _ (by exact HM.out.fwd (by repeat (first | exact Below.refl _ _ | exact HB.out.mono hM1 | refine Below.drew ?_ | refine bel_drewN _ ?_ | refine Below.alloc ?_ (by first | omega | (simp; done) | (simp; omega)) _ | refine Below.setCell ?_ (by first | (show _ ≤ _; omega) | (simp; done) | (simp; omega)) _)))).mono ?_
    rintro ed w5 ⟨v2, rfl, hp2, hb5⟩
    have HQ2 := Lib.hid hp2.pr
    have PG5 := Lib.hid (PG4.out.below hb5)
    have HP5 : Hid (PR w5 v0 L A) := Lib.hid ((HV0.out.below HB4'.out).below hb5)
    have HB : Hid (Below w.heap.size w w5) := HB.out.trans (hb5.mono (by omega))
    have hz5 := hb5.size
    clear hb5 hp2
    go_wp2_with fail
    refine (eqPeriods_any _ _ L A _ (by omega) HQ2.out HP5.out).mono ?_
    rintro ed w6 ⟨rfl, hb6⟩
    have PG6 := Lib.hid (PG5.out.below hb6)
    have HB : Hid (Below w.heap.size w w6) := HB.out.trans (hb6.mono (by omega))
    clear hb6
    go_wp2_with (first | (go_at_call 16; refine (heldPeriods_any g c cap L _ (by omega) c1 (by omega) PG6.out).mono ?_; rintro e w' ⟨rfl, rfl⟩))
    go_ret
    exact ⟨rfl, HB.out⟩
end Go.Proofs.YtnjiechfjnjjcaaDoor
