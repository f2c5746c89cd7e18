/- The law FnAddMonths. -/
import Derived.Test.YtbjphookihgkpaaDoorDateLaws
import Derived.Test.YtbjphookihgkpaaDoorCalm
namespace Go.Proofs.YtbjphookihgkpaaDoor
open Go.RowKit
set_option linter.unusedVariables false
set_option maxHeartbeats 3000000 in
theorem fnAddMonths_walk (a : Option Addr) (len cap : Nat) (w : World) (hM : MD w) (hlc : len ≤ cap) (hc : cap ≤ maxLen) (h : IsBytes w a len) :
    Calls Tryd.prog 3 #[.slice a len cap] w fun e w' => e = .returned (.bool true) ∧ Below w.heap.size w w' := by
  by_cases hbig : 1048576 < len
  · exact big_FnAddMonths a len cap w hlc hc hbig
  have hM1 := hM.size
  have HM := Lib.hid hM
  have H := Lib.hid h
  clear h hM
  go_enter Tryd.func3, Tryd.ntmps3
  have HB := Lib.hid (Below.refl w.heap.size w)
  go_wp2_with fail
  refine (drawAddMonths_any _ _ _ _ hlc hc H.out).mono ?_
  rintro e w1 ⟨n, k, rfl, n0, n1, k0, k1, hb⟩
  have hszw1 := below_size hb
  try simp at hszw1
  have HBq : Below w.heap.size w w1 := Below.trans (by repeat (first | exact Below.refl _ _ | exact HB.out | refine Below.drew ?_ | refine bel_drewN _ ?_ | refine Below.alloc ?_ (by first | omega | (simp; done) | (simp; omega)) _ | refine Below.setCell ?_ (by first | (show _ ≤ _; omega) | (simp; done) | (simp; omega)) _)) (hb.mono (by first | omega | (simp; done) | (simp; omega)))
  have HB := Lib.hid HBq
  clear HBq hb
  go_wp2_with fail
  refine (addMonthsI_any n k _ (by exact HM.out.fwd (by repeat (first | exact Below.refl _ _ | exact HB.out.mono hM1 | refine Below.drew ?_ | refine bel_drewN _ ?_ | refine Below.alloc ?_ (by first | omega | (simp; done) | (simp; omega)) _ | refine Below.setCell ?_ (by first | (show _ ≤ _; omega) | (simp; done) | (simp; omega)) _)))).mono ?_
  rintro e w2 ⟨rfl, hb⟩
  have hszw2 := below_size hb
  try simp at hszw2
  have HBq : Below w.heap.size w w2 := Below.trans (by repeat (first | exact Below.refl _ _ | exact HB.out | refine Below.drew ?_ | refine bel_drewN _ ?_ | refine Below.alloc ?_ (by first | omega | (simp; done) | (simp; omega)) _ | refine Below.setCell ?_ (by first | (show _ ≤ _; omega) | (simp; done) | (simp; omega)) _)) (hb.mono (by first | omega | (simp; done) | (simp; omega)))
  have HB := Lib.hid HBq
  clear HBq hb
  go_wp2_with fail
  refine (addMonthsS_any n k _).mono ?_
  rintro e w3 ⟨rfl, hb⟩
  have hszw3 := below_size hb
  try simp at hszw3
  have HBq : Below w.heap.size w w3 := Below.trans (by repeat (first | exact Below.refl _ _ | exact HB.out | refine Below.drew ?_ | refine bel_drewN _ ?_ | refine Below.alloc ?_ (by first | omega | (simp; done) | (simp; omega)) _ | refine Below.setCell ?_ (by first | (show _ ≤ _; omega) | (simp; done) | (simp; omega)) _)) (hb.mono (by first | omega | (simp; done) | (simp; omega)))
  have HB := Lib.hid HBq
  clear HBq hb
  obtain ⟨b1, b2⟩ := addM_bd n k
  by_cases hneg : addM n k < 0
  · --
    go_wp2_with fail
    refine (addMonthsS_any n k _).mono ?_
    rintro e w4 ⟨rfl, hb⟩
    have hszw4 := below_size hb
    try simp at hszw4
    have HBq : Below w.heap.size w w4 := Below.trans (by repeat (first | exact Below.refl _ _ | exact HB.out | refine Below.drew ?_ | refine bel_drewN _ ?_ | refine Below.alloc ?_ (by first | omega | (simp; done) | (simp; omega)) _ | refine Below.setCell ?_ (by first | (show _ ≤ _; omega) | (simp; done) | (simp; omega)) _)) (hb.mono (by first | omega | (simp; done) | (simp; omega)))
    have HB := Lib.hid HBq
    clear HBq hb
    go_wp2
    go_ret
    exact ⟨rfl, (by repeat (first | exact Below.refl _ _ | exact HB.out | refine Below.drew ?_ | refine bel_drewN _ ?_ | refine Below.alloc ?_ (by first | omega | (simp; done) | (simp; omega)) _ | refine Below.setCell ?_ (by first | (show _ ≤ _; omega) | (simp; done) | (simp; omega)) _))⟩
  · have hh : 0 ≤ addM n k := by omega
    obtain ⟨hin, hk, ht⟩ := addM_in hh
    obtain ⟨e1, e2, e3⟩ := addM_date hh
    have hi := inR_yes hin
    have hi2 := inR_yes (n := addM n k) (lo := 0) (hi := 36524) ⟨hh, b2⟩
    obtain ⟨o1, o2, o3⟩ := o_yes hi
    obtain ⟨p1, p2, p3⟩ := o_yes hi2
    have hd := (date_ok hin).1
    obtain ⟨⟨hd1, hd2⟩, ⟨hd3, hd4⟩, ⟨hd5, hd6⟩⟩ := hd
    have hz : (addM n 0 == n) = true := by rw [addM_zero hin]; simp
    have td := amT_def n k
    have hY : Hid (dY (addM n k) = 1990 + amT n k / 12) := e1
    have hMm : Hid (dM (addM n k) = amT n k % 12 + 1) := e2
    have D2 := (date_ok (n := addM n k) ⟨hh, b2⟩).1
    obtain ⟨⟨f1, f2⟩, ⟨f3, f4⟩, ⟨f5, f6⟩⟩ := D2
    have hkk : (12 * (dY (addM n k) - dY n) + dM (addM n k) - dM n == k) = true := by
      rw [e1, e2, beq_iff_eq]; omega
    have hdim : dimO (dY (addM n k)) (dM (addM n k)) = dim (dY (addM n k)) (dM (addM n k)) := by
      unfold dimO; rw [if_pos (inR_yes ⟨f1, f2⟩), if_pos (inR_yes ⟨f3, f4⟩)]
    have hE := Lib.hid e3
    clear e1 e2 e3 td hk ht hin
    have w0 := @dim_bd (dY (addM n k)) (dM (addM n k))
    obtain ⟨w01, w02⟩ := w0
    have w1' := @dim_bd (dY n) (dM n)
    obtain ⟨w11, w12⟩ := w1'
    by_cases hday : dD (addM n k) = dD n
    · have hday' := Lib.hid hday
      clear hday hdim
      go_wp2_with fail
      refine (dateOfI2_any n _ (by exact HM.out.fwd (by repeat (first | exact Below.refl _ _ | exact HB.out.mono hM1 | refine Below.drew ?_ | refine bel_drewN _ ?_ | refine Below.alloc ?_ (by first | omega | (simp; done) | (simp; omega)) _ | refine Below.setCell ?_ (by first | (show _ ≤ _; omega) | (simp; done) | (simp; omega)) _)))).mono ?_
      rintro e w4 ⟨rfl, hb⟩
      have hszw4 := below_size hb
      try simp at hszw4
      have HBq : Below w.heap.size w w4 := Below.trans (by repeat (first | exact Below.refl _ _ | exact HB.out | refine Below.drew ?_ | refine bel_drewN _ ?_ | refine Below.alloc ?_ (by first | omega | (simp; done) | (simp; omega)) _ | refine Below.setCell ?_ (by first | (show _ ≤ _; omega) | (simp; done) | (simp; omega)) _)) (hb.mono (by first | omega | (simp; done) | (simp; omega)))
      have HB := Lib.hid HBq
      clear HBq hb
      go_wp2_with fail
      refine (dateOfI2_any (addM n k) _ (by exact HM.out.fwd (by repeat (first | exact Below.refl _ _ | exact HB.out.mono hM1 | refine Below.drew ?_ | refine bel_drewN _ ?_ | refine Below.alloc ?_ (by first | omega | (simp; done) | (simp; omega)) _ | refine Below.setCell ?_ (by first | (show _ ≤ _; omega) | (simp; done) | (simp; omega)) _)))).mono ?_
      rintro e w5 ⟨rfl, hb⟩
      have r0_1 : w5.cell? ⟨w4.heap.size, 0, none⟩ = some (.int .i64 (dY n)) := bc hb (by first | (simp; done) | go_simp)
      have r1_1 : w5.cell? ⟨w4.heap.size, 1, none⟩ = some (.int .i64 (dM n)) := bc hb (by first | (simp; done) | go_simp)
      have r2_1 : w5.cell? ⟨w4.heap.size, 2, none⟩ = some (.int .i64 (dD n)) := bc hb (by first | (simp; done) | go_simp)
      have rl_1 : w4.heap.size < w5.heap.size := cell_lt r0_1
      have hszw5 := below_size hb
      try simp at hszw5
      have HBq : Below w.heap.size w w5 := Below.trans (by repeat (first | exact Below.refl _ _ | exact HB.out | refine Below.drew ?_ | refine bel_drewN _ ?_ | refine Below.alloc ?_ (by first | omega | (simp; done) | (simp; omega)) _ | refine Below.setCell ?_ (by first | (show _ ≤ _; omega) | (simp; done) | (simp; omega)) _)) (hb.mono (by first | omega | (simp; done) | (simp; omega)))
      have HB := Lib.hid HBq
      clear HBq hb
      go_wp2_with fail
      have hmw : MD (w5.alloc (.cells #[.int .i64 (dY (addM n k)), .int .i64 (dM (addM n k)), .int .i64 (dD (addM n k))] 27)) := (by exact HM.out.fwd (by repeat (first | exact Below.refl _ _ | exact HB.out.mono hM1 | refine Below.drew ?_ | refine bel_drewN _ ?_ | refine Below.alloc ?_ (by first | omega | (simp; done) | (simp; omega)) _ | refine Below.setCell ?_ (by first | (show _ ≤ _; omega) | (simp; done) | (simp; omega)) _)))
      have HMW := Lib.hid hmw
      clear hmw
      have hbw : Below w.heap.size w (w5.alloc (.cells #[.int .i64 (dY (addM n k)), .int .i64 (dM (addM n k)), .int .i64 (dD (addM n k))] 27)) := (by repeat (first | exact Below.refl _ _ | exact HB.out | refine Below.drew ?_ | refine bel_drewN _ ?_ | refine Below.alloc ?_ (by first | omega | (simp; done) | (simp; omega)) _ | refine Below.setCell ?_ (by first | (show _ ≤ _; omega) | (simp; done) | (simp; omega)) _))
      have HBW := Lib.hid hbw
      clear hbw
      have u0 : (w5.alloc (.cells #[.int .i64 (dY (addM n k)), .int .i64 (dM (addM n k)), .int .i64 (dD (addM n k))] 27)).cell? ⟨w4.heap.size, 0, none⟩ = some (.int .i64 (dY n)) := ca r0_1
      have u1 : (w5.alloc (.cells #[.int .i64 (dY (addM n k)), .int .i64 (dM (addM n k)), .int .i64 (dD (addM n k))] 27)).cell? ⟨w4.heap.size, 1, none⟩ = some (.int .i64 (dM n)) := ca r1_1
      have u2 : (w5.alloc (.cells #[.int .i64 (dY (addM n k)), .int .i64 (dM (addM n k)), .int .i64 (dD (addM n k))] 27)).cell? ⟨w4.heap.size, 2, none⟩ = some (.int .i64 (dD n)) := ca r2_1
      have v0 : (w5.alloc (.cells #[.int .i64 (dY (addM n k)), .int .i64 (dM (addM n k)), .int .i64 (dD (addM n k))] 27)).cell? ⟨w5.heap.size, 0, none⟩ = some (.int .i64 (dY (addM n k))) := by simp
      have v1 : (w5.alloc (.cells #[.int .i64 (dY (addM n k)), .int .i64 (dM (addM n k)), .int .i64 (dD (addM n k))] 27)).cell? ⟨w5.heap.size, 1, none⟩ = some (.int .i64 (dM (addM n k))) := by simp
      have v2 : (w5.alloc (.cells #[.int .i64 (dY (addM n k)), .int .i64 (dM (addM n k)), .int .i64 (dD (addM n k))] 27)).cell? ⟨w5.heap.size, 2, none⟩ = some (.int .i64 (dD (addM n k))) := by simp
      have hWs : w.heap.size ≤ (w5.alloc (.cells #[.int .i64 (dY (addM n k)), .int .i64 (dM (addM n k)), .int .i64 (dD (addM n k))] 27)).heap.size := HBW.out.size
      generalize w5.alloc (.cells #[.int .i64 (dY (addM n k)), .int .i64 (dM (addM n k)), .int .i64 (dD (addM n k))] 27) = W at *
      clear HM HB r0_1 r1_1 r2_1 rl_1
      have hM1 := HMW.out.size
      generalize dD (addM n k) = d2 at *
      generalize dY (addM n k) = y2 at *
      generalize dM (addM n k) = m2 at *
      generalize dD n = d1 at *
      generalize dY n = y1 at *
      generalize dM n = m1 at *
      have hday2 := hday'.out
      subst hday2
      refine region_calm (by kernel_rfl) (by kernel_rfl) ?_
      repeat (first | go_big_quiet_skip | (go_big_quiet_want; first | (go_big_quiet_op; go_big_quiet_on) | (unfold Oper.quiet; apply Exists.intro; apply And.intro; (intro w' hw'; unfold Oper.quietAt; (have hu2 := bc hw' u2; have hv2 := bc hw' v2); go_simp; (first | rfl | with_reducible exact calm_call (addMonthsI_any n 0 _ (HMW.out.below hw')) hw')); go_simp; go_big_quiet_on)))
      refine wpQuiet_nil ?_
      intro W' hW'
      have HW' := Lib.hid hW'
      clear hW'
      go_wp2
      go_ret
      exact ⟨rfl, HBW.out.trans (HW'.out.mono HBW.out.size)⟩
    · have hday' : (dD (addM n k) == dD n) = false := by simpa using hday
      have hlt : dD (addM n k) < dD n ∧ dD (addM n k) = dim (dY (addM n k)) (dM (addM n k)) := by
        have q := minI_le (dD n) (dim (1990 + amT n k / 12) (amT n k % 12 + 1))
        rw [← hY.out, ← hMm.out] at q
        have e := hE.out
        rw [← hY.out, ← hMm.out] at e
        omega
      obtain ⟨hlt1, hlt2⟩ := hlt
      have hlt3 : (dD (addM n k) == dimO (dY (addM n k)) (dM (addM n k))) = true := by rw [hdim]; simpa using hlt2
      clear hday hdim hlt2
      go_wp2_with fail
      refine (dateOfI2_any n _ (by exact HM.out.fwd (by repeat (first | exact Below.refl _ _ | exact HB.out.mono hM1 | refine Below.drew ?_ | refine bel_drewN _ ?_ | refine Below.alloc ?_ (by first | omega | (simp; done) | (simp; omega)) _ | refine Below.setCell ?_ (by first | (show _ ≤ _; omega) | (simp; done) | (simp; omega)) _)))).mono ?_
      rintro e w4 ⟨rfl, hb⟩
      have hszw4 := below_size hb
      try simp at hszw4
      have HBq : Below w.heap.size w w4 := Below.trans (by repeat (first | exact Below.refl _ _ | exact HB.out | refine Below.drew ?_ | refine bel_drewN _ ?_ | refine Below.alloc ?_ (by first | omega | (simp; done) | (simp; omega)) _ | refine Below.setCell ?_ (by first | (show _ ≤ _; omega) | (simp; done) | (simp; omega)) _)) (hb.mono (by first | omega | (simp; done) | (simp; omega)))
      have HB := Lib.hid HBq
      clear HBq hb
      go_wp2_with fail
      refine (dateOfI2_any (addM n k) _ (by exact HM.out.fwd (by repeat (first | exact Below.refl _ _ | exact HB.out.mono hM1 | refine Below.drew ?_ | refine bel_drewN _ ?_ | refine Below.alloc ?_ (by first | omega | (simp; done) | (simp; omega)) _ | refine Below.setCell ?_ (by first | (show _ ≤ _; omega) | (simp; done) | (simp; omega)) _)))).mono ?_
      rintro e w5 ⟨rfl, hb⟩
      have r0_1 : w5.cell? ⟨w4.heap.size, 0, none⟩ = some (.int .i64 (dY n)) := bc hb (by first | (simp; done) | go_simp)
      have r1_1 : w5.cell? ⟨w4.heap.size, 1, none⟩ = some (.int .i64 (dM n)) := bc hb (by first | (simp; done) | go_simp)
      have r2_1 : w5.cell? ⟨w4.heap.size, 2, none⟩ = some (.int .i64 (dD n)) := bc hb (by first | (simp; done) | go_simp)
      have rl_1 : w4.heap.size < w5.heap.size := cell_lt r0_1
      have hszw5 := below_size hb
      try simp at hszw5
      have HBq : Below w.heap.size w w5 := Below.trans (by repeat (first | exact Below.refl _ _ | exact HB.out | refine Below.drew ?_ | refine bel_drewN _ ?_ | refine Below.alloc ?_ (by first | omega | (simp; done) | (simp; omega)) _ | refine Below.setCell ?_ (by first | (show _ ≤ _; omega) | (simp; done) | (simp; omega)) _)) (hb.mono (by first | omega | (simp; done) | (simp; omega)))
      have HB := Lib.hid HBq
      clear HBq hb
      go_wp2_with fail
      have hmw : MD (w5.alloc (.cells #[.int .i64 (dY (addM n k)), .int .i64 (dM (addM n k)), .int .i64 (dD (addM n k))] 27)) := (by exact HM.out.fwd (by repeat (first | exact Below.refl _ _ | exact HB.out.mono hM1 | refine Below.drew ?_ | refine bel_drewN _ ?_ | refine Below.alloc ?_ (by first | omega | (simp; done) | (simp; omega)) _ | refine Below.setCell ?_ (by first | (show _ ≤ _; omega) | (simp; done) | (simp; omega)) _)))
      have HMW := Lib.hid hmw
      clear hmw
      have hbw : Below w.heap.size w (w5.alloc (.cells #[.int .i64 (dY (addM n k)), .int .i64 (dM (addM n k)), .int .i64 (dD (addM n k))] 27)) := (by repeat (first | exact Below.refl _ _ | exact HB.out | refine Below.drew ?_ | refine bel_drewN _ ?_ | refine Below.alloc ?_ (by first | omega | (simp; done) | (simp; omega)) _ | refine Below.setCell ?_ (by first | (show _ ≤ _; omega) | (simp; done) | (simp; omega)) _))
      have HBW := Lib.hid hbw
      clear hbw
      have u0 : (w5.alloc (.cells #[.int .i64 (dY (addM n k)), .int .i64 (dM (addM n k)), .int .i64 (dD (addM n k))] 27)).cell? ⟨w4.heap.size, 0, none⟩ = some (.int .i64 (dY n)) := ca r0_1
      have u1 : (w5.alloc (.cells #[.int .i64 (dY (addM n k)), .int .i64 (dM (addM n k)), .int .i64 (dD (addM n k))] 27)).cell? ⟨w4.heap.size, 1, none⟩ = some (.int .i64 (dM n)) := ca r1_1
      have u2 : (w5.alloc (.cells #[.int .i64 (dY (addM n k)), .int .i64 (dM (addM n k)), .int .i64 (dD (addM n k))] 27)).cell? ⟨w4.heap.size, 2, none⟩ = some (.int .i64 (dD n)) := ca r2_1
      have v0 : (w5.alloc (.cells #[.int .i64 (dY (addM n k)), .int .i64 (dM (addM n k)), .int .i64 (dD (addM n k))] 27)).cell? ⟨w5.heap.size, 0, none⟩ = some (.int .i64 (dY (addM n k))) := by simp
      have v1 : (w5.alloc (.cells #[.int .i64 (dY (addM n k)), .int .i64 (dM (addM n k)), .int .i64 (dD (addM n k))] 27)).cell? ⟨w5.heap.size, 1, none⟩ = some (.int .i64 (dM (addM n k))) := by simp
      have v2 : (w5.alloc (.cells #[.int .i64 (dY (addM n k)), .int .i64 (dM (addM n k)), .int .i64 (dD (addM n k))] 27)).cell? ⟨w5.heap.size, 2, none⟩ = some (.int .i64 (dD (addM n k))) := by simp
      have hWs : w.heap.size ≤ (w5.alloc (.cells #[.int .i64 (dY (addM n k)), .int .i64 (dM (addM n k)), .int .i64 (dD (addM n k))] 27)).heap.size := HBW.out.size
      generalize w5.alloc (.cells #[.int .i64 (dY (addM n k)), .int .i64 (dM (addM n k)), .int .i64 (dD (addM n k))] 27) = W at *
      clear HM HB r0_1 r1_1 r2_1 rl_1
      have hM1 := HMW.out.size
      generalize dD (addM n k) = d2 at *
      generalize dY (addM n k) = y2 at *
      generalize dM (addM n k) = m2 at *
      generalize dD n = d1 at *
      generalize dY n = y1 at *
      generalize dM n = m1 at *
      have hl1 : decide (d2 < d1) = true := decide_eq_true hlt1
      have hlT : (d2 < d1) = True := eq_true hlt1
      refine region_calm (by kernel_rfl) (by kernel_rfl) ?_
      repeat (first | go_big_quiet_skip | (go_big_quiet_want; first | (go_big_quiet_op; go_big_quiet_on) | (unfold Oper.quiet; apply Exists.intro; apply And.intro; (intro w' hw'; unfold Oper.quietAt; (have hu2 := bc hw' u2; have hv0 := bc hw' v0; have hv1 := bc hw' v1; have hv2 := bc hw' v2); go_simp; (first | rfl | with_reducible exact calm_same (dimI_any y2 m2 _ (HMW.out.below hw')) hw' | with_reducible exact calm_call (addMonthsI_any n 0 _ (HMW.out.below hw')) hw')); go_simp; go_big_quiet_on)))
      refine wpQuiet_nil ?_
      intro W' hW'
      have HW' := Lib.hid hW'
      clear hW'
      go_wp2
      go_ret
      exact ⟨rfl, HBW.out.trans (HW'.out.mono HBW.out.size)⟩
end Go.Proofs.YtbjphookihgkpaaDoor
