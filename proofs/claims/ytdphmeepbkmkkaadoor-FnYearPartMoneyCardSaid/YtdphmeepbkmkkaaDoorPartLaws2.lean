/- The laws over parts of years: years, order, money years. -/
import Derived.Test.YtdphmeepbkmkkaaDoorPartLaws
namespace Go.Proofs.YtdphmeepbkmkkaaDoor
open Go.RowKit
set_option linter.unusedVariables false
theorem low_self {n : Int} (h : 1 ≤ n) : lowN n n = 1 ∧ lowD n n = 1 := by
  have e : gd n n = n := by unfold gd; rw [Int.gcd_self]; omega
  unfold lowN lowD
  rw [e, Int.ediv_self (by omega)]
  exact ⟨rfl, rfl⟩
theorem low_zero {n d : Int} (h : n = 0) : lowN n d = 0 := by
  subst h
  unfold lowN
  exact Int.zero_ediv _
theorem first_day {Y : Int} (h1 : 1990 ≤ Y) (h2 : Y ≤ 2089) : dayF Y 1 1 = dby Y ∧ (0 ≤ dby Y ∧ dby Y ≤ 36524) ∧ dY (dby Y) = Y ∧ dM (dby Y) = 1 ∧ dD (dby Y) = 1 := by
  have b := @dim_bd Y 1
  have D : Dt Y 1 1 := ⟨⟨h1, h2⟩, ⟨by decide, by decide⟩, ⟨by decide, by omega⟩⟩
  have e : num Y 1 1 = dby Y := by unfold num; rw [cum_first]; omega
  have n := num_bd D
  have q := date_eq D
  rw [e] at n q
  exact ⟨by rw [dayF_yes D, e], n, q⟩
theorem year_facts {Y : Int} (h1 : 1990 ≤ Y) (h2 : Y ≤ 2088) : vpart 3 (dby Y) (dby (Y + 1)) = true ∧ vpart 2 (dby Y) (dby (Y + 1)) = true ∧ ypN 3 (dby Y) (dby (Y + 1)) = 133590 ∧ ypN 2 (dby Y) (dby (Y + 1)) = 360 := by
  obtain ⟨_, ⟨a1, a2⟩, a3, a4, a5⟩ := first_day h1 (by omega)
  obtain ⟨_, ⟨b1, b2⟩, b3, b4, b5⟩ := first_day (Y := Y + 1) (by omega) (by omega)
  have s := dby_succ h1 (by omega)
  have yb := ydays_bd Y
  have lb := lpI_bd Y
  have L := lpd_year (Y := Y) (a := dby Y) (b := dby (Y + 1)) a1 (by omega) (fun i i1 i2 => dY_of ⟨by omega, by omega⟩ h1 (by omega) i1 (by omega))
  refine ⟨vpart_iff.2 ⟨by decide, a1, by omega, b2, by omega⟩, vpart_iff.2 ⟨by decide, a1, by omega, b2, by omega⟩, ?_, ?_⟩
  · unfold ypN
    rw [if_neg (by decide), if_pos rfl, L, s]
    have c : lpI Y = 0 ∨ lpI Y = 1 := by omega
    unfold ydays
    rcases c with c | c <;> rw [c] <;> omega
  · unfold ypN
    rw [if_pos rfl]
    unfold thN thD
    rw [a3, a4, a5, b3, b4, b5]
    simp
    omega
set_option maxHeartbeats 4000000 in
theorem fnYearPart_walk (a : Option Addr) (len cap : Nat) (w : World) (hM : MD w) (hlc : len ≤ cap) (hc : cap ≤ maxLen) (h : IsBytes w a len) :
    Calls Tryd.prog 8 #[.slice a len cap] w fun e w' => e = .returned (.bool true) ∧ Below w.heap.size w w' := by
  by_cases hbig : 1048576 < len
  · exact big_FnYearPart a len cap w hlc hc hbig
  have hM1 := hM.size
  have HM := Lib.hid hM
  have H := Lib.hid h
  clear h hM
  go_enter Tryd.func8, Tryd.ntmps8
  have HB := Lib.hid (Below.refl w.heap.size w)
  go_wp2_with fail
  refine (drawYearPart_any _ _ _ _ hlc hc H.out).mono ?_
  rintro e w1 ⟨k, x, y, rfl, hk, hx, hy, hb⟩
  have hszw1 := below_size hb
  try simp at hszw1
  have HBq : Below w.heap.size w w1 := Below.trans (by repeat (first | exact Below.refl _ _ | exact HB.out | refine Below.drew ?_ | refine bel_drewN _ ?_ | refine Below.alloc ?_ (by first | omega | (simp; done) | (simp; omega)) _ | refine Below.setCell ?_ (by first | (show _ ≤ _; omega) | (simp; done) | (simp; omega)) _)) (hb.mono (by first | omega | (simp; done) | (simp; omega)))
  have HB := Lib.hid HBq
  clear HBq hb
  by_cases hv : vpart k x y = true
  · obtain ⟨⟨k0, k1⟩, x0, x1, y0, y1⟩ := vpart_iff.1 hv
    clear hx hy
    obtain ⟨n0, n1⟩ := ypN_bd hv
    obtain ⟨d0, d1⟩ := ypD_bd k
    have hN0 : 0 ≤ lowN (ypN k x y) (ypD k) := Int.ediv_nonneg n0 (by have := gd_pos (a := ypN k x y) d0; omega)
    have HI := Lib.hid (ypI_of hv)
    have HS := Lib.hid (ypS_of hv)
    obtain ⟨v0, _⟩ := vpart_cut hv (Int.le_refl x) x1
    have HI0 := ypI_of v0
    rw [low_zero (ypN_self ⟨x0, by omega⟩)] at HI0
    replace HI0 := Lib.hid HI0
    by_cases v2 : vpart k x (y + 1) = true
    · have HI2 := Lib.hid (ypI_of v2)
      obtain ⟨m0, m1⟩ := ypN_bd v2
      have st := ypN_step v2 x1
      have hcmp := lowI_ge (n1 := ypN k x (y + 1)) (d1 := ypD k) (n2 := ypN k x y) (d2 := ypD k) ⟨by omega, by omega⟩ ⟨by omega, by omega⟩ ⟨d0, by omega⟩ ⟨d0, by omega⟩ (Int.mul_le_mul_of_nonneg_right st (by omega))
      clear hv v0 v2 n0 n1 m0 m1 st
      generalize lowN (ypN k x y) (ypD k) = N at *
      generalize lowD (ypN k x y) (ypD k) = D at *
      generalize lowD (ypN k x x) (ypD k) = D0 at *
      generalize lowN (ypN k x (y + 1)) (ypD k) = N2 at *
      generalize lowD (ypN k x (y + 1)) (ypD k) = D2 at *
      have hcb := cmpR_bd N2 D2 N D
      go_wp2_with fail
      refine (HI.out _ (by exact HM.out.fwd (by repeat (first | exact Below.refl _ _ | exact HB.out.mono hM1 | refine Below.drew ?_ | refine bel_drewN _ ?_ | refine Below.alloc ?_ (by first | omega | (simp; done) | (simp; omega)) _ | refine Below.setCell ?_ (by first | (show _ ≤ _; omega) | (simp; done) | (simp; omega)) _)))).mono ?_
      rintro e w2 ⟨rfl, hb⟩
      have hszw2 := below_size hb
      try simp at hszw2
      have HBq : Below w.heap.size w w2 := Below.trans (by repeat (first | exact Below.refl _ _ | exact HB.out | refine Below.drew ?_ | refine bel_drewN _ ?_ | refine Below.alloc ?_ (by first | omega | (simp; done) | (simp; omega)) _ | refine Below.setCell ?_ (by first | (show _ ≤ _; omega) | (simp; done) | (simp; omega)) _)) (hb.mono (by first | omega | (simp; done) | (simp; omega)))
      have HB := Lib.hid HBq
      clear HBq hb
      go_wp2_with fail
      refine (HS.out _).mono ?_
      rintro e w3 ⟨rfl, hb⟩
      have r0_1 : w3.cell? ⟨w2.heap.size, 0, none⟩ = some (.int .i64 N) := bc hb (by first | (simp; done) | go_simp)
      have r1_1 : w3.cell? ⟨w2.heap.size, 1, none⟩ = some (.int .i64 D) := bc hb (by first | (simp; done) | go_simp)
      have rl_1 : w2.heap.size < w3.heap.size := cell_lt r0_1
      have hszw3 := below_size hb
      try simp at hszw3
      have HBq : Below w.heap.size w w3 := Below.trans (by repeat (first | exact Below.refl _ _ | exact HB.out | refine Below.drew ?_ | refine bel_drewN _ ?_ | refine Below.alloc ?_ (by first | omega | (simp; done) | (simp; omega)) _ | refine Below.setCell ?_ (by first | (show _ ≤ _; omega) | (simp; done) | (simp; omega)) _)) (hb.mono (by first | omega | (simp; done) | (simp; omega)))
      have HB := Lib.hid HBq
      clear HBq hb
      go_wp2_with fail
      refine (HI0.out _ (by exact HM.out.fwd (by repeat (first | exact Below.refl _ _ | exact HB.out.mono hM1 | refine Below.drew ?_ | refine bel_drewN _ ?_ | refine Below.alloc ?_ (by first | omega | (simp; done) | (simp; omega)) _ | refine Below.setCell ?_ (by first | (show _ ≤ _; omega) | (simp; done) | (simp; omega)) _)))).mono ?_
      rintro e w4 ⟨rfl, hb⟩
      have r0_2 : w4.cell? ⟨w2.heap.size, 0, none⟩ = some (.int .i64 N) := bc hb (by first | exact r0_1 | exact ca r0_1 | exact ca (ca r0_1) | exact ca (ca (ca r0_1)) | (simp; done) | go_simp)
      have r1_2 : w4.cell? ⟨w2.heap.size, 1, none⟩ = some (.int .i64 D) := bc hb (by first | exact r1_1 | exact ca r1_1 | exact ca (ca r1_1) | exact ca (ca (ca r1_1)) | (simp; done) | go_simp)
      have rl_2 : w2.heap.size < w4.heap.size := cell_lt r0_2
      clear r0_1 r1_1 rl_1
      have s0_1 : w4.cell? ⟨w3.heap.size, 0, none⟩ = some (.int .i64 N) := bc hb (by first | (simp; done) | go_simp)
      have s1_1 : w4.cell? ⟨w3.heap.size, 1, none⟩ = some (.int .i64 D) := bc hb (by first | (simp; done) | go_simp)
      have sl_1 : w3.heap.size < w4.heap.size := cell_lt s0_1
      have hszw4 := below_size hb
      try simp at hszw4
      have HBq : Below w.heap.size w w4 := Below.trans (by repeat (first | exact Below.refl _ _ | exact HB.out | refine Below.drew ?_ | refine bel_drewN _ ?_ | refine Below.alloc ?_ (by first | omega | (simp; done) | (simp; omega)) _ | refine Below.setCell ?_ (by first | (show _ ≤ _; omega) | (simp; done) | (simp; omega)) _)) (hb.mono (by first | omega | (simp; done) | (simp; omega)))
      have HB := Lib.hid HBq
      clear HBq hb
      go_wp2_with fail
      refine (HI2.out _ (by exact HM.out.fwd (by repeat (first | exact Below.refl _ _ | exact HB.out.mono hM1 | refine Below.drew ?_ | refine bel_drewN _ ?_ | refine Below.alloc ?_ (by first | omega | (simp; done) | (simp; omega)) _ | refine Below.setCell ?_ (by first | (show _ ≤ _; omega) | (simp; done) | (simp; omega)) _)))).mono ?_
      rintro e w5 ⟨rfl, hb⟩
      have r0_3 : w5.cell? ⟨w2.heap.size, 0, none⟩ = some (.int .i64 N) := bc hb (by first | exact r0_2 | exact ca r0_2 | exact ca (ca r0_2) | exact ca (ca (ca r0_2)) | (simp; done) | go_simp)
      have r1_3 : w5.cell? ⟨w2.heap.size, 1, none⟩ = some (.int .i64 D) := bc hb (by first | exact r1_2 | exact ca r1_2 | exact ca (ca r1_2) | exact ca (ca (ca r1_2)) | (simp; done) | go_simp)
      have rl_3 : w2.heap.size < w5.heap.size := cell_lt r0_3
      clear r0_2 r1_2 rl_2
      have s0_2 : w5.cell? ⟨w3.heap.size, 0, none⟩ = some (.int .i64 N) := bc hb (by first | exact s0_1 | exact ca s0_1 | exact ca (ca s0_1) | exact ca (ca (ca s0_1)) | (simp; done) | go_simp)
      have s1_2 : w5.cell? ⟨w3.heap.size, 1, none⟩ = some (.int .i64 D) := bc hb (by first | exact s1_1 | exact ca s1_1 | exact ca (ca s1_1) | exact ca (ca (ca s1_1)) | (simp; done) | go_simp)
      have sl_2 : w3.heap.size < w5.heap.size := cell_lt s0_2
      clear s0_1 s1_1 sl_1
      have t0_1 : w5.cell? ⟨w4.heap.size, 0, none⟩ = some (.int .i64 0) := bc hb (by first | (simp; done) | go_simp)
      have t1_1 : w5.cell? ⟨w4.heap.size, 1, none⟩ = some (.int .i64 D0) := bc hb (by first | (simp; done) | go_simp)
      have tl_1 : w4.heap.size < w5.heap.size := cell_lt t0_1
      have hszw5 := below_size hb
      try simp at hszw5
      have HBq : Below w.heap.size w w5 := Below.trans (by repeat (first | exact Below.refl _ _ | exact HB.out | refine Below.drew ?_ | refine bel_drewN _ ?_ | refine Below.alloc ?_ (by first | omega | (simp; done) | (simp; omega)) _ | refine Below.setCell ?_ (by first | (show _ ≤ _; omega) | (simp; done) | (simp; omega)) _)) (hb.mono (by first | omega | (simp; done) | (simp; omega)))
      have HB := Lib.hid HBq
      clear HBq hb
      go_wp2_with fail
      refine (compareI_any N2 D2 N D _).mono ?_
      rintro e w6 ⟨rfl, hb⟩
      have r0_4 : w6.cell? ⟨w2.heap.size, 0, none⟩ = some (.int .i64 N) := bc hb (by first | exact r0_3 | exact ca r0_3 | exact ca (ca r0_3) | exact ca (ca (ca r0_3)) | (simp; done) | go_simp)
      have r1_4 : w6.cell? ⟨w2.heap.size, 1, none⟩ = some (.int .i64 D) := bc hb (by first | exact r1_3 | exact ca r1_3 | exact ca (ca r1_3) | exact ca (ca (ca r1_3)) | (simp; done) | go_simp)
      have rl_4 : w2.heap.size < w6.heap.size := cell_lt r0_4
      clear r0_3 r1_3 rl_3
      have s0_3 : w6.cell? ⟨w3.heap.size, 0, none⟩ = some (.int .i64 N) := bc hb (by first | exact s0_2 | exact ca s0_2 | exact ca (ca s0_2) | exact ca (ca (ca s0_2)) | (simp; done) | go_simp)
      have s1_3 : w6.cell? ⟨w3.heap.size, 1, none⟩ = some (.int .i64 D) := bc hb (by first | exact s1_2 | exact ca s1_2 | exact ca (ca s1_2) | exact ca (ca (ca s1_2)) | (simp; done) | go_simp)
      have sl_3 : w3.heap.size < w6.heap.size := cell_lt s0_3
      clear s0_2 s1_2 sl_2
      have t0_2 : w6.cell? ⟨w4.heap.size, 0, none⟩ = some (.int .i64 0) := bc hb (by first | exact t0_1 | exact ca t0_1 | exact ca (ca t0_1) | exact ca (ca (ca t0_1)) | (simp; done) | go_simp)
      have t1_2 : w6.cell? ⟨w4.heap.size, 1, none⟩ = some (.int .i64 D0) := bc hb (by first | exact t1_1 | exact ca t1_1 | exact ca (ca t1_1) | exact ca (ca (ca t1_1)) | (simp; done) | go_simp)
      have tl_2 : w4.heap.size < w6.heap.size := cell_lt t0_2
      clear t0_1 t1_1 tl_1
      have u0_1 : w6.cell? ⟨w5.heap.size, 0, none⟩ = some (.int .i64 N2) := bc hb (by first | (simp; done) | go_simp)
      have u1_1 : w6.cell? ⟨w5.heap.size, 1, none⟩ = some (.int .i64 D2) := bc hb (by first | (simp; done) | go_simp)
      have ul_1 : w5.heap.size < w6.heap.size := cell_lt u0_1
      have hszw6 := below_size hb
      try simp at hszw6
      have HBq : Below w.heap.size w w6 := Below.trans (by repeat (first | exact Below.refl _ _ | exact HB.out | refine Below.drew ?_ | refine bel_drewN _ ?_ | refine Below.alloc ?_ (by first | omega | (simp; done) | (simp; omega)) _ | refine Below.setCell ?_ (by first | (show _ ≤ _; omega) | (simp; done) | (simp; omega)) _)) (hb.mono (by first | omega | (simp; done) | (simp; omega)))
      have HB := Lib.hid HBq
      clear HBq hb
      go_wp2
      go_ret
      exact ⟨rfl, (by repeat (first | exact Below.refl _ _ | exact HB.out | refine Below.drew ?_ | refine bel_drewN _ ?_ | refine Below.alloc ?_ (by first | omega | (simp; done) | (simp; omega)) _ | refine Below.setCell ?_ (by first | (show _ ≤ _; omega) | (simp; done) | (simp; omega)) _))⟩
    · have v2' : vpart k x (y + 1) = false := by simpa using v2
      have HI2 := Lib.hid (ypI_no hk v2')
      clear hv v0 v2 v2' n0 n1
      generalize lowN (ypN k x y) (ypD k) = N at *
      generalize lowD (ypN k x y) (ypD k) = D at *
      generalize lowD (ypN k x x) (ypD k) = D0 at *
      go_wp2_with fail
      refine (HI.out _ (by exact HM.out.fwd (by repeat (first | exact Below.refl _ _ | exact HB.out.mono hM1 | refine Below.drew ?_ | refine bel_drewN _ ?_ | refine Below.alloc ?_ (by first | omega | (simp; done) | (simp; omega)) _ | refine Below.setCell ?_ (by first | (show _ ≤ _; omega) | (simp; done) | (simp; omega)) _)))).mono ?_
      rintro e w2 ⟨rfl, hb⟩
      have hszw2 := below_size hb
      try simp at hszw2
      have HBq : Below w.heap.size w w2 := Below.trans (by repeat (first | exact Below.refl _ _ | exact HB.out | refine Below.drew ?_ | refine bel_drewN _ ?_ | refine Below.alloc ?_ (by first | omega | (simp; done) | (simp; omega)) _ | refine Below.setCell ?_ (by first | (show _ ≤ _; omega) | (simp; done) | (simp; omega)) _)) (hb.mono (by first | omega | (simp; done) | (simp; omega)))
      have HB := Lib.hid HBq
      clear HBq hb
      go_wp2_with fail
      refine (HS.out _).mono ?_
      rintro e w3 ⟨rfl, hb⟩
      have r0_1 : w3.cell? ⟨w2.heap.size, 0, none⟩ = some (.int .i64 N) := bc hb (by first | (simp; done) | go_simp)
      have r1_1 : w3.cell? ⟨w2.heap.size, 1, none⟩ = some (.int .i64 D) := bc hb (by first | (simp; done) | go_simp)
      have rl_1 : w2.heap.size < w3.heap.size := cell_lt r0_1
      have hszw3 := below_size hb
      try simp at hszw3
      have HBq : Below w.heap.size w w3 := Below.trans (by repeat (first | exact Below.refl _ _ | exact HB.out | refine Below.drew ?_ | refine bel_drewN _ ?_ | refine Below.alloc ?_ (by first | omega | (simp; done) | (simp; omega)) _ | refine Below.setCell ?_ (by first | (show _ ≤ _; omega) | (simp; done) | (simp; omega)) _)) (hb.mono (by first | omega | (simp; done) | (simp; omega)))
      have HB := Lib.hid HBq
      clear HBq hb
      go_wp2_with fail
      refine (HI0.out _ (by exact HM.out.fwd (by repeat (first | exact Below.refl _ _ | exact HB.out.mono hM1 | refine Below.drew ?_ | refine bel_drewN _ ?_ | refine Below.alloc ?_ (by first | omega | (simp; done) | (simp; omega)) _ | refine Below.setCell ?_ (by first | (show _ ≤ _; omega) | (simp; done) | (simp; omega)) _)))).mono ?_
      rintro e w4 ⟨rfl, hb⟩
      have r0_2 : w4.cell? ⟨w2.heap.size, 0, none⟩ = some (.int .i64 N) := bc hb (by first | exact r0_1 | exact ca r0_1 | exact ca (ca r0_1) | exact ca (ca (ca r0_1)) | (simp; done) | go_simp)
      have r1_2 : w4.cell? ⟨w2.heap.size, 1, none⟩ = some (.int .i64 D) := bc hb (by first | exact r1_1 | exact ca r1_1 | exact ca (ca r1_1) | exact ca (ca (ca r1_1)) | (simp; done) | go_simp)
      have rl_2 : w2.heap.size < w4.heap.size := cell_lt r0_2
      clear r0_1 r1_1 rl_1
      have s0_1 : w4.cell? ⟨w3.heap.size, 0, none⟩ = some (.int .i64 N) := bc hb (by first | (simp; done) | go_simp)
      have s1_1 : w4.cell? ⟨w3.heap.size, 1, none⟩ = some (.int .i64 D) := bc hb (by first | (simp; done) | go_simp)
      have sl_1 : w3.heap.size < w4.heap.size := cell_lt s0_1
      have hszw4 := below_size hb
      try simp at hszw4
      have HBq : Below w.heap.size w w4 := Below.trans (by repeat (first | exact Below.refl _ _ | exact HB.out | refine Below.drew ?_ | refine bel_drewN _ ?_ | refine Below.alloc ?_ (by first | omega | (simp; done) | (simp; omega)) _ | refine Below.setCell ?_ (by first | (show _ ≤ _; omega) | (simp; done) | (simp; omega)) _)) (hb.mono (by first | omega | (simp; done) | (simp; omega)))
      have HB := Lib.hid HBq
      clear HBq hb
      go_wp2_with fail
      refine (HI2.out _ (by exact HM.out.fwd (by repeat (first | exact Below.refl _ _ | exact HB.out.mono hM1 | refine Below.drew ?_ | refine bel_drewN _ ?_ | refine Below.alloc ?_ (by first | omega | (simp; done) | (simp; omega)) _ | refine Below.setCell ?_ (by first | (show _ ≤ _; omega) | (simp; done) | (simp; omega)) _)))).mono ?_
      rintro e w5 ⟨rfl, hb⟩
      have r0_3 : w5.cell? ⟨w2.heap.size, 0, none⟩ = some (.int .i64 N) := bc hb (by first | exact r0_2 | exact ca r0_2 | exact ca (ca r0_2) | exact ca (ca (ca r0_2)) | (simp; done) | go_simp)
      have r1_3 : w5.cell? ⟨w2.heap.size, 1, none⟩ = some (.int .i64 D) := bc hb (by first | exact r1_2 | exact ca r1_2 | exact ca (ca r1_2) | exact ca (ca (ca r1_2)) | (simp; done) | go_simp)
      have rl_3 : w2.heap.size < w5.heap.size := cell_lt r0_3
      clear r0_2 r1_2 rl_2
      have s0_2 : w5.cell? ⟨w3.heap.size, 0, none⟩ = some (.int .i64 N) := bc hb (by first | exact s0_1 | exact ca s0_1 | exact ca (ca s0_1) | exact ca (ca (ca s0_1)) | (simp; done) | go_simp)
      have s1_2 : w5.cell? ⟨w3.heap.size, 1, none⟩ = some (.int .i64 D) := bc hb (by first | exact s1_1 | exact ca s1_1 | exact ca (ca s1_1) | exact ca (ca (ca s1_1)) | (simp; done) | go_simp)
      have sl_2 : w3.heap.size < w5.heap.size := cell_lt s0_2
      clear s0_1 s1_1 sl_1
      have t0_1 : w5.cell? ⟨w4.heap.size, 0, none⟩ = some (.int .i64 0) := bc hb (by first | (simp; done) | go_simp)
      have t1_1 : w5.cell? ⟨w4.heap.size, 1, none⟩ = some (.int .i64 D0) := bc hb (by first | (simp; done) | go_simp)
      have tl_1 : w4.heap.size < w5.heap.size := cell_lt t0_1
      have hszw5 := below_size hb
      try simp at hszw5
      have HBq : Below w.heap.size w w5 := Below.trans (by repeat (first | exact Below.refl _ _ | exact HB.out | refine Below.drew ?_ | refine bel_drewN _ ?_ | refine Below.alloc ?_ (by first | omega | (simp; done) | (simp; omega)) _ | refine Below.setCell ?_ (by first | (show _ ≤ _; omega) | (simp; done) | (simp; omega)) _)) (hb.mono (by first | omega | (simp; done) | (simp; omega)))
      have HB := Lib.hid HBq
      clear HBq hb
      go_wp2
      go_ret
      exact ⟨rfl, (by repeat (first | exact Below.refl _ _ | exact HB.out | refine Below.drew ?_ | refine bel_drewN _ ?_ | refine Below.alloc ?_ (by first | omega | (simp; done) | (simp; omega)) _ | refine Below.setCell ?_ (by first | (show _ ≤ _; omega) | (simp; done) | (simp; omega)) _))⟩
  · have hv' : vpart k x y = false := by simpa using hv
    have HI := Lib.hid (ypI_no hk hv')
    have HS := Lib.hid (ypS_no hv')
    clear hk hx hy hv hv'
    go_wp2_with fail
    refine (HI.out _ (by exact HM.out.fwd (by repeat (first | exact Below.refl _ _ | exact HB.out.mono hM1 | refine Below.drew ?_ | refine bel_drewN _ ?_ | refine Below.alloc ?_ (by first | omega | (simp; done) | (simp; omega)) _ | refine Below.setCell ?_ (by first | (show _ ≤ _; omega) | (simp; done) | (simp; omega)) _)))).mono ?_
    rintro e w2 ⟨rfl, hb⟩
    have hszw2 := below_size hb
    try simp at hszw2
    have HBq : Below w.heap.size w w2 := Below.trans (by repeat (first | exact Below.refl _ _ | exact HB.out | refine Below.drew ?_ | refine bel_drewN _ ?_ | refine Below.alloc ?_ (by first | omega | (simp; done) | (simp; omega)) _ | refine Below.setCell ?_ (by first | (show _ ≤ _; omega) | (simp; done) | (simp; omega)) _)) (hb.mono (by first | omega | (simp; done) | (simp; omega)))
    have HB := Lib.hid HBq
    clear HBq hb
    go_wp2_with fail
    refine (HS.out _).mono ?_
    rintro e w3 ⟨rfl, hb⟩
    have r0_1 : w3.cell? ⟨w2.heap.size, 0, none⟩ = some (.int .i64 0) := bc hb (by first | (simp; done) | go_simp)
    have r1_1 : w3.cell? ⟨w2.heap.size, 1, none⟩ = some (.int .i64 0) := bc hb (by first | (simp; done) | go_simp)
    have rl_1 : w2.heap.size < w3.heap.size := cell_lt r0_1
    have hszw3 := below_size hb
    try simp at hszw3
    have HBq : Below w.heap.size w w3 := Below.trans (by repeat (first | exact Below.refl _ _ | exact HB.out | refine Below.drew ?_ | refine bel_drewN _ ?_ | refine Below.alloc ?_ (by first | omega | (simp; done) | (simp; omega)) _ | refine Below.setCell ?_ (by first | (show _ ≤ _; omega) | (simp; done) | (simp; omega)) _)) (hb.mono (by first | omega | (simp; done) | (simp; omega)))
    have HB := Lib.hid HBq
    clear HBq hb
    go_wp2
    go_ret
    exact ⟨rfl, (by repeat (first | exact Below.refl _ _ | exact HB.out | refine Below.drew ?_ | refine bel_drewN _ ?_ | refine Below.alloc ?_ (by first | omega | (simp; done) | (simp; omega)) _ | refine Below.setCell ?_ (by first | (show _ ≤ _; omega) | (simp; done) | (simp; omega)) _))⟩
set_option maxHeartbeats 4000000 in
theorem fnYearPartMoney_walk (a : Option Addr) (len cap : Nat) (w : World) (hM : MD w) (hlc : len ≤ cap) (hc : cap ≤ maxLen) (h : IsBytes w a len) :
    Calls Tryd.prog 9 #[.slice a len cap] w fun e w' => e = .returned (.bool true) ∧ Below w.heap.size w w' := by
  by_cases hbig : 1048576 < len
  · exact big_FnYearPartMoney a len cap w hlc hc hbig
  have hM1 := hM.size
  have HM := Lib.hid hM
  have H := Lib.hid h
  clear h hM
  go_enter Tryd.func9, Tryd.ntmps9
  have HB := Lib.hid (Below.refl w.heap.size w)
  go_wp2_with fail
  refine (drawYearPart_any _ _ _ _ hlc hc H.out).mono ?_
  rintro e w1 ⟨k, x, y, rfl, hk, hx, hy, hb⟩
  have hszw1 := below_size hb
  try simp at hszw1
  have HBq : Below w.heap.size w w1 := Below.trans (by repeat (first | exact Below.refl _ _ | exact HB.out | refine Below.drew ?_ | refine bel_drewN _ ?_ | refine Below.alloc ?_ (by first | omega | (simp; done) | (simp; omega)) _ | refine Below.setCell ?_ (by first | (show _ ≤ _; omega) | (simp; done) | (simp; omega)) _)) (hb.mono (by first | omega | (simp; done) | (simp; omega)))
  have HB := Lib.hid HBq
  clear HBq hb
  by_cases hv : vpart k x y = true
  · obtain ⟨⟨k0, k1⟩, x0, x1, y0, y1⟩ := vpart_iff.1 hv
    clear hx hy hk
    have HI := Lib.hid (ypI_of hv)
    have HS := Lib.hid (ypS_of hv)
    have v0 : vpart 0 x y = true := vpart_iff.2 ⟨by decide, x0, x1, y0, y1⟩
    have v1 : vpart 1 x y = true := vpart_iff.2 ⟨by decide, x0, x1, y0, y1⟩
    have v3 : vpart 3 x y = true := vpart_iff.2 ⟨by decide, x0, x1, y0, y1⟩
    obtain ⟨p0, q0⟩ := ypN_bd v0
    obtain ⟨p1, q1⟩ := ypN_bd v1
    obtain ⟨p3, q3⟩ := ypN_bd v3
    have l := lpd_bd x0 x1
    have HI0 := Lib.hid (ypI_of v0)
    have HI1 := Lib.hid (ypI_of v1)
    have HI3 := Lib.hid (ypI_of v3)
    have e0 : ypN 0 x y = y - x := rfl
    have e1 : ypN 1 x y = y - x := rfl
    have e3 : ypN 3 x y = 365 * (lpd y - lpd x) + 366 * ((y - x) - (lpd y - lpd x)) := rfl
    have c1 := lowI_ge (n1 := ypN 1 x y) (d1 := ypD 1) (n2 := ypN 0 x y) (d2 := ypD 0) ⟨by omega, by omega⟩ ⟨by omega, by omega⟩ (by decide) (by decide) (by rw [e0, e1, show ypD 1 = 360 from rfl, show ypD 0 = 365 from rfl]; omega)
    have c2 := lowI_ge (n1 := ypN 0 x y) (d1 := ypD 0) (n2 := ypN 3 x y) (d2 := ypD 3) ⟨by omega, by omega⟩ ⟨by omega, by omega⟩ (by decide) (by decide) (by rw [e0, e3, show ypD 3 = 133590 from rfl, show ypD 0 = 365 from rfl]; omega)
    clear hv v0 v1 v3 p0 q0 p1 q1 p3 q3 l e0 e1 e3
    generalize lowN (ypN k x y) (ypD k) = N at *
    generalize lowD (ypN k x y) (ypD k) = D at *
    generalize lowN (ypN 1 x y) (ypD 1) = N1 at *
    generalize lowD (ypN 1 x y) (ypD 1) = D1 at *
    generalize lowN (ypN 0 x y) (ypD 0) = N0 at *
    generalize lowD (ypN 0 x y) (ypD 0) = D0 at *
    generalize lowN (ypN 3 x y) (ypD 3) = N3 at *
    generalize lowD (ypN 3 x y) (ypD 3) = D3 at *
    have hcb := cmpR_bd N1 D1 N0 D0
    have hcb2 := cmpR_bd N0 D0 N3 D3
    go_wp2_with fail
    refine (HI.out _ (by exact HM.out.fwd (by repeat (first | exact Below.refl _ _ | exact HB.out.mono hM1 | refine Below.drew ?_ | refine bel_drewN _ ?_ | refine Below.alloc ?_ (by first | omega | (simp; done) | (simp; omega)) _ | refine Below.setCell ?_ (by first | (show _ ≤ _; omega) | (simp; done) | (simp; omega)) _)))).mono ?_
    rintro e w2 ⟨rfl, hb⟩
    have hszw2 := below_size hb
    try simp at hszw2
    have HBq : Below w.heap.size w w2 := Below.trans (by repeat (first | exact Below.refl _ _ | exact HB.out | refine Below.drew ?_ | refine bel_drewN _ ?_ | refine Below.alloc ?_ (by first | omega | (simp; done) | (simp; omega)) _ | refine Below.setCell ?_ (by first | (show _ ≤ _; omega) | (simp; done) | (simp; omega)) _)) (hb.mono (by first | omega | (simp; done) | (simp; omega)))
    have HB := Lib.hid HBq
    clear HBq hb
    go_wp2_with fail
    refine (HS.out _).mono ?_
    rintro e w3 ⟨rfl, hb⟩
    have r0_1 : w3.cell? ⟨w2.heap.size, 0, none⟩ = some (.int .i64 N) := bc hb (by first | (simp; done) | go_simp)
    have r1_1 : w3.cell? ⟨w2.heap.size, 1, none⟩ = some (.int .i64 D) := bc hb (by first | (simp; done) | go_simp)
    have rl_1 : w2.heap.size < w3.heap.size := cell_lt r0_1
    have hszw3 := below_size hb
    try simp at hszw3
    have HBq : Below w.heap.size w w3 := Below.trans (by repeat (first | exact Below.refl _ _ | exact HB.out | refine Below.drew ?_ | refine bel_drewN _ ?_ | refine Below.alloc ?_ (by first | omega | (simp; done) | (simp; omega)) _ | refine Below.setCell ?_ (by first | (show _ ≤ _; omega) | (simp; done) | (simp; omega)) _)) (hb.mono (by first | omega | (simp; done) | (simp; omega)))
    have HB := Lib.hid HBq
    clear HBq hb
    go_wp2_with fail
    refine (HI1.out _ (by exact HM.out.fwd (by repeat (first | exact Below.refl _ _ | exact HB.out.mono hM1 | refine Below.drew ?_ | refine bel_drewN _ ?_ | refine Below.alloc ?_ (by first | omega | (simp; done) | (simp; omega)) _ | refine Below.setCell ?_ (by first | (show _ ≤ _; omega) | (simp; done) | (simp; omega)) _)))).mono ?_
    rintro e w4 ⟨rfl, hb⟩
    have r0_2 : w4.cell? ⟨w2.heap.size, 0, none⟩ = some (.int .i64 N) := bc hb (by first | exact r0_1 | exact ca r0_1 | exact ca (ca r0_1) | exact ca (ca (ca r0_1)) | (simp; done) | go_simp)
    have r1_2 : w4.cell? ⟨w2.heap.size, 1, none⟩ = some (.int .i64 D) := bc hb (by first | exact r1_1 | exact ca r1_1 | exact ca (ca r1_1) | exact ca (ca (ca r1_1)) | (simp; done) | go_simp)
    have rl_2 : w2.heap.size < w4.heap.size := cell_lt r0_2
    clear r0_1 r1_1 rl_1
    have s0_1 : w4.cell? ⟨w3.heap.size, 0, none⟩ = some (.int .i64 N) := bc hb (by first | (simp; done) | go_simp)
    have s1_1 : w4.cell? ⟨w3.heap.size, 1, none⟩ = some (.int .i64 D) := bc hb (by first | (simp; done) | go_simp)
    have sl_1 : w3.heap.size < w4.heap.size := cell_lt s0_1
    have hszw4 := below_size hb
    try simp at hszw4
    have HBq : Below w.heap.size w w4 := Below.trans (by repeat (first | exact Below.refl _ _ | exact HB.out | refine Below.drew ?_ | refine bel_drewN _ ?_ | refine Below.alloc ?_ (by first | omega | (simp; done) | (simp; omega)) _ | refine Below.setCell ?_ (by first | (show _ ≤ _; omega) | (simp; done) | (simp; omega)) _)) (hb.mono (by first | omega | (simp; done) | (simp; omega)))
    have HB := Lib.hid HBq
    clear HBq hb
    go_wp2_with fail
    refine (HI0.out _ (by exact HM.out.fwd (by repeat (first | exact Below.refl _ _ | exact HB.out.mono hM1 | refine Below.drew ?_ | refine bel_drewN _ ?_ | refine Below.alloc ?_ (by first | omega | (simp; done) | (simp; omega)) _ | refine Below.setCell ?_ (by first | (show _ ≤ _; omega) | (simp; done) | (simp; omega)) _)))).mono ?_
    rintro e w5 ⟨rfl, hb⟩
    have r0_3 : w5.cell? ⟨w2.heap.size, 0, none⟩ = some (.int .i64 N) := bc hb (by first | exact r0_2 | exact ca r0_2 | exact ca (ca r0_2) | exact ca (ca (ca r0_2)) | (simp; done) | go_simp)
    have r1_3 : w5.cell? ⟨w2.heap.size, 1, none⟩ = some (.int .i64 D) := bc hb (by first | exact r1_2 | exact ca r1_2 | exact ca (ca r1_2) | exact ca (ca (ca r1_2)) | (simp; done) | go_simp)
    have rl_3 : w2.heap.size < w5.heap.size := cell_lt r0_3
    clear r0_2 r1_2 rl_2
    have s0_2 : w5.cell? ⟨w3.heap.size, 0, none⟩ = some (.int .i64 N) := bc hb (by first | exact s0_1 | exact ca s0_1 | exact ca (ca s0_1) | exact ca (ca (ca s0_1)) | (simp; done) | go_simp)
    have s1_2 : w5.cell? ⟨w3.heap.size, 1, none⟩ = some (.int .i64 D) := bc hb (by first | exact s1_1 | exact ca s1_1 | exact ca (ca s1_1) | exact ca (ca (ca s1_1)) | (simp; done) | go_simp)
    have sl_2 : w3.heap.size < w5.heap.size := cell_lt s0_2
    clear s0_1 s1_1 sl_1
    have t0_1 : w5.cell? ⟨w4.heap.size, 0, none⟩ = some (.int .i64 N1) := bc hb (by first | (simp; done) | go_simp)
    have t1_1 : w5.cell? ⟨w4.heap.size, 1, none⟩ = some (.int .i64 D1) := bc hb (by first | (simp; done) | go_simp)
    have tl_1 : w4.heap.size < w5.heap.size := cell_lt t0_1
    have hszw5 := below_size hb
    try simp at hszw5
    have HBq : Below w.heap.size w w5 := Below.trans (by repeat (first | exact Below.refl _ _ | exact HB.out | refine Below.drew ?_ | refine bel_drewN _ ?_ | refine Below.alloc ?_ (by first | omega | (simp; done) | (simp; omega)) _ | refine Below.setCell ?_ (by first | (show _ ≤ _; omega) | (simp; done) | (simp; omega)) _)) (hb.mono (by first | omega | (simp; done) | (simp; omega)))
    have HB := Lib.hid HBq
    clear HBq hb
    go_wp2_with fail
    refine (HI3.out _ (by exact HM.out.fwd (by repeat (first | exact Below.refl _ _ | exact HB.out.mono hM1 | refine Below.drew ?_ | refine bel_drewN _ ?_ | refine Below.alloc ?_ (by first | omega | (simp; done) | (simp; omega)) _ | refine Below.setCell ?_ (by first | (show _ ≤ _; omega) | (simp; done) | (simp; omega)) _)))).mono ?_
    rintro e w6 ⟨rfl, hb⟩
    have r0_4 : w6.cell? ⟨w2.heap.size, 0, none⟩ = some (.int .i64 N) := bc hb (by first | exact r0_3 | exact ca r0_3 | exact ca (ca r0_3) | exact ca (ca (ca r0_3)) | (simp; done) | go_simp)
    have r1_4 : w6.cell? ⟨w2.heap.size, 1, none⟩ = some (.int .i64 D) := bc hb (by first | exact r1_3 | exact ca r1_3 | exact ca (ca r1_3) | exact ca (ca (ca r1_3)) | (simp; done) | go_simp)
    have rl_4 : w2.heap.size < w6.heap.size := cell_lt r0_4
    clear r0_3 r1_3 rl_3
    have s0_3 : w6.cell? ⟨w3.heap.size, 0, none⟩ = some (.int .i64 N) := bc hb (by first | exact s0_2 | exact ca s0_2 | exact ca (ca s0_2) | exact ca (ca (ca s0_2)) | (simp; done) | go_simp)
    have s1_3 : w6.cell? ⟨w3.heap.size, 1, none⟩ = some (.int .i64 D) := bc hb (by first | exact s1_2 | exact ca s1_2 | exact ca (ca s1_2) | exact ca (ca (ca s1_2)) | (simp; done) | go_simp)
    have sl_3 : w3.heap.size < w6.heap.size := cell_lt s0_3
    clear s0_2 s1_2 sl_2
    have t0_2 : w6.cell? ⟨w4.heap.size, 0, none⟩ = some (.int .i64 N1) := bc hb (by first | exact t0_1 | exact ca t0_1 | exact ca (ca t0_1) | exact ca (ca (ca t0_1)) | (simp; done) | go_simp)
    have t1_2 : w6.cell? ⟨w4.heap.size, 1, none⟩ = some (.int .i64 D1) := bc hb (by first | exact t1_1 | exact ca t1_1 | exact ca (ca t1_1) | exact ca (ca (ca t1_1)) | (simp; done) | go_simp)
    have tl_2 : w4.heap.size < w6.heap.size := cell_lt t0_2
    clear t0_1 t1_1 tl_1
    have u0_1 : w6.cell? ⟨w5.heap.size, 0, none⟩ = some (.int .i64 N0) := bc hb (by first | (simp; done) | go_simp)
    have u1_1 : w6.cell? ⟨w5.heap.size, 1, none⟩ = some (.int .i64 D0) := bc hb (by first | (simp; done) | go_simp)
    have ul_1 : w5.heap.size < w6.heap.size := cell_lt u0_1
    have hszw6 := below_size hb
    try simp at hszw6
    have HBq : Below w.heap.size w w6 := Below.trans (by repeat (first | exact Below.refl _ _ | exact HB.out | refine Below.drew ?_ | refine bel_drewN _ ?_ | refine Below.alloc ?_ (by first | omega | (simp; done) | (simp; omega)) _ | refine Below.setCell ?_ (by first | (show _ ≤ _; omega) | (simp; done) | (simp; omega)) _)) (hb.mono (by first | omega | (simp; done) | (simp; omega)))
    have HB := Lib.hid HBq
    clear HBq hb
    go_wp2_with fail
    refine (compareI_any N1 D1 N0 D0 _).mono ?_
    rintro e w7 ⟨rfl, hb⟩
    have r0_5 : w7.cell? ⟨w2.heap.size, 0, none⟩ = some (.int .i64 N) := bc hb (by first | exact r0_4 | exact ca r0_4 | exact ca (ca r0_4) | exact ca (ca (ca r0_4)) | (simp; done) | go_simp)
    have r1_5 : w7.cell? ⟨w2.heap.size, 1, none⟩ = some (.int .i64 D) := bc hb (by first | exact r1_4 | exact ca r1_4 | exact ca (ca r1_4) | exact ca (ca (ca r1_4)) | (simp; done) | go_simp)
    have rl_5 : w2.heap.size < w7.heap.size := cell_lt r0_5
    clear r0_4 r1_4 rl_4
    have s0_4 : w7.cell? ⟨w3.heap.size, 0, none⟩ = some (.int .i64 N) := bc hb (by first | exact s0_3 | exact ca s0_3 | exact ca (ca s0_3) | exact ca (ca (ca s0_3)) | (simp; done) | go_simp)
    have s1_4 : w7.cell? ⟨w3.heap.size, 1, none⟩ = some (.int .i64 D) := bc hb (by first | exact s1_3 | exact ca s1_3 | exact ca (ca s1_3) | exact ca (ca (ca s1_3)) | (simp; done) | go_simp)
    have sl_4 : w3.heap.size < w7.heap.size := cell_lt s0_4
    clear s0_3 s1_3 sl_3
    have t0_3 : w7.cell? ⟨w4.heap.size, 0, none⟩ = some (.int .i64 N1) := bc hb (by first | exact t0_2 | exact ca t0_2 | exact ca (ca t0_2) | exact ca (ca (ca t0_2)) | (simp; done) | go_simp)
    have t1_3 : w7.cell? ⟨w4.heap.size, 1, none⟩ = some (.int .i64 D1) := bc hb (by first | exact t1_2 | exact ca t1_2 | exact ca (ca t1_2) | exact ca (ca (ca t1_2)) | (simp; done) | go_simp)
    have tl_3 : w4.heap.size < w7.heap.size := cell_lt t0_3
    clear t0_2 t1_2 tl_2
    have u0_2 : w7.cell? ⟨w5.heap.size, 0, none⟩ = some (.int .i64 N0) := bc hb (by first | exact u0_1 | exact ca u0_1 | exact ca (ca u0_1) | exact ca (ca (ca u0_1)) | (simp; done) | go_simp)
    have u1_2 : w7.cell? ⟨w5.heap.size, 1, none⟩ = some (.int .i64 D0) := bc hb (by first | exact u1_1 | exact ca u1_1 | exact ca (ca u1_1) | exact ca (ca (ca u1_1)) | (simp; done) | go_simp)
    have ul_2 : w5.heap.size < w7.heap.size := cell_lt u0_2
    clear u0_1 u1_1 ul_1
    have v0_1 : w7.cell? ⟨w6.heap.size, 0, none⟩ = some (.int .i64 N3) := bc hb (by first | (simp; done) | go_simp)
    have v1_1 : w7.cell? ⟨w6.heap.size, 1, none⟩ = some (.int .i64 D3) := bc hb (by first | (simp; done) | go_simp)
    have vl_1 : w6.heap.size < w7.heap.size := cell_lt v0_1
    have hszw7 := below_size hb
    try simp at hszw7
    have HBq : Below w.heap.size w w7 := Below.trans (by repeat (first | exact Below.refl _ _ | exact HB.out | refine Below.drew ?_ | refine bel_drewN _ ?_ | refine Below.alloc ?_ (by first | omega | (simp; done) | (simp; omega)) _ | refine Below.setCell ?_ (by first | (show _ ≤ _; omega) | (simp; done) | (simp; omega)) _)) (hb.mono (by first | omega | (simp; done) | (simp; omega)))
    have HB := Lib.hid HBq
    clear HBq hb
    go_wp2_with fail
    refine (compareI_any N0 D0 N3 D3 _).mono ?_
    rintro e w8 ⟨rfl, hb⟩
    have r0_6 : w8.cell? ⟨w2.heap.size, 0, none⟩ = some (.int .i64 N) := bc hb (by first | exact r0_5 | exact ca r0_5 | exact ca (ca r0_5) | exact ca (ca (ca r0_5)) | (simp; done) | go_simp)
    have r1_6 : w8.cell? ⟨w2.heap.size, 1, none⟩ = some (.int .i64 D) := bc hb (by first | exact r1_5 | exact ca r1_5 | exact ca (ca r1_5) | exact ca (ca (ca r1_5)) | (simp; done) | go_simp)
    have rl_6 : w2.heap.size < w8.heap.size := cell_lt r0_6
    clear r0_5 r1_5 rl_5
    have s0_5 : w8.cell? ⟨w3.heap.size, 0, none⟩ = some (.int .i64 N) := bc hb (by first | exact s0_4 | exact ca s0_4 | exact ca (ca s0_4) | exact ca (ca (ca s0_4)) | (simp; done) | go_simp)
    have s1_5 : w8.cell? ⟨w3.heap.size, 1, none⟩ = some (.int .i64 D) := bc hb (by first | exact s1_4 | exact ca s1_4 | exact ca (ca s1_4) | exact ca (ca (ca s1_4)) | (simp; done) | go_simp)
    have sl_5 : w3.heap.size < w8.heap.size := cell_lt s0_5
    clear s0_4 s1_4 sl_4
    have t0_4 : w8.cell? ⟨w4.heap.size, 0, none⟩ = some (.int .i64 N1) := bc hb (by first | exact t0_3 | exact ca t0_3 | exact ca (ca t0_3) | exact ca (ca (ca t0_3)) | (simp; done) | go_simp)
    have t1_4 : w8.cell? ⟨w4.heap.size, 1, none⟩ = some (.int .i64 D1) := bc hb (by first | exact t1_3 | exact ca t1_3 | exact ca (ca t1_3) | exact ca (ca (ca t1_3)) | (simp; done) | go_simp)
    have tl_4 : w4.heap.size < w8.heap.size := cell_lt t0_4
    clear t0_3 t1_3 tl_3
    have u0_3 : w8.cell? ⟨w5.heap.size, 0, none⟩ = some (.int .i64 N0) := bc hb (by first | exact u0_2 | exact ca u0_2 | exact ca (ca u0_2) | exact ca (ca (ca u0_2)) | (simp; done) | go_simp)
    have u1_3 : w8.cell? ⟨w5.heap.size, 1, none⟩ = some (.int .i64 D0) := bc hb (by first | exact u1_2 | exact ca u1_2 | exact ca (ca u1_2) | exact ca (ca (ca u1_2)) | (simp; done) | go_simp)
    have ul_3 : w5.heap.size < w8.heap.size := cell_lt u0_3
    clear u0_2 u1_2 ul_2
    have v0_2 : w8.cell? ⟨w6.heap.size, 0, none⟩ = some (.int .i64 N3) := bc hb (by first | exact v0_1 | exact ca v0_1 | exact ca (ca v0_1) | exact ca (ca (ca v0_1)) | (simp; done) | go_simp)
    have v1_2 : w8.cell? ⟨w6.heap.size, 1, none⟩ = some (.int .i64 D3) := bc hb (by first | exact v1_1 | exact ca v1_1 | exact ca (ca v1_1) | exact ca (ca (ca v1_1)) | (simp; done) | go_simp)
    have vl_2 : w6.heap.size < w8.heap.size := cell_lt v0_2
    clear v0_1 v1_1 vl_1
    have hszw8 := below_size hb
    try simp at hszw8
    have HBq : Below w.heap.size w w8 := Below.trans (by repeat (first | exact Below.refl _ _ | exact HB.out | refine Below.drew ?_ | refine bel_drewN _ ?_ | refine Below.alloc ?_ (by first | omega | (simp; done) | (simp; omega)) _ | refine Below.setCell ?_ (by first | (show _ ≤ _; omega) | (simp; done) | (simp; omega)) _)) (hb.mono (by first | omega | (simp; done) | (simp; omega)))
    have HB := Lib.hid HBq
    clear HBq hb
    go_wp2
    go_ret
    exact ⟨rfl, (by repeat (first | exact Below.refl _ _ | exact HB.out | refine Below.drew ?_ | refine bel_drewN _ ?_ | refine Below.alloc ?_ (by first | omega | (simp; done) | (simp; omega)) _ | refine Below.setCell ?_ (by first | (show _ ≤ _; omega) | (simp; done) | (simp; omega)) _))⟩
  · have hv' : vpart k x y = false := by simpa using hv
    have HI := Lib.hid (ypI_no hk hv')
    have HS := Lib.hid (ypS_no hv')
    clear hk hx hy hv hv'
    go_wp2_with fail
    refine (HI.out _ (by exact HM.out.fwd (by repeat (first | exact Below.refl _ _ | exact HB.out.mono hM1 | refine Below.drew ?_ | refine bel_drewN _ ?_ | refine Below.alloc ?_ (by first | omega | (simp; done) | (simp; omega)) _ | refine Below.setCell ?_ (by first | (show _ ≤ _; omega) | (simp; done) | (simp; omega)) _)))).mono ?_
    rintro e w2 ⟨rfl, hb⟩
    have hszw2 := below_size hb
    try simp at hszw2
    have HBq : Below w.heap.size w w2 := Below.trans (by repeat (first | exact Below.refl _ _ | exact HB.out | refine Below.drew ?_ | refine bel_drewN _ ?_ | refine Below.alloc ?_ (by first | omega | (simp; done) | (simp; omega)) _ | refine Below.setCell ?_ (by first | (show _ ≤ _; omega) | (simp; done) | (simp; omega)) _)) (hb.mono (by first | omega | (simp; done) | (simp; omega)))
    have HB := Lib.hid HBq
    clear HBq hb
    go_wp2_with fail
    refine (HS.out _).mono ?_
    rintro e w3 ⟨rfl, hb⟩
    have r0_1 : w3.cell? ⟨w2.heap.size, 0, none⟩ = some (.int .i64 0) := bc hb (by first | (simp; done) | go_simp)
    have r1_1 : w3.cell? ⟨w2.heap.size, 1, none⟩ = some (.int .i64 0) := bc hb (by first | (simp; done) | go_simp)
    have rl_1 : w2.heap.size < w3.heap.size := cell_lt r0_1
    have hszw3 := below_size hb
    try simp at hszw3
    have HBq : Below w.heap.size w w3 := Below.trans (by repeat (first | exact Below.refl _ _ | exact HB.out | refine Below.drew ?_ | refine bel_drewN _ ?_ | refine Below.alloc ?_ (by first | omega | (simp; done) | (simp; omega)) _ | refine Below.setCell ?_ (by first | (show _ ≤ _; omega) | (simp; done) | (simp; omega)) _)) (hb.mono (by first | omega | (simp; done) | (simp; omega)))
    have HB := Lib.hid HBq
    clear HBq hb
    go_wp2
    go_ret
    exact ⟨rfl, (by repeat (first | exact Below.refl _ _ | exact HB.out | refine Below.drew ?_ | refine bel_drewN _ ?_ | refine Below.alloc ?_ (by first | omega | (simp; done) | (simp; omega)) _ | refine Below.setCell ?_ (by first | (show _ ≤ _; omega) | (simp; done) | (simp; omega)) _))⟩
set_option maxHeartbeats 4000000 in
theorem fnYearPartYear_walk (a : Option Addr) (len cap : Nat) (w : World) (hM : MD w) (hlc : len ≤ cap) (hc : cap ≤ maxLen) (h : IsBytes w a len) :
    Calls Tryd.prog 7 #[.slice a len cap] w fun e w' => e = .returned (.bool true) ∧ Below w.heap.size w w' := by
  by_cases hbig : 1048576 < len
  · exact big_FnYearPartYear a len cap w hlc hc hbig
  have hM1 := hM.size
  have HM := Lib.hid hM
  have H := Lib.hid h
  clear h hM
  go_enter Tryd.func7, Tryd.ntmps7
  have HB := Lib.hid (Below.refl w.heap.size w)
  go_wp2_with fail
  refine (drawYearPart_any _ _ _ _ hlc hc H.out).mono ?_
  rintro e w1 ⟨k, x, y, rfl, hk, hx, hy, hb⟩
  have hszw1 := below_size hb
  try simp at hszw1
  have HBq : Below w.heap.size w w1 := Below.trans (by repeat (first | exact Below.refl _ _ | exact HB.out | refine Below.drew ?_ | refine bel_drewN _ ?_ | refine Below.alloc ?_ (by first | omega | (simp; done) | (simp; omega)) _ | refine Below.setCell ?_ (by first | (show _ ≤ _; omega) | (simp; done) | (simp; omega)) _)) (hb.mono (by first | omega | (simp; done) | (simp; omega)))
  have HB := Lib.hid HBq
  clear HBq hb
  by_cases hv : vpart k x y = true
  · obtain ⟨⟨k0, k1⟩, x0, x1, y0, y1⟩ := vpart_iff.1 hv
    clear hx hy hk
    have HI := Lib.hid (ypI_of hv)
    have HS := Lib.hid (ypS_of hv)
    have xin : 0 ≤ x ∧ x ≤ 36524 := ⟨x0, by omega⟩
    obtain ⟨⟨Y1, Y2⟩, _⟩ := dY_bd xin
    have E := Lib.hid (o_yes (inR_yes (n := x) (lo := 0) (hi := 36524) xin)).1
    obtain ⟨f1, ⟨f2, f3⟩, _⟩ := first_day Y1 Y2
    clear hv xin
    generalize lowN (ypN k x y) (ypD k) = N at *
    generalize lowD (ypN k x y) (ypD k) = D at *
    have HD : Hid (∀ W : World, MD W → Calls Tryd.prog 25 #[.int .i64 x] W fun e w' => e = .returned (.tuple #[.agg #[.int .i64 (dY x), .int .i64 (oM x), .int .i64 (oD x)], .bool (inR x 0 36524)]) ∧ Below W.heap.size W w') := by
      refine Lib.hid fun W h => ?_
      rw [← E.out]
      exact dateOfI2_any x W h
    have HA : Hid (∀ W : World, MD W → Calls Tryd.prog 26 #[.agg #[.int .i64 (dY x), .int .i64 1, .int .i64 1]] W fun e w' => e = .returned (.int .i64 (dby (dY x))) ∧ Below W.heap.size W w') := by
      refine Lib.hid fun W h => ?_
      rw [← f1]
      exact dayOfI_any _ _ _ W h
    clear f1
    by_cases hl : dY x ≤ 2088
    · obtain ⟨g1, ⟨g2, g3⟩, _⟩ := first_day (Y := dY x + 1) (by omega) (by omega)
      have HB2 : Hid (∀ W : World, MD W → Calls Tryd.prog 26 #[.agg #[.int .i64 (dY x + 1), .int .i64 1, .int .i64 1]] W fun e w' => e = .returned (.int .i64 (dby (dY x + 1))) ∧ Below W.heap.size W w') := by
        refine Lib.hid fun W h => ?_
        rw [← g1]
        exact dayOfI_any _ _ _ W h
      obtain ⟨q1, q2, q3, q4⟩ := year_facts Y1 hl
      have HI3 := ypI_of q1
      have HI4 := ypI_of q2
      rw [q3, show ypD 3 = 133590 from rfl, (low_self (n := 133590) (by decide)).1, (low_self (n := 133590) (by decide)).2] at HI3
      rw [q4, show ypD 2 = 360 from rfl, (low_self (n := 360) (by decide)).1, (low_self (n := 360) (by decide)).2] at HI4
      replace HI3 := Lib.hid HI3
      replace HI4 := Lib.hid HI4
      clear g1 q1 q2 q3 q4
      generalize dby (dY x) = A0 at *
      generalize dby (dY x + 1) = B0 at *
      generalize dY x = Y0 at *
      go_wp2_with fail
      refine (HI.out _ (by exact HM.out.fwd (by repeat (first | exact Below.refl _ _ | exact HB.out.mono hM1 | refine Below.drew ?_ | refine bel_drewN _ ?_ | refine Below.alloc ?_ (by first | omega | (simp; done) | (simp; omega)) _ | refine Below.setCell ?_ (by first | (show _ ≤ _; omega) | (simp; done) | (simp; omega)) _)))).mono ?_
      rintro e w2 ⟨rfl, hb⟩
      have hszw2 := below_size hb
      try simp at hszw2
      have HBq : Below w.heap.size w w2 := Below.trans (by repeat (first | exact Below.refl _ _ | exact HB.out | refine Below.drew ?_ | refine bel_drewN _ ?_ | refine Below.alloc ?_ (by first | omega | (simp; done) | (simp; omega)) _ | refine Below.setCell ?_ (by first | (show _ ≤ _; omega) | (simp; done) | (simp; omega)) _)) (hb.mono (by first | omega | (simp; done) | (simp; omega)))
      have HB := Lib.hid HBq
      clear HBq hb
      go_wp2_with fail
      refine (HS.out _).mono ?_
      rintro e w3 ⟨rfl, hb⟩
      have r0_1 : w3.cell? ⟨w2.heap.size, 0, none⟩ = some (.int .i64 N) := bc hb (by first | (simp; done) | go_simp)
      have r1_1 : w3.cell? ⟨w2.heap.size, 1, none⟩ = some (.int .i64 D) := bc hb (by first | (simp; done) | go_simp)
      have rl_1 : w2.heap.size < w3.heap.size := cell_lt r0_1
      have hszw3 := below_size hb
      try simp at hszw3
      have HBq : Below w.heap.size w w3 := Below.trans (by repeat (first | exact Below.refl _ _ | exact HB.out | refine Below.drew ?_ | refine bel_drewN _ ?_ | refine Below.alloc ?_ (by first | omega | (simp; done) | (simp; omega)) _ | refine Below.setCell ?_ (by first | (show _ ≤ _; omega) | (simp; done) | (simp; omega)) _)) (hb.mono (by first | omega | (simp; done) | (simp; omega)))
      have HB := Lib.hid HBq
      clear HBq hb
      go_wp2_with fail
      refine (HD.out _ (by exact HM.out.fwd (by repeat (first | exact Below.refl _ _ | exact HB.out.mono hM1 | refine Below.drew ?_ | refine bel_drewN _ ?_ | refine Below.alloc ?_ (by first | omega | (simp; done) | (simp; omega)) _ | refine Below.setCell ?_ (by first | (show _ ≤ _; omega) | (simp; done) | (simp; omega)) _)))).mono ?_
      rintro e w4 ⟨rfl, hb⟩
      have r0_2 : w4.cell? ⟨w2.heap.size, 0, none⟩ = some (.int .i64 N) := bc hb (by first | exact r0_1 | exact ca r0_1 | exact ca (ca r0_1) | exact ca (ca (ca r0_1)) | (simp; done) | go_simp)
      have r1_2 : w4.cell? ⟨w2.heap.size, 1, none⟩ = some (.int .i64 D) := bc hb (by first | exact r1_1 | exact ca r1_1 | exact ca (ca r1_1) | exact ca (ca (ca r1_1)) | (simp; done) | go_simp)
      have rl_2 : w2.heap.size < w4.heap.size := cell_lt r0_2
      clear r0_1 r1_1 rl_1
      have s0_1 : w4.cell? ⟨w3.heap.size, 0, none⟩ = some (.int .i64 N) := bc hb (by first | (simp; done) | go_simp)
      have s1_1 : w4.cell? ⟨w3.heap.size, 1, none⟩ = some (.int .i64 D) := bc hb (by first | (simp; done) | go_simp)
      have sl_1 : w3.heap.size < w4.heap.size := cell_lt s0_1
      have hszw4 := below_size hb
      try simp at hszw4
      have HBq : Below w.heap.size w w4 := Below.trans (by repeat (first | exact Below.refl _ _ | exact HB.out | refine Below.drew ?_ | refine bel_drewN _ ?_ | refine Below.alloc ?_ (by first | omega | (simp; done) | (simp; omega)) _ | refine Below.setCell ?_ (by first | (show _ ≤ _; omega) | (simp; done) | (simp; omega)) _)) (hb.mono (by first | omega | (simp; done) | (simp; omega)))
      have HB := Lib.hid HBq
      clear HBq hb
      go_wp2_with fail
      refine (HA.out _ (by exact HM.out.fwd (by repeat (first | exact Below.refl _ _ | exact HB.out.mono hM1 | refine Below.drew ?_ | refine bel_drewN _ ?_ | refine Below.alloc ?_ (by first | omega | (simp; done) | (simp; omega)) _ | refine Below.setCell ?_ (by first | (show _ ≤ _; omega) | (simp; done) | (simp; omega)) _)))).mono ?_
      rintro e w5 ⟨rfl, hb⟩
      have r0_3 : w5.cell? ⟨w2.heap.size, 0, none⟩ = some (.int .i64 N) := bc hb (by first | exact r0_2 | exact ca r0_2 | exact ca (ca r0_2) | exact ca (ca (ca r0_2)) | (simp; done) | go_simp)
      have r1_3 : w5.cell? ⟨w2.heap.size, 1, none⟩ = some (.int .i64 D) := bc hb (by first | exact r1_2 | exact ca r1_2 | exact ca (ca r1_2) | exact ca (ca (ca r1_2)) | (simp; done) | go_simp)
      have rl_3 : w2.heap.size < w5.heap.size := cell_lt r0_3
      clear r0_2 r1_2 rl_2
      have s0_2 : w5.cell? ⟨w3.heap.size, 0, none⟩ = some (.int .i64 N) := bc hb (by first | exact s0_1 | exact ca s0_1 | exact ca (ca s0_1) | exact ca (ca (ca s0_1)) | (simp; done) | go_simp)
      have s1_2 : w5.cell? ⟨w3.heap.size, 1, none⟩ = some (.int .i64 D) := bc hb (by first | exact s1_1 | exact ca s1_1 | exact ca (ca s1_1) | exact ca (ca (ca s1_1)) | (simp; done) | go_simp)
      have sl_2 : w3.heap.size < w5.heap.size := cell_lt s0_2
      clear s0_1 s1_1 sl_1
      have t0_1 : w5.cell? ⟨w4.heap.size, 0, none⟩ = some (.int .i64 Y0) := bc hb (by first | (simp; done) | go_simp)
      have t1_1 : w5.cell? ⟨w4.heap.size, 1, none⟩ = some (.int .i64 (oM x)) := bc hb (by first | (simp; done) | go_simp)
      have t2_1 : w5.cell? ⟨w4.heap.size, 2, none⟩ = some (.int .i64 (oD x)) := bc hb (by first | (simp; done) | go_simp)
      have tl_1 : w4.heap.size < w5.heap.size := cell_lt t0_1
      have hszw5 := below_size hb
      try simp at hszw5
      have HBq : Below w.heap.size w w5 := Below.trans (by repeat (first | exact Below.refl _ _ | exact HB.out | refine Below.drew ?_ | refine bel_drewN _ ?_ | refine Below.alloc ?_ (by first | omega | (simp; done) | (simp; omega)) _ | refine Below.setCell ?_ (by first | (show _ ≤ _; omega) | (simp; done) | (simp; omega)) _)) (hb.mono (by first | omega | (simp; done) | (simp; omega)))
      have HB := Lib.hid HBq
      clear HBq hb
      go_wp2_with fail
      refine (HB2.out _ (by exact HM.out.fwd (by repeat (first | exact Below.refl _ _ | exact HB.out.mono hM1 | refine Below.drew ?_ | refine bel_drewN _ ?_ | refine Below.alloc ?_ (by first | omega | (simp; done) | (simp; omega)) _ | refine Below.setCell ?_ (by first | (show _ ≤ _; omega) | (simp; done) | (simp; omega)) _)))).mono ?_
      rintro e w6 ⟨rfl, hb⟩
      have r0_4 : w6.cell? ⟨w2.heap.size, 0, none⟩ = some (.int .i64 N) := bc hb (by first | exact r0_3 | exact ca r0_3 | exact ca (ca r0_3) | exact ca (ca (ca r0_3)) | (simp; done) | go_simp)
      have r1_4 : w6.cell? ⟨w2.heap.size, 1, none⟩ = some (.int .i64 D) := bc hb (by first | exact r1_3 | exact ca r1_3 | exact ca (ca r1_3) | exact ca (ca (ca r1_3)) | (simp; done) | go_simp)
      have rl_4 : w2.heap.size < w6.heap.size := cell_lt r0_4
      clear r0_3 r1_3 rl_3
      have s0_3 : w6.cell? ⟨w3.heap.size, 0, none⟩ = some (.int .i64 N) := bc hb (by first | exact s0_2 | exact ca s0_2 | exact ca (ca s0_2) | exact ca (ca (ca s0_2)) | (simp; done) | go_simp)
      have s1_3 : w6.cell? ⟨w3.heap.size, 1, none⟩ = some (.int .i64 D) := bc hb (by first | exact s1_2 | exact ca s1_2 | exact ca (ca s1_2) | exact ca (ca (ca s1_2)) | (simp; done) | go_simp)
      have sl_3 : w3.heap.size < w6.heap.size := cell_lt s0_3
      clear s0_2 s1_2 sl_2
      have t0_2 : w6.cell? ⟨w4.heap.size, 0, none⟩ = some (.int .i64 Y0) := bc hb (by first | exact t0_1 | exact ca t0_1 | exact ca (ca t0_1) | exact ca (ca (ca t0_1)) | (simp; done) | go_simp)
      have t1_2 : w6.cell? ⟨w4.heap.size, 1, none⟩ = some (.int .i64 (oM x)) := bc hb (by first | exact t1_1 | exact ca t1_1 | exact ca (ca t1_1) | exact ca (ca (ca t1_1)) | (simp; done) | go_simp)
      have t2_2 : w6.cell? ⟨w4.heap.size, 2, none⟩ = some (.int .i64 (oD x)) := bc hb (by first | exact t2_1 | exact ca t2_1 | exact ca (ca t2_1) | exact ca (ca (ca t2_1)) | (simp; done) | go_simp)
      have tl_2 : w4.heap.size < w6.heap.size := cell_lt t0_2
      clear t0_1 t1_1 t2_1 tl_1
      have hszw6 := below_size hb
      try simp at hszw6
      have HBq : Below w.heap.size w w6 := Below.trans (by repeat (first | exact Below.refl _ _ | exact HB.out | refine Below.drew ?_ | refine bel_drewN _ ?_ | refine Below.alloc ?_ (by first | omega | (simp; done) | (simp; omega)) _ | refine Below.setCell ?_ (by first | (show _ ≤ _; omega) | (simp; done) | (simp; omega)) _)) (hb.mono (by first | omega | (simp; done) | (simp; omega)))
      have HB := Lib.hid HBq
      clear HBq hb
      go_wp2_with fail
      refine (HI3.out _ (by exact HM.out.fwd (by repeat (first | exact Below.refl _ _ | exact HB.out.mono hM1 | refine Below.drew ?_ | refine bel_drewN _ ?_ | refine Below.alloc ?_ (by first | omega | (simp; done) | (simp; omega)) _ | refine Below.setCell ?_ (by first | (show _ ≤ _; omega) | (simp; done) | (simp; omega)) _)))).mono ?_
      rintro e w7 ⟨rfl, hb⟩
      have r0_5 : w7.cell? ⟨w2.heap.size, 0, none⟩ = some (.int .i64 N) := bc hb (by first | exact r0_4 | exact ca r0_4 | exact ca (ca r0_4) | exact ca (ca (ca r0_4)) | (simp; done) | go_simp)
      have r1_5 : w7.cell? ⟨w2.heap.size, 1, none⟩ = some (.int .i64 D) := bc hb (by first | exact r1_4 | exact ca r1_4 | exact ca (ca r1_4) | exact ca (ca (ca r1_4)) | (simp; done) | go_simp)
      have rl_5 : w2.heap.size < w7.heap.size := cell_lt r0_5
      clear r0_4 r1_4 rl_4
      have s0_4 : w7.cell? ⟨w3.heap.size, 0, none⟩ = some (.int .i64 N) := bc hb (by first | exact s0_3 | exact ca s0_3 | exact ca (ca s0_3) | exact ca (ca (ca s0_3)) | (simp; done) | go_simp)
      have s1_4 : w7.cell? ⟨w3.heap.size, 1, none⟩ = some (.int .i64 D) := bc hb (by first | exact s1_3 | exact ca s1_3 | exact ca (ca s1_3) | exact ca (ca (ca s1_3)) | (simp; done) | go_simp)
      have sl_4 : w3.heap.size < w7.heap.size := cell_lt s0_4
      clear s0_3 s1_3 sl_3
      have t0_3 : w7.cell? ⟨w4.heap.size, 0, none⟩ = some (.int .i64 Y0) := bc hb (by first | exact t0_2 | exact ca t0_2 | exact ca (ca t0_2) | exact ca (ca (ca t0_2)) | (simp; done) | go_simp)
      have t1_3 : w7.cell? ⟨w4.heap.size, 1, none⟩ = some (.int .i64 (oM x)) := bc hb (by first | exact t1_2 | exact ca t1_2 | exact ca (ca t1_2) | exact ca (ca (ca t1_2)) | (simp; done) | go_simp)
      have t2_3 : w7.cell? ⟨w4.heap.size, 2, none⟩ = some (.int .i64 (oD x)) := bc hb (by first | exact t2_2 | exact ca t2_2 | exact ca (ca t2_2) | exact ca (ca (ca t2_2)) | (simp; done) | go_simp)
      have tl_3 : w4.heap.size < w7.heap.size := cell_lt t0_3
      clear t0_2 t1_2 t2_2 tl_2
      have hszw7 := below_size hb
      try simp at hszw7
      have HBq : Below w.heap.size w w7 := Below.trans (by repeat (first | exact Below.refl _ _ | exact HB.out | refine Below.drew ?_ | refine bel_drewN _ ?_ | refine Below.alloc ?_ (by first | omega | (simp; done) | (simp; omega)) _ | refine Below.setCell ?_ (by first | (show _ ≤ _; omega) | (simp; done) | (simp; omega)) _)) (hb.mono (by first | omega | (simp; done) | (simp; omega)))
      have HB := Lib.hid HBq
      clear HBq hb
      go_wp2_with fail
      refine (HI4.out _ (by exact HM.out.fwd (by repeat (first | exact Below.refl _ _ | exact HB.out.mono hM1 | refine Below.drew ?_ | refine bel_drewN _ ?_ | refine Below.alloc ?_ (by first | omega | (simp; done) | (simp; omega)) _ | refine Below.setCell ?_ (by first | (show _ ≤ _; omega) | (simp; done) | (simp; omega)) _)))).mono ?_
      rintro e w8 ⟨rfl, hb⟩
      have r0_6 : w8.cell? ⟨w2.heap.size, 0, none⟩ = some (.int .i64 N) := bc hb (by first | exact r0_5 | exact ca r0_5 | exact ca (ca r0_5) | exact ca (ca (ca r0_5)) | (simp; done) | go_simp)
      have r1_6 : w8.cell? ⟨w2.heap.size, 1, none⟩ = some (.int .i64 D) := bc hb (by first | exact r1_5 | exact ca r1_5 | exact ca (ca r1_5) | exact ca (ca (ca r1_5)) | (simp; done) | go_simp)
      have rl_6 : w2.heap.size < w8.heap.size := cell_lt r0_6
      clear r0_5 r1_5 rl_5
      have s0_5 : w8.cell? ⟨w3.heap.size, 0, none⟩ = some (.int .i64 N) := bc hb (by first | exact s0_4 | exact ca s0_4 | exact ca (ca s0_4) | exact ca (ca (ca s0_4)) | (simp; done) | go_simp)
      have s1_5 : w8.cell? ⟨w3.heap.size, 1, none⟩ = some (.int .i64 D) := bc hb (by first | exact s1_4 | exact ca s1_4 | exact ca (ca s1_4) | exact ca (ca (ca s1_4)) | (simp; done) | go_simp)
      have sl_5 : w3.heap.size < w8.heap.size := cell_lt s0_5
      clear s0_4 s1_4 sl_4
      have t0_4 : w8.cell? ⟨w4.heap.size, 0, none⟩ = some (.int .i64 Y0) := bc hb (by first | exact t0_3 | exact ca t0_3 | exact ca (ca t0_3) | exact ca (ca (ca t0_3)) | (simp; done) | go_simp)
      have t1_4 : w8.cell? ⟨w4.heap.size, 1, none⟩ = some (.int .i64 (oM x)) := bc hb (by first | exact t1_3 | exact ca t1_3 | exact ca (ca t1_3) | exact ca (ca (ca t1_3)) | (simp; done) | go_simp)
      have t2_4 : w8.cell? ⟨w4.heap.size, 2, none⟩ = some (.int .i64 (oD x)) := bc hb (by first | exact t2_3 | exact ca t2_3 | exact ca (ca t2_3) | exact ca (ca (ca t2_3)) | (simp; done) | go_simp)
      have tl_4 : w4.heap.size < w8.heap.size := cell_lt t0_4
      clear t0_3 t1_3 t2_3 tl_3
      have u0_1 : w8.cell? ⟨w7.heap.size, 0, none⟩ = some (.int .i64 1) := bc hb (by first | (simp; done) | go_simp)
      have u1_1 : w8.cell? ⟨w7.heap.size, 1, none⟩ = some (.int .i64 1) := bc hb (by first | (simp; done) | go_simp)
      have ul_1 : w7.heap.size < w8.heap.size := cell_lt u0_1
      have hszw8 := below_size hb
      try simp at hszw8
      have HBq : Below w.heap.size w w8 := Below.trans (by repeat (first | exact Below.refl _ _ | exact HB.out | refine Below.drew ?_ | refine bel_drewN _ ?_ | refine Below.alloc ?_ (by first | omega | (simp; done) | (simp; omega)) _ | refine Below.setCell ?_ (by first | (show _ ≤ _; omega) | (simp; done) | (simp; omega)) _)) (hb.mono (by first | omega | (simp; done) | (simp; omega)))
      have HB := Lib.hid HBq
      clear HBq hb
      go_wp2
      go_ret
      exact ⟨rfl, (by repeat (first | exact Below.refl _ _ | exact HB.out | refine Below.drew ?_ | refine bel_drewN _ ?_ | refine Below.alloc ?_ (by first | omega | (simp; done) | (simp; omega)) _ | refine Below.setCell ?_ (by first | (show _ ≤ _; omega) | (simp; done) | (simp; omega)) _))⟩
    · have g1 : dayF (dY x + 1) 1 1 = -1 := dayF_no (by rintro ⟨⟨_, h⟩, _⟩; omega)
      have HB2 : Hid (∀ W : World, MD W → Calls Tryd.prog 26 #[.agg #[.int .i64 (dY x + 1), .int .i64 1, .int .i64 1]] W fun e w' => e = .returned (.int .i64 (-1)) ∧ Below W.heap.size W w') := by
        refine Lib.hid fun W h => ?_
        rw [← g1]
        exact dayOfI_any _ _ _ W h
      have q1 : ∀ kk, vpart kk (dby (dY x)) (-1) = false := by
        intro kk
        by_cases q : vpart kk (dby (dY x)) (-1) = true
        · have := (vpart_iff.1 q).2; omega
        · simpa using q
      have HI3 := Lib.hid (ypI_no (k := 3) (by decide) (q1 3))
      have HI4 := Lib.hid (ypI_no (k := 2) (by decide) (q1 2))
      clear g1 q1
      generalize dby (dY x) = A0 at *
      generalize dY x = Y0 at *
      go_wp2_with fail
      refine (HI.out _ (by exact HM.out.fwd (by repeat (first | exact Below.refl _ _ | exact HB.out.mono hM1 | refine Below.drew ?_ | refine bel_drewN _ ?_ | refine Below.alloc ?_ (by first | omega | (simp; done) | (simp; omega)) _ | refine Below.setCell ?_ (by first | (show _ ≤ _; omega) | (simp; done) | (simp; omega)) _)))).mono ?_
      rintro e w2 ⟨rfl, hb⟩
      have hszw2 := below_size hb
      try simp at hszw2
      have HBq : Below w.heap.size w w2 := Below.trans (by repeat (first | exact Below.refl _ _ | exact HB.out | refine Below.drew ?_ | refine bel_drewN _ ?_ | refine Below.alloc ?_ (by first | omega | (simp; done) | (simp; omega)) _ | refine Below.setCell ?_ (by first | (show _ ≤ _; omega) | (simp; done) | (simp; omega)) _)) (hb.mono (by first | omega | (simp; done) | (simp; omega)))
      have HB := Lib.hid HBq
      clear HBq hb
      go_wp2_with fail
      refine (HS.out _).mono ?_
      rintro e w3 ⟨rfl, hb⟩
      have r0_1 : w3.cell? ⟨w2.heap.size, 0, none⟩ = some (.int .i64 N) := bc hb (by first | (simp; done) | go_simp)
      have r1_1 : w3.cell? ⟨w2.heap.size, 1, none⟩ = some (.int .i64 D) := bc hb (by first | (simp; done) | go_simp)
      have rl_1 : w2.heap.size < w3.heap.size := cell_lt r0_1
      have hszw3 := below_size hb
      try simp at hszw3
      have HBq : Below w.heap.size w w3 := Below.trans (by repeat (first | exact Below.refl _ _ | exact HB.out | refine Below.drew ?_ | refine bel_drewN _ ?_ | refine Below.alloc ?_ (by first | omega | (simp; done) | (simp; omega)) _ | refine Below.setCell ?_ (by first | (show _ ≤ _; omega) | (simp; done) | (simp; omega)) _)) (hb.mono (by first | omega | (simp; done) | (simp; omega)))
      have HB := Lib.hid HBq
      clear HBq hb
      go_wp2_with fail
      refine (HD.out _ (by exact HM.out.fwd (by repeat (first | exact Below.refl _ _ | exact HB.out.mono hM1 | refine Below.drew ?_ | refine bel_drewN _ ?_ | refine Below.alloc ?_ (by first | omega | (simp; done) | (simp; omega)) _ | refine Below.setCell ?_ (by first | (show _ ≤ _; omega) | (simp; done) | (simp; omega)) _)))).mono ?_
      rintro e w4 ⟨rfl, hb⟩
      have r0_2 : w4.cell? ⟨w2.heap.size, 0, none⟩ = some (.int .i64 N) := bc hb (by first | exact r0_1 | exact ca r0_1 | exact ca (ca r0_1) | exact ca (ca (ca r0_1)) | (simp; done) | go_simp)
      have r1_2 : w4.cell? ⟨w2.heap.size, 1, none⟩ = some (.int .i64 D) := bc hb (by first | exact r1_1 | exact ca r1_1 | exact ca (ca r1_1) | exact ca (ca (ca r1_1)) | (simp; done) | go_simp)
      have rl_2 : w2.heap.size < w4.heap.size := cell_lt r0_2
      clear r0_1 r1_1 rl_1
      have s0_1 : w4.cell? ⟨w3.heap.size, 0, none⟩ = some (.int .i64 N) := bc hb (by first | (simp; done) | go_simp)
      have s1_1 : w4.cell? ⟨w3.heap.size, 1, none⟩ = some (.int .i64 D) := bc hb (by first | (simp; done) | go_simp)
      have sl_1 : w3.heap.size < w4.heap.size := cell_lt s0_1
      have hszw4 := below_size hb
      try simp at hszw4
      have HBq : Below w.heap.size w w4 := Below.trans (by repeat (first | exact Below.refl _ _ | exact HB.out | refine Below.drew ?_ | refine bel_drewN _ ?_ | refine Below.alloc ?_ (by first | omega | (simp; done) | (simp; omega)) _ | refine Below.setCell ?_ (by first | (show _ ≤ _; omega) | (simp; done) | (simp; omega)) _)) (hb.mono (by first | omega | (simp; done) | (simp; omega)))
      have HB := Lib.hid HBq
      clear HBq hb
      go_wp2_with fail
      refine (HA.out _ (by exact HM.out.fwd (by repeat (first | exact Below.refl _ _ | exact HB.out.mono hM1 | refine Below.drew ?_ | refine bel_drewN _ ?_ | refine Below.alloc ?_ (by first | omega | (simp; done) | (simp; omega)) _ | refine Below.setCell ?_ (by first | (show _ ≤ _; omega) | (simp; done) | (simp; omega)) _)))).mono ?_
      rintro e w5 ⟨rfl, hb⟩
      have r0_3 : w5.cell? ⟨w2.heap.size, 0, none⟩ = some (.int .i64 N) := bc hb (by first | exact r0_2 | exact ca r0_2 | exact ca (ca r0_2) | exact ca (ca (ca r0_2)) | (simp; done) | go_simp)
      have r1_3 : w5.cell? ⟨w2.heap.size, 1, none⟩ = some (.int .i64 D) := bc hb (by first | exact r1_2 | exact ca r1_2 | exact ca (ca r1_2) | exact ca (ca (ca r1_2)) | (simp; done) | go_simp)
      have rl_3 : w2.heap.size < w5.heap.size := cell_lt r0_3
      clear r0_2 r1_2 rl_2
      have s0_2 : w5.cell? ⟨w3.heap.size, 0, none⟩ = some (.int .i64 N) := bc hb (by first | exact s0_1 | exact ca s0_1 | exact ca (ca s0_1) | exact ca (ca (ca s0_1)) | (simp; done) | go_simp)
      have s1_2 : w5.cell? ⟨w3.heap.size, 1, none⟩ = some (.int .i64 D) := bc hb (by first | exact s1_1 | exact ca s1_1 | exact ca (ca s1_1) | exact ca (ca (ca s1_1)) | (simp; done) | go_simp)
      have sl_2 : w3.heap.size < w5.heap.size := cell_lt s0_2
      clear s0_1 s1_1 sl_1
      have t0_1 : w5.cell? ⟨w4.heap.size, 0, none⟩ = some (.int .i64 Y0) := bc hb (by first | (simp; done) | go_simp)
      have t1_1 : w5.cell? ⟨w4.heap.size, 1, none⟩ = some (.int .i64 (oM x)) := bc hb (by first | (simp; done) | go_simp)
      have t2_1 : w5.cell? ⟨w4.heap.size, 2, none⟩ = some (.int .i64 (oD x)) := bc hb (by first | (simp; done) | go_simp)
      have tl_1 : w4.heap.size < w5.heap.size := cell_lt t0_1
      have hszw5 := below_size hb
      try simp at hszw5
      have HBq : Below w.heap.size w w5 := Below.trans (by repeat (first | exact Below.refl _ _ | exact HB.out | refine Below.drew ?_ | refine bel_drewN _ ?_ | refine Below.alloc ?_ (by first | omega | (simp; done) | (simp; omega)) _ | refine Below.setCell ?_ (by first | (show _ ≤ _; omega) | (simp; done) | (simp; omega)) _)) (hb.mono (by first | omega | (simp; done) | (simp; omega)))
      have HB := Lib.hid HBq
      clear HBq hb
      go_wp2_with fail
      refine (HB2.out _ (by exact HM.out.fwd (by repeat (first | exact Below.refl _ _ | exact HB.out.mono hM1 | refine Below.drew ?_ | refine bel_drewN _ ?_ | refine Below.alloc ?_ (by first | omega | (simp; done) | (simp; omega)) _ | refine Below.setCell ?_ (by first | (show _ ≤ _; omega) | (simp; done) | (simp; omega)) _)))).mono ?_
      rintro e w6 ⟨rfl, hb⟩
      have r0_4 : w6.cell? ⟨w2.heap.size, 0, none⟩ = some (.int .i64 N) := bc hb (by first | exact r0_3 | exact ca r0_3 | exact ca (ca r0_3) | exact ca (ca (ca r0_3)) | (simp; done) | go_simp)
      have r1_4 : w6.cell? ⟨w2.heap.size, 1, none⟩ = some (.int .i64 D) := bc hb (by first | exact r1_3 | exact ca r1_3 | exact ca (ca r1_3) | exact ca (ca (ca r1_3)) | (simp; done) | go_simp)
      have rl_4 : w2.heap.size < w6.heap.size := cell_lt r0_4
      clear r0_3 r1_3 rl_3
      have s0_3 : w6.cell? ⟨w3.heap.size, 0, none⟩ = some (.int .i64 N) := bc hb (by first | exact s0_2 | exact ca s0_2 | exact ca (ca s0_2) | exact ca (ca (ca s0_2)) | (simp; done) | go_simp)
      have s1_3 : w6.cell? ⟨w3.heap.size, 1, none⟩ = some (.int .i64 D) := bc hb (by first | exact s1_2 | exact ca s1_2 | exact ca (ca s1_2) | exact ca (ca (ca s1_2)) | (simp; done) | go_simp)
      have sl_3 : w3.heap.size < w6.heap.size := cell_lt s0_3
      clear s0_2 s1_2 sl_2
      have t0_2 : w6.cell? ⟨w4.heap.size, 0, none⟩ = some (.int .i64 Y0) := bc hb (by first | exact t0_1 | exact ca t0_1 | exact ca (ca t0_1) | exact ca (ca (ca t0_1)) | (simp; done) | go_simp)
      have t1_2 : w6.cell? ⟨w4.heap.size, 1, none⟩ = some (.int .i64 (oM x)) := bc hb (by first | exact t1_1 | exact ca t1_1 | exact ca (ca t1_1) | exact ca (ca (ca t1_1)) | (simp; done) | go_simp)
      have t2_2 : w6.cell? ⟨w4.heap.size, 2, none⟩ = some (.int .i64 (oD x)) := bc hb (by first | exact t2_1 | exact ca t2_1 | exact ca (ca t2_1) | exact ca (ca (ca t2_1)) | (simp; done) | go_simp)
      have tl_2 : w4.heap.size < w6.heap.size := cell_lt t0_2
      clear t0_1 t1_1 t2_1 tl_1
      have hszw6 := below_size hb
      try simp at hszw6
      have HBq : Below w.heap.size w w6 := Below.trans (by repeat (first | exact Below.refl _ _ | exact HB.out | refine Below.drew ?_ | refine bel_drewN _ ?_ | refine Below.alloc ?_ (by first | omega | (simp; done) | (simp; omega)) _ | refine Below.setCell ?_ (by first | (show _ ≤ _; omega) | (simp; done) | (simp; omega)) _)) (hb.mono (by first | omega | (simp; done) | (simp; omega)))
      have HB := Lib.hid HBq
      clear HBq hb
      go_wp2_with fail
      refine (HI3.out _ (by exact HM.out.fwd (by repeat (first | exact Below.refl _ _ | exact HB.out.mono hM1 | refine Below.drew ?_ | refine bel_drewN _ ?_ | refine Below.alloc ?_ (by first | omega | (simp; done) | (simp; omega)) _ | refine Below.setCell ?_ (by first | (show _ ≤ _; omega) | (simp; done) | (simp; omega)) _)))).mono ?_
      rintro e w7 ⟨rfl, hb⟩
      have r0_5 : w7.cell? ⟨w2.heap.size, 0, none⟩ = some (.int .i64 N) := bc hb (by first | exact r0_4 | exact ca r0_4 | exact ca (ca r0_4) | exact ca (ca (ca r0_4)) | (simp; done) | go_simp)
      have r1_5 : w7.cell? ⟨w2.heap.size, 1, none⟩ = some (.int .i64 D) := bc hb (by first | exact r1_4 | exact ca r1_4 | exact ca (ca r1_4) | exact ca (ca (ca r1_4)) | (simp; done) | go_simp)
      have rl_5 : w2.heap.size < w7.heap.size := cell_lt r0_5
      clear r0_4 r1_4 rl_4
      have s0_4 : w7.cell? ⟨w3.heap.size, 0, none⟩ = some (.int .i64 N) := bc hb (by first | exact s0_3 | exact ca s0_3 | exact ca (ca s0_3) | exact ca (ca (ca s0_3)) | (simp; done) | go_simp)
      have s1_4 : w7.cell? ⟨w3.heap.size, 1, none⟩ = some (.int .i64 D) := bc hb (by first | exact s1_3 | exact ca s1_3 | exact ca (ca s1_3) | exact ca (ca (ca s1_3)) | (simp; done) | go_simp)
      have sl_4 : w3.heap.size < w7.heap.size := cell_lt s0_4
      clear s0_3 s1_3 sl_3
      have t0_3 : w7.cell? ⟨w4.heap.size, 0, none⟩ = some (.int .i64 Y0) := bc hb (by first | exact t0_2 | exact ca t0_2 | exact ca (ca t0_2) | exact ca (ca (ca t0_2)) | (simp; done) | go_simp)
      have t1_3 : w7.cell? ⟨w4.heap.size, 1, none⟩ = some (.int .i64 (oM x)) := bc hb (by first | exact t1_2 | exact ca t1_2 | exact ca (ca t1_2) | exact ca (ca (ca t1_2)) | (simp; done) | go_simp)
      have t2_3 : w7.cell? ⟨w4.heap.size, 2, none⟩ = some (.int .i64 (oD x)) := bc hb (by first | exact t2_2 | exact ca t2_2 | exact ca (ca t2_2) | exact ca (ca (ca t2_2)) | (simp; done) | go_simp)
      have tl_3 : w4.heap.size < w7.heap.size := cell_lt t0_3
      clear t0_2 t1_2 t2_2 tl_2
      have hszw7 := below_size hb
      try simp at hszw7
      have HBq : Below w.heap.size w w7 := Below.trans (by repeat (first | exact Below.refl _ _ | exact HB.out | refine Below.drew ?_ | refine bel_drewN _ ?_ | refine Below.alloc ?_ (by first | omega | (simp; done) | (simp; omega)) _ | refine Below.setCell ?_ (by first | (show _ ≤ _; omega) | (simp; done) | (simp; omega)) _)) (hb.mono (by first | omega | (simp; done) | (simp; omega)))
      have HB := Lib.hid HBq
      clear HBq hb
      go_wp2_with fail
      refine (HI4.out _ (by exact HM.out.fwd (by repeat (first | exact Below.refl _ _ | exact HB.out.mono hM1 | refine Below.drew ?_ | refine bel_drewN _ ?_ | refine Below.alloc ?_ (by first | omega | (simp; done) | (simp; omega)) _ | refine Below.setCell ?_ (by first | (show _ ≤ _; omega) | (simp; done) | (simp; omega)) _)))).mono ?_
      rintro e w8 ⟨rfl, hb⟩
      have r0_6 : w8.cell? ⟨w2.heap.size, 0, none⟩ = some (.int .i64 N) := bc hb (by first | exact r0_5 | exact ca r0_5 | exact ca (ca r0_5) | exact ca (ca (ca r0_5)) | (simp; done) | go_simp)
      have r1_6 : w8.cell? ⟨w2.heap.size, 1, none⟩ = some (.int .i64 D) := bc hb (by first | exact r1_5 | exact ca r1_5 | exact ca (ca r1_5) | exact ca (ca (ca r1_5)) | (simp; done) | go_simp)
      have rl_6 : w2.heap.size < w8.heap.size := cell_lt r0_6
      clear r0_5 r1_5 rl_5
      have s0_5 : w8.cell? ⟨w3.heap.size, 0, none⟩ = some (.int .i64 N) := bc hb (by first | exact s0_4 | exact ca s0_4 | exact ca (ca s0_4) | exact ca (ca (ca s0_4)) | (simp; done) | go_simp)
      have s1_5 : w8.cell? ⟨w3.heap.size, 1, none⟩ = some (.int .i64 D) := bc hb (by first | exact s1_4 | exact ca s1_4 | exact ca (ca s1_4) | exact ca (ca (ca s1_4)) | (simp; done) | go_simp)
      have sl_5 : w3.heap.size < w8.heap.size := cell_lt s0_5
      clear s0_4 s1_4 sl_4
      have t0_4 : w8.cell? ⟨w4.heap.size, 0, none⟩ = some (.int .i64 Y0) := bc hb (by first | exact t0_3 | exact ca t0_3 | exact ca (ca t0_3) | exact ca (ca (ca t0_3)) | (simp; done) | go_simp)
      have t1_4 : w8.cell? ⟨w4.heap.size, 1, none⟩ = some (.int .i64 (oM x)) := bc hb (by first | exact t1_3 | exact ca t1_3 | exact ca (ca t1_3) | exact ca (ca (ca t1_3)) | (simp; done) | go_simp)
      have t2_4 : w8.cell? ⟨w4.heap.size, 2, none⟩ = some (.int .i64 (oD x)) := bc hb (by first | exact t2_3 | exact ca t2_3 | exact ca (ca t2_3) | exact ca (ca (ca t2_3)) | (simp; done) | go_simp)
      have tl_4 : w4.heap.size < w8.heap.size := cell_lt t0_4
      clear t0_3 t1_3 t2_3 tl_3
      have u0_1 : w8.cell? ⟨w7.heap.size, 0, none⟩ = some (.int .i64 0) := bc hb (by first | (simp; done) | go_simp)
      have u1_1 : w8.cell? ⟨w7.heap.size, 1, none⟩ = some (.int .i64 0) := bc hb (by first | (simp; done) | go_simp)
      have ul_1 : w7.heap.size < w8.heap.size := cell_lt u0_1
      have hszw8 := below_size hb
      try simp at hszw8
      have HBq : Below w.heap.size w w8 := Below.trans (by repeat (first | exact Below.refl _ _ | exact HB.out | refine Below.drew ?_ | refine bel_drewN _ ?_ | refine Below.alloc ?_ (by first | omega | (simp; done) | (simp; omega)) _ | refine Below.setCell ?_ (by first | (show _ ≤ _; omega) | (simp; done) | (simp; omega)) _)) (hb.mono (by first | omega | (simp; done) | (simp; omega)))
      have HB := Lib.hid HBq
      clear HBq hb
      go_wp2
      go_ret
      exact ⟨rfl, (by repeat (first | exact Below.refl _ _ | exact HB.out | refine Below.drew ?_ | refine bel_drewN _ ?_ | refine Below.alloc ?_ (by first | omega | (simp; done) | (simp; omega)) _ | refine Below.setCell ?_ (by first | (show _ ≤ _; omega) | (simp; done) | (simp; omega)) _))⟩
  · have hv' : vpart k x y = false := by simpa using hv
    have HI := Lib.hid (ypI_no hk hv')
    have HS := Lib.hid (ypS_no hv')
    clear hk hx hy hv hv'
    go_wp2_with fail
    refine (HI.out _ (by exact HM.out.fwd (by repeat (first | exact Below.refl _ _ | exact HB.out.mono hM1 | refine Below.drew ?_ | refine bel_drewN _ ?_ | refine Below.alloc ?_ (by first | omega | (simp; done) | (simp; omega)) _ | refine Below.setCell ?_ (by first | (show _ ≤ _; omega) | (simp; done) | (simp; omega)) _)))).mono ?_
    rintro e w2 ⟨rfl, hb⟩
    have hszw2 := below_size hb
    try simp at hszw2
    have HBq : Below w.heap.size w w2 := Below.trans (by repeat (first | exact Below.refl _ _ | exact HB.out | refine Below.drew ?_ | refine bel_drewN _ ?_ | refine Below.alloc ?_ (by first | omega | (simp; done) | (simp; omega)) _ | refine Below.setCell ?_ (by first | (show _ ≤ _; omega) | (simp; done) | (simp; omega)) _)) (hb.mono (by first | omega | (simp; done) | (simp; omega)))
    have HB := Lib.hid HBq
    clear HBq hb
    go_wp2_with fail
    refine (HS.out _).mono ?_
    rintro e w3 ⟨rfl, hb⟩
    have r0_1 : w3.cell? ⟨w2.heap.size, 0, none⟩ = some (.int .i64 0) := bc hb (by first | (simp; done) | go_simp)
    have r1_1 : w3.cell? ⟨w2.heap.size, 1, none⟩ = some (.int .i64 0) := bc hb (by first | (simp; done) | go_simp)
    have rl_1 : w2.heap.size < w3.heap.size := cell_lt r0_1
    have hszw3 := below_size hb
    try simp at hszw3
    have HBq : Below w.heap.size w w3 := Below.trans (by repeat (first | exact Below.refl _ _ | exact HB.out | refine Below.drew ?_ | refine bel_drewN _ ?_ | refine Below.alloc ?_ (by first | omega | (simp; done) | (simp; omega)) _ | refine Below.setCell ?_ (by first | (show _ ≤ _; omega) | (simp; done) | (simp; omega)) _)) (hb.mono (by first | omega | (simp; done) | (simp; omega)))
    have HB := Lib.hid HBq
    clear HBq hb
    go_wp2
    go_ret
    exact ⟨rfl, (by repeat (first | exact Below.refl _ _ | exact HB.out | refine Below.drew ?_ | refine bel_drewN _ ?_ | refine Below.alloc ?_ (by first | omega | (simp; done) | (simp; omega)) _ | refine Below.setCell ?_ (by first | (show _ ≤ _; omega) | (simp; done) | (simp; omega)) _))⟩
end Go.Proofs.YtdphmeepbkmkkaaDoor
