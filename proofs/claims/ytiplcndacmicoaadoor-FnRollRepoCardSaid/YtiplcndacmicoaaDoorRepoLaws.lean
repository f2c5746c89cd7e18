/- The laws over repos. -/
import Derived.Test.YtiplcndacmicoaaDoorRepoDraw
import Derived.Test.YtiplcndacmicoaaDoorRepoEx
namespace Go.Proofs.YtiplcndacmicoaaDoor
open Go.RowKit
set_option linter.unusedVariables false
theorem ri_zero {c r a b h : Int} (k : rpB c r a b h = true) : riV c r a a h = 0 := by
  obtain ⟨h1, h2, h3, h4⟩ := rpB_iff.1 k
  obtain ⟨s1, s2, s3, s4⟩ := span_iff.1 h3
  have k2 : rpB c r a a h = true := rpB_iff.2 ⟨h1, h2, span_iff.2 ⟨s1, Int.le_refl a, by omega, by omega⟩, h4⟩
  rw [riV_yes k2, itV_yes (rp_it k2), ypN_self ⟨s1, by omega⟩]
  have e : lowN 0 (ypD 1) = 0 := by unfold lowN; exact Int.zero_ediv _
  have p := lowD_pos (n := 0) (ypD_bd 1).1
  rw [e, Int.mul_zero]
  exact near_zero (by omega)
theorem ri_more {c r a b h : Int} (k : rpB c r a b h = true) : riV c r a (b + 1) h = -1 ∨ riV c r a b h ≤ riV c r a (b + 1) h := by
  cases k2 : rpB c r a (b + 1) h
  · exact .inl (riV_no k2)
  · refine .inr ?_
    have i1 := rp_it k
    have i2 := rp_it k2
    obtain ⟨⟨y0, _⟩, _, ⟨p0, _⟩, _⟩ := it_facts i1
    obtain ⟨_, _, ⟨q0, _⟩, _⟩ := it_facts i2
    rw [riV_yes k, riV_yes k2, itV_yes i1, itV_yes i2]
    obtain ⟨_, _, v1⟩ := itB_iff.1 i1
    obtain ⟨_, _, v2⟩ := itB_iff.1 i2
    have st := ypN_step v2 (vpart_iff.1 v1).2.2.1
    have d0 := (ypD_bd 1).1
    have cr := low_cross (n1 := ypN 1 a b) (d1 := ypD 1) (n2 := ypN 1 a (b + 1)) (d2 := ypD 1) d0 d0 (Int.mul_le_mul_of_nonneg_right st (by omega))
    refine near_cross (by omega) (by omega) ?_
    have m := Int.mul_le_mul_of_nonneg_left cr y0
    rw [Int.mul_left_comm _ 10000, Int.mul_left_comm _ 10000, Int.mul_assoc (c * r), Int.mul_assoc (c * r)]
    omega
set_option maxHeartbeats 4000000 in
theorem fnRepoInterest_walk (a : Option Addr) (len cap : Nat) (w : World) (hM : MD w) (hlc : len ≤ cap) (hc : cap ≤ maxLen) (h : IsBytes w a len) :
    Calls Tryd.prog 4 #[.slice a len cap] w fun e w' => e = .returned (.bool true) ∧ Below w.heap.size w w' := by
  by_cases hbig : 1048576 < len
  · exact big_FnRepoInterest a len cap w hlc hc hbig
  have hM1 := hM.size
  have HM := Lib.hid hM
  have H := Lib.hid h
  clear h hM
  go_enter Tryd.func4, Tryd.ntmps4
  have HB := Lib.hid (Below.refl w.heap.size w)
  go_wp2_with fail
  refine (drawRepoInterest_any _ _ _ _ hlc hc H.out).mono ?_
  rintro e w1 ⟨c, r, x, y, z, rfl, hcc, hr, hx, hy, hz, hb⟩
  have hszw1 := below_size hb
  try simp at hszw1
  have HBq : Below w.heap.size w w1 := Below.trans (by repeat (first | exact Below.refl _ _ | exact HB.out | refine Below.drew ?_ | refine bel_drewN _ ?_ | refine Below.alloc ?_ (by first | omega | (simp; done) | (simp; omega)) _ | refine Below.setCell ?_ (by first | (show _ ≤ _; omega) | (simp; done) | (simp; omega)) _)) (hb.mono (by first | omega | (simp; done) | (simp; omega)))
  have HB := Lib.hid HBq
  clear HBq hb
  clear hcc hr hz
  cases k : rpB c r x y z
  · have e := Lib.hid (riV_no k)
    have HI := (fun W (h : MD W) => repoIntI_any c r x y z W h)
    have HS := (fun W (h : MD W) => repoIntS_any c r x y z W h)
    simp only [e.out] at HI HS
    replace HI := Lib.hid HI
    replace HS := Lib.hid HS
    go_wp2_with fail
    refine (HI.out _ (by exact HM.out.fwd (by repeat (first | exact Below.refl _ _ | exact HB.out.mono hM1 | refine Below.drew ?_ | refine bel_drewN _ ?_ | refine Below.alloc ?_ (by first | omega | (simp; done) | (simp; omega)) _ | refine Below.setCell ?_ (by first | (show _ ≤ _; omega) | (simp; done) | (simp; omega)) _)))).mono ?_
    rintro e w2 ⟨rfl, hb⟩
    have s0_1 : w2.cell? ⟨w1.heap.size, 0, none⟩ = some (.int .i64 c) := bc hb (by first | (simp; done) | go_simp)
    have s1_1 : w2.cell? ⟨w1.heap.size, 1, none⟩ = some (.int .i64 r) := bc hb (by first | (simp; done) | go_simp)
    have s2_1 : w2.cell? ⟨w1.heap.size, 2, none⟩ = some (.int .i64 x) := bc hb (by first | (simp; done) | go_simp)
    have s3_1 : w2.cell? ⟨w1.heap.size, 3, none⟩ = some (.int .i64 y) := bc hb (by first | (simp; done) | go_simp)
    have s4_1 : w2.cell? ⟨w1.heap.size, 4, none⟩ = some (.int .i64 z) := bc hb (by first | (simp; done) | go_simp)
    have sl_1 : w1.heap.size < w2.heap.size := cell_lt s0_1
    have hszw2 := below_size hb
    try simp at hszw2
    have HBq : Below w.heap.size w w2 := Below.trans (by repeat (first | exact Below.refl _ _ | exact HB.out | refine Below.drew ?_ | refine bel_drewN _ ?_ | refine Below.alloc ?_ (by first | omega | (simp; done) | (simp; omega)) _ | refine Below.setCell ?_ (by first | (show _ ≤ _; omega) | (simp; done) | (simp; omega)) _)) (hb.mono (by first | omega | (simp; done) | (simp; omega)))
    have HB := Lib.hid HBq
    clear HBq hb
    go_wp2_with fail
    refine (HS.out _ (by exact HM.out.fwd (by repeat (first | exact Below.refl _ _ | exact HB.out.mono hM1 | refine Below.drew ?_ | refine bel_drewN _ ?_ | refine Below.alloc ?_ (by first | omega | (simp; done) | (simp; omega)) _ | refine Below.setCell ?_ (by first | (show _ ≤ _; omega) | (simp; done) | (simp; omega)) _)))).mono ?_
    rintro e w3 ⟨rfl, hb⟩
    have s0_2 : w3.cell? ⟨w1.heap.size, 0, none⟩ = some (.int .i64 c) := bc hb (by first | exact s0_1 | exact ca s0_1 | exact ca (ca s0_1) | exact ca (ca (ca s0_1)) | (simp; done) | go_simp)
    have s1_2 : w3.cell? ⟨w1.heap.size, 1, none⟩ = some (.int .i64 r) := bc hb (by first | exact s1_1 | exact ca s1_1 | exact ca (ca s1_1) | exact ca (ca (ca s1_1)) | (simp; done) | go_simp)
    have s2_2 : w3.cell? ⟨w1.heap.size, 2, none⟩ = some (.int .i64 x) := bc hb (by first | exact s2_1 | exact ca s2_1 | exact ca (ca s2_1) | exact ca (ca (ca s2_1)) | (simp; done) | go_simp)
    have s3_2 : w3.cell? ⟨w1.heap.size, 3, none⟩ = some (.int .i64 y) := bc hb (by first | exact s3_1 | exact ca s3_1 | exact ca (ca s3_1) | exact ca (ca (ca s3_1)) | (simp; done) | go_simp)
    have s4_2 : w3.cell? ⟨w1.heap.size, 4, none⟩ = some (.int .i64 z) := bc hb (by first | exact s4_1 | exact ca s4_1 | exact ca (ca s4_1) | exact ca (ca (ca s4_1)) | (simp; done) | go_simp)
    have sl_2 : w1.heap.size < w3.heap.size := cell_lt s0_2
    clear s0_1 s1_1 s2_1 s3_1 s4_1 sl_1
    have hszw3 := below_size hb
    try simp at hszw3
    have HBq : Below w.heap.size w w3 := Below.trans (by repeat (first | exact Below.refl _ _ | exact HB.out | refine Below.drew ?_ | refine bel_drewN _ ?_ | refine Below.alloc ?_ (by first | omega | (simp; done) | (simp; omega)) _ | refine Below.setCell ?_ (by first | (show _ ≤ _; omega) | (simp; done) | (simp; omega)) _)) (hb.mono (by first | omega | (simp; done) | (simp; omega)))
    have HB := Lib.hid HBq
    clear HBq hb
    go_wp2_with fail
    refine (HS.out _ (by exact HM.out.fwd (by repeat (first | exact Below.refl _ _ | exact HB.out.mono hM1 | refine Below.drew ?_ | refine bel_drewN _ ?_ | refine Below.alloc ?_ (by first | omega | (simp; done) | (simp; omega)) _ | refine Below.setCell ?_ (by first | (show _ ≤ _; omega) | (simp; done) | (simp; omega)) _)))).mono ?_
    rintro e w4 ⟨rfl, hb⟩
    have s0_3 : w4.cell? ⟨w1.heap.size, 0, none⟩ = some (.int .i64 c) := bc hb (by first | exact s0_2 | exact ca s0_2 | exact ca (ca s0_2) | exact ca (ca (ca s0_2)) | (simp; done) | go_simp)
    have s1_3 : w4.cell? ⟨w1.heap.size, 1, none⟩ = some (.int .i64 r) := bc hb (by first | exact s1_2 | exact ca s1_2 | exact ca (ca s1_2) | exact ca (ca (ca s1_2)) | (simp; done) | go_simp)
    have s2_3 : w4.cell? ⟨w1.heap.size, 2, none⟩ = some (.int .i64 x) := bc hb (by first | exact s2_2 | exact ca s2_2 | exact ca (ca s2_2) | exact ca (ca (ca s2_2)) | (simp; done) | go_simp)
    have s3_3 : w4.cell? ⟨w1.heap.size, 3, none⟩ = some (.int .i64 y) := bc hb (by first | exact s3_2 | exact ca s3_2 | exact ca (ca s3_2) | exact ca (ca (ca s3_2)) | (simp; done) | go_simp)
    have s4_3 : w4.cell? ⟨w1.heap.size, 4, none⟩ = some (.int .i64 z) := bc hb (by first | exact s4_2 | exact ca s4_2 | exact ca (ca s4_2) | exact ca (ca (ca s4_2)) | (simp; done) | go_simp)
    have sl_3 : w1.heap.size < w4.heap.size := cell_lt s0_3
    clear s0_2 s1_2 s2_2 s3_2 s4_2 sl_2
    have hszw4 := below_size hb
    try simp at hszw4
    have HBq : Below w.heap.size w w4 := Below.trans (by repeat (first | exact Below.refl _ _ | exact HB.out | refine Below.drew ?_ | refine bel_drewN _ ?_ | refine Below.alloc ?_ (by first | omega | (simp; done) | (simp; omega)) _ | refine Below.setCell ?_ (by first | (show _ ≤ _; omega) | (simp; done) | (simp; omega)) _)) (hb.mono (by first | omega | (simp; done) | (simp; omega)))
    have HB := Lib.hid HBq
    clear HBq hb
    go_wp2
    go_ret
    exact ⟨rfl, (by repeat (first | exact Below.refl _ _ | exact HB.out | refine Below.drew ?_ | refine bel_drewN _ ?_ | refine Below.alloc ?_ (by first | omega | (simp; done) | (simp; omega)) _ | refine Below.setCell ?_ (by first | (show _ ≤ _; omega) | (simp; done) | (simp; omega)) _))⟩
  · have i0 := (itV_bd' (rp_it k)).1
    rw [← riV_yes k] at i0
    obtain ⟨_, i1⟩ := riV_bd c r x y z
    obtain ⟨j0, j1⟩ := riV_bd c r x (y + 1) z
    have E := Lib.hid (ri_more k)
    have HZ := (fun W (h : MD W) => repoIntI_any c r x x z W h)
    simp only [ri_zero k] at HZ
    replace HZ := Lib.hid HZ
    have HI := Lib.hid (fun W (h : MD W) => repoIntI_any c r x y z W h)
    have HS := Lib.hid (fun W (h : MD W) => repoIntS_any c r x y z W h)
    have HI2 := Lib.hid (fun W (h : MD W) => repoIntI_any c r x (y + 1) z W h)
    clear k
    generalize riV c r x y z = V at *
    generalize riV c r x (y + 1) z = V2 at *
    go_wp2_with fail
    refine (HI.out _ (by exact HM.out.fwd (by repeat (first | exact Below.refl _ _ | exact HB.out.mono hM1 | refine Below.drew ?_ | refine bel_drewN _ ?_ | refine Below.alloc ?_ (by first | omega | (simp; done) | (simp; omega)) _ | refine Below.setCell ?_ (by first | (show _ ≤ _; omega) | (simp; done) | (simp; omega)) _)))).mono ?_
    rintro e w2 ⟨rfl, hb⟩
    have s0_1 : w2.cell? ⟨w1.heap.size, 0, none⟩ = some (.int .i64 c) := bc hb (by first | (simp; done) | go_simp)
    have s1_1 : w2.cell? ⟨w1.heap.size, 1, none⟩ = some (.int .i64 r) := bc hb (by first | (simp; done) | go_simp)
    have s2_1 : w2.cell? ⟨w1.heap.size, 2, none⟩ = some (.int .i64 x) := bc hb (by first | (simp; done) | go_simp)
    have s3_1 : w2.cell? ⟨w1.heap.size, 3, none⟩ = some (.int .i64 y) := bc hb (by first | (simp; done) | go_simp)
    have s4_1 : w2.cell? ⟨w1.heap.size, 4, none⟩ = some (.int .i64 z) := bc hb (by first | (simp; done) | go_simp)
    have sl_1 : w1.heap.size < w2.heap.size := cell_lt s0_1
    have hszw2 := below_size hb
    try simp at hszw2
    have HBq : Below w.heap.size w w2 := Below.trans (by repeat (first | exact Below.refl _ _ | exact HB.out | refine Below.drew ?_ | refine bel_drewN _ ?_ | refine Below.alloc ?_ (by first | omega | (simp; done) | (simp; omega)) _ | refine Below.setCell ?_ (by first | (show _ ≤ _; omega) | (simp; done) | (simp; omega)) _)) (hb.mono (by first | omega | (simp; done) | (simp; omega)))
    have HB := Lib.hid HBq
    clear HBq hb
    go_wp2_with fail
    refine (HS.out _ (by exact HM.out.fwd (by repeat (first | exact Below.refl _ _ | exact HB.out.mono hM1 | refine Below.drew ?_ | refine bel_drewN _ ?_ | refine Below.alloc ?_ (by first | omega | (simp; done) | (simp; omega)) _ | refine Below.setCell ?_ (by first | (show _ ≤ _; omega) | (simp; done) | (simp; omega)) _)))).mono ?_
    rintro e w3 ⟨rfl, hb⟩
    have s0_2 : w3.cell? ⟨w1.heap.size, 0, none⟩ = some (.int .i64 c) := bc hb (by first | exact s0_1 | exact ca s0_1 | exact ca (ca s0_1) | exact ca (ca (ca s0_1)) | (simp; done) | go_simp)
    have s1_2 : w3.cell? ⟨w1.heap.size, 1, none⟩ = some (.int .i64 r) := bc hb (by first | exact s1_1 | exact ca s1_1 | exact ca (ca s1_1) | exact ca (ca (ca s1_1)) | (simp; done) | go_simp)
    have s2_2 : w3.cell? ⟨w1.heap.size, 2, none⟩ = some (.int .i64 x) := bc hb (by first | exact s2_1 | exact ca s2_1 | exact ca (ca s2_1) | exact ca (ca (ca s2_1)) | (simp; done) | go_simp)
    have s3_2 : w3.cell? ⟨w1.heap.size, 3, none⟩ = some (.int .i64 y) := bc hb (by first | exact s3_1 | exact ca s3_1 | exact ca (ca s3_1) | exact ca (ca (ca s3_1)) | (simp; done) | go_simp)
    have s4_2 : w3.cell? ⟨w1.heap.size, 4, none⟩ = some (.int .i64 z) := bc hb (by first | exact s4_1 | exact ca s4_1 | exact ca (ca s4_1) | exact ca (ca (ca s4_1)) | (simp; done) | go_simp)
    have sl_2 : w1.heap.size < w3.heap.size := cell_lt s0_2
    clear s0_1 s1_1 s2_1 s3_1 s4_1 sl_1
    have hszw3 := below_size hb
    try simp at hszw3
    have HBq : Below w.heap.size w w3 := Below.trans (by repeat (first | exact Below.refl _ _ | exact HB.out | refine Below.drew ?_ | refine bel_drewN _ ?_ | refine Below.alloc ?_ (by first | omega | (simp; done) | (simp; omega)) _ | refine Below.setCell ?_ (by first | (show _ ≤ _; omega) | (simp; done) | (simp; omega)) _)) (hb.mono (by first | omega | (simp; done) | (simp; omega)))
    have HB := Lib.hid HBq
    clear HBq hb
    go_wp2_with fail
    refine (HI2.out _ (by exact HM.out.fwd (by repeat (first | exact Below.refl _ _ | exact HB.out.mono hM1 | refine Below.drew ?_ | refine bel_drewN _ ?_ | refine Below.alloc ?_ (by first | omega | (simp; done) | (simp; omega)) _ | refine Below.setCell ?_ (by first | (show _ ≤ _; omega) | (simp; done) | (simp; omega)) _)))).mono ?_
    rintro e w4 ⟨rfl, hb⟩
    have s0_3 : w4.cell? ⟨w1.heap.size, 0, none⟩ = some (.int .i64 c) := bc hb (by first | exact s0_2 | exact ca s0_2 | exact ca (ca s0_2) | exact ca (ca (ca s0_2)) | (simp; done) | go_simp)
    have s1_3 : w4.cell? ⟨w1.heap.size, 1, none⟩ = some (.int .i64 r) := bc hb (by first | exact s1_2 | exact ca s1_2 | exact ca (ca s1_2) | exact ca (ca (ca s1_2)) | (simp; done) | go_simp)
    have s2_3 : w4.cell? ⟨w1.heap.size, 2, none⟩ = some (.int .i64 x) := bc hb (by first | exact s2_2 | exact ca s2_2 | exact ca (ca s2_2) | exact ca (ca (ca s2_2)) | (simp; done) | go_simp)
    have s3_3 : w4.cell? ⟨w1.heap.size, 3, none⟩ = some (.int .i64 y) := bc hb (by first | exact s3_2 | exact ca s3_2 | exact ca (ca s3_2) | exact ca (ca (ca s3_2)) | (simp; done) | go_simp)
    have s4_3 : w4.cell? ⟨w1.heap.size, 4, none⟩ = some (.int .i64 z) := bc hb (by first | exact s4_2 | exact ca s4_2 | exact ca (ca s4_2) | exact ca (ca (ca s4_2)) | (simp; done) | go_simp)
    have sl_3 : w1.heap.size < w4.heap.size := cell_lt s0_3
    clear s0_2 s1_2 s2_2 s3_2 s4_2 sl_2
    have hszw4 := below_size hb
    try simp at hszw4
    have HBq : Below w.heap.size w w4 := Below.trans (by repeat (first | exact Below.refl _ _ | exact HB.out | refine Below.drew ?_ | refine bel_drewN _ ?_ | refine Below.alloc ?_ (by first | omega | (simp; done) | (simp; omega)) _ | refine Below.setCell ?_ (by first | (show _ ≤ _; omega) | (simp; done) | (simp; omega)) _)) (hb.mono (by first | omega | (simp; done) | (simp; omega)))
    have HB := Lib.hid HBq
    clear HBq hb
    go_wp2_with fail
    refine (HZ.out _ (by exact HM.out.fwd (by repeat (first | exact Below.refl _ _ | exact HB.out.mono hM1 | refine Below.drew ?_ | refine bel_drewN _ ?_ | refine Below.alloc ?_ (by first | omega | (simp; done) | (simp; omega)) _ | refine Below.setCell ?_ (by first | (show _ ≤ _; omega) | (simp; done) | (simp; omega)) _)))).mono ?_
    rintro e w5 ⟨rfl, hb⟩
    have s0_4 : w5.cell? ⟨w1.heap.size, 0, none⟩ = some (.int .i64 c) := bc hb (by first | exact s0_3 | exact ca s0_3 | exact ca (ca s0_3) | exact ca (ca (ca s0_3)) | (simp; done) | go_simp)
    have s1_4 : w5.cell? ⟨w1.heap.size, 1, none⟩ = some (.int .i64 r) := bc hb (by first | exact s1_3 | exact ca s1_3 | exact ca (ca s1_3) | exact ca (ca (ca s1_3)) | (simp; done) | go_simp)
    have s2_4 : w5.cell? ⟨w1.heap.size, 2, none⟩ = some (.int .i64 x) := bc hb (by first | exact s2_3 | exact ca s2_3 | exact ca (ca s2_3) | exact ca (ca (ca s2_3)) | (simp; done) | go_simp)
    have s3_4 : w5.cell? ⟨w1.heap.size, 3, none⟩ = some (.int .i64 y) := bc hb (by first | exact s3_3 | exact ca s3_3 | exact ca (ca s3_3) | exact ca (ca (ca s3_3)) | (simp; done) | go_simp)
    have s4_4 : w5.cell? ⟨w1.heap.size, 4, none⟩ = some (.int .i64 z) := bc hb (by first | exact s4_3 | exact ca s4_3 | exact ca (ca s4_3) | exact ca (ca (ca s4_3)) | (simp; done) | go_simp)
    have sl_4 : w1.heap.size < w5.heap.size := cell_lt s0_4
    clear s0_3 s1_3 s2_3 s3_3 s4_3 sl_3
    have hszw5 := below_size hb
    try simp at hszw5
    have HBq : Below w.heap.size w w5 := Below.trans (by repeat (first | exact Below.refl _ _ | exact HB.out | refine Below.drew ?_ | refine bel_drewN _ ?_ | refine Below.alloc ?_ (by first | omega | (simp; done) | (simp; omega)) _ | refine Below.setCell ?_ (by first | (show _ ≤ _; omega) | (simp; done) | (simp; omega)) _)) (hb.mono (by first | omega | (simp; done) | (simp; omega)))
    have HB := Lib.hid HBq
    clear HBq hb
    rcases E.out with e1 | e1
    · subst e1
      go_wp2
      go_ret
      exact ⟨rfl, (by repeat (first | exact Below.refl _ _ | exact HB.out | refine Below.drew ?_ | refine bel_drewN _ ?_ | refine Below.alloc ?_ (by first | omega | (simp; done) | (simp; omega)) _ | refine Below.setCell ?_ (by first | (show _ ≤ _; omega) | (simp; done) | (simp; omega)) _))⟩
    · go_wp2
      go_ret
      exact ⟨rfl, (by repeat (first | exact Below.refl _ _ | exact HB.out | refine Below.drew ?_ | refine bel_drewN _ ?_ | refine Below.alloc ?_ (by first | omega | (simp; done) | (simp; omega)) _ | refine Below.setCell ?_ (by first | (show _ ≤ _; omega) | (simp; done) | (simp; omega)) _))⟩
end Go.Proofs.YtiplcndacmicoaaDoor
