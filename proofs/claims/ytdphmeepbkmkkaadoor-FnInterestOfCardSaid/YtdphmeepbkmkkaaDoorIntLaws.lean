/- The laws over interest. -/
import Derived.Test.YtdphmeepbkmkkaaDoorPartLaws
namespace Go.Proofs.YtdphmeepbkmkkaaDoor
open Go.RowKit
set_option linter.unusedVariables false
theorem itV_bd {c r k a b : Int} (h : itB c r k a b = true) : 0 ≤ itV c r k a b ∧ itV c r k a b ≤ 439200000000000000 := by
  obtain ⟨_, ⟨z0, z1⟩, ⟨p0, _⟩, _⟩ := it_facts h
  rw [itV_yes h]
  have := near_nonneg z0 (d := 10000 * lowD (ypN k a b) (ypD k)) (by omega)
  have := near_le z0 (d := 10000 * lowD (ypN k a b) (ypD k)) (by omega)
  omega
theorem it_more {c r k a b : Int} (h : itB c r k a b = true) : itV (c + 1) r k a b = -1 ∨ (itV c r k a b ≤ itV (c + 1) r k a b ∧ itV (c + 1) r k a b ≤ 439200000000000000) := by
  by_cases h2 : itB (c + 1) r k a b = true
  · refine .inr ⟨?_, (itV_bd h2).2⟩
    obtain ⟨_, ⟨z0, z1⟩, ⟨p0, _⟩, x0, _⟩ := it_facts h
    rw [itV_yes h, itV_yes h2]
    obtain ⟨_, hr, _⟩ := itB_iff.1 h
    have r0 := (inR_true.1 hr).1
    refine near_cross (by omega) (by omega) (Int.mul_le_mul_of_nonneg_right (Int.mul_le_mul_of_nonneg_right (Int.mul_le_mul_of_nonneg_right (by omega) r0) x0) (by omega))
  · exact .inl (itV_no (by simpa using h2))
theorem it_higher {c r k a b : Int} (h : itB c r k a b = true) : itV c (r + 1) k a b = -1 ∨ (itV c r k a b ≤ itV c (r + 1) k a b ∧ itV c (r + 1) k a b ≤ 439200000000000000) := by
  by_cases h2 : itB c (r + 1) k a b = true
  · refine .inr ⟨?_, (itV_bd h2).2⟩
    obtain ⟨_, ⟨z0, z1⟩, ⟨p0, _⟩, x0, _⟩ := it_facts h
    rw [itV_yes h, itV_yes h2]
    obtain ⟨hc, _, _⟩ := itB_iff.1 h
    have c0 := (inR_true.1 hc).1
    refine near_cross (by omega) (by omega) (Int.mul_le_mul_of_nonneg_right (Int.mul_le_mul_of_nonneg_right (Int.mul_le_mul_of_nonneg_left (by omega) c0) x0) (by omega))
  · exact .inl (itV_no (by simpa using h2))
theorem it_zero {c r k a b : Int} (h : itB c r k a b = true) : itV c 0 k a b = 0 := by
  obtain ⟨hc, hr, hv⟩ := itB_iff.1 h
  have h2 : itB c 0 k a b = true := itB_iff.2 ⟨hc, by decide, hv⟩
  obtain ⟨_, _, ⟨p0, _⟩, _⟩ := it_facts h
  rw [itV_yes h2, Int.mul_zero, Int.zero_mul]
  exact near_zero (by omega)
theorem it_double {c r k a b : Int} (h : itB c r k a b = true) : itV (2 * c) r k a b = -1 ∨ ((-1 ≤ itV (2 * c) r k a b - 2 * itV c r k a b ∧ itV (2 * c) r k a b - 2 * itV c r k a b ≤ 1) ∧ 0 ≤ itV (2 * c) r k a b ∧ itV (2 * c) r k a b ≤ 439200000000000000) := by
  by_cases h2 : itB (2 * c) r k a b = true
  · refine .inr ⟨?_, itV_bd h2⟩
    obtain ⟨_, _, ⟨p0, _⟩, _⟩ := it_facts h
    rw [itV_yes h, itV_yes h2, Int.mul_assoc 2, Int.mul_assoc 2]
    exact near_double (by omega)
  · exact .inl (itV_no (by simpa using h2))
theorem absI_le {n : Int} (h : -1 ≤ n ∧ n ≤ 1) : 0 ≤ absI n ∧ absI n ≤ 1 := by unfold absI; split <;> omega
set_option maxHeartbeats 4000000 in
theorem fnInterestOf_walk (a : Option Addr) (len cap : Nat) (w : World) (hM : MD w) (hlc : len ≤ cap) (hc : cap ≤ maxLen) (h : IsBytes w a len) :
    Calls Tryd.prog 10 #[.slice a len cap] w fun e w' => e = .returned (.bool true) ∧ Below w.heap.size w w' := by
  by_cases hbig : 1048576 < len
  · exact big_FnInterestOf a len cap w hlc hc hbig
  have hM1 := hM.size
  have HM := Lib.hid hM
  have H := Lib.hid h
  clear h hM
  go_enter Tryd.func10, Tryd.ntmps10
  have HB := Lib.hid (Below.refl w.heap.size w)
  go_wp2_with fail
  refine (drawInterestOf_any _ _ _ _ hlc hc H.out).mono ?_
  rintro e w1 ⟨c, r, k, x, y, rfl, hcc, hr, hk, hx, hy, hb⟩
  have hszw1 := below_size hb
  try simp at hszw1
  have HBq : Below w.heap.size w w1 := Below.trans (by repeat (first | exact Below.refl _ _ | exact HB.out | refine Below.drew ?_ | refine bel_drewN _ ?_ | refine Below.alloc ?_ (by first | omega | (simp; done) | (simp; omega)) _ | refine Below.setCell ?_ (by first | (show _ ≤ _; omega) | (simp; done) | (simp; omega)) _)) (hb.mono (by first | omega | (simp; done) | (simp; omega)))
  have HB := Lib.hid HBq
  clear HBq hb
  obtain ⟨k0, k1⟩ := hk
  have Hk : Hid ((Lit.int .i64 k).wf = true) := Lib.hid (by go_wf)
  by_cases hv : itB c r k x y = true
  · obtain ⟨n0, n1⟩ := itV_bd hv
    have hz := Lib.hid (it_zero hv)
    have e1 := Lib.hid (it_more hv)
    have e2 := Lib.hid (it_higher hv)
    clear hv
    have HI := Lib.hid (fun W (h : MD W) => interestI_any c r k x y W h Hk.out)
    have HS := Lib.hid (fun W => interestS_any c r k x y W)
    have HI1 := Lib.hid (fun W (h : MD W) => interestI_any (c + 1) r k x y W h Hk.out)
    have HI2 := Lib.hid (fun W (h : MD W) => interestI_any c (r + 1) k x y W h Hk.out)
    have HI3 := (fun W (h : MD W) => interestI_any c 0 k x y W h Hk.out)
    simp only [hz.out] at HI3
    replace HI3 := Lib.hid HI3
    clear hz
    generalize itV c r k x y = V at *
    generalize itV (c + 1) r k x y = V1 at *
    generalize itV c (r + 1) k x y = V2 at *
    go_wp2_with fail
    refine (HI.out _ (by exact HM.out.fwd (by repeat (first | exact Below.refl _ _ | exact HB.out.mono hM1 | refine Below.drew ?_ | refine bel_drewN _ ?_ | refine Below.alloc ?_ (by first | omega | (simp; done) | (simp; omega)) _ | refine Below.setCell ?_ (by first | (show _ ≤ _; omega) | (simp; done) | (simp; omega)) _)))).mono ?_
    rintro e w2 ⟨rfl, hb⟩
    have hszw2 := below_size hb
    try simp at hszw2
    have HBq : Below w.heap.size w w2 := Below.trans (by repeat (first | exact Below.refl _ _ | exact HB.out | refine Below.drew ?_ | refine bel_drewN _ ?_ | refine Below.alloc ?_ (by first | omega | (simp; done) | (simp; omega)) _ | refine Below.setCell ?_ (by first | (show _ ≤ _; omega) | (simp; done) | (simp; omega)) _)) (hb.mono (by first | omega | (simp; done) | (simp; omega)))
    have HB := Lib.hid HBq
    clear HBq hb
    go_wp2_with fail
    refine (HS.out _).mono ?_
    rintro e w3 ⟨rfl, hb⟩
    have hszw3 := below_size hb
    try simp at hszw3
    have HBq : Below w.heap.size w w3 := Below.trans (by repeat (first | exact Below.refl _ _ | exact HB.out | refine Below.drew ?_ | refine bel_drewN _ ?_ | refine Below.alloc ?_ (by first | omega | (simp; done) | (simp; omega)) _ | refine Below.setCell ?_ (by first | (show _ ≤ _; omega) | (simp; done) | (simp; omega)) _)) (hb.mono (by first | omega | (simp; done) | (simp; omega)))
    have HB := Lib.hid HBq
    clear HBq hb
    go_wp2_with fail
    refine (HI1.out _ (by exact HM.out.fwd (by repeat (first | exact Below.refl _ _ | exact HB.out.mono hM1 | refine Below.drew ?_ | refine bel_drewN _ ?_ | refine Below.alloc ?_ (by first | omega | (simp; done) | (simp; omega)) _ | refine Below.setCell ?_ (by first | (show _ ≤ _; omega) | (simp; done) | (simp; omega)) _)))).mono ?_
    rintro e w4 ⟨rfl, hb⟩
    have hszw4 := below_size hb
    try simp at hszw4
    have HBq : Below w.heap.size w w4 := Below.trans (by repeat (first | exact Below.refl _ _ | exact HB.out | refine Below.drew ?_ | refine bel_drewN _ ?_ | refine Below.alloc ?_ (by first | omega | (simp; done) | (simp; omega)) _ | refine Below.setCell ?_ (by first | (show _ ≤ _; omega) | (simp; done) | (simp; omega)) _)) (hb.mono (by first | omega | (simp; done) | (simp; omega)))
    have HB := Lib.hid HBq
    clear HBq hb
    go_wp2_with fail
    refine (HI2.out _ (by exact HM.out.fwd (by repeat (first | exact Below.refl _ _ | exact HB.out.mono hM1 | refine Below.drew ?_ | refine bel_drewN _ ?_ | refine Below.alloc ?_ (by first | omega | (simp; done) | (simp; omega)) _ | refine Below.setCell ?_ (by first | (show _ ≤ _; omega) | (simp; done) | (simp; omega)) _)))).mono ?_
    rintro e w5 ⟨rfl, hb⟩
    have hszw5 := below_size hb
    try simp at hszw5
    have HBq : Below w.heap.size w w5 := Below.trans (by repeat (first | exact Below.refl _ _ | exact HB.out | refine Below.drew ?_ | refine bel_drewN _ ?_ | refine Below.alloc ?_ (by first | omega | (simp; done) | (simp; omega)) _ | refine Below.setCell ?_ (by first | (show _ ≤ _; omega) | (simp; done) | (simp; omega)) _)) (hb.mono (by first | omega | (simp; done) | (simp; omega)))
    have HB := Lib.hid HBq
    clear HBq hb
    go_wp2_with fail
    refine (HI3.out _ (by exact HM.out.fwd (by repeat (first | exact Below.refl _ _ | exact HB.out.mono hM1 | refine Below.drew ?_ | refine bel_drewN _ ?_ | refine Below.alloc ?_ (by first | omega | (simp; done) | (simp; omega)) _ | refine Below.setCell ?_ (by first | (show _ ≤ _; omega) | (simp; done) | (simp; omega)) _)))).mono ?_
    rintro e w6 ⟨rfl, hb⟩
    have hszw6 := below_size hb
    try simp at hszw6
    have HBq : Below w.heap.size w w6 := Below.trans (by repeat (first | exact Below.refl _ _ | exact HB.out | refine Below.drew ?_ | refine bel_drewN _ ?_ | refine Below.alloc ?_ (by first | omega | (simp; done) | (simp; omega)) _ | refine Below.setCell ?_ (by first | (show _ ≤ _; omega) | (simp; done) | (simp; omega)) _)) (hb.mono (by first | omega | (simp; done) | (simp; omega)))
    have HB := Lib.hid HBq
    clear HBq hb
    rcases e1.out with e1' | ⟨a1, a2⟩ <;> rcases e2.out with e2' | ⟨b1, b2⟩
    all_goals
      try subst e1'
      try subst e2'
      go_wp2
      go_ret
      exact ⟨rfl, (by repeat (first | exact Below.refl _ _ | exact HB.out | refine Below.drew ?_ | refine bel_drewN _ ?_ | refine Below.alloc ?_ (by first | omega | (simp; done) | (simp; omega)) _ | refine Below.setCell ?_ (by first | (show _ ≤ _; omega) | (simp; done) | (simp; omega)) _))⟩
  · have e := Lib.hid (itV_no (by simpa using hv : itB c r k x y = false))
    clear hv
    have HI := (fun W (h : MD W) => interestI_any c r k x y W h Hk.out)
    have HS := (fun W => interestS_any c r k x y W)
    simp only [e.out] at HI HS
    replace HI := Lib.hid HI
    replace HS := Lib.hid HS
    go_wp2_with fail
    refine (HI.out _ (by exact HM.out.fwd (by repeat (first | exact Below.refl _ _ | exact HB.out.mono hM1 | refine Below.drew ?_ | refine bel_drewN _ ?_ | refine Below.alloc ?_ (by first | omega | (simp; done) | (simp; omega)) _ | refine Below.setCell ?_ (by first | (show _ ≤ _; omega) | (simp; done) | (simp; omega)) _)))).mono ?_
    rintro e w2 ⟨rfl, hb⟩
    have hszw2 := below_size hb
    try simp at hszw2
    have HBq : Below w.heap.size w w2 := Below.trans (by repeat (first | exact Below.refl _ _ | exact HB.out | refine Below.drew ?_ | refine bel_drewN _ ?_ | refine Below.alloc ?_ (by first | omega | (simp; done) | (simp; omega)) _ | refine Below.setCell ?_ (by first | (show _ ≤ _; omega) | (simp; done) | (simp; omega)) _)) (hb.mono (by first | omega | (simp; done) | (simp; omega)))
    have HB := Lib.hid HBq
    clear HBq hb
    go_wp2_with fail
    refine (HS.out _).mono ?_
    rintro e w3 ⟨rfl, hb⟩
    have hszw3 := below_size hb
    try simp at hszw3
    have HBq : Below w.heap.size w w3 := Below.trans (by repeat (first | exact Below.refl _ _ | exact HB.out | refine Below.drew ?_ | refine bel_drewN _ ?_ | refine Below.alloc ?_ (by first | omega | (simp; done) | (simp; omega)) _ | refine Below.setCell ?_ (by first | (show _ ≤ _; omega) | (simp; done) | (simp; omega)) _)) (hb.mono (by first | omega | (simp; done) | (simp; omega)))
    have HB := Lib.hid HBq
    clear HBq hb
    go_wp2_with fail
    refine (HS.out _).mono ?_
    rintro e w4 ⟨rfl, hb⟩
    have hszw4 := below_size hb
    try simp at hszw4
    have HBq : Below w.heap.size w w4 := Below.trans (by repeat (first | exact Below.refl _ _ | exact HB.out | refine Below.drew ?_ | refine bel_drewN _ ?_ | refine Below.alloc ?_ (by first | omega | (simp; done) | (simp; omega)) _ | refine Below.setCell ?_ (by first | (show _ ≤ _; omega) | (simp; done) | (simp; omega)) _)) (hb.mono (by first | omega | (simp; done) | (simp; omega)))
    have HB := Lib.hid HBq
    clear HBq hb
    go_wp2
    go_ret
    exact ⟨rfl, (by repeat (first | exact Below.refl _ _ | exact HB.out | refine Below.drew ?_ | refine bel_drewN _ ?_ | refine Below.alloc ?_ (by first | omega | (simp; done) | (simp; omega)) _ | refine Below.setCell ?_ (by first | (show _ ≤ _; omega) | (simp; done) | (simp; omega)) _))⟩
set_option maxHeartbeats 4000000 in
theorem fnInterestOfDouble_walk (a : Option Addr) (len cap : Nat) (w : World) (hM : MD w) (hlc : len ≤ cap) (hc : cap ≤ maxLen) (h : IsBytes w a len) :
    Calls Tryd.prog 11 #[.slice a len cap] w fun e w' => e = .returned (.bool true) ∧ Below w.heap.size w w' := by
  by_cases hbig : 1048576 < len
  · exact big_FnInterestOfDouble a len cap w hlc hc hbig
  have hM1 := hM.size
  have HM := Lib.hid hM
  have H := Lib.hid h
  clear h hM
  go_enter Tryd.func11, Tryd.ntmps11
  have HB := Lib.hid (Below.refl w.heap.size w)
  go_wp2_with fail
  refine (drawInterestOf_any _ _ _ _ hlc hc H.out).mono ?_
  rintro e w1 ⟨c, r, k, x, y, rfl, hcc, hr, hk, hx, hy, hb⟩
  have hszw1 := below_size hb
  try simp at hszw1
  have HBq : Below w.heap.size w w1 := Below.trans (by repeat (first | exact Below.refl _ _ | exact HB.out | refine Below.drew ?_ | refine bel_drewN _ ?_ | refine Below.alloc ?_ (by first | omega | (simp; done) | (simp; omega)) _ | refine Below.setCell ?_ (by first | (show _ ≤ _; omega) | (simp; done) | (simp; omega)) _)) (hb.mono (by first | omega | (simp; done) | (simp; omega)))
  have HB := Lib.hid HBq
  clear HBq hb
  obtain ⟨k0, k1⟩ := hk
  have Hk : Hid ((Lit.int .i64 k).wf = true) := Lib.hid (by go_wf)
  by_cases hv : itB c r k x y = true
  · obtain ⟨n0, n1⟩ := itV_bd hv
    have e1 := Lib.hid (it_double hv)
    clear hv
    have HI := Lib.hid (fun W (h : MD W) => interestI_any c r k x y W h Hk.out)
    have HS := Lib.hid (fun W => interestS_any c r k x y W)
    have HI1 := Lib.hid (fun W (h : MD W) => interestI_any (2 * c) r k x y W h Hk.out)
    generalize itV c r k x y = V at *
    generalize itV (2 * c) r k x y = V1 at *
    go_wp2_with fail
    refine (HI.out _ (by exact HM.out.fwd (by repeat (first | exact Below.refl _ _ | exact HB.out.mono hM1 | refine Below.drew ?_ | refine bel_drewN _ ?_ | refine Below.alloc ?_ (by first | omega | (simp; done) | (simp; omega)) _ | refine Below.setCell ?_ (by first | (show _ ≤ _; omega) | (simp; done) | (simp; omega)) _)))).mono ?_
    rintro e w2 ⟨rfl, hb⟩
    have hszw2 := below_size hb
    try simp at hszw2
    have HBq : Below w.heap.size w w2 := Below.trans (by repeat (first | exact Below.refl _ _ | exact HB.out | refine Below.drew ?_ | refine bel_drewN _ ?_ | refine Below.alloc ?_ (by first | omega | (simp; done) | (simp; omega)) _ | refine Below.setCell ?_ (by first | (show _ ≤ _; omega) | (simp; done) | (simp; omega)) _)) (hb.mono (by first | omega | (simp; done) | (simp; omega)))
    have HB := Lib.hid HBq
    clear HBq hb
    go_wp2_with fail
    refine (HS.out _).mono ?_
    rintro e w3 ⟨rfl, hb⟩
    have hszw3 := below_size hb
    try simp at hszw3
    have HBq : Below w.heap.size w w3 := Below.trans (by repeat (first | exact Below.refl _ _ | exact HB.out | refine Below.drew ?_ | refine bel_drewN _ ?_ | refine Below.alloc ?_ (by first | omega | (simp; done) | (simp; omega)) _ | refine Below.setCell ?_ (by first | (show _ ≤ _; omega) | (simp; done) | (simp; omega)) _)) (hb.mono (by first | omega | (simp; done) | (simp; omega)))
    have HB := Lib.hid HBq
    clear HBq hb
    go_wp2_with fail
    refine (HI1.out _ (by exact HM.out.fwd (by repeat (first | exact Below.refl _ _ | exact HB.out.mono hM1 | refine Below.drew ?_ | refine bel_drewN _ ?_ | refine Below.alloc ?_ (by first | omega | (simp; done) | (simp; omega)) _ | refine Below.setCell ?_ (by first | (show _ ≤ _; omega) | (simp; done) | (simp; omega)) _)))).mono ?_
    rintro e w4 ⟨rfl, hb⟩
    have hszw4 := below_size hb
    try simp at hszw4
    have HBq : Below w.heap.size w w4 := Below.trans (by repeat (first | exact Below.refl _ _ | exact HB.out | refine Below.drew ?_ | refine bel_drewN _ ?_ | refine Below.alloc ?_ (by first | omega | (simp; done) | (simp; omega)) _ | refine Below.setCell ?_ (by first | (show _ ≤ _; omega) | (simp; done) | (simp; omega)) _)) (hb.mono (by first | omega | (simp; done) | (simp; omega)))
    have HB := Lib.hid HBq
    clear HBq hb
    rcases e1.out with e1' | ⟨a1, a2, a3⟩
    · subst e1'
      go_wp2
      go_ret
      exact ⟨rfl, (by repeat (first | exact Below.refl _ _ | exact HB.out | refine Below.drew ?_ | refine bel_drewN _ ?_ | refine Below.alloc ?_ (by first | omega | (simp; done) | (simp; omega)) _ | refine Below.setCell ?_ (by first | (show _ ≤ _; omega) | (simp; done) | (simp; omega)) _))⟩
    · obtain ⟨b1, b2⟩ := absI_le a1
      obtain ⟨a4, a5⟩ := a1
      go_wp2_with fail
      refine (absolute_any _ _ (by omega) (by omega)).mono ?_
      rintro e w5 ⟨rfl, rfl⟩
      go_wp2
      go_ret
      exact ⟨rfl, (by repeat (first | exact Below.refl _ _ | exact HB.out | refine Below.drew ?_ | refine bel_drewN _ ?_ | refine Below.alloc ?_ (by first | omega | (simp; done) | (simp; omega)) _ | refine Below.setCell ?_ (by first | (show _ ≤ _; omega) | (simp; done) | (simp; omega)) _))⟩
  · have e := Lib.hid (itV_no (by simpa using hv : itB c r k x y = false))
    clear hv
    have HI := (fun W (h : MD W) => interestI_any c r k x y W h Hk.out)
    have HS := (fun W => interestS_any c r k x y W)
    simp only [e.out] at HI HS
    replace HI := Lib.hid HI
    replace HS := Lib.hid HS
    go_wp2_with fail
    refine (HI.out _ (by exact HM.out.fwd (by repeat (first | exact Below.refl _ _ | exact HB.out.mono hM1 | refine Below.drew ?_ | refine bel_drewN _ ?_ | refine Below.alloc ?_ (by first | omega | (simp; done) | (simp; omega)) _ | refine Below.setCell ?_ (by first | (show _ ≤ _; omega) | (simp; done) | (simp; omega)) _)))).mono ?_
    rintro e w2 ⟨rfl, hb⟩
    have hszw2 := below_size hb
    try simp at hszw2
    have HBq : Below w.heap.size w w2 := Below.trans (by repeat (first | exact Below.refl _ _ | exact HB.out | refine Below.drew ?_ | refine bel_drewN _ ?_ | refine Below.alloc ?_ (by first | omega | (simp; done) | (simp; omega)) _ | refine Below.setCell ?_ (by first | (show _ ≤ _; omega) | (simp; done) | (simp; omega)) _)) (hb.mono (by first | omega | (simp; done) | (simp; omega)))
    have HB := Lib.hid HBq
    clear HBq hb
    go_wp2_with fail
    refine (HS.out _).mono ?_
    rintro e w3 ⟨rfl, hb⟩
    have hszw3 := below_size hb
    try simp at hszw3
    have HBq : Below w.heap.size w w3 := Below.trans (by repeat (first | exact Below.refl _ _ | exact HB.out | refine Below.drew ?_ | refine bel_drewN _ ?_ | refine Below.alloc ?_ (by first | omega | (simp; done) | (simp; omega)) _ | refine Below.setCell ?_ (by first | (show _ ≤ _; omega) | (simp; done) | (simp; omega)) _)) (hb.mono (by first | omega | (simp; done) | (simp; omega)))
    have HB := Lib.hid HBq
    clear HBq hb
    go_wp2_with fail
    refine (HS.out _).mono ?_
    rintro e w4 ⟨rfl, hb⟩
    have hszw4 := below_size hb
    try simp at hszw4
    have HBq : Below w.heap.size w w4 := Below.trans (by repeat (first | exact Below.refl _ _ | exact HB.out | refine Below.drew ?_ | refine bel_drewN _ ?_ | refine Below.alloc ?_ (by first | omega | (simp; done) | (simp; omega)) _ | refine Below.setCell ?_ (by first | (show _ ≤ _; omega) | (simp; done) | (simp; omega)) _)) (hb.mono (by first | omega | (simp; done) | (simp; omega)))
    have HB := Lib.hid HBq
    clear HBq hb
    go_wp2
    go_ret
    exact ⟨rfl, (by repeat (first | exact Below.refl _ _ | exact HB.out | refine Below.drew ?_ | refine bel_drewN _ ?_ | refine Below.alloc ?_ (by first | omega | (simp; done) | (simp; omega)) _ | refine Below.setCell ?_ (by first | (show _ ≤ _; omega) | (simp; done) | (simp; omega)) _))⟩
end Go.Proofs.YtdphmeepbkmkkaaDoor
