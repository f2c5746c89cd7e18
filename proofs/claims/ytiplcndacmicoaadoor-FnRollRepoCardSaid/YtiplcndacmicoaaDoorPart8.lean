/- Interest of an amount. -/
import Derived.Test.YtiplcndacmicoaaDoorPart7
namespace Go.Proofs.YtiplcndacmicoaaDoor
open Go.RowKit
set_option linter.unusedVariables false
noncomputable def itB (c r k a b : Int) : Bool := inR c 0 100000000 && (inR r 0 3000 && vpart k a b)
theorem itB_iff {c r k a b : Int} : itB c r k a b = true ↔ inR c 0 100000000 = true ∧ inR r 0 3000 = true ∧ vpart k a b = true := by
  unfold itB
  rw [Bool.and_eq_true, Bool.and_eq_true]
noncomputable def itV (c r k a b : Int) : Int := if itB c r k a b = true then near (c * r * lowN (ypN k a b) (ypD k)) (10000 * lowD (ypN k a b) (ypD k)) else -1
theorem itV_yes {c r k a b : Int} (h : itB c r k a b = true) : itV c r k a b = near (c * r * lowN (ypN k a b) (ypD k)) (10000 * lowD (ypN k a b) (ypD k)) := by unfold itV; rw [if_pos h]
theorem itV_no {c r k a b : Int} (h : itB c r k a b = false) : itV c r k a b = -1 := by unfold itV; rw [h]; rfl
theorem it_facts {c r k a b : Int} (h : itB c r k a b = true) : (0 ≤ c * r ∧ c * r ≤ 300000000000) ∧ (0 ≤ c * r * lowN (ypN k a b) (ypD k) ∧ c * r * lowN (ypN k a b) (ypD k) ≤ 439200000000000000) ∧ (1 ≤ lowD (ypN k a b) (ypD k) ∧ lowD (ypN k a b) (ypD k) ≤ 133590) ∧ (0 ≤ lowN (ypN k a b) (ypD k) ∧ lowN (ypN k a b) (ypD k) ≤ 1464000) := by
  obtain ⟨h1, h2, h3⟩ := itB_iff.1 h
  obtain ⟨c0, c1⟩ := inR_true.1 h1
  obtain ⟨r0, r1⟩ := inR_true.1 h2
  obtain ⟨n0, n1⟩ := ypN_bd h3
  obtain ⟨d0, d1⟩ := ypD_bd k
  have p := lowD_pos (n := ypN k a b) d0
  have q := lowD_le (n := ypN k a b) d0
  have x0 : 0 ≤ lowN (ypN k a b) (ypD k) := Int.ediv_nonneg n0 (by have := gd_pos (a := ypN k a b) d0; omega)
  have x1 := (lowN_bd (n := ypN k a b) (b := 1464000) d0 (by omega) n1).2
  have y0 := Int.mul_nonneg c0 r0
  have y1 : c * r ≤ 100000000 * 3000 := Int.mul_le_mul c1 r1 r0 (by decide)
  have z0 := Int.mul_nonneg y0 x0
  have z1 : c * r * lowN (ypN k a b) (ypD k) ≤ 300000000000 * 1464000 := Int.mul_le_mul (by omega) x1 x0 (by decide)
  exact ⟨⟨y0, by omega⟩, ⟨z0, by omega⟩, ⟨p, by omega⟩, x0, x1⟩
theorem rateValid_any (n : Int) (w : World) :
    Calls Tryd.prog 22 #[.int .i64 n] w fun e w' => e = .returned (.bool (inR n 0 3000)) ∧ w = w' := by
  go_enter Tryd.func22, Tryd.ntmps22
  go_wp2_with (go_at_call 21; refine (within_any _ _ _ _).mono ?_; rintro e w' ⟨rfl, rfl⟩)
  go_ret
  exact ⟨rfl, rfl⟩
set_option maxHeartbeats 1000000 in
theorem interestI_yes (c r k a b : Int) (w : World) (hM : MD w) (hk : (Lit.int .i64 k).wf = true) (h : itB c r k a b = true) :
    Calls Tryd.prog 18 #[.int .i64 c, .int .i64 r, .int .i64 k, .int .i64 a, .int .i64 b] w fun e w' => e = .returned (.int .i64 (itV c r k a b)) ∧ Below w.heap.size w w' := by
  obtain ⟨⟨y0, y1⟩, ⟨z0, z1⟩, ⟨p0, p1⟩, x0, x1⟩ := it_facts h
  rw [itV_yes h]
  obtain ⟨h1, h2, h3⟩ := itB_iff.1 h
  have Y := Lib.hid (ypV_yes h3)
  have Hk := Lib.hid hk
  have HM := Lib.hid hM
  clear hk hM h h3
  obtain ⟨V, hV⟩ : ∃ V, ypV k a b = V := ⟨_, rfl⟩
  generalize lowN (ypN k a b) (ypD k) = N at *
  generalize lowD (ypN k a b) (ypD k) = D at *
  have Y' := Y.out
  have H1 : Hid (∀ W : World, MD W → Calls Tryd.prog 27 #[.int .i64 k, .int .i64 a, .int .i64 b] W (YP (N, D, true) W)) := by
    refine Lib.hid fun W h => ?_
    rw [← Y']
    exact yearPartI_any k a b W h Hk.out
  clear Y' Y hV
  go_enter Tryd.func18, Tryd.ntmps18
  have HB := Lib.hid (Below.refl w.heap.size w)
  go_wp2_with fail
  refine (H1.out _ HM.out).mono ?_
  rintro e w1 ⟨rfl, hb⟩
  have hszw1 := below_size hb
  try simp at hszw1
  have HBq : Below w.heap.size w w1 := Below.trans (by repeat (first | exact Below.refl _ _ | exact HB.out | refine Below.drew ?_ | refine bel_drewN _ ?_ | refine Below.alloc ?_ (by first | omega | (simp; done) | (simp; omega)) _ | refine Below.setCell ?_ (by first | (show _ ≤ _; omega) | (simp; done) | (simp; omega)) _)) (hb.mono (by first | omega | (simp; done) | (simp; omega)))
  have HB := Lib.hid HBq
  clear HBq hb
  go_wp2_with (first | (go_at_call 22; refine (rateValid_any _ _).mono ?_; rintro e w' ⟨rfl, rfl⟩) | (go_at_call 21; refine (within_any _ _ _ _).mono ?_; rintro e w' ⟨rfl, rfl⟩) | (go_at_call 28; refine (nearestI_any _ _ _ (by omega) (by omega) (by omega) (by omega)).mono ?_; rintro e w' ⟨rfl, rfl⟩))
  go_ret
  exact ⟨rfl, (by repeat (first | exact Below.refl _ _ | exact HB.out | refine Below.drew ?_ | refine bel_drewN _ ?_ | refine Below.alloc ?_ (by first | omega | (simp; done) | (simp; omega)) _ | refine Below.setCell ?_ (by first | (show _ ≤ _; omega) | (simp; done) | (simp; omega)) _))⟩
set_option maxHeartbeats 1000000 in
theorem interestI_no (c r k a b : Int) (w : World) (hM : MD w) (hk : (Lit.int .i64 k).wf = true) (h : itB c r k a b = false) :
    Calls Tryd.prog 18 #[.int .i64 c, .int .i64 r, .int .i64 k, .int .i64 a, .int .i64 b] w fun e w' => e = .returned (.int .i64 (itV c r k a b)) ∧ Below w.heap.size w w' := by
  rw [itV_no h]
  have Hk := Lib.hid hk
  have HM := Lib.hid hM
  clear hk hM
  have hq : vpart k a b = false ∨ (vpart k a b = true ∧ inR c 0 100000000 = false) ∨ (vpart k a b = true ∧ inR c 0 100000000 = true ∧ inR r 0 3000 = false) := by
    unfold itB at h
    cases hv : vpart k a b <;> cases hc : inR c 0 100000000 <;> cases hr : inR r 0 3000 <;> simp_all
  clear h
  rcases hq with h3 | ⟨h3, h1⟩ | ⟨h3, h1, h2⟩
  · have Y := Lib.hid (ypV_no h3)
    clear h3
    have H1 : Hid (∀ W : World, MD W → Calls Tryd.prog 27 #[.int .i64 k, .int .i64 a, .int .i64 b] W (YP (0, 0, false) W)) := by
      refine Lib.hid fun W h => ?_
      rw [← Y.out]
      exact yearPartI_any k a b W h Hk.out
    go_enter Tryd.func18, Tryd.ntmps18
    have HB := Lib.hid (Below.refl w.heap.size w)
    go_wp2_with fail
    refine (H1.out _ HM.out).mono ?_
    rintro e w1 ⟨rfl, hb⟩
    have hszw1 := below_size hb
    try simp at hszw1
    have HBq : Below w.heap.size w w1 := Below.trans (by repeat (first | exact Below.refl _ _ | exact HB.out | refine Below.drew ?_ | refine bel_drewN _ ?_ | refine Below.alloc ?_ (by first | omega | (simp; done) | (simp; omega)) _ | refine Below.setCell ?_ (by first | (show _ ≤ _; omega) | (simp; done) | (simp; omega)) _)) (hb.mono (by first | omega | (simp; done) | (simp; omega)))
    have HB := Lib.hid HBq
    clear HBq hb
    go_wp2
    go_ret
    exact ⟨rfl, (by repeat (first | exact Below.refl _ _ | exact HB.out | refine Below.drew ?_ | refine bel_drewN _ ?_ | refine Below.alloc ?_ (by first | omega | (simp; done) | (simp; omega)) _ | refine Below.setCell ?_ (by first | (show _ ≤ _; omega) | (simp; done) | (simp; omega)) _))⟩
  all_goals
    have Y := Lib.hid (ypV_yes h3)
    clear h3
    generalize lowN (ypN k a b) (ypD k) = N at *
    generalize lowD (ypN k a b) (ypD k) = D at *
    have H1 : Hid (∀ W : World, MD W → Calls Tryd.prog 27 #[.int .i64 k, .int .i64 a, .int .i64 b] W (YP (N, D, true) W)) := by
      refine Lib.hid fun W h => ?_
      rw [← Y.out]
      exact yearPartI_any k a b W h Hk.out
    clear Y
    go_enter Tryd.func18, Tryd.ntmps18
    have HB := Lib.hid (Below.refl w.heap.size w)
    go_wp2_with fail
    refine (H1.out _ HM.out).mono ?_
    rintro e w1 ⟨rfl, hb⟩
    have hszw1 := below_size hb
    try simp at hszw1
    have HBq : Below w.heap.size w w1 := Below.trans (by repeat (first | exact Below.refl _ _ | exact HB.out | refine Below.drew ?_ | refine bel_drewN _ ?_ | refine Below.alloc ?_ (by first | omega | (simp; done) | (simp; omega)) _ | refine Below.setCell ?_ (by first | (show _ ≤ _; omega) | (simp; done) | (simp; omega)) _)) (hb.mono (by first | omega | (simp; done) | (simp; omega)))
    have HB := Lib.hid HBq
    clear HBq hb
    go_wp2_with (first | (go_at_call 22; refine (rateValid_any _ _).mono ?_; rintro e w' ⟨rfl, rfl⟩) | (go_at_call 21; refine (within_any _ _ _ _).mono ?_; rintro e w' ⟨rfl, rfl⟩))
    go_ret
    exact ⟨rfl, (by repeat (first | exact Below.refl _ _ | exact HB.out | refine Below.drew ?_ | refine bel_drewN _ ?_ | refine Below.alloc ?_ (by first | omega | (simp; done) | (simp; omega)) _ | refine Below.setCell ?_ (by first | (show _ ≤ _; omega) | (simp; done) | (simp; omega)) _))⟩
theorem interestI_any (c r k a b : Int) (w : World) (hM : MD w) (hk : (Lit.int .i64 k).wf = true) :
    Calls Tryd.prog 18 #[.int .i64 c, .int .i64 r, .int .i64 k, .int .i64 a, .int .i64 b] w fun e w' => e = .returned (.int .i64 (itV c r k a b)) ∧ Below w.heap.size w w' := by
  by_cases h : itB c r k a b = true
  · exact interestI_yes c r k a b w hM hk h
  · exact interestI_no c r k a b w hM hk (by simpa using h)
set_option maxHeartbeats 1000000 in
theorem interestS_yes (c r k a b : Int) (w : World) (h : itB c r k a b = true) :
    Calls Tryd.prog 19 #[.int .i64 c, .int .i64 r, .int .i64 k, .int .i64 a, .int .i64 b] w fun e w' => e = .returned (.int .i64 (itV c r k a b)) ∧ Below w.heap.size w w' := by
  obtain ⟨⟨y0, y1⟩, ⟨z0, z1⟩, ⟨p0, p1⟩, x0, x1⟩ := it_facts h
  rw [itV_yes h]
  obtain ⟨h1, h2, h3⟩ := itB_iff.1 h
  clear h
  have H1 : Hid (∀ W : World, Calls Tryd.prog 30 #[.int .i64 k, .int .i64 a, .int .i64 b] W fun e w' => e = .returned (.agg #[.int .i64 (lowN (ypN k a b) (ypD k)), .int .i64 (lowD (ypN k a b) (ypD k))]) ∧ Below W.heap.size W w') :=
    Lib.hid fun W => yearPartS_any k a b W h3
  generalize lowN (ypN k a b) (ypD k) = N at *
  generalize lowD (ypN k a b) (ypD k) = D at *
  go_enter Tryd.func19, Tryd.ntmps19
  have HB := Lib.hid (Below.refl w.heap.size w)
  go_wp2_with (first | (go_at_call 24; refine (inRange_any _ _ _ _).mono ?_; rintro e w' ⟨rfl, rfl⟩) | (go_at_call 29; refine (validPart_any _ _ _ _).mono ?_; rintro e w' ⟨rfl, rfl⟩))
  refine (H1.out _).mono ?_
  rintro e w1 ⟨rfl, hb⟩
  go_wp2_with (go_at_call 31; refine (nearestS_any _ _ _ (by omega) (by omega) (by omega) (by omega)).mono ?_; rintro e w' ⟨rfl, rfl⟩)
  go_ret
  exact ⟨rfl, Below.alloc hb hb.size _⟩
set_option maxHeartbeats 1000000 in
theorem interestS_no (c r k a b : Int) (w : World) (h : itB c r k a b = false) :
    Calls Tryd.prog 19 #[.int .i64 c, .int .i64 r, .int .i64 k, .int .i64 a, .int .i64 b] w fun e w' => e = .returned (.int .i64 (itV c r k a b)) ∧ Below w.heap.size w w' := by
  rw [itV_no h]
  have hq : (inR c 0 100000000 = false) ∨ (inR c 0 100000000 = true ∧ inR r 0 3000 = false) ∨ (inR c 0 100000000 = true ∧ inR r 0 3000 = true ∧ vpart k a b = false) := by
    unfold itB at h
    cases hv : vpart k a b <;> cases hc : inR c 0 100000000 <;> cases hr : inR r 0 3000 <;> simp_all
  clear h
  rcases hq with h1 | ⟨h1, h2⟩ | ⟨h1, h2, h3⟩
  all_goals
    go_enter Tryd.func19, Tryd.ntmps19
    go_wp2_with (first | (go_at_call 24; refine (inRange_any _ _ _ _).mono ?_; rintro e w' ⟨rfl, rfl⟩) | (go_at_call 29; refine (validPart_any _ _ _ _).mono ?_; rintro e w' ⟨rfl, rfl⟩))
    go_ret
    exact ⟨rfl, Below.refl _ _⟩
theorem interestS_any (c r k a b : Int) (w : World) :
    Calls Tryd.prog 19 #[.int .i64 c, .int .i64 r, .int .i64 k, .int .i64 a, .int .i64 b] w fun e w' => e = .returned (.int .i64 (itV c r k a b)) ∧ Below w.heap.size w w' := by
  by_cases h : itB c r k a b = true
  · exact interestS_yes c r k a b w h
  · exact interestS_no c r k a b w (by simpa using h)
end Go.Proofs.YtiplcndacmicoaaDoor
