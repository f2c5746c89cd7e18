/- Repos: validity, interest. -/
import Derived.Test.YtiplcndacmicoaaDoorPartLaws
import Derived.Deep.RegionHeld3
namespace Go.Proofs.YtiplcndacmicoaaDoor
open Go.RowKit
set_option linter.unusedVariables false
/-- a valid loan -/
def rpB (c r a b h : Int) : Bool := inR c 1 100000000 && (inR r 0 3000 && (spanB a b && inR h 0 500))
theorem rpB_iff {c r a b h : Int} : rpB c r a b h = true ↔ inR c 1 100000000 = true ∧ inR r 0 3000 = true ∧ spanB a b = true ∧ inR h 0 500 = true := by
  unfold rpB
  rw [Bool.and_eq_true, Bool.and_eq_true, Bool.and_eq_true]
theorem rp_c {c r a b h : Int} (k : inR c 1 100000000 = false) : rpB c r a b h = false := by unfold rpB; rw [k]; rfl
theorem rp_r {c r a b h : Int} (k : inR r 0 3000 = false) : rpB c r a b h = false := by unfold rpB; rw [k]; simp
theorem rp_s {c r a b h : Int} (k : spanB a b = false) : rpB c r a b h = false := by unfold rpB; rw [k]; simp
theorem rp_h {c r a b h : Int} (k1 : inR c 1 100000000 = true) (k2 : inR r 0 3000 = true) (k3 : spanB a b = true) : rpB c r a b h = inR h 0 500 := by unfold rpB; rw [k1, k2, k3]; rfl
theorem span_min (a b : Int) (ha : inR a 0 36524 = true) : spanB a b = inR b a (if a + 4000 < 36524 then a + 4000 else 36524) := by
  have := inR_true.1 ha
  rw [Bool.eq_iff_iff, span_iff, inR_true]
  split <;> omega
set_option maxHeartbeats 4000000 in
theorem validRepoI_any (c r a b h : Int) (w : World) :
    Calls Tryd.prog 14 #[.agg #[.int .i64 c, .int .i64 r, .int .i64 a, .int .i64 b, .int .i64 h]] w fun e w' => e = .returned (.bool (rpB c r a b h)) ∧ Below w.heap.size w w' := by
  cases h1 : inR c 1 100000000
  · rw [rp_c h1]
    go_enter Tryd.func14, Tryd.ntmps14
    go_wp2_with (first | (go_at_call 21; refine (within_any _ _ _ _).mono ?_; rintro e w' ⟨rfl, rfl⟩) | (go_at_call 22; refine (rateValid_any _ _).mono ?_; rintro e w' ⟨rfl, rfl⟩) | (go_at_call 23; refine (spanValid_any _ _ _).mono ?_; rintro e w' ⟨rfl, rfl⟩))
    go_ret
    exact ⟨rfl, (by repeat (first | exact Below.refl _ _ | exact HB.out | refine Below.drew ?_ | refine bel_drewN _ ?_ | refine Below.alloc ?_ (by first | omega | (simp; done) | (simp; omega)) _ | refine Below.setCell ?_ (by first | (show _ ≤ _; omega) | (simp; done) | (simp; omega)) _))⟩
  cases h2 : inR r 0 3000
  · rw [rp_r h2]
    go_enter Tryd.func14, Tryd.ntmps14
    go_wp2_with (first | (go_at_call 21; refine (within_any _ _ _ _).mono ?_; rintro e w' ⟨rfl, rfl⟩) | (go_at_call 22; refine (rateValid_any _ _).mono ?_; rintro e w' ⟨rfl, rfl⟩) | (go_at_call 23; refine (spanValid_any _ _ _).mono ?_; rintro e w' ⟨rfl, rfl⟩))
    go_ret
    exact ⟨rfl, (by repeat (first | exact Below.refl _ _ | exact HB.out | refine Below.drew ?_ | refine bel_drewN _ ?_ | refine Below.alloc ?_ (by first | omega | (simp; done) | (simp; omega)) _ | refine Below.setCell ?_ (by first | (show _ ≤ _; omega) | (simp; done) | (simp; omega)) _))⟩
  cases h3 : spanB a b
  · rw [rp_s h3]
    go_enter Tryd.func14, Tryd.ntmps14
    go_wp2_with (first | (go_at_call 21; refine (within_any _ _ _ _).mono ?_; rintro e w' ⟨rfl, rfl⟩) | (go_at_call 22; refine (rateValid_any _ _).mono ?_; rintro e w' ⟨rfl, rfl⟩) | (go_at_call 23; refine (spanValid_any _ _ _).mono ?_; rintro e w' ⟨rfl, rfl⟩))
    go_ret
    exact ⟨rfl, (by repeat (first | exact Below.refl _ _ | exact HB.out | refine Below.drew ?_ | refine bel_drewN _ ?_ | refine Below.alloc ?_ (by first | omega | (simp; done) | (simp; omega)) _ | refine Below.setCell ?_ (by first | (show _ ≤ _; omega) | (simp; done) | (simp; omega)) _))⟩
  rw [rp_h h1 h2 h3]
  go_enter Tryd.func14, Tryd.ntmps14
  go_wp2_with (first | (go_at_call 21; refine (within_any _ _ _ _).mono ?_; rintro e w' ⟨rfl, rfl⟩) | (go_at_call 22; refine (rateValid_any _ _).mono ?_; rintro e w' ⟨rfl, rfl⟩) | (go_at_call 23; refine (spanValid_any _ _ _).mono ?_; rintro e w' ⟨rfl, rfl⟩))
  go_ret
  exact ⟨rfl, (by repeat (first | exact Below.refl _ _ | exact HB.out | refine Below.drew ?_ | refine bel_drewN _ ?_ | refine Below.alloc ?_ (by first | omega | (simp; done) | (simp; omega)) _ | refine Below.setCell ?_ (by first | (show _ ≤ _; omega) | (simp; done) | (simp; omega)) _))⟩
set_option maxHeartbeats 4000000 in
theorem validRepoS_m (c r a b h : Int) (w : World) (h1 : inR c 1 100000000 = true) (h2 : inR r 0 3000 = true) (h3 : inR a 0 36524 = true) (X : Int) (hX : (a + 4000 < 36524) = True ∧ X = a + 4000 ∨ (a + 4000 < 36524) = False ∧ X = 36524) :
    Calls Tryd.prog 15 #[.agg #[.int .i64 c, .int .i64 r, .int .i64 a, .int .i64 b, .int .i64 h]] w fun e w' => e = .returned (.bool (inR b a X && inR h 0 500)) ∧ Below w.heap.size w w' := by
  obtain ⟨a0, a1⟩ := inR_true.1 h3
  rcases hX with ⟨ht, rfl⟩ | ⟨ht, rfl⟩
  · cases h4 : inR b a (a + 4000)
    all_goals
      go_enter Tryd.func15, Tryd.ntmps15
      go_wp2_with (go_at_call 24; refine (inRange_any _ _ _ _).mono ?_; rintro e w' ⟨rfl, rfl⟩)
      go_ret
      exact ⟨rfl, (by repeat (first | exact Below.refl _ _ | exact HB.out | refine Below.drew ?_ | refine bel_drewN _ ?_ | refine Below.alloc ?_ (by first | omega | (simp; done) | (simp; omega)) _ | refine Below.setCell ?_ (by first | (show _ ≤ _; omega) | (simp; done) | (simp; omega)) _))⟩
  · cases h4 : inR b a 36524
    all_goals
      go_enter Tryd.func15, Tryd.ntmps15
      go_wp2_with (go_at_call 24; refine (inRange_any _ _ _ _).mono ?_; rintro e w' ⟨rfl, rfl⟩)
      go_ret
      exact ⟨rfl, (by repeat (first | exact Below.refl _ _ | exact HB.out | refine Below.drew ?_ | refine bel_drewN _ ?_ | refine Below.alloc ?_ (by first | omega | (simp; done) | (simp; omega)) _ | refine Below.setCell ?_ (by first | (show _ ≤ _; omega) | (simp; done) | (simp; omega)) _))⟩
set_option maxHeartbeats 4000000 in
theorem validRepoS_any (c r a b h : Int) (w : World) :
    Calls Tryd.prog 15 #[.agg #[.int .i64 c, .int .i64 r, .int .i64 a, .int .i64 b, .int .i64 h]] w fun e w' => e = .returned (.bool (rpB c r a b h)) ∧ Below w.heap.size w w' := by
  cases h1 : inR c 1 100000000
  · rw [rp_c h1]
    go_enter Tryd.func15, Tryd.ntmps15
    go_wp2_with (go_at_call 24; refine (inRange_any _ _ _ _).mono ?_; rintro e w' ⟨rfl, rfl⟩)
    go_ret
    exact ⟨rfl, (by repeat (first | exact Below.refl _ _ | exact HB.out | refine Below.drew ?_ | refine bel_drewN _ ?_ | refine Below.alloc ?_ (by first | omega | (simp; done) | (simp; omega)) _ | refine Below.setCell ?_ (by first | (show _ ≤ _; omega) | (simp; done) | (simp; omega)) _))⟩
  cases h2 : inR r 0 3000
  · rw [rp_r h2]
    go_enter Tryd.func15, Tryd.ntmps15
    go_wp2_with (go_at_call 24; refine (inRange_any _ _ _ _).mono ?_; rintro e w' ⟨rfl, rfl⟩)
    go_ret
    exact ⟨rfl, (by repeat (first | exact Below.refl _ _ | exact HB.out | refine Below.drew ?_ | refine bel_drewN _ ?_ | refine Below.alloc ?_ (by first | omega | (simp; done) | (simp; omega)) _ | refine Below.setCell ?_ (by first | (show _ ≤ _; omega) | (simp; done) | (simp; omega)) _))⟩
  cases h3 : inR a 0 36524
  · rw [rp_s (span_a h3)]
    go_enter Tryd.func15, Tryd.ntmps15
    go_wp2_with (go_at_call 24; refine (inRange_any _ _ _ _).mono ?_; rintro e w' ⟨rfl, rfl⟩)
    go_ret
    exact ⟨rfl, (by repeat (first | exact Below.refl _ _ | exact HB.out | refine Below.drew ?_ | refine bel_drewN _ ?_ | refine Below.alloc ?_ (by first | omega | (simp; done) | (simp; omega)) _ | refine Below.setCell ?_ (by first | (show _ ≤ _; omega) | (simp; done) | (simp; omega)) _))⟩
  have e : rpB c r a b h = (inR b a (if a + 4000 < 36524 then a + 4000 else 36524) && inR h 0 500) := by
    unfold rpB; rw [h1, h2, span_min a b h3]; rfl
  rw [e]
  by_cases ht : a + 4000 < 36524
  · rw [if_pos ht]
    exact validRepoS_m c r a b h w h1 h2 h3 _ (.inl ⟨by simp [ht], rfl⟩)
  · rw [if_neg ht]
    exact validRepoS_m c r a b h w h1 h2 h3 _ (.inr ⟨by simp [ht], rfl⟩)
noncomputable def riV (c r a b h : Int) : Int := if rpB c r a b h = true then itV c r 1 a b else -1
theorem riV_yes {c r a b h : Int} (k : rpB c r a b h = true) : riV c r a b h = itV c r 1 a b := by unfold riV; rw [if_pos k]
theorem riV_no {c r a b h : Int} (k : rpB c r a b h = false) : riV c r a b h = -1 := by unfold riV; rw [k]; rfl
theorem rp_it {c r a b h : Int} (k : rpB c r a b h = true) : itB c r 1 a b = true := by
  obtain ⟨h1, h2, h3, h4⟩ := rpB_iff.1 k
  have c1 := inR_true.1 h1
  refine itB_iff.2 ⟨inR_yes (by omega), h2, ?_⟩
  rw [vpart_span, h3]; rfl
theorem itV_bd' {c r k a b : Int} (h : itB c r k a b = true) : 0 ≤ itV c r k a b ∧ itV c r k a b ≤ 439200000000000000 := by
  obtain ⟨_, ⟨z0, z1⟩, ⟨p0, _⟩, _⟩ := it_facts h
  rw [itV_yes h]
  have := near_nonneg z0 (d := 10000 * lowD (ypN k a b) (ypD k)) (by omega)
  have := near_le z0 (d := 10000 * lowD (ypN k a b) (ypD k)) (by omega)
  omega
theorem riV_bd (c r a b h : Int) : -1 ≤ riV c r a b h ∧ riV c r a b h ≤ 439200000000000000 := by
  cases k : rpB c r a b h
  · rw [riV_no k]; omega
  · rw [riV_yes k]; have := itV_bd' (rp_it k); omega
set_option maxHeartbeats 1000000 in
theorem repoIntI_any (c r a b h : Int) (w : World) (hM : MD w) :
    Calls Tryd.prog 11 #[.agg #[.int .i64 c, .int .i64 r, .int .i64 a, .int .i64 b, .int .i64 h]] w fun e w' => e = .returned (.int .i64 (riV c r a b h)) ∧ Below w.heap.size w w' := by
  have hM1 := hM.size
  have HM := Lib.hid hM
  clear hM
  cases k : rpB c r a b h
  · rw [riV_no k]
    go_enter Tryd.func11, Tryd.ntmps11
    have HB := Lib.hid (Below.refl w.heap.size w)
    go_wp2_with fail
    refine (validRepoI_any c r a b h _).mono ?_
    rintro e w1 ⟨rfl, hb⟩
    have x0_1 : w1.cell? ⟨w.heap.size, 0, none⟩ = some (.int .i64 c) := bc hb (by first | (simp; done) | go_simp)
    have x1_1 : w1.cell? ⟨w.heap.size, 1, none⟩ = some (.int .i64 r) := bc hb (by first | (simp; done) | go_simp)
    have x2_1 : w1.cell? ⟨w.heap.size, 2, none⟩ = some (.int .i64 a) := bc hb (by first | (simp; done) | go_simp)
    have x3_1 : w1.cell? ⟨w.heap.size, 3, none⟩ = some (.int .i64 b) := bc hb (by first | (simp; done) | go_simp)
    have x4_1 : w1.cell? ⟨w.heap.size, 4, none⟩ = some (.int .i64 h) := bc hb (by first | (simp; done) | go_simp)
    have xl_1 : w.heap.size < w1.heap.size := cell_lt x0_1
    have hszw1 := below_size hb
    try simp at hszw1
    have HBq : Below w.heap.size w w1 := Below.trans (by repeat (first | exact Below.refl _ _ | exact HB.out | refine Below.drew ?_ | refine bel_drewN _ ?_ | refine Below.alloc ?_ (by first | omega | (simp; done) | (simp; omega)) _ | refine Below.setCell ?_ (by first | (show _ ≤ _; omega) | (simp; done) | (simp; omega)) _)) (hb.mono (by first | omega | (simp; done) | (simp; omega)))
    have HB := Lib.hid HBq
    clear HBq hb
    go_wp2
    go_ret
    exact ⟨rfl, (by repeat (first | exact Below.refl _ _ | exact HB.out | refine Below.drew ?_ | refine bel_drewN _ ?_ | refine Below.alloc ?_ (by first | omega | (simp; done) | (simp; omega)) _ | refine Below.setCell ?_ (by first | (show _ ≤ _; omega) | (simp; done) | (simp; omega)) _))⟩
  · rw [riV_yes k]
    go_enter Tryd.func11, Tryd.ntmps11
    have HB := Lib.hid (Below.refl w.heap.size w)
    go_wp2_with fail
    refine (validRepoI_any c r a b h _).mono ?_
    rintro e w1 ⟨rfl, hb⟩
    have x0_1 : w1.cell? ⟨w.heap.size, 0, none⟩ = some (.int .i64 c) := bc hb (by first | (simp; done) | go_simp)
    have x1_1 : w1.cell? ⟨w.heap.size, 1, none⟩ = some (.int .i64 r) := bc hb (by first | (simp; done) | go_simp)
    have x2_1 : w1.cell? ⟨w.heap.size, 2, none⟩ = some (.int .i64 a) := bc hb (by first | (simp; done) | go_simp)
    have x3_1 : w1.cell? ⟨w.heap.size, 3, none⟩ = some (.int .i64 b) := bc hb (by first | (simp; done) | go_simp)
    have x4_1 : w1.cell? ⟨w.heap.size, 4, none⟩ = some (.int .i64 h) := bc hb (by first | (simp; done) | go_simp)
    have xl_1 : w.heap.size < w1.heap.size := cell_lt x0_1
    have hszw1 := below_size hb
    try simp at hszw1
    have HBq : Below w.heap.size w w1 := Below.trans (by repeat (first | exact Below.refl _ _ | exact HB.out | refine Below.drew ?_ | refine bel_drewN _ ?_ | refine Below.alloc ?_ (by first | omega | (simp; done) | (simp; omega)) _ | refine Below.setCell ?_ (by first | (show _ ≤ _; omega) | (simp; done) | (simp; omega)) _)) (hb.mono (by first | omega | (simp; done) | (simp; omega)))
    have HB := Lib.hid HBq
    clear HBq hb
    go_wp2_with fail
    first | refine (interestI_any c r 1 a b _ (by exact HM.out.fwd (by repeat (first | exact Below.refl _ _ | exact HB.out.mono hM1 | refine Below.drew ?_ | refine bel_drewN _ ?_ | refine Below.alloc ?_ (by first | omega | (simp; done) | (simp; omega)) _ | refine Below.setCell ?_ (by first | (show _ ≤ _; omega) | (simp; done) | (simp; omega)) _))) (by decide)).mono ?_ | refine (interestS_any c r 1 a b _).mono ?_
    rintro e w2 ⟨rfl, hb⟩
    have HF : Hid (Below w.heap.size w w2) := Below.trans (by repeat (first | exact Below.refl _ _ | exact HB.out | refine Below.drew ?_ | refine bel_drewN _ ?_ | refine Below.alloc ?_ (by first | omega | (simp; done) | (simp; omega)) _ | refine Below.setCell ?_ (by first | (show _ ≤ _; omega) | (simp; done) | (simp; omega)) _)) (hb.mono (by first | omega | (simp; omega)))
    go_wp2
    go_ret
    exact ⟨rfl, HF.out⟩
set_option maxHeartbeats 1000000 in
theorem repoIntS_any (c r a b h : Int) (w : World) (hM : MD w) :
    Calls Tryd.prog 12 #[.agg #[.int .i64 c, .int .i64 r, .int .i64 a, .int .i64 b, .int .i64 h]] w fun e w' => e = .returned (.int .i64 (riV c r a b h)) ∧ Below w.heap.size w w' := by
  have hM1 := hM.size
  have HM := Lib.hid hM
  clear hM
  cases k : rpB c r a b h
  · rw [riV_no k]
    go_enter Tryd.func12, Tryd.ntmps12
    have HB := Lib.hid (Below.refl w.heap.size w)
    go_wp2_with fail
    refine (validRepoS_any c r a b h _).mono ?_
    rintro e w1 ⟨rfl, hb⟩
    have x0_1 : w1.cell? ⟨w.heap.size, 0, none⟩ = some (.int .i64 c) := bc hb (by first | (simp; done) | go_simp)
    have x1_1 : w1.cell? ⟨w.heap.size, 1, none⟩ = some (.int .i64 r) := bc hb (by first | (simp; done) | go_simp)
    have x2_1 : w1.cell? ⟨w.heap.size, 2, none⟩ = some (.int .i64 a) := bc hb (by first | (simp; done) | go_simp)
    have x3_1 : w1.cell? ⟨w.heap.size, 3, none⟩ = some (.int .i64 b) := bc hb (by first | (simp; done) | go_simp)
    have x4_1 : w1.cell? ⟨w.heap.size, 4, none⟩ = some (.int .i64 h) := bc hb (by first | (simp; done) | go_simp)
    have xl_1 : w.heap.size < w1.heap.size := cell_lt x0_1
    have hszw1 := below_size hb
    try simp at hszw1
    have HBq : Below w.heap.size w w1 := Below.trans (by repeat (first | exact Below.refl _ _ | exact HB.out | refine Below.drew ?_ | refine bel_drewN _ ?_ | refine Below.alloc ?_ (by first | omega | (simp; done) | (simp; omega)) _ | refine Below.setCell ?_ (by first | (show _ ≤ _; omega) | (simp; done) | (simp; omega)) _)) (hb.mono (by first | omega | (simp; done) | (simp; omega)))
    have HB := Lib.hid HBq
    clear HBq hb
    go_wp2
    go_ret
    exact ⟨rfl, (by repeat (first | exact Below.refl _ _ | exact HB.out | refine Below.drew ?_ | refine bel_drewN _ ?_ | refine Below.alloc ?_ (by first | omega | (simp; done) | (simp; omega)) _ | refine Below.setCell ?_ (by first | (show _ ≤ _; omega) | (simp; done) | (simp; omega)) _))⟩
  · rw [riV_yes k]
    go_enter Tryd.func12, Tryd.ntmps12
    have HB := Lib.hid (Below.refl w.heap.size w)
    go_wp2_with fail
    refine (validRepoS_any c r a b h _).mono ?_
    rintro e w1 ⟨rfl, hb⟩
    have x0_1 : w1.cell? ⟨w.heap.size, 0, none⟩ = some (.int .i64 c) := bc hb (by first | (simp; done) | go_simp)
    have x1_1 : w1.cell? ⟨w.heap.size, 1, none⟩ = some (.int .i64 r) := bc hb (by first | (simp; done) | go_simp)
    have x2_1 : w1.cell? ⟨w.heap.size, 2, none⟩ = some (.int .i64 a) := bc hb (by first | (simp; done) | go_simp)
    have x3_1 : w1.cell? ⟨w.heap.size, 3, none⟩ = some (.int .i64 b) := bc hb (by first | (simp; done) | go_simp)
    have x4_1 : w1.cell? ⟨w.heap.size, 4, none⟩ = some (.int .i64 h) := bc hb (by first | (simp; done) | go_simp)
    have xl_1 : w.heap.size < w1.heap.size := cell_lt x0_1
    have hszw1 := below_size hb
    try simp at hszw1
    have HBq : Below w.heap.size w w1 := Below.trans (by repeat (first | exact Below.refl _ _ | exact HB.out | refine Below.drew ?_ | refine bel_drewN _ ?_ | refine Below.alloc ?_ (by first | omega | (simp; done) | (simp; omega)) _ | refine Below.setCell ?_ (by first | (show _ ≤ _; omega) | (simp; done) | (simp; omega)) _)) (hb.mono (by first | omega | (simp; done) | (simp; omega)))
    have HB := Lib.hid HBq
    clear HBq hb
    go_wp2_with fail
    first | refine (interestI_any c r 1 a b _ (by exact HM.out.fwd (by repeat (first | exact Below.refl _ _ | exact HB.out.mono hM1 | refine Below.drew ?_ | refine bel_drewN _ ?_ | refine Below.alloc ?_ (by first | omega | (simp; done) | (simp; omega)) _ | refine Below.setCell ?_ (by first | (show _ ≤ _; omega) | (simp; done) | (simp; omega)) _))) (by decide)).mono ?_ | refine (interestS_any c r 1 a b _).mono ?_
    rintro e w2 ⟨rfl, hb⟩
    have HF : Hid (Below w.heap.size w w2) := Below.trans (by repeat (first | exact Below.refl _ _ | exact HB.out | refine Below.drew ?_ | refine bel_drewN _ ?_ | refine Below.alloc ?_ (by first | omega | (simp; done) | (simp; omega)) _ | refine Below.setCell ?_ (by first | (show _ ≤ _; omega) | (simp; done) | (simp; omega)) _)) (hb.mono (by first | omega | (simp; omega)))
    go_wp2
    go_ret
    exact ⟨rfl, HF.out⟩
end Go.Proofs.YtiplcndacmicoaaDoor
