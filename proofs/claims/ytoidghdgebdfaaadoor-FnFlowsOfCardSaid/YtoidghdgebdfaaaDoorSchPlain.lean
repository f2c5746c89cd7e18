/- Schedules in plain numbers. -/
import Derived.Test.YtoidghdgebdfaaaDoorDateFacts
namespace Go.Proofs.YtoidghdgebdfaaaDoor
theorem am_eq {n k : Int} (h : 0 ≤ addM n k) : addM n k = num (1990 + amT n k / 12) (amT n k % 12 + 1) (minI (dD n) (dim (1990 + amT n k / 12) (amT n k % 12 + 1))) ∧ Dt (1990 + amT n k / 12) (amT n k % 12 + 1) (minI (dD n) (dim (1990 + amT n k / 12) (amT n k % 12 + 1))) := by
  obtain ⟨h1, h2, h3⟩ := addM_in h
  exact ⟨addM_eq h1 h2 h3, am_dt h1 h3⟩
/-- fewer months, an earlier day -/
theorem addM_lt {n k k' : Int} (h : 0 ≤ addM n k) (h' : 0 ≤ addM n k') (hk : k < k') : addM n k < addM n k' := by
  obtain ⟨e1, d1⟩ := am_eq h
  obtain ⟨e2, d2⟩ := am_eq h'
  have t1 := amT_def n k
  have t2 := amT_def n k'
  rw [e1, e2]
  refine num_lt d1 d2 ?_
  by_cases c : amT n k / 12 < amT n k' / 12
  · exact .inl (by omega)
  · exact .inr ⟨by omega, .inl (by omega)⟩
/-- a day between: if one goes that far back, one goes less far back -/
theorem addM_mid {n k k' : Int} (h : 0 ≤ addM n k) (hk : k ≤ k') (h0 : k' ≤ 0) : 0 ≤ addM n k' := by
  obtain ⟨h1, h2, h3⟩ := addM_in h
  have t1 := amT_def n k
  have t2 := amT_def n k'
  obtain ⟨⟨⟨_, y⟩, ⟨_, m⟩, _⟩, _⟩ := date_ok h1
  have h4 : 0 ≤ amT n k' ∧ amT n k' < 1200 := by omega
  rw [addM_eq h1 (by omega) h4]
  exact (num_bd (am_dt h1 h4)).1
/-- the day at which the k-th period from the end begins -/
noncomputable def bk (e m : Int) (k : Nat) : Int := addM e (-((k : Int) * m))
theorem bk_zero {e m : Int} (h : 0 ≤ e ∧ e ≤ 36524) : bk e m 0 = e := by
  unfold bk
  rw [show -(((0 : Nat) : Int) * m) = 0 by simp]
  exact addM_zero h
theorem bk_bd (e m : Int) (k : Nat) : -1 ≤ bk e m k ∧ bk e m k ≤ 36524 := addM_bd _ _
theorem bk_lt {e m : Int} {j k : Nat} (hm : 1 ≤ m) (h : 0 ≤ bk e m k) (hj : j < k) : bk e m k < bk e m j := by
  unfold bk at *
  have a : (j : Int) * m < (k : Int) * m := Int.mul_lt_mul_of_pos_right (by omega) (by omega)
  have b : 0 ≤ (j : Int) * m := Int.mul_nonneg (by omega) (by omega)
  exact addM_lt h (addM_mid h (by omega) (by omega)) (by omega)
/-- how many periods there are, 41 if there are more than 40 -/
noncomputable def cntS (s e m : Int) : Nat → Nat → Nat
  | 0, k => k
  | f + 1, k => if s < bk e m k then cntS s e m f (k + 1) else k
noncomputable def schN (s e m : Int) : Nat := cntS s e m 41 0
theorem cntS_facts (s e m : Int) : ∀ f k, k ≤ cntS s e m f k ∧ cntS s e m f k ≤ k + f ∧ (∀ j, k ≤ j → j < cntS s e m f k → s < bk e m j) ∧ (cntS s e m f k < k + f → bk e m (cntS s e m f k) ≤ s)
  | 0, k => ⟨Nat.le_refl _, Nat.le_refl _, fun j h1 h2 => by simp [cntS] at h2; omega, fun h => by simp [cntS] at h⟩
  | f + 1, k => by
    obtain ⟨a, b, c, d⟩ := cntS_facts s e m f (k + 1)
    by_cases h : s < bk e m k
    · have q : cntS s e m (f + 1) k = cntS s e m f (k + 1) := by show (if _ then _ else _) = _; rw [if_pos h]
      rw [q]
      refine ⟨by omega, by omega, fun j h1 h2 => ?_, fun h2 => d (by omega)⟩
      by_cases e : j = k
      · rw [e]; exact h
      · exact c j (by omega) h2
    · have q : cntS s e m (f + 1) k = k := by show (if _ then _ else _) = _; rw [if_neg h]
      rw [q]
      exact ⟨Nat.le_refl _, by omega, fun j h1 h2 => by omega, fun _ => by omega⟩
theorem schN_le (s e m : Int) : schN s e m ≤ 41 := by have := (cntS_facts s e m 41 0).2.1; unfold schN; omega
theorem schN_in {s e m : Int} {j : Nat} (h : j < schN s e m) : s < bk e m j := (cntS_facts s e m 41 0).2.2.1 j (by omega) h
theorem schN_out {s e m : Int} (h : schN s e m < 41) : bk e m (schN s e m) ≤ s := (cntS_facts s e m 41 0).2.2.2 (by unfold schN at h; omega)
theorem schN_at {s e m : Int} {k : Nat} (h : k ≤ schN s e m) (hk : k ≤ 40) : s < bk e m k ↔ k < schN s e m := by
  constructor
  · intro h1
    by_cases c : k = schN s e m
    · have := schN_out (s := s) (e := e) (m := m) (by omega)
      rw [← c] at this
      omega
    · omega
  · exact schN_in
/-- the arguments of a schedule -/
def spnB (s e m : Int) : Bool := inR s 0 36524 && (inR e (s + 1) 36524 && (m == 1 || m == 3 || m == 6 || m == 12))
theorem spnB_iff {s e m : Int} : spnB s e m = true ↔ (0 ≤ s ∧ s < e ∧ e ≤ 36524) ∧ (m = 1 ∨ m = 3 ∨ m = 6 ∨ m = 12) := by
  unfold spnB
  rw [Bool.and_eq_true, Bool.and_eq_true, inR_true, inR_true]
  simp
  omega
theorem schN_pos {s e m : Int} (h : spnB s e m = true) : 1 ≤ schN s e m := by
  obtain ⟨⟨h0, h1, h2⟩, _⟩ := spnB_iff.1 h
  have := (schN_at (s := s) (e := e) (m := m) (k := 0) (by omega) (by omega)).1 (by rw [bk_zero ⟨by omega, h2⟩]; exact h1)
  omega
/-- the periods: begin, end, whether whole -/
noncomputable def pF (s e m : Int) (n j : Nat) : Int := if j = 0 then s else bk e m (n - j)
noncomputable def pT (e m : Int) (n j : Nat) : Int := bk e m (n - 1 - j)
noncomputable def pW (s e m : Int) (n j : Nat) : Bool := if j = 0 then (bk e m n == s) else true
/-- how long the list is: none where there is no schedule -/
noncomputable def schL (s e m : Int) : Nat := if spnB s e m = true ∧ schN s e m ≤ 40 then schN s e m else 0
end Go.Proofs.YtoidghdgebdfaaaDoor
