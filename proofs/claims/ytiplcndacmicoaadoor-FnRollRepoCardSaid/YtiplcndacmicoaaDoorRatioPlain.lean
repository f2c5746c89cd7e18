/- Ratios in plain numbers: the greatest common divisor, lowest terms, validity. No program in sight. -/
import Derived.Test.YtiplcndacmicoaaDoorPlain
namespace Go.Proofs.YtiplcndacmicoaaDoor
/-- the greatest common divisor -/
def gd (a b : Int) : Int := (Int.gcd a b : Int)
theorem gd_zero {a : Int} (h : 0 ≤ a) : gd a 0 = a := by
  unfold gd
  simp
  omega
theorem gd_rec {a b : Int} (ha : 0 ≤ a) : gd b (a % b) = gd a b := by
  unfold gd
  congr 1
  simp only [Int.gcd, Int.natAbs_emod_of_nonneg ha]
  rw [Nat.gcd_comm a.natAbs b.natAbs, Nat.gcd_rec b.natAbs a.natAbs, Nat.gcd_comm]
theorem gd_pos {a b : Int} (hb : 1 ≤ b) : 1 ≤ gd a b := by
  unfold gd
  have : 0 < Int.gcd a b := Int.gcd_pos_of_ne_zero_right a (by omega)
  omega
theorem gd_le {a b : Int} (hb : 1 ≤ b) : gd a b ≤ b := by
  unfold gd
  exact Int.le_of_dvd (by omega) (Int.gcd_dvd_right a b)
theorem gd_dvd_left (a b : Int) : gd a b ∣ a := Int.gcd_dvd_left a b
theorem gd_dvd_right (a b : Int) : gd a b ∣ b := Int.gcd_dvd_right a b
theorem gd_abs (a b : Int) : gd (absI a) b = gd a b := by
  unfold gd absI
  split
  · rw [Int.neg_gcd]
  · rfl
theorem gd_max (a b : Int) : gd (max a (-a)) b = gd a b := by
  rw [← gd_abs a b]
  congr 1
  unfold absI
  split <;> omega
/-- lowest terms -/
def lowN (n d : Int) : Int := n / gd n d
def lowD (n d : Int) : Int := d / gd n d
theorem low_mul_N {n d : Int} : gd n d * lowN n d = n := Int.mul_ediv_cancel' (gd_dvd_left n d)
theorem low_mul_D {n d : Int} : gd n d * lowD n d = d := Int.mul_ediv_cancel' (gd_dvd_right n d)
theorem lowD_pos {n d : Int} (hd : 1 ≤ d) : 1 ≤ lowD n d := by
  have h1 := @low_mul_D n d
  have h2 := gd_pos (a := n) hd
  by_cases h : 1 ≤ lowD n d
  · exact h
  · exfalso
    have : gd n d * lowD n d ≤ gd n d * 0 := Int.mul_le_mul_of_nonneg_left (by omega) (by omega)
    omega
theorem lowD_le {n d : Int} (hd : 1 ≤ d) : lowD n d ≤ d := Int.ediv_le_self (a := d) _ (by omega)
theorem gd_low {n d : Int} (hd : 1 ≤ d) : gd (lowN n d) (lowD n d) = 1 := by
  have hg := gd_pos (a := n) hd
  have := Int.gcd_ediv_gcd_ediv_gcd (i := n) (j := d) (by unfold gd at hg; omega)
  unfold lowN lowD gd
  rw [this]; rfl
theorem tdiv_low {n d : Int} : n.tdiv (gd n d) = lowN n d := by
  unfold lowN
  rw [Int.tdiv_eq_ediv, if_pos (.inr (gd_dvd_left n d)), Int.add_zero]
theorem lowN_bd {n d b : Int} (hd : 1 ≤ d) (h1 : -b ≤ n) (h2 : n ≤ b) : -b ≤ lowN n d ∧ lowN n d ≤ b := by
  unfold lowN
  exact ediv_bd (gd_pos hd) h1 h2
/-- a valid ratio -/
def ratioOk (n d : Int) : Bool := inR n (-2000000) 2000000 && (inR d 1 2000000 && (gd n d == 1))
theorem ratioOk_iff {n d : Int} : ratioOk n d = true ↔ (-2000000 ≤ n ∧ n ≤ 2000000) ∧ (1 ≤ d ∧ d ≤ 2000000) ∧ gd n d = 1 := by
  unfold ratioOk
  rw [Bool.and_eq_true, Bool.and_eq_true, inR_true, inR_true, beq_iff_eq]
end Go.Proofs.YtiplcndacmicoaaDoor
