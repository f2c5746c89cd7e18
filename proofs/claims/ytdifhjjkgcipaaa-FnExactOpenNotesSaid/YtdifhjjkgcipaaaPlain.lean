/- Plain words and facts of numbers: no program in sight. -/
import Derived.WalkKit
namespace Go.Proofs.Ytdifhjjkgcipaaa
/-- n lies in lo..hi. -/
def inR (n lo hi : Int) : Bool := decide (lo ≤ n) && decide (n ≤ hi)
theorem inR_true {n lo hi : Int} : inR n lo hi = true ↔ lo ≤ n ∧ n ≤ hi := by simp [inR]
theorem inR_false {n lo hi : Int} : inR n lo hi = false ↔ n < lo ∨ hi < n := by
  unfold inR; rw [Bool.and_eq_false_iff]; simp
theorem inR_yes {n lo hi : Int} (h : lo ≤ n ∧ n ≤ hi) : inR n lo hi = true := inR_true.2 h
theorem inR_no {n lo hi : Int} (h : n < lo ∨ hi < n) : inR n lo hi = false := inR_false.2 h
/-- floor division as the code does it. -/
theorem tdiv_floor {n d : Int} (hd : 0 < d) : n / d = if n.tmod d < 0 then n.tdiv d - 1 else n.tdiv d := by
  have h1 := Int.mul_tdiv_add_tmod n d
  have h2 := Int.mul_ediv_add_emod n d
  have h3 := Int.emod_nonneg n (Int.ne_of_gt hd)
  have h4 := Int.emod_lt_of_pos n hd
  have h5 := Int.tmod_lt_of_pos n hd
  have h6 : -d < n.tmod d := by
    have := Int.lt_tmod_of_pos n hd
    omega
  split <;> rename_i h
  · have e : d * (n / d - (n.tdiv d - 1)) = n.tmod d - n % d + d := by
      rw [Int.mul_sub, Int.mul_sub]; omega
    have a1 : d * (n / d - (n.tdiv d - 1)) < d * 1 := by omega
    have a2 : d * (-1) < d * (n / d - (n.tdiv d - 1)) := by omega
    have b1 := Int.lt_of_mul_lt_mul_left a1 (Int.le_of_lt hd)
    have b2 := Int.lt_of_mul_lt_mul_left a2 (Int.le_of_lt hd)
    omega
  · have e : d * (n / d - n.tdiv d) = n.tmod d - n % d := by
      rw [Int.mul_sub]; omega
    have a1 : d * (n / d - n.tdiv d) < d * 1 := by omega
    have a2 : d * (-1) < d * (n / d - n.tdiv d) := by omega
    have b1 := Int.lt_of_mul_lt_mul_left a1 (Int.le_of_lt hd)
    have b2 := Int.lt_of_mul_lt_mul_left a2 (Int.le_of_lt hd)
    omega
theorem tdiv_neg_bd {n d b : Int} (hd : 1 ≤ d) (hn : n < 0) (hb : -b ≤ n) : -b ≤ n.tdiv d ∧ n.tdiv d ≤ 0 := by
  have h1 : n.tdiv d = -((-n).tdiv d) := by rw [Int.neg_tdiv]; omega
  rw [h1, Int.tdiv_eq_ediv_of_nonneg (by omega)]
  have h2 := Int.ediv_nonneg (a := -n) (b := d) (by omega) (by omega)
  have h3 := Int.ediv_le_self (a := -n) d (by omega)
  omega
theorem ediv_bd {n d b : Int} (hd : 1 ≤ d) (hb : -b ≤ n) (hb' : n ≤ b) : -b ≤ n / d ∧ n / d ≤ b := by
  by_cases h : 0 ≤ n
  · have h2 := Int.ediv_nonneg (a := n) (b := d) h (by omega)
    have h3 := Int.ediv_le_self (a := n) d h
    omega
  · have h1 := Int.mul_ediv_add_emod n d
    have h2 := Int.emod_nonneg n (b := d) (by omega)
    have h3 : n / d < 0 := Int.ediv_neg_of_neg_of_pos (by omega) (by omega)
    have h4 : d * (n / d) ≤ n := by omega
    have h5 := Int.emod_lt_of_pos n (b := d) (by omega)
    have h6 : d * n ≤ d * (n / d) := by
      apply Int.mul_le_mul_of_nonneg_left _ (by omega)
      by_cases h7 : n ≤ n / d
      · exact h7
      · exfalso
        have h8 : n / d + 1 ≤ n := by omega
        have h9 := Int.mul_le_mul_of_nonneg_left h8 (show 0 ≤ d by omega)
        have h10 : d * n ≤ 1 * n := Int.mul_le_mul_of_nonpos_right (by omega) (by omega)
        rw [Int.mul_add] at h9
        omega
    have h7 := Int.le_of_mul_le_mul_left h6 (by omega)
    omega
/-- floor and ceiling and the nearest number. -/
def cdiv (n d : Int) : Int := -((-n) / d)
def near (n d : Int) : Int := (2 * n + d) / (2 * d)
def absI (n : Int) : Int := if n < 0 then -n else n
theorem absI_neg {n : Int} (h : n < 0) : absI n = -n := if_pos h
theorem absI_pos {n : Int} (h : 0 ≤ n) : absI n = n := if_neg (by omega)
def ofB (b : Bool) : Int := if b then 1 else 0
end Go.Proofs.Ytdifhjjkgcipaaa
