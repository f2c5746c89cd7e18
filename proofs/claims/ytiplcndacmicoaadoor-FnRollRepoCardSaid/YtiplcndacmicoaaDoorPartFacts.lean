/- Facts on parts of years and interest in plain numbers. -/
import Derived.Test.YtiplcndacmicoaaDoorDateFacts
import Derived.Test.YtiplcndacmicoaaDoorPartPlain
import Derived.Test.YtiplcndacmicoaaDoorPart2
namespace Go.Proofs.YtiplcndacmicoaaDoor
/-- months of 30 days: nothing between a day and itself -/
theorem thN_self (a : Int) (h : 0 ≤ a ∧ a ≤ 36524) : thN a a = 0 := by
  have t := dt_day (date_ok h).1
  unfold thN thD
  (repeat' split) <;> omega
theorem thN_step {a b : Int} (ha : 0 ≤ a) (hab : a ≤ b) (hb : b + 1 ≤ 36524) : thN a b ≤ thN a (b + 1) := by
  have ta := dt_day (date_ok (n := a) ⟨ha, by omega⟩).1
  have tb := dt_day (date_ok (n := b) ⟨by omega, by omega⟩).1
  have D := (date_ok (n := b) ⟨by omega, by omega⟩).1
  have Db := @dim_bd (dY b) (dM b)
  obtain ⟨_, _, h5, h6⟩ := D
  rcases next_date (n := b) (by omega) hb with ⟨e1, e2, e3⟩ | ⟨e0, e1, e2, e3, _⟩ | ⟨e0, e0', e1, e2, e3⟩
  · unfold thN thD
    rw [e1, e2, e3]
    (repeat' split) <;> omega
  · have Dm : dM b = 2 ∨ 30 ≤ dim (dY b) (dM b) := by
      unfold dim md
      (repeat' split) <;> omega
    have Df : dM b ≠ 2 ∨ dim (dY b) (dM b) ≤ 29 := by
      have := lpI_bd (dY b)
      unfold dim
      split <;> omega
    unfold thN thD
    rw [e1, e2, e3]
    (repeat' split) <;> omega
  · unfold thN thD
    rw [e1, e2, e3]
    (repeat' split) <;> omega
theorem thN_mono {a b : Int} (ha : 0 ≤ a) (j : Nat) : a ≤ b → b + j ≤ 36524 → thN a b ≤ thN a (b + j) := by
  induction j with
  | zero => intro _ _; simp
  | succ j ih =>
    intro h1 h2
    have i1 := ih h1 (by omega)
    have i2 := thN_step (a := a) (b := b + j) ha (by omega) (by omega)
    rw [show b + ((j + 1 : Nat) : Int) = b + j + 1 by omega]
    omega
theorem thN_nonneg {a b : Int} (ha : 0 ≤ a) (hab : a ≤ b) (hb : b ≤ 36524) : 0 ≤ thN a b := by
  have h := thN_mono (a := a) (b := a) ha (b - a).toNat (by omega) (by omega)
  rw [thN_self a ⟨ha, by omega⟩, show a + ((b - a).toNat : Int) = b by omega] at h
  exact h
/-- the parts' numerators: bounds, none, more -/
theorem ypN_bd {k a b : Int} (h : vpart k a b = true) : 0 ≤ ypN k a b ∧ ypN k a b ≤ 1464000 := by
  obtain ⟨hk, h1, h2, h3, h4⟩ := vpart_iff.1 h
  have l := lpd_bd h1 h2
  have t := thN_nonneg h1 h2 h3
  have t' := thN_bd (a := a) (b := b) (by omega) (by omega)
  unfold ypN
  (repeat' split) <;> omega
theorem ypN_self {k a : Int} (h : 0 ≤ a ∧ a ≤ 36524) : ypN k a a = 0 := by
  unfold ypN
  rw [thN_self a h]
  (repeat' split) <;> omega
theorem ypN_step {k a b : Int} (h : vpart k a (b + 1) = true) (hab : a ≤ b) : ypN k a b ≤ ypN k a (b + 1) := by
  obtain ⟨hk, h1, h2, h3, h4⟩ := vpart_iff.1 h
  have l := lpd_bd (a := b) (b := b + 1) (by omega) (by omega)
  have t := thN_step h1 hab h3
  unfold ypN
  (repeat' split) <;> omega
theorem low_ok {n d : Int} (h1 : -2000000 ≤ n) (h2 : n ≤ 2000000) (h3 : 1 ≤ d) (h4 : d ≤ 2000000) : ratioOk (lowN n d) (lowD n d) = true := by
  have a := lowN_bd h3 h1 h2
  have b := lowD_pos (n := n) h3
  have c := lowD_le (n := n) h3
  exact ratioOk_iff.2 ⟨a, by omega, gd_low h3⟩
theorem low_eq {n d : Int} (h1 : -2000000 ≤ n) (h2 : n ≤ 2000000) (h3 : 1 ≤ d) (h4 : d ≤ 2000000) : lowRes n d = (lowN n d, lowD n d, true) := by
  unfold lowRes
  rw [if_pos (low_ok h1 h2 h3 h4)]
/-- what YearPart returns -/
noncomputable def ypV (k a b : Int) : Int × Int × Bool := if vpart k a b = true then (lowN (ypN k a b) (ypD k), lowD (ypN k a b) (ypD k), true) else (0, 0, false)
theorem ypV_yes {k a b : Int} (h : vpart k a b = true) : ypV k a b = (lowN (ypN k a b) (ypD k), lowD (ypN k a b) (ypD k), true) := by unfold ypV; rw [if_pos h]
theorem ypV_no {k a b : Int} (h : vpart k a b = false) : ypV k a b = (0, 0, false) := by unfold ypV; rw [h]; rfl
theorem yp_ok {k a b : Int} (h : vpart k a b = true) : ratioOk (lowN (ypN k a b) (ypD k)) (lowD (ypN k a b) (ypD k)) = true := by
  have l := ypN_bd h
  have d := ypD_bd k
  exact low_ok (by omega) (by omega) (by omega) (by omega)
/-- products of lowest terms -/
theorem low_cross {n1 d1 n2 d2 : Int} (hd1 : 1 ≤ d1) (hd2 : 1 ≤ d2) (h : n1 * d2 ≤ n2 * d1) : lowN n1 d1 * lowD n2 d2 ≤ lowN n2 d2 * lowD n1 d1 := by
  have g1 := gd_pos (a := n1) hd1
  have g2 := gd_pos (a := n2) hd2
  have a1 := @low_mul_N n1 d1
  have a2 := @low_mul_D n1 d1
  have b1 := @low_mul_N n2 d2
  have b2 := @low_mul_D n2 d2
  generalize gd n1 d1 = G1 at *
  generalize gd n2 d2 = G2 at *
  generalize lowN n1 d1 = x1 at *
  generalize lowD n1 d1 = y1 at *
  generalize lowN n2 d2 = x2 at *
  generalize lowD n2 d2 = y2 at *
  subst a1 a2 b1 b2
  have e1 : G1 * x1 * (G2 * y2) = (G1 * G2) * (x1 * y2) := by
    rw [Int.mul_assoc, Int.mul_assoc, Int.mul_left_comm x1 G2 y2]
  have e2 : G2 * x2 * (G1 * y1) = (G1 * G2) * (x2 * y1) := by
    rw [Int.mul_assoc, Int.mul_left_comm x2 G1 y1, ← Int.mul_assoc, Int.mul_comm G2 G1, ← Int.mul_assoc, Int.mul_assoc]
  rw [e1, e2] at h
  exact Int.le_of_mul_le_mul_left h (Int.mul_pos (by omega) (by omega))
theorem coprime_eq {n1 d1 n2 d2 : Int} (a3 : 1 ≤ d1) (g1 : gd n1 d1 = 1) (b3 : 1 ≤ d2) (g2 : gd n2 d2 = 1) (h : n1 * d2 = n2 * d1) : n1 = n2 ∧ d1 = d2 := by
  have dg : ∀ {k m n : Int}, Int.gcd m k = 1 → k ∣ m * n → k ∣ n := by
    intro k m n h hd
    have h1 : k.natAbs ∣ m.natAbs * n.natAbs := by rw [← Int.natAbs_mul]; exact Int.natAbs_dvd_natAbs.2 hd
    have h2 : Nat.Coprime k.natAbs m.natAbs := by unfold Nat.Coprime; rw [Nat.gcd_comm]; exact h
    exact Int.natAbs_dvd_natAbs.1 (h2.dvd_of_dvd_mul_left h1)
  have e1 : Int.gcd n1 d1 = 1 := by unfold gd at g1; omega
  have e2 : Int.gcd n2 d2 = 1 := by unfold gd at g2; omega
  have q1 : d1 ∣ d2 := by
    have : d1 ∣ n1 * d2 := by rw [h]; exact Int.dvd_mul_left _ _
    exact dg e1 this
  have q2 : d2 ∣ d1 := by
    have : d2 ∣ n2 * d1 := by rw [← h]; exact Int.dvd_mul_left _ _
    exact dg e2 this
  have e : d1 = d2 := Int.le_antisymm (Int.le_of_dvd (by omega) q1) (Int.le_of_dvd (by omega) q2)
  refine ⟨?_, e⟩
  subst e
  exact Int.eq_of_mul_eq_mul_right (by omega) h
theorem low_same {n1 d1 n2 d2 : Int} (hd1 : 1 ≤ d1) (hd2 : 1 ≤ d2) (h : n1 * d2 = n2 * d1) : lowN n1 d1 = lowN n2 d2 ∧ lowD n1 d1 = lowD n2 d2 :=
  coprime_eq (lowD_pos hd1) (gd_low hd1) (lowD_pos hd2) (gd_low hd2) (Int.le_antisymm (low_cross hd1 hd2 (by omega)) (low_cross hd2 hd1 (by omega)))
theorem low_swap (n d : Int) : lowN n d * d = n * lowD n d := by
  have a1 := @low_mul_N n d
  have a2 := @low_mul_D n d
  generalize gd n d = G at *
  generalize lowN n d = x at *
  generalize lowD n d = y at *
  subst a1 a2
  rw [Int.mul_left_comm, Int.mul_assoc]
/-- the sum of two ratios over one denominator -/
theorem low_sum {m n d : Int} (hd : 1 ≤ d) : lowN (lowN m d * lowD n d + lowN n d * lowD m d) (lowD m d * lowD n d) = lowN (m + n) d ∧ lowD (lowN m d * lowD n d + lowN n d * lowD m d) (lowD m d * lowD n d) = lowD (m + n) d := by
  have p1 := lowD_pos (n := m) hd
  have p2 := lowD_pos (n := n) hd
  refine low_same (Int.mul_pos (by omega) (by omega)) hd ?_
  have g1 := gd_pos (a := m) hd
  have g2 := gd_pos (a := n) hd
  have a1 := @low_mul_N m d
  have a2 := @low_mul_D m d
  have b1 := @low_mul_N n d
  have b2 := @low_mul_D n d
  have c1 := low_swap m d
  have c2 := low_swap n d
  rw [Int.add_mul, Int.add_mul, Int.mul_right_comm, c1, Int.mul_right_comm (lowN n d), c2]
  rw [Int.mul_assoc m, Int.mul_assoc n, Int.mul_comm (lowD n d) (lowD m d)]
/-- 'near' keeps an order of ratios -/
theorem near_cross {n1 d1 n2 d2 : Int} (hd1 : 1 ≤ d1) (hd2 : 1 ≤ d2) (h : n1 * d2 ≤ n2 * d1) : near n1 d1 ≤ near n2 d2 := by
  unfold near
  have q := Int.ediv_mul_le (2 * n1 + d1) (b := 2 * d1) (by omega)
  rw [Int.le_ediv_iff_mul_le (by omega)]
  generalize (2 * n1 + d1) / (2 * d1) = Q at *
  have s1 : Q * (2 * d1) * d2 ≤ (2 * n1 + d1) * d2 := Int.mul_le_mul_of_nonneg_right q (by omega)
  have e1 : Q * (2 * d1) * d2 = Q * (2 * d2) * d1 := by
    rw [Int.mul_assoc, Int.mul_assoc Q, Int.mul_assoc 2, Int.mul_assoc 2, Int.mul_comm d1 d2]
  have e2 : (2 * n1 + d1) * d2 ≤ (2 * n2 + d2) * d1 := by
    rw [Int.add_mul, Int.add_mul, Int.mul_assoc, Int.mul_assoc 2 n2, Int.mul_comm d1 d2]
    omega
  exact Int.le_of_mul_le_mul_right (by omega) (show 0 < d1 by omega)
theorem near_zero {d : Int} (hd : 1 ≤ d) : near 0 d = 0 := by
  unfold near
  rw [Int.mul_zero, Int.zero_add]
  exact Int.ediv_eq_zero_of_lt (by omega) (by omega)
theorem near_nonneg {n d : Int} (hn : 0 ≤ n) (hd : 1 ≤ d) : 0 ≤ near n d := Int.ediv_nonneg (by omega) (by omega)
theorem near_le {n d : Int} (hn : 0 ≤ n) (hd : 1 ≤ d) : near n d ≤ n := by
  have := near_cross (n1 := n) (d1 := d) (n2 := n) (d2 := 1) hd (by omega) (by
    have := Int.mul_le_mul_of_nonneg_left hd hn
    omega)
  have e : near n 1 = n := by unfold near; omega
  omega
theorem near_double {n d : Int} (hd : 1 ≤ d) : -1 ≤ near (2 * n) d - 2 * near n d ∧ near (2 * n) d - 2 * near n d ≤ 1 := by
  unfold near
  have h1 := Int.mul_ediv_add_emod (2 * n + d) (2 * d)
  have h2 := Int.emod_nonneg (2 * n + d) (show 2 * d ≠ 0 by omega)
  have h3 := Int.emod_lt_of_pos (2 * n + d) (show 0 < 2 * d by omega)
  have k1 := Int.mul_ediv_add_emod (2 * (2 * n) + d) (2 * d)
  have k2 := Int.emod_nonneg (2 * (2 * n) + d) (show 2 * d ≠ 0 by omega)
  have k3 := Int.emod_lt_of_pos (2 * (2 * n) + d) (show 0 < 2 * d by omega)
  generalize (2 * n + d) / (2 * d) = x at *
  generalize (2 * (2 * n) + d) / (2 * d) = y at *
  generalize (2 * n + d) % (2 * d) = r at *
  generalize (2 * (2 * n) + d) % (2 * d) = s at *
  have e : 2 * d * (y - 2 * x) = 2 * d * y - 2 * (2 * d * x) := by
    rw [Int.mul_sub, Int.mul_left_comm (2 * d) 2 x]
  constructor
  · have : 2 * d * (-2) < 2 * d * (y - 2 * x) := by omega
    have := Int.lt_of_mul_lt_mul_left this (by omega)
    omega
  · have : 2 * d * (y - 2 * x) < 2 * d * 2 := by omega
    have := Int.lt_of_mul_lt_mul_left this (by omega)
    omega
end Go.Proofs.YtiplcndacmicoaaDoor
