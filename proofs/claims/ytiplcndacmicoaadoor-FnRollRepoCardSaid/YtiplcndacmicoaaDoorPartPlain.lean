/- Parts of years in plain numbers: the days in leap years, the count of months of 30 days. No program in sight. -/
import Derived.Test.YtiplcndacmicoaaDoorCal
namespace Go.Proofs.YtiplcndacmicoaaDoor
/-- how many of the first k days lie in leap years -/
noncomputable def lpC : Nat → Int
  | 0 => 0
  | k + 1 => lpC k + lpI (dY (k : Int))
/-- .. of the days before day n -/
noncomputable def lpd (n : Int) : Int := lpC n.toNat
theorem lpd_succ {n : Int} (h : 0 ≤ n) : lpd (n + 1) = lpd n + lpI (dY n) := by
  unfold lpd
  have e : (n + 1).toNat = n.toNat + 1 := by omega
  rw [e, lpC]
  have : ((n.toNat : Nat) : Int) = n := by omega
  rw [this]
theorem lpC_step (k j : Nat) : lpC k ≤ lpC (k + j) ∧ lpC (k + j) ≤ lpC k + j := by
  induction j with
  | zero => simp
  | succ j ih =>
    have := lpI_bd (dY ((k + j : Nat) : Int))
    have e : lpC (k + (j + 1)) = lpC (k + j) + lpI (dY ((k + j : Nat) : Int)) := rfl
    rw [e]
    omega
theorem lpd_bd {a b : Int} (h : 0 ≤ a) (hab : a ≤ b) : 0 ≤ lpd b - lpd a ∧ lpd b - lpd a ≤ b - a := by
  unfold lpd
  obtain ⟨j, hj⟩ : ∃ j : Nat, b.toNat = a.toNat + j := ⟨b.toNat - a.toNat, by omega⟩
  have := lpC_step a.toNat j
  rw [hj]
  omega
theorem lpC_year (Y : Int) (k j : Nat) (h : ∀ i : Nat, k ≤ i → i < k + j → dY (i : Int) = Y) : lpC (k + j) = lpC k + j * lpI Y := by
  induction j with
  | zero => simp
  | succ j ih =>
    have e : lpC (k + (j + 1)) = lpC (k + j) + lpI (dY ((k + j : Nat) : Int)) := rfl
    rw [e, ih (fun i a b => h i a (by omega)), h (k + j) (by omega) (by omega)]
    have : ((j + 1 : Nat) : Int) * lpI Y = (j : Int) * lpI Y + lpI Y := by rw [Int.natCast_add, Int.add_mul]; simp
    rw [this]
    omega
theorem lpd_year {Y a b : Int} (h0 : 0 ≤ a) (hab : a ≤ b) (h : ∀ i : Int, a ≤ i → i < b → dY i = Y) : lpd b = lpd a + (b - a) * lpI Y := by
  unfold lpd
  obtain ⟨j, hj⟩ : ∃ j : Nat, b.toNat = a.toNat + j := ⟨b.toNat - a.toNat, by omega⟩
  rw [hj, lpC_year Y a.toNat j (fun i h1 h2 => h i (by omega) (by omega))]
  have : (j : Int) = b - a := by omega
  rw [this]
/-- the year of a day by the years' first days -/
theorem dY_of {n Y : Int} (h : 0 ≤ n ∧ n ≤ 36524) (hY : 1990 ≤ Y) (hY' : Y ≤ 2089) (h1 : dby Y ≤ n) (h2 : n < dby Y + ydays Y) : dY n = Y := by
  obtain ⟨hd, hn⟩ := date_ok h
  obtain ⟨⟨a1, a2⟩, ⟨a3, a4⟩, ⟨a5, a6⟩⟩ := hd
  have c := cum_nonneg (dY n) a3 (by omega)
  have c2 := cum_mono (dY n) a3 (show dM n < 13 by omega) (by omega)
  rw [cum_last] at c2
  unfold num at hn
  rcases Int.lt_trichotomy (dY n) Y with hl | hl | hl
  · have := dby_lt a1 hl (by omega)
    omega
  · exact hl
  · have := dby_lt hY hl (by omega)
    omega
theorem dY_bd {n : Int} (h : 0 ≤ n ∧ n ≤ 36524) : (1990 ≤ dY n ∧ dY n ≤ 2089) ∧ dby (dY n) ≤ n ∧ n < dby (dY n) + ydays (dY n) := by
  obtain ⟨hd, hn⟩ := date_ok h
  obtain ⟨⟨a1, a2⟩, ⟨a3, a4⟩, ⟨a5, a6⟩⟩ := hd
  have c := cum_nonneg (dY n) a3 (by omega)
  have c2 := cum_mono (dY n) a3 (show dM n < 13 by omega) (by omega)
  rw [cum_last] at c2
  unfold num at hn
  omega
theorem num_last (y : Int) : num y 12 31 + 1 = dby y + ydays y := by
  have := cum_succ y (m := 12) (by omega) (by omega)
  rw [show (12 : Int) + 1 = 13 from rfl, cum_last] at this
  have e : dim y 12 = 31 := by unfold dim md; simp
  unfold num
  omega
/-- days by months of 30 days -/
def thD (y m d y' m' d' : Int) : Int := 360 * (y' - y) + 30 * (m' - m) + (if 30 ≤ d then (if 30 < d' then 30 else d') else d') - (if 30 < d then 30 else d)
noncomputable def thN (a b : Int) : Int := thD (dY a) (dM a) (dD a) (dY b) (dM b) (dD b)
/-- the numerator and the denominator of a part of a year, not yet in lowest terms -/
noncomputable def ypN (k a b : Int) : Int := if k = 2 then thN a b else if k = 3 then 365 * (lpd b - lpd a) + 366 * ((b - a) - (lpd b - lpd a)) else b - a
def ypD (k : Int) : Int := if k = 2 then 360 else if k = 3 then 133590 else if k = 1 then 360 else 365
theorem ypD_bd (k : Int) : 1 ≤ ypD k ∧ ypD k ≤ 133590 := by unfold ypD; (repeat' split) <;> omega
def vpart (k a b : Int) : Bool := inR k 0 3 && (inR a 0 36524 && inR b a (if a + 4000 < 36524 then a + 4000 else 36524))
theorem vpart_iff {k a b : Int} : vpart k a b = true ↔ (0 ≤ k ∧ k ≤ 3) ∧ 0 ≤ a ∧ a ≤ b ∧ b ≤ 36524 ∧ b ≤ a + 4000 := by
  unfold vpart
  rw [Bool.and_eq_true, Bool.and_eq_true, inR_true, inR_true, inR_true]
  constructor
  · rintro ⟨h1, h2, h3⟩
    split at h3 <;> omega
  · rintro ⟨h1, h2, h3, h4, h5⟩
    refine ⟨h1, by omega, ?_⟩
    split <;> omega
theorem dt_day {y m d : Int} (h : Dt y m d) : d ≤ 31 := by
  have := @dim_bd y m
  obtain ⟨_, _, h1, h2⟩ := h
  omega
end Go.Proofs.YtiplcndacmicoaaDoor
