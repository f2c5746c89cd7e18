/- The calendar of 1990 to 2089 in plain numbers. No program in sight. -/
import Derived.Test.YtbjphookihgkpaaDoorPlain
namespace Go.Proofs.YtbjphookihgkpaaDoor
/-- a leap year -/
def lp (y : Int) : Bool := y % 4 == 0 && (y % 100 != 0 || y % 400 == 0)
/-- 1 in a leap year -/
def lpI (y : Int) : Int := if lp y = true then 1 else 0
/-- days of a month of a common year -/
def md (m : Int) : Int := if m = 2 then 28 else if m = 4 then 30 else if m = 6 then 30 else if m = 9 then 30 else if m = 11 then 30 else 31
/-- days of a month -/
def dim (y m : Int) : Int := if m = 2 then 28 + lpI y else md m
def ydays (y : Int) : Int := 365 + lpI y
/-- days before a year -/
def dby (y : Int) : Int := 365 * (y - 1990) + (y - 1989) / 4
/-- days of a year before a month -/
def cum (y m : Int) : Int :=
  if m ≤ 1 then 0 else if m = 2 then 31 else lpI y + (if m = 3 then 59 else if m = 4 then 90 else if m = 5 then 120 else if m = 6 then 151 else if m = 7 then 181 else if m = 8 then 212 else if m = 9 then 243 else if m = 10 then 273 else if m = 11 then 304 else if m = 12 then 334 else 365)
def num (y m d : Int) : Int := dby y + cum y m + d - 1
theorem lpI_bd (y : Int) : 0 ≤ lpI y ∧ lpI y ≤ 1 := by unfold lpI; split <;> omega
theorem lp_iff {y : Int} (h1 : 1990 ≤ y) (h2 : y ≤ 2090) : lpI y = if y % 4 = 0 then 1 else 0 := by
  unfold lpI lp
  by_cases h : y % 4 = 0
  · rw [if_pos h]
    have : (y % 4 == 0 && (y % 100 != 0 || y % 400 == 0)) = true := by
      simp [h]; omega
    rw [if_pos this]
  · rw [if_neg h]
    have : ¬ (y % 4 == 0 && (y % 100 != 0 || y % 400 == 0)) = true := by
      simp [h]
    rw [if_neg this]
theorem dby_succ {y : Int} (h1 : 1990 ≤ y) (h2 : y ≤ 2089) : dby (y + 1) = dby y + ydays y := by
  unfold dby ydays
  rw [lp_iff h1 (by omega)]
  split <;> omega
theorem dby_first : dby 1990 = 0 := by decide
theorem dby_last : dby 2090 = 36525 := by decide
theorem ydays_bd (y : Int) : 365 ≤ ydays y ∧ ydays y ≤ 366 := by unfold ydays; have := lpI_bd y; omega
theorem dby_mono {y z : Int} (h : y ≤ z) : dby y ≤ dby z := by unfold dby; omega
theorem dby_lt {y z : Int} (h1 : 1990 ≤ y) (h : y < z) (h2 : z ≤ 2090) : dby y + ydays y ≤ dby z := by
  rw [← dby_succ h1 (by omega)]
  exact dby_mono (by omega)
theorem month_cases {m : Int} (h1 : 1 ≤ m) (h2 : m ≤ 12) : m = 1 ∨ m = 2 ∨ m = 3 ∨ m = 4 ∨ m = 5 ∨ m = 6 ∨ m = 7 ∨ m = 8 ∨ m = 9 ∨ m = 10 ∨ m = 11 ∨ m = 12 := by omega
theorem dim_bd (y : Int) {m : Int} : 28 ≤ dim y m ∧ dim y m ≤ 31 := by
  have := lpI_bd y
  unfold dim md
  repeat (first | omega | split)
theorem cum_first (y : Int) : cum y 1 = 0 := by unfold cum; simp
theorem cum_succ (y : Int) {m : Int} (h1 : 1 ≤ m) (h2 : m ≤ 12) : cum y (m + 1) = cum y m + dim y m := by
  rcases month_cases h1 h2 with rfl | rfl | rfl | rfl | rfl | rfl | rfl | rfl | rfl | rfl | rfl | rfl <;> simp [cum, dim, md] <;> omega
theorem cum_last (y : Int) : cum y 13 = ydays y := by unfold cum ydays; simp; omega
theorem cum_mono (y : Int) {m k : Int} (h1 : 1 ≤ m) (h : m < k) (h2 : k ≤ 13) : cum y m + dim y m ≤ cum y k := by
  have key : ∀ j : Nat, m + 1 + j ≤ 13 → cum y (m + 1) ≤ cum y (m + 1 + j) := by
    intro j
    induction j with
    | zero => intro _; simp
    | succ j ih =>
      intro hj
      have a := ih (by omega)
      have b := cum_succ y (m := m + 1 + j) (by omega) (by omega)
      have c := @dim_bd y (m + 1 + j)
      rw [show m + 1 + ((j + 1 : Nat) : Int) = m + 1 + j + 1 by omega, b]
      omega
  have := key (k - (m + 1)).toNat (by omega)
  rw [show m + 1 + ((k - (m + 1)).toNat : Int) = k by omega] at this
  rw [← cum_succ y h1 (by omega)]
  exact this
/-- a date that there is -/
def Dt (y m d : Int) : Prop := (1990 ≤ y ∧ y ≤ 2089) ∧ (1 ≤ m ∧ m ≤ 12) ∧ (1 ≤ d ∧ d ≤ dim y m)
/-- an earlier date has a smaller number -/
theorem num_lt {y m d y' m' d' : Int} (h : Dt y m d) (h' : Dt y' m' d') (hl : y < y' ∨ y = y' ∧ (m < m' ∨ m = m' ∧ d < d')) : num y m d < num y' m' d' := by
  obtain ⟨⟨a1, a2⟩, ⟨a3, a4⟩, ⟨a5, a6⟩⟩ := h
  obtain ⟨⟨b1, b2⟩, ⟨b3, b4⟩, ⟨b5, b6⟩⟩ := h'
  unfold num
  rcases hl with hl | ⟨rfl, hl | ⟨rfl, hl⟩⟩
  · have e1 := dby_lt a1 hl (by omega)
    have e2 := cum_mono y a3 (show m < 13 by omega) (by omega)
    rw [cum_last] at e2
    have e3 : 0 ≤ cum y' m' := by
      by_cases q : m' = 1
      · subst q; rw [cum_first]; exact Int.le_refl _
      · have := cum_mono y' (m := 1) (by omega) (show 1 < m' by omega) (by omega)
        have := @dim_bd y' 1
        rw [cum_first] at *
        omega
    omega
  · have e2 := cum_mono y a3 hl (by omega)
    omega
  · omega
theorem num_inj {y m d y' m' d' : Int} (h : Dt y m d) (h' : Dt y' m' d') (e : num y m d = num y' m' d') : y = y' ∧ m = m' ∧ d = d' := by
  by_cases c1 : y < y'
  · have := num_lt h h' (.inl c1); omega
  by_cases c2 : y' < y
  · have := num_lt h' h (.inl c2); omega
  have e1 : y = y' := by omega
  subst e1
  by_cases c3 : m < m'
  · have := num_lt h h' (.inr ⟨rfl, .inl c3⟩); omega
  by_cases c4 : m' < m
  · have := num_lt h' h (.inr ⟨rfl, .inl c4⟩); omega
  have e2 : m = m' := by omega
  subst e2
  unfold num at e
  exact ⟨rfl, rfl, by omega⟩
theorem cum_nonneg (y : Int) {m : Int} (h1 : 1 ≤ m) (h2 : m ≤ 13) : 0 ≤ cum y m ∧ cum y m ≤ ydays y := by
  have hb := lpI_bd y
  constructor
  · by_cases q : m = 1
    · subst q; rw [cum_first]; exact Int.le_refl _
    · have := cum_mono y (m := 1) (by omega) (show 1 < m by omega) (by omega)
      have := @dim_bd y 1
      rw [cum_first] at *
      omega
  · by_cases q : m = 13
    · subst q; rw [cum_last]; exact Int.le_refl _
    · have := cum_mono y h1 (show m < 13 by omega) (by omega)
      have := @dim_bd y m
      rw [cum_last] at *
      omega
theorem num_bd {y m d : Int} (h : Dt y m d) : 0 ≤ num y m d ∧ num y m d ≤ 36524 := by
  obtain ⟨⟨a1, a2⟩, ⟨a3, a4⟩, ⟨a5, a6⟩⟩ := h
  unfold num
  have e1 := dby_mono a1
  rw [dby_first] at e1
  have e2 := dby_lt a1 (show y < 2090 by omega) (by omega)
  rw [dby_last] at e2
  have e3 := cum_mono y a3 (show m < 13 by omega) (by omega)
  rw [cum_last] at e3
  have e4 := cum_nonneg y a3 (by omega)
  omega
/-- each day has a date -/
theorem year_exists (n : Int) (h0 : 0 ≤ n) (h1 : n ≤ 36524) : ∃ y, 1990 ≤ y ∧ y ≤ 2089 ∧ dby y ≤ n ∧ n < dby y + ydays y := by
  have key : ∀ j : Nat, (j : Int) ≤ 100 → n < dby (1990 + j) → ∃ y, 1990 ≤ y ∧ y ≤ 2089 ∧ dby y ≤ n ∧ n < dby y + ydays y := by
    intro j
    induction j with
    | zero => intro _ h; simp [dby_first] at h; omega
    | succ j ih =>
      intro hj h
      by_cases c : n < dby (1990 + j)
      · exact ih (by omega) c
      · refine ⟨1990 + j, by omega, by omega, by omega, ?_⟩
        rw [← dby_succ (by omega) (by omega)]
        rw [show (1990 : Int) + ((j + 1 : Nat) : Int) = 1990 + j + 1 by omega] at h
        exact h
  exact key 100 (by omega) (by rw [show (1990 : Int) + ((100 : Nat) : Int) = 2090 by decide, dby_last]; omega)
theorem month_exists (y r : Int) (h0 : 0 ≤ r) (h1 : r < ydays y) : ∃ m, 1 ≤ m ∧ m ≤ 12 ∧ cum y m ≤ r ∧ r < cum y m + dim y m := by
  have key : ∀ j : Nat, (j : Int) ≤ 12 → r < cum y (1 + j) → ∃ m, 1 ≤ m ∧ m ≤ 12 ∧ cum y m ≤ r ∧ r < cum y m + dim y m := by
    intro j
    induction j with
    | zero => intro _ h; simp [cum_first] at h; omega
    | succ j ih =>
      intro hj h
      by_cases c : r < cum y (1 + j)
      · exact ih (by omega) c
      · refine ⟨1 + j, by omega, by omega, by omega, ?_⟩
        rw [← cum_succ y (by omega) (by omega)]
        rw [show (1 : Int) + ((j + 1 : Nat) : Int) = 1 + j + 1 by omega] at h
        exact h
  exact key 12 (by omega) (by rw [show (1 : Int) + ((12 : Nat) : Int) = 13 by decide, cum_last]; omega)
theorem date_exists (n : Int) (h : 0 ≤ n ∧ n ≤ 36524) : ∃ t : Int × Int × Int, Dt t.1 t.2.1 t.2.2 ∧ num t.1 t.2.1 t.2.2 = n := by
  obtain ⟨y, y1, y2, y3, y4⟩ := year_exists n h.1 h.2
  obtain ⟨m, m1, m2, m3, m4⟩ := month_exists y (n - dby y) (by omega) (by omega)
  exact ⟨(y, m, n - dby y - cum y m + 1), ⟨⟨y1, y2⟩, ⟨m1, m2⟩, ⟨by show 1 ≤ n - dby y - cum y m + 1; omega, by show n - dby y - cum y m + 1 ≤ dim y m; omega⟩⟩, by show num y m (n - dby y - cum y m + 1) = n; unfold num; omega⟩
/-- the date of a day -/
noncomputable def dateF (n : Int) : Int × Int × Int := if h : 0 ≤ n ∧ n ≤ 36524 then Classical.choose (date_exists n h) else (0, 0, 0)
noncomputable def dY (n : Int) : Int := (dateF n).1
noncomputable def dM (n : Int) : Int := (dateF n).2.1
noncomputable def dD (n : Int) : Int := (dateF n).2.2
theorem date_ok {n : Int} (h : 0 ≤ n ∧ n ≤ 36524) : Dt (dY n) (dM n) (dD n) ∧ num (dY n) (dM n) (dD n) = n := by
  unfold dY dM dD dateF
  rw [dif_pos h]
  exact Classical.choose_spec (date_exists n h)
theorem date_eq {y m d : Int} (h : Dt y m d) : dY (num y m d) = y ∧ dM (num y m d) = m ∧ dD (num y m d) = d := by
  obtain ⟨a, b⟩ := date_ok (num_bd h)
  exact num_inj a h b
end Go.Proofs.YtbjphookihgkpaaDoor
