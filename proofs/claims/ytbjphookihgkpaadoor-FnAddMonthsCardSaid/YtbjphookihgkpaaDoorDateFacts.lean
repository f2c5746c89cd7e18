/- Facts on months and days in plain numbers. -/
import Derived.Test.YtbjphookihgkpaaDoorDate8
namespace Go.Proofs.YtbjphookihgkpaaDoor
theorem addM_in {n k : Int} (h : 0 ≤ addM n k) : (0 ≤ n ∧ n ≤ 36524) ∧ (-600 ≤ k ∧ k ≤ 600) ∧ (0 ≤ amT n k ∧ amT n k < 1200) := by
  unfold addM at h
  by_cases h1 : inR n 0 36524 = true
  · rw [if_pos h1] at h
    by_cases h2 : inR k (-600) 600 = true
    · rw [if_pos h2] at h
      refine ⟨inR_true.1 h1, inR_true.1 h2, ?_⟩
      by_cases h3 : 0 ≤ amT n k ∧ amT n k < 1200
      · exact h3
      · unfold amIn at h; rw [if_neg h3] at h; omega
    · rw [if_neg h2] at h; omega
  · rw [if_neg h1] at h; omega
theorem addM_eq {n k : Int} (hn : 0 ≤ n ∧ n ≤ 36524) (hk : -600 ≤ k ∧ k ≤ 600) (ht : 0 ≤ amT n k ∧ amT n k < 1200) :
    addM n k = num (1990 + amT n k / 12) (amT n k % 12 + 1) (minI (dD n) (dim (1990 + amT n k / 12) (amT n k % 12 + 1))) := by
  unfold addM
  rw [if_pos (inR_yes hn), if_pos (inR_yes hk)]
  unfold amIn
  rw [if_pos ht]
theorem addM_bd (n k : Int) : -1 ≤ addM n k ∧ addM n k ≤ 36524 := by
  by_cases h : 0 ≤ addM n k
  · obtain ⟨h1, h2, h3⟩ := addM_in h
    rw [addM_eq h1 h2 h3]
    have := num_bd (am_dt h1 h3)
    omega
  · unfold addM at *
    by_cases h1 : inR n 0 36524 = true
    · rw [if_pos h1] at *
      by_cases h2 : inR k (-600) 600 = true
      · rw [if_pos h2] at *
        unfold amIn at *
        by_cases h3 : 0 ≤ amT n k ∧ amT n k < 1200
        · rw [if_pos h3] at *
          have := num_bd (am_dt (inR_true.1 h1) h3)
          omega
        · rw [if_neg h3] at *; omega
      · rw [if_neg h2] at *; omega
    · rw [if_neg h1] at *; omega
/-- the date of the day that is k months later -/
theorem addM_date {n k : Int} (h : 0 ≤ addM n k) : dY (addM n k) = 1990 + amT n k / 12 ∧ dM (addM n k) = amT n k % 12 + 1 ∧ dD (addM n k) = minI (dD n) (dim (1990 + amT n k / 12) (amT n k % 12 + 1)) := by
  obtain ⟨h1, h2, h3⟩ := addM_in h
  rw [addM_eq h1 h2 h3]
  exact date_eq (am_dt h1 h3)
theorem minI_le (a b : Int) : minI a b ≤ a ∧ minI a b ≤ b ∧ (minI a b = a ∨ minI a b = b) := by
  unfold minI; split <;> omega
theorem amT_def (n k : Int) : amT n k = 12 * (dY n - 1990) + dM n - 1 + k := rfl
theorem addM_back {n k : Int} (h : 0 ≤ addM n k) : n - 3 ≤ addM (addM n k) (-k) ∧ addM (addM n k) (-k) ≤ n := by
  obtain ⟨h1, h2, h3⟩ := addM_in h
  obtain ⟨e1, e2, e3⟩ := addM_date h
  obtain ⟨hd, hn⟩ := date_ok h1
  obtain ⟨⟨a1, a2⟩, ⟨a3, a4⟩, ⟨a5, a6⟩⟩ := hd
  have hb := addM_bd n k
  have ht : amT (addM n k) (-k) = 12 * (dY n - 1990) + dM n - 1 := by
    rw [amT_def (addM n k), e1, e2]
    have := amT_def n k
    omega
  have ht' : 0 ≤ amT (addM n k) (-k) ∧ amT (addM n k) (-k) < 1200 := by rw [ht]; omega
  rw [addM_eq ⟨h, hb.2⟩ (by omega) ht', ht, e3]
  have y1 : 1990 + (12 * (dY n - 1990) + dM n - 1) / 12 = dY n := by omega
  have m1 : (12 * (dY n - 1990) + dM n - 1) % 12 + 1 = dM n := by omega
  rw [y1, m1]
  have q1 := minI_le (dD n) (dim (1990 + amT n k / 12) (amT n k % 12 + 1))
  have q2 := minI_le (minI (dD n) (dim (1990 + amT n k / 12) (amT n k % 12 + 1))) (dim (dY n) (dM n))
  have b1 := @dim_bd (1990 + amT n k / 12) (amT n k % 12 + 1)
  have b2 := @dim_bd (dY n) (dM n)
  unfold num at *
  omega
theorem addM_zero {n : Int} (h1 : 0 ≤ n ∧ n ≤ 36524) : addM n 0 = n := by
  obtain ⟨hd, hn⟩ := date_ok h1
  obtain ⟨⟨a1, a2⟩, ⟨a3, a4⟩, ⟨a5, a6⟩⟩ := hd
  have ht := amT_def n 0
  rw [addM_eq h1 (by omega) (by omega)]
  have y1 : 1990 + amT n 0 / 12 = dY n := by omega
  have m1 : amT n 0 % 12 + 1 = dM n := by omega
  rw [y1, m1]
  unfold minI
  rw [if_pos a6]
  exact hn
/-- the date of the next day -/
theorem next_date {n : Int} (h1 : 0 ≤ n) (h2 : n + 1 ≤ 36524) :
    (dY (n + 1) = dY n ∧ dM (n + 1) = dM n ∧ dD (n + 1) = dD n + 1) ∨
    (dD n = dim (dY n) (dM n) ∧ dY (n + 1) = dY n ∧ dM (n + 1) = dM n + 1 ∧ dD (n + 1) = 1 ∧ dM n < 12) ∨
    (dD n = dim (dY n) (dM n) ∧ dM n = 12 ∧ dY (n + 1) = dY n + 1 ∧ dM (n + 1) = 1 ∧ dD (n + 1) = 1) := by
  obtain ⟨hd, hn⟩ := date_ok (n := n) (by omega)
  have hd' := hd
  obtain ⟨⟨a1, a2⟩, ⟨a3, a4⟩, ⟨a5, a6⟩⟩ := hd'
  by_cases c : dD n < dim (dY n) (dM n)
  · have D : Dt (dY n) (dM n) (dD n + 1) := ⟨⟨a1, a2⟩, ⟨a3, a4⟩, by omega, by omega⟩
    have e : num (dY n) (dM n) (dD n + 1) = n + 1 := by unfold num at *; omega
    have q := date_eq D
    rw [e] at q
    exact .inl q
  · have c' : dD n = dim (dY n) (dM n) := by omega
    by_cases c2 : dM n < 12
    · have b2 := @dim_bd (dY n) (dM n + 1)
      have D : Dt (dY n) (dM n + 1) 1 := ⟨⟨a1, a2⟩, ⟨by omega, by omega⟩, by omega, by omega⟩
      have e : num (dY n) (dM n + 1) 1 = n + 1 := by
        unfold num at *
        rw [cum_succ _ a3 a4]
        omega
      have q := date_eq D
      rw [e] at q
      exact .inr (.inl ⟨c', q.1, q.2.1, q.2.2, c2⟩)
    · have c3 : dM n = 12 := by omega
      have e0 := dby_succ a1 a2
      have e1 := cum_succ (dY n) a3 a4
      rw [c3] at e1
      have e2 : cum (dY n) (12 + 1) = ydays (dY n) := cum_last _
      have hy : dY n + 1 ≤ 2089 := by
        by_cases q : dY n = 2089
        · exfalso
          have := dby_last
          rw [q] at e0 e1 e2 hn c'
          unfold num at hn
          rw [c3] at hn c'
          rw [show (2089 : Int) + 1 = 2090 by decide] at e0
          omega
        · omega
      have b2 := @dim_bd (dY n + 1) 1
      have D : Dt (dY n + 1) 1 1 := ⟨⟨by omega, by omega⟩, ⟨by omega, by omega⟩, by omega, by omega⟩
      have e : num (dY n + 1) 1 1 = n + 1 := by
        unfold num at *
        rw [cum_first, e0]
        rw [c3] at hn c'
        omega
      have q := date_eq D
      rw [e] at q
      exact .inr (.inr ⟨c', c3, q.1, q.2.1, q.2.2⟩)
theorem addM_order {n k : Int} (h : 0 ≤ addM n k) (hn : n < 36524) (h' : 0 ≤ addM (n + 1) k) : addM n k ≤ addM (n + 1) k ∧ addM (n + 1) k ≤ addM n k + 4 := by
  obtain ⟨h1, h2, h3⟩ := addM_in h
  obtain ⟨h1', _, h3'⟩ := addM_in h'
  rw [addM_eq h1 h2 h3, addM_eq h1' h2 h3']
  have t1 := amT_def n k
  have t2 := amT_def (n + 1) k
  have q1 := minI_le (dD n) (dim (1990 + amT n k / 12) (amT n k % 12 + 1))
  have q2 := minI_le (dD (n + 1)) (dim (1990 + amT (n + 1) k / 12) (amT (n + 1) k % 12 + 1))
  have b1 := @dim_bd (1990 + amT n k / 12) (amT n k % 12 + 1)
  have b2 := @dim_bd (1990 + amT (n + 1) k / 12) (amT (n + 1) k % 12 + 1)
  have b3 := @dim_bd (dY n) (dM n)
  have D := am_dt (k := k) h1 h3
  have step : ∀ Y M : Int, 1990 ≤ Y → Y ≤ 2089 → 1 ≤ M → M ≤ 12 → num (1990 + (12 * (Y - 1990) + M) / 12) ((12 * (Y - 1990) + M) % 12 + 1) 1 = num Y M (dim Y M) + 1 := by
    intro Y M y1 y2 m1 m2
    by_cases c : M < 12
    · rw [show 1990 + (12 * (Y - 1990) + M) / 12 = Y by omega, show (12 * (Y - 1990) + M) % 12 + 1 = M + 1 by omega]
      unfold num
      rw [cum_succ Y m1 m2]
      omega
    · obtain rfl : M = 12 := by omega
      rw [show 1990 + (12 * (Y - 1990) + 12) / 12 = Y + 1 by omega, show (12 * (Y - 1990) + 12) % 12 + 1 = 1 by omega]
      have e0 := dby_succ y1 y2
      have e1 := cum_succ Y (m := 12) (by omega) (by omega)
      have e2 : cum Y (12 + 1) = ydays Y := cum_last _
      unfold num
      rw [cum_first, e0]
      omega
  rcases next_date h1.1 (by omega) with ⟨e1, e2, e3⟩ | ⟨c, e1, e2, e3, c2⟩ | ⟨c, c2, e1, e2, e3⟩
  · have : amT (n + 1) k = amT n k := by omega
    rw [this] at *
    rw [e3] at q2 ⊢
    unfold num minI at *
    split <;> split <;> omega
  · have tt : amT (n + 1) k = 12 * ((1990 + amT n k / 12) - 1990) + (amT n k % 12 + 1) := by omega
    have s := step (1990 + amT n k / 12) (amT n k % 12 + 1) (by omega) (by omega) (by omega) (by omega)
    rw [← tt] at s
    have m1 : minI (dD (n + 1)) (dim (1990 + amT (n + 1) k / 12) (amT (n + 1) k % 12 + 1)) = 1 := by
      unfold minI; rw [e3, if_pos (by omega)]
    rw [m1, s]
    unfold num
    omega
  · have tt : amT (n + 1) k = 12 * ((1990 + amT n k / 12) - 1990) + (amT n k % 12 + 1) := by omega
    have s := step (1990 + amT n k / 12) (amT n k % 12 + 1) (by omega) (by omega) (by omega) (by omega)
    rw [← tt] at s
    have m1 : minI (dD (n + 1)) (dim (1990 + amT (n + 1) k / 12) (amT (n + 1) k % 12 + 1)) = 1 := by
      unfold minI; rw [e3, if_pos (by omega)]
    rw [m1, s]
    unfold num
    omega
theorem dayF_bd (y m d : Int) : -1 ≤ dayF y m d ∧ dayF y m d ≤ 36524 := by
  unfold dayF
  split
  · rename_i h
    have := num_bd (dtB_iff.1 h)
    omega
  · omega
theorem dayF_yes {y m d : Int} (h : Dt y m d) : dayF y m d = num y m d := by
  unfold dayF; rw [if_pos (dtB_iff.2 h)]
theorem dayF_no {y m d : Int} (h : ¬ Dt y m d) : dayF y m d = -1 := by
  unfold dayF; rw [if_neg (fun k => h (dtB_iff.1 k))]
theorem addM_year {n : Int} (h1 : 0 ≤ n ∧ n ≤ 36524) : addM n 12 = if dayF (dY n + 1) (dM n) (dD n) < 0 then dayF (dY n + 1) (dM n) 28 else dayF (dY n + 1) (dM n) (dD n) := by
  obtain ⟨hd, hn⟩ := date_ok h1
  have hd' := hd
  obtain ⟨⟨a1, a2⟩, ⟨a3, a4⟩, ⟨a5, a6⟩⟩ := hd'
  have t := amT_def n 12
  have b := @dim_bd (dY n + 1) (dM n)
  by_cases c : dY n = 2089
  · have n1 : ¬ Dt (dY n + 1) (dM n) (dD n) := by rintro ⟨⟨_, q⟩, _⟩; omega
    have n2 : ¬ Dt (dY n + 1) (dM n) 28 := by rintro ⟨⟨_, q⟩, _⟩; omega
    rw [dayF_no n1, dayF_no n2, if_pos (by omega)]
    unfold addM
    rw [if_pos (inR_yes h1), if_pos (by decide)]
    unfold amIn
    rw [if_neg (by omega)]
  · rw [addM_eq h1 (by omega) (by omega)]
    rw [show 1990 + amT n 12 / 12 = dY n + 1 by omega, show amT n 12 % 12 + 1 = dM n by omega]
    by_cases v : dD n ≤ dim (dY n + 1) (dM n)
    · have D : Dt (dY n + 1) (dM n) (dD n) := ⟨⟨by omega, by omega⟩, ⟨a3, a4⟩, ⟨a5, v⟩⟩
      have := num_bd D
      rw [dayF_yes D, if_neg (by omega)]
      unfold minI
      rw [if_pos v]
    · have n1 : ¬ Dt (dY n + 1) (dM n) (dD n) := by rintro ⟨_, _, _, q⟩; omega
      have D : Dt (dY n + 1) (dM n) 28 := ⟨⟨by omega, by omega⟩, ⟨a3, a4⟩, by omega, by omega⟩
      rw [dayF_no n1, if_pos (by omega), dayF_yes D]
      unfold minI
      rw [if_neg v]
      congr 1
      have l1 := lpI_bd (dY n + 1)
      have l2 := lpI_bd (dY n)
      have l3 := lp_iff a1 (show dY n ≤ 2090 by omega)
      have l4 := lp_iff (show 1990 ≤ dY n + 1 by omega) (show dY n + 1 ≤ 2090 by omega)
      unfold dim at *
      by_cases m2 : dM n = 2
      · rw [if_pos m2] at *
        by_cases q1 : dY n % 4 = 0
        · rw [if_neg (by omega)] at l4; omega
        · rw [if_neg q1] at l3; omega
      · rw [if_neg m2] at *
        omega
end Go.Proofs.YtbjphookihgkpaaDoor
