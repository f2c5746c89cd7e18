/- Notes: matching in plain Lean. -/
import Derived.Test.YtdifhjjkgcipaaaPlain
namespace Go.Proofs.Ytdifhjjkgcipaaa
abbrev Nt := Int × Int × Int
def okN (x : Nt) : Bool := inR x.1 0 36524 && inR x.2.1 1 9999 && inR x.2.2 1 50000
theorem okN_iff {x : Nt} : okN x = true ↔ (0 ≤ x.1 ∧ x.1 ≤ 36524) ∧ (1 ≤ x.2.1 ∧ x.2.1 ≤ 9999) ∧ (1 ≤ x.2.2 ∧ x.2.2 ≤ 50000) := by
  unfold okN; rw [Bool.and_eq_true, Bool.and_eq_true, inR_true, inR_true, inR_true, and_assoc]
def ntB (A : Nat → Nt) (L : Nat) : Bool := (List.range L).all (fun j => okN (A j)) && decide (L ≤ 10)
theorem ntB_iff {A : Nat → Nt} {L : Nat} : ntB A L = true ↔ (∀ j, j < L → okN (A j) = true) ∧ L ≤ 10 := by
  unfold ntB; rw [Bool.and_eq_true, List.all_eq_true, decide_eq_true_eq]
  simp only [List.mem_range]
theorem ntB_no {A : Nat → Nt} {L j : Nat} (h : j < L) (h' : okN (A j) = false) : ntB A L = false := by
  cases hn : ntB A L
  · rfl
  · have := (ntB_iff.1 hn).1 j h; rw [h'] at this; cases this
theorem ntB_big {A : Nat → Nt} {L : Nat} (h : 10 < L) : ntB A L = false := by
  cases hn : ntB A L
  · rfl
  · have := (ntB_iff.1 hn).2; omega
def mtB (A : Nat → Nt) (LA : Nat) (B : Nat → Nt) (LB : Nat) (t : Int) : Bool := ntB A LA && (ntB B LB && inR t 0 50000)
theorem mtB_iff {A B : Nat → Nt} {LA LB : Nat} {t : Int} : mtB A LA B LB t = true ↔ ntB A LA = true ∧ ntB B LB = true ∧ 0 ≤ t ∧ t ≤ 50000 := by
  unfold mtB; rw [Bool.and_eq_true, Bool.and_eq_true, inR_true]
/-- the distance of two notes' prices -/
def dN (x y : Nt) : Int := absI (x.2.2 - y.2.2)
theorem dN_nn (x y : Nt) : 0 ≤ dN x y := by unfold dN absI; split <;> omega
def kyB (x y : Nt) : Bool := (x.1 == y.1) && (x.2.1 == y.2.1)
theorem kyB_iff {x y : Nt} : kyB x y = true ↔ x.1 = y.1 ∧ x.2.1 = y.2.1 := by unfold kyB; rw [Bool.and_eq_true, beq_iff_eq, beq_iff_eq]
def smB (x y : Nt) (t : Int) : Bool := kyB x y && decide (dN x y ≤ t)
theorem smB_iff {x y : Nt} {t : Int} : smB x y t = true ↔ (x.1 = y.1 ∧ x.2.1 = y.2.1) ∧ dN x y ≤ t := by unfold smB; rw [Bool.and_eq_true, kyB_iff, decide_eq_true_eq]
def bet (x : Nt) (B : Nat → Nt) (at_ : Int) (n : Nat) : Bool := decide (at_ < 0) || decide (dN x (B n) < dN x (B at_.toNat))
/-- the note of B that x is matched with, as far as n -/
def pk (x : Nt) (B : Nat → Nt) (t : Int) (out : List Int) : Nat → Int
  | 0 => -1
  | n + 1 => if (smB x (B n) t && (!(decide ((n : Int) ∈ out)) && bet x B (pk x B t out n) n)) = true then (n : Int) else pk x B t out n
theorem pk_bd (x : Nt) (B : Nat → Nt) (t : Int) (out : List Int) : ∀ n, -1 ≤ pk x B t out n ∧ pk x B t out n < n
  | 0 => by simp [pk]
  | n + 1 => by
    have := pk_bd x B t out n
    unfold pk
    split <;> omega
theorem pk_ok {x : Nt} {B : Nat → Nt} {t : Int} {out : List Int} : ∀ {n : Nat}, 0 ≤ pk x B t out n → smB x (B (pk x B t out n).toNat) t = true ∧ pk x B t out n ∉ out
  | 0, h => by simp [pk] at h
  | n + 1, h => by
    unfold pk at h ⊢
    split
    · rename_i c
      rw [Bool.and_eq_true, Bool.and_eq_true, Bool.not_eq_true', decide_eq_false_iff_not] at c
      exact ⟨by simpa using c.1, c.2.1⟩
    · rename_i c
      rw [if_neg c] at h
      exact pk_ok h
theorem pk_none {x : Nt} {B : Nat → Nt} {t : Int} {out : List Int} : ∀ {n : Nat}, pk x B t out n < 0 → ∀ k, k < n → smB x (B k) t = true → (k : Int) ∈ out
  | 0, _, k, hk, _ => by omega
  | n + 1, h, k, hk, hs => by
    unfold pk at h
    split at h
    · omega
    · rename_i c
      by_cases e : k = n
      · subst e
        apply Classical.byContradiction
        intro hn
        apply c
        rw [hs]
        simp [hn, bet, h]
      · exact pk_none h k (by omega) hs
def prL (A B : Nat → Nt) (LB : Nat) (t : Int) : Nat → List Int
  | 0 => []
  | i + 1 => prL A B LB t i ++ [pk (A i) B t (prL A B LB t i) LB]
theorem prL_len (A B : Nat → Nt) (LB : Nat) (t : Int) : ∀ i, (prL A B LB t i).length = i
  | 0 => rfl
  | i + 1 => by rw [prL, List.length_append, prL_len A B LB t i]; rfl
theorem prL_at {A B : Nat → Nt} {LB : Nat} {t : Int} : ∀ {i j : Nat}, j < i → (prL A B LB t i)[j]? = some (pk (A j) B t (prL A B LB t j) LB)
  | 0, j, h => by omega
  | i + 1, j, h => by
    have l := prL_len A B LB t i
    by_cases e : j = i
    · subst e
      rw [prL, List.getElem?_append_right (by omega), l, Nat.sub_self]; rfl
    · rw [prL, List.getElem?_append_left (by omega)]
      exact prL_at (by omega)
theorem prL_take {A B : Nat → Nt} {LB : Nat} {t : Int} : ∀ {i j : Nat}, j ≤ i → (prL A B LB t i).take j = prL A B LB t j
  | 0, j, h => by obtain rfl : j = 0 := by omega
                  rfl
  | i + 1, j, h => by
    have l := prL_len A B LB t i
    by_cases e : j = i + 1
    · subst e
      rw [List.take_of_length_le (by rw [prL_len]; omega)]
    · rw [prL, List.take_append_of_le_length (by omega)]
      exact prL_take (by omega)
theorem prL_bd {A B : Nat → Nt} {LB : Nat} {t : Int} : ∀ {i : Nat}, ∀ z ∈ prL A B LB t i, -1 ≤ z ∧ z < LB
  | 0, z, h => by simp [prL] at h
  | i + 1, z, h => by
    rw [prL, List.mem_append] at h
    rcases h with h | h
    · exact prL_bd z h
    · simp at h; subst h; exact pk_bd _ _ _ _ _
/-- the notes of B with x's key -/
def cds (x : Nt) (B : Nat → Nt) : Nat → List Int
  | 0 => []
  | n + 1 => if kyB x (B n) = true then cds x B n ++ [(n : Int)] else cds x B n
theorem cds_bd {x : Nt} {B : Nat → Nt} : ∀ {n : Nat}, ∀ z ∈ cds x B n, 0 ≤ z ∧ z < n
  | 0, z, h => by simp [cds] at h
  | n + 1, z, h => by
    unfold cds at h
    split at h
    · rw [List.mem_append] at h
      rcases h with h | h
      · have := cds_bd z h; omega
      · simp at h; omega
    · have := cds_bd z h; omega
theorem cds_len (x : Nt) (B : Nat → Nt) : ∀ n, (cds x B n).length ≤ n
  | 0 => Nat.le_refl _
  | n + 1 => by
    have := cds_len x B n
    unfold cds
    split
    · rw [List.length_append]; simp; omega
    · omega
def stI (x : Nt) (B : Nat → Nt) (out : List Int) (s : Int × Int) (k : Int) : Int × Int := if (!(decide (k ∈ out)) && decide (dN x (B k.toNat) < s.2)) = true then (k, dN x (B k.toNat)) else s
theorem fold_pk (x : Nt) (B : Nat → Nt) (t : Int) (out : List Int) : ∀ n, (cds x B n).foldl (stI x B out) (-1, t + 1) = (pk x B t out n, if pk x B t out n < 0 then t + 1 else dN x (B (pk x B t out n).toNat))
  | 0 => by simp [cds, pk]
  | n + 1 => by
    have ih := fold_pk x B t out n
    have hb := pk_bd x B t out n
    have ho := @pk_ok x B t out n
    unfold cds pk
    by_cases hk : kyB x (B n) = true
    · rw [if_pos hk, List.foldl_append, ih]
      have hs : smB x (B n) t = decide (dN x (B n) ≤ t) := by unfold smB; rw [hk, Bool.true_and]
      rw [hs]
      simp only [List.foldl_cons, List.foldl_nil, stI, Int.toNat_natCast]
      by_cases hm : (n : Int) ∈ out
      · simp [hm]
      · by_cases hp : pk x B t out n < 0
        · simp only [hm, hp, bet, if_true, decide_false, decide_true, Bool.not_false, Bool.true_and, Bool.true_or, Bool.and_true, decide_eq_true_eq]
          by_cases c : dN x (B n) ≤ t
          · rw [if_pos (by omega), if_pos c, if_neg (by omega)]; rfl
          · rw [if_neg (by omega), if_neg c, if_pos hp]
        · have hle := (smB_iff.1 (ho (by omega)).1).2
          simp only [hm, hp, bet, if_false, decide_false, Bool.not_false, Bool.true_and, Bool.false_or, Bool.and_eq_true, decide_eq_true_eq]
          by_cases c : dN x (B n) < dN x (B (pk x B t out n).toNat)
          · rw [if_pos c, if_pos ⟨by omega, c⟩, if_neg (by omega)]; rfl
          · rw [if_neg c, if_neg (fun h => c h.2), if_neg hp]
    · have hs : smB x (B n) t = false := by unfold smB; simp at hk; rw [hk]; rfl
      rw [if_neg hk, ih, hs]
      simp
theorem fold_bd {x : Nt} {B : Nat → Nt} {out : List Int} {m : Int} : ∀ (l : List Int) (s : Int × Int), (∀ z ∈ l, 0 ≤ z ∧ z < m) → (-1 ≤ s.1 ∧ s.1 < m) → -1 ≤ (l.foldl (stI x B out) s).1 ∧ (l.foldl (stI x B out) s).1 < m
  | [], s, _, h => h
  | z :: l, s, hl, h => by
    rw [List.foldl_cons]
    refine fold_bd l _ (fun y hy => hl y (List.mem_cons_of_mem _ hy)) ?_
    unfold stI
    have := hl z (by simp)
    split
    · simp; omega
    · exact h
/-- the notes of B that are not in a list -/
def opL (B : Nat → Nt) (out : List Int) : Nat → List Nt
  | 0 => []
  | n + 1 => if (n : Int) ∈ out then opL B out n else opL B out n ++ [B n]
theorem opL_len (B : Nat → Nt) (out : List Int) : ∀ n, (opL B out n).length ≤ n
  | 0 => Nat.le_refl _
  | n + 1 => by
    have := opL_len B out n
    unfold opL
    split
    · omega
    · rw [List.length_append]; simp; omega
theorem opL_mem {B : Nat → Nt} {out : List Int} : ∀ {n : Nat}, ∀ y ∈ opL B out n, ∃ k, k < n ∧ (k : Int) ∉ out ∧ y = B k
  | 0, y, h => by simp [opL] at h
  | n + 1, y, h => by
    unfold opL at h
    split at h
    · obtain ⟨k, h1, h2⟩ := opL_mem y h; exact ⟨k, by omega, h2⟩
    · rename_i c
      rw [List.mem_append] at h
      rcases h with h | h
      · obtain ⟨k, h1, h2⟩ := opL_mem y h; exact ⟨k, by omega, h2⟩
      · simp at h; exact ⟨n, by omega, c, h⟩
/-- a list of notes, as a row -/
def rowN (l : List Nt) (j : Nat) : Nt := l.getD j (0, 0, 0)
/-- what MatchNotes returns -/
def mtL (A : Nat → Nt) (LA : Nat) (B : Nat → Nt) (LB : Nat) (t : Int) : List Int := if mtB A LA B LB t = true then prL A B LB t LA else []
theorem mtL_no {A B : Nat → Nt} {LA LB : Nat} {t : Int} (h : mtB A LA B LB t = false) : mtL A LA B LB t = [] := if_neg (by rw [h]; simp)
theorem mtL_yes {A B : Nat → Nt} {LA LB : Nat} {t : Int} (h : mtB A LA B LB t = true) : mtL A LA B LB t = prL A B LB t LA := if_pos h
theorem mtL_len {A B : Nat → Nt} {LA LB : Nat} {t : Int} : (mtL A LA B LB t).length ≤ 10 := by
  unfold mtL; split
  · rename_i h; rw [prL_len]; exact (ntB_iff.1 (mtB_iff.1 h).1).2
  · simp
/-- what OpenNotes returns -/
def onL (A : Nat → Nt) (LA : Nat) (B : Nat → Nt) (LB : Nat) (t : Int) : List Nt := if mtB A LA B LB t = true then opL B (prL A B LB t LA) LB else []
theorem onL_no {A B : Nat → Nt} {LA LB : Nat} {t : Int} (h : mtB A LA B LB t = false) : onL A LA B LB t = [] := if_neg (by rw [h]; simp)
theorem onL_yes {A B : Nat → Nt} {LA LB : Nat} {t : Int} (h : mtB A LA B LB t = true) : onL A LA B LB t = opL B (prL A B LB t LA) LB := if_pos h
theorem onL_len {A B : Nat → Nt} {LA LB : Nat} {t : Int} : (onL A LA B LB t).length ≤ 10 := by
  unfold onL; split
  · rename_i h; have := opL_len B (prL A B LB t LA) LB; have := (ntB_iff.1 (mtB_iff.1 h).2.1).2; omega
  · simp
theorem mtB_a {A B : Nat → Nt} {LA LB : Nat} {t : Int} (h : ntB A LA = false) : mtB A LA B LB t = false := by unfold mtB; rw [h]; rfl
theorem mtB_b {A B : Nat → Nt} {LA LB : Nat} {t : Int} (h : ntB B LB = false) : mtB A LA B LB t = false := by unfold mtB; rw [h]; simp
theorem mtB_c {A B : Nat → Nt} {LA LB : Nat} {t : Int} (h : inR t 0 50000 = false) : mtB A LA B LB t = false := by unfold mtB; rw [h]; simp
theorem mtB_y {A B : Nat → Nt} {LA LB : Nat} {t : Int} (h1 : ntB A LA = true) (h2 : ntB B LB = true) (h : inR t 0 50000 = true) : mtB A LA B LB t = true := by unfold mtB; rw [h1, h2, h]; rfl
end Go.Proofs.Ytdifhjjkgcipaaa
