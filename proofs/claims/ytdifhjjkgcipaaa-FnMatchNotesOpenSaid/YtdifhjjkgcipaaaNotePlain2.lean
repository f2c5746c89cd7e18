/- Notes: the laws in plain Lean. -/
import Derived.Test.YtdifhjjkgcipaaaNotePlain
namespace Go.Proofs.Ytdifhjjkgcipaaa
/-- FnMatchNotes: what is matched agrees, and is not matched before -/
theorem mt_agree {A B : Nat → Nt} {LA LB : Nat} {t : Int} {i : Nat} {k : Int} (hi : i < LA) (hk : (prL A B LB t LA)[i]? = some k) (h0 : 0 ≤ k) :
    k < LB ∧ smB (A i) (B k.toNat) t = true ∧ k ∉ (prL A B LB t LA).take i := by
  rw [prL_at hi] at hk
  have e : pk (A i) B t (prL A B LB t i) LB = k := Option.some.inj hk
  subst e
  rw [prL_take (by omega)]
  exact ⟨(pk_bd _ _ _ _ _).2, (pk_ok h0).1, (pk_ok h0).2⟩
/-- FnMatchNotesOpen: what is open agrees with no note that is not matched -/
theorem mt_open {A B : Nat → Nt} {LA LB : Nat} {t : Int} {i : Nat} {k : Int} (hi : i < LA) (hk : (prL A B LB t LA)[i]? = some k) (h0 : k < 0) {y : Nt} (hy : y ∈ opL B (prL A B LB t LA) LB) :
    smB (A i) y t = false := by
  obtain ⟨j, hj, hn, rfl⟩ := opL_mem y hy
  rw [prL_at hi] at hk
  have e : pk (A i) B t (prL A B LB t i) LB = k := Option.some.inj hk
  cases hs : smB (A i) (B j) t
  · rfl
  · have := pk_none (by rw [e]; exact h0) j hj hs
    rw [← prL_take (A := A) (B := B) (LB := LB) (t := t) (show i ≤ LA by omega)] at this
    exact absurd (List.mem_of_mem_take this) hn
def cnt (l : List Int) : Nat := (l.filter (fun z => decide (0 ≤ z))).length
theorem cnt_snoc_no {l : List Int} {z : Int} (h : ¬ 0 ≤ z) : cnt (l ++ [z]) = cnt l := by unfold cnt; rw [List.filter_append]; simp [h]
theorem cnt_snoc_yes {l : List Int} {z : Int} (h : 0 ≤ z) : cnt (l ++ [z]) = cnt l + 1 := by unfold cnt; rw [List.filter_append]; simp [h]
theorem opL_same {B : Nat → Nt} {out : List Int} {z : Int} : ∀ {n : Nat}, (z < 0 ∨ (n : Int) ≤ z) → opL B (out ++ [z]) n = opL B out n
  | 0, _ => rfl
  | n + 1, h => by
    unfold opL
    rw [opL_same (n := n) (by omega)]
    have e : ((n : Int) ∈ out ++ [z]) ↔ ((n : Int) ∈ out) := by
      rw [List.mem_append, List.mem_singleton]
      exact ⟨fun h' => h'.resolve_right (by omega), Or.inl⟩
    simp only [e]
theorem opL_less {B : Nat → Nt} {out : List Int} {z : Int} (hz : z ∉ out) (h0 : 0 ≤ z) : ∀ {n : Nat}, z < (n : Int) → (opL B (out ++ [z]) n).length + 1 = (opL B out n).length
  | 0, h => by omega
  | n + 1, h => by
    unfold opL
    by_cases e : z = (n : Int)
    · subst e
      rw [if_pos (by simp), if_neg hz, List.length_append, opL_same (Or.inr (Int.le_refl _))]
      rfl
    · have ih := opL_less (B := B) hz h0 (n := n) (by omega)
      have e2 : ((n : Int) ∈ out ++ [z]) ↔ ((n : Int) ∈ out) := by
        rw [List.mem_append, List.mem_singleton]
        exact ⟨fun h' => h'.resolve_right (by omega), Or.inl⟩
      by_cases c : (n : Int) ∈ out
      · rw [if_pos (e2.2 c), if_pos c]; exact ih
      · rw [if_neg (fun h => c (e2.1 h)), if_neg c, List.length_append, List.length_append, ← ih]
        simp only [List.length_singleton]
/-- FnOpenNotes: what is matched and what is open are all -/
theorem mt_all (A B : Nat → Nt) (LB : Nat) (t : Int) : ∀ i, cnt (prL A B LB t i) + (opL B (prL A B LB t i) LB).length = LB
  | 0 => by
    have : ∀ n, (opL B [] n).length = n := by
      intro n
      induction n with
      | zero => rfl
      | succ n ih => unfold opL; rw [if_neg (by simp), List.length_append, ih]; rfl
    rw [prL, this]; simp [cnt]
  | i + 1 => by
    have ih := mt_all A B LB t i
    obtain ⟨h1, h2⟩ := pk_bd (A i) B t (prL A B LB t i) LB
    rw [prL]
    by_cases c : 0 ≤ pk (A i) B t (prL A B LB t i) LB
    · rw [cnt_snoc_yes c]
      have := opL_less (B := B) (pk_ok c).2 c h2
      omega
    · rw [cnt_snoc_no c, opL_same (Or.inl (by omega))]
      exact ih
theorem dN_self (x : Nt) : dN x x = 0 := by unfold dN absI; simp
theorem smB_self (x : Nt) : smB x x 0 = true := smB_iff.2 ⟨⟨rfl, rfl⟩, by rw [dN_self]; exact Int.le_refl _⟩
def upto : Nat → List Int
  | 0 => []
  | i + 1 => upto i ++ [(i : Int)]
theorem upto_mem {k : Int} : ∀ {i : Nat}, k ∈ upto i ↔ 0 ≤ k ∧ k < i
  | 0 => by simp [upto]
  | i + 1 => by rw [upto, List.mem_append, upto_mem (i := i), List.mem_singleton]; omega
theorem pk_self (A : Nat → Nt) (i : Nat) : ∀ n, pk (A i) A 0 (upto i) n = if n ≤ i then -1 else (i : Int)
  | 0 => by simp [pk]
  | n + 1 => by
    have ih := pk_self A i n
    by_cases c : n < i
    · rw [if_pos (by omega)] at ih
      have hc : (smB (A i) (A n) 0 && (!(decide ((n : Int) ∈ upto i)) && bet (A i) A (-1) n)) = false := by
        rw [decide_eq_true (upto_mem.2 ⟨by omega, by omega⟩)]; simp
      rw [pk, ih, hc, if_pos (show n + 1 ≤ i by omega)]; rfl
    · by_cases e : n = i
      · subst e
        rw [if_pos (Nat.le_refl _)] at ih
        have hc : (smB (A n) (A n) 0 && (!(decide ((n : Int) ∈ upto n)) && bet (A n) A (-1) n)) = true := by
          rw [smB_self, decide_eq_false (fun h => by have := upto_mem.1 h; omega)]; simp [bet]
        rw [pk, ih, hc, if_neg (show ¬ n + 1 ≤ n by omega)]; rfl
      · rw [if_neg (by omega)] at ih
        have hb : bet (A i) A (i : Int) n = false := by
          have := dN_nn (A i) (A n)
          unfold bet
          rw [Int.toNat_natCast, dN_self]
          simp; omega
        have hc : (smB (A i) (A n) 0 && (!(decide ((n : Int) ∈ upto i)) && bet (A i) A (i : Int) n)) = false := by rw [hb]; simp
        rw [pk, ih, hc, if_neg (show ¬ n + 1 ≤ i by omega)]; rfl
theorem prL_self (A : Nat → Nt) (L : Nat) : ∀ i, i ≤ L → prL A A L 0 i = upto i
  | 0, _ => rfl
  | i + 1, h => by rw [prL, prL_self A L i (by omega), pk_self, if_neg (by omega)]; rfl
theorem opL_self (B : Nat → Nt) (L : Nat) : ∀ n, n ≤ L → opL B (upto L) n = []
  | 0, _ => rfl
  | n + 1, h => by rw [opL, if_pos (upto_mem.2 ⟨by omega, by omega⟩), opL_self B L n (by omega)]
/-- FnMatchNotesSelf -/
theorem mt_self {A : Nat → Nt} {L : Nat} (h : ntB A L = true) : onL A L A L 0 = [] ∧ (-1 : Int) ∉ mtL A L A L 0 := by
  have hm : mtB A L A L 0 = true := mtB_iff.2 ⟨h, h, by omega, by omega⟩
  rw [onL_yes hm, mtL_yes hm, prL_self A L L (Nat.le_refl _)]
  exact ⟨opL_self A L L (Nat.le_refl _), fun h => by have := upto_mem.1 h; omega⟩
theorem mt_len {A B : Nat → Nt} {LA LB : Nat} {t : Int} (h : mtL A LA B LB t ≠ []) : mtB A LA B LB t = true := by
  cases hm : mtB A LA B LB t
  · exact absurd (mtL_no hm) h
  · rfl
end Go.Proofs.Ytdifhjjkgcipaaa
