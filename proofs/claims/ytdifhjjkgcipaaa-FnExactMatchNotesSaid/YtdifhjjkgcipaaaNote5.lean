/- Notes: the program's maps. -/
import Derived.Test.YtdifhjjkgcipaaaNote4
import Derived.Maps.OwnRows
import Derived.Maps.OwnOps
import Derived.Maps.Views
import Derived.Maps.GroupsBeside
import Derived.DeepKeys4
namespace Go.Proofs.Ytdifhjjkgcipaaa
open Go.RowKit Go.Maps Go.ChangeShapes Go.WideShapes
set_option linter.unusedVariables false
theorem laidK : laidOutB Try.prog = true := by kernel_rfl
theorem lawK : Keyed Try.prog 58 := Keyed.of_law (deep_law_laid laidK (m := 99) (by decide) (of_decide_eq_true (by kernel_rfl)) (by kernel_rfl) (by kernel_rfl))
theorem lawI : Keyed Try.prog 3 := int_keyed Try.underlying3
theorem zeroL (w : World) : (zeroValue 26).run Try.prog w = .ok (.slice none 0 0) w := by kernel_rfl
theorem zeroB (w : World) : (zeroValue 4).run Try.prog w = .ok (.bool false) w := by kernel_rfl
def kyV (x : Nt) : Value := .agg #[.int .i64 x.1, .int .i64 x.2.1]
def kyL (x : Nt) : Lit := .string (keyBytes [.int .i64 x.1, .int .i64 x.2.1])
theorem keyType_ok : Try.prog.keyType 58 = true := by kernel_rfl
theorem key_cells : Try.prog.cellsOf 58 = 2 := by kernel_rfl
theorem int_cells : Try.prog.cellsOf 3 = 1 := by kernel_rfl
theorem types_pos : ∃ m, Try.prog.types.size = m + 1 := by
  have h : 0 < Try.prog.types.size := of_decide_eq_true (by kernel_rfl)
  exact ⟨Try.prog.types.size - 1, by omega⟩
theorem keyOf_note {x : Nt} (wa : (Lit.int .i64 x.1).wf = true) (wb : (Lit.int .i64 x.2.1).wf = true) : keyOf Try.prog 58 (kyV x) = some (kyL x) := by
  obtain ⟨m, hm⟩ := types_pos
  unfold keyOf kyV kyL
  simp only [Try.underlying58]
  rw [if_pos (by simp [keyType_ok, Value.formed, Try.underlying58, key_cells]), hm]
  unfold Program.keyLits
  simp only [Try.underlying58, Value.cells]
  rw [if_pos (by rw [key_cells]; simp)]
  simp [int_cells, Program.keyLits, Try.underlying3, wa, wb]
theorem kyL_key (x : Nt) : WideAt.IsKeyLit (kyL x) := trivial
theorem kyL_eq {x y : Nt} (h : kyB x y = true) : kyL x = kyL y := by
  obtain ⟨a, b⟩ := kyB_iff.1 h
  unfold kyL; rw [a, b]
theorem wfOk {a : Int} (h : -9223372036854775808 ≤ a) (h' : a ≤ 9223372036854775807) : (Lit.int .i64 a).wf = true := WalkArith.wf_i64 ⟨by omega, by omega⟩
theorem wfN {x : Nt} (h : okN x = true) : (Lit.int .i64 x.1).wf = true ∧ (Lit.int .i64 x.2.1).wf = true := by
  obtain ⟨⟨a, b⟩, ⟨c, d⟩, _⟩ := okN_iff.1 h
  exact ⟨wfOk (by omega) (by omega), wfOk (by omega) (by omega)⟩
theorem kyL_ne {x y : Nt} (hx : okN x = true) (hy : okN y = true) (h : kyB x y = false) : kyL x ≠ kyL y := by
  intro e
  have e2 := lawK.inj (keyOf_note (wfN hx).1 (wfN hx).2) (e ▸ keyOf_note (wfN hy).1 (wfN hy).2)
  unfold kyV at e2
  simp at e2
  have : kyB x y = true := kyB_iff.2 e2
  rw [h] at this; cases this
theorem cds_key {x y : Nt} {B : Nat → Nt} (h : kyB x y = true) : ∀ n, cds x B n = cds y B n
  | 0 => rfl
  | n + 1 => by
    have e : kyB x (B n) = kyB y (B n) := by
      obtain ⟨a, b⟩ := kyB_iff.1 h
      unfold kyB; rw [a, b]
    unfold cds
    rw [e, cds_key h n]
theorem kyB_self (x : Nt) : kyB x x = true := kyB_iff.2 ⟨rfl, rfl⟩
/-- the candidates' map behind j purchases -/
def gpD (B : Nat → Nt) : Nat → DataW Unit
  | 0 => .map []
  | j + 1 => (gpD B j).put (kyL (B j)) (.slice (lits .i64 (cds (B j) B (j + 1))) [])
theorem gpD_map (B : Nat → Nt) : ∀ j, IsMap (gpD B j)
  | 0 => isMap_empty
  | j + 1 => (gpD_map B j).put _ _
theorem gpD_at {B : Nat → Nt} {x : Nt} (hx : okN x = true) : ∀ {n : Nat}, (∀ j, j < n → okN (B j) = true) → (gpD B n).atKey (kyL x) .nil = if cds x B n = [] then .nil else .slice (lits .i64 (cds x B n)) []
  | 0, _ => rfl
  | n + 1, h => by
    have ih := gpD_at (n := n) hx (fun j hj => h j (by omega))
    cases hk : kyB x (B n)
    · have e : cds x B (n + 1) = cds x B n := by rw [cds, if_neg (by rw [hk]; simp)]
      rw [gpD, atKey_put_other (kyL_ne hx (h n (by omega)) hk), ih, e]
    · have e : cds x B (n + 1) ≠ [] := by rw [cds, if_pos hk]; simp
      rw [gpD, ← kyL_eq hk, atKey_put_same (gpD_map B n) (kyL_key x), if_neg e, cds_key hk]
theorem lits_inj {a b : List Int} (h : lits (H := Unit) .i64 a = lits .i64 b) : a = b := by
  unfold lits at h
  exact (List.map_inj_right (fun a b hab => by cases hab; rfl)).1 h
theorem cds_of {w : World} {base : Nat} {v : Value} {zs : List Int} {B : Nat → Nt} {x : Nt} {n : Nat} (hx : okN x = true) (hB : ∀ j, j < n → okN (B j) = true) (hat : (gpD B n).atKey (kyL x) .nil = rowDatum .i64 v zs) (hoi : w.ownsInts base 3 .i64 v zs) : zs = cds x B n := by
  rw [gpD_at hx hB] at hat
  rcases hoi.datum (H := Unit) with ⟨h1, h2⟩ | h1
  · rw [h1] at hat
    split at hat
    · rename_i c; rw [h2, c]
    · cases hat
  · rw [h1] at hat
    split at hat
    · cases hat
    · exact (lits_inj (by injection hat)).symm
/-- a set of numbers, as a map -/
def tkD (l : List Int) : DataW Unit := l.foldl (fun D z => D.put (.int .i64 z) (.lit (.bool true))) (.map [])
theorem tkD_snoc (l : List Int) (z : Int) : tkD (l ++ [z]) = (tkD l).put (.int .i64 z) (.lit (.bool true)) := by unfold tkD; rw [List.foldl_append]; rfl
theorem fold_map : ∀ (l : List Int) (D : DataW Unit), IsMap D → IsMap (l.foldl (fun D z => D.put (.int .i64 z) (.lit (.bool true))) D)
  | [], D, h => h
  | z :: l, D, h => fold_map l _ (h.put _ _)
theorem fold_at (k : Int) : ∀ (l : List Int) (D : DataW Unit), IsMap D → (l.foldl (fun D z => D.put (.int .i64 z) (.lit (.bool true))) D).atKey (.int .i64 k) (.lit (.bool false)) = if k ∈ l then .lit (.bool true) else D.atKey (.int .i64 k) (.lit (.bool false))
  | [], D, h => by simp
  | z :: l, D, h => by
    rw [List.foldl_cons, fold_at k l _ (h.put _ _)]
    by_cases c : k ∈ l
    · rw [if_pos c, if_pos (by simp [c])]
    · rw [if_neg c]
      by_cases e : k = z
      · subst e
        rw [if_pos (by simp), atKey_put_same h (show WideAt.IsKeyLit (.int .i64 k) from trivial)]
      · rw [if_neg (by simp [c, e]), atKey_put_other (by simpa using e)]
theorem tkD_at (l : List Int) (k : Int) : (tkD l).atKey (.int .i64 k) (.lit (.bool false)) = .lit (.bool (decide (k ∈ l))) := by
  unfold tkD
  rw [fold_at k l _ isMap_empty]
  split
  · rename_i c; simp [c]
  · rename_i c; simp [c]; rfl
theorem plainElem_bool_inv {v : Value} {z : DataW Unit × List MemPlace} (h : plainElem Try.prog 4 v = some z) : ∃ x, v = .bool x ∧ z = (.lit (.bool x), []) := by
  unfold plainElem at h
  rw [Try.underlying4] at h
  cases v <;> simp at h
  exact ⟨_, rfl, h.symm⟩
/-- a look-up in a set -/
theorem look_set {w : World} {b n : Nat} {l : List Int} (h : w.ownsMap Try.prog 3 (plainElem (H := Unit) Try.prog 4) b n (tkD l)) {k : Int} (hk : (Lit.int .i64 k).wf = true) :
    (Instr.lookup 50 (.map (some b)) (.int .i64 k) false).run Try.prog w = .ok (.bool (decide (k ∈ l))) w := by
  obtain ⟨v, ps, hrun, hv⟩ := h.lookup lawI Try.underlying50 (zeroB w) (plainElem_bool Try.underlying4 false) (keyOf_int_mk Try.underlying3 hk)
  obtain ⟨x, rfl, hz⟩ := plainElem_bool_inv hv
  rw [tkD_at] at hz
  simp at hz
  rw [hrun, ← hz.1]
theorem groups_below {w w' : World} {base b n : Nat} {D : DataW Unit} (h : w.ownsGroups Try.prog 58 base 3 .i64 b n D) (hb : Below w.heap.size w w') : w'.ownsGroups Try.prog 58 base 3 .i64 b n D :=
  h.kept (row := none) ⟨hb.os, hb.tape, hb.output, hb.size, fun k hk _ => hb.block k hk⟩ (by simp) (fun es clock _ x _ => by
    cases x.val.ownBlock with
    | none => exact .inl rfl
    | some g => exact .inr (by simp))
theorem set_below {w w' : World} {b n : Nat} {D : DataW Unit} (h : w.ownsMap Try.prog 3 (plainElem Try.prog 4) b n D) (hb : Below w.heap.size w w') : w'.ownsMap Try.prog 3 (plainElem Try.prog 4) b n D :=
  h.kept (row := none) ⟨hb.os, hb.tape, hb.output, hb.size, fun k hk _ => hb.block k hk⟩ (by simp)
theorem iv_of_ints {w : World} {base : Nat} {v : Value} {zs : List Int} (h : w.ownsInts base 3 .i64 v zs) : IV w base v zs.length (rowI zs) := iv_of_own h.1
theorem IV.form {w : World} {b : Nat} {v : Value} {L : Nat} {Z : Nat → Int} (h : IV w b v L Z) : ∃ a c, v = .slice a L c ∧ L ≤ c ∧ c ≤ 9223372036854775807 ∧ (1 ≤ L → ∃ g cap, a = some ⟨g, 0, none⟩ ∧ b ≤ g ∧ g < w.heap.size ∧ IB w g cap L Z) := by
  rcases h with ⟨rfl, a, c, rfl, hc⟩ | ⟨h1, g, c, cap, rfl, h3, h4, h5, h6⟩
  · exact ⟨a, c, rfl, Nat.zero_le _, hc, fun h => by omega⟩
  · exact ⟨_, c, rfl, h4, h5, fun _ => ⟨g, cap, rfl, h3, h6.lt, h6⟩⟩
end Go.Proofs.Ytdifhjjkgcipaaa
