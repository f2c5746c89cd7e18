/- Bonds: rows of payments. -/
import Derived.Test.YtoidghdgebdfaaaDoorFlow1
import Derived.Test.YtoidghdgebdfaaaDoorSch9
import Derived.Deep.RegionHeld3
namespace Go.Proofs.YtoidghdgebdfaaaDoor
open Go.RowKit
set_option linter.unusedVariables false
/-- block g is a row of room for cap payments, of which the first n are those of A -/
def FB (w : World) (g cap n : Nat) (A : Nat → Int × Int) : Prop :=
  ∃ cur : Array Value, w.heap[g]? = some (.cells cur 37 (0, 0)) ∧ cur.size = cap * 2 ∧ ∀ j, j < n → cur[j * 2]? = some (.int .i64 (A j).1) ∧ cur[j * 2 + 1]? = some (.int .i64 (A j).2)
theorem FB.lt {w : World} {g cap n : Nat} {A : Nat → Int × Int} (h : FB w g cap n A) : g < w.heap.size := by
  obtain ⟨cur, h, _⟩ := h
  exact (Array.getElem?_eq_some_iff.1 h).1
theorem FB.cells {w : World} {g cap n : Nat} {A : Nat → Int × Int} (h : FB w g cap n A) {j : Nat} (hj : j < n) :
    (w.cell? ⟨g, j * 2, none⟩ = some (.int .i64 (A j).1) ∧ w.cell? ⟨g, j * 2 + 1, none⟩ = some (.int .i64 (A j).2)) ∧ (∀ o, w.frozen? ⟨g, o, none⟩ = false) := by
  obtain ⟨cur, h1, h2, h3⟩ := h
  obtain ⟨a, b⟩ := h3 j hj
  refine ⟨⟨?_, ?_⟩, fun o => ?_⟩
  · simp [World.cell?, h1, a]
  · simp [World.cell?, h1, b]
  · simp [World.frozen?, h1]
theorem FB.congr {w : World} {g cap n : Nat} {A B : Nat → Int × Int} (h : FB w g cap n A) (e : ∀ j, j < n → A j = B j) : FB w g cap n B := by
  obtain ⟨cur, h1, h2, h3⟩ := h
  exact ⟨cur, h1, h2, fun j hj => by rw [← e j hj]; exact h3 j hj⟩
theorem FB.fwd {w w' : World} {g cap n B : Nat} {A : Nat → Int × Int} (h : FB w g cap n A) (k : Below B w w') (hg : g < B) : FB w' g cap n A := by
  obtain ⟨cur, h1, h2, h3⟩ := h
  exact ⟨cur, (k.block g hg).trans h1, h2, h3⟩
theorem FB.below {w w' : World} {g cap n : Nat} {A : Nat → Int × Int} (h : FB w g cap n A) (k : Below w.heap.size w w') : FB w' g cap n A := h.fwd k h.lt
theorem FB.drew {w : World} {g cap n : Nat} {A : Nat → Int × Int} (h : FB w g cap n A) : FB w.drew g cap n A := h
def updF (A : Nat → Int × Int) (i : Nat) (x : Int × Int) (j : Nat) : Int × Int := if j = i then x else A j
theorem FB.set0 {w : World} {g cap n : Nat} {A : Nat → Int × Int} (h : FB w g cap n A) (i : Nat) (hi : i < n) (a : Int) :
    FB (w.setCell ⟨g, i * 2, none⟩ (.int .i64 a)) g cap n (updF A i (a, (A i).2)) := by
  obtain ⟨cur, h1, h2, h3⟩ := h
  obtain ⟨x, y⟩ := h3 i hi
  have lx := (Array.getElem?_eq_some_iff.1 x).1
  refine ⟨cur.setIfInBounds (i * 2) (.int .i64 a), ?_, by simp [h2], fun j hj => ?_⟩
  · simp [World.setCell, Array.getElem?_modify, h1]
  · obtain ⟨p, q⟩ := h3 j hj
    unfold updF
    by_cases e : j = i
    · subst e
      rw [if_pos rfl]
      exact ⟨by rw [Array.getElem?_setIfInBounds_self_of_lt lx], by rw [Array.getElem?_setIfInBounds_ne (by omega)]; exact q⟩
    · rw [if_neg e]
      exact ⟨by rw [Array.getElem?_setIfInBounds_ne (by omega)]; exact p, by rw [Array.getElem?_setIfInBounds_ne (by omega)]; exact q⟩
theorem FB.set1 {w : World} {g cap n : Nat} {A : Nat → Int × Int} (h : FB w g cap n A) (i : Nat) (hi : i < n) (a : Int) :
    FB (w.setCell ⟨g, i * 2 + 1, none⟩ (.int .i64 a)) g cap n (updF A i ((A i).1, a)) := by
  obtain ⟨cur, h1, h2, h3⟩ := h
  obtain ⟨x, y⟩ := h3 i hi
  have ly := (Array.getElem?_eq_some_iff.1 y).1
  refine ⟨cur.setIfInBounds (i * 2 + 1) (.int .i64 a), ?_, by simp [h2], fun j hj => ?_⟩
  · simp [World.setCell, Array.getElem?_modify, h1]
  · obtain ⟨p, q⟩ := h3 j hj
    unfold updF
    by_cases e : j = i
    · subst e
      rw [if_pos rfl]
      exact ⟨by rw [Array.getElem?_setIfInBounds_ne (by omega)]; exact p, by rw [Array.getElem?_setIfInBounds_self_of_lt ly]⟩
    · rw [if_neg e]
      exact ⟨by rw [Array.getElem?_setIfInBounds_ne (by omega)]; exact p, by rw [Array.getElem?_setIfInBounds_ne (by omega)]; exact q⟩
def flatF (A : Nat → Int × Int) (n : Nat) : List Value := (List.range n).flatMap fun j => [.int .i64 (A j).1, .int .i64 (A j).2]
theorem flatF_succ (A : Nat → Int × Int) (n : Nat) : flatF A (n + 1) = flatF A n ++ [.int .i64 (A n).1, .int .i64 (A n).2] := by unfold flatF; rw [List.range_succ, List.flatMap_append]; simp
theorem flatF_len (A : Nat → Int × Int) : ∀ n, (flatF A n).length = n * 2
  | 0 => rfl
  | n + 1 => by rw [flatF_succ, List.length_append, flatF_len A n]; simp; omega
theorem flatF_at (A : Nat → Int × Int) : ∀ {n j : Nat}, j < n → (flatF A n)[j * 2]? = some (.int .i64 (A j).1) ∧ (flatF A n)[j * 2 + 1]? = some (.int .i64 (A j).2)
  | 0, j, h => by omega
  | n + 1, j, h => by
    rw [flatF_succ]
    have l := flatF_len A n
    by_cases e : j = n
    · subst e
      refine ⟨?_, ?_⟩ <;> rw [List.getElem?_append_right (by omega)] <;> rw [l]
      · rw [Nat.sub_self]; rfl
      · rw [show j * 2 + 1 - j * 2 = 1 by omega]; rfl
    · obtain ⟨a, b⟩ := flatF_at A (n := n) (j := j) (by omega)
      refine ⟨?_, ?_⟩ <;> rw [List.getElem?_append_left (by omega)] <;> assumption
theorem fb_of_own {w : World} {base g cap n : Nat} {A : Nat → Int × Int} (h : w.ownsRow base 37 2 (.slice (some ⟨g, 0, none⟩) n cap) n (flatF A n)) : FB w g cap n A := by
  obtain ⟨h1, ⟨h2, _⟩ | ⟨g', cap', cur, h3, h4, h5, h6, h7, h8, h9⟩⟩ := h
  · cases h2
  · cases h3
    refine ⟨cur, h5, h8, fun j hj => ?_⟩
    obtain ⟨a, b⟩ := flatF_at A hj
    rw [← h9] at a b
    rw [List.getElem?_take_of_lt (by omega), Array.getElem?_toList] at a b
    exact ⟨a, b⟩
/-- a row of L payments, in a block from b on -/
def FV (w : World) (b : Nat) (v : Value) (L : Nat) (A : Nat → Int × Int) : Prop :=
  (L = 0 ∧ ∃ a c, v = .slice a 0 c ∧ c ≤ 9223372036854775807) ∨ (1 ≤ L ∧ ∃ g c cap, v = .slice (some ⟨g, 0, none⟩) L c ∧ b ≤ g ∧ L ≤ c ∧ c ≤ 9223372036854775807 ∧ FB w g cap L A)
theorem FV.below {w w' : World} {b : Nat} {v : Value} {L : Nat} {A : Nat → Int × Int} (h : FV w b v L A) (k : Below w.heap.size w w') : FV w' b v L A := by
  rcases h with h | ⟨h1, g, c, cap, h2, h3, h4, h5, h6⟩
  · exact .inl h
  · exact .inr ⟨h1, g, c, cap, h2, h3, h4, h5, h6.below k⟩
theorem FV.base {w : World} {b b' : Nat} {v : Value} {L : Nat} {A : Nat → Int × Int} (h : FV w b v L A) (k : b' ≤ b) : FV w b' v L A := by
  rcases h with h | ⟨h1, g, c, cap, h2, h3, h4, h5, h6⟩
  · exact .inl h
  · exact .inr ⟨h1, g, c, cap, h2, by omega, h4, h5, h6⟩
theorem FV.congr {w : World} {b : Nat} {v : Value} {L : Nat} {A B : Nat → Int × Int} (h : FV w b v L A) (e : ∀ j, j < L → A j = B j) : FV w b v L B := by
  rcases h with h | ⟨h1, g, c, cap, h2, h3, h4, h5, h6⟩
  · exact .inl h
  · exact .inr ⟨h1, g, c, cap, h2, h3, h4, h5, h6.congr e⟩
theorem fv_of_own {w : World} {b : Nat} {v : Value} {n : Nat} {A : Nat → Int × Int} (h : w.ownsRow b 37 2 v n (flatF A n)) : FV w b v n A := by
  by_cases hn : 1 ≤ n
  · obtain ⟨g, cap, rfl, q1, q2, q3, q4⟩ := own_slice h hn
    unfold maxLen at q4
    exact .inr ⟨hn, g, cap, cap, rfl, q1, q3, by omega, fb_of_own h⟩
  · obtain rfl : n = 0 := by omega
    obtain ⟨h1, ⟨rfl, _⟩ | ⟨g', cap', cur, rfl, h4, h5, h6, h7, h8, h9⟩⟩ := h
    · exact .inl ⟨rfl, _, _, rfl, by omega⟩
    · unfold maxLen at h7
      exact .inl ⟨rfl, _, _, rfl, by omega⟩
/-- the payments of a bond with these periods: without and with the face value -/
noncomputable def fA0 (m r : Int) (A : Nat → Int × Int × Bool) (j : Nat) : Int × Int := ((A j).2.1, cpn m r (A j).1 (A j).2.1 (A j).2.2)
noncomputable def fA (m r : Int) (A : Nat → Int × Int × Bool) (n j : Nat) : Int × Int := ((A j).2.1, cpn m r (A j).1 (A j).2.1 (A j).2.2 + if j + 1 = n then 10000 else 0)
theorem fA_upd (m r : Int) (A : Nat → Int × Int × Bool) (l j : Nat) (h : j < l + 1) : updF (fA0 m r A) l ((fA0 m r A l).1, (fA0 m r A l).2 + 10000) j = fA m r A (l + 1) j := by
  unfold updF fA fA0
  by_cases c : j = l
  · subst c; rw [if_pos rfl, if_pos rfl]
  · rw [if_neg c, if_neg (by omega), Int.add_zero]
/-- periods lie in the calendar -/
def PerOk (A : Nat → Int × Int × Bool) (n : Nat) : Prop := ∀ j, j < n → 0 ≤ (A j).1 ∧ (A j).1 < (A j).2.1 ∧ (A j).2.1 ≤ 36524
end Go.Proofs.YtoidghdgebdfaaaDoor
