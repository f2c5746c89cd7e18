/- Rows of ranges. -/
import Derived.Test.YtmidbphfbaldiaaDoorLat1
import Derived.Laws.AppendOwn
import Derived.Laws.OwnMore
import Derived.Deep.AppendLies
import Derived.OwnWalk
import Derived.Maps.AppendAt
namespace Go.Proofs.YtmidbphfbaldiaaDoor
open Go.RowKit
set_option linter.unusedVariables false
theorem own_below {w w' : World} {base : Nat} {e : TypeId} {size : Nat} {v : Value} {n : Nat} {xs : List Value} (h : w.ownsRow base e size v n xs) (hb : Below w.heap.size w w') : w'.ownsRow base e size v n xs := by
  refine h.kept (row := none) ⟨hb.os, hb.tape, hb.output, hb.size, fun k hk _ => hb.block k hk⟩ ?_
  cases hv : v.ownBlock with
  | none => exact .inl rfl
  | some k => exact .inr (by simp)
theorem own_base {w : World} {base base' : Nat} {e : TypeId} {size : Nat} {v : Value} {n : Nat} {xs : List Value} (h : w.ownsRow base e size v n xs) (hb : base' ≤ base) : w.ownsRow base' e size v n xs := by
  obtain ⟨h1, h2 | ⟨g, cap, cur, h3, h4, h5⟩⟩ := h
  · exact ⟨h1, .inl h2⟩
  · exact ⟨h1, .inr ⟨g, cap, cur, h3, by omega, h5⟩⟩
theorem own_slice {w : World} {base : Nat} {e : TypeId} {size : Nat} {v : Value} {n : Nat} {xs : List Value} (h : w.ownsRow base e size v n xs) (hn : 1 ≤ n) : ∃ g cap, v = .slice (some ⟨g, 0, none⟩) n cap ∧ base ≤ g ∧ g < w.heap.size ∧ n ≤ cap ∧ cap ≤ maxLen := by
  obtain ⟨h1, ⟨_, h2⟩ | ⟨g, cap, cur, h3, h4, h5, h6, h7, _⟩⟩ := h
  · omega
  · refine ⟨g, cap, h3, h4, ?_, h6, h7⟩
    rcases Nat.lt_or_ge g w.heap.size with q | q
    · exact q
    · rw [Array.getElem?_eq_none q] at h5; cases h5
theorem gcell {w w' : World} {r : Option Nat} (g : w.grownBy w' r) {a : Addr} {v : Value} (h : w.cell? a = some v) (hne : some a.block ≠ r) : w'.cell? a = some v := by
  have := g.block a.block (cell_lt h) hne
  simpa [World.cell?, this] using h
theorem news_at (w : World) (vs : List Value) (T : TypeId) : ∀ (j : Nat) (u : Value), vs[j]? = some u → (w.alloc (.cells vs.toArray T)).cell? ((⟨w.heap.size, 0, none⟩ : Addr).add j) = some u := by
  intro j u h
  have e : (⟨w.heap.size, 0, none⟩ : Addr).add j = ⟨w.heap.size, j, none⟩ := by
    by_cases c : j = 0
    · subst c; simp [Addr.add]
    · simp [Addr.add, c]
  rw [e, World.cell?_alloc_mark]
  simpa using h
theorem news_at' (w : World) (vs : List Value) (T : TypeId) (H : Nat) (hH : w.heap.size = H) : ∀ (j : Nat) (u : Value), vs[j]? = some u → (w.alloc (.cells vs.toArray T)).cell? ((⟨H, 0, none⟩ : Addr).add j) = some u := by
  subst hH; exact news_at w vs T
/-- block g is a row of room for cap ranges, of which the first n are those of A -/
def RB (w : World) (g cap n : Nat) (A : Nat → Int × Int) : Prop :=
  ∃ cur : Array Value, w.heap[g]? = some (.cells cur 28 (0, 0)) ∧ cur.size = cap * 2 ∧ ∀ j, j < n → cur[j * 2]? = some (.int .i64 (A j).1) ∧ cur[j * 2 + 1]? = some (.int .i64 (A j).2)
theorem RB.lt {w : World} {g cap n : Nat} {A : Nat → Int × Int} (h : RB w g cap n A) : g < w.heap.size := by
  obtain ⟨cur, h, _⟩ := h
  exact (Array.getElem?_eq_some_iff.1 h).1
theorem RB.cells {w : World} {g cap n : Nat} {A : Nat → Int × Int} (h : RB w g cap n A) {j : Nat} (hj : j < n) :
    (w.cell? ⟨g, j * 2, none⟩ = some (.int .i64 (A j).1) ∧ w.cell? ⟨g, j * 2 + 1, none⟩ = some (.int .i64 (A j).2)) ∧ (∀ o, w.frozen? ⟨g, o, none⟩ = false) := by
  obtain ⟨cur, h1, h2, h3⟩ := h
  obtain ⟨a, b⟩ := h3 j hj
  refine ⟨⟨?_, ?_⟩, fun o => ?_⟩
  · simp [World.cell?, h1, a]
  · simp [World.cell?, h1, b]
  · simp [World.frozen?, h1]
theorem RB.congr {w : World} {g cap n : Nat} {A B : Nat → Int × Int} (h : RB w g cap n A) (e : ∀ j, j < n → A j = B j) : RB w g cap n B := by
  obtain ⟨cur, h1, h2, h3⟩ := h
  exact ⟨cur, h1, h2, fun j hj => by rw [← e j hj]; exact h3 j hj⟩
theorem RB.fwd {w w' : World} {g cap n B : Nat} {A : Nat → Int × Int} (h : RB w g cap n A) (k : Below B w w') (hg : g < B) : RB w' g cap n A := by
  obtain ⟨cur, h1, h2, h3⟩ := h
  exact ⟨cur, (k.block g hg).trans h1, h2, h3⟩
theorem RB.below {w w' : World} {g cap n : Nat} {A : Nat → Int × Int} (h : RB w g cap n A) (k : Below w.heap.size w w') : RB w' g cap n A := h.fwd k h.lt
theorem RB.drew {w : World} {g cap n : Nat} {A : Nat → Int × Int} (h : RB w g cap n A) : RB w.drew g cap n A := h
def updR (A : Nat → Int × Int) (i : Nat) (x : Int × Int) (j : Nat) : Int × Int := if j = i then x else A j
theorem RB.set0 {w : World} {g cap n : Nat} {A : Nat → Int × Int} (h : RB w g cap n A) (i : Nat) (hi : i < n) (a : Int) :
    RB (w.setCell ⟨g, i * 2, none⟩ (.int .i64 a)) g cap n (updR A i (a, (A i).2)) := by
  obtain ⟨cur, h1, h2, h3⟩ := h
  obtain ⟨x, y⟩ := h3 i hi
  have lx := (Array.getElem?_eq_some_iff.1 x).1
  refine ⟨cur.setIfInBounds (i * 2) (.int .i64 a), ?_, by simp [h2], fun j hj => ?_⟩
  · simp [World.setCell, Array.getElem?_modify, h1]
  · obtain ⟨p, q⟩ := h3 j hj
    unfold updR
    by_cases e : j = i
    · subst e
      rw [if_pos rfl]
      exact ⟨by rw [Array.getElem?_setIfInBounds_self_of_lt lx], by rw [Array.getElem?_setIfInBounds_ne (by omega)]; exact q⟩
    · rw [if_neg e]
      exact ⟨by rw [Array.getElem?_setIfInBounds_ne (by omega)]; exact p, by rw [Array.getElem?_setIfInBounds_ne (by omega)]; exact q⟩
theorem RB.set1 {w : World} {g cap n : Nat} {A : Nat → Int × Int} (h : RB w g cap n A) (i : Nat) (hi : i < n) (a : Int) :
    RB (w.setCell ⟨g, i * 2 + 1, none⟩ (.int .i64 a)) g cap n (updR A i ((A i).1, a)) := by
  obtain ⟨cur, h1, h2, h3⟩ := h
  obtain ⟨x, y⟩ := h3 i hi
  have ly := (Array.getElem?_eq_some_iff.1 y).1
  refine ⟨cur.setIfInBounds (i * 2 + 1) (.int .i64 a), ?_, by simp [h2], fun j hj => ?_⟩
  · simp [World.setCell, Array.getElem?_modify, h1]
  · obtain ⟨p, q⟩ := h3 j hj
    unfold updR
    by_cases e : j = i
    · subst e
      rw [if_pos rfl]
      exact ⟨by rw [Array.getElem?_setIfInBounds_ne (by omega)]; exact p, by rw [Array.getElem?_setIfInBounds_self_of_lt ly]⟩
    · rw [if_neg e]
      exact ⟨by rw [Array.getElem?_setIfInBounds_ne (by omega)]; exact p, by rw [Array.getElem?_setIfInBounds_ne (by omega)]; exact q⟩
def flatR (A : Nat → Int × Int) (n : Nat) : List Value := (List.range n).flatMap fun j => [.int .i64 (A j).1, .int .i64 (A j).2]
theorem flatR_succ (A : Nat → Int × Int) (n : Nat) : flatR A (n + 1) = flatR A n ++ [.int .i64 (A n).1, .int .i64 (A n).2] := by unfold flatR; rw [List.range_succ, List.flatMap_append]; simp
theorem flatR_len (A : Nat → Int × Int) : ∀ n, (flatR A n).length = n * 2
  | 0 => rfl
  | n + 1 => by rw [flatR_succ, List.length_append, flatR_len A n]; simp; omega
theorem flatR_at (A : Nat → Int × Int) : ∀ {n j : Nat}, j < n → (flatR A n)[j * 2]? = some (.int .i64 (A j).1) ∧ (flatR A n)[j * 2 + 1]? = some (.int .i64 (A j).2)
  | 0, j, h => by omega
  | n + 1, j, h => by
    rw [flatR_succ]
    have l := flatR_len A n
    by_cases e : j = n
    · subst e
      refine ⟨?_, ?_⟩ <;> rw [List.getElem?_append_right (by omega)] <;> rw [l]
      · rw [Nat.sub_self]; rfl
      · rw [show j * 2 + 1 - j * 2 = 1 by omega]; rfl
    · obtain ⟨a, b⟩ := flatR_at A (n := n) (j := j) (by omega)
      refine ⟨?_, ?_⟩ <;> rw [List.getElem?_append_left (by omega)] <;> assumption
theorem rb_of_own {w : World} {base g cap n : Nat} {A : Nat → Int × Int} (h : w.ownsRow base 28 2 (.slice (some ⟨g, 0, none⟩) n cap) n (flatR A n)) : RB w g cap n A := by
  obtain ⟨h1, ⟨h2, _⟩ | ⟨g', cap', cur, h3, h4, h5, h6, h7, h8, h9⟩⟩ := h
  · cases h2
  · cases h3
    refine ⟨cur, h5, h8, fun j hj => ?_⟩
    obtain ⟨a, b⟩ := flatR_at A hj
    rw [← h9] at a b
    rw [List.getElem?_take_of_lt (by omega), Array.getElem?_toList] at a b
    exact ⟨a, b⟩
/-- a row of L ranges, in a block from b on -/
def RV (w : World) (b : Nat) (v : Value) (L : Nat) (A : Nat → Int × Int) : Prop :=
  (L = 0 ∧ ∃ a c, v = .slice a 0 c ∧ c ≤ 9223372036854775807) ∨ (1 ≤ L ∧ ∃ g c cap, v = .slice (some ⟨g, 0, none⟩) L c ∧ b ≤ g ∧ L ≤ c ∧ c ≤ 9223372036854775807 ∧ RB w g cap L A)
theorem RV.below {w w' : World} {b : Nat} {v : Value} {L : Nat} {A : Nat → Int × Int} (h : RV w b v L A) (k : Below w.heap.size w w') : RV w' b v L A := by
  rcases h with h | ⟨h1, g, c, cap, h2, h3, h4, h5, h6⟩
  · exact .inl h
  · exact .inr ⟨h1, g, c, cap, h2, h3, h4, h5, h6.below k⟩
theorem RV.base {w : World} {b b' : Nat} {v : Value} {L : Nat} {A : Nat → Int × Int} (h : RV w b v L A) (k : b' ≤ b) : RV w b' v L A := by
  rcases h with h | ⟨h1, g, c, cap, h2, h3, h4, h5, h6⟩
  · exact .inl h
  · exact .inr ⟨h1, g, c, cap, h2, by omega, h4, h5, h6⟩
theorem RV.congr {w : World} {b : Nat} {v : Value} {L : Nat} {A B : Nat → Int × Int} (h : RV w b v L A) (e : ∀ j, j < L → A j = B j) : RV w b v L B := by
  rcases h with h | ⟨h1, g, c, cap, h2, h3, h4, h5, h6⟩
  · exact .inl h
  · exact .inr ⟨h1, g, c, cap, h2, h3, h4, h5, h6.congr e⟩
theorem rv_of_own {w : World} {b : Nat} {v : Value} {n : Nat} {A : Nat → Int × Int} (h : w.ownsRow b 28 2 v n (flatR A n)) : RV w b v n A := by
  by_cases hn : 1 ≤ n
  · obtain ⟨g, cap, rfl, q1, q2, q3, q4⟩ := own_slice h hn
    unfold maxLen at q4
    exact .inr ⟨hn, g, cap, cap, rfl, q1, q3, by omega, rb_of_own h⟩
  · obtain rfl : n = 0 := by omega
    obtain ⟨h1, ⟨rfl, _⟩ | ⟨g', cap', cur, rfl, h4, h5, h6, h7, h8, h9⟩⟩ := h
    · exact .inl ⟨rfl, _, _, rfl, by omega⟩
    · unfold maxLen at h7
      exact .inl ⟨rfl, _, _, rfl, by omega⟩
theorem RB.kept {w w' : World} {g cap n : Nat} {A : Nat → Int × Int} {row : Option Nat} (h : RB w g cap n A) (hg : w.grownBy w' row) (hne : some g ≠ row) : RB w' g cap n A := by
  have hl := h.lt
  obtain ⟨cur, h1, h2, h3⟩ := h
  exact ⟨cur, (hg.block g hl hne).trans h1, h2, h3⟩
theorem below_drew {w : World} {B : Nat} : Below B w w.drew := ⟨rfl, rfl, rfl, Nat.le_refl _, fun _ _ => rfl⟩
theorem infoRg : (Tryd.prog.info? 28).map (fun i => (i.zero, i.size, i.bytes)) = some (some (.agg #[.int .i64 0, .int .i64 0]), 2, 16) := by kernel_rfl
theorem new_cell {W : World} {C : Array Value} {T : TypeId} {b i : Nat} {v : Value} (hb : b = W.heap.size) (h : C[i]? = some v) : (W.alloc (.cells C T)).cell? ⟨b, i, none⟩ = some v := by
  subst hb
  rw [World.cell?_alloc_mark]
  exact h
theorem new_free {W : World} {C : Array Value} {T : TypeId} {b i : Nat} (hb : b = W.heap.size) : (W.alloc (.cells C T)).frozen? ⟨b, i, none⟩ = false := by
  subst hb
  go_simp
end Go.Proofs.YtmidbphfbaldiaaDoor
