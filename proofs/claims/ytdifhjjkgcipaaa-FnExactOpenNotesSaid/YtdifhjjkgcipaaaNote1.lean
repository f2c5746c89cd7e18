/- Notes: rows of notes, rows of numbers, in memory. -/
import Derived.Test.YtdifhjjkgcipaaaWorld
import Derived.Test.YtdifhjjkgcipaaaInts
import Derived.Test.YtdifhjjkgcipaaaNotePlain
import Derived.Laws.AppendOwn
import Derived.Maps.AppendAt
import Derived.WalkKit
namespace Go.Proofs.Ytdifhjjkgcipaaa
open Go.RowKit
set_option linter.unusedVariables false
theorem own_below {w w' : World} {base : Nat} {e : TypeId} {size : Nat} {v : Value} {n : Nat} {xs : List Value} (h : w.ownsRow base e size v n xs) (hb : Below w.heap.size w w') : w'.ownsRow base e size v n xs := by
  refine h.kept (row := none) ⟨hb.os, hb.tape, hb.output, hb.size, fun k hk _ => hb.block k hk⟩ ?_
  cases hv : v.ownBlock with
  | none => exact .inl rfl
  | some k => exact .inr (by simp)
theorem own_base {w : World} {base base' : Nat} {e : TypeId} {size : Nat} {v : Value} {n : Nat} {xs : List Value} (h : w.ownsRow base e size v n xs) (hb : base' ≤ base) : w.ownsRow base' e size v n xs := by
  obtain ⟨h1, h2 | ⟨g, cap, cur, h3, h4, h5⟩⟩ := h
  · exact ⟨h1, .inl h2⟩
  · exact ⟨h1, .inr ⟨g, cap, cur, h3, by omega, h5⟩⟩
theorem own_slice {w : World} {base : Nat} {e : TypeId} {size : Nat} {v : Value} {n : Nat} {xs : List Value} (h : w.ownsRow base e size v n xs) (hn : 1 ≤ n) : ∃ g cap, v = .slice (some ⟨g, 0, none⟩) n cap ∧ base ≤ g ∧ g < w.heap.size ∧ n ≤ cap ∧ cap ≤ maxLen := by
  obtain ⟨h1, ⟨_, h2⟩ | ⟨g, cap, cur, h3, h4, h5, h6, h7, _⟩⟩ := h
  · omega
  · refine ⟨g, cap, h3, h4, ?_, h6, h7⟩
    rcases Nat.lt_or_ge g w.heap.size with q | q
    · exact q
    · rw [Array.getElem?_eq_none q] at h5; cases h5
theorem gcell {w w' : World} {r : Option Nat} (g : w.grownBy w' r) {a : Addr} {v : Value} (h : w.cell? a = some v) (hne : some a.block ≠ r) : w'.cell? a = some v := by
  have := g.block a.block (cell_lt h) hne
  simpa [World.cell?, this] using h
theorem news_at (w : World) (vs : List Value) (T : TypeId) : ∀ (j : Nat) (u : Value), vs[j]? = some u → (w.alloc (.cells vs.toArray T)).cell? ((⟨w.heap.size, 0, none⟩ : Addr).add j) = some u := by
  intro j u h
  have e : (⟨w.heap.size, 0, none⟩ : Addr).add j = ⟨w.heap.size, j, none⟩ := by
    by_cases c : j = 0
    · subst c; simp [Addr.add]
    · simp [Addr.add, c]
  rw [e, World.cell?_alloc_mark]
  simpa using h
theorem own_form {w : World} {base : Nat} {e : TypeId} {size : Nat} {v : Value} {n : Nat} {xs : List Value} (h : w.ownsRow base e size v n xs) : ∃ a c, v = .slice a n c ∧ n ≤ c ∧ c ≤ maxLen := by
  obtain ⟨h1, ⟨h2, h3⟩ | ⟨g, cap, cur, h3, h4, h5, h6, h7, _⟩⟩ := h
  · subst h3; exact ⟨none, 0, h2, Nat.le_refl _, Nat.zero_le _⟩
  · exact ⟨_, _, h3, h6, h7⟩
theorem new_cell {W : World} {C : Array Value} {T : TypeId} {b i : Nat} {v : Value} (hb : b = W.heap.size) (h : C[i]? = some v) : (W.alloc (.cells C T)).cell? ⟨b, i, none⟩ = some v := by
  subst hb
  rw [World.cell?_alloc_mark]
  exact h
theorem below_drew {w : World} {B : Nat} : Below B w w.drew := ⟨rfl, rfl, rfl, Nat.le_refl _, fun _ _ => rfl⟩
theorem news_at' (w : World) (vs : List Value) (T : TypeId) (H : Nat) (hH : w.heap.size = H) : ∀ (j : Nat) (u : Value), vs[j]? = some u → (w.alloc (.cells vs.toArray T)).cell? ((⟨H, 0, none⟩ : Addr).add j) = some u := by
  subst hH; exact news_at w vs T
/-- block g is a row of room for cap notes, of which the first n are those of A -/
def NB (w : World) (g cap n : Nat) (A : Nat → Nt) : Prop :=
  ∃ cur : Array Value, w.heap[g]? = some (.cells cur 30 (0, 0)) ∧ cur.size = cap * 3 ∧ ∀ j, j < n → cur[j * 3]? = some (.int .i64 (A j).1) ∧ cur[j * 3 + 1]? = some (.int .i64 (A j).2.1) ∧ cur[j * 3 + 2]? = some (.int .i64 (A j).2.2)
theorem NB.lt {w : World} {g cap n : Nat} {A : Nat → Nt} (h : NB w g cap n A) : g < w.heap.size := by
  obtain ⟨cur, h, _⟩ := h
  exact (Array.getElem?_eq_some_iff.1 h).1
theorem NB.cells {w : World} {g cap n : Nat} {A : Nat → Nt} (h : NB w g cap n A) {j : Nat} (hj : j < n) :
    (w.cell? ⟨g, j * 3, none⟩ = some (.int .i64 (A j).1) ∧ w.cell? ⟨g, j * 3 + 1, none⟩ = some (.int .i64 (A j).2.1) ∧ w.cell? ⟨g, j * 3 + 2, none⟩ = some (.int .i64 (A j).2.2)) ∧
    (∀ o, w.frozen? ⟨g, o, none⟩ = false) := by
  obtain ⟨cur, h1, h2, h3⟩ := h
  obtain ⟨a, b, c⟩ := h3 j hj
  refine ⟨⟨?_, ?_, ?_⟩, fun o => ?_⟩
  · simp [World.cell?, h1, a]
  · simp [World.cell?, h1, b]
  · simp [World.cell?, h1, c]
  · simp [World.frozen?, h1]
def updN (A : Nat → Nt) (i : Nat) (x : Nt) (j : Nat) : Nt := if j = i then x else A j
theorem NB.congr {w : World} {g cap n : Nat} {A B : Nat → Nt} (h : NB w g cap n A) (e : ∀ j, j < n → A j = B j) : NB w g cap n B := by
  obtain ⟨cur, h1, h2, h3⟩ := h
  exact ⟨cur, h1, h2, fun j hj => by rw [← e j hj]; exact h3 j hj⟩
theorem NB.set {w : World} {g cap n : Nat} {A : Nat → Nt} (h : NB w g cap n A) (i : Nat) (hi : i < n) (a b : Int) (c : Int) :
    NB (((w.setCell ⟨g, i * 3, none⟩ (.int .i64 a)).setCell ⟨g, i * 3 + 1, none⟩ (.int .i64 b)).setCell ⟨g, i * 3 + 2, none⟩ (.int .i64 c)) g cap n (updN A i (a, b, c)) := by
  obtain ⟨cur, h1, h2, h3⟩ := h
  obtain ⟨x, y, z⟩ := h3 i hi
  have lx := (Array.getElem?_eq_some_iff.1 x).1
  have ly := (Array.getElem?_eq_some_iff.1 y).1
  have lz := (Array.getElem?_eq_some_iff.1 z).1
  refine ⟨((cur.setIfInBounds (i * 3) (.int .i64 a)).setIfInBounds (i * 3 + 1) (.int .i64 b)).setIfInBounds (i * 3 + 2) (.int .i64 c), ?_, by simp [h2], fun j hj => ?_⟩
  · simp [World.setCell, Array.getElem?_modify, h1]
  · obtain ⟨p, q, r⟩ := h3 j hj
    unfold updN
    by_cases e : j = i
    · subst e
      rw [if_pos rfl]
      refine ⟨?_, ?_, ?_⟩
      · rw [Array.getElem?_setIfInBounds_ne (by omega), Array.getElem?_setIfInBounds_ne (by omega), Array.getElem?_setIfInBounds_self_of_lt lx]
      · rw [Array.getElem?_setIfInBounds_ne (by omega), Array.getElem?_setIfInBounds_self_of_lt (by simpa using ly)]
      · rw [Array.getElem?_setIfInBounds_self_of_lt (by simpa using lz)]
    · rw [if_neg e]
      refine ⟨?_, ?_, ?_⟩ <;> rw [Array.getElem?_setIfInBounds_ne (by omega), Array.getElem?_setIfInBounds_ne (by omega), Array.getElem?_setIfInBounds_ne (by omega)] <;> assumption
theorem NB.drew {w : World} {g cap n : Nat} {A : Nat → Nt} (h : NB w g cap n A) : NB w.drew g cap n A := h
theorem grown_set {a w : World} {g : Nat} (h : a.grownBy w (some g)) (o : Nat) (u : Value) : a.grownBy (w.setCell ⟨g, o, none⟩ u) (some g) :=
  ⟨h.os, h.tape, h.output, by have := h.size; simp [World.setCell]; exact this, fun k hk hr => (Below.heap_setCell _ _ _ _ (fun e => hr (by rw [e]))).trans (h.block k hk hr)⟩
theorem grown_drew {a w : World} {g : Nat} (h : a.grownBy w (some g)) : a.grownBy w.drew (some g) := ⟨h.os, h.tape, h.output, h.size, h.block⟩
theorem NB.drewN {w : World} {g cap n k : Nat} {A : Nat → Nt} (h : NB w g cap n A) : NB (w.drewN k) g cap n A := h
def flatN (A : Nat → Nt) (n : Nat) : List Value := (List.range n).flatMap fun j => [.int .i64 (A j).1, .int .i64 (A j).2.1, .int .i64 (A j).2.2]
theorem flatN_succ (A : Nat → Nt) (n : Nat) : flatN A (n + 1) = flatN A n ++ [.int .i64 (A n).1, .int .i64 (A n).2.1, .int .i64 (A n).2.2] := by unfold flatN; rw [List.range_succ, List.flatMap_append]; simp
theorem flatN_len (A : Nat → Nt) : ∀ n, (flatN A n).length = n * 3
  | 0 => rfl
  | n + 1 => by rw [flatN_succ, List.length_append, flatN_len A n]; simp; omega
theorem flatN_at (A : Nat → Nt) : ∀ {n j : Nat}, j < n → (flatN A n)[j * 3]? = some (.int .i64 (A j).1) ∧ (flatN A n)[j * 3 + 1]? = some (.int .i64 (A j).2.1) ∧ (flatN A n)[j * 3 + 2]? = some (.int .i64 (A j).2.2)
  | 0, j, h => by omega
  | n + 1, j, h => by
    rw [flatN_succ]
    have l := flatN_len A n
    by_cases e : j = n
    · subst e
      refine ⟨?_, ?_, ?_⟩ <;> rw [List.getElem?_append_right (by omega)] <;> rw [l]
      · rw [Nat.sub_self]; rfl
      · rw [show j * 3 + 1 - j * 3 = 1 by omega]; rfl
      · rw [show j * 3 + 2 - j * 3 = 2 by omega]; rfl
    · obtain ⟨a, b, c⟩ := flatN_at A (n := n) (j := j) (by omega)
      refine ⟨?_, ?_, ?_⟩ <;> rw [List.getElem?_append_left (by omega)] <;> assumption
theorem nb_of_own {w : World} {base g cap n : Nat} {A : Nat → Nt} (h : w.ownsRow base 30 3 (.slice (some ⟨g, 0, none⟩) n cap) n (flatN A n)) : NB w g cap n A := by
  obtain ⟨h1, ⟨h2, _⟩ | ⟨g', cap', cur, h3, h4, h5, h6, h7, h8, h9⟩⟩ := h
  · cases h2
  · cases h3
    refine ⟨cur, h5, h8, fun j hj => ?_⟩
    obtain ⟨a, b, c⟩ := flatN_at A hj
    rw [← h9] at a b c
    rw [List.getElem?_take_of_lt (by omega), Array.getElem?_toList] at a b c
    exact ⟨a, b, c⟩
theorem NB.kept {w w' : World} {g cap n : Nat} {A : Nat → Nt} {row : Option Nat} (h : NB w g cap n A) (hg : w.grownBy w' row) (hne : some g ≠ row) : NB w' g cap n A := by
  have hl := h.lt
  obtain ⟨cur, h1, h2, h3⟩ := h
  exact ⟨cur, (hg.block g hl hne).trans h1, h2, h3⟩
theorem NB.fwd {w w' : World} {g cap n B : Nat} {A : Nat → Nt} (h : NB w g cap n A) (k : Below B w w') (hg : g < B) : NB w' g cap n A := by
  obtain ⟨cur, h1, h2, h3⟩ := h
  exact ⟨cur, (k.block g hg).trans h1, h2, h3⟩
theorem NB.below {w w' : World} {g cap n : Nat} {A : Nat → Nt} (h : NB w g cap n A) (k : Below w.heap.size w w') : NB w' g cap n A := h.fwd k h.lt
/-- a row of L notes, in a block from b on -/
def NV (w : World) (b : Nat) (v : Value) (L : Nat) (A : Nat → Nt) : Prop :=
  (L = 0 ∧ ∃ a c, v = .slice a 0 c ∧ c ≤ 9223372036854775807) ∨ (1 ≤ L ∧ ∃ g c cap, v = .slice (some ⟨g, 0, none⟩) L c ∧ b ≤ g ∧ L ≤ c ∧ c ≤ 9223372036854775807 ∧ NB w g cap L A)
theorem NV.below {w w' : World} {b : Nat} {v : Value} {L : Nat} {A : Nat → Nt} (h : NV w b v L A) (k : Below w.heap.size w w') : NV w' b v L A := by
  rcases h with h | ⟨h1, g, c, cap, h2, h3, h4, h5, h6⟩
  · exact .inl h
  · exact .inr ⟨h1, g, c, cap, h2, h3, h4, h5, h6.below k⟩
theorem NV.base {w : World} {b b' : Nat} {v : Value} {L : Nat} {A : Nat → Nt} (h : NV w b v L A) (k : b' ≤ b) : NV w b' v L A := by
  rcases h with h | ⟨h1, g, c, cap, h2, h3, h4, h5, h6⟩
  · exact .inl h
  · exact .inr ⟨h1, g, c, cap, h2, by omega, h4, h5, h6⟩
theorem NV.congr {w : World} {b : Nat} {v : Value} {L : Nat} {A B : Nat → Nt} (h : NV w b v L A) (e : ∀ j, j < L → A j = B j) : NV w b v L B := by
  rcases h with h | ⟨h1, g, c, cap, h2, h3, h4, h5, h6⟩
  · exact .inl h
  · exact .inr ⟨h1, g, c, cap, h2, h3, h4, h5, h6.congr e⟩
theorem nv_of_own {w : World} {b : Nat} {v : Value} {n : Nat} {A : Nat → Nt} (h : w.ownsRow b 30 3 v n (flatN A n)) : NV w b v n A := by
  by_cases hn : 1 ≤ n
  · obtain ⟨g, cap, rfl, q1, q2, q3, q4⟩ := own_slice h hn
    unfold maxLen at q4
    exact .inr ⟨hn, g, cap, cap, rfl, q1, q3, by omega, nb_of_own h⟩
  · obtain rfl : n = 0 := by omega
    obtain ⟨h1, ⟨rfl, _⟩ | ⟨g', cap', cur, rfl, h4, h5, h6, h7, h8, h9⟩⟩ := h
    · exact .inl ⟨rfl, _, _, rfl, by omega⟩
    · unfold maxLen at h7
      exact .inl ⟨rfl, _, _, rfl, by omega⟩
/-- block g is a row of room for cap numbers, of which the first n are those of Z -/
def IB (w : World) (g cap n : Nat) (Z : Nat → Int) : Prop :=
  ∃ cur : Array Value, w.heap[g]? = some (.cells cur 3 (0, 0)) ∧ cur.size = cap ∧ ∀ j, j < n → cur[j]? = some (.int .i64 (Z j))
theorem IB.lt {w : World} {g cap n : Nat} {Z : Nat → Int} (h : IB w g cap n Z) : g < w.heap.size := by
  obtain ⟨cur, h, _⟩ := h
  exact (Array.getElem?_eq_some_iff.1 h).1
theorem IB.cell {w : World} {g cap n : Nat} {Z : Nat → Int} (h : IB w g cap n Z) {j : Nat} (hj : j < n) : w.cell? ⟨g, j, none⟩ = some (.int .i64 (Z j)) := by
  obtain ⟨cur, h1, h2, h3⟩ := h
  simp [World.cell?, h1, h3 j hj]
theorem IB.frozen {w : World} {g cap n : Nat} {Z : Nat → Int} (h : IB w g cap n Z) (o : Nat) : w.frozen? ⟨g, o, none⟩ = false := by
  obtain ⟨cur, h1, h2, h3⟩ := h
  simp [World.frozen?, h1]
theorem IB.congr {w : World} {g cap n : Nat} {Z Y : Nat → Int} (h : IB w g cap n Z) (e : ∀ j, j < n → Z j = Y j) : IB w g cap n Y := by
  obtain ⟨cur, h1, h2, h3⟩ := h
  exact ⟨cur, h1, h2, fun j hj => by rw [← e j hj]; exact h3 j hj⟩
def updI (Z : Nat → Int) (i : Nat) (x : Int) (j : Nat) : Int := if j = i then x else Z j
theorem IB.set {w : World} {g cap n : Nat} {Z : Nat → Int} (h : IB w g cap n Z) (i : Nat) (hi : i < n) (a : Int) : IB (w.setCell ⟨g, i, none⟩ (.int .i64 a)) g cap n (updI Z i a) := by
  obtain ⟨cur, h1, h2, h3⟩ := h
  have lx := (Array.getElem?_eq_some_iff.1 (h3 i hi)).1
  refine ⟨cur.setIfInBounds i (.int .i64 a), ?_, by simp [h2], fun j hj => ?_⟩
  · simp [World.setCell, Array.getElem?_modify, h1]
  · unfold updI
    by_cases e : j = i
    · subst e
      rw [if_pos rfl, Array.getElem?_setIfInBounds_self_of_lt lx]
    · rw [if_neg e, Array.getElem?_setIfInBounds_ne (by omega)]
      exact h3 j hj
theorem IB.fwd {w w' : World} {g cap n B : Nat} {Z : Nat → Int} (h : IB w g cap n Z) (k : Below B w w') (hg : g < B) : IB w' g cap n Z := by
  obtain ⟨cur, h1, h2, h3⟩ := h
  exact ⟨cur, (k.block g hg).trans h1, h2, h3⟩
theorem IB.below {w w' : World} {g cap n : Nat} {Z : Nat → Int} (h : IB w g cap n Z) (k : Below w.heap.size w w') : IB w' g cap n Z := h.fwd k h.lt
theorem IB.kept {w w' : World} {g cap n : Nat} {Z : Nat → Int} {row : Option Nat} (h : IB w g cap n Z) (hg : w.grownBy w' row) (hne : some g ≠ row) : IB w' g cap n Z := by
  have hl := h.lt
  obtain ⟨cur, h1, h2, h3⟩ := h
  exact ⟨cur, (hg.block g hl hne).trans h1, h2, h3⟩
/-- a row of L numbers, in a block from b on -/
def IV (w : World) (b : Nat) (v : Value) (L : Nat) (Z : Nat → Int) : Prop :=
  (L = 0 ∧ ∃ a c, v = .slice a 0 c ∧ c ≤ 9223372036854775807) ∨ (1 ≤ L ∧ ∃ g c cap, v = .slice (some ⟨g, 0, none⟩) L c ∧ b ≤ g ∧ L ≤ c ∧ c ≤ 9223372036854775807 ∧ IB w g cap L Z)
theorem IV.below {w w' : World} {b : Nat} {v : Value} {L : Nat} {Z : Nat → Int} (h : IV w b v L Z) (k : Below w.heap.size w w') : IV w' b v L Z := by
  rcases h with h | ⟨h1, g, c, cap, h2, h3, h4, h5, h6⟩
  · exact .inl h
  · exact .inr ⟨h1, g, c, cap, h2, h3, h4, h5, h6.below k⟩
theorem IV.base {w : World} {b b' : Nat} {v : Value} {L : Nat} {Z : Nat → Int} (h : IV w b v L Z) (k : b' ≤ b) : IV w b' v L Z := by
  rcases h with h | ⟨h1, g, c, cap, h2, h3, h4, h5, h6⟩
  · exact .inl h
  · exact .inr ⟨h1, g, c, cap, h2, by omega, h4, h5, h6⟩
theorem IV.congr {w : World} {b : Nat} {v : Value} {L : Nat} {Z Y : Nat → Int} (h : IV w b v L Z) (e : ∀ j, j < L → Z j = Y j) : IV w b v L Y := by
  rcases h with h | ⟨h1, g, c, cap, h2, h3, h4, h5, h6⟩
  · exact .inl h
  · exact .inr ⟨h1, g, c, cap, h2, h3, h4, h5, h6.congr e⟩
def rowI (l : List Int) (j : Nat) : Int := l.getD j 0
def valI (l : List Int) : List Value := l.map (Value.int .i64)
theorem ib_of_own {w : World} {base g cap n : Nat} {zs : List Int} (h : w.ownsRow base 3 1 (.slice (some ⟨g, 0, none⟩) n cap) n (valI zs)) : IB w g cap n (rowI zs) := by
  obtain ⟨h1, ⟨h2, _⟩ | ⟨g', cap', cur, h3, h4, h5, h6, h7, h8, h9⟩⟩ := h
  · cases h2
  · cases h3
    refine ⟨cur, h5, by rw [h8, Nat.mul_one], fun j hj => ?_⟩
    have hl : zs.length = n := by unfold valI at h1; simpa using h1
    have a : (valI zs)[j]? = some (.int .i64 (rowI zs j)) := by
      unfold valI rowI
      rw [List.getElem?_map, List.getD, List.getElem?_eq_getElem (by omega)]
      rfl
    rw [← h9, List.getElem?_take_of_lt (by omega), Array.getElem?_toList] at a
    exact a
theorem iv_of_own {w : World} {b : Nat} {v : Value} {n : Nat} {zs : List Int} (h : w.ownsRow b 3 1 v n (valI zs)) : IV w b v n (rowI zs) := by
  by_cases hn : 1 ≤ n
  · obtain ⟨g, cap, rfl, q1, q2, q3, q4⟩ := own_slice h hn
    unfold maxLen at q4
    exact .inr ⟨hn, g, cap, cap, rfl, q1, q3, by omega, ib_of_own h⟩
  · obtain rfl : n = 0 := by omega
    obtain ⟨h1, ⟨rfl, _⟩ | ⟨g', cap', cur, rfl, h4, h5, h6, h7, h8, h9⟩⟩ := h
    · exact .inl ⟨rfl, _, _, rfl, by omega⟩
    · unfold maxLen at h7
      exact .inl ⟨rfl, _, _, rfl, by omega⟩
theorem valI_snoc (l : List Int) (x : Int) : valI (l ++ [x]) = valI l ++ [.int .i64 x] := by unfold valI; rw [List.map_append]; rfl
theorem rowI_mem {l : List Int} {j : Nat} (h : j < l.length) : rowI l j ∈ l := by
  unfold rowI; rw [List.getD, List.getElem?_eq_getElem h]; exact List.getElem_mem h
theorem infoInt : (Try.prog.info? 3).map (fun i => (i.zero, i.size, i.bytes)) = some (some (.int .i64 0), 1, 8) := by kernel_rfl
theorem infoNote : (Try.prog.info? 30).map (fun i => (i.zero, i.size, i.bytes)) = some (some (.agg #[.int .i64 0, .int .i64 0, .int .i64 0]), 3, 24) := by kernel_rfl
/-- a list of notes as cells -/
def valN (l : List Nt) : List Value := l.flatMap fun x => [.int .i64 x.1, .int .i64 x.2.1, .int .i64 x.2.2]
theorem valN_snoc (l : List Nt) (x : Nt) : valN (l ++ [x]) = valN l ++ [.int .i64 x.1, .int .i64 x.2.1, .int .i64 x.2.2] := by unfold valN; rw [List.flatMap_append]; simp
theorem flatN_congr {A B : Nat → Nt} : ∀ {n : Nat}, (∀ j, j < n → A j = B j) → flatN A n = flatN B n
  | 0, _ => rfl
  | n + 1, h => by rw [flatN_succ, flatN_succ, flatN_congr (fun j hj => h j (by omega)), h n (by omega)]
theorem valN_flat_aux : ∀ (n : Nat) (l : List Nt), l.length = n → valN l = flatN (rowN l) n
  | 0, l, h => by obtain rfl := List.length_eq_zero_iff.1 h; rfl
  | n + 1, l, h => by
    have hne : l ≠ [] := by intro c; subst c; simp at h
    obtain ⟨l', x, rfl⟩ : ∃ l' x, l = l' ++ [x] := ⟨l.dropLast, l.getLast hne, (List.dropLast_concat_getLast hne).symm⟩
    have hl : l'.length = n := by simpa using h
    rw [valN_snoc, valN_flat_aux n l' hl, flatN_succ]
    have e1 : flatN (rowN l') n = flatN (rowN (l' ++ [x])) n := flatN_congr fun j hj => by
      unfold rowN; rw [List.getD, List.getD, List.getElem?_append_left (by omega)]
    have e2 : rowN (l' ++ [x]) n = x := by unfold rowN; rw [List.getD, List.getElem?_append_right (by omega), hl, Nat.sub_self]; rfl
    rw [e1, e2]
theorem valN_flat (l : List Nt) : valN l = flatN (rowN l) l.length := valN_flat_aux _ l rfl
theorem nv_of_list {w : World} {b : Nat} {v : Value} {n : Nat} {l : List Nt} (h : w.ownsRow b 30 3 v n (valN l)) (hn : l.length = n) : NV w b v n (rowN l) := by
  subst hn; rw [valN_flat] at h; exact nv_of_own h
end Go.Proofs.Ytdifhjjkgcipaaa
