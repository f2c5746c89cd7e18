/- Schedules: a row of periods, turned round in place. -/
import Derived.Test.YtoidghdgebdfaaaDoorSch4
import Derived.RegionTactic
import Derived.BigRegion
import Derived.ChangeAlike
namespace Go.Proofs.YtoidghdgebdfaaaDoor
open Go.RowKit
set_option linter.unusedVariables false
/-- block g is a row of room for cap periods, of which the first n are those of A -/
def PB (w : World) (g cap n : Nat) (A : Nat → Int × Int × Bool) : Prop :=
  ∃ cur : Array Value, w.heap[g]? = some (.cells cur 58 (0, 0)) ∧ cur.size = cap * 3 ∧ ∀ j, j < n → cur[j * 3]? = some (.int .i64 (A j).1) ∧ cur[j * 3 + 1]? = some (.int .i64 (A j).2.1) ∧ cur[j * 3 + 2]? = some (.bool (A j).2.2)
theorem PB.lt {w : World} {g cap n : Nat} {A : Nat → Int × Int × Bool} (h : PB w g cap n A) : g < w.heap.size := by
  obtain ⟨cur, h, _⟩ := h
  exact (Array.getElem?_eq_some_iff.1 h).1
theorem PB.cells {w : World} {g cap n : Nat} {A : Nat → Int × Int × Bool} (h : PB w g cap n A) {j : Nat} (hj : j < n) :
    (w.cell? ⟨g, j * 3, none⟩ = some (.int .i64 (A j).1) ∧ w.cell? ⟨g, j * 3 + 1, none⟩ = some (.int .i64 (A j).2.1) ∧ w.cell? ⟨g, j * 3 + 2, none⟩ = some (.bool (A j).2.2)) ∧
    (∀ o, w.frozen? ⟨g, o, none⟩ = false) := by
  obtain ⟨cur, h1, h2, h3⟩ := h
  obtain ⟨a, b, c⟩ := h3 j hj
  refine ⟨⟨?_, ?_, ?_⟩, fun o => ?_⟩
  · simp [World.cell?, h1, a]
  · simp [World.cell?, h1, b]
  · simp [World.cell?, h1, c]
  · simp [World.frozen?, h1]
def upd (A : Nat → Int × Int × Bool) (i : Nat) (x : Int × Int × Bool) (j : Nat) : Int × Int × Bool := if j = i then x else A j
theorem PB.congr {w : World} {g cap n : Nat} {A B : Nat → Int × Int × Bool} (h : PB w g cap n A) (e : ∀ j, j < n → A j = B j) : PB w g cap n B := by
  obtain ⟨cur, h1, h2, h3⟩ := h
  exact ⟨cur, h1, h2, fun j hj => by rw [← e j hj]; exact h3 j hj⟩
theorem PB.set {w : World} {g cap n : Nat} {A : Nat → Int × Int × Bool} (h : PB w g cap n A) (i : Nat) (hi : i < n) (a b : Int) (c : Bool) :
    PB (((w.setCell ⟨g, i * 3, none⟩ (.int .i64 a)).setCell ⟨g, i * 3 + 1, none⟩ (.int .i64 b)).setCell ⟨g, i * 3 + 2, none⟩ (.bool c)) g cap n (upd A i (a, b, c)) := by
  obtain ⟨cur, h1, h2, h3⟩ := h
  obtain ⟨x, y, z⟩ := h3 i hi
  have lx := (Array.getElem?_eq_some_iff.1 x).1
  have ly := (Array.getElem?_eq_some_iff.1 y).1
  have lz := (Array.getElem?_eq_some_iff.1 z).1
  refine ⟨((cur.setIfInBounds (i * 3) (.int .i64 a)).setIfInBounds (i * 3 + 1) (.int .i64 b)).setIfInBounds (i * 3 + 2) (.bool c), ?_, by simp [h2], fun j hj => ?_⟩
  · simp [World.setCell, Array.getElem?_modify, h1]
  · obtain ⟨p, q, r⟩ := h3 j hj
    unfold upd
    by_cases e : j = i
    · subst e
      rw [if_pos rfl]
      refine ⟨?_, ?_, ?_⟩
      · rw [Array.getElem?_setIfInBounds_ne (by omega), Array.getElem?_setIfInBounds_ne (by omega), Array.getElem?_setIfInBounds_self_of_lt lx]
      · rw [Array.getElem?_setIfInBounds_ne (by omega), Array.getElem?_setIfInBounds_self_of_lt (by simpa using ly)]
      · rw [Array.getElem?_setIfInBounds_self_of_lt (by simpa using lz)]
    · rw [if_neg e]
      refine ⟨?_, ?_, ?_⟩ <;> rw [Array.getElem?_setIfInBounds_ne (by omega), Array.getElem?_setIfInBounds_ne (by omega), Array.getElem?_setIfInBounds_ne (by omega)] <;> assumption
theorem PB.drew {w : World} {g cap n : Nat} {A : Nat → Int × Int × Bool} (h : PB w g cap n A) : PB w.drew g cap n A := h
theorem grown_set {a w : World} {g : Nat} (h : a.grownBy w (some g)) (o : Nat) (u : Value) : a.grownBy (w.setCell ⟨g, o, none⟩ u) (some g) :=
  ⟨h.os, h.tape, h.output, by have := h.size; simp [World.setCell]; exact this, fun k hk hr => (Below.heap_setCell _ _ _ _ (fun e => hr (by rw [e]))).trans (h.block k hk hr)⟩
theorem grown_drew {a w : World} {g : Nat} (h : a.grownBy w (some g)) : a.grownBy w.drew (some g) := ⟨h.os, h.tape, h.output, h.size, h.block⟩
/-- the row, turned round as far as k from both ends -/
def revTo (A : Nat → Int × Int × Bool) (n k j : Nat) : Int × Int × Bool := if j < k ∨ n - 1 - j < k then A (n - 1 - j) else A j
theorem revTo_step {A : Nat → Int × Int × Bool} {n k : Nat} (h : 2 * k + 1 < n) : ∀ j, j < n → upd (upd (revTo A n k) k (revTo A n k (n - 1 - k))) (n - 1 - k) (revTo A n k k) j = revTo A n (k + 1) j := by
  intro j hj
  unfold upd revTo
  by_cases e1 : j = n - 1 - k
  · subst e1
    rw [if_pos rfl, if_neg (by omega), if_pos (by omega), show n - 1 - (n - 1 - k) = k by omega]
  · rw [if_neg e1]
    by_cases e2 : j = k
    · subst e2
      rw [if_pos rfl, if_neg (by omega), if_pos (by omega)]
    · rw [if_neg e2]
      by_cases e3 : j < k ∨ n - 1 - j < k
      · rw [if_pos e3, if_pos (by omega)]
      · rw [if_neg e3, if_neg (by omega)]
theorem upd_comm {A : Nat → Int × Int × Bool} {i k : Nat} {x y : Int × Int × Bool} (h : i ≠ k) (j : Nat) : upd (upd A i x) k y j = upd (upd A k y) i x j := by
  unfold upd
  by_cases e1 : j = k
  · by_cases e2 : j = i
    · omega
    · rw [if_pos e1, if_neg e2, if_pos e1]
  · rw [if_neg e1]
    by_cases e2 : j = i
    · rw [if_pos e2, if_pos e2]
    · rw [if_neg e2, if_neg e2, if_neg e1]
theorem revTo_end {A : Nat → Int × Int × Bool} {n k : Nat} (h : n ≤ 2 * k + 1) : ∀ j, j < n → revTo A n k j = A (n - 1 - j) := by
  intro j hj
  unfold revTo
  by_cases e : j < k ∨ n - 1 - j < k
  · rw [if_pos e]
  · rw [if_neg e, show n - 1 - j = j by omega]
def RevPost (g cap n : Nat) (A : Nat → Int × Int × Bool) (w : World) (e : Ending) (w' : World) : Prop :=
  (∃ v, e = .returned v) ∧ PB w' g cap n (fun j => A (n - 1 - j)) ∧ w.grownBy w' (some g)
set_option maxHeartbeats 4000000 in
theorem reverse_any (g cap cap' n : Nat) (A : Nat → Int × Int × Bool) (w : World) (hn : 1 ≤ n) (hn2 : n ≤ 100000) (h1 : n ≤ cap') (h2 : cap' ≤ 9223372036854775807) (h : PB w g cap n A) :
    Calls Tryd.prog 45 #[.slice (some ⟨g, 0, none⟩) n cap'] w (RevPost g cap n A w) := by
  have H := Lib.hid h
  clear h
  go_enter Tryd.func45, Tryd.ntmps45
  go_wp2
  go_loopw [2, 3] (fun i j wr => ∃ k : Nat, k ≤ n ∧ i = .int .i64 k ∧ j = .int .i64 ((n : Int) - 1 - k) ∧ PB wr g cap n (revTo A n k) ∧ w.grownBy wr (some g)) (fun i _ _ => n - (intOf i).toNat)
  case atStart => exact ⟨0, Nat.zero_le _, rfl, by simp, H.out.congr (fun j hj => by unfold revTo; rw [if_neg (by omega)]), ⟨rfl, rfl, rfl, Nat.le_refl _, fun _ _ _ => rfl⟩⟩
  case round =>
    obtain ⟨k, hk, rfl, rfl, hp, hg⟩ := hrel
    by_cases hlt : 2 * k + 1 < n
    · obtain ⟨q, hq⟩ : ∃ q : Nat, n - 1 - k = q := ⟨_, rfl⟩
      have e0 : (n : Int) - 1 - (k : Int) = (q : Int) := by omega
      have hqn : q < n := by omega
      have hkq : k < q := by omega
      have hkn : k < n := by omega
      rw [e0]
      obtain ⟨⟨a0, a1, a2⟩, fz⟩ := hp.cells hkn
      obtain ⟨⟨b0, b1, b2⟩, _⟩ := hp.cells hqn
      have f0 := fz (k * 3)
      have f1 := fz (k * 3 + 1)
      have f2 := fz (k * 3 + 2)
      have f3 := fz (q * 3)
      have f4 := fz (q * 3 + 1)
      have f5 := fz (q * 3 + 2)
      have HP := Lib.hid hp
      have HG := Lib.hid hg
      have HE := Lib.hid e0
      have HQ := Lib.hid hq
      clear fz hp hg e0 hq
      go_wp2
      go_region
      go_wp2
      go_roundw
      case rel =>
        refine ⟨k + 1, by omega, by go_num, ?_, ?_, ?_⟩
        · have e3 : (n : Int) - 1 - ((k + 1 : Nat) : Int) = (q : Int) - 1 := by have := HE.out; omega
          rw [e3]
        · refine PB.drew (PB.congr ((HP.out.set k hkn _ _ _).set q hqn _ _ _) (fun j hj => ?_))
          have := revTo_step (A := A) (n := n) (k := k) (by omega) j hj
          rw [HQ.out] at this
          exact this
        · exact grown_drew (grown_set (grown_set (grown_set (grown_set (grown_set (grown_set HG.out _ _) _ _) _ _) _ _) _ _) _ _)
      case measure => first | (simp [intOf]; done) | (simp [intOf]; omega)
    · go_wp2
      refine bodyPost_ret (results_none rfl _ _ _) rfl ?_
      exact ⟨⟨_, rfl⟩, hp.congr (revTo_end (by omega)), hg⟩
end Go.Proofs.YtoidghdgebdfaaaDoor
