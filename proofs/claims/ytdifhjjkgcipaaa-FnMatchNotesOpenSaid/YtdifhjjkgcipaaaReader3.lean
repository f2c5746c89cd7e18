/- The reader: words for functions that draw. -/
import Derived.Test.YtdifhjjkgcipaaaReader2
namespace Go.Proofs.Ytdifhjjkgcipaaa
open Go.RowKit
set_option linter.unusedVariables false
/-- Every block below B but R is as it was. -/
structure KB (B R : Nat) (w w' : World) : Prop where
  os : w'.os = w.os
  tape : w'.tape = w.tape
  output : w'.output = w.output
  size : w.heap.size ≤ w'.heap.size
  block : ∀ k, k < B → k ≠ R → w'.heap[k]? = w.heap[k]?
theorem KB.refl (B R : Nat) (w : World) : KB B R w w := ⟨rfl, rfl, rfl, Nat.le_refl _, fun _ _ _ => rfl⟩
theorem KB.drew {B R : Nat} {a w : World} (h : KB B R a w) : KB B R a w.drew := ⟨h.os, h.tape, h.output, h.size, h.block⟩
theorem KB.drewN {B R : Nat} {a w : World} {n : Nat} (h : KB B R a w) : KB B R a (w.drewN n) := ⟨h.os, h.tape, h.output, h.size, h.block⟩
theorem KB.alloc {B R : Nat} {a w : World} (hB : B ≤ a.heap.size) (h : KB B R a w) (o : Obj) : KB B R a (w.alloc o) :=
  ⟨h.os, h.tape, h.output, by have := h.size; simp; omega, fun k hk hr => (Below.heap_alloc _ _ _ (by have := h.size; omega)).trans (h.block k hk hr)⟩
theorem KB.setCell {B R : Nat} {a w : World} (h : KB B R a w) {p : Addr} (hp : B ≤ p.block) (u : Value) : KB B R a (w.setCell p u) :=
  ⟨h.os, h.tape, h.output, by have := h.size; simp [World.setCell]; omega, fun k hk hr => (Below.heap_setCell _ _ _ _ (by omega)).trans (h.block k hk hr)⟩
/-- behind a callee that keeps all but the reader -/
theorem KB.callee {B R : Nat} {a w w1 : World} (hB : B ≤ a.heap.size) (h : KB B R a w) (k : Keep R w w1) : KB B R a w1 :=
  ⟨k.os.trans h.os, k.tape.trans h.tape, k.output.trans h.output, Nat.le_trans h.size k.size, fun i hi hr => (k.block i (by have := h.size; omega) hr).trans (h.block i hi hr)⟩
/-- behind a callee that keeps all -/
theorem KB.quiet {B R : Nat} {a w w1 : World} (hB : B ≤ a.heap.size) (h : KB B R a w) (k : Below w.heap.size w w1) : KB B R a w1 :=
  ⟨k.os.trans h.os, k.tape.trans h.tape, k.output.trans h.output, Nat.le_trans h.size k.size, fun i hi hr => (k.block i (by have := h.size; omega)).trans (h.block i hi hr)⟩
theorem KB.keep {R : Nat} {w w' : World} (h : KB w.heap.size R w w') : Keep R w w' := ⟨h.os, h.tape, h.output, h.size, h.block⟩
theorem KB.below {B R : Nat} {w w' : World} (h : KB B R w w') (hB : B ≤ R) : Below B w w' := ⟨h.os, h.tape, h.output, h.size, fun k hk => h.block k hk (by omega)⟩
/-- a cell behind a callee that keeps all but the reader -/
theorem kc {R : Nat} {W w1 : World} (k : Keep R W w1) {a : Addr} {v : Value} (h : W.cell? a = some v) (hr : a.block ≠ R) : w1.cell? a = some v := by
  rw [k.cell (cell_lt h) hr]; exact h
theorem kf {R : Nat} {W w1 : World} (k : Keep R W w1) {a : Addr} (hl : a.block < W.heap.size) (hr : a.block ≠ R) (h : W.frozen? a = false) : w1.frozen? a = false := by
  rw [k.frozen hl hr]; exact h
/-- The reader, where nothing up to its block has turned. -/
theorem Rd.fwd {w w' : World} {R : Nat} {K : Int} (h : Rd w R K) (b : Below (R + 1) w w') : Rd w' R K := by
  obtain ⟨a, len, cap, p, h1, h1', h2, h3, h4, h5, h6, h7, h8⟩ := h
  refine ⟨a, len, cap, p, h1, h1', h2, h3, by rw [b.cell (by simp)]; exact h4, by rw [b.cell (by simp)]; exact h5, by rw [b.frozen (by simp)]; exact h6, h7, ?_⟩
  rcases h8 with h8 | ⟨x, off, rfl, hb, hc⟩
  · exact .inl h8
  · by_cases h0 : len = 0
    · exact .inl h0
    · have hx := h7 (by omega) x ⟨_, rfl⟩
      refine .inr ⟨x, off, rfl, Nat.lt_of_lt_of_le hb b.size, fun i hi => ?_⟩
      obtain ⟨z, z0, z1, hz⟩ := hc i hi
      exact ⟨z, z0, z1, by rw [b.cell (by show x < R + 1; omega)]; exact hz⟩
theorem IntsIn.alloc {w : World} {b n : Nat} {lo hi : Int} (h : IntsIn w b n lo hi) (hb : b < w.heap.size) (o : Obj) : IntsIn (w.alloc o) b n lo hi := fun i hi => by
  obtain ⟨z, z0, z1, hz⟩ := h i hi
  exact ⟨z, z0, z1, by rw [((Below.refl _ _).alloc (Nat.le_refl w.heap.size) o).cell hb]; exact hz⟩
theorem IsBytes.alloc {w : World} {a : Option Addr} {len : Nat} (h : IsBytes w a len) (o : Obj) : IsBytes (w.alloc o) a len := by
  rcases h with h | ⟨b, off, rfl, hb, hc⟩
  · exact .inl h
  · refine .inr ⟨b, off, rfl, by simp; omega, fun i hi => ?_⟩
    obtain ⟨z, z0, z1, hz⟩ := hc i hi
    exact ⟨z, z0, z1, ca hz⟩
end Go.Proofs.Ytdifhjjkgcipaaa
