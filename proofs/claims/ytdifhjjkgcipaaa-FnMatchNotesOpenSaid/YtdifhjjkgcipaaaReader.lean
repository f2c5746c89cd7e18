/- The reader of pseudo-random numbers: what newReader, pick and one return and leave. -/
import Derived.Test.YtdifhjjkgcipaaaInts
import Derived.Test.YtdifhjjkgcipaaaWorld
import Derived.BigQuiet
import Derived.Deep.QuietTactic
import Derived.Deep.RegionWith
import Derived.Laws.Pointers
namespace Go.Proofs.Ytdifhjjkgcipaaa
open Go.RowKit
set_option linter.unusedVariables false
/-- A slice of bytes that can be read. -/
def IsBytes (w : World) (a : Option Addr) (len : Nat) : Prop :=
  len = 0 ∨ ∃ b off, a = some ⟨b, off, none⟩ ∧ b < w.heap.size ∧ ∀ i, i < len → ∃ z : Int, 0 ≤ z ∧ z ≤ 255 ∧ w.cell? ⟨b, off + i, none⟩ = some (.int .u8 z)
/-- Block R is a reader that has been asked at most K times; what it reads lies below it. -/
def Rd (w : World) (R : Nat) (K : Int) : Prop :=
  ∃ (a : Option Addr) (len cap : Nat) (p : Int), len ≤ 2000 ∧ len ≤ cap ∧ 0 ≤ p ∧ p ≤ K ∧ w.cell? ⟨R, 0, none⟩ = some (.slice a len cap) ∧ w.cell? ⟨R, 1, none⟩ = some (.int .i64 p) ∧
    w.frozen? ⟨R, 1, none⟩ = false ∧ (0 < len → ∀ b, (∃ off, a = some ⟨b, off, none⟩) → b < R) ∧ IsBytes w a len
/-- Every old block but R is as it was. -/
structure Keep (R : Nat) (w w' : World) : Prop where
  os : w'.os = w.os
  tape : w'.tape = w.tape
  output : w'.output = w.output
  size : w.heap.size ≤ w'.heap.size
  block : ∀ k, k < w.heap.size → k ≠ R → w'.heap[k]? = w.heap[k]?
theorem Keep.refl (R : Nat) (w : World) : Keep R w w := ⟨rfl, rfl, rfl, Nat.le_refl _, fun _ _ _ => rfl⟩
theorem Keep.trans {R : Nat} {a b c : World} (h : Keep R a b) (k : Keep R b c) : Keep R a c :=
  ⟨k.os.trans h.os, k.tape.trans h.tape, k.output.trans h.output, Nat.le_trans h.size k.size, fun i hi hr => (k.block i (Nat.lt_of_lt_of_le hi h.size) hr).trans (h.block i hi hr)⟩
theorem Keep.cell {R : Nat} {w w' : World} (h : Keep R w w') {p : Addr} (hp : p.block < w.heap.size) (hr : p.block ≠ R) : w'.cell? p = w.cell? p := World.cell?_of_block (w := w) (h.block p.block hp hr)
theorem Keep.frozen {R : Nat} {w w' : World} (h : Keep R w w') {p : Addr} (hp : p.block < w.heap.size) (hr : p.block ≠ R) : w'.frozen? p = w.frozen? p := World.frozen?_of_block (w := w) (h.block p.block hp hr)
theorem Keep.below {R : Nat} {w w' : World} (h : Keep R w w') {B : Nat} (hB : B ≤ R) (hB' : B ≤ w.heap.size) : Below B w w' :=
  ⟨h.os, h.tape, h.output, h.size, fun k hk => h.block k (by omega) (by omega)⟩
theorem Keep.drew {R : Nat} {a w : World} (h : Keep R a w) : Keep R a w.drew := ⟨h.os, h.tape, h.output, h.size, h.block⟩
theorem Keep.drewN {R : Nat} {a w : World} (n : Nat) (h : Keep R a w) : Keep R a (w.drewN n) := ⟨h.os, h.tape, h.output, h.size, h.block⟩
theorem Keep.alloc {R : Nat} {a w : World} (h : Keep R a w) (o : Obj) : Keep R a (w.alloc o) :=
  h.trans ⟨rfl, rfl, rfl, by simp, fun k hk _ => Below.heap_alloc _ _ _ (by omega)⟩
theorem Keep.setCell {R : Nat} {a w : World} (h : Keep R a w) {p : Addr} (hp : p.block = R) (u : Value) : Keep R a (w.setCell p u) :=
  h.trans ⟨rfl, rfl, rfl, by simp [World.setCell], fun k hk hr => Below.heap_setCell _ _ _ _ (by omega)⟩
theorem IsBytes.keep {w w' : World} {a : Option Addr} {len R : Nat} (h : IsBytes w a len) (k : Keep R w w') (hr : 0 < len → ∀ b, (∃ off, a = some ⟨b, off, none⟩) → b ≠ R) : IsBytes w' a len := by
  rcases h with h | ⟨b, off, rfl, hb, h⟩
  · exact .inl h
  · refine .inr ⟨b, off, rfl, Nat.lt_of_lt_of_le hb k.size, fun i hi => ?_⟩
    obtain ⟨z, z0, z1, hz⟩ := h i hi
    exact ⟨z, z0, z1, by rw [k.cell hb (hr (by omega) b ⟨_, rfl⟩)]; exact hz⟩
/-- The reader moves on. -/
theorem Rd.step {w w' : World} {R : Nat} {K : Int} {a : Option Addr} {len cap : Nat} {p : Int} (k : Keep R w w') (h1 : len ≤ 2000) (h1' : len ≤ cap) (h2 : 0 ≤ p) (h3 : p ≤ K) (h4 : w'.cell? ⟨R, 0, none⟩ = some (.slice a len cap)) (h5 : w'.cell? ⟨R, 1, none⟩ = some (.int .i64 p))
    (h6 : w'.frozen? ⟨R, 1, none⟩ = false) (h7 : 0 < len → ∀ b, (∃ off, a = some ⟨b, off, none⟩) → b < R) (h8 : IsBytes w a len) : Rd w' R K :=
  ⟨a, len, cap, p, h1, h1', h2, h3, h4, h5, h6, h7, h8.keep k (fun h0 b hb => by have := h7 h0 b hb; omega)⟩
/-- Other memory turns: the reader is as it was. -/
theorem Rd.mono {w : World} {R : Nat} {K K' : Int} (h : Rd w R K) (hK : K ≤ K') : Rd w R K' := by
  obtain ⟨a, len, cap, p, h1, h1', h2, h3, h⟩ := h
  exact ⟨a, len, cap, p, h1, h1', h2, by omega, h⟩
theorem Rd.alloc {w : World} {R : Nat} {K : Int} (h : Rd w R K) (hR : R < w.heap.size) (o : Obj) : Rd (w.alloc o) R K := by
  obtain ⟨a, len, cap, p, h1, h1', h2, h3, h4, h5, h6, h7, h8⟩ := h
  have b : Below w.heap.size w (w.alloc o) := (Below.refl _ _).alloc (Nat.le_refl _) o
  refine ⟨a, len, cap, p, h1, h1', h2, h3, by rw [b.cell (by exact hR)]; exact h4, by rw [b.cell (by exact hR)]; exact h5, by rw [b.frozen (by exact hR)]; exact h6, h7, ?_⟩
  exact h8.keep (R := w.heap.size) ((Keep.refl _ _).alloc o) (fun h0 b hb => by have := h7 h0 b hb; omega)
def PickPost (n : Int) (R : Nat) (K : Int) (w : World) (e : Ending) (w' : World) : Prop :=
  ∃ x : Int, e = .returned (.int .i64 x) ∧ 0 ≤ x ∧ (x < n ∨ x = 0) ∧ Keep R w w' ∧ Rd w' R (K + 1)
theorem xor_nonneg {x y : Int} (h1 : 0 ≤ x) (h2 : x < 4611686018427387904) (h3 : 0 ≤ y) (h4 : y < 4611686018427387904) : 0 ≤ bits .xor .i64 x y := by
  obtain ⟨A, rfl⟩ := Int.eq_ofNat_of_zero_le h1
  obtain ⟨B, rfl⟩ := Int.eq_ofNat_of_zero_le h3
  have hx : A ^^^ B < 2 ^ 62 := Nat.xor_lt_two_pow (by omega) (by omega)
  show 0 ≤ IntKind.i64.wrap ((BitVec.ofInt 64 (A : Int) ^^^ BitVec.ofInt 64 (B : Int)).toNat : Int)
  have ha : (BitVec.ofInt 64 (A : Int)).toNat = A := by rw [BitVec.ofInt_natCast, BitVec.toNat_ofNat]; exact Nat.mod_eq_of_lt (by omega)
  have hb : (BitVec.ofInt 64 (B : Int)).toNat = B := by rw [BitVec.ofInt_natCast, BitVec.toNat_ofNat]; exact Nat.mod_eq_of_lt (by omega)
  rw [BitVec.toNat_xor, ha, hb, IntKind.wrap_i64]
  omega
set_option maxHeartbeats 400000 in
theorem pick_any (n : Int) (R : Nat) (K : Int) (w : World) (hR : R < w.heap.size) (hK : 0 ≤ K) (hK' : K ≤ 1000000000) (hn : 0 ≤ n) (hn' : n ≤ 1000000000) (hrd : Rd w R K) :
    Calls Try.prog 37 #[.pointer (some ⟨R, 0, none⟩), .int .i64 n] w (PickPost n R K w) := by
  obtain ⟨a, len, cap, p, h1, h1', h2, h3, h4, h5, h6, h7, h8⟩ := hrd
  have kp : Keep R w (w.setCell ⟨R, 1, none⟩ (.int .i64 (p + 1))) := Keep.setCell (p := ⟨R, 1, none⟩) (Keep.refl R w) rfl _
  have g4 : (w.setCell ⟨R, 1, none⟩ (.int .i64 (p + 1))).cell? ⟨R, 0, none⟩ = some (.slice a len cap) := by go_simp
  have g5 : (w.setCell ⟨R, 1, none⟩ (.int .i64 (p + 1))).cell? ⟨R, 1, none⟩ = some (.int .i64 (p + 1)) := by go_simp
  have g6 : (w.setCell ⟨R, 1, none⟩ (.int .i64 (p + 1))).frozen? ⟨R, 1, none⟩ = false := by rw [frozen_setCell]; exact h6
  have fin : Rd (w.setCell ⟨R, 1, none⟩ (.int .i64 (p + 1))) R (K + 1) := Rd.step kp h1 h1' (by omega) (by omega) g4 g5 g6 h7 h8
  clear g4 g5 g6
  by_cases hn1 : n < 1
  · have hd : decide (n < 1) = true := by simpa using hn1
    go_enter Try.func37, Try.ntmps37
    go_wp2
    go_ret
    exact ⟨0, rfl, Int.le_refl 0, .inr rfl, kp, fin⟩
  · have hd : decide (n < 1) = false := by simpa using hn1
    by_cases hl : len = 0
    · subst hl
      go_enter Try.func37, Try.ntmps37
      go_wp2
      go_ret
      exact ⟨0, rfl, Int.le_refl 0, .inr rfl, kp, fin⟩
    · have hl0 : ((len : Int) == 0) = false := by simp; omega
      rcases h8 with h8 | ⟨b, off, rfl, hb, hc⟩
      · omega
      have hbR : b ≠ R := by have := h7 (by omega) b ⟨_, rfl⟩; omega
      by_cases hp : p < len
      · obtain ⟨z, z0, z1, hz⟩ := hc p.toNat (by omega)
        go_enter Try.func37, Try.ntmps37
        go_wp2
        go_ret
        exact ⟨z % n, rfl, Int.emod_nonneg z (by omega), .inl (Int.emod_lt_of_pos z (by omega)), kp, fin⟩
      · have q0 := Int.emod_nonneg p (b := (len : Int)) (by omega)
        have q1 := Int.emod_lt_of_pos p (b := (len : Int)) (by omega)
        have r0 := Int.emod_nonneg (p * 7 + 3) (b := (len : Int)) (by omega)
        have r1 := Int.emod_lt_of_pos (p * 7 + 3) (b := (len : Int)) (by omega)
        have s0 := Int.ediv_nonneg (a := p) (b := (len : Int)) (by omega) (by omega)
        have s1 := Int.ediv_le_self (a := p) (len : Int) (by omega)
        obtain ⟨z, z0, z1, hz⟩ := hc (p % len).toNat (by omega)
        obtain ⟨y, y0, y1, hy⟩ := hc ((p * 7 + 3) % len).toNat (by omega)
        go_enter Try.func37, Try.ntmps37
        go_wp2
        go_quiet (fail)
        go_wp2
        go_ret
        have hx := xor_nonneg (x := z * 131 + y * 1117 + p * 29 + p / (len : Int) * 53) (y := (z * 131 + y * 1117 + p * 29 + p / (len : Int) * 53) / 64) (by omega) (by omega) (by omega) (by omega)
        exact ⟨_, rfl, Int.tmod_nonneg n hx, .inl (Int.tmod_lt_of_pos _ (by omega)), kp.drewN _, fin⟩
end Go.Proofs.Ytdifhjjkgcipaaa
