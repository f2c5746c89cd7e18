/- The reader: one, newReader. -/
import Derived.Test.YtdifhjjkgcipaaaReader
namespace Go.Proofs.Ytdifhjjkgcipaaa
open Go.RowKit
set_option linter.unusedVariables false
/-- Block b is a row of n numbers in lo..hi. -/
def IntsIn (w : World) (b n : Nat) (lo hi : Int) : Prop := ∀ i, i < n → ∃ z : Int, lo ≤ z ∧ z ≤ hi ∧ w.cell? ⟨b, i, none⟩ = some (.int .i64 z)
theorem IntsIn.keep {w w' : World} {b n R : Nat} {lo hi : Int} (h : IntsIn w b n lo hi) (k : Keep R w w') (hb : b < w.heap.size) (hr : b ≠ R) : IntsIn w' b n lo hi := fun i hi => by
  obtain ⟨z, z0, z1, hz⟩ := h i hi
  exact ⟨z, z0, z1, by rw [k.cell hb hr]; exact hz⟩
theorem IntsIn.mono {w : World} {b n : Nat} {lo hi lo' hi' : Int} (h : IntsIn w b n lo hi) (h1 : lo' ≤ lo) (h2 : hi ≤ hi') : IntsIn w b n lo' hi' := fun i hi => by
  obtain ⟨z, z0, z1, hz⟩ := h i hi
  exact ⟨z, by omega, by omega, hz⟩
theorem intsIn_new (w : World) (xs : List Int) (T : TypeId) (m : Nat × Nat) (n : Nat) (lo hi : Int) (hn : n = xs.length) (h : ∀ x ∈ xs, lo ≤ x ∧ x ≤ hi) : IntsIn (w.alloc (.cells (xs.map (Value.int .i64)).toArray T m)) w.heap.size n lo hi := fun i hi => by
  subst hn
  refine ⟨xs[i], (h _ (List.getElem_mem hi)).1, (h _ (List.getElem_mem hi)).2, ?_⟩
  rw [World.cell?_alloc_mark]
  simp [hi]
theorem intsIn_lit (w : World) (xs : List Int) (T : TypeId) (m : Nat × Nat) (b n : Nat) (lo hi : Int) (hn : n = xs.length) (hb : b = w.heap.size) (h : ∀ x ∈ xs, lo ≤ x ∧ x ≤ hi) : IntsIn (w.alloc (.cells (xs.map (Value.int .i64)).toArray T m)) b n lo hi := by
  subst hb
  exact intsIn_new w xs T m n lo hi hn h
def OnePost (lo hi : Int) (R : Nat) (K : Int) (w : World) (e : Ending) (w' : World) : Prop :=
  ∃ x : Int, e = .returned (.int .i64 x) ∧ lo ≤ x ∧ x ≤ hi ∧ Keep R w w' ∧ Rd w' R (K + 1)
set_option maxHeartbeats 400000 in
theorem one_any (b n c : Nat) (lo hi : Int) (R : Nat) (K : Int) (w : World) (hl : IntsIn w b n lo hi) (hn : 1 ≤ n) (hn' : n ≤ 1000000000) (hb : b < w.heap.size) (hr : b ≠ R) (hR : R < w.heap.size) (hK : 0 ≤ K) (hK' : K ≤ 1000000000) (hrd : Rd w R K) :
    Calls Try.prog 29 #[.pointer (some ⟨R, 0, none⟩), .slice (some ⟨b, 0, none⟩) n c] w (OnePost lo hi R K w) := by
  have H := Lib.hid hrd
  clear hrd
  go_enter Try.func29, Try.ntmps29
  go_wp2_with fail
  refine (pick_any (n : Int) R K w hR hK hK' (by omega) (by omega) H.out).mono ?_
  rintro e w1 ⟨x, rfl, x0, x1, k, hrd1⟩
  obtain ⟨z, z0, z1, hz⟩ := (hl.keep k hb hr) x.toNat (by omega)
  have hx : x < (n : Int) := by omega
  have H1 := Lib.hid hrd1
  have K1 := Lib.hid k
  clear hrd1 k
  go_wp2
  go_ret
  exact ⟨z, rfl, z0, z1, K1.out, H1.out⟩
def NewPost (w : World) (e : Ending) (w' : World) : Prop :=
  e = .returned (.pointer (some ⟨w.heap.size, 0, none⟩)) ∧ Below w.heap.size w w' ∧ Rd w' w.heap.size 0 ∧ w'.heap.size = w.heap.size + 1
theorem IsBytes.lt {w : World} {a : Option Addr} {len : Nat} (h : IsBytes w a len) : 0 < len → ∀ b, (∃ off, a = some ⟨b, off, none⟩) → b < w.heap.size := by
  rintro h0 b ⟨off, rfl⟩
  rcases h with h | ⟨b', off', h, hb, _⟩
  · omega
  · simp at h; omega
theorem IsBytes.cut {w : World} {a : Option Addr} {len n : Nat} (h : IsBytes w a len) (hn : n ≤ len) : IsBytes w a n := by
  rcases h with h | ⟨b', off', h, hb, hc⟩
  · exact .inl (by omega)
  · exact .inr ⟨b', off', h, hb, fun i hi => hc i (by omega)⟩
theorem addr_add (b off i : Nat) : (⟨b, off, none⟩ : Addr).add i = ⟨b, off + i, none⟩ := by
  by_cases e : i = 0
  · subst e; simp [Addr.add]
  · simp [Addr.add, e]
/-- What a reading of a slice of bytes gives. -/
theorem isBytes_open {w : World} {x : Addr} {len cap : Nat} {zs : List Int} (hz : zs.length = cap) (hl : len ≤ cap) (hcell : ∀ i, i < zs.length → w.cell? (x.add i) = some (.int .u8 (zs.getD i 0)))
    (hwz : ∀ n ∈ zs, (Lit.int .u8 n).wf = true) : IsBytes w (some x) len := by
  by_cases h0 : len = 0
  · exact .inl h0
  · obtain ⟨b, off, spot⟩ := x
    have hc := hcell 0 (by omega)
    have hspot : spot = none := by simpa [Addr.add] using World.cell?_spot hc
    subst hspot
    refine .inr ⟨b, off, rfl, ?_, fun i hi => ?_⟩
    · exact cell_lt hc
    · refine ⟨zs.getD i 0, ?_⟩
      have hi' : i < zs.length := by omega
      have := hwz (zs.getD i 0) (by rw [List.getD_eq_getElem?_getD, List.getElem?_eq_getElem hi']; exact List.getElem_mem hi')
      have hb : 0 ≤ zs.getD i 0 ∧ zs.getD i 0 ≤ 255 := by simpa [Lit.wf, IntKind.min, IntKind.max, IntKind.signed, IntKind.bits] using this
      have hci := hcell i hi'
      exact ⟨hb.1, hb.2, by rw [addr_add] at hci; exact hci⟩
theorem rd_new (w : World) (a : Option Addr) (len cap : Nat) (T : TypeId) (hl : len ≤ 2000) (hlc : len ≤ cap) (h : IsBytes w a len) : Rd (w.alloc (.cells #[.slice a len cap, .int .i64 0] T)) w.heap.size 0 :=
  Rd.step (w := w) ((Keep.refl _ _).alloc _) hl hlc (Int.le_refl 0) (Int.le_refl 0) (by rw [World.cell?_alloc_mark]; rfl) (by rw [World.cell?_alloc_mark]; rfl) (by go_simp) h.lt h
set_option maxHeartbeats 400000 in
theorem newReader_any (a : Option Addr) (len cap : Nat) (w : World) (hlc : len ≤ cap) (hc : cap ≤ maxLen) (h : IsBytes w a len) :
    Calls Try.prog 27 #[.slice a len cap] w (NewPost w) := by
  unfold maxLen at hc
  by_cases hl : len ≤ 2000
  · have f := rd_new w a len cap 55 hl hlc h
    go_enter Try.func27, Try.ntmps27
    go_wp2
    go_ret
    exact ⟨rfl, (Below.refl _ _).alloc (Nat.le_refl _) _, f, by simp⟩
  · have f := rd_new w a 2000 cap 55 (Nat.le_refl _) (by omega) (h.cut (by omega))
    rcases h with h | ⟨b, off, rfl, hb, hc'⟩
    · omega
    go_enter Try.func27, Try.ntmps27
    go_wp2
    go_ret
    exact ⟨rfl, (Below.refl _ _).alloc (Nat.le_refl _) _, f, by simp⟩
end Go.Proofs.Ytdifhjjkgcipaaa
