/- Notes: a row of notes that came in, opened. -/
import Derived.Test.YtdifhjjkgcipaaaNote13
import Derived.Deep.Strs
import Derived.Deep.SlicePairs
import Derived.ChangeArms
namespace Go.Proofs.Ytdifhjjkgcipaaa
open Go.RowKit Go.ChangeShapes Go.WideShapes Go.Deep
set_option linter.unusedVariables false
theorem cells_note : Try.prog.cellsOf 52 = 3 := by kernel_rfl
theorem cells_int : Try.prog.cellsOf 3 = 1 := by kernel_rfl
theorem sv_open {H : Type} {enc : TypeId × Value → H} {w : World} {base : Nat} {spare : Nat → Bool} {held : Bool} {fuel : Nat} {cs : List Value} {x : DataW H × List MemPlace}
    (h : DataW.trod enc Try.prog w base spare held fuel 36 cs = some x) : ∃ a L c A, cs = [.slice a L c] ∧ SV w (.slice a L c) L A := by
  rcases open_slice Try.underlying36 h with ⟨rfl, _⟩ | ⟨a, len, cap, m, n, D, Pl, rfl, hb, hl, hm, hmm, rfl, hx⟩
  · exact ⟨none, 0, 0, fun _ => (0, 0, 0), rfl, none, 0, rfl, Nat.le_refl _, by omega, fun h => by omega⟩
  have hlm : len ≤ m := by rw [hmm]; split <;> omega
  have each : ∀ i, i < len → ∃ q : Nt, w.cell? (a.add (i * 3)) = some (.int .i64 q.1) ∧ w.cell? (a.add (i * 3 + 1)) = some (.int .i64 q.2.1) ∧ w.cell? (a.add (i * 3 + 2)) = some (.int .i64 q.2.2) := by
    intro i hi
    obtain ⟨cs', h1, h2⟩ := hx i (by omega)
    rw [cells_note] at h1
    obtain ⟨_, hlen, hcell⟩ := World.cells?_some h1
    obtain ⟨y0, y1, y2, k, _, _, g0, g1, g2⟩ := trod_struct3 Try.underlying52 h2
    match cs', hlen with
    | [u0, u1, u2], _ =>
      simp [cells_int] at g0 g1 g2
      obtain ⟨n0, e0, _, _⟩ := DataW.trod_int Try.underlying3 g0
      obtain ⟨n1, e1, _, _⟩ := DataW.trod_int Try.underlying3 g1
      obtain ⟨n2, e2, _, _⟩ := DataW.trod_int Try.underlying3 g2
      simp at e0 e1 e2
      subst e0 e1 e2
      have c0 := hcell 0 (by omega)
      have c1 := hcell 1 (by omega)
      have c2 := hcell 2 (by omega)
      rw [add_add] at c0 c1 c2
      exact ⟨(n0, n1, n2), by simpa using c0, by simpa using c1, by simpa using c2⟩
  obtain ⟨A, hA⟩ := choose_lt each
  refine ⟨some a, len, cap, A, rfl, some a, cap, rfl, hl, by unfold maxLen at hm; omega, fun h1 => ?_⟩
  obtain ⟨b, off, spot⟩ := a
  have hspot : spot = none := by
    have := (hA 0 (by omega)).1
    simpa [Addr.add] using World.cell?_spot this
  subst hspot
  have ad : ∀ i, (⟨b, off, none⟩ : Addr).add i = ⟨b, off + i, none⟩ := fun i => by
    by_cases e : i = 0
    · subst e; simp [Addr.add]
    · simp [Addr.add, e]
  refine ⟨b, off, rfl, ?_, fun j hj => ?_⟩
  · have := cell_lt (hA 0 (by omega)).1
    rw [ad] at this
    exact this
  · obtain ⟨x0, x1, x2⟩ := hA j hj
    rw [ad] at x0 x1 x2
    exact ⟨x0, x1, x2⟩
end Go.Proofs.Ytdifhjjkgcipaaa
