/- A struct of five one-cell fields that comes in by value: its cells, one by one. No program in sight. -/
import Derived.Lib.SmallJoins
namespace Go.Proofs.YtiplcndacmicoaaDoor
open Go.Joins Go.ChangeShapes Go.WideShapes Go.RowKit Go.Deep
theorem list_five {α : Type} {l : List α} (h : l.length = 5) : ∃ a b c d e, l = [a, b, c, d, e] := by
  match l, h with
  | [a, b, c, d, e], _ => exact ⟨a, b, c, d, e, rfl⟩
theorem open_agg5 {H : Type} {enc : TypeId × Value → H} {P : Program} {w : World} {base : Nat} {spare : Nat → Bool} {held : Bool} {r : Reach} {b0 : Nat} {t : TypeId} {f0 f1 f2 f3 f4 : Field} {v : Value} {d : DataW H} {p : List MemPlace}
    (hs : P.underlying t = some (.struct #[f0, f1, f2, f3, f4])) (hone : oneCellFields P #[f0, f1, f2, f3, f4] = true) (hC : P.cellsOf t = 5) (hv : Value.okWide P w r b0 t v) (h : DataW.Trod enc P w base spare held t v d p) :
    ∃ (v0 v1 v2 v3 v4 : Value) (y0 y1 y2 y3 y4 : DataW H × List MemPlace) (n : Nat), v = .agg #[v0, v1, v2, v3, v4] ∧ d = .agg [y0.1, y1.1, y2.1, y3.1, y4.1] ∧ p = y0.2 ++ (y1.2 ++ (y2.2 ++ (y3.2 ++ y4.2))) ∧
      DataW.trod enc P w base spare held n f0.type [v0] = some y0 ∧ DataW.trod enc P w base spare held n f1.type [v1] = some y1 ∧ DataW.trod enc P w base spare held n f2.type [v2] = some y2 ∧ DataW.trod enc P w base spare held n f3.type [v3] = some y3 ∧ DataW.trod enc P w base spare held n f4.type [v4] = some y4 := by
  obtain ⟨cs, rfl, hsz⟩ := okWide_struct hs hv
  obtain ⟨a, b, c, e, f, hl⟩ := list_five (l := cs.toList) (by rw [Array.length_toList]; exact hsz.trans hC)
  obtain rfl : cs = #[a, b, c, e, f] := by cases cs; simp_all
  obtain ⟨fuel, hf⟩ := h
  obtain ⟨ys, n, _, hx, _, hlen, hg⟩ := DataW.trod_struct hs hf
  obtain ⟨y0, y1, y2, y3, y4, rfl⟩ := list_five hlen
  simp only [Prod.mk.injEq] at hx
  have g : ∀ (j : Nat) (fj : Field) (vj : Value) (yj : DataW H × List MemPlace), #[f0, f1, f2, f3, f4][j]? = some fj → [a, b, c, e, f][j]? = some vj → [y0, y1, y2, y3, y4][j]? = some yj → DataW.trod enc P w base spare held n fj.type [vj] = some yj := by
    intro j fj vj yj h1 h2 h3
    obtain ⟨o, k⟩ := hone_of hone j fj h1
    have q := hg j fj h1
    rw [o, k, h3] at q
    have hd : ([a, b, c, e, f].drop j).take 1 = [vj] := by
      obtain ⟨hj, rfl⟩ := List.getElem?_eq_some_iff.1 h2
      rw [List.drop_eq_getElem_cons hj]
      rfl
    rw [← hd]
    exact q
  exact ⟨a, b, c, e, f, y0, y1, y2, y3, y4, n, rfl, by simpa using hx.1, by simpa using hx.2, g 0 _ _ _ rfl rfl rfl, g 1 _ _ _ rfl rfl rfl, g 2 _ _ _ rfl rfl rfl, g 3 _ _ _ rfl rfl rfl, g 4 _ _ _ rfl rfl rfl⟩
end Go.Proofs.YtiplcndacmicoaaDoor
