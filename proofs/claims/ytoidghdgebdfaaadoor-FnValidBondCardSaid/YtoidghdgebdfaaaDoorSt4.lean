/- A struct of four numbers that is stored into a block and read out of it as a result. -/
import Derived.Test.YtoidghdgebdfaaaDoorReader3
namespace Go.Proofs.YtoidghdgebdfaaaDoor
open Go.RowKit
set_option linter.unusedVariables false
theorem sc_same {w : World} {a : Addr} {u v : Value} (h : w.cell? a = some v) : (w.setCell a u).cell? a = some u := World.cell?_setCell_same w a u h
theorem sc_far {w : World} {a b : Addr} {u v : Value} (hne : a ≠ b) (h : w.cell? b = some v) : (w.setCell a u).cell? b = some v := by
  rw [World.cell?_setCell_other w a b u hne]; exact h
def st4 (w : World) (b : Nat) (n0 n1 n2 n3 : Int) : World :=
  (((w.setCell ⟨b, 0, none⟩ (.int .i64 n0)).setCell ⟨b, 1, none⟩ (.int .i64 n1)).setCell ⟨b, 2, none⟩ (.int .i64 n2)).setCell ⟨b, 3, none⟩ (.int .i64 n3)
/-- four cells of a block -/
def Has4 (w : World) (b : Nat) (n0 n1 n2 n3 : Int) : Prop :=
  w.cell? ⟨b, 0, none⟩ = some (.int .i64 n0) ∧ w.cell? ⟨b, 1, none⟩ = some (.int .i64 n1) ∧ w.cell? ⟨b, 2, none⟩ = some (.int .i64 n2) ∧ w.cell? ⟨b, 3, none⟩ = some (.int .i64 n3)
theorem Has4.set {w : World} {b : Nat} {n0 n1 n2 n3 m0 m1 m2 m3 : Int} (h : Has4 w b m0 m1 m2 m3) : Has4 (st4 w b n0 n1 n2 n3) b n0 n1 n2 n3 := by
  obtain ⟨h0, h1, h2, h3⟩ := h
  have e : ∀ {i j : Nat}, i ≠ j → (⟨b, i, none⟩ : Addr) ≠ ⟨b, j, none⟩ := fun h hh => h (congrArg Addr.off hh)
  unfold st4
  refine ⟨?_, ?_, ?_, ?_⟩
  · exact sc_far (e (by decide)) (sc_far (e (by decide)) (sc_far (e (by decide)) (sc_same h0)))
  · exact sc_far (e (by decide)) (sc_far (e (by decide)) (sc_same (sc_far (e (by decide)) h1)))
  · exact sc_far (e (by decide)) (sc_same (sc_far (e (by decide)) (sc_far (e (by decide)) h2)))
  · exact sc_same (sc_far (e (by decide)) (sc_far (e (by decide)) (sc_far (e (by decide)) h3)))
theorem Has4.far {w : World} {b b' o : Nat} {u : Value} {n0 n1 n2 n3 : Int} (h : Has4 w b n0 n1 n2 n3) (hne : b' ≠ b) : Has4 (w.setCell ⟨b', o, none⟩ u) b n0 n1 n2 n3 := by
  obtain ⟨h0, h1, h2, h3⟩ := h
  have e : ∀ j : Nat, (⟨b', o, none⟩ : Addr) ≠ ⟨b, j, none⟩ := fun j hh => hne (congrArg Addr.block hh)
  exact ⟨sc_far (e _) h0, sc_far (e _) h1, sc_far (e _) h2, sc_far (e _) h3⟩
theorem st4_below {B b : Nat} {a w : World} {n0 n1 n2 n3 : Int} (h : Below B a w) (hb : B ≤ b) : Below B a (st4 w b n0 n1 n2 n3) :=
  Below.setCell (Below.setCell (Below.setCell (Below.setCell h hb _) hb _) hb _) hb _
theorem st4_kb {B R b : Nat} {a w : World} {n0 n1 n2 n3 : Int} (h : KB B R a w) (hb : B ≤ b) : KB B R a (st4 w b n0 n1 n2 n3) :=
  KB.setCell (KB.setCell (KB.setCell (KB.setCell h hb _) hb _) hb _) hb _
theorem res4 {fn : Func} {p : Tmp} (hr : fn.results = #[.cell p 25]) {tmps : Array Value} {w : World} {b : Nat} {n0 n1 n2 n3 : Int} (hp : tmps[p]?.getD undef = .pointer (some ⟨b, 0, none⟩)) (h : Has4 w b n0 n1 n2 n3) :
    (results fn tmps).run Tryd.prog w = .ok (.agg #[.int .i64 n0, .int .i64 n1, .int .i64 n2, .int .i64 n3]) w := by
  obtain ⟨c0, c1, c2, c3⟩ := h
  simp [results, hr, hp, go_sem, c0, c1, c2, c3]
end Go.Proofs.YtoidghdgebdfaaaDoor
