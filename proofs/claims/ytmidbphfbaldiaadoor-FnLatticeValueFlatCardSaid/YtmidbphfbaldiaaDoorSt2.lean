/- A range (two numbers) that is stored into a block and read out of it as a result. -/
import Derived.Test.YtmidbphfbaldiaaDoorWorld
import Derived.Test.YtmidbphfbaldiaaDoorInts
namespace Go.Proofs.YtmidbphfbaldiaaDoor
open Go.RowKit
set_option linter.unusedVariables false
theorem sc_same {w : World} {a : Addr} {u v : Value} (h : w.cell? a = some v) : (w.setCell a u).cell? a = some u := World.cell?_setCell_same w a u h
theorem sc_far {w : World} {a b : Addr} {u v : Value} (hne : a ≠ b) (h : w.cell? b = some v) : (w.setCell a u).cell? b = some v := by
  rw [World.cell?_setCell_other w a b u hne]; exact h
theorem sc_blk {w : World} {b o b' o' : Nat} {u v : Value} (hne : b' ≠ b) (h : w.cell? ⟨b, o, none⟩ = some v) : (w.setCell ⟨b', o', none⟩ u).cell? ⟨b, o, none⟩ = some v :=
  sc_far (fun hh => hne (congrArg Addr.block hh)) h
/-- two cells of a block -/
def Has2 (w : World) (b : Nat) (n0 n1 : Int) : Prop := w.cell? ⟨b, 0, none⟩ = some (.int .i64 n0) ∧ w.cell? ⟨b, 1, none⟩ = some (.int .i64 n1)
theorem Has2.below {w w' : World} {b : Nat} {n0 n1 : Int} (h : Has2 w b n0 n1) (k : Below w.heap.size w w') : Has2 w' b n0 n1 := ⟨bc k h.1, bc k h.2⟩
theorem Has2.fwd {w w' : World} {b B : Nat} {n0 n1 : Int} (h : Has2 w b n0 n1) (k : Below B w w') (hb : b < B) : Has2 w' b n0 n1 := ⟨(k.cell (p := ⟨b, 0, none⟩) hb).trans h.1, (k.cell (p := ⟨b, 1, none⟩) hb).trans h.2⟩
theorem Has2.lt {w : World} {b : Nat} {n0 n1 : Int} (h : Has2 w b n0 n1) : b < w.heap.size := cell_lt h.1
theorem res2 {fn : Func} {p : Tmp} (hr : fn.results = #[.cell p 28]) {tmps : Array Value} {w : World} {b : Nat} {n0 n1 : Int} (hp : tmps[p]?.getD undef = .pointer (some ⟨b, 0, none⟩)) (h : Has2 w b n0 n1) :
    (results fn tmps).run Tryd.prog w = .ok (.agg #[.int .i64 n0, .int .i64 n1]) w := by
  obtain ⟨c0, c1⟩ := h
  simp [results, hr, hp, go_sem, c0, c1]
theorem res2v {fn : Func} {p q : Tmp} (hr : fn.results = #[.cell p 28, .tmp q]) {tmps : Array Value} {w : World} {b : Nat} {n0 n1 : Int} {v : Value} (hp : tmps[p]?.getD undef = .pointer (some ⟨b, 0, none⟩)) (hq : tmps[q]?.getD undef = v) (h : Has2 w b n0 n1) :
    (results fn tmps).run Tryd.prog w = .ok (.tuple #[.agg #[.int .i64 n0, .int .i64 n1], v]) w := by
  obtain ⟨c0, c1⟩ := h
  simp [results, hr, hp, hq, go_sem, c0, c1]
end Go.Proofs.YtmidbphfbaldiaaDoor
