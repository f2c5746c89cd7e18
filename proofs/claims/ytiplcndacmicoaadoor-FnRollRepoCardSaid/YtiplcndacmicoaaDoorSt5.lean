/- A struct of five numbers that is stored into a block and read out of it as a result. -/
import Derived.Test.YtiplcndacmicoaaDoorReader3
namespace Go.Proofs.YtiplcndacmicoaaDoor
open Go.RowKit
set_option linter.unusedVariables false
theorem sc_same {w : World} {a : Addr} {u v : Value} (h : w.cell? a = some v) : (w.setCell a u).cell? a = some u := World.cell?_setCell_same w a u h
theorem sc_far {w : World} {a b : Addr} {u v : Value} (hne : a ≠ b) (h : w.cell? b = some v) : (w.setCell a u).cell? b = some v := by
  rw [World.cell?_setCell_other w a b u hne]; exact h
def st5 (w : World) (b : Nat) (n0 n1 n2 n3 n4 : Int) : World :=
  ((((w.setCell ⟨b, 0, none⟩ (.int .i64 n0)).setCell ⟨b, 1, none⟩ (.int .i64 n1)).setCell ⟨b, 2, none⟩ (.int .i64 n2)).setCell ⟨b, 3, none⟩ (.int .i64 n3)).setCell ⟨b, 4, none⟩ (.int .i64 n4)
/-- five cells of a block -/
def Has5 (w : World) (b : Nat) (n0 n1 n2 n3 n4 : Int) : Prop :=
  w.cell? ⟨b, 0, none⟩ = some (.int .i64 n0) ∧ w.cell? ⟨b, 1, none⟩ = some (.int .i64 n1) ∧ w.cell? ⟨b, 2, none⟩ = some (.int .i64 n2) ∧ w.cell? ⟨b, 3, none⟩ = some (.int .i64 n3) ∧ w.cell? ⟨b, 4, none⟩ = some (.int .i64 n4)
theorem Has5.set {w : World} {b : Nat} {n0 n1 n2 n3 n4 m0 m1 m2 m3 m4 : Int} (h : Has5 w b m0 m1 m2 m3 m4) : Has5 (st5 w b n0 n1 n2 n3 n4) b n0 n1 n2 n3 n4 := by
  obtain ⟨h0, h1, h2, h3, h4⟩ := h
  have e : ∀ {i j : Nat}, i ≠ j → (⟨b, i, none⟩ : Addr) ≠ ⟨b, j, none⟩ := fun h hh => h (congrArg Addr.off hh)
  unfold st5
  refine ⟨?_, ?_, ?_, ?_, ?_⟩
  · exact sc_far (e (by decide)) (sc_far (e (by decide)) (sc_far (e (by decide)) (sc_far (e (by decide)) (sc_same h0))))
  · exact sc_far (e (by decide)) (sc_far (e (by decide)) (sc_far (e (by decide)) (sc_same (sc_far (e (by decide)) h1))))
  · exact sc_far (e (by decide)) (sc_far (e (by decide)) (sc_same (sc_far (e (by decide)) (sc_far (e (by decide)) h2))))
  · exact sc_far (e (by decide)) (sc_same (sc_far (e (by decide)) (sc_far (e (by decide)) (sc_far (e (by decide)) h3))))
  · exact sc_same (sc_far (e (by decide)) (sc_far (e (by decide)) (sc_far (e (by decide)) (sc_far (e (by decide)) h4))))
theorem Has5.far {w : World} {b b' o : Nat} {u : Value} {n0 n1 n2 n3 n4 : Int} (h : Has5 w b n0 n1 n2 n3 n4) (hne : b' ≠ b) : Has5 (w.setCell ⟨b', o, none⟩ u) b n0 n1 n2 n3 n4 := by
  obtain ⟨h0, h1, h2, h3, h4⟩ := h
  have e : ∀ j : Nat, (⟨b', o, none⟩ : Addr) ≠ ⟨b, j, none⟩ := fun j hh => hne (congrArg Addr.block hh)
  exact ⟨sc_far (e _) h0, sc_far (e _) h1, sc_far (e _) h2, sc_far (e _) h3, sc_far (e _) h4⟩
theorem Has5.farst {w : World} {b b' : Nat} {m0 m1 m2 m3 m4 n0 n1 n2 n3 n4 : Int} (h : Has5 w b n0 n1 n2 n3 n4) (hne : b' ≠ b) : Has5 (st5 w b' m0 m1 m2 m3 m4) b n0 n1 n2 n3 n4 :=
  ((((h.far hne).far hne).far hne).far hne).far hne
theorem Has5.alloc {w : World} {b : Nat} {n0 n1 n2 n3 n4 : Int} (h : Has5 w b n0 n1 n2 n3 n4) (o : Obj) : Has5 (w.alloc o) b n0 n1 n2 n3 n4 := by
  obtain ⟨h0, h1, h2, h3, h4⟩ := h
  exact ⟨ca h0, ca h1, ca h2, ca h3, ca h4⟩
theorem Has5.below {w w' : World} {b : Nat} {n0 n1 n2 n3 n4 : Int} (h : Has5 w b n0 n1 n2 n3 n4) (hb : Below w.heap.size w w') : Has5 w' b n0 n1 n2 n3 n4 := by
  obtain ⟨h0, h1, h2, h3, h4⟩ := h
  exact ⟨bc hb h0, bc hb h1, bc hb h2, bc hb h3, bc hb h4⟩
theorem Has5.new (w : World) (n0 n1 n2 n3 n4 : Int) (T : TypeId) : Has5 (w.alloc (.cells #[.int .i64 n0, .int .i64 n1, .int .i64 n2, .int .i64 n3, .int .i64 n4] T)) w.heap.size n0 n1 n2 n3 n4 := by
  refine ⟨?_, ?_, ?_, ?_, ?_⟩ <;> simp
def Unf5 (w : World) (b : Nat) : Prop :=
  w.frozen? ⟨b, 0, none⟩ = false ∧ w.frozen? ⟨b, 1, none⟩ = false ∧ w.frozen? ⟨b, 2, none⟩ = false ∧ w.frozen? ⟨b, 3, none⟩ = false ∧ w.frozen? ⟨b, 4, none⟩ = false
theorem Unf5.st {w : World} {b b' : Nat} {n0 n1 n2 n3 n4 : Int} (h : Unf5 w b) : Unf5 (st5 w b' n0 n1 n2 n3 n4) b := by
  unfold st5
  simpa only [Unf5, frozen_setCell] using h
theorem Unf5.alloc {w : World} {b : Nat} (h : Unf5 w b) (hl : b < w.heap.size) (o : Obj) : Unf5 (w.alloc o) b := by
  obtain ⟨h0, h1, h2, h3, h4⟩ := h
  exact ⟨fa hl h0, fa hl h1, fa hl h2, fa hl h3, fa hl h4⟩
theorem Unf5.below {w w' : World} {b : Nat} (h : Unf5 w b) (hb : Below w.heap.size w w') (hl : b < w.heap.size) : Unf5 w' b := by
  obtain ⟨h0, h1, h2, h3, h4⟩ := h
  exact ⟨bf hb hl h0, bf hb hl h1, bf hb hl h2, bf hb hl h3, bf hb hl h4⟩
theorem Unf5.drew {w : World} {b : Nat} (h : Unf5 w b) : Unf5 w.drew b := h
theorem Has5.drew {w : World} {b : Nat} {n0 n1 n2 n3 n4 : Int} (h : Has5 w b n0 n1 n2 n3 n4) : Has5 w.drew b n0 n1 n2 n3 n4 := h
theorem st5_below {B b : Nat} {a w : World} {n0 n1 n2 n3 n4 : Int} (h : Below B a w) (hb : B ≤ b) : Below B a (st5 w b n0 n1 n2 n3 n4) :=
  Below.setCell (Below.setCell (Below.setCell (Below.setCell (Below.setCell h hb _) hb _) hb _) hb _) hb _
theorem st5_kb {B R b : Nat} {a w : World} {n0 n1 n2 n3 n4 : Int} (h : KB B R a w) (hb : B ≤ b) : KB B R a (st5 w b n0 n1 n2 n3 n4) :=
  KB.setCell (KB.setCell (KB.setCell (KB.setCell (KB.setCell h hb _) hb _) hb _) hb _) hb _
theorem st5_size (w : World) (b : Nat) (n0 n1 n2 n3 n4 : Int) : (st5 w b n0 n1 n2 n3 n4).heap.size = w.heap.size := by
  unfold st5; simp
theorem res5 {fn : Func} {p : Tmp} (hr : fn.results = #[.cell p 24]) {tmps : Array Value} {w : World} {b : Nat} {n0 n1 n2 n3 n4 : Int} (hp : tmps[p]?.getD undef = .pointer (some ⟨b, 0, none⟩)) (h : Has5 w b n0 n1 n2 n3 n4) :
    (results fn tmps).run Tryd.prog w = .ok (.agg #[.int .i64 n0, .int .i64 n1, .int .i64 n2, .int .i64 n3, .int .i64 n4]) w := by
  obtain ⟨c0, c1, c2, c3, c4⟩ := h
  simp [results, hr, hp, go_sem, c0, c1, c2, c3, c4]
theorem res5t {fn : Func} {p q : Tmp} (hr : fn.results = #[.cell p 24, .tmp q]) {tmps : Array Value} {w : World} {b : Nat} {n0 n1 n2 n3 n4 : Int} {u : Value} (hp : tmps[p]?.getD undef = .pointer (some ⟨b, 0, none⟩)) (hq : tmps[q]?.getD undef = u) (h : Has5 w b n0 n1 n2 n3 n4) :
    (results fn tmps).run Tryd.prog w = .ok (.tuple #[.agg #[.int .i64 n0, .int .i64 n1, .int .i64 n2, .int .i64 n3, .int .i64 n4], u]) w := by
  obtain ⟨c0, c1, c2, c3, c4⟩ := h
  simp [results, hr, hp, hq, go_sem, c0, c1, c2, c3, c4]
theorem res5tt {fn : Func} {p q r : Tmp} (hr : fn.results = #[.cell p 24, .tmp q, .tmp r]) {tmps : Array Value} {w : World} {b : Nat} {n0 n1 n2 n3 n4 : Int} {u v : Value} (hp : tmps[p]?.getD undef = .pointer (some ⟨b, 0, none⟩)) (hq : tmps[q]?.getD undef = u) (hq' : tmps[r]?.getD undef = v) (h : Has5 w b n0 n1 n2 n3 n4) :
    (results fn tmps).run Tryd.prog w = .ok (.tuple #[.agg #[.int .i64 n0, .int .i64 n1, .int .i64 n2, .int .i64 n3, .int .i64 n4], u, v]) w := by
  obtain ⟨c0, c1, c2, c3, c4⟩ := h
  simp [results, hr, hp, hq, hq', go_sem, c0, c1, c2, c3, c4]
end Go.Proofs.YtiplcndacmicoaaDoor
