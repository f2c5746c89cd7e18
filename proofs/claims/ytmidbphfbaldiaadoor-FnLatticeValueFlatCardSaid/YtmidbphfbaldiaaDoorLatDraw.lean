/- A struct of three numbers that is stored into a block and read out of it as a result; the draws of a lattice. -/
import Derived.Test.YtmidbphfbaldiaaDoorReader3
import Derived.Test.YtmidbphfbaldiaaDoorSt2
namespace Go.Proofs.YtmidbphfbaldiaaDoor
open Go.RowKit
set_option linter.unusedVariables false
def st3 (w : World) (b : Nat) (n0 n1 n2 : Int) : World :=
  ((w.setCell ⟨b, 0, none⟩ (.int .i64 n0)).setCell ⟨b, 1, none⟩ (.int .i64 n1)).setCell ⟨b, 2, none⟩ (.int .i64 n2)
/-- three cells of a block -/
def Has3 (w : World) (b : Nat) (n0 n1 n2 : Int) : Prop :=
  w.cell? ⟨b, 0, none⟩ = some (.int .i64 n0) ∧ w.cell? ⟨b, 1, none⟩ = some (.int .i64 n1) ∧ w.cell? ⟨b, 2, none⟩ = some (.int .i64 n2)
theorem Has3.set {w : World} {b : Nat} {n0 n1 n2 m0 m1 m2 : Int} (h : Has3 w b m0 m1 m2) : Has3 (st3 w b n0 n1 n2) b n0 n1 n2 := by
  obtain ⟨h0, h1, h2⟩ := h
  have e : ∀ {i j : Nat}, i ≠ j → (⟨b, i, none⟩ : Addr) ≠ ⟨b, j, none⟩ := fun h hh => h (congrArg Addr.off hh)
  unfold st3
  refine ⟨?_, ?_, ?_⟩
  · exact sc_far (e (by decide)) (sc_far (e (by decide)) (sc_same h0))
  · exact sc_far (e (by decide)) (sc_same (sc_far (e (by decide)) h1))
  · exact sc_same (sc_far (e (by decide)) (sc_far (e (by decide)) h2))
theorem Has3.far {w : World} {b b' o : Nat} {u : Value} {n0 n1 n2 : Int} (h : Has3 w b n0 n1 n2) (hne : b' ≠ b) : Has3 (w.setCell ⟨b', o, none⟩ u) b n0 n1 n2 := by
  obtain ⟨h0, h1, h2⟩ := h
  have e : ∀ j : Nat, (⟨b', o, none⟩ : Addr) ≠ ⟨b, j, none⟩ := fun j hh => hne (congrArg Addr.block hh)
  exact ⟨sc_far (e _) h0, sc_far (e _) h1, sc_far (e _) h2⟩
theorem st3_below {B b : Nat} {a w : World} {n0 n1 n2 : Int} (h : Below B a w) (hb : B ≤ b) : Below B a (st3 w b n0 n1 n2) :=
  Below.setCell (Below.setCell (Below.setCell h hb _) hb _) hb _
theorem st3_kb {B R b : Nat} {a w : World} {n0 n1 n2 : Int} (h : KB B R a w) (hb : B ≤ b) : KB B R a (st3 w b n0 n1 n2) :=
  KB.setCell (KB.setCell (KB.setCell h hb _) hb _) hb _
theorem res3 {fn : Func} {p : Tmp} (hr : fn.results = #[.cell p 24]) {tmps : Array Value} {w : World} {b : Nat} {n0 n1 n2 : Int} (hp : tmps[p]?.getD undef = .pointer (some ⟨b, 0, none⟩)) (h : Has3 w b n0 n1 n2) :
    (results fn tmps).run Tryd.prog w = .ok (.agg #[.int .i64 n0, .int .i64 n1, .int .i64 n2]) w := by
  obtain ⟨c0, c1, c2⟩ := h
  simp [results, hr, hp, go_sem, c0, c1, c2]
theorem res3t {fn : Func} {p q r : Tmp} (hr : fn.results = #[.cell p 24, .tmp q, .tmp r]) {tmps : Array Value} {w : World} {b : Nat} {n0 n1 n2 : Int} {u v : Value} (hp : tmps[p]?.getD undef = .pointer (some ⟨b, 0, none⟩)) (hq : tmps[q]?.getD undef = u) (hq' : tmps[r]?.getD undef = v) (h : Has3 w b n0 n1 n2) :
    (results fn tmps).run Tryd.prog w = .ok (.tuple #[.agg #[.int .i64 n0, .int .i64 n1, .int .i64 n2], u, v]) w := by
  obtain ⟨c0, c1, c2⟩ := h
  simp [results, hr, hp, hq, hq', go_sem, c0, c1, c2]
def LatP (R : Nat) (K n : Int) (w : World) (e : Ending) (w' : World) : Prop :=
  ∃ s r p : Int, e = .returned (.agg #[.int .i64 s, .int .i64 r, .int .i64 p]) ∧ (0 ≤ s ∧ s ≤ 9) ∧ (0 ≤ r ∧ r ≤ 3001) ∧ (-1 ≤ p ∧ p ≤ 151) ∧ Keep R w w' ∧ Rd w' R (K + n)
theorem LatP.mk {R : Nat} {K n : Int} {w w' : World} (s r p : Int) (h1 : 0 ≤ s ∧ s ≤ 9) (h2 : 0 ≤ r ∧ r ≤ 3001) (h3 : -1 ≤ p ∧ p ≤ 151) (k : Keep R w w') (hr : Rd w' R (K + n)) :
    LatP R K n w (.returned (.agg #[.int .i64 s, .int .i64 r, .int .i64 p])) w' := ⟨s, r, p, rfl, h1, h2, h3, k, hr⟩
set_option maxHeartbeats 4000000 in
theorem anyLattice_any (R : Nat) (K : Int) (w : World) (hR : R < w.heap.size) (hK : 0 ≤ K) (hK' : K ≤ 800000) (hrd : Rd w R K) :
    Calls Tryd.prog 10 #[.pointer (some ⟨R, 0, none⟩)] w (LatP R K 5 w) := by
  have HR := Lib.hid hrd
  clear hrd
  have HB := Lib.hid (KB.refl w.heap.size R w)
  have hRw : R < w.heap.size := hR
  go_enter Tryd.func10, Tryd.ntmps10
  go_wp2_with fail
  refine (one_any _ _ _ (1) (8) _ _ _ (by exact intsIn_lit _ [3, 4, 5, 2, 1, 8] _ _ _ _ _ _ rfl (by first | (simp; done) | (simp; omega) | omega) (by simp; try omega)) (by omega) (by omega) (by first | omega | (simp; done) | (simp; omega)) (by first | omega | (simp; omega)) (by first | exact hR | omega | (simp; done) | (simp; omega)) (by omega) (by omega) (Rd.fwd HR.out (by repeat (first | exact Below.refl _ _ | refine Below.drew ?_ | refine bel_drewN _ ?_ | refine Below.alloc ?_ (by first | omega | (simp; done) | (simp; omega)) _ | refine Below.setCell ?_ (by first | (show _ ≤ _; omega) | (simp; done) | (simp; omega)) _)))).mono ?_
  rintro e v1 ⟨s, rfl, s0, s1, k, r⟩
  have HBq : KB (w.heap.size) (R) w v1 := KB.callee (Nat.le_refl _) (by repeat (first | exact KB.refl _ _ _ | exact HB.out | refine KB.drew ?_ | refine KB.drewN ?_ | refine KB.alloc (Nat.le_refl _) ?_ _ | refine KB.setCell ?_ (by first | (show _ ≤ _; omega) | (simp; done) | (simp; omega)) _)) k
  have HB := Lib.hid HBq
  clear HBq
  have hR : R < v1.heap.size := Nat.lt_of_lt_of_le (by first | exact hR | omega | (simp; done) | (simp; omega)) k.size
  have HR := Lib.hid r
  have y0_1 : v1.cell? ⟨w.heap.size, 0, none⟩ = some (.int .i64 0) := kc k (by first | (simp; done) | go_simp) (by show w.heap.size ≠ _; omega)
  have yf0_1 : v1.frozen? ⟨w.heap.size, 0, none⟩ = false := kf k (by first | (simp; done) | (simp; omega) | (show w.heap.size < _; omega)) (by show w.heap.size ≠ _; omega) (by first | (simp; done) | go_simp)
  have y1_1 : v1.cell? ⟨w.heap.size, 1, none⟩ = some (.int .i64 0) := kc k (by first | (simp; done) | go_simp) (by show w.heap.size ≠ _; omega)
  have yf1_1 : v1.frozen? ⟨w.heap.size, 1, none⟩ = false := kf k (by first | (simp; done) | (simp; omega) | (show w.heap.size < _; omega)) (by show w.heap.size ≠ _; omega) (by first | (simp; done) | go_simp)
  have y2_1 : v1.cell? ⟨w.heap.size, 2, none⟩ = some (.int .i64 0) := kc k (by first | (simp; done) | go_simp) (by show w.heap.size ≠ _; omega)
  have yf2_1 : v1.frozen? ⟨w.heap.size, 2, none⟩ = false := kf k (by first | (simp; done) | (simp; omega) | (show w.heap.size < _; omega)) (by show w.heap.size ≠ _; omega) (by first | (simp; done) | go_simp)
  have yl_1 : w.heap.size < v1.heap.size := cell_lt y0_1
  have hszv1 := k.size
  try simp at hszv1
  clear r k
  go_wp2_with fail
  refine (one_any _ _ _ (400) (1200) _ _ _ (by exact intsIn_lit _ [500, 800, 1200, 400] _ _ _ _ _ _ rfl (by first | (simp; done) | (simp; omega) | omega) (by simp; try omega)) (by omega) (by omega) (by first | omega | (simp; done) | (simp; omega)) (by first | omega | (simp; omega)) (by first | exact hR | omega | (simp; done) | (simp; omega)) (by omega) (by omega) (Rd.fwd HR.out (by repeat (first | exact Below.refl _ _ | refine Below.drew ?_ | refine bel_drewN _ ?_ | refine Below.alloc ?_ (by first | omega | (simp; done) | (simp; omega)) _ | refine Below.setCell ?_ (by first | (show _ ≤ _; omega) | (simp; done) | (simp; omega)) _)))).mono ?_
  rintro e v2 ⟨x, rfl, x0, x1, k, r⟩
  have HBq : KB (w.heap.size) (R) w v2 := KB.callee (Nat.le_refl _) (by repeat (first | exact KB.refl _ _ _ | exact HB.out | refine KB.drew ?_ | refine KB.drewN ?_ | refine KB.alloc (Nat.le_refl _) ?_ _ | refine KB.setCell ?_ (by first | (show _ ≤ _; omega) | (simp; done) | (simp; omega)) _)) k
  have HB := Lib.hid HBq
  clear HBq
  have hR : R < v2.heap.size := Nat.lt_of_lt_of_le (by first | exact hR | omega | (simp; done) | (simp; omega)) k.size
  have HR := Lib.hid r
  have y0_2 : v2.cell? ⟨w.heap.size, 0, none⟩ = some (.int .i64 0) := kc k (by first | exact y0_1 | exact ca y0_1 | exact ca (ca y0_1) | exact ca (ca (ca y0_1)) | (simp; done) | go_simp) (by show w.heap.size ≠ _; omega)
  have yf0_2 : v2.frozen? ⟨w.heap.size, 0, none⟩ = false := kf k (by first | (simp; done) | (simp; omega) | (show w.heap.size < _; omega)) (by show w.heap.size ≠ _; omega) (by first | exact yf0_1 | exact fa (by show w.heap.size < _; omega) yf0_1 | exact fa (by show w.heap.size < _; simp; omega) (fa (by show w.heap.size < _; omega) yf0_1) | (simp; done) | go_simp)
  have y1_2 : v2.cell? ⟨w.heap.size, 1, none⟩ = some (.int .i64 0) := kc k (by first | exact y1_1 | exact ca y1_1 | exact ca (ca y1_1) | exact ca (ca (ca y1_1)) | (simp; done) | go_simp) (by show w.heap.size ≠ _; omega)
  have yf1_2 : v2.frozen? ⟨w.heap.size, 1, none⟩ = false := kf k (by first | (simp; done) | (simp; omega) | (show w.heap.size < _; omega)) (by show w.heap.size ≠ _; omega) (by first | exact yf1_1 | exact fa (by show w.heap.size < _; omega) yf1_1 | exact fa (by show w.heap.size < _; simp; omega) (fa (by show w.heap.size < _; omega) yf1_1) | (simp; done) | go_simp)
  have y2_2 : v2.cell? ⟨w.heap.size, 2, none⟩ = some (.int .i64 0) := kc k (by first | exact y2_1 | exact ca y2_1 | exact ca (ca y2_1) | exact ca (ca (ca y2_1)) | (simp; done) | go_simp) (by show w.heap.size ≠ _; omega)
  have yf2_2 : v2.frozen? ⟨w.heap.size, 2, none⟩ = false := kf k (by first | (simp; done) | (simp; omega) | (show w.heap.size < _; omega)) (by show w.heap.size ≠ _; omega) (by first | exact yf2_1 | exact fa (by show w.heap.size < _; omega) yf2_1 | exact fa (by show w.heap.size < _; simp; omega) (fa (by show w.heap.size < _; omega) yf2_1) | (simp; done) | go_simp)
  have yl_2 : w.heap.size < v2.heap.size := cell_lt y0_2
  clear y0_1 yf0_1 y1_1 yf1_1 y2_1 yf2_1 yl_1
  have hszv2 := k.size
  try simp at hszv2
  clear r k
  go_wp2_with fail
  refine (one_any _ _ _ (0) (50) _ _ _ (by exact intsIn_lit _ [50, 25, 0, 10, 40] _ _ _ _ _ _ rfl (by first | (simp; done) | (simp; omega) | omega) (by simp; try omega)) (by omega) (by omega) (by first | omega | (simp; done) | (simp; omega)) (by first | omega | (simp; omega)) (by first | exact hR | omega | (simp; done) | (simp; omega)) (by omega) (by omega) (Rd.fwd HR.out (by repeat (first | exact Below.refl _ _ | refine Below.drew ?_ | refine bel_drewN _ ?_ | refine Below.alloc ?_ (by first | omega | (simp; done) | (simp; omega)) _ | refine Below.setCell ?_ (by first | (show _ ≤ _; omega) | (simp; done) | (simp; omega)) _)))).mono ?_
  rintro e v3 ⟨p, rfl, p0, p1, k, r⟩
  have HBq : KB (w.heap.size) (R) w v3 := KB.callee (Nat.le_refl _) (by repeat (first | exact KB.refl _ _ _ | exact HB.out | refine KB.drew ?_ | refine KB.drewN ?_ | refine KB.alloc (Nat.le_refl _) ?_ _ | refine KB.setCell ?_ (by first | (show _ ≤ _; omega) | (simp; done) | (simp; omega)) _)) k
  have HB := Lib.hid HBq
  clear HBq
  have hR : R < v3.heap.size := Nat.lt_of_lt_of_le (by first | exact hR | omega | (simp; done) | (simp; omega)) k.size
  have HR := Lib.hid r
  have y0_3 : v3.cell? ⟨w.heap.size, 0, none⟩ = some (.int .i64 0) := kc k (by first | exact y0_2 | exact ca y0_2 | exact ca (ca y0_2) | exact ca (ca (ca y0_2)) | (simp; done) | go_simp) (by show w.heap.size ≠ _; omega)
  have yf0_3 : v3.frozen? ⟨w.heap.size, 0, none⟩ = false := kf k (by first | (simp; done) | (simp; omega) | (show w.heap.size < _; omega)) (by show w.heap.size ≠ _; omega) (by first | exact yf0_2 | exact fa (by show w.heap.size < _; omega) yf0_2 | exact fa (by show w.heap.size < _; simp; omega) (fa (by show w.heap.size < _; omega) yf0_2) | (simp; done) | go_simp)
  have y1_3 : v3.cell? ⟨w.heap.size, 1, none⟩ = some (.int .i64 0) := kc k (by first | exact y1_2 | exact ca y1_2 | exact ca (ca y1_2) | exact ca (ca (ca y1_2)) | (simp; done) | go_simp) (by show w.heap.size ≠ _; omega)
  have yf1_3 : v3.frozen? ⟨w.heap.size, 1, none⟩ = false := kf k (by first | (simp; done) | (simp; omega) | (show w.heap.size < _; omega)) (by show w.heap.size ≠ _; omega) (by first | exact yf1_2 | exact fa (by show w.heap.size < _; omega) yf1_2 | exact fa (by show w.heap.size < _; simp; omega) (fa (by show w.heap.size < _; omega) yf1_2) | (simp; done) | go_simp)
  have y2_3 : v3.cell? ⟨w.heap.size, 2, none⟩ = some (.int .i64 0) := kc k (by first | exact y2_2 | exact ca y2_2 | exact ca (ca y2_2) | exact ca (ca (ca y2_2)) | (simp; done) | go_simp) (by show w.heap.size ≠ _; omega)
  have yf2_3 : v3.frozen? ⟨w.heap.size, 2, none⟩ = false := kf k (by first | (simp; done) | (simp; omega) | (show w.heap.size < _; omega)) (by show w.heap.size ≠ _; omega) (by first | exact yf2_2 | exact fa (by show w.heap.size < _; omega) yf2_2 | exact fa (by show w.heap.size < _; simp; omega) (fa (by show w.heap.size < _; omega) yf2_2) | (simp; done) | go_simp)
  have yl_3 : w.heap.size < v3.heap.size := cell_lt y0_3
  clear y0_2 yf0_2 y1_2 yf1_2 y2_2 yf2_2 yl_2
  have hszv3 := k.size
  try simp at hszv3
  clear r k
  go_wp2_with fail
  refine (pick_any _ _ _ _ (by first | exact hR | omega | (simp; done) | (simp; omega)) (by omega) (by omega) (by omega) (by omega) (Rd.fwd HR.out (by repeat (first | exact Below.refl _ _ | refine Below.drew ?_ | refine bel_drewN _ ?_ | refine Below.alloc ?_ (by first | omega | (simp; done) | (simp; omega)) _ | refine Below.setCell ?_ (by first | (show _ ≤ _; omega) | (simp; done) | (simp; omega)) _)))).mono ?_
  rintro e v4 ⟨z, rfl, z0, z1, k, r⟩
  have z2 : z ≤ 23 := by omega
  clear z1
  have HBq : KB (w.heap.size) (R) w v4 := KB.callee (Nat.le_refl _) (by repeat (first | exact KB.refl _ _ _ | exact HB.out | refine KB.drew ?_ | refine KB.drewN ?_ | refine KB.alloc (Nat.le_refl _) ?_ _ | refine KB.setCell ?_ (by first | (show _ ≤ _; omega) | (simp; done) | (simp; omega)) _)) k
  have HB := Lib.hid HBq
  clear HBq
  have hR : R < v4.heap.size := Nat.lt_of_lt_of_le (by first | exact hR | omega | (simp; done) | (simp; omega)) k.size
  have HR := Lib.hid r
  have y0_4 : v4.cell? ⟨w.heap.size, 0, none⟩ = some (.int .i64 0) := kc k (by first | exact y0_3 | exact ca y0_3 | exact ca (ca y0_3) | exact ca (ca (ca y0_3)) | (simp; done) | go_simp) (by show w.heap.size ≠ _; omega)
  have yf0_4 : v4.frozen? ⟨w.heap.size, 0, none⟩ = false := kf k (by first | (simp; done) | (simp; omega) | (show w.heap.size < _; omega)) (by show w.heap.size ≠ _; omega) (by first | exact yf0_3 | exact fa (by show w.heap.size < _; omega) yf0_3 | exact fa (by show w.heap.size < _; simp; omega) (fa (by show w.heap.size < _; omega) yf0_3) | (simp; done) | go_simp)
  have y1_4 : v4.cell? ⟨w.heap.size, 1, none⟩ = some (.int .i64 0) := kc k (by first | exact y1_3 | exact ca y1_3 | exact ca (ca y1_3) | exact ca (ca (ca y1_3)) | (simp; done) | go_simp) (by show w.heap.size ≠ _; omega)
  have yf1_4 : v4.frozen? ⟨w.heap.size, 1, none⟩ = false := kf k (by first | (simp; done) | (simp; omega) | (show w.heap.size < _; omega)) (by show w.heap.size ≠ _; omega) (by first | exact yf1_3 | exact fa (by show w.heap.size < _; omega) yf1_3 | exact fa (by show w.heap.size < _; simp; omega) (fa (by show w.heap.size < _; omega) yf1_3) | (simp; done) | go_simp)
  have y2_4 : v4.cell? ⟨w.heap.size, 2, none⟩ = some (.int .i64 0) := kc k (by first | exact y2_3 | exact ca y2_3 | exact ca (ca y2_3) | exact ca (ca (ca y2_3)) | (simp; done) | go_simp) (by show w.heap.size ≠ _; omega)
  have yf2_4 : v4.frozen? ⟨w.heap.size, 2, none⟩ = false := kf k (by first | (simp; done) | (simp; omega) | (show w.heap.size < _; omega)) (by show w.heap.size ≠ _; omega) (by first | exact yf2_3 | exact fa (by show w.heap.size < _; omega) yf2_3 | exact fa (by show w.heap.size < _; simp; omega) (fa (by show w.heap.size < _; omega) yf2_3) | (simp; done) | go_simp)
  have yl_4 : w.heap.size < v4.heap.size := cell_lt y0_4
  clear y0_3 yf0_3 y1_3 yf1_3 y2_3 yf2_3 yl_3
  have l0_1 : v4.cell? ⟨v3.heap.size, 0, none⟩ = some (.int .i64 s) := kc k (by first | (simp; done) | go_simp) (by show v3.heap.size ≠ _; omega)
  have lf0_1 : v4.frozen? ⟨v3.heap.size, 0, none⟩ = false := kf k (by first | (simp; done) | (simp; omega) | (show v3.heap.size < _; omega)) (by show v3.heap.size ≠ _; omega) (by first | (simp; done) | go_simp)
  have l1_1 : v4.cell? ⟨v3.heap.size, 1, none⟩ = some (.int .i64 x) := kc k (by first | (simp; done) | go_simp) (by show v3.heap.size ≠ _; omega)
  have lf1_1 : v4.frozen? ⟨v3.heap.size, 1, none⟩ = false := kf k (by first | (simp; done) | (simp; omega) | (show v3.heap.size < _; omega)) (by show v3.heap.size ≠ _; omega) (by first | (simp; done) | go_simp)
  have l2_1 : v4.cell? ⟨v3.heap.size, 2, none⟩ = some (.int .i64 p) := kc k (by first | (simp; done) | go_simp) (by show v3.heap.size ≠ _; omega)
  have lf2_1 : v4.frozen? ⟨v3.heap.size, 2, none⟩ = false := kf k (by first | (simp; done) | (simp; omega) | (show v3.heap.size < _; omega)) (by show v3.heap.size ≠ _; omega) (by first | (simp; done) | go_simp)
  have ll_1 : v3.heap.size < v4.heap.size := cell_lt l0_1
  have hszv4 := k.size
  try simp at hszv4
  clear r k
  have hne : v3.heap.size ≠ w.heap.size := by omega
  by_cases hz0 : z = 0
  · subst hz0
    go_wp2_with fail
    refine (one_any _ _ _ (0) (9) _ _ _ (by exact intsIn_lit _ [0, 9] _ _ _ _ _ _ rfl (by first | (simp; done) | (simp; omega) | omega) (by simp; try omega)) (by omega) (by omega) (by first | omega | (simp; done) | (simp; omega)) (by first | omega | (simp; omega)) (by first | exact hR | omega | (simp; done) | (simp; omega)) (by omega) (by omega) (Rd.fwd HR.out (by repeat (first | exact Below.refl _ _ | refine Below.drew ?_ | refine bel_drewN _ ?_ | refine Below.alloc ?_ (by first | omega | (simp; done) | (simp; omega)) _ | refine Below.setCell ?_ (by first | (show _ ≤ _; omega) | (simp; done) | (simp; omega)) _)))).mono ?_
    rintro e u1 ⟨t, rfl, t0, t1, k, r⟩
    have HBq : KB (w.heap.size) (R) w u1 := KB.callee (Nat.le_refl _) (by repeat (first | exact KB.refl _ _ _ | exact HB.out | refine KB.drew ?_ | refine KB.drewN ?_ | refine KB.alloc (Nat.le_refl _) ?_ _ | refine KB.setCell ?_ (by first | (show _ ≤ _; omega) | (simp; done) | (simp; omega)) _)) k
    have HB := Lib.hid HBq
    clear HBq
    have hR : R < u1.heap.size := Nat.lt_of_lt_of_le (by first | exact hR | omega | (simp; done) | (simp; omega)) k.size
    have HR := Lib.hid r
    have y0_5 : u1.cell? ⟨w.heap.size, 0, none⟩ = some (.int .i64 0) := kc k (by first | exact y0_4 | exact ca y0_4 | exact ca (ca y0_4) | exact ca (ca (ca y0_4)) | (simp; done) | go_simp) (by show w.heap.size ≠ _; omega)
    have yf0_5 : u1.frozen? ⟨w.heap.size, 0, none⟩ = false := kf k (by first | (simp; done) | (simp; omega) | (show w.heap.size < _; omega)) (by show w.heap.size ≠ _; omega) (by first | exact yf0_4 | exact fa (by show w.heap.size < _; omega) yf0_4 | exact fa (by show w.heap.size < _; simp; omega) (fa (by show w.heap.size < _; omega) yf0_4) | (simp; done) | go_simp)
    have y1_5 : u1.cell? ⟨w.heap.size, 1, none⟩ = some (.int .i64 0) := kc k (by first | exact y1_4 | exact ca y1_4 | exact ca (ca y1_4) | exact ca (ca (ca y1_4)) | (simp; done) | go_simp) (by show w.heap.size ≠ _; omega)
    have yf1_5 : u1.frozen? ⟨w.heap.size, 1, none⟩ = false := kf k (by first | (simp; done) | (simp; omega) | (show w.heap.size < _; omega)) (by show w.heap.size ≠ _; omega) (by first | exact yf1_4 | exact fa (by show w.heap.size < _; omega) yf1_4 | exact fa (by show w.heap.size < _; simp; omega) (fa (by show w.heap.size < _; omega) yf1_4) | (simp; done) | go_simp)
    have y2_5 : u1.cell? ⟨w.heap.size, 2, none⟩ = some (.int .i64 0) := kc k (by first | exact y2_4 | exact ca y2_4 | exact ca (ca y2_4) | exact ca (ca (ca y2_4)) | (simp; done) | go_simp) (by show w.heap.size ≠ _; omega)
    have yf2_5 : u1.frozen? ⟨w.heap.size, 2, none⟩ = false := kf k (by first | (simp; done) | (simp; omega) | (show w.heap.size < _; omega)) (by show w.heap.size ≠ _; omega) (by first | exact yf2_4 | exact fa (by show w.heap.size < _; omega) yf2_4 | exact fa (by show w.heap.size < _; simp; omega) (fa (by show w.heap.size < _; omega) yf2_4) | (simp; done) | go_simp)
    have yl_5 : w.heap.size < u1.heap.size := cell_lt y0_5
    clear y0_4 yf0_4 y1_4 yf1_4 y2_4 yf2_4 yl_4
    have l0_2 : u1.cell? ⟨v3.heap.size, 0, none⟩ = some (.int .i64 s) := kc k (by first | exact l0_1 | exact ca l0_1 | exact ca (ca l0_1) | exact ca (ca (ca l0_1)) | (simp; done) | go_simp) (by show v3.heap.size ≠ _; omega)
    have lf0_2 : u1.frozen? ⟨v3.heap.size, 0, none⟩ = false := kf k (by first | (simp; done) | (simp; omega) | (show v3.heap.size < _; omega)) (by show v3.heap.size ≠ _; omega) (by first | exact lf0_1 | exact fa (by show v3.heap.size < _; omega) lf0_1 | exact fa (by show v3.heap.size < _; simp; omega) (fa (by show v3.heap.size < _; omega) lf0_1) | (simp; done) | go_simp)
    have l1_2 : u1.cell? ⟨v3.heap.size, 1, none⟩ = some (.int .i64 x) := kc k (by first | exact l1_1 | exact ca l1_1 | exact ca (ca l1_1) | exact ca (ca (ca l1_1)) | (simp; done) | go_simp) (by show v3.heap.size ≠ _; omega)
    have lf1_2 : u1.frozen? ⟨v3.heap.size, 1, none⟩ = false := kf k (by first | (simp; done) | (simp; omega) | (show v3.heap.size < _; omega)) (by show v3.heap.size ≠ _; omega) (by first | exact lf1_1 | exact fa (by show v3.heap.size < _; omega) lf1_1 | exact fa (by show v3.heap.size < _; simp; omega) (fa (by show v3.heap.size < _; omega) lf1_1) | (simp; done) | go_simp)
    have l2_2 : u1.cell? ⟨v3.heap.size, 2, none⟩ = some (.int .i64 p) := kc k (by first | exact l2_1 | exact ca l2_1 | exact ca (ca l2_1) | exact ca (ca (ca l2_1)) | (simp; done) | go_simp) (by show v3.heap.size ≠ _; omega)
    have lf2_2 : u1.frozen? ⟨v3.heap.size, 2, none⟩ = false := kf k (by first | (simp; done) | (simp; omega) | (show v3.heap.size < _; omega)) (by show v3.heap.size ≠ _; omega) (by first | exact lf2_1 | exact fa (by show v3.heap.size < _; omega) lf2_1 | exact fa (by show v3.heap.size < _; simp; omega) (fa (by show v3.heap.size < _; omega) lf2_1) | (simp; done) | go_simp)
    have ll_2 : v3.heap.size < u1.heap.size := cell_lt l0_2
    clear l0_1 lf0_1 l1_1 lf1_1 l2_1 lf2_1 ll_1
    have hszu1 := k.size
    try simp at hszu1
    clear r k
    have hne : v3.heap.size ≠ w.heap.size := by omega
    go_wp2
    have h4 : Has3 u1 w.heap.size 0 0 0 := ⟨by assumption, by assumption, by assumption⟩
    have h5 : Has3 (u1.setCell ⟨v3.heap.size, 0, none⟩ (.int .i64 t)) w.heap.size 0 0 0 := h4.far hne
    have k5 : KB w.heap.size R w (u1.setCell ⟨v3.heap.size, 0, none⟩ (.int .i64 t)) := KB.setCell HB.out (by show w.heap.size ≤ v3.heap.size; omega) _
    have r5 := Rd.fwd HR.out (Below.setCell (Below.refl (R + 1) u1) (p := ⟨v3.heap.size, 0, none⟩) (by show R + 1 ≤ v3.heap.size; omega) (.int .i64 t))
    have h6 := h5.set (n0 := t) (n1 := x) (n2 := p)
    have k6 := st3_kb (n0 := t) (n1 := x) (n2 := p) k5 (Nat.le_refl w.heap.size)
    have r6 := Rd.fwd r5 (st3_below (n0 := t) (n1 := x) (n2 := p) (Below.refl (R + 1) _) (show R + 1 ≤ w.heap.size by omega))
    change bodyPost _ _ _ _ _ (st3 (u1.setCell ⟨v3.heap.size, 0, none⟩ (.int .i64 t)) w.heap.size t x p)
    generalize st3 (u1.setCell ⟨v3.heap.size, 0, none⟩ (.int .i64 t)) w.heap.size t x p = WF at *
    exact bodyPost_ret (res3 Tryd.results10 (by rfl) h6) rfl (LatP.mk _ _ _ (by omega) (by omega) (by omega) (KB.keep k6) (r6.mono (by omega)))
  · have hz0' : (z == 0) = false := by simpa using hz0
    by_cases hz1 : z = 1
    · subst hz1
      go_wp2_with fail
      refine (one_any _ _ _ (0) (3001) _ _ _ (by exact intsIn_lit _ [0, 3000, 3001] _ _ _ _ _ _ rfl (by first | (simp; done) | (simp; omega) | omega) (by simp; try omega)) (by omega) (by omega) (by first | omega | (simp; done) | (simp; omega)) (by first | omega | (simp; omega)) (by first | exact hR | omega | (simp; done) | (simp; omega)) (by omega) (by omega) (Rd.fwd HR.out (by repeat (first | exact Below.refl _ _ | refine Below.drew ?_ | refine bel_drewN _ ?_ | refine Below.alloc ?_ (by first | omega | (simp; done) | (simp; omega)) _ | refine Below.setCell ?_ (by first | (show _ ≤ _; omega) | (simp; done) | (simp; omega)) _)))).mono ?_
      rintro e u1 ⟨t, rfl, t0, t1, k, r⟩
      have HBq : KB (w.heap.size) (R) w u1 := KB.callee (Nat.le_refl _) (by repeat (first | exact KB.refl _ _ _ | exact HB.out | refine KB.drew ?_ | refine KB.drewN ?_ | refine KB.alloc (Nat.le_refl _) ?_ _ | refine KB.setCell ?_ (by first | (show _ ≤ _; omega) | (simp; done) | (simp; omega)) _)) k
      have HB := Lib.hid HBq
      clear HBq
      have hR : R < u1.heap.size := Nat.lt_of_lt_of_le (by first | exact hR | omega | (simp; done) | (simp; omega)) k.size
      have HR := Lib.hid r
      have y0_5 : u1.cell? ⟨w.heap.size, 0, none⟩ = some (.int .i64 0) := kc k (by first | exact y0_4 | exact ca y0_4 | exact ca (ca y0_4) | exact ca (ca (ca y0_4)) | (simp; done) | go_simp) (by show w.heap.size ≠ _; omega)
      have yf0_5 : u1.frozen? ⟨w.heap.size, 0, none⟩ = false := kf k (by first | (simp; done) | (simp; omega) | (show w.heap.size < _; omega)) (by show w.heap.size ≠ _; omega) (by first | exact yf0_4 | exact fa (by show w.heap.size < _; omega) yf0_4 | exact fa (by show w.heap.size < _; simp; omega) (fa (by show w.heap.size < _; omega) yf0_4) | (simp; done) | go_simp)
      have y1_5 : u1.cell? ⟨w.heap.size, 1, none⟩ = some (.int .i64 0) := kc k (by first | exact y1_4 | exact ca y1_4 | exact ca (ca y1_4) | exact ca (ca (ca y1_4)) | (simp; done) | go_simp) (by show w.heap.size ≠ _; omega)
      have yf1_5 : u1.frozen? ⟨w.heap.size, 1, none⟩ = false := kf k (by first | (simp; done) | (simp; omega) | (show w.heap.size < _; omega)) (by show w.heap.size ≠ _; omega) (by first | exact yf1_4 | exact fa (by show w.heap.size < _; omega) yf1_4 | exact fa (by show w.heap.size < _; simp; omega) (fa (by show w.heap.size < _; omega) yf1_4) | (simp; done) | go_simp)
      have y2_5 : u1.cell? ⟨w.heap.size, 2, none⟩ = some (.int .i64 0) := kc k (by first | exact y2_4 | exact ca y2_4 | exact ca (ca y2_4) | exact ca (ca (ca y2_4)) | (simp; done) | go_simp) (by show w.heap.size ≠ _; omega)
      have yf2_5 : u1.frozen? ⟨w.heap.size, 2, none⟩ = false := kf k (by first | (simp; done) | (simp; omega) | (show w.heap.size < _; omega)) (by show w.heap.size ≠ _; omega) (by first | exact yf2_4 | exact fa (by show w.heap.size < _; omega) yf2_4 | exact fa (by show w.heap.size < _; simp; omega) (fa (by show w.heap.size < _; omega) yf2_4) | (simp; done) | go_simp)
      have yl_5 : w.heap.size < u1.heap.size := cell_lt y0_5
      clear y0_4 yf0_4 y1_4 yf1_4 y2_4 yf2_4 yl_4
      have l0_2 : u1.cell? ⟨v3.heap.size, 0, none⟩ = some (.int .i64 s) := kc k (by first | exact l0_1 | exact ca l0_1 | exact ca (ca l0_1) | exact ca (ca (ca l0_1)) | (simp; done) | go_simp) (by show v3.heap.size ≠ _; omega)
      have lf0_2 : u1.frozen? ⟨v3.heap.size, 0, none⟩ = false := kf k (by first | (simp; done) | (simp; omega) | (show v3.heap.size < _; omega)) (by show v3.heap.size ≠ _; omega) (by first | exact lf0_1 | exact fa (by show v3.heap.size < _; omega) lf0_1 | exact fa (by show v3.heap.size < _; simp; omega) (fa (by show v3.heap.size < _; omega) lf0_1) | (simp; done) | go_simp)
      have l1_2 : u1.cell? ⟨v3.heap.size, 1, none⟩ = some (.int .i64 x) := kc k (by first | exact l1_1 | exact ca l1_1 | exact ca (ca l1_1) | exact ca (ca (ca l1_1)) | (simp; done) | go_simp) (by show v3.heap.size ≠ _; omega)
      have lf1_2 : u1.frozen? ⟨v3.heap.size, 1, none⟩ = false := kf k (by first | (simp; done) | (simp; omega) | (show v3.heap.size < _; omega)) (by show v3.heap.size ≠ _; omega) (by first | exact lf1_1 | exact fa (by show v3.heap.size < _; omega) lf1_1 | exact fa (by show v3.heap.size < _; simp; omega) (fa (by show v3.heap.size < _; omega) lf1_1) | (simp; done) | go_simp)
      have l2_2 : u1.cell? ⟨v3.heap.size, 2, none⟩ = some (.int .i64 p) := kc k (by first | exact l2_1 | exact ca l2_1 | exact ca (ca l2_1) | exact ca (ca (ca l2_1)) | (simp; done) | go_simp) (by show v3.heap.size ≠ _; omega)
      have lf2_2 : u1.frozen? ⟨v3.heap.size, 2, none⟩ = false := kf k (by first | (simp; done) | (simp; omega) | (show v3.heap.size < _; omega)) (by show v3.heap.size ≠ _; omega) (by first | exact lf2_1 | exact fa (by show v3.heap.size < _; omega) lf2_1 | exact fa (by show v3.heap.size < _; simp; omega) (fa (by show v3.heap.size < _; omega) lf2_1) | (simp; done) | go_simp)
      have ll_2 : v3.heap.size < u1.heap.size := cell_lt l0_2
      clear l0_1 lf0_1 l1_1 lf1_1 l2_1 lf2_1 ll_1
      have hszu1 := k.size
      try simp at hszu1
      clear r k
      have hne : v3.heap.size ≠ w.heap.size := by omega
      go_wp2
      have h4 : Has3 u1 w.heap.size 0 0 0 := ⟨by assumption, by assumption, by assumption⟩
      have h5 : Has3 (u1.setCell ⟨v3.heap.size, 1, none⟩ (.int .i64 t)) w.heap.size 0 0 0 := h4.far hne
      have k5 : KB w.heap.size R w (u1.setCell ⟨v3.heap.size, 1, none⟩ (.int .i64 t)) := KB.setCell HB.out (by show w.heap.size ≤ v3.heap.size; omega) _
      have r5 := Rd.fwd HR.out (Below.setCell (Below.refl (R + 1) u1) (p := ⟨v3.heap.size, 1, none⟩) (by show R + 1 ≤ v3.heap.size; omega) (.int .i64 t))
      have h6 := h5.set (n0 := s) (n1 := t) (n2 := p)
      have k6 := st3_kb (n0 := s) (n1 := t) (n2 := p) k5 (Nat.le_refl w.heap.size)
      have r6 := Rd.fwd r5 (st3_below (n0 := s) (n1 := t) (n2 := p) (Below.refl (R + 1) _) (show R + 1 ≤ w.heap.size by omega))
      change bodyPost _ _ _ _ _ (st3 (u1.setCell ⟨v3.heap.size, 1, none⟩ (.int .i64 t)) w.heap.size s t p)
      generalize st3 (u1.setCell ⟨v3.heap.size, 1, none⟩ (.int .i64 t)) w.heap.size s t p = WF at *
      exact bodyPost_ret (res3 Tryd.results10 (by rfl) h6) rfl (LatP.mk _ _ _ (by omega) (by omega) (by omega) (KB.keep k6) (r6.mono (by omega)))
    · have hz1' : (z == 1) = false := by simpa using hz1
      by_cases hz2 : z = 2
      · subst hz2
        go_wp2_with fail
        refine (one_any _ _ _ (-1) (151) _ _ _ (by exact intsIn_lit _ [-1, 150, 151] _ _ _ _ _ _ rfl (by first | (simp; done) | (simp; omega) | omega) (by simp; try omega)) (by omega) (by omega) (by first | omega | (simp; done) | (simp; omega)) (by first | omega | (simp; omega)) (by first | exact hR | omega | (simp; done) | (simp; omega)) (by omega) (by omega) (Rd.fwd HR.out (by repeat (first | exact Below.refl _ _ | refine Below.drew ?_ | refine bel_drewN _ ?_ | refine Below.alloc ?_ (by first | omega | (simp; done) | (simp; omega)) _ | refine Below.setCell ?_ (by first | (show _ ≤ _; omega) | (simp; done) | (simp; omega)) _)))).mono ?_
        rintro e u1 ⟨t, rfl, t0, t1, k, r⟩
        have HBq : KB (w.heap.size) (R) w u1 := KB.callee (Nat.le_refl _) (by repeat (first | exact KB.refl _ _ _ | exact HB.out | refine KB.drew ?_ | refine KB.drewN ?_ | refine KB.alloc (Nat.le_refl _) ?_ _ | refine KB.setCell ?_ (by first | (show _ ≤ _; omega) | (simp; done) | (simp; omega)) _)) k
        have HB := Lib.hid HBq
        clear HBq
        have hR : R < u1.heap.size := Nat.lt_of_lt_of_le (by first | exact hR | omega | (simp; done) | (simp; omega)) k.size
        have HR := Lib.hid r
        have y0_5 : u1.cell? ⟨w.heap.size, 0, none⟩ = some (.int .i64 0) := kc k (by first | exact y0_4 | exact ca y0_4 | exact ca (ca y0_4) | exact ca (ca (ca y0_4)) | (simp; done) | go_simp) (by show w.heap.size ≠ _; omega)
        have yf0_5 : u1.frozen? ⟨w.heap.size, 0, none⟩ = false := kf k (by first | (simp; done) | (simp; omega) | (show w.heap.size < _; omega)) (by show w.heap.size ≠ _; omega) (by first | exact yf0_4 | exact fa (by show w.heap.size < _; omega) yf0_4 | exact fa (by show w.heap.size < _; simp; omega) (fa (by show w.heap.size < _; omega) yf0_4) | (simp; done) | go_simp)
        have y1_5 : u1.cell? ⟨w.heap.size, 1, none⟩ = some (.int .i64 0) := kc k (by first | exact y1_4 | exact ca y1_4 | exact ca (ca y1_4) | exact ca (ca (ca y1_4)) | (simp; done) | go_simp) (by show w.heap.size ≠ _; omega)
        have yf1_5 : u1.frozen? ⟨w.heap.size, 1, none⟩ = false := kf k (by first | (simp; done) | (simp; omega) | (show w.heap.size < _; omega)) (by show w.heap.size ≠ _; omega) (by first | exact yf1_4 | exact fa (by show w.heap.size < _; omega) yf1_4 | exact fa (by show w.heap.size < _; simp; omega) (fa (by show w.heap.size < _; omega) yf1_4) | (simp; done) | go_simp)
        have y2_5 : u1.cell? ⟨w.heap.size, 2, none⟩ = some (.int .i64 0) := kc k (by first | exact y2_4 | exact ca y2_4 | exact ca (ca y2_4) | exact ca (ca (ca y2_4)) | (simp; done) | go_simp) (by show w.heap.size ≠ _; omega)
        have yf2_5 : u1.frozen? ⟨w.heap.size, 2, none⟩ = false := kf k (by first | (simp; done) | (simp; omega) | (show w.heap.size < _; omega)) (by show w.heap.size ≠ _; omega) (by first | exact yf2_4 | exact fa (by show w.heap.size < _; omega) yf2_4 | exact fa (by show w.heap.size < _; simp; omega) (fa (by show w.heap.size < _; omega) yf2_4) | (simp; done) | go_simp)
        have yl_5 : w.heap.size < u1.heap.size := cell_lt y0_5
        clear y0_4 yf0_4 y1_4 yf1_4 y2_4 yf2_4 yl_4
        have l0_2 : u1.cell? ⟨v3.heap.size, 0, none⟩ = some (.int .i64 s) := kc k (by first | exact l0_1 | exact ca l0_1 | exact ca (ca l0_1) | exact ca (ca (ca l0_1)) | (simp; done) | go_simp) (by show v3.heap.size ≠ _; omega)
        have lf0_2 : u1.frozen? ⟨v3.heap.size, 0, none⟩ = false := kf k (by first | (simp; done) | (simp; omega) | (show v3.heap.size < _; omega)) (by show v3.heap.size ≠ _; omega) (by first | exact lf0_1 | exact fa (by show v3.heap.size < _; omega) lf0_1 | exact fa (by show v3.heap.size < _; simp; omega) (fa (by show v3.heap.size < _; omega) lf0_1) | (simp; done) | go_simp)
        have l1_2 : u1.cell? ⟨v3.heap.size, 1, none⟩ = some (.int .i64 x) := kc k (by first | exact l1_1 | exact ca l1_1 | exact ca (ca l1_1) | exact ca (ca (ca l1_1)) | (simp; done) | go_simp) (by show v3.heap.size ≠ _; omega)
        have lf1_2 : u1.frozen? ⟨v3.heap.size, 1, none⟩ = false := kf k (by first | (simp; done) | (simp; omega) | (show v3.heap.size < _; omega)) (by show v3.heap.size ≠ _; omega) (by first | exact lf1_1 | exact fa (by show v3.heap.size < _; omega) lf1_1 | exact fa (by show v3.heap.size < _; simp; omega) (fa (by show v3.heap.size < _; omega) lf1_1) | (simp; done) | go_simp)
        have l2_2 : u1.cell? ⟨v3.heap.size, 2, none⟩ = some (.int .i64 p) := kc k (by first | exact l2_1 | exact ca l2_1 | exact ca (ca l2_1) | exact ca (ca (ca l2_1)) | (simp; done) | go_simp) (by show v3.heap.size ≠ _; omega)
        have lf2_2 : u1.frozen? ⟨v3.heap.size, 2, none⟩ = false := kf k (by first | (simp; done) | (simp; omega) | (show v3.heap.size < _; omega)) (by show v3.heap.size ≠ _; omega) (by first | exact lf2_1 | exact fa (by show v3.heap.size < _; omega) lf2_1 | exact fa (by show v3.heap.size < _; simp; omega) (fa (by show v3.heap.size < _; omega) lf2_1) | (simp; done) | go_simp)
        have ll_2 : v3.heap.size < u1.heap.size := cell_lt l0_2
        clear l0_1 lf0_1 l1_1 lf1_1 l2_1 lf2_1 ll_1
        have hszu1 := k.size
        try simp at hszu1
        clear r k
        have hne : v3.heap.size ≠ w.heap.size := by omega
        go_wp2
        have h4 : Has3 u1 w.heap.size 0 0 0 := ⟨by assumption, by assumption, by assumption⟩
        have h5 : Has3 (u1.setCell ⟨v3.heap.size, 2, none⟩ (.int .i64 t)) w.heap.size 0 0 0 := h4.far hne
        have k5 : KB w.heap.size R w (u1.setCell ⟨v3.heap.size, 2, none⟩ (.int .i64 t)) := KB.setCell HB.out (by show w.heap.size ≤ v3.heap.size; omega) _
        have r5 := Rd.fwd HR.out (Below.setCell (Below.refl (R + 1) u1) (p := ⟨v3.heap.size, 2, none⟩) (by show R + 1 ≤ v3.heap.size; omega) (.int .i64 t))
        have h6 := h5.set (n0 := s) (n1 := x) (n2 := t)
        have k6 := st3_kb (n0 := s) (n1 := x) (n2 := t) k5 (Nat.le_refl w.heap.size)
        have r6 := Rd.fwd r5 (st3_below (n0 := s) (n1 := x) (n2 := t) (Below.refl (R + 1) _) (show R + 1 ≤ w.heap.size by omega))
        change bodyPost _ _ _ _ _ (st3 (u1.setCell ⟨v3.heap.size, 2, none⟩ (.int .i64 t)) w.heap.size s x t)
        generalize st3 (u1.setCell ⟨v3.heap.size, 2, none⟩ (.int .i64 t)) w.heap.size s x t = WF at *
        exact bodyPost_ret (res3 Tryd.results10 (by rfl) h6) rfl (LatP.mk _ _ _ (by omega) (by omega) (by omega) (KB.keep k6) (r6.mono (by omega)))
      · have hz2' : (z == 2) = false := by simpa using hz2
        go_wp2
        have h4 : Has3 v4 w.heap.size 0 0 0 := ⟨by assumption, by assumption, by assumption⟩
        have h5 := h4
        have k5 := HB.out
        have r5 := HR.out
        have h6 := h5.set (n0 := s) (n1 := x) (n2 := p)
        have k6 := st3_kb (n0 := s) (n1 := x) (n2 := p) k5 (Nat.le_refl w.heap.size)
        have r6 := Rd.fwd r5 (st3_below (n0 := s) (n1 := x) (n2 := p) (Below.refl (R + 1) _) (show R + 1 ≤ w.heap.size by omega))
        change bodyPost _ _ _ _ _ (st3 v4 w.heap.size s x p)
        generalize st3 v4 w.heap.size s x p = WF at *
        exact bodyPost_ret (res3 Tryd.results10 (by rfl) h6) rfl (LatP.mk _ _ _ (by omega) (by omega) (by omega) (KB.keep k6) (r6.mono (by omega)))
def DrawLt (w : World) (e : Ending) (w' : World) : Prop :=
  ∃ s r p c k : Int, e = .returned (.tuple #[.agg #[.int .i64 s, .int .i64 r, .int .i64 p], .int .i64 c, .int .i64 k]) ∧ (0 ≤ s ∧ s ≤ 9) ∧ (0 ≤ r ∧ r ≤ 3001) ∧ (-1 ≤ p ∧ p ≤ 151) ∧ (-1 ≤ c ∧ c ≤ 3001) ∧ (0 ≤ k ∧ k ≤ 201) ∧ Below w.heap.size w w'
set_option maxHeartbeats 4000000 in
theorem drawLatticeValue_any (a : Option Addr) (len cap : Nat) (w : World) (hlc : len ≤ cap) (hc : cap ≤ maxLen) (h : IsBytes w a len) :
    Calls Tryd.prog 4 #[.slice a len cap] w (DrawLt w) := by
  have H := Lib.hid h
  clear h
  go_enter Tryd.func4, Tryd.ntmps4
  go_wp2_with fail
  refine (newReader_any _ _ _ _ hlc hc (by repeat (first | exact H.out | refine IsBytes.alloc ?_ _))).mono ?_
  rintro e v1 ⟨rfl, hb, hrd, hszv1⟩
  try simp at hszv1
  replace hszv1 : w.heap.size + 1 + 1 ≤ v1.heap.size := by omega
  have hR : w.heap.size + 1 < v1.heap.size := by omega
  have hrdq : Rd v1 (w.heap.size + 1) 0 := by simpa using hrd
  have HR := Lib.hid hrdq
  have HBq : KB (w.heap.size) (w.heap.size + 1) w v1 := KB.quiet (Nat.le_refl _) (by repeat (first | exact KB.refl _ _ _ | exact HB.out | refine KB.drew ?_ | refine KB.drewN ?_ | refine KB.alloc (Nat.le_refl _) ?_ _ | refine KB.setCell ?_ (by first | (show _ ≤ _; omega) | (simp; done) | (simp; omega)) _)) hb
  have HB := Lib.hid HBq
  have y0_1 : v1.cell? ⟨w.heap.size, 0, none⟩ = some (.int .i64 0) := bc hb (by first | (simp; done) | go_simp)
  have yf0_1 : v1.frozen? ⟨w.heap.size, 0, none⟩ = false := bf hb (by first | (simp; done) | (simp; omega) | (show w.heap.size < _; omega)) (by first | (simp; done) | go_simp)
  have y1_1 : v1.cell? ⟨w.heap.size, 1, none⟩ = some (.int .i64 0) := bc hb (by first | (simp; done) | go_simp)
  have yf1_1 : v1.frozen? ⟨w.heap.size, 1, none⟩ = false := bf hb (by first | (simp; done) | (simp; omega) | (show w.heap.size < _; omega)) (by first | (simp; done) | go_simp)
  have y2_1 : v1.cell? ⟨w.heap.size, 2, none⟩ = some (.int .i64 0) := bc hb (by first | (simp; done) | go_simp)
  have yf2_1 : v1.frozen? ⟨w.heap.size, 2, none⟩ = false := bf hb (by first | (simp; done) | (simp; omega) | (show w.heap.size < _; omega)) (by first | (simp; done) | go_simp)
  have yl_1 : w.heap.size < v1.heap.size := cell_lt y0_1
  clear hrd hrdq HBq hb
  go_wp2_with fail
  refine (anyLattice_any _ _ _ (by first | exact hR | omega | (simp; done) | (simp; omega)) (by omega) (by omega) (Rd.fwd HR.out (by repeat (first | exact Below.refl _ _ | refine Below.drew ?_ | refine bel_drewN _ ?_ | refine Below.alloc ?_ (by first | omega | (simp; done) | (simp; omega)) _ | refine Below.setCell ?_ (by first | (show _ ≤ _; omega) | (simp; done) | (simp; omega)) _)))).mono ?_
  rintro e v2 ⟨s, x, p, rfl, hs, hx, hp, k, r⟩
  have HBq : KB (w.heap.size) (w.heap.size + 1) w v2 := KB.callee (Nat.le_refl _) (by repeat (first | exact KB.refl _ _ _ | exact HB.out | refine KB.drew ?_ | refine KB.drewN ?_ | refine KB.alloc (Nat.le_refl _) ?_ _ | refine KB.setCell ?_ (by first | (show _ ≤ _; omega) | (simp; done) | (simp; omega)) _)) k
  have HB := Lib.hid HBq
  clear HBq
  have hR : w.heap.size + 1 < v2.heap.size := Nat.lt_of_lt_of_le (by first | exact hR | omega | (simp; done) | (simp; omega)) k.size
  have HR := Lib.hid r
  have y0_2 : v2.cell? ⟨w.heap.size, 0, none⟩ = some (.int .i64 0) := kc k (by first | exact y0_1 | exact ca y0_1 | exact ca (ca y0_1) | exact ca (ca (ca y0_1)) | (simp; done) | go_simp) (by show w.heap.size ≠ _; omega)
  have yf0_2 : v2.frozen? ⟨w.heap.size, 0, none⟩ = false := kf k (by first | (simp; done) | (simp; omega) | (show w.heap.size < _; omega)) (by show w.heap.size ≠ _; omega) (by first | exact yf0_1 | exact fa (by show w.heap.size < _; omega) yf0_1 | exact fa (by show w.heap.size < _; simp; omega) (fa (by show w.heap.size < _; omega) yf0_1) | (simp; done) | go_simp)
  have y1_2 : v2.cell? ⟨w.heap.size, 1, none⟩ = some (.int .i64 0) := kc k (by first | exact y1_1 | exact ca y1_1 | exact ca (ca y1_1) | exact ca (ca (ca y1_1)) | (simp; done) | go_simp) (by show w.heap.size ≠ _; omega)
  have yf1_2 : v2.frozen? ⟨w.heap.size, 1, none⟩ = false := kf k (by first | (simp; done) | (simp; omega) | (show w.heap.size < _; omega)) (by show w.heap.size ≠ _; omega) (by first | exact yf1_1 | exact fa (by show w.heap.size < _; omega) yf1_1 | exact fa (by show w.heap.size < _; simp; omega) (fa (by show w.heap.size < _; omega) yf1_1) | (simp; done) | go_simp)
  have y2_2 : v2.cell? ⟨w.heap.size, 2, none⟩ = some (.int .i64 0) := kc k (by first | exact y2_1 | exact ca y2_1 | exact ca (ca y2_1) | exact ca (ca (ca y2_1)) | (simp; done) | go_simp) (by show w.heap.size ≠ _; omega)
  have yf2_2 : v2.frozen? ⟨w.heap.size, 2, none⟩ = false := kf k (by first | (simp; done) | (simp; omega) | (show w.heap.size < _; omega)) (by show w.heap.size ≠ _; omega) (by first | exact yf2_1 | exact fa (by show w.heap.size < _; omega) yf2_1 | exact fa (by show w.heap.size < _; simp; omega) (fa (by show w.heap.size < _; omega) yf2_1) | (simp; done) | go_simp)
  have yl_2 : w.heap.size < v2.heap.size := cell_lt y0_2
  clear y0_1 yf0_1 y1_1 yf1_1 y2_1 yf2_1 yl_1
  have hszv2 := k.size
  try simp at hszv2
  clear r k
  go_wp2_with fail
  refine (one_any _ _ _ (-1) (3001) _ _ _ (by exact intsIn_lit _ [500, 0, 800, 1200, 3000, 3001, -1] _ _ _ _ _ _ rfl (by first | (simp; done) | (simp; omega) | omega) (by simp; try omega)) (by omega) (by omega) (by first | omega | (simp; done) | (simp; omega)) (by first | omega | (simp; omega)) (by first | exact hR | omega | (simp; done) | (simp; omega)) (by omega) (by omega) (Rd.fwd HR.out (by repeat (first | exact Below.refl _ _ | refine Below.drew ?_ | refine bel_drewN _ ?_ | refine Below.alloc ?_ (by first | omega | (simp; done) | (simp; omega)) _ | refine Below.setCell ?_ (by first | (show _ ≤ _; omega) | (simp; done) | (simp; omega)) _)))).mono ?_
  rintro e v3 ⟨c, rfl, c0, c1, k, r⟩
  have HBq : KB (w.heap.size) (w.heap.size + 1) w v3 := KB.callee (Nat.le_refl _) (by repeat (first | exact KB.refl _ _ _ | exact HB.out | refine KB.drew ?_ | refine KB.drewN ?_ | refine KB.alloc (Nat.le_refl _) ?_ _ | refine KB.setCell ?_ (by first | (show _ ≤ _; omega) | (simp; done) | (simp; omega)) _)) k
  have HB := Lib.hid HBq
  clear HBq
  have hR : w.heap.size + 1 < v3.heap.size := Nat.lt_of_lt_of_le (by first | exact hR | omega | (simp; done) | (simp; omega)) k.size
  have HR := Lib.hid r
  have y0_3 : v3.cell? ⟨w.heap.size, 0, none⟩ = some (.int .i64 0) := kc k (by first | exact y0_2 | exact ca y0_2 | exact ca (ca y0_2) | exact ca (ca (ca y0_2)) | (simp; done) | go_simp) (by show w.heap.size ≠ _; omega)
  have yf0_3 : v3.frozen? ⟨w.heap.size, 0, none⟩ = false := kf k (by first | (simp; done) | (simp; omega) | (show w.heap.size < _; omega)) (by show w.heap.size ≠ _; omega) (by first | exact yf0_2 | exact fa (by show w.heap.size < _; omega) yf0_2 | exact fa (by show w.heap.size < _; simp; omega) (fa (by show w.heap.size < _; omega) yf0_2) | (simp; done) | go_simp)
  have y1_3 : v3.cell? ⟨w.heap.size, 1, none⟩ = some (.int .i64 0) := kc k (by first | exact y1_2 | exact ca y1_2 | exact ca (ca y1_2) | exact ca (ca (ca y1_2)) | (simp; done) | go_simp) (by show w.heap.size ≠ _; omega)
  have yf1_3 : v3.frozen? ⟨w.heap.size, 1, none⟩ = false := kf k (by first | (simp; done) | (simp; omega) | (show w.heap.size < _; omega)) (by show w.heap.size ≠ _; omega) (by first | exact yf1_2 | exact fa (by show w.heap.size < _; omega) yf1_2 | exact fa (by show w.heap.size < _; simp; omega) (fa (by show w.heap.size < _; omega) yf1_2) | (simp; done) | go_simp)
  have y2_3 : v3.cell? ⟨w.heap.size, 2, none⟩ = some (.int .i64 0) := kc k (by first | exact y2_2 | exact ca y2_2 | exact ca (ca y2_2) | exact ca (ca (ca y2_2)) | (simp; done) | go_simp) (by show w.heap.size ≠ _; omega)
  have yf2_3 : v3.frozen? ⟨w.heap.size, 2, none⟩ = false := kf k (by first | (simp; done) | (simp; omega) | (show w.heap.size < _; omega)) (by show w.heap.size ≠ _; omega) (by first | exact yf2_2 | exact fa (by show w.heap.size < _; omega) yf2_2 | exact fa (by show w.heap.size < _; simp; omega) (fa (by show w.heap.size < _; omega) yf2_2) | (simp; done) | go_simp)
  have yl_3 : w.heap.size < v3.heap.size := cell_lt y0_3
  clear y0_2 yf0_2 y1_2 yf1_2 y2_2 yf2_2 yl_2
  have l0_1 : v3.cell? ⟨v2.heap.size, 0, none⟩ = some (.int .i64 s) := kc k (by first | (simp; done) | go_simp) (by show v2.heap.size ≠ _; omega)
  have lf0_1 : v3.frozen? ⟨v2.heap.size, 0, none⟩ = false := kf k (by first | (simp; done) | (simp; omega) | (show v2.heap.size < _; omega)) (by show v2.heap.size ≠ _; omega) (by first | (simp; done) | go_simp)
  have l1_1 : v3.cell? ⟨v2.heap.size, 1, none⟩ = some (.int .i64 x) := kc k (by first | (simp; done) | go_simp) (by show v2.heap.size ≠ _; omega)
  have lf1_1 : v3.frozen? ⟨v2.heap.size, 1, none⟩ = false := kf k (by first | (simp; done) | (simp; omega) | (show v2.heap.size < _; omega)) (by show v2.heap.size ≠ _; omega) (by first | (simp; done) | go_simp)
  have l2_1 : v3.cell? ⟨v2.heap.size, 2, none⟩ = some (.int .i64 p) := kc k (by first | (simp; done) | go_simp) (by show v2.heap.size ≠ _; omega)
  have lf2_1 : v3.frozen? ⟨v2.heap.size, 2, none⟩ = false := kf k (by first | (simp; done) | (simp; omega) | (show v2.heap.size < _; omega)) (by show v2.heap.size ≠ _; omega) (by first | (simp; done) | go_simp)
  have ll_1 : v2.heap.size < v3.heap.size := cell_lt l0_1
  have hszv3 := k.size
  try simp at hszv3
  clear r k
  go_wp2_with fail
  go_region_with (
    go_at_call 11
    refine (one_any _ _ _ (0) (201) _ _ _ (by exact intsIn_lit _ [0, 100, 102, 50, 200, 49, 201] _ _ _ _ _ _ rfl (by first | (simp; done) | (simp; omega) | omega) (by simp; try omega)) (by omega) (by omega) (by first | omega | (simp; done) | (simp; omega)) (by first | omega | (simp; omega)) (by first | exact hR | omega | (simp; done) | (simp; omega)) (by omega) (by omega) (Rd.fwd HR.out (by repeat (first | exact Below.refl _ _ | refine Below.drew ?_ | refine bel_drewN _ ?_ | refine Below.alloc ?_ (by first | omega | (simp; done) | (simp; omega)) _ | refine Below.setCell ?_ (by first | (show _ ≤ _; omega) | (simp; done) | (simp; omega)) _)))).mono ?_
    rintro e v4 ⟨q, rfl, q0, q1, k, r⟩
    have y0_4 : v4.cell? ⟨w.heap.size, 0, none⟩ = some (.int .i64 0) := kc k (by first | exact y0_3 | exact ca y0_3 | exact ca (ca y0_3) | exact ca (ca (ca y0_3)) | (simp; done) | go_simp) (by show w.heap.size ≠ _; omega)
    have yf0_4 : v4.frozen? ⟨w.heap.size, 0, none⟩ = false := kf k (by first | (simp; done) | (simp; omega) | (show w.heap.size < _; omega)) (by show w.heap.size ≠ _; omega) (by first | exact yf0_3 | exact fa (by show w.heap.size < _; omega) yf0_3 | exact fa (by show w.heap.size < _; simp; omega) (fa (by show w.heap.size < _; omega) yf0_3) | (simp; done) | go_simp)
    have y1_4 : v4.cell? ⟨w.heap.size, 1, none⟩ = some (.int .i64 0) := kc k (by first | exact y1_3 | exact ca y1_3 | exact ca (ca y1_3) | exact ca (ca (ca y1_3)) | (simp; done) | go_simp) (by show w.heap.size ≠ _; omega)
    have yf1_4 : v4.frozen? ⟨w.heap.size, 1, none⟩ = false := kf k (by first | (simp; done) | (simp; omega) | (show w.heap.size < _; omega)) (by show w.heap.size ≠ _; omega) (by first | exact yf1_3 | exact fa (by show w.heap.size < _; omega) yf1_3 | exact fa (by show w.heap.size < _; simp; omega) (fa (by show w.heap.size < _; omega) yf1_3) | (simp; done) | go_simp)
    have y2_4 : v4.cell? ⟨w.heap.size, 2, none⟩ = some (.int .i64 0) := kc k (by first | exact y2_3 | exact ca y2_3 | exact ca (ca y2_3) | exact ca (ca (ca y2_3)) | (simp; done) | go_simp) (by show w.heap.size ≠ _; omega)
    have yf2_4 : v4.frozen? ⟨w.heap.size, 2, none⟩ = false := kf k (by first | (simp; done) | (simp; omega) | (show w.heap.size < _; omega)) (by show w.heap.size ≠ _; omega) (by first | exact yf2_3 | exact fa (by show w.heap.size < _; omega) yf2_3 | exact fa (by show w.heap.size < _; simp; omega) (fa (by show w.heap.size < _; omega) yf2_3) | (simp; done) | go_simp)
    have yl_4 : w.heap.size < v4.heap.size := cell_lt y0_4
    clear y0_3 yf0_3 y1_3 yf1_3 y2_3 yf2_3 yl_3
    have l0_2 : v4.cell? ⟨v2.heap.size, 0, none⟩ = some (.int .i64 s) := kc k (by first | exact l0_1 | exact ca l0_1 | exact ca (ca l0_1) | exact ca (ca (ca l0_1)) | (simp; done) | go_simp) (by show v2.heap.size ≠ _; omega)
    have lf0_2 : v4.frozen? ⟨v2.heap.size, 0, none⟩ = false := kf k (by first | (simp; done) | (simp; omega) | (show v2.heap.size < _; omega)) (by show v2.heap.size ≠ _; omega) (by first | exact lf0_1 | exact fa (by show v2.heap.size < _; omega) lf0_1 | exact fa (by show v2.heap.size < _; simp; omega) (fa (by show v2.heap.size < _; omega) lf0_1) | (simp; done) | go_simp)
    have l1_2 : v4.cell? ⟨v2.heap.size, 1, none⟩ = some (.int .i64 x) := kc k (by first | exact l1_1 | exact ca l1_1 | exact ca (ca l1_1) | exact ca (ca (ca l1_1)) | (simp; done) | go_simp) (by show v2.heap.size ≠ _; omega)
    have lf1_2 : v4.frozen? ⟨v2.heap.size, 1, none⟩ = false := kf k (by first | (simp; done) | (simp; omega) | (show v2.heap.size < _; omega)) (by show v2.heap.size ≠ _; omega) (by first | exact lf1_1 | exact fa (by show v2.heap.size < _; omega) lf1_1 | exact fa (by show v2.heap.size < _; simp; omega) (fa (by show v2.heap.size < _; omega) lf1_1) | (simp; done) | go_simp)
    have l2_2 : v4.cell? ⟨v2.heap.size, 2, none⟩ = some (.int .i64 p) := kc k (by first | exact l2_1 | exact ca l2_1 | exact ca (ca l2_1) | exact ca (ca (ca l2_1)) | (simp; done) | go_simp) (by show v2.heap.size ≠ _; omega)
    have lf2_2 : v4.frozen? ⟨v2.heap.size, 2, none⟩ = false := kf k (by first | (simp; done) | (simp; omega) | (show v2.heap.size < _; omega)) (by show v2.heap.size ≠ _; omega) (by first | exact lf2_1 | exact fa (by show v2.heap.size < _; omega) lf2_1 | exact fa (by show v2.heap.size < _; simp; omega) (fa (by show v2.heap.size < _; omega) lf2_1) | (simp; done) | go_simp)
    have ll_2 : v2.heap.size < v4.heap.size := cell_lt l0_2
    clear l0_1 lf0_1 l1_1 lf1_1 l2_1 lf2_1 ll_1
    )
  all_goals
    have HBq : KB w.heap.size (w.heap.size + 1) w v4 := KB.callee (Nat.le_refl _) (by repeat (first | exact KB.refl _ _ _ | exact HB.out | refine KB.drew ?_ | refine KB.drewN ?_ | refine KB.alloc (Nat.le_refl _) ?_ _ | refine KB.setCell ?_ (by first | (show _ ≤ _; omega) | (simp; done) | (simp; omega)) _)) k
    have HB := Lib.hid HBq
    clear HBq k r
    go_wp2
    have h4 : Has3 v4 w.heap.size 0 0 0 := ⟨by assumption, by assumption, by assumption⟩
    have h6 := h4.set (n0 := s) (n1 := x) (n2 := p)
    have k6 := st3_kb (n0 := s) (n1 := x) (n2 := p) HB.out (Nat.le_refl w.heap.size)
    change bodyPost _ _ _ _ _ (st3 v4 w.heap.size s x p)
    generalize st3 v4 w.heap.size s x p = WF at *
    exact bodyPost_ret (res3t Tryd.results4 (by rfl) rfl rfl h6) rfl ⟨s, x, p, c, q, rfl, hs, hx, hp, ⟨c0, c1⟩, ⟨q0, q1⟩, KB.below (R := w.heap.size + 1) k6 (by omega)⟩
end Go.Proofs.YtmidbphfbaldiaaDoor
