/- Repos: the draws. -/
import Derived.Test.YtiplcndacmicoaaDoorRepo
import Derived.Test.YtiplcndacmicoaaDoorSt5
import Derived.Deep.DeepCutAuto
namespace Go.Proofs.YtiplcndacmicoaaDoor
open Go.RowKit
set_option linter.unusedVariables false
def RepoP (R : Nat) (K : Int) (w : World) (e : Ending) (w' : World) : Prop :=
  ∃ c r a b h : Int, e = .returned (.agg #[.int .i64 c, .int .i64 r, .int .i64 a, .int .i64 b, .int .i64 h]) ∧ (-100000001 ≤ c ∧ c ≤ 100000001) ∧ (-100000 ≤ r ∧ r ≤ 100000) ∧ (-100000 ≤ a ∧ a ≤ 100000) ∧ (-100000 ≤ b ∧ b ≤ 100000) ∧ (-100000 ≤ h ∧ h ≤ 100000) ∧ Keep R w w' ∧ Rd w' R (K + 11)
theorem RepoP.mk {R : Nat} {K : Int} {w w' : World} (c r a b h : Int) (h1 : -100000001 ≤ c ∧ c ≤ 100000001) (h2 : -100000 ≤ r ∧ r ≤ 100000) (h3 : -100000 ≤ a ∧ a ≤ 100000) (h4 : -100000 ≤ b ∧ b ≤ 100000) (h5 : -100000 ≤ h ∧ h ≤ 100000) (k : Keep R w w') (hr : Rd w' R (K + 11)) :
    RepoP R K w (.returned (.agg #[.int .i64 c, .int .i64 r, .int .i64 a, .int .i64 b, .int .i64 h])) w' := ⟨c, r, a, b, h, rfl, h1, h2, h3, h4, h5, k, hr⟩
/-- five cells of a struct, not frozen -/
def Five (w : World) (b : Nat) (n0 n1 n2 n3 n4 : Int) : Prop :=
  (w.cell? ⟨b, 0, none⟩ = some (.int .i64 n0) ∧ w.cell? ⟨b, 1, none⟩ = some (.int .i64 n1) ∧ w.cell? ⟨b, 2, none⟩ = some (.int .i64 n2) ∧ w.cell? ⟨b, 3, none⟩ = some (.int .i64 n3) ∧ w.cell? ⟨b, 4, none⟩ = some (.int .i64 n4)) ∧
  (w.frozen? ⟨b, 0, none⟩ = false ∧ w.frozen? ⟨b, 1, none⟩ = false ∧ w.frozen? ⟨b, 2, none⟩ = false ∧ w.frozen? ⟨b, 3, none⟩ = false ∧ w.frozen? ⟨b, 4, none⟩ = false)
theorem Five.new (w : World) (n0 n1 n2 n3 n4 : Int) (T : TypeId) : Five (w.alloc (.cells #[.int .i64 n0, .int .i64 n1, .int .i64 n2, .int .i64 n3, .int .i64 n4] T)) w.heap.size n0 n1 n2 n3 n4 := by
  refine ⟨⟨?_, ?_, ?_, ?_, ?_⟩, ?_, ?_, ?_, ?_, ?_⟩ <;> simp
theorem Five.alloc {w : World} {b : Nat} {n0 n1 n2 n3 n4 : Int} (h : Five w b n0 n1 n2 n3 n4) (o : Obj) : Five (w.alloc o) b n0 n1 n2 n3 n4 := by
  obtain ⟨⟨h0, h1, h2, h3, h4⟩, g0, g1, g2, g3, g4⟩ := h
  have hl := cell_lt h0
  exact ⟨⟨ca h0, ca h1, ca h2, ca h3, ca h4⟩, fa hl g0, fa hl g1, fa hl g2, fa hl g3, fa hl g4⟩
def AnyRepoCut (R : Nat) (K : Int) (w : World) (s : Value) (wx : World) : Prop :=
  ∃ (c q x m h : Int) (SB : Nat), s = .pointer (some ⟨SB, 0, none⟩) ∧ (1 ≤ c ∧ c ≤ 100000000) ∧ (0 ≤ q ∧ q ≤ 3000) ∧ (0 ≤ x ∧ x ≤ 36524) ∧ (0 ≤ m ∧ m ≤ 36524) ∧ (0 ≤ h ∧ h ≤ 500) ∧ w.heap.size < SB ∧ Five wx SB c q x m h ∧ Five wx w.heap.size 0 0 0 0 0 ∧ KB w.heap.size R w wx ∧ Rd wx R (K + 9) ∧ R < wx.heap.size
set_option maxHeartbeats 8000000 in
theorem anyRepo_any (R : Nat) (K : Int) (w : World) (hR : R < w.heap.size) (hK : 0 ≤ K) (hK' : K ≤ 900000) (hrd : Rd w R K) :
    Calls Tryd.prog 16 #[.pointer (some ⟨R, 0, none⟩)] w (RepoP R K w) := by
  have HR := Lib.hid hrd
  clear hrd
  have HB := Lib.hid (KB.refl w.heap.size R w)
  have hRw : R < w.heap.size := hR
  go_enter Tryd.func16, Tryd.ntmps16
  go_wp2_with fail
  refine (someDay_any _ _ _ (by first | exact hR | omega | (simp; done) | (simp; omega)) (by omega) (by omega) (Rd.fwd HR.out (by repeat (first | exact Below.refl _ _ | refine Below.drew ?_ | refine bel_drewN _ ?_ | refine Below.alloc ?_ (by first | omega | (simp; done) | (simp; omega)) _ | refine Below.setCell ?_ (by first | (show _ ≤ _; omega) | (simp; done) | (simp; omega)) _)))).mono ?_
  rintro e v1 ⟨x, rfl, x0, x1, k, r⟩
  have HBq : KB (w.heap.size) (R) w v1 := KB.callee (Nat.le_refl _) (by repeat (first | exact KB.refl _ _ _ | exact HB.out | refine KB.drew ?_ | refine KB.drewN ?_ | refine KB.alloc (Nat.le_refl _) ?_ _ | refine KB.setCell ?_ (by first | (show _ ≤ _; omega) | (simp; done) | (simp; omega)) _)) k
  have HB := Lib.hid HBq
  clear HBq
  have hR : R < v1.heap.size := Nat.lt_of_lt_of_le (by first | exact hR | omega | (simp; done) | (simp; omega)) k.size
  have HR := Lib.hid r
  have y0_1 : v1.cell? ⟨w.heap.size, 0, none⟩ = some (.int .i64 0) := kc k (by first | (simp; done) | go_simp) (by show w.heap.size ≠ _; omega)
  have yf0_1 : v1.frozen? ⟨w.heap.size, 0, none⟩ = false := kf k (by first | (simp; done) | (simp; omega) | (show w.heap.size < _; omega)) (by show w.heap.size ≠ _; omega) (by first | (simp; done) | go_simp)
  have y1_1 : v1.cell? ⟨w.heap.size, 1, none⟩ = some (.int .i64 0) := kc k (by first | (simp; done) | go_simp) (by show w.heap.size ≠ _; omega)
  have yf1_1 : v1.frozen? ⟨w.heap.size, 1, none⟩ = false := kf k (by first | (simp; done) | (simp; omega) | (show w.heap.size < _; omega)) (by show w.heap.size ≠ _; omega) (by first | (simp; done) | go_simp)
  have y2_1 : v1.cell? ⟨w.heap.size, 2, none⟩ = some (.int .i64 0) := kc k (by first | (simp; done) | go_simp) (by show w.heap.size ≠ _; omega)
  have yf2_1 : v1.frozen? ⟨w.heap.size, 2, none⟩ = false := kf k (by first | (simp; done) | (simp; omega) | (show w.heap.size < _; omega)) (by show w.heap.size ≠ _; omega) (by first | (simp; done) | go_simp)
  have y3_1 : v1.cell? ⟨w.heap.size, 3, none⟩ = some (.int .i64 0) := kc k (by first | (simp; done) | go_simp) (by show w.heap.size ≠ _; omega)
  have yf3_1 : v1.frozen? ⟨w.heap.size, 3, none⟩ = false := kf k (by first | (simp; done) | (simp; omega) | (show w.heap.size < _; omega)) (by show w.heap.size ≠ _; omega) (by first | (simp; done) | go_simp)
  have y4_1 : v1.cell? ⟨w.heap.size, 4, none⟩ = some (.int .i64 0) := kc k (by first | (simp; done) | go_simp) (by show w.heap.size ≠ _; omega)
  have yf4_1 : v1.frozen? ⟨w.heap.size, 4, none⟩ = false := kf k (by first | (simp; done) | (simp; omega) | (show w.heap.size < _; omega)) (by show w.heap.size ≠ _; omega) (by first | (simp; done) | go_simp)
  have yl_1 : w.heap.size < v1.heap.size := cell_lt y0_1
  have hszv1 := k.size
  try simp at hszv1
  clear r k
  go_upto_region 2 with fail
  go_cut [4] (fun s4 wx => AnyRepoCut R K w s4 wx)
  case first =>
    go_wp2_with fail
    refine (one_any _ _ _ (1) (100000000) _ _ _ (by exact intsIn_lit _ [1000000, 99, 1, 100000000, 12345678] _ _ _ _ _ _ rfl (by first | (simp; done) | (simp; omega) | omega) (by simp; try omega)) (by omega) (by omega) (by first | omega | (simp; done) | (simp; omega)) (by first | omega | (simp; omega)) (by first | exact hR | omega | (simp; done) | (simp; omega)) (by omega) (by omega) (Rd.fwd HR.out (by repeat (first | exact Below.refl _ _ | refine Below.drew ?_ | refine bel_drewN _ ?_ | refine Below.alloc ?_ (by first | omega | (simp; done) | (simp; omega)) _ | refine Below.setCell ?_ (by first | (show _ ≤ _; omega) | (simp; done) | (simp; omega)) _)))).mono ?_
    rintro e v2 ⟨c, rfl, c0, c1, k, r⟩
    have HBq : KB (w.heap.size) (R) w v2 := KB.callee (Nat.le_refl _) (by repeat (first | exact KB.refl _ _ _ | exact HB.out | refine KB.drew ?_ | refine KB.drewN ?_ | refine KB.alloc (Nat.le_refl _) ?_ _ | refine KB.setCell ?_ (by first | (show _ ≤ _; omega) | (simp; done) | (simp; omega)) _)) k
    have HB := Lib.hid HBq
    clear HBq
    have hR : R < v2.heap.size := Nat.lt_of_lt_of_le (by first | exact hR | omega | (simp; done) | (simp; omega)) k.size
    have HR := Lib.hid r
    have y0_2 : v2.cell? ⟨w.heap.size, 0, none⟩ = some (.int .i64 0) := kc k (by first | exact y0_1 | exact ca y0_1 | exact ca (ca y0_1) | exact ca (ca (ca y0_1)) | (simp; done) | go_simp) (by show w.heap.size ≠ _; omega)
    have yf0_2 : v2.frozen? ⟨w.heap.size, 0, none⟩ = false := kf k (by first | (simp; done) | (simp; omega) | (show w.heap.size < _; omega)) (by show w.heap.size ≠ _; omega) (by first | exact yf0_1 | exact fa (by show w.heap.size < _; omega) yf0_1 | exact fa (by show w.heap.size < _; simp; omega) (fa (by show w.heap.size < _; omega) yf0_1) | (simp; done) | go_simp)
    have y1_2 : v2.cell? ⟨w.heap.size, 1, none⟩ = some (.int .i64 0) := kc k (by first | exact y1_1 | exact ca y1_1 | exact ca (ca y1_1) | exact ca (ca (ca y1_1)) | (simp; done) | go_simp) (by show w.heap.size ≠ _; omega)
    have yf1_2 : v2.frozen? ⟨w.heap.size, 1, none⟩ = false := kf k (by first | (simp; done) | (simp; omega) | (show w.heap.size < _; omega)) (by show w.heap.size ≠ _; omega) (by first | exact yf1_1 | exact fa (by show w.heap.size < _; omega) yf1_1 | exact fa (by show w.heap.size < _; simp; omega) (fa (by show w.heap.size < _; omega) yf1_1) | (simp; done) | go_simp)
    have y2_2 : v2.cell? ⟨w.heap.size, 2, none⟩ = some (.int .i64 0) := kc k (by first | exact y2_1 | exact ca y2_1 | exact ca (ca y2_1) | exact ca (ca (ca y2_1)) | (simp; done) | go_simp) (by show w.heap.size ≠ _; omega)
    have yf2_2 : v2.frozen? ⟨w.heap.size, 2, none⟩ = false := kf k (by first | (simp; done) | (simp; omega) | (show w.heap.size < _; omega)) (by show w.heap.size ≠ _; omega) (by first | exact yf2_1 | exact fa (by show w.heap.size < _; omega) yf2_1 | exact fa (by show w.heap.size < _; simp; omega) (fa (by show w.heap.size < _; omega) yf2_1) | (simp; done) | go_simp)
    have y3_2 : v2.cell? ⟨w.heap.size, 3, none⟩ = some (.int .i64 0) := kc k (by first | exact y3_1 | exact ca y3_1 | exact ca (ca y3_1) | exact ca (ca (ca y3_1)) | (simp; done) | go_simp) (by show w.heap.size ≠ _; omega)
    have yf3_2 : v2.frozen? ⟨w.heap.size, 3, none⟩ = false := kf k (by first | (simp; done) | (simp; omega) | (show w.heap.size < _; omega)) (by show w.heap.size ≠ _; omega) (by first | exact yf3_1 | exact fa (by show w.heap.size < _; omega) yf3_1 | exact fa (by show w.heap.size < _; simp; omega) (fa (by show w.heap.size < _; omega) yf3_1) | (simp; done) | go_simp)
    have y4_2 : v2.cell? ⟨w.heap.size, 4, none⟩ = some (.int .i64 0) := kc k (by first | exact y4_1 | exact ca y4_1 | exact ca (ca y4_1) | exact ca (ca (ca y4_1)) | (simp; done) | go_simp) (by show w.heap.size ≠ _; omega)
    have yf4_2 : v2.frozen? ⟨w.heap.size, 4, none⟩ = false := kf k (by first | (simp; done) | (simp; omega) | (show w.heap.size < _; omega)) (by show w.heap.size ≠ _; omega) (by first | exact yf4_1 | exact fa (by show w.heap.size < _; omega) yf4_1 | exact fa (by show w.heap.size < _; simp; omega) (fa (by show w.heap.size < _; omega) yf4_1) | (simp; done) | go_simp)
    have yl_2 : w.heap.size < v2.heap.size := cell_lt y0_2
    clear y0_1 yf0_1 y1_1 yf1_1 y2_1 yf2_1 y3_1 yf3_1 y4_1 yf4_1 yl_1
    have hszv2 := k.size
    try simp at hszv2
    clear r k
    go_wp2_with fail
    refine (one_any _ _ _ (0) (3000) _ _ _ (by exact intsIn_lit _ [300, 0, 25, 3000] _ _ _ _ _ _ rfl (by first | (simp; done) | (simp; omega) | omega) (by simp; try omega)) (by omega) (by omega) (by first | omega | (simp; done) | (simp; omega)) (by first | omega | (simp; omega)) (by first | exact hR | omega | (simp; done) | (simp; omega)) (by omega) (by omega) (Rd.fwd HR.out (by repeat (first | exact Below.refl _ _ | refine Below.drew ?_ | refine bel_drewN _ ?_ | refine Below.alloc ?_ (by first | omega | (simp; done) | (simp; omega)) _ | refine Below.setCell ?_ (by first | (show _ ≤ _; omega) | (simp; done) | (simp; omega)) _)))).mono ?_
    rintro e v3 ⟨q, rfl, q0, q1, k, r⟩
    have HBq : KB (w.heap.size) (R) w v3 := KB.callee (Nat.le_refl _) (by repeat (first | exact KB.refl _ _ _ | exact HB.out | refine KB.drew ?_ | refine KB.drewN ?_ | refine KB.alloc (Nat.le_refl _) ?_ _ | refine KB.setCell ?_ (by first | (show _ ≤ _; omega) | (simp; done) | (simp; omega)) _)) k
    have HB := Lib.hid HBq
    clear HBq
    have hR : R < v3.heap.size := Nat.lt_of_lt_of_le (by first | exact hR | omega | (simp; done) | (simp; omega)) k.size
    have HR := Lib.hid r
    have y0_3 : v3.cell? ⟨w.heap.size, 0, none⟩ = some (.int .i64 0) := kc k (by first | exact y0_2 | exact ca y0_2 | exact ca (ca y0_2) | exact ca (ca (ca y0_2)) | (simp; done) | go_simp) (by show w.heap.size ≠ _; omega)
    have yf0_3 : v3.frozen? ⟨w.heap.size, 0, none⟩ = false := kf k (by first | (simp; done) | (simp; omega) | (show w.heap.size < _; omega)) (by show w.heap.size ≠ _; omega) (by first | exact yf0_2 | exact fa (by show w.heap.size < _; omega) yf0_2 | exact fa (by show w.heap.size < _; simp; omega) (fa (by show w.heap.size < _; omega) yf0_2) | (simp; done) | go_simp)
    have y1_3 : v3.cell? ⟨w.heap.size, 1, none⟩ = some (.int .i64 0) := kc k (by first | exact y1_2 | exact ca y1_2 | exact ca (ca y1_2) | exact ca (ca (ca y1_2)) | (simp; done) | go_simp) (by show w.heap.size ≠ _; omega)
    have yf1_3 : v3.frozen? ⟨w.heap.size, 1, none⟩ = false := kf k (by first | (simp; done) | (simp; omega) | (show w.heap.size < _; omega)) (by show w.heap.size ≠ _; omega) (by first | exact yf1_2 | exact fa (by show w.heap.size < _; omega) yf1_2 | exact fa (by show w.heap.size < _; simp; omega) (fa (by show w.heap.size < _; omega) yf1_2) | (simp; done) | go_simp)
    have y2_3 : v3.cell? ⟨w.heap.size, 2, none⟩ = some (.int .i64 0) := kc k (by first | exact y2_2 | exact ca y2_2 | exact ca (ca y2_2) | exact ca (ca (ca y2_2)) | (simp; done) | go_simp) (by show w.heap.size ≠ _; omega)
    have yf2_3 : v3.frozen? ⟨w.heap.size, 2, none⟩ = false := kf k (by first | (simp; done) | (simp; omega) | (show w.heap.size < _; omega)) (by show w.heap.size ≠ _; omega) (by first | exact yf2_2 | exact fa (by show w.heap.size < _; omega) yf2_2 | exact fa (by show w.heap.size < _; simp; omega) (fa (by show w.heap.size < _; omega) yf2_2) | (simp; done) | go_simp)
    have y3_3 : v3.cell? ⟨w.heap.size, 3, none⟩ = some (.int .i64 0) := kc k (by first | exact y3_2 | exact ca y3_2 | exact ca (ca y3_2) | exact ca (ca (ca y3_2)) | (simp; done) | go_simp) (by show w.heap.size ≠ _; omega)
    have yf3_3 : v3.frozen? ⟨w.heap.size, 3, none⟩ = false := kf k (by first | (simp; done) | (simp; omega) | (show w.heap.size < _; omega)) (by show w.heap.size ≠ _; omega) (by first | exact yf3_2 | exact fa (by show w.heap.size < _; omega) yf3_2 | exact fa (by show w.heap.size < _; simp; omega) (fa (by show w.heap.size < _; omega) yf3_2) | (simp; done) | go_simp)
    have y4_3 : v3.cell? ⟨w.heap.size, 4, none⟩ = some (.int .i64 0) := kc k (by first | exact y4_2 | exact ca y4_2 | exact ca (ca y4_2) | exact ca (ca (ca y4_2)) | (simp; done) | go_simp) (by show w.heap.size ≠ _; omega)
    have yf4_3 : v3.frozen? ⟨w.heap.size, 4, none⟩ = false := kf k (by first | (simp; done) | (simp; omega) | (show w.heap.size < _; omega)) (by show w.heap.size ≠ _; omega) (by first | exact yf4_2 | exact fa (by show w.heap.size < _; omega) yf4_2 | exact fa (by show w.heap.size < _; simp; omega) (fa (by show w.heap.size < _; omega) yf4_2) | (simp; done) | go_simp)
    have yl_3 : w.heap.size < v3.heap.size := cell_lt y0_3
    clear y0_2 yf0_2 y1_2 yf1_2 y2_2 yf2_2 y3_2 yf3_2 y4_2 yf4_2 yl_2
    have hszv3 := k.size
    try simp at hszv3
    clear r k
    go_wp2_with fail
    refine (one_any _ _ _ (0) (4000) _ _ _ (by exact intsIn_lit _ [1, 7, 30, 90, 0, 4000] _ _ _ _ _ _ rfl (by first | (simp; done) | (simp; omega) | omega) (by simp; try omega)) (by omega) (by omega) (by first | omega | (simp; done) | (simp; omega)) (by first | omega | (simp; omega)) (by first | exact hR | omega | (simp; done) | (simp; omega)) (by omega) (by omega) (Rd.fwd HR.out (by repeat (first | exact Below.refl _ _ | refine Below.drew ?_ | refine bel_drewN _ ?_ | refine Below.alloc ?_ (by first | omega | (simp; done) | (simp; omega)) _ | refine Below.setCell ?_ (by first | (show _ ≤ _; omega) | (simp; done) | (simp; omega)) _)))).mono ?_
    rintro e v4 ⟨p, rfl, p0, p1, k, r⟩
    have HBq : KB (w.heap.size) (R) w v4 := KB.callee (Nat.le_refl _) (by repeat (first | exact KB.refl _ _ _ | exact HB.out | refine KB.drew ?_ | refine KB.drewN ?_ | refine KB.alloc (Nat.le_refl _) ?_ _ | refine KB.setCell ?_ (by first | (show _ ≤ _; omega) | (simp; done) | (simp; omega)) _)) k
    have HB := Lib.hid HBq
    clear HBq
    have hR : R < v4.heap.size := Nat.lt_of_lt_of_le (by first | exact hR | omega | (simp; done) | (simp; omega)) k.size
    have HR := Lib.hid r
    have y0_4 : v4.cell? ⟨w.heap.size, 0, none⟩ = some (.int .i64 0) := kc k (by first | exact y0_3 | exact ca y0_3 | exact ca (ca y0_3) | exact ca (ca (ca y0_3)) | (simp; done) | go_simp) (by show w.heap.size ≠ _; omega)
    have yf0_4 : v4.frozen? ⟨w.heap.size, 0, none⟩ = false := kf k (by first | (simp; done) | (simp; omega) | (show w.heap.size < _; omega)) (by show w.heap.size ≠ _; omega) (by first | exact yf0_3 | exact fa (by show w.heap.size < _; omega) yf0_3 | exact fa (by show w.heap.size < _; simp; omega) (fa (by show w.heap.size < _; omega) yf0_3) | (simp; done) | go_simp)
    have y1_4 : v4.cell? ⟨w.heap.size, 1, none⟩ = some (.int .i64 0) := kc k (by first | exact y1_3 | exact ca y1_3 | exact ca (ca y1_3) | exact ca (ca (ca y1_3)) | (simp; done) | go_simp) (by show w.heap.size ≠ _; omega)
    have yf1_4 : v4.frozen? ⟨w.heap.size, 1, none⟩ = false := kf k (by first | (simp; done) | (simp; omega) | (show w.heap.size < _; omega)) (by show w.heap.size ≠ _; omega) (by first | exact yf1_3 | exact fa (by show w.heap.size < _; omega) yf1_3 | exact fa (by show w.heap.size < _; simp; omega) (fa (by show w.heap.size < _; omega) yf1_3) | (simp; done) | go_simp)
    have y2_4 : v4.cell? ⟨w.heap.size, 2, none⟩ = some (.int .i64 0) := kc k (by first | exact y2_3 | exact ca y2_3 | exact ca (ca y2_3) | exact ca (ca (ca y2_3)) | (simp; done) | go_simp) (by show w.heap.size ≠ _; omega)
    have yf2_4 : v4.frozen? ⟨w.heap.size, 2, none⟩ = false := kf k (by first | (simp; done) | (simp; omega) | (show w.heap.size < _; omega)) (by show w.heap.size ≠ _; omega) (by first | exact yf2_3 | exact fa (by show w.heap.size < _; omega) yf2_3 | exact fa (by show w.heap.size < _; simp; omega) (fa (by show w.heap.size < _; omega) yf2_3) | (simp; done) | go_simp)
    have y3_4 : v4.cell? ⟨w.heap.size, 3, none⟩ = some (.int .i64 0) := kc k (by first | exact y3_3 | exact ca y3_3 | exact ca (ca y3_3) | exact ca (ca (ca y3_3)) | (simp; done) | go_simp) (by show w.heap.size ≠ _; omega)
    have yf3_4 : v4.frozen? ⟨w.heap.size, 3, none⟩ = false := kf k (by first | (simp; done) | (simp; omega) | (show w.heap.size < _; omega)) (by show w.heap.size ≠ _; omega) (by first | exact yf3_3 | exact fa (by show w.heap.size < _; omega) yf3_3 | exact fa (by show w.heap.size < _; simp; omega) (fa (by show w.heap.size < _; omega) yf3_3) | (simp; done) | go_simp)
    have y4_4 : v4.cell? ⟨w.heap.size, 4, none⟩ = some (.int .i64 0) := kc k (by first | exact y4_3 | exact ca y4_3 | exact ca (ca y4_3) | exact ca (ca (ca y4_3)) | (simp; done) | go_simp) (by show w.heap.size ≠ _; omega)
    have yf4_4 : v4.frozen? ⟨w.heap.size, 4, none⟩ = false := kf k (by first | (simp; done) | (simp; omega) | (show w.heap.size < _; omega)) (by show w.heap.size ≠ _; omega) (by first | exact yf4_3 | exact fa (by show w.heap.size < _; omega) yf4_3 | exact fa (by show w.heap.size < _; simp; omega) (fa (by show w.heap.size < _; omega) yf4_3) | (simp; done) | go_simp)
    have yl_4 : w.heap.size < v4.heap.size := cell_lt y0_4
    clear y0_3 yf0_3 y1_3 yf1_3 y2_3 yf2_3 y3_3 yf3_3 y4_3 yf4_3 yl_3
    have hszv4 := k.size
    try simp at hszv4
    clear r k
    have ht : (x + p < 36524) = True ∨ (x + p < 36524) = False := by by_cases q : x + p < 36524 <;> simp [q]
    rcases ht with ht | ht
    · have hmn0 : (0 : Int) ≤ (x+p) := by omega
      have hmn1 : ((x+p) : Int) ≤ 36524 := by first | omega | (simp at ht; omega)
      go_wp2_with fail
      refine (one_any _ _ _ (0) (500) _ _ _ (by exact intsIn_lit _ [20, 0, 50, 500] _ _ _ _ _ _ rfl (by first | (simp; done) | (simp; omega) | omega) (by simp; try omega)) (by omega) (by omega) (by first | omega | (simp; done) | (simp; omega)) (by first | omega | (simp; omega)) (by first | exact hR | omega | (simp; done) | (simp; omega)) (by omega) (by omega) (Rd.fwd HR.out (by repeat (first | exact Below.refl _ _ | refine Below.drew ?_ | refine bel_drewN _ ?_ | refine Below.alloc ?_ (by first | omega | (simp; done) | (simp; omega)) _ | refine Below.setCell ?_ (by first | (show _ ≤ _; omega) | (simp; done) | (simp; omega)) _)))).mono ?_
      rintro e v5 ⟨h, rfl, h0, h1, k, r⟩
      have HBq : KB (w.heap.size) (R) w v5 := KB.callee (Nat.le_refl _) (by repeat (first | exact KB.refl _ _ _ | exact HB.out | refine KB.drew ?_ | refine KB.drewN ?_ | refine KB.alloc (Nat.le_refl _) ?_ _ | refine KB.setCell ?_ (by first | (show _ ≤ _; omega) | (simp; done) | (simp; omega)) _)) k
      have HB := Lib.hid HBq
      clear HBq
      have hR : R < v5.heap.size := Nat.lt_of_lt_of_le (by first | exact hR | omega | (simp; done) | (simp; omega)) k.size
      have HR := Lib.hid r
      have y0_5 : v5.cell? ⟨w.heap.size, 0, none⟩ = some (.int .i64 0) := kc k (by first | exact y0_4 | exact ca y0_4 | exact ca (ca y0_4) | exact ca (ca (ca y0_4)) | (simp; done) | go_simp) (by show w.heap.size ≠ _; omega)
      have yf0_5 : v5.frozen? ⟨w.heap.size, 0, none⟩ = false := kf k (by first | (simp; done) | (simp; omega) | (show w.heap.size < _; omega)) (by show w.heap.size ≠ _; omega) (by first | exact yf0_4 | exact fa (by show w.heap.size < _; omega) yf0_4 | exact fa (by show w.heap.size < _; simp; omega) (fa (by show w.heap.size < _; omega) yf0_4) | (simp; done) | go_simp)
      have y1_5 : v5.cell? ⟨w.heap.size, 1, none⟩ = some (.int .i64 0) := kc k (by first | exact y1_4 | exact ca y1_4 | exact ca (ca y1_4) | exact ca (ca (ca y1_4)) | (simp; done) | go_simp) (by show w.heap.size ≠ _; omega)
      have yf1_5 : v5.frozen? ⟨w.heap.size, 1, none⟩ = false := kf k (by first | (simp; done) | (simp; omega) | (show w.heap.size < _; omega)) (by show w.heap.size ≠ _; omega) (by first | exact yf1_4 | exact fa (by show w.heap.size < _; omega) yf1_4 | exact fa (by show w.heap.size < _; simp; omega) (fa (by show w.heap.size < _; omega) yf1_4) | (simp; done) | go_simp)
      have y2_5 : v5.cell? ⟨w.heap.size, 2, none⟩ = some (.int .i64 0) := kc k (by first | exact y2_4 | exact ca y2_4 | exact ca (ca y2_4) | exact ca (ca (ca y2_4)) | (simp; done) | go_simp) (by show w.heap.size ≠ _; omega)
      have yf2_5 : v5.frozen? ⟨w.heap.size, 2, none⟩ = false := kf k (by first | (simp; done) | (simp; omega) | (show w.heap.size < _; omega)) (by show w.heap.size ≠ _; omega) (by first | exact yf2_4 | exact fa (by show w.heap.size < _; omega) yf2_4 | exact fa (by show w.heap.size < _; simp; omega) (fa (by show w.heap.size < _; omega) yf2_4) | (simp; done) | go_simp)
      have y3_5 : v5.cell? ⟨w.heap.size, 3, none⟩ = some (.int .i64 0) := kc k (by first | exact y3_4 | exact ca y3_4 | exact ca (ca y3_4) | exact ca (ca (ca y3_4)) | (simp; done) | go_simp) (by show w.heap.size ≠ _; omega)
      have yf3_5 : v5.frozen? ⟨w.heap.size, 3, none⟩ = false := kf k (by first | (simp; done) | (simp; omega) | (show w.heap.size < _; omega)) (by show w.heap.size ≠ _; omega) (by first | exact yf3_4 | exact fa (by show w.heap.size < _; omega) yf3_4 | exact fa (by show w.heap.size < _; simp; omega) (fa (by show w.heap.size < _; omega) yf3_4) | (simp; done) | go_simp)
      have y4_5 : v5.cell? ⟨w.heap.size, 4, none⟩ = some (.int .i64 0) := kc k (by first | exact y4_4 | exact ca y4_4 | exact ca (ca y4_4) | exact ca (ca (ca y4_4)) | (simp; done) | go_simp) (by show w.heap.size ≠ _; omega)
      have yf4_5 : v5.frozen? ⟨w.heap.size, 4, none⟩ = false := kf k (by first | (simp; done) | (simp; omega) | (show w.heap.size < _; omega)) (by show w.heap.size ≠ _; omega) (by first | exact yf4_4 | exact fa (by show w.heap.size < _; omega) yf4_4 | exact fa (by show w.heap.size < _; simp; omega) (fa (by show w.heap.size < _; omega) yf4_4) | (simp; done) | go_simp)
      have yl_5 : w.heap.size < v5.heap.size := cell_lt y0_5
      clear y0_4 yf0_4 y1_4 yf1_4 y2_4 yf2_4 y3_4 yf3_4 y4_4 yf4_4 yl_4
      have hszv5 := k.size
      try simp at hszv5
      clear r k
      go_wp2_with fail
      go_meet
      refine ⟨c, q, x, (x+p), h, v5.heap.size, rfl, ⟨c0, c1⟩, ⟨q0, q1⟩, ⟨x0, x1⟩, ⟨hmn0, hmn1⟩, ⟨h0, h1⟩, by omega, Five.new _ _ _ _ _ _ _, Five.alloc ⟨⟨by assumption, by assumption, by assumption, by assumption, by assumption⟩, by assumption, by assumption, by assumption, by assumption, by assumption⟩ _, (by repeat (first | exact KB.refl _ _ _ | exact HB.out | refine KB.drew ?_ | refine KB.drewN ?_ | refine KB.alloc (Nat.le_refl _) ?_ _ | refine KB.setCell ?_ (by first | (show _ ≤ _; omega) | (simp; done) | (simp; omega)) _)), ?_, by simp; omega⟩
      exact Rd.mono (Rd.fwd HR.out (by repeat (first | exact Below.refl _ _ | refine Below.drew ?_ | refine bel_drewN _ ?_ | refine Below.alloc ?_ (by first | omega | (simp; done) | (simp; omega)) _ | refine Below.setCell ?_ (by first | (show _ ≤ _; omega) | (simp; done) | (simp; omega)) _))) (by omega)
    · have hmn0 : (0 : Int) ≤ 36524 := by omega
      have hmn1 : (36524 : Int) ≤ 36524 := by first | omega | (simp at ht; omega)
      go_wp2_with fail
      refine (one_any _ _ _ (0) (500) _ _ _ (by exact intsIn_lit _ [20, 0, 50, 500] _ _ _ _ _ _ rfl (by first | (simp; done) | (simp; omega) | omega) (by simp; try omega)) (by omega) (by omega) (by first | omega | (simp; done) | (simp; omega)) (by first | omega | (simp; omega)) (by first | exact hR | omega | (simp; done) | (simp; omega)) (by omega) (by omega) (Rd.fwd HR.out (by repeat (first | exact Below.refl _ _ | refine Below.drew ?_ | refine bel_drewN _ ?_ | refine Below.alloc ?_ (by first | omega | (simp; done) | (simp; omega)) _ | refine Below.setCell ?_ (by first | (show _ ≤ _; omega) | (simp; done) | (simp; omega)) _)))).mono ?_
      rintro e v5 ⟨h, rfl, h0, h1, k, r⟩
      have HBq : KB (w.heap.size) (R) w v5 := KB.callee (Nat.le_refl _) (by repeat (first | exact KB.refl _ _ _ | exact HB.out | refine KB.drew ?_ | refine KB.drewN ?_ | refine KB.alloc (Nat.le_refl _) ?_ _ | refine KB.setCell ?_ (by first | (show _ ≤ _; omega) | (simp; done) | (simp; omega)) _)) k
      have HB := Lib.hid HBq
      clear HBq
      have hR : R < v5.heap.size := Nat.lt_of_lt_of_le (by first | exact hR | omega | (simp; done) | (simp; omega)) k.size
      have HR := Lib.hid r
      have y0_5 : v5.cell? ⟨w.heap.size, 0, none⟩ = some (.int .i64 0) := kc k (by first | exact y0_4 | exact ca y0_4 | exact ca (ca y0_4) | exact ca (ca (ca y0_4)) | (simp; done) | go_simp) (by show w.heap.size ≠ _; omega)
      have yf0_5 : v5.frozen? ⟨w.heap.size, 0, none⟩ = false := kf k (by first | (simp; done) | (simp; omega) | (show w.heap.size < _; omega)) (by show w.heap.size ≠ _; omega) (by first | exact yf0_4 | exact fa (by show w.heap.size < _; omega) yf0_4 | exact fa (by show w.heap.size < _; simp; omega) (fa (by show w.heap.size < _; omega) yf0_4) | (simp; done) | go_simp)
      have y1_5 : v5.cell? ⟨w.heap.size, 1, none⟩ = some (.int .i64 0) := kc k (by first | exact y1_4 | exact ca y1_4 | exact ca (ca y1_4) | exact ca (ca (ca y1_4)) | (simp; done) | go_simp) (by show w.heap.size ≠ _; omega)
      have yf1_5 : v5.frozen? ⟨w.heap.size, 1, none⟩ = false := kf k (by first | (simp; done) | (simp; omega) | (show w.heap.size < _; omega)) (by show w.heap.size ≠ _; omega) (by first | exact yf1_4 | exact fa (by show w.heap.size < _; omega) yf1_4 | exact fa (by show w.heap.size < _; simp; omega) (fa (by show w.heap.size < _; omega) yf1_4) | (simp; done) | go_simp)
      have y2_5 : v5.cell? ⟨w.heap.size, 2, none⟩ = some (.int .i64 0) := kc k (by first | exact y2_4 | exact ca y2_4 | exact ca (ca y2_4) | exact ca (ca (ca y2_4)) | (simp; done) | go_simp) (by show w.heap.size ≠ _; omega)
      have yf2_5 : v5.frozen? ⟨w.heap.size, 2, none⟩ = false := kf k (by first | (simp; done) | (simp; omega) | (show w.heap.size < _; omega)) (by show w.heap.size ≠ _; omega) (by first | exact yf2_4 | exact fa (by show w.heap.size < _; omega) yf2_4 | exact fa (by show w.heap.size < _; simp; omega) (fa (by show w.heap.size < _; omega) yf2_4) | (simp; done) | go_simp)
      have y3_5 : v5.cell? ⟨w.heap.size, 3, none⟩ = some (.int .i64 0) := kc k (by first | exact y3_4 | exact ca y3_4 | exact ca (ca y3_4) | exact ca (ca (ca y3_4)) | (simp; done) | go_simp) (by show w.heap.size ≠ _; omega)
      have yf3_5 : v5.frozen? ⟨w.heap.size, 3, none⟩ = false := kf k (by first | (simp; done) | (simp; omega) | (show w.heap.size < _; omega)) (by show w.heap.size ≠ _; omega) (by first | exact yf3_4 | exact fa (by show w.heap.size < _; omega) yf3_4 | exact fa (by show w.heap.size < _; simp; omega) (fa (by show w.heap.size < _; omega) yf3_4) | (simp; done) | go_simp)
      have y4_5 : v5.cell? ⟨w.heap.size, 4, none⟩ = some (.int .i64 0) := kc k (by first | exact y4_4 | exact ca y4_4 | exact ca (ca y4_4) | exact ca (ca (ca y4_4)) | (simp; done) | go_simp) (by show w.heap.size ≠ _; omega)
      have yf4_5 : v5.frozen? ⟨w.heap.size, 4, none⟩ = false := kf k (by first | (simp; done) | (simp; omega) | (show w.heap.size < _; omega)) (by show w.heap.size ≠ _; omega) (by first | exact yf4_4 | exact fa (by show w.heap.size < _; omega) yf4_4 | exact fa (by show w.heap.size < _; simp; omega) (fa (by show w.heap.size < _; omega) yf4_4) | (simp; done) | go_simp)
      have yl_5 : w.heap.size < v5.heap.size := cell_lt y0_5
      clear y0_4 yf0_4 y1_4 yf1_4 y2_4 yf2_4 y3_4 yf3_4 y4_4 yf4_4 yl_4
      have hszv5 := k.size
      try simp at hszv5
      clear r k
      go_wp2_with fail
      go_meet
      refine ⟨c, q, x, 36524, h, v5.heap.size, rfl, ⟨c0, c1⟩, ⟨q0, q1⟩, ⟨x0, x1⟩, ⟨hmn0, hmn1⟩, ⟨h0, h1⟩, by omega, Five.new _ _ _ _ _ _ _, Five.alloc ⟨⟨by assumption, by assumption, by assumption, by assumption, by assumption⟩, by assumption, by assumption, by assumption, by assumption, by assumption⟩ _, (by repeat (first | exact KB.refl _ _ _ | exact HB.out | refine KB.drew ?_ | refine KB.drewN ?_ | refine KB.alloc (Nat.le_refl _) ?_ _ | refine KB.setCell ?_ (by first | (show _ ≤ _; omega) | (simp; done) | (simp; omega)) _)), ?_, by simp; omega⟩
      exact Rd.mono (Rd.fwd HR.out (by repeat (first | exact Below.refl _ _ | refine Below.drew ?_ | refine bel_drewN _ ?_ | refine Below.alloc ?_ (by first | omega | (simp; done) | (simp; omega)) _ | refine Below.setCell ?_ (by first | (show _ ≤ _; omega) | (simp; done) | (simp; omega)) _))) (by omega)
  case rest =>
    obtain ⟨c, q, x, m, h, SB, rfl, hc, hq, hx, hm, hh, hSB, ⟨⟨s0, s1, s2, s3, s4⟩, t0, t1, t2, t3, t4⟩, ⟨⟨y0, y1, y2, y3, y4⟩, z0, z1, z2, z3, z4⟩, hkb, hrd, hRx⟩ := hcut
    have HR := Lib.hid hrd
    have HB := Lib.hid hkb
    have hR := hRx
    clear hrd hkb hRx
    have hSl := cell_lt s0
    go_wp2_with fail
    refine (pick_any _ _ _ _ (by first | exact hR | omega | (simp; done) | (simp; omega)) (by omega) (by omega) (by omega) (by omega) (Rd.fwd HR.out (by repeat (first | exact Below.refl _ _ | refine Below.drew ?_ | refine bel_drewN _ ?_ | refine Below.alloc ?_ (by first | omega | (simp; done) | (simp; omega)) _ | refine Below.setCell ?_ (by first | (show _ ≤ _; omega) | (simp; done) | (simp; omega)) _)))).mono ?_
    rintro e v6 ⟨z, rfl, z0, z1, k, r⟩
    have z2 : z ≤ 23 := by omega
    clear z1
    have HBq : KB (w.heap.size) (R) w v6 := KB.callee (Nat.le_refl _) (by repeat (first | exact KB.refl _ _ _ | exact HB.out | refine KB.drew ?_ | refine KB.drewN ?_ | refine KB.alloc (Nat.le_refl _) ?_ _ | refine KB.setCell ?_ (by first | (show _ ≤ _; omega) | (simp; done) | (simp; omega)) _)) k
    have HB := Lib.hid HBq
    clear HBq
    have hR : R < v6.heap.size := Nat.lt_of_lt_of_le (by first | exact hR | omega | (simp; done) | (simp; omega)) k.size
    have HR := Lib.hid r
    have y0_1 : v6.cell? ⟨w.heap.size, 0, none⟩ = some (.int .i64 0) := kc k (by first | (simp; done) | go_simp) (by show w.heap.size ≠ _; omega)
    have yf0_1 : v6.frozen? ⟨w.heap.size, 0, none⟩ = false := kf k (by first | (simp; done) | (simp; omega) | (show w.heap.size < _; omega)) (by show w.heap.size ≠ _; omega) (by first | (simp; done) | go_simp)
    have y1_1 : v6.cell? ⟨w.heap.size, 1, none⟩ = some (.int .i64 0) := kc k (by first | (simp; done) | go_simp) (by show w.heap.size ≠ _; omega)
    have yf1_1 : v6.frozen? ⟨w.heap.size, 1, none⟩ = false := kf k (by first | (simp; done) | (simp; omega) | (show w.heap.size < _; omega)) (by show w.heap.size ≠ _; omega) (by first | (simp; done) | go_simp)
    have y2_1 : v6.cell? ⟨w.heap.size, 2, none⟩ = some (.int .i64 0) := kc k (by first | (simp; done) | go_simp) (by show w.heap.size ≠ _; omega)
    have yf2_1 : v6.frozen? ⟨w.heap.size, 2, none⟩ = false := kf k (by first | (simp; done) | (simp; omega) | (show w.heap.size < _; omega)) (by show w.heap.size ≠ _; omega) (by first | (simp; done) | go_simp)
    have y3_1 : v6.cell? ⟨w.heap.size, 3, none⟩ = some (.int .i64 0) := kc k (by first | (simp; done) | go_simp) (by show w.heap.size ≠ _; omega)
    have yf3_1 : v6.frozen? ⟨w.heap.size, 3, none⟩ = false := kf k (by first | (simp; done) | (simp; omega) | (show w.heap.size < _; omega)) (by show w.heap.size ≠ _; omega) (by first | (simp; done) | go_simp)
    have y4_1 : v6.cell? ⟨w.heap.size, 4, none⟩ = some (.int .i64 0) := kc k (by first | (simp; done) | go_simp) (by show w.heap.size ≠ _; omega)
    have yf4_1 : v6.frozen? ⟨w.heap.size, 4, none⟩ = false := kf k (by first | (simp; done) | (simp; omega) | (show w.heap.size < _; omega)) (by show w.heap.size ≠ _; omega) (by first | (simp; done) | go_simp)
    have yl_1 : w.heap.size < v6.heap.size := cell_lt y0_1
    have s0_1 : v6.cell? ⟨SB, 0, none⟩ = some (.int .i64 c) := kc k (by first | (simp; done) | go_simp) (by show SB ≠ _; omega)
    have sf0_1 : v6.frozen? ⟨SB, 0, none⟩ = false := kf k (by first | (simp; done) | (simp; omega) | (show SB < _; omega)) (by show SB ≠ _; omega) (by first | (simp; done) | go_simp)
    have s1_1 : v6.cell? ⟨SB, 1, none⟩ = some (.int .i64 q) := kc k (by first | (simp; done) | go_simp) (by show SB ≠ _; omega)
    have sf1_1 : v6.frozen? ⟨SB, 1, none⟩ = false := kf k (by first | (simp; done) | (simp; omega) | (show SB < _; omega)) (by show SB ≠ _; omega) (by first | (simp; done) | go_simp)
    have s2_1 : v6.cell? ⟨SB, 2, none⟩ = some (.int .i64 x) := kc k (by first | (simp; done) | go_simp) (by show SB ≠ _; omega)
    have sf2_1 : v6.frozen? ⟨SB, 2, none⟩ = false := kf k (by first | (simp; done) | (simp; omega) | (show SB < _; omega)) (by show SB ≠ _; omega) (by first | (simp; done) | go_simp)
    have s3_1 : v6.cell? ⟨SB, 3, none⟩ = some (.int .i64 m) := kc k (by first | (simp; done) | go_simp) (by show SB ≠ _; omega)
    have sf3_1 : v6.frozen? ⟨SB, 3, none⟩ = false := kf k (by first | (simp; done) | (simp; omega) | (show SB < _; omega)) (by show SB ≠ _; omega) (by first | (simp; done) | go_simp)
    have s4_1 : v6.cell? ⟨SB, 4, none⟩ = some (.int .i64 h) := kc k (by first | (simp; done) | go_simp) (by show SB ≠ _; omega)
    have sf4_1 : v6.frozen? ⟨SB, 4, none⟩ = false := kf k (by first | (simp; done) | (simp; omega) | (show SB < _; omega)) (by show SB ≠ _; omega) (by first | (simp; done) | go_simp)
    have sl_1 : SB < v6.heap.size := cell_lt s0_1
    have hszv6 := k.size
    try simp at hszv6
    clear r k
    have hne : SB ≠ w.heap.size := by omega
    by_cases hz0 : z = 0
    · subst hz0
      go_wp2_with fail
      refine (one_any _ _ _ (0) (100000001) _ _ _ (by exact intsIn_lit _ [0, 100000001] _ _ _ _ _ _ rfl (by first | (simp; done) | (simp; omega) | omega) (by simp; try omega)) (by omega) (by omega) (by first | omega | (simp; done) | (simp; omega)) (by first | omega | (simp; omega)) (by first | exact hR | omega | (simp; done) | (simp; omega)) (by omega) (by omega) (Rd.fwd HR.out (by repeat (first | exact Below.refl _ _ | refine Below.drew ?_ | refine bel_drewN _ ?_ | refine Below.alloc ?_ (by first | omega | (simp; done) | (simp; omega)) _ | refine Below.setCell ?_ (by first | (show _ ≤ _; omega) | (simp; done) | (simp; omega)) _)))).mono ?_
      rintro e u1 ⟨t, rfl, t0, t1, k, r⟩
      have HBq : KB (w.heap.size) (R) w u1 := KB.callee (Nat.le_refl _) (by repeat (first | exact KB.refl _ _ _ | exact HB.out | refine KB.drew ?_ | refine KB.drewN ?_ | refine KB.alloc (Nat.le_refl _) ?_ _ | refine KB.setCell ?_ (by first | (show _ ≤ _; omega) | (simp; done) | (simp; omega)) _)) k
      have HB := Lib.hid HBq
      clear HBq
      have hR : R < u1.heap.size := Nat.lt_of_lt_of_le (by first | exact hR | omega | (simp; done) | (simp; omega)) k.size
      have HR := Lib.hid r
      have y0_2 : u1.cell? ⟨w.heap.size, 0, none⟩ = some (.int .i64 0) := kc k (by first | exact y0_1 | exact ca y0_1 | exact ca (ca y0_1) | exact ca (ca (ca y0_1)) | (simp; done) | go_simp) (by show w.heap.size ≠ _; omega)
      have yf0_2 : u1.frozen? ⟨w.heap.size, 0, none⟩ = false := kf k (by first | (simp; done) | (simp; omega) | (show w.heap.size < _; omega)) (by show w.heap.size ≠ _; omega) (by first | exact yf0_1 | exact fa (by show w.heap.size < _; omega) yf0_1 | exact fa (by show w.heap.size < _; simp; omega) (fa (by show w.heap.size < _; omega) yf0_1) | (simp; done) | go_simp)
      have y1_2 : u1.cell? ⟨w.heap.size, 1, none⟩ = some (.int .i64 0) := kc k (by first | exact y1_1 | exact ca y1_1 | exact ca (ca y1_1) | exact ca (ca (ca y1_1)) | (simp; done) | go_simp) (by show w.heap.size ≠ _; omega)
      have yf1_2 : u1.frozen? ⟨w.heap.size, 1, none⟩ = false := kf k (by first | (simp; done) | (simp; omega) | (show w.heap.size < _; omega)) (by show w.heap.size ≠ _; omega) (by first | exact yf1_1 | exact fa (by show w.heap.size < _; omega) yf1_1 | exact fa (by show w.heap.size < _; simp; omega) (fa (by show w.heap.size < _; omega) yf1_1) | (simp; done) | go_simp)
      have y2_2 : u1.cell? ⟨w.heap.size, 2, none⟩ = some (.int .i64 0) := kc k (by first | exact y2_1 | exact ca y2_1 | exact ca (ca y2_1) | exact ca (ca (ca y2_1)) | (simp; done) | go_simp) (by show w.heap.size ≠ _; omega)
      have yf2_2 : u1.frozen? ⟨w.heap.size, 2, none⟩ = false := kf k (by first | (simp; done) | (simp; omega) | (show w.heap.size < _; omega)) (by show w.heap.size ≠ _; omega) (by first | exact yf2_1 | exact fa (by show w.heap.size < _; omega) yf2_1 | exact fa (by show w.heap.size < _; simp; omega) (fa (by show w.heap.size < _; omega) yf2_1) | (simp; done) | go_simp)
      have y3_2 : u1.cell? ⟨w.heap.size, 3, none⟩ = some (.int .i64 0) := kc k (by first | exact y3_1 | exact ca y3_1 | exact ca (ca y3_1) | exact ca (ca (ca y3_1)) | (simp; done) | go_simp) (by show w.heap.size ≠ _; omega)
      have yf3_2 : u1.frozen? ⟨w.heap.size, 3, none⟩ = false := kf k (by first | (simp; done) | (simp; omega) | (show w.heap.size < _; omega)) (by show w.heap.size ≠ _; omega) (by first | exact yf3_1 | exact fa (by show w.heap.size < _; omega) yf3_1 | exact fa (by show w.heap.size < _; simp; omega) (fa (by show w.heap.size < _; omega) yf3_1) | (simp; done) | go_simp)
      have y4_2 : u1.cell? ⟨w.heap.size, 4, none⟩ = some (.int .i64 0) := kc k (by first | exact y4_1 | exact ca y4_1 | exact ca (ca y4_1) | exact ca (ca (ca y4_1)) | (simp; done) | go_simp) (by show w.heap.size ≠ _; omega)
      have yf4_2 : u1.frozen? ⟨w.heap.size, 4, none⟩ = false := kf k (by first | (simp; done) | (simp; omega) | (show w.heap.size < _; omega)) (by show w.heap.size ≠ _; omega) (by first | exact yf4_1 | exact fa (by show w.heap.size < _; omega) yf4_1 | exact fa (by show w.heap.size < _; simp; omega) (fa (by show w.heap.size < _; omega) yf4_1) | (simp; done) | go_simp)
      have yl_2 : w.heap.size < u1.heap.size := cell_lt y0_2
      clear y0_1 yf0_1 y1_1 yf1_1 y2_1 yf2_1 y3_1 yf3_1 y4_1 yf4_1 yl_1
      have s0_2 : u1.cell? ⟨SB, 0, none⟩ = some (.int .i64 c) := kc k (by first | exact s0_1 | exact ca s0_1 | exact ca (ca s0_1) | exact ca (ca (ca s0_1)) | (simp; done) | go_simp) (by show SB ≠ _; omega)
      have sf0_2 : u1.frozen? ⟨SB, 0, none⟩ = false := kf k (by first | (simp; done) | (simp; omega) | (show SB < _; omega)) (by show SB ≠ _; omega) (by first | exact sf0_1 | exact fa (by show SB < _; omega) sf0_1 | exact fa (by show SB < _; simp; omega) (fa (by show SB < _; omega) sf0_1) | (simp; done) | go_simp)
      have s1_2 : u1.cell? ⟨SB, 1, none⟩ = some (.int .i64 q) := kc k (by first | exact s1_1 | exact ca s1_1 | exact ca (ca s1_1) | exact ca (ca (ca s1_1)) | (simp; done) | go_simp) (by show SB ≠ _; omega)
      have sf1_2 : u1.frozen? ⟨SB, 1, none⟩ = false := kf k (by first | (simp; done) | (simp; omega) | (show SB < _; omega)) (by show SB ≠ _; omega) (by first | exact sf1_1 | exact fa (by show SB < _; omega) sf1_1 | exact fa (by show SB < _; simp; omega) (fa (by show SB < _; omega) sf1_1) | (simp; done) | go_simp)
      have s2_2 : u1.cell? ⟨SB, 2, none⟩ = some (.int .i64 x) := kc k (by first | exact s2_1 | exact ca s2_1 | exact ca (ca s2_1) | exact ca (ca (ca s2_1)) | (simp; done) | go_simp) (by show SB ≠ _; omega)
      have sf2_2 : u1.frozen? ⟨SB, 2, none⟩ = false := kf k (by first | (simp; done) | (simp; omega) | (show SB < _; omega)) (by show SB ≠ _; omega) (by first | exact sf2_1 | exact fa (by show SB < _; omega) sf2_1 | exact fa (by show SB < _; simp; omega) (fa (by show SB < _; omega) sf2_1) | (simp; done) | go_simp)
      have s3_2 : u1.cell? ⟨SB, 3, none⟩ = some (.int .i64 m) := kc k (by first | exact s3_1 | exact ca s3_1 | exact ca (ca s3_1) | exact ca (ca (ca s3_1)) | (simp; done) | go_simp) (by show SB ≠ _; omega)
      have sf3_2 : u1.frozen? ⟨SB, 3, none⟩ = false := kf k (by first | (simp; done) | (simp; omega) | (show SB < _; omega)) (by show SB ≠ _; omega) (by first | exact sf3_1 | exact fa (by show SB < _; omega) sf3_1 | exact fa (by show SB < _; simp; omega) (fa (by show SB < _; omega) sf3_1) | (simp; done) | go_simp)
      have s4_2 : u1.cell? ⟨SB, 4, none⟩ = some (.int .i64 h) := kc k (by first | exact s4_1 | exact ca s4_1 | exact ca (ca s4_1) | exact ca (ca (ca s4_1)) | (simp; done) | go_simp) (by show SB ≠ _; omega)
      have sf4_2 : u1.frozen? ⟨SB, 4, none⟩ = false := kf k (by first | (simp; done) | (simp; omega) | (show SB < _; omega)) (by show SB ≠ _; omega) (by first | exact sf4_1 | exact fa (by show SB < _; omega) sf4_1 | exact fa (by show SB < _; simp; omega) (fa (by show SB < _; omega) sf4_1) | (simp; done) | go_simp)
      have sl_2 : SB < u1.heap.size := cell_lt s0_2
      clear s0_1 sf0_1 s1_1 sf1_1 s2_1 sf2_1 s3_1 sf3_1 s4_1 sf4_1 sl_1
      have hszu1 := k.size
      try simp at hszu1
      clear r k
      have hne : SB ≠ w.heap.size := by omega
      go_wp2
      have h4 : Has5 u1 w.heap.size 0 0 0 0 0 := ⟨by assumption, by assumption, by assumption, by assumption, by assumption⟩
      have h5 : Has5 (u1.setCell ⟨SB, 0, none⟩ (.int .i64 t)) w.heap.size 0 0 0 0 0 := h4.far hne
      have k5 : KB w.heap.size R w (u1.setCell ⟨SB, 0, none⟩ (.int .i64 t)) := KB.setCell HB.out (by show w.heap.size ≤ SB; omega) _
      have r5 := Rd.fwd HR.out (Below.setCell (Below.refl (R + 1) u1) (p := ⟨SB, 0, none⟩) (by show R + 1 ≤ SB; omega) (.int .i64 t))
      have h6 := h5.set (n0 := t) (n1 := q) (n2 := x) (n3 := m) (n4 := h)
      have k6 := st5_kb (n0 := t) (n1 := q) (n2 := x) (n3 := m) (n4 := h) k5 (Nat.le_refl w.heap.size)
      have r6 := Rd.fwd r5 (st5_below (n0 := t) (n1 := q) (n2 := x) (n3 := m) (n4 := h) (Below.refl (R + 1) _) (show R + 1 ≤ w.heap.size by omega))
      change bodyPost _ _ _ _ _ (st5 (u1.setCell ⟨SB, 0, none⟩ (.int .i64 t)) w.heap.size (t) (q) (x) (m) (h))
      generalize st5 (u1.setCell ⟨SB, 0, none⟩ (.int .i64 t)) w.heap.size (t) (q) (x) (m) (h) = WF at *
      exact bodyPost_ret (res5 Tryd.results16 (by rfl) h6) rfl (RepoP.mk _ _ _ _ _ (by omega) (by omega) (by omega) (by omega) (by omega) (KB.keep k6) (r6.mono (by omega)))
    · have hz0' : (z == 0) = false := by simpa using hz0
      by_cases hz1 : z = 1
      · subst hz1
        go_wp2_with fail
        refine (one_any _ _ _ (-1) (40525) _ _ _ (by exact intsIn_lit _ [x - 1, x + 4001, 36525] _ _ _ _ _ _ rfl (by first | (simp; done) | (simp; omega) | omega) (by simp; try omega)) (by omega) (by omega) (by first | omega | (simp; done) | (simp; omega)) (by first | omega | (simp; omega)) (by first | exact hR | omega | (simp; done) | (simp; omega)) (by omega) (by omega) (Rd.fwd HR.out (by repeat (first | exact Below.refl _ _ | refine Below.drew ?_ | refine bel_drewN _ ?_ | refine Below.alloc ?_ (by first | omega | (simp; done) | (simp; omega)) _ | refine Below.setCell ?_ (by first | (show _ ≤ _; omega) | (simp; done) | (simp; omega)) _)))).mono ?_
        rintro e u1 ⟨t, rfl, t0, t1, k, r⟩
        have HBq : KB (w.heap.size) (R) w u1 := KB.callee (Nat.le_refl _) (by repeat (first | exact KB.refl _ _ _ | exact HB.out | refine KB.drew ?_ | refine KB.drewN ?_ | refine KB.alloc (Nat.le_refl _) ?_ _ | refine KB.setCell ?_ (by first | (show _ ≤ _; omega) | (simp; done) | (simp; omega)) _)) k
        have HB := Lib.hid HBq
        clear HBq
        have hR : R < u1.heap.size := Nat.lt_of_lt_of_le (by first | exact hR | omega | (simp; done) | (simp; omega)) k.size
        have HR := Lib.hid r
        have y0_2 : u1.cell? ⟨w.heap.size, 0, none⟩ = some (.int .i64 0) := kc k (by first | exact y0_1 | exact ca y0_1 | exact ca (ca y0_1) | exact ca (ca (ca y0_1)) | (simp; done) | go_simp) (by show w.heap.size ≠ _; omega)
        have yf0_2 : u1.frozen? ⟨w.heap.size, 0, none⟩ = false := kf k (by first | (simp; done) | (simp; omega) | (show w.heap.size < _; omega)) (by show w.heap.size ≠ _; omega) (by first | exact yf0_1 | exact fa (by show w.heap.size < _; omega) yf0_1 | exact fa (by show w.heap.size < _; simp; omega) (fa (by show w.heap.size < _; omega) yf0_1) | (simp; done) | go_simp)
        have y1_2 : u1.cell? ⟨w.heap.size, 1, none⟩ = some (.int .i64 0) := kc k (by first | exact y1_1 | exact ca y1_1 | exact ca (ca y1_1) | exact ca (ca (ca y1_1)) | (simp; done) | go_simp) (by show w.heap.size ≠ _; omega)
        have yf1_2 : u1.frozen? ⟨w.heap.size, 1, none⟩ = false := kf k (by first | (simp; done) | (simp; omega) | (show w.heap.size < _; omega)) (by show w.heap.size ≠ _; omega) (by first | exact yf1_1 | exact fa (by show w.heap.size < _; omega) yf1_1 | exact fa (by show w.heap.size < _; simp; omega) (fa (by show w.heap.size < _; omega) yf1_1) | (simp; done) | go_simp)
        have y2_2 : u1.cell? ⟨w.heap.size, 2, none⟩ = some (.int .i64 0) := kc k (by first | exact y2_1 | exact ca y2_1 | exact ca (ca y2_1) | exact ca (ca (ca y2_1)) | (simp; done) | go_simp) (by show w.heap.size ≠ _; omega)
        have yf2_2 : u1.frozen? ⟨w.heap.size, 2, none⟩ = false := kf k (by first | (simp; done) | (simp; omega) | (show w.heap.size < _; omega)) (by show w.heap.size ≠ _; omega) (by first | exact yf2_1 | exact fa (by show w.heap.size < _; omega) yf2_1 | exact fa (by show w.heap.size < _; simp; omega) (fa (by show w.heap.size < _; omega) yf2_1) | (simp; done) | go_simp)
        have y3_2 : u1.cell? ⟨w.heap.size, 3, none⟩ = some (.int .i64 0) := kc k (by first | exact y3_1 | exact ca y3_1 | exact ca (ca y3_1) | exact ca (ca (ca y3_1)) | (simp; done) | go_simp) (by show w.heap.size ≠ _; omega)
        have yf3_2 : u1.frozen? ⟨w.heap.size, 3, none⟩ = false := kf k (by first | (simp; done) | (simp; omega) | (show w.heap.size < _; omega)) (by show w.heap.size ≠ _; omega) (by first | exact yf3_1 | exact fa (by show w.heap.size < _; omega) yf3_1 | exact fa (by show w.heap.size < _; simp; omega) (fa (by show w.heap.size < _; omega) yf3_1) | (simp; done) | go_simp)
        have y4_2 : u1.cell? ⟨w.heap.size, 4, none⟩ = some (.int .i64 0) := kc k (by first | exact y4_1 | exact ca y4_1 | exact ca (ca y4_1) | exact ca (ca (ca y4_1)) | (simp; done) | go_simp) (by show w.heap.size ≠ _; omega)
        have yf4_2 : u1.frozen? ⟨w.heap.size, 4, none⟩ = false := kf k (by first | (simp; done) | (simp; omega) | (show w.heap.size < _; omega)) (by show w.heap.size ≠ _; omega) (by first | exact yf4_1 | exact fa (by show w.heap.size < _; omega) yf4_1 | exact fa (by show w.heap.size < _; simp; omega) (fa (by show w.heap.size < _; omega) yf4_1) | (simp; done) | go_simp)
        have yl_2 : w.heap.size < u1.heap.size := cell_lt y0_2
        clear y0_1 yf0_1 y1_1 yf1_1 y2_1 yf2_1 y3_1 yf3_1 y4_1 yf4_1 yl_1
        have s0_2 : u1.cell? ⟨SB, 0, none⟩ = some (.int .i64 c) := kc k (by first | exact s0_1 | exact ca s0_1 | exact ca (ca s0_1) | exact ca (ca (ca s0_1)) | (simp; done) | go_simp) (by show SB ≠ _; omega)
        have sf0_2 : u1.frozen? ⟨SB, 0, none⟩ = false := kf k (by first | (simp; done) | (simp; omega) | (show SB < _; omega)) (by show SB ≠ _; omega) (by first | exact sf0_1 | exact fa (by show SB < _; omega) sf0_1 | exact fa (by show SB < _; simp; omega) (fa (by show SB < _; omega) sf0_1) | (simp; done) | go_simp)
        have s1_2 : u1.cell? ⟨SB, 1, none⟩ = some (.int .i64 q) := kc k (by first | exact s1_1 | exact ca s1_1 | exact ca (ca s1_1) | exact ca (ca (ca s1_1)) | (simp; done) | go_simp) (by show SB ≠ _; omega)
        have sf1_2 : u1.frozen? ⟨SB, 1, none⟩ = false := kf k (by first | (simp; done) | (simp; omega) | (show SB < _; omega)) (by show SB ≠ _; omega) (by first | exact sf1_1 | exact fa (by show SB < _; omega) sf1_1 | exact fa (by show SB < _; simp; omega) (fa (by show SB < _; omega) sf1_1) | (simp; done) | go_simp)
        have s2_2 : u1.cell? ⟨SB, 2, none⟩ = some (.int .i64 x) := kc k (by first | exact s2_1 | exact ca s2_1 | exact ca (ca s2_1) | exact ca (ca (ca s2_1)) | (simp; done) | go_simp) (by show SB ≠ _; omega)
        have sf2_2 : u1.frozen? ⟨SB, 2, none⟩ = false := kf k (by first | (simp; done) | (simp; omega) | (show SB < _; omega)) (by show SB ≠ _; omega) (by first | exact sf2_1 | exact fa (by show SB < _; omega) sf2_1 | exact fa (by show SB < _; simp; omega) (fa (by show SB < _; omega) sf2_1) | (simp; done) | go_simp)
        have s3_2 : u1.cell? ⟨SB, 3, none⟩ = some (.int .i64 m) := kc k (by first | exact s3_1 | exact ca s3_1 | exact ca (ca s3_1) | exact ca (ca (ca s3_1)) | (simp; done) | go_simp) (by show SB ≠ _; omega)
        have sf3_2 : u1.frozen? ⟨SB, 3, none⟩ = false := kf k (by first | (simp; done) | (simp; omega) | (show SB < _; omega)) (by show SB ≠ _; omega) (by first | exact sf3_1 | exact fa (by show SB < _; omega) sf3_1 | exact fa (by show SB < _; simp; omega) (fa (by show SB < _; omega) sf3_1) | (simp; done) | go_simp)
        have s4_2 : u1.cell? ⟨SB, 4, none⟩ = some (.int .i64 h) := kc k (by first | exact s4_1 | exact ca s4_1 | exact ca (ca s4_1) | exact ca (ca (ca s4_1)) | (simp; done) | go_simp) (by show SB ≠ _; omega)
        have sf4_2 : u1.frozen? ⟨SB, 4, none⟩ = false := kf k (by first | (simp; done) | (simp; omega) | (show SB < _; omega)) (by show SB ≠ _; omega) (by first | exact sf4_1 | exact fa (by show SB < _; omega) sf4_1 | exact fa (by show SB < _; simp; omega) (fa (by show SB < _; omega) sf4_1) | (simp; done) | go_simp)
        have sl_2 : SB < u1.heap.size := cell_lt s0_2
        clear s0_1 sf0_1 s1_1 sf1_1 s2_1 sf2_1 s3_1 sf3_1 s4_1 sf4_1 sl_1
        have hszu1 := k.size
        try simp at hszu1
        clear r k
        have hne : SB ≠ w.heap.size := by omega
        go_wp2
        have h4 : Has5 u1 w.heap.size 0 0 0 0 0 := ⟨by assumption, by assumption, by assumption, by assumption, by assumption⟩
        have h5 : Has5 (u1.setCell ⟨SB, 3, none⟩ (.int .i64 t)) w.heap.size 0 0 0 0 0 := h4.far hne
        have k5 : KB w.heap.size R w (u1.setCell ⟨SB, 3, none⟩ (.int .i64 t)) := KB.setCell HB.out (by show w.heap.size ≤ SB; omega) _
        have r5 := Rd.fwd HR.out (Below.setCell (Below.refl (R + 1) u1) (p := ⟨SB, 3, none⟩) (by show R + 1 ≤ SB; omega) (.int .i64 t))
        have h6 := h5.set (n0 := c) (n1 := q) (n2 := x) (n3 := t) (n4 := h)
        have k6 := st5_kb (n0 := c) (n1 := q) (n2 := x) (n3 := t) (n4 := h) k5 (Nat.le_refl w.heap.size)
        have r6 := Rd.fwd r5 (st5_below (n0 := c) (n1 := q) (n2 := x) (n3 := t) (n4 := h) (Below.refl (R + 1) _) (show R + 1 ≤ w.heap.size by omega))
        change bodyPost _ _ _ _ _ (st5 (u1.setCell ⟨SB, 3, none⟩ (.int .i64 t)) w.heap.size (c) (q) (x) (t) (h))
        generalize st5 (u1.setCell ⟨SB, 3, none⟩ (.int .i64 t)) w.heap.size (c) (q) (x) (t) (h) = WF at *
        exact bodyPost_ret (res5 Tryd.results16 (by rfl) h6) rfl (RepoP.mk _ _ _ _ _ (by omega) (by omega) (by omega) (by omega) (by omega) (KB.keep k6) (r6.mono (by omega)))
      · have hz1' : (z == 1) = false := by simpa using hz1
        by_cases hz2 : z = 2
        · subst hz2
          go_wp2_with fail
          refine (one_any _ _ _ (-1) (501) _ _ _ (by exact intsIn_lit _ [-1, 501] _ _ _ _ _ _ rfl (by first | (simp; done) | (simp; omega) | omega) (by simp; try omega)) (by omega) (by omega) (by first | omega | (simp; done) | (simp; omega)) (by first | omega | (simp; omega)) (by first | exact hR | omega | (simp; done) | (simp; omega)) (by omega) (by omega) (Rd.fwd HR.out (by repeat (first | exact Below.refl _ _ | refine Below.drew ?_ | refine bel_drewN _ ?_ | refine Below.alloc ?_ (by first | omega | (simp; done) | (simp; omega)) _ | refine Below.setCell ?_ (by first | (show _ ≤ _; omega) | (simp; done) | (simp; omega)) _)))).mono ?_
          rintro e u1 ⟨t, rfl, t0, t1, k, r⟩
          have HBq : KB (w.heap.size) (R) w u1 := KB.callee (Nat.le_refl _) (by repeat (first | exact KB.refl _ _ _ | exact HB.out | refine KB.drew ?_ | refine KB.drewN ?_ | refine KB.alloc (Nat.le_refl _) ?_ _ | refine KB.setCell ?_ (by first | (show _ ≤ _; omega) | (simp; done) | (simp; omega)) _)) k
          have HB := Lib.hid HBq
          clear HBq
          have hR : R < u1.heap.size := Nat.lt_of_lt_of_le (by first | exact hR | omega | (simp; done) | (simp; omega)) k.size
          have HR := Lib.hid r
          have y0_2 : u1.cell? ⟨w.heap.size, 0, none⟩ = some (.int .i64 0) := kc k (by first | exact y0_1 | exact ca y0_1 | exact ca (ca y0_1) | exact ca (ca (ca y0_1)) | (simp; done) | go_simp) (by show w.heap.size ≠ _; omega)
          have yf0_2 : u1.frozen? ⟨w.heap.size, 0, none⟩ = false := kf k (by first | (simp; done) | (simp; omega) | (show w.heap.size < _; omega)) (by show w.heap.size ≠ _; omega) (by first | exact yf0_1 | exact fa (by show w.heap.size < _; omega) yf0_1 | exact fa (by show w.heap.size < _; simp; omega) (fa (by show w.heap.size < _; omega) yf0_1) | (simp; done) | go_simp)
          have y1_2 : u1.cell? ⟨w.heap.size, 1, none⟩ = some (.int .i64 0) := kc k (by first | exact y1_1 | exact ca y1_1 | exact ca (ca y1_1) | exact ca (ca (ca y1_1)) | (simp; done) | go_simp) (by show w.heap.size ≠ _; omega)
          have yf1_2 : u1.frozen? ⟨w.heap.size, 1, none⟩ = false := kf k (by first | (simp; done) | (simp; omega) | (show w.heap.size < _; omega)) (by show w.heap.size ≠ _; omega) (by first | exact yf1_1 | exact fa (by show w.heap.size < _; omega) yf1_1 | exact fa (by show w.heap.size < _; simp; omega) (fa (by show w.heap.size < _; omega) yf1_1) | (simp; done) | go_simp)
          have y2_2 : u1.cell? ⟨w.heap.size, 2, none⟩ = some (.int .i64 0) := kc k (by first | exact y2_1 | exact ca y2_1 | exact ca (ca y2_1) | exact ca (ca (ca y2_1)) | (simp; done) | go_simp) (by show w.heap.size ≠ _; omega)
          have yf2_2 : u1.frozen? ⟨w.heap.size, 2, none⟩ = false := kf k (by first | (simp; done) | (simp; omega) | (show w.heap.size < _; omega)) (by show w.heap.size ≠ _; omega) (by first | exact yf2_1 | exact fa (by show w.heap.size < _; omega) yf2_1 | exact fa (by show w.heap.size < _; simp; omega) (fa (by show w.heap.size < _; omega) yf2_1) | (simp; done) | go_simp)
          have y3_2 : u1.cell? ⟨w.heap.size, 3, none⟩ = some (.int .i64 0) := kc k (by first | exact y3_1 | exact ca y3_1 | exact ca (ca y3_1) | exact ca (ca (ca y3_1)) | (simp; done) | go_simp) (by show w.heap.size ≠ _; omega)
          have yf3_2 : u1.frozen? ⟨w.heap.size, 3, none⟩ = false := kf k (by first | (simp; done) | (simp; omega) | (show w.heap.size < _; omega)) (by show w.heap.size ≠ _; omega) (by first | exact yf3_1 | exact fa (by show w.heap.size < _; omega) yf3_1 | exact fa (by show w.heap.size < _; simp; omega) (fa (by show w.heap.size < _; omega) yf3_1) | (simp; done) | go_simp)
          have y4_2 : u1.cell? ⟨w.heap.size, 4, none⟩ = some (.int .i64 0) := kc k (by first | exact y4_1 | exact ca y4_1 | exact ca (ca y4_1) | exact ca (ca (ca y4_1)) | (simp; done) | go_simp) (by show w.heap.size ≠ _; omega)
          have yf4_2 : u1.frozen? ⟨w.heap.size, 4, none⟩ = false := kf k (by first | (simp; done) | (simp; omega) | (show w.heap.size < _; omega)) (by show w.heap.size ≠ _; omega) (by first | exact yf4_1 | exact fa (by show w.heap.size < _; omega) yf4_1 | exact fa (by show w.heap.size < _; simp; omega) (fa (by show w.heap.size < _; omega) yf4_1) | (simp; done) | go_simp)
          have yl_2 : w.heap.size < u1.heap.size := cell_lt y0_2
          clear y0_1 yf0_1 y1_1 yf1_1 y2_1 yf2_1 y3_1 yf3_1 y4_1 yf4_1 yl_1
          have s0_2 : u1.cell? ⟨SB, 0, none⟩ = some (.int .i64 c) := kc k (by first | exact s0_1 | exact ca s0_1 | exact ca (ca s0_1) | exact ca (ca (ca s0_1)) | (simp; done) | go_simp) (by show SB ≠ _; omega)
          have sf0_2 : u1.frozen? ⟨SB, 0, none⟩ = false := kf k (by first | (simp; done) | (simp; omega) | (show SB < _; omega)) (by show SB ≠ _; omega) (by first | exact sf0_1 | exact fa (by show SB < _; omega) sf0_1 | exact fa (by show SB < _; simp; omega) (fa (by show SB < _; omega) sf0_1) | (simp; done) | go_simp)
          have s1_2 : u1.cell? ⟨SB, 1, none⟩ = some (.int .i64 q) := kc k (by first | exact s1_1 | exact ca s1_1 | exact ca (ca s1_1) | exact ca (ca (ca s1_1)) | (simp; done) | go_simp) (by show SB ≠ _; omega)
          have sf1_2 : u1.frozen? ⟨SB, 1, none⟩ = false := kf k (by first | (simp; done) | (simp; omega) | (show SB < _; omega)) (by show SB ≠ _; omega) (by first | exact sf1_1 | exact fa (by show SB < _; omega) sf1_1 | exact fa (by show SB < _; simp; omega) (fa (by show SB < _; omega) sf1_1) | (simp; done) | go_simp)
          have s2_2 : u1.cell? ⟨SB, 2, none⟩ = some (.int .i64 x) := kc k (by first | exact s2_1 | exact ca s2_1 | exact ca (ca s2_1) | exact ca (ca (ca s2_1)) | (simp; done) | go_simp) (by show SB ≠ _; omega)
          have sf2_2 : u1.frozen? ⟨SB, 2, none⟩ = false := kf k (by first | (simp; done) | (simp; omega) | (show SB < _; omega)) (by show SB ≠ _; omega) (by first | exact sf2_1 | exact fa (by show SB < _; omega) sf2_1 | exact fa (by show SB < _; simp; omega) (fa (by show SB < _; omega) sf2_1) | (simp; done) | go_simp)
          have s3_2 : u1.cell? ⟨SB, 3, none⟩ = some (.int .i64 m) := kc k (by first | exact s3_1 | exact ca s3_1 | exact ca (ca s3_1) | exact ca (ca (ca s3_1)) | (simp; done) | go_simp) (by show SB ≠ _; omega)
          have sf3_2 : u1.frozen? ⟨SB, 3, none⟩ = false := kf k (by first | (simp; done) | (simp; omega) | (show SB < _; omega)) (by show SB ≠ _; omega) (by first | exact sf3_1 | exact fa (by show SB < _; omega) sf3_1 | exact fa (by show SB < _; simp; omega) (fa (by show SB < _; omega) sf3_1) | (simp; done) | go_simp)
          have s4_2 : u1.cell? ⟨SB, 4, none⟩ = some (.int .i64 h) := kc k (by first | exact s4_1 | exact ca s4_1 | exact ca (ca s4_1) | exact ca (ca (ca s4_1)) | (simp; done) | go_simp) (by show SB ≠ _; omega)
          have sf4_2 : u1.frozen? ⟨SB, 4, none⟩ = false := kf k (by first | (simp; done) | (simp; omega) | (show SB < _; omega)) (by show SB ≠ _; omega) (by first | exact sf4_1 | exact fa (by show SB < _; omega) sf4_1 | exact fa (by show SB < _; simp; omega) (fa (by show SB < _; omega) sf4_1) | (simp; done) | go_simp)
          have sl_2 : SB < u1.heap.size := cell_lt s0_2
          clear s0_1 sf0_1 s1_1 sf1_1 s2_1 sf2_1 s3_1 sf3_1 s4_1 sf4_1 sl_1
          have hszu1 := k.size
          try simp at hszu1
          clear r k
          have hne : SB ≠ w.heap.size := by omega
          go_wp2
          have h4 : Has5 u1 w.heap.size 0 0 0 0 0 := ⟨by assumption, by assumption, by assumption, by assumption, by assumption⟩
          have h5 : Has5 (u1.setCell ⟨SB, 4, none⟩ (.int .i64 t)) w.heap.size 0 0 0 0 0 := h4.far hne
          have k5 : KB w.heap.size R w (u1.setCell ⟨SB, 4, none⟩ (.int .i64 t)) := KB.setCell HB.out (by show w.heap.size ≤ SB; omega) _
          have r5 := Rd.fwd HR.out (Below.setCell (Below.refl (R + 1) u1) (p := ⟨SB, 4, none⟩) (by show R + 1 ≤ SB; omega) (.int .i64 t))
          have h6 := h5.set (n0 := c) (n1 := q) (n2 := x) (n3 := m) (n4 := t)
          have k6 := st5_kb (n0 := c) (n1 := q) (n2 := x) (n3 := m) (n4 := t) k5 (Nat.le_refl w.heap.size)
          have r6 := Rd.fwd r5 (st5_below (n0 := c) (n1 := q) (n2 := x) (n3 := m) (n4 := t) (Below.refl (R + 1) _) (show R + 1 ≤ w.heap.size by omega))
          change bodyPost _ _ _ _ _ (st5 (u1.setCell ⟨SB, 4, none⟩ (.int .i64 t)) w.heap.size (c) (q) (x) (m) (t))
          generalize st5 (u1.setCell ⟨SB, 4, none⟩ (.int .i64 t)) w.heap.size (c) (q) (x) (m) (t) = WF at *
          exact bodyPost_ret (res5 Tryd.results16 (by rfl) h6) rfl (RepoP.mk _ _ _ _ _ (by omega) (by omega) (by omega) (by omega) (by omega) (KB.keep k6) (r6.mono (by omega)))
        · have hz2' : (z == 2) = false := by simpa using hz2
          go_wp2
          have h4 : Has5 v6 w.heap.size 0 0 0 0 0 := ⟨by assumption, by assumption, by assumption, by assumption, by assumption⟩
          have h5 := h4
          have k5 := HB.out
          have r5 := HR.out
          have h6 := h5.set (n0 := c) (n1 := q) (n2 := x) (n3 := m) (n4 := h)
          have k6 := st5_kb (n0 := c) (n1 := q) (n2 := x) (n3 := m) (n4 := h) k5 (Nat.le_refl w.heap.size)
          have r6 := Rd.fwd r5 (st5_below (n0 := c) (n1 := q) (n2 := x) (n3 := m) (n4 := h) (Below.refl (R + 1) _) (show R + 1 ≤ w.heap.size by omega))
          change bodyPost _ _ _ _ _ (st5 v6 w.heap.size (c) (q) (x) (m) (h))
          generalize st5 v6 w.heap.size (c) (q) (x) (m) (h) = WF at *
          exact bodyPost_ret (res5 Tryd.results16 (by rfl) h6) rfl (RepoP.mk _ _ _ _ _ (by omega) (by omega) (by omega) (by omega) (by omega) (KB.keep k6) (r6.mono (by omega)))
def DrawRI (w : World) (e : Ending) (w' : World) : Prop :=
  ∃ c r a b h : Int, e = .returned (.agg #[.int .i64 c, .int .i64 r, .int .i64 a, .int .i64 b, .int .i64 h]) ∧ (-100000001 ≤ c ∧ c ≤ 100000001) ∧ (-100000 ≤ r ∧ r ≤ 100000) ∧ (-100000 ≤ a ∧ a ≤ 100000) ∧ (-100000 ≤ b ∧ b ≤ 100000) ∧ (-100000 ≤ h ∧ h ≤ 100000) ∧ Below w.heap.size w w'
set_option maxHeartbeats 2000000 in
theorem drawRepoInterest_any (a : Option Addr) (len cap : Nat) (w : World) (hlc : len ≤ cap) (hc : cap ≤ maxLen) (h : IsBytes w a len) :
    Calls Tryd.prog 10 #[.slice a len cap] w (DrawRI w) := by
  have H := Lib.hid h
  clear h
  go_enter Tryd.func10, Tryd.ntmps10
  go_wp2_with fail
  refine (newReader_any _ _ _ _ hlc hc (by repeat (first | exact H.out | refine IsBytes.alloc ?_ _))).mono ?_
  rintro e v1 ⟨rfl, hb, hrd, hszv1⟩
  try simp at hszv1
  replace hszv1 : w.heap.size + 1 + 1 ≤ v1.heap.size := by omega
  have hR : w.heap.size + 1 < v1.heap.size := by omega
  have hrdq : Rd v1 (w.heap.size + 1) 0 := by simpa using hrd
  have HR := Lib.hid hrdq
  have HBq : KB (w.heap.size) (w.heap.size + 1) w v1 := KB.quiet (Nat.le_refl _) (by repeat (first | exact KB.refl _ _ _ | exact HB.out | refine KB.drew ?_ | refine KB.drewN ?_ | refine KB.alloc (Nat.le_refl _) ?_ _ | refine KB.setCell ?_ (by first | (show _ ≤ _; omega) | (simp; done) | (simp; omega)) _)) hb
  have HB := Lib.hid HBq
  have c0_1 : v1.cell? ⟨w.heap.size, 0, none⟩ = some (.int .i64 0) := bc hb (by first | (simp; done) | go_simp)
  have cf0_1 : v1.frozen? ⟨w.heap.size, 0, none⟩ = false := bf hb (by first | (simp; done) | (simp; omega) | (show w.heap.size < _; omega)) (by first | (simp; done) | go_simp)
  have c1_1 : v1.cell? ⟨w.heap.size, 1, none⟩ = some (.int .i64 0) := bc hb (by first | (simp; done) | go_simp)
  have cf1_1 : v1.frozen? ⟨w.heap.size, 1, none⟩ = false := bf hb (by first | (simp; done) | (simp; omega) | (show w.heap.size < _; omega)) (by first | (simp; done) | go_simp)
  have c2_1 : v1.cell? ⟨w.heap.size, 2, none⟩ = some (.int .i64 0) := bc hb (by first | (simp; done) | go_simp)
  have cf2_1 : v1.frozen? ⟨w.heap.size, 2, none⟩ = false := bf hb (by first | (simp; done) | (simp; omega) | (show w.heap.size < _; omega)) (by first | (simp; done) | go_simp)
  have c3_1 : v1.cell? ⟨w.heap.size, 3, none⟩ = some (.int .i64 0) := bc hb (by first | (simp; done) | go_simp)
  have cf3_1 : v1.frozen? ⟨w.heap.size, 3, none⟩ = false := bf hb (by first | (simp; done) | (simp; omega) | (show w.heap.size < _; omega)) (by first | (simp; done) | go_simp)
  have c4_1 : v1.cell? ⟨w.heap.size, 4, none⟩ = some (.int .i64 0) := bc hb (by first | (simp; done) | go_simp)
  have cf4_1 : v1.frozen? ⟨w.heap.size, 4, none⟩ = false := bf hb (by first | (simp; done) | (simp; omega) | (show w.heap.size < _; omega)) (by first | (simp; done) | go_simp)
  have cl_1 : w.heap.size < v1.heap.size := cell_lt c0_1
  clear hrd hrdq HBq hb
  go_wp2_with fail
  refine (anyRepo_any _ _ _ (by first | exact hR | omega | (simp; done) | (simp; omega)) (by omega) (by omega) (Rd.fwd HR.out (by repeat (first | exact Below.refl _ _ | refine Below.drew ?_ | refine bel_drewN _ ?_ | refine Below.alloc ?_ (by first | omega | (simp; done) | (simp; omega)) _ | refine Below.setCell ?_ (by first | (show _ ≤ _; omega) | (simp; done) | (simp; omega)) _)))).mono ?_
  rintro e v2 ⟨n1, n2, n3, n4, n5, rfl, h1, h2, h3, h4, h5, k, r⟩
  have HBq : KB (w.heap.size) (w.heap.size + 1) w v2 := KB.callee (Nat.le_refl _) (by repeat (first | exact KB.refl _ _ _ | exact HB.out | refine KB.drew ?_ | refine KB.drewN ?_ | refine KB.alloc (Nat.le_refl _) ?_ _ | refine KB.setCell ?_ (by first | (show _ ≤ _; omega) | (simp; done) | (simp; omega)) _)) k
  have HB := Lib.hid HBq
  clear HBq
  have hR : w.heap.size + 1 < v2.heap.size := Nat.lt_of_lt_of_le (by first | exact hR | omega | (simp; done) | (simp; omega)) k.size
  have HR := Lib.hid r
  have c0_2 : v2.cell? ⟨w.heap.size, 0, none⟩ = some (.int .i64 0) := kc k (by first | exact c0_1 | exact ca c0_1 | exact ca (ca c0_1) | exact ca (ca (ca c0_1)) | (simp; done) | go_simp) (by show w.heap.size ≠ _; omega)
  have cf0_2 : v2.frozen? ⟨w.heap.size, 0, none⟩ = false := kf k (by first | (simp; done) | (simp; omega) | (show w.heap.size < _; omega)) (by show w.heap.size ≠ _; omega) (by first | exact cf0_1 | exact fa (by show w.heap.size < _; omega) cf0_1 | exact fa (by show w.heap.size < _; simp; omega) (fa (by show w.heap.size < _; omega) cf0_1) | (simp; done) | go_simp)
  have c1_2 : v2.cell? ⟨w.heap.size, 1, none⟩ = some (.int .i64 0) := kc k (by first | exact c1_1 | exact ca c1_1 | exact ca (ca c1_1) | exact ca (ca (ca c1_1)) | (simp; done) | go_simp) (by show w.heap.size ≠ _; omega)
  have cf1_2 : v2.frozen? ⟨w.heap.size, 1, none⟩ = false := kf k (by first | (simp; done) | (simp; omega) | (show w.heap.size < _; omega)) (by show w.heap.size ≠ _; omega) (by first | exact cf1_1 | exact fa (by show w.heap.size < _; omega) cf1_1 | exact fa (by show w.heap.size < _; simp; omega) (fa (by show w.heap.size < _; omega) cf1_1) | (simp; done) | go_simp)
  have c2_2 : v2.cell? ⟨w.heap.size, 2, none⟩ = some (.int .i64 0) := kc k (by first | exact c2_1 | exact ca c2_1 | exact ca (ca c2_1) | exact ca (ca (ca c2_1)) | (simp; done) | go_simp) (by show w.heap.size ≠ _; omega)
  have cf2_2 : v2.frozen? ⟨w.heap.size, 2, none⟩ = false := kf k (by first | (simp; done) | (simp; omega) | (show w.heap.size < _; omega)) (by show w.heap.size ≠ _; omega) (by first | exact cf2_1 | exact fa (by show w.heap.size < _; omega) cf2_1 | exact fa (by show w.heap.size < _; simp; omega) (fa (by show w.heap.size < _; omega) cf2_1) | (simp; done) | go_simp)
  have c3_2 : v2.cell? ⟨w.heap.size, 3, none⟩ = some (.int .i64 0) := kc k (by first | exact c3_1 | exact ca c3_1 | exact ca (ca c3_1) | exact ca (ca (ca c3_1)) | (simp; done) | go_simp) (by show w.heap.size ≠ _; omega)
  have cf3_2 : v2.frozen? ⟨w.heap.size, 3, none⟩ = false := kf k (by first | (simp; done) | (simp; omega) | (show w.heap.size < _; omega)) (by show w.heap.size ≠ _; omega) (by first | exact cf3_1 | exact fa (by show w.heap.size < _; omega) cf3_1 | exact fa (by show w.heap.size < _; simp; omega) (fa (by show w.heap.size < _; omega) cf3_1) | (simp; done) | go_simp)
  have c4_2 : v2.cell? ⟨w.heap.size, 4, none⟩ = some (.int .i64 0) := kc k (by first | exact c4_1 | exact ca c4_1 | exact ca (ca c4_1) | exact ca (ca (ca c4_1)) | (simp; done) | go_simp) (by show w.heap.size ≠ _; omega)
  have cf4_2 : v2.frozen? ⟨w.heap.size, 4, none⟩ = false := kf k (by first | (simp; done) | (simp; omega) | (show w.heap.size < _; omega)) (by show w.heap.size ≠ _; omega) (by first | exact cf4_1 | exact fa (by show w.heap.size < _; omega) cf4_1 | exact fa (by show w.heap.size < _; simp; omega) (fa (by show w.heap.size < _; omega) cf4_1) | (simp; done) | go_simp)
  have cl_2 : w.heap.size < v2.heap.size := cell_lt c0_2
  clear c0_1 cf0_1 c1_1 cf1_1 c2_1 cf2_1 c3_1 cf3_1 c4_1 cf4_1 cl_1
  have hszv2 := k.size
  try simp at hszv2
  clear r k
  go_wp2
  exact bodyPost_ret (v := .agg #[.int .i64 n1, .int .i64 n2, .int .i64 n3, .int .i64 n4, .int .i64 n5]) (by simp [results, Tryd.results10, go_sem, *]) rfl ⟨_, _, _, _, _, rfl, h1, h2, h3, h4, h5, KB.below (R := w.heap.size + 1) (by repeat (first | exact KB.refl _ _ _ | exact HB.out | refine KB.drew ?_ | refine KB.drewN ?_ | refine KB.alloc (Nat.le_refl _) ?_ _ | refine KB.setCell ?_ (by first | (show _ ≤ _; omega) | (simp; done) | (simp; omega)) _)) (by omega)⟩
end Go.Proofs.YtiplcndacmicoaaDoor
