/- Bonds: the draws. -/
import Derived.Test.YtoidghdgebdfaaaDoorFlow10
import Derived.Test.YtoidghdgebdfaaaDoorSt4
namespace Go.Proofs.YtoidghdgebdfaaaDoor
open Go.RowKit
set_option linter.unusedVariables false
def BondP (R : Nat) (K n : Int) (w : World) (e : Ending) (w' : World) : Prop :=
  ∃ s x m r : Int, e = .returned (.agg #[.int .i64 s, .int .i64 x, .int .i64 m, .int .i64 r]) ∧ (0 ≤ s ∧ s ≤ 20000) ∧ (-1 ≤ x ∧ x ≤ 36525) ∧ (0 ≤ m ∧ m ≤ 12) ∧ (-1 ≤ r ∧ r ≤ 3001) ∧ Keep R w w' ∧ Rd w' R (K + n)
theorem BondP.mk {R : Nat} {K n : Int} {w w' : World} (s x m r : Int) (h1 : 0 ≤ s ∧ s ≤ 20000) (h2 : -1 ≤ x ∧ x ≤ 36525) (h3 : 0 ≤ m ∧ m ≤ 12) (h4 : -1 ≤ r ∧ r ≤ 3001) (k : Keep R w w') (hr : Rd w' R (K + n)) :
    BondP R K n w (.returned (.agg #[.int .i64 s, .int .i64 x, .int .i64 m, .int .i64 r])) w' := ⟨s, x, m, r, rfl, h1, h2, h3, h4, k, hr⟩
theorem amIn_bd {n : Int} (hn : 0 ≤ n ∧ n ≤ 36524) (k : Int) : -1 ≤ amIn n k ∧ amIn n k ≤ 36524 := by
  unfold amIn
  split
  · rename_i h
    have := num_bd (am_dt hn h)
    omega
  · omega
theorem mulz {m z : Int} (hm : 3 ≤ m ∧ m ≤ 12) (hz : 0 ≤ z ∧ z ≤ 7) : 0 ≤ m * (1 + z) ∧ m * (1 + z) ≤ 96 := by
  have h1 : m * (1 + z) ≤ 12 * 8 := Int.mul_le_mul hm.2 (by omega) (by omega) (by decide)
  exact ⟨Int.mul_nonneg (by omega) (by omega), h1⟩
theorem wrapz {m z : Int} (hm : 3 ≤ m ∧ m ≤ 12) (hz : 0 ≤ z ∧ z ≤ 7) : IntKind.i64.wrap (m * IntKind.i64.wrap (1 + z)) = m * (1 + z) := by
  have h1 : IntKind.i64.wrap (1 + z) = 1 + z := IntWalk.i64_in _ (by omega)
  have h2 := mulz hm hz
  rw [h1]
  exact IntWalk.i64_in _ (by omega)
set_option maxHeartbeats 2000000 in
theorem randomBond_any (R : Nat) (K : Int) (w : World) (hR : R < w.heap.size) (hK : 0 ≤ K) (hK' : K ≤ 900000) (hrd : Rd w R K) :
    Calls Tryd.prog 56 #[.pointer (some ⟨R, 0, none⟩)] w (BondP R K 6 w) := by
  have HR := Lib.hid hrd
  clear hrd
  have HB := Lib.hid (KB.refl w.heap.size R w)
  have hRw : R < w.heap.size := hR
  go_enter Tryd.func56, Tryd.ntmps56
  go_wp2_with fail
  refine (pick_any _ _ _ _ (by first | exact hR | omega | (simp; done) | (simp; omega)) (by omega) (by omega) (by omega) (by omega) (Rd.fwd HR.out (by repeat (first | exact Below.refl _ _ | refine Below.drew ?_ | refine bel_drewN _ ?_ | refine Below.alloc ?_ (by first | omega | (simp; done) | (simp; omega)) _ | refine Below.setCell ?_ (by first | (show _ ≤ _; omega) | (simp; done) | (simp; omega)) _)))).mono ?_
  rintro e v1 ⟨p, rfl, p0, p1, k, r⟩
  have p2 : p ≤ 249 := by omega
  clear p1
  have HBq : KB (w.heap.size) (R) w v1 := KB.callee (Nat.le_refl _) (by repeat (first | exact KB.refl _ _ _ | exact HB.out | refine KB.drew ?_ | refine KB.drewN ?_ | refine KB.alloc (Nat.le_refl _) ?_ _ | refine KB.setCell ?_ (by first | (show _ ≤ _; omega) | (simp; done) | (simp; omega)) _)) k
  have HB := Lib.hid HBq
  clear HBq
  have hR : R < v1.heap.size := Nat.lt_of_lt_of_le (by first | exact hR | omega | (simp; done) | (simp; omega)) k.size
  have HR := Lib.hid r
  have y0_1 : v1.cell? ⟨w.heap.size, 0, none⟩ = some (.int .i64 0) := kc k (by first | (simp; done) | go_simp) (by show w.heap.size ≠ _; omega)
  have yf0_1 : v1.frozen? ⟨w.heap.size, 0, none⟩ = false := kf k (by first | (simp; done) | (simp; omega) | (show w.heap.size < _; omega)) (by show w.heap.size ≠ _; omega) (by first | (simp; done) | go_simp)
  have y1_1 : v1.cell? ⟨w.heap.size, 1, none⟩ = some (.int .i64 0) := kc k (by first | (simp; done) | go_simp) (by show w.heap.size ≠ _; omega)
  have yf1_1 : v1.frozen? ⟨w.heap.size, 1, none⟩ = false := kf k (by first | (simp; done) | (simp; omega) | (show w.heap.size < _; omega)) (by show w.heap.size ≠ _; omega) (by first | (simp; done) | go_simp)
  have y2_1 : v1.cell? ⟨w.heap.size, 2, none⟩ = some (.int .i64 0) := kc k (by first | (simp; done) | go_simp) (by show w.heap.size ≠ _; omega)
  have yf2_1 : v1.frozen? ⟨w.heap.size, 2, none⟩ = false := kf k (by first | (simp; done) | (simp; omega) | (show w.heap.size < _; omega)) (by show w.heap.size ≠ _; omega) (by first | (simp; done) | go_simp)
  have y3_1 : v1.cell? ⟨w.heap.size, 3, none⟩ = some (.int .i64 0) := kc k (by first | (simp; done) | go_simp) (by show w.heap.size ≠ _; omega)
  have yf3_1 : v1.frozen? ⟨w.heap.size, 3, none⟩ = false := kf k (by first | (simp; done) | (simp; omega) | (show w.heap.size < _; omega)) (by show w.heap.size ≠ _; omega) (by first | (simp; done) | go_simp)
  have yl_1 : w.heap.size < v1.heap.size := cell_lt y0_1
  have hszv1 := k.size
  try simp at hszv1
  clear r k
  go_wp2_with fail
  refine (pick_any _ _ _ _ (by first | exact hR | omega | (simp; done) | (simp; omega)) (by omega) (by omega) (by omega) (by omega) (Rd.fwd HR.out (by repeat (first | exact Below.refl _ _ | refine Below.drew ?_ | refine bel_drewN _ ?_ | refine Below.alloc ?_ (by first | omega | (simp; done) | (simp; omega)) _ | refine Below.setCell ?_ (by first | (show _ ≤ _; omega) | (simp; done) | (simp; omega)) _)))).mono ?_
  rintro e v2 ⟨q, rfl, q0, q1, k, r⟩
  have q2 : q ≤ 249 := by omega
  clear q1
  have HBq : KB (w.heap.size) (R) w v2 := KB.callee (Nat.le_refl _) (by repeat (first | exact KB.refl _ _ _ | exact HB.out | refine KB.drew ?_ | refine KB.drewN ?_ | refine KB.alloc (Nat.le_refl _) ?_ _ | refine KB.setCell ?_ (by first | (show _ ≤ _; omega) | (simp; done) | (simp; omega)) _)) k
  have HB := Lib.hid HBq
  clear HBq
  have hR : R < v2.heap.size := Nat.lt_of_lt_of_le (by first | exact hR | omega | (simp; done) | (simp; omega)) k.size
  have HR := Lib.hid r
  have y0_2 : v2.cell? ⟨w.heap.size, 0, none⟩ = some (.int .i64 0) := kc k (by first | exact y0_1 | exact ca y0_1 | exact ca (ca y0_1) | exact ca (ca (ca y0_1)) | (simp; done) | go_simp) (by show w.heap.size ≠ _; omega)
  have yf0_2 : v2.frozen? ⟨w.heap.size, 0, none⟩ = false := kf k (by first | (simp; done) | (simp; omega) | (show w.heap.size < _; omega)) (by show w.heap.size ≠ _; omega) (by first | exact yf0_1 | exact fa (by show w.heap.size < _; omega) yf0_1 | exact fa (by show w.heap.size < _; simp; omega) (fa (by show w.heap.size < _; omega) yf0_1) | (simp; done) | go_simp)
  have y1_2 : v2.cell? ⟨w.heap.size, 1, none⟩ = some (.int .i64 0) := kc k (by first | exact y1_1 | exact ca y1_1 | exact ca (ca y1_1) | exact ca (ca (ca y1_1)) | (simp; done) | go_simp) (by show w.heap.size ≠ _; omega)
  have yf1_2 : v2.frozen? ⟨w.heap.size, 1, none⟩ = false := kf k (by first | (simp; done) | (simp; omega) | (show w.heap.size < _; omega)) (by show w.heap.size ≠ _; omega) (by first | exact yf1_1 | exact fa (by show w.heap.size < _; omega) yf1_1 | exact fa (by show w.heap.size < _; simp; omega) (fa (by show w.heap.size < _; omega) yf1_1) | (simp; done) | go_simp)
  have y2_2 : v2.cell? ⟨w.heap.size, 2, none⟩ = some (.int .i64 0) := kc k (by first | exact y2_1 | exact ca y2_1 | exact ca (ca y2_1) | exact ca (ca (ca y2_1)) | (simp; done) | go_simp) (by show w.heap.size ≠ _; omega)
  have yf2_2 : v2.frozen? ⟨w.heap.size, 2, none⟩ = false := kf k (by first | (simp; done) | (simp; omega) | (show w.heap.size < _; omega)) (by show w.heap.size ≠ _; omega) (by first | exact yf2_1 | exact fa (by show w.heap.size < _; omega) yf2_1 | exact fa (by show w.heap.size < _; simp; omega) (fa (by show w.heap.size < _; omega) yf2_1) | (simp; done) | go_simp)
  have y3_2 : v2.cell? ⟨w.heap.size, 3, none⟩ = some (.int .i64 0) := kc k (by first | exact y3_1 | exact ca y3_1 | exact ca (ca y3_1) | exact ca (ca (ca y3_1)) | (simp; done) | go_simp) (by show w.heap.size ≠ _; omega)
  have yf3_2 : v2.frozen? ⟨w.heap.size, 3, none⟩ = false := kf k (by first | (simp; done) | (simp; omega) | (show w.heap.size < _; omega)) (by show w.heap.size ≠ _; omega) (by first | exact yf3_1 | exact fa (by show w.heap.size < _; omega) yf3_1 | exact fa (by show w.heap.size < _; simp; omega) (fa (by show w.heap.size < _; omega) yf3_1) | (simp; done) | go_simp)
  have yl_2 : w.heap.size < v2.heap.size := cell_lt y0_2
  clear y0_1 yf0_1 y1_1 yf1_1 y2_1 yf2_1 y3_1 yf3_1 yl_1
  have hszv2 := k.size
  try simp at hszv2
  clear r k
  go_wp2_with fail
  refine (one_any _ _ _ (3) (12) _ _ _ (by exact intsIn_lit _ [6, 12, 3, 6] _ _ _ _ _ _ rfl (by first | (simp; done) | (simp; omega) | omega) (by simp; try omega)) (by omega) (by omega) (by first | omega | (simp; done) | (simp; omega)) (by first | omega | (simp; omega)) (by first | exact hR | omega | (simp; done) | (simp; omega)) (by omega) (by omega) (Rd.fwd HR.out (by repeat (first | exact Below.refl _ _ | refine Below.drew ?_ | refine bel_drewN _ ?_ | refine Below.alloc ?_ (by first | omega | (simp; done) | (simp; omega)) _ | refine Below.setCell ?_ (by first | (show _ ≤ _; omega) | (simp; done) | (simp; omega)) _)))).mono ?_
  rintro e v3 ⟨m, rfl, m0, m1, k, r⟩
  have HBq : KB (w.heap.size) (R) w v3 := KB.callee (Nat.le_refl _) (by repeat (first | exact KB.refl _ _ _ | exact HB.out | refine KB.drew ?_ | refine KB.drewN ?_ | refine KB.alloc (Nat.le_refl _) ?_ _ | refine KB.setCell ?_ (by first | (show _ ≤ _; omega) | (simp; done) | (simp; omega)) _)) k
  have HB := Lib.hid HBq
  clear HBq
  have hR : R < v3.heap.size := Nat.lt_of_lt_of_le (by first | exact hR | omega | (simp; done) | (simp; omega)) k.size
  have HR := Lib.hid r
  have y0_3 : v3.cell? ⟨w.heap.size, 0, none⟩ = some (.int .i64 0) := kc k (by first | exact y0_2 | exact ca y0_2 | exact ca (ca y0_2) | exact ca (ca (ca y0_2)) | (simp; done) | go_simp) (by show w.heap.size ≠ _; omega)
  have yf0_3 : v3.frozen? ⟨w.heap.size, 0, none⟩ = false := kf k (by first | (simp; done) | (simp; omega) | (show w.heap.size < _; omega)) (by show w.heap.size ≠ _; omega) (by first | exact yf0_2 | exact fa (by show w.heap.size < _; omega) yf0_2 | exact fa (by show w.heap.size < _; simp; omega) (fa (by show w.heap.size < _; omega) yf0_2) | (simp; done) | go_simp)
  have y1_3 : v3.cell? ⟨w.heap.size, 1, none⟩ = some (.int .i64 0) := kc k (by first | exact y1_2 | exact ca y1_2 | exact ca (ca y1_2) | exact ca (ca (ca y1_2)) | (simp; done) | go_simp) (by show w.heap.size ≠ _; omega)
  have yf1_3 : v3.frozen? ⟨w.heap.size, 1, none⟩ = false := kf k (by first | (simp; done) | (simp; omega) | (show w.heap.size < _; omega)) (by show w.heap.size ≠ _; omega) (by first | exact yf1_2 | exact fa (by show w.heap.size < _; omega) yf1_2 | exact fa (by show w.heap.size < _; simp; omega) (fa (by show w.heap.size < _; omega) yf1_2) | (simp; done) | go_simp)
  have y2_3 : v3.cell? ⟨w.heap.size, 2, none⟩ = some (.int .i64 0) := kc k (by first | exact y2_2 | exact ca y2_2 | exact ca (ca y2_2) | exact ca (ca (ca y2_2)) | (simp; done) | go_simp) (by show w.heap.size ≠ _; omega)
  have yf2_3 : v3.frozen? ⟨w.heap.size, 2, none⟩ = false := kf k (by first | (simp; done) | (simp; omega) | (show w.heap.size < _; omega)) (by show w.heap.size ≠ _; omega) (by first | exact yf2_2 | exact fa (by show w.heap.size < _; omega) yf2_2 | exact fa (by show w.heap.size < _; simp; omega) (fa (by show w.heap.size < _; omega) yf2_2) | (simp; done) | go_simp)
  have y3_3 : v3.cell? ⟨w.heap.size, 3, none⟩ = some (.int .i64 0) := kc k (by first | exact y3_2 | exact ca y3_2 | exact ca (ca y3_2) | exact ca (ca (ca y3_2)) | (simp; done) | go_simp) (by show w.heap.size ≠ _; omega)
  have yf3_3 : v3.frozen? ⟨w.heap.size, 3, none⟩ = false := kf k (by first | (simp; done) | (simp; omega) | (show w.heap.size < _; omega)) (by show w.heap.size ≠ _; omega) (by first | exact yf3_2 | exact fa (by show w.heap.size < _; omega) yf3_2 | exact fa (by show w.heap.size < _; simp; omega) (fa (by show w.heap.size < _; omega) yf3_2) | (simp; done) | go_simp)
  have yl_3 : w.heap.size < v3.heap.size := cell_lt y0_3
  clear y0_2 yf0_2 y1_2 yf1_2 y2_2 yf2_2 y3_2 yf3_2 yl_2
  have hszv3 := k.size
  try simp at hszv3
  clear r k
  go_wp2_with fail
  refine (one_any _ _ _ (0) (3000) _ _ _ (by exact intsIn_lit _ [425, 0, 100, 333, 650, 3000] _ _ _ _ _ _ rfl (by first | (simp; done) | (simp; omega) | omega) (by simp; try omega)) (by omega) (by omega) (by first | omega | (simp; done) | (simp; omega)) (by first | omega | (simp; omega)) (by first | exact hR | omega | (simp; done) | (simp; omega)) (by omega) (by omega) (Rd.fwd HR.out (by repeat (first | exact Below.refl _ _ | refine Below.drew ?_ | refine bel_drewN _ ?_ | refine Below.alloc ?_ (by first | omega | (simp; done) | (simp; omega)) _ | refine Below.setCell ?_ (by first | (show _ ≤ _; omega) | (simp; done) | (simp; omega)) _)))).mono ?_
  rintro e v4 ⟨rr, rfl, rr0, rr1, k, r⟩
  have HBq : KB (w.heap.size) (R) w v4 := KB.callee (Nat.le_refl _) (by repeat (first | exact KB.refl _ _ _ | exact HB.out | refine KB.drew ?_ | refine KB.drewN ?_ | refine KB.alloc (Nat.le_refl _) ?_ _ | refine KB.setCell ?_ (by first | (show _ ≤ _; omega) | (simp; done) | (simp; omega)) _)) k
  have HB := Lib.hid HBq
  clear HBq
  have hR : R < v4.heap.size := Nat.lt_of_lt_of_le (by first | exact hR | omega | (simp; done) | (simp; omega)) k.size
  have HR := Lib.hid r
  have y0_4 : v4.cell? ⟨w.heap.size, 0, none⟩ = some (.int .i64 0) := kc k (by first | exact y0_3 | exact ca y0_3 | exact ca (ca y0_3) | exact ca (ca (ca y0_3)) | (simp; done) | go_simp) (by show w.heap.size ≠ _; omega)
  have yf0_4 : v4.frozen? ⟨w.heap.size, 0, none⟩ = false := kf k (by first | (simp; done) | (simp; omega) | (show w.heap.size < _; omega)) (by show w.heap.size ≠ _; omega) (by first | exact yf0_3 | exact fa (by show w.heap.size < _; omega) yf0_3 | exact fa (by show w.heap.size < _; simp; omega) (fa (by show w.heap.size < _; omega) yf0_3) | (simp; done) | go_simp)
  have y1_4 : v4.cell? ⟨w.heap.size, 1, none⟩ = some (.int .i64 0) := kc k (by first | exact y1_3 | exact ca y1_3 | exact ca (ca y1_3) | exact ca (ca (ca y1_3)) | (simp; done) | go_simp) (by show w.heap.size ≠ _; omega)
  have yf1_4 : v4.frozen? ⟨w.heap.size, 1, none⟩ = false := kf k (by first | (simp; done) | (simp; omega) | (show w.heap.size < _; omega)) (by show w.heap.size ≠ _; omega) (by first | exact yf1_3 | exact fa (by show w.heap.size < _; omega) yf1_3 | exact fa (by show w.heap.size < _; simp; omega) (fa (by show w.heap.size < _; omega) yf1_3) | (simp; done) | go_simp)
  have y2_4 : v4.cell? ⟨w.heap.size, 2, none⟩ = some (.int .i64 0) := kc k (by first | exact y2_3 | exact ca y2_3 | exact ca (ca y2_3) | exact ca (ca (ca y2_3)) | (simp; done) | go_simp) (by show w.heap.size ≠ _; omega)
  have yf2_4 : v4.frozen? ⟨w.heap.size, 2, none⟩ = false := kf k (by first | (simp; done) | (simp; omega) | (show w.heap.size < _; omega)) (by show w.heap.size ≠ _; omega) (by first | exact yf2_3 | exact fa (by show w.heap.size < _; omega) yf2_3 | exact fa (by show w.heap.size < _; simp; omega) (fa (by show w.heap.size < _; omega) yf2_3) | (simp; done) | go_simp)
  have y3_4 : v4.cell? ⟨w.heap.size, 3, none⟩ = some (.int .i64 0) := kc k (by first | exact y3_3 | exact ca y3_3 | exact ca (ca y3_3) | exact ca (ca (ca y3_3)) | (simp; done) | go_simp) (by show w.heap.size ≠ _; omega)
  have yf3_4 : v4.frozen? ⟨w.heap.size, 3, none⟩ = false := kf k (by first | (simp; done) | (simp; omega) | (show w.heap.size < _; omega)) (by show w.heap.size ≠ _; omega) (by first | exact yf3_3 | exact fa (by show w.heap.size < _; omega) yf3_3 | exact fa (by show w.heap.size < _; simp; omega) (fa (by show w.heap.size < _; omega) yf3_3) | (simp; done) | go_simp)
  have yl_4 : w.heap.size < v4.heap.size := cell_lt y0_4
  clear y0_3 yf0_3 y1_3 yf1_3 y2_3 yf2_3 y3_3 yf3_3 yl_3
  have hszv4 := k.size
  try simp at hszv4
  clear r k
  go_wp2_with fail
  refine (pick_any _ _ _ _ (by first | exact hR | omega | (simp; done) | (simp; omega)) (by omega) (by omega) (by omega) (by omega) (Rd.fwd HR.out (by repeat (first | exact Below.refl _ _ | refine Below.drew ?_ | refine bel_drewN _ ?_ | refine Below.alloc ?_ (by first | omega | (simp; done) | (simp; omega)) _ | refine Below.setCell ?_ (by first | (show _ ≤ _; omega) | (simp; done) | (simp; omega)) _)))).mono ?_
  rintro e v5 ⟨z, rfl, z0, z1, k, r⟩
  have z2 : z ≤ 1 := by omega
  clear z1
  have HBq : KB (w.heap.size) (R) w v5 := KB.callee (Nat.le_refl _) (by repeat (first | exact KB.refl _ _ _ | exact HB.out | refine KB.drew ?_ | refine KB.drewN ?_ | refine KB.alloc (Nat.le_refl _) ?_ _ | refine KB.setCell ?_ (by first | (show _ ≤ _; omega) | (simp; done) | (simp; omega)) _)) k
  have HB := Lib.hid HBq
  clear HBq
  have hR : R < v5.heap.size := Nat.lt_of_lt_of_le (by first | exact hR | omega | (simp; done) | (simp; omega)) k.size
  have HR := Lib.hid r
  have y0_5 : v5.cell? ⟨w.heap.size, 0, none⟩ = some (.int .i64 0) := kc k (by first | exact y0_4 | exact ca y0_4 | exact ca (ca y0_4) | exact ca (ca (ca y0_4)) | (simp; done) | go_simp) (by show w.heap.size ≠ _; omega)
  have yf0_5 : v5.frozen? ⟨w.heap.size, 0, none⟩ = false := kf k (by first | (simp; done) | (simp; omega) | (show w.heap.size < _; omega)) (by show w.heap.size ≠ _; omega) (by first | exact yf0_4 | exact fa (by show w.heap.size < _; omega) yf0_4 | exact fa (by show w.heap.size < _; simp; omega) (fa (by show w.heap.size < _; omega) yf0_4) | (simp; done) | go_simp)
  have y1_5 : v5.cell? ⟨w.heap.size, 1, none⟩ = some (.int .i64 0) := kc k (by first | exact y1_4 | exact ca y1_4 | exact ca (ca y1_4) | exact ca (ca (ca y1_4)) | (simp; done) | go_simp) (by show w.heap.size ≠ _; omega)
  have yf1_5 : v5.frozen? ⟨w.heap.size, 1, none⟩ = false := kf k (by first | (simp; done) | (simp; omega) | (show w.heap.size < _; omega)) (by show w.heap.size ≠ _; omega) (by first | exact yf1_4 | exact fa (by show w.heap.size < _; omega) yf1_4 | exact fa (by show w.heap.size < _; simp; omega) (fa (by show w.heap.size < _; omega) yf1_4) | (simp; done) | go_simp)
  have y2_5 : v5.cell? ⟨w.heap.size, 2, none⟩ = some (.int .i64 0) := kc k (by first | exact y2_4 | exact ca y2_4 | exact ca (ca y2_4) | exact ca (ca (ca y2_4)) | (simp; done) | go_simp) (by show w.heap.size ≠ _; omega)
  have yf2_5 : v5.frozen? ⟨w.heap.size, 2, none⟩ = false := kf k (by first | (simp; done) | (simp; omega) | (show w.heap.size < _; omega)) (by show w.heap.size ≠ _; omega) (by first | exact yf2_4 | exact fa (by show w.heap.size < _; omega) yf2_4 | exact fa (by show w.heap.size < _; simp; omega) (fa (by show w.heap.size < _; omega) yf2_4) | (simp; done) | go_simp)
  have y3_5 : v5.cell? ⟨w.heap.size, 3, none⟩ = some (.int .i64 0) := kc k (by first | exact y3_4 | exact ca y3_4 | exact ca (ca y3_4) | exact ca (ca (ca y3_4)) | (simp; done) | go_simp) (by show w.heap.size ≠ _; omega)
  have yf3_5 : v5.frozen? ⟨w.heap.size, 3, none⟩ = false := kf k (by first | (simp; done) | (simp; omega) | (show w.heap.size < _; omega)) (by show w.heap.size ≠ _; omega) (by first | exact yf3_4 | exact fa (by show w.heap.size < _; omega) yf3_4 | exact fa (by show w.heap.size < _; simp; omega) (fa (by show w.heap.size < _; omega) yf3_4) | (simp; done) | go_simp)
  have yl_5 : w.heap.size < v5.heap.size := cell_lt y0_5
  clear y0_4 yf0_4 y1_4 yf1_4 y2_4 yf2_4 y3_4 yf3_4 yl_4
  have s0_1 : v5.cell? ⟨v4.heap.size, 0, none⟩ = some (.int .i64 (5000 + p * 31)) := kc k (by first | (simp; done) | go_simp) (by show v4.heap.size ≠ _; omega)
  have sf0_1 : v5.frozen? ⟨v4.heap.size, 0, none⟩ = false := kf k (by first | (simp; done) | (simp; omega) | (show v4.heap.size < _; omega)) (by show v4.heap.size ≠ _; omega) (by first | (simp; done) | go_simp)
  have s1_1 : v5.cell? ⟨v4.heap.size, 1, none⟩ = some (.int .i64 (5000 + p * 31 + 200 + q * 9)) := kc k (by first | (simp; done) | go_simp) (by show v4.heap.size ≠ _; omega)
  have sf1_1 : v5.frozen? ⟨v4.heap.size, 1, none⟩ = false := kf k (by first | (simp; done) | (simp; omega) | (show v4.heap.size < _; omega)) (by show v4.heap.size ≠ _; omega) (by first | (simp; done) | go_simp)
  have s2_1 : v5.cell? ⟨v4.heap.size, 2, none⟩ = some (.int .i64 m) := kc k (by first | (simp; done) | go_simp) (by show v4.heap.size ≠ _; omega)
  have sf2_1 : v5.frozen? ⟨v4.heap.size, 2, none⟩ = false := kf k (by first | (simp; done) | (simp; omega) | (show v4.heap.size < _; omega)) (by show v4.heap.size ≠ _; omega) (by first | (simp; done) | go_simp)
  have s3_1 : v5.cell? ⟨v4.heap.size, 3, none⟩ = some (.int .i64 rr) := kc k (by first | (simp; done) | go_simp) (by show v4.heap.size ≠ _; omega)
  have sf3_1 : v5.frozen? ⟨v4.heap.size, 3, none⟩ = false := kf k (by first | (simp; done) | (simp; omega) | (show v4.heap.size < _; omega)) (by show v4.heap.size ≠ _; omega) (by first | (simp; done) | go_simp)
  have sl_1 : v4.heap.size < v5.heap.size := cell_lt s0_1
  have hszv5 := k.size
  try simp at hszv5
  clear r k
  have hne : v4.heap.size ≠ w.heap.size := by omega
  by_cases hz0 : z = 0
  · subst hz0
    go_wp2_with fail
    have am : ∀ k : Int, -1 ≤ amIn (5000 + p * 31) k ∧ amIn (5000 + p * 31) k ≤ 36524 := fun k => amIn_bd (by omega) k
    have HAM := Lib.hid am
    have hne12 : (⟨v4.heap.size, 1, none⟩ : Addr) ≠ ⟨v4.heap.size, 2, none⟩ := by simp
    have hneR1 : (⟨v4.heap.size, 1, none⟩ : Addr).block ≠ R := by show v4.heap.size ≠ R; omega
    have hlt5 : (⟨v4.heap.size, 1, none⟩ : Addr).block < v5.drew.heap.size := by show v4.heap.size < v5.heap.size; omega
    have hneR : (⟨v4.heap.size, 2, none⟩ : Addr).block ≠ R := by show v4.heap.size ≠ R; omega
    clear am
    have HR5 : Hid (Rd v5.drew R (K + 1 + 1 + 1 + 1 + 1)) := Lib.hid (Rd.fwd HR.out (Below.drew (Below.refl _ _)))
    have hR5 : R < v5.drew.heap.size := hR
    go_region_held3 (fun w' => w'.cell? ⟨v4.heap.size, 2, none⟩ = some (.int .i64 m))
      ((first | assumption | (with_reducible exact kc k (by assumption) hneR) | (with_reducible exact bc hb (by assumption)) | (with_reducible exact sc_far hne12 (by assumption)) | (simp; assumption)))
      (first | (go_at_call 57; (with_reducible refine (pick_any _ _ _ _ hR5 (by omega) (by omega) (by omega) (by omega) HR5.out).mono ?_); rintro e v6 ⟨t, rfl, t0, t1, k, r⟩; have t2 : t ≤ 7 := (by omega); clear t1; have c6 := kc (W := v5.drew) k s1_1 hneR1; have f6 := kf (W := v5.drew) k hlt5 hneR1 sf1_1; obtain ⟨u0, u1⟩ := mulz (m := m) (z := t) (by omega) (by omega); have WZ := Lib.hid (wrapz (m := m) (z := t) (by omega) (by omega))) | (go_at_call 65; (with_reducible refine (addMonthsS_in (5000 + p * 31) (IntKind.i64.wrap (m * IntKind.i64.wrap (1 + t))) _ (by omega) (by omega) (by rw [WZ.out]; omega) (by rw [WZ.out]; omega)).mono ?_); rintro e v7 ⟨rfl, hb⟩; have c7 := bc hb c6; have f7 := bf hb (Nat.lt_of_lt_of_le hlt5 k.size) f6))
    obtain ⟨X0, X1⟩ := HAM.out (IntKind.i64.wrap (m * IntKind.i64.wrap (1 + t)))
    generalize amIn (5000 + p * 31) (IntKind.i64.wrap (m * IntKind.i64.wrap (1 + t))) = X at *
    clear c6 f6 c7 f7
    have y0_6 : v6.cell? ⟨w.heap.size, 0, none⟩ = some (.int .i64 0) := kc k (by first | exact y0_5 | exact ca y0_5 | exact ca (ca y0_5) | exact ca (ca (ca y0_5)) | (simp; done) | go_simp) (by show w.heap.size ≠ _; omega)
    have yf0_6 : v6.frozen? ⟨w.heap.size, 0, none⟩ = false := kf k (by first | (simp; done) | (simp; omega) | (show w.heap.size < _; omega)) (by show w.heap.size ≠ _; omega) (by first | exact yf0_5 | exact fa (by show w.heap.size < _; omega) yf0_5 | exact fa (by show w.heap.size < _; simp; omega) (fa (by show w.heap.size < _; omega) yf0_5) | (simp; done) | go_simp)
    have y1_6 : v6.cell? ⟨w.heap.size, 1, none⟩ = some (.int .i64 0) := kc k (by first | exact y1_5 | exact ca y1_5 | exact ca (ca y1_5) | exact ca (ca (ca y1_5)) | (simp; done) | go_simp) (by show w.heap.size ≠ _; omega)
    have yf1_6 : v6.frozen? ⟨w.heap.size, 1, none⟩ = false := kf k (by first | (simp; done) | (simp; omega) | (show w.heap.size < _; omega)) (by show w.heap.size ≠ _; omega) (by first | exact yf1_5 | exact fa (by show w.heap.size < _; omega) yf1_5 | exact fa (by show w.heap.size < _; simp; omega) (fa (by show w.heap.size < _; omega) yf1_5) | (simp; done) | go_simp)
    have y2_6 : v6.cell? ⟨w.heap.size, 2, none⟩ = some (.int .i64 0) := kc k (by first | exact y2_5 | exact ca y2_5 | exact ca (ca y2_5) | exact ca (ca (ca y2_5)) | (simp; done) | go_simp) (by show w.heap.size ≠ _; omega)
    have yf2_6 : v6.frozen? ⟨w.heap.size, 2, none⟩ = false := kf k (by first | (simp; done) | (simp; omega) | (show w.heap.size < _; omega)) (by show w.heap.size ≠ _; omega) (by first | exact yf2_5 | exact fa (by show w.heap.size < _; omega) yf2_5 | exact fa (by show w.heap.size < _; simp; omega) (fa (by show w.heap.size < _; omega) yf2_5) | (simp; done) | go_simp)
    have y3_6 : v6.cell? ⟨w.heap.size, 3, none⟩ = some (.int .i64 0) := kc k (by first | exact y3_5 | exact ca y3_5 | exact ca (ca y3_5) | exact ca (ca (ca y3_5)) | (simp; done) | go_simp) (by show w.heap.size ≠ _; omega)
    have yf3_6 : v6.frozen? ⟨w.heap.size, 3, none⟩ = false := kf k (by first | (simp; done) | (simp; omega) | (show w.heap.size < _; omega)) (by show w.heap.size ≠ _; omega) (by first | exact yf3_5 | exact fa (by show w.heap.size < _; omega) yf3_5 | exact fa (by show w.heap.size < _; simp; omega) (fa (by show w.heap.size < _; omega) yf3_5) | (simp; done) | go_simp)
    have yl_6 : w.heap.size < v6.heap.size := cell_lt y0_6
    clear y0_5 yf0_5 y1_5 yf1_5 y2_5 yf2_5 y3_5 yf3_5 yl_5
    have s0_2 : v6.cell? ⟨v4.heap.size, 0, none⟩ = some (.int .i64 (5000 + p * 31)) := kc k (by first | exact s0_1 | exact ca s0_1 | exact ca (ca s0_1) | exact ca (ca (ca s0_1)) | (simp; done) | go_simp) (by show v4.heap.size ≠ _; omega)
    have sf0_2 : v6.frozen? ⟨v4.heap.size, 0, none⟩ = false := kf k (by first | (simp; done) | (simp; omega) | (show v4.heap.size < _; omega)) (by show v4.heap.size ≠ _; omega) (by first | exact sf0_1 | exact fa (by show v4.heap.size < _; omega) sf0_1 | exact fa (by show v4.heap.size < _; simp; omega) (fa (by show v4.heap.size < _; omega) sf0_1) | (simp; done) | go_simp)
    have s1_2 : v6.cell? ⟨v4.heap.size, 1, none⟩ = some (.int .i64 (5000 + p * 31 + 200 + q * 9)) := kc k (by first | exact s1_1 | exact ca s1_1 | exact ca (ca s1_1) | exact ca (ca (ca s1_1)) | (simp; done) | go_simp) (by show v4.heap.size ≠ _; omega)
    have sf1_2 : v6.frozen? ⟨v4.heap.size, 1, none⟩ = false := kf k (by first | (simp; done) | (simp; omega) | (show v4.heap.size < _; omega)) (by show v4.heap.size ≠ _; omega) (by first | exact sf1_1 | exact fa (by show v4.heap.size < _; omega) sf1_1 | exact fa (by show v4.heap.size < _; simp; omega) (fa (by show v4.heap.size < _; omega) sf1_1) | (simp; done) | go_simp)
    have s2_2 : v6.cell? ⟨v4.heap.size, 2, none⟩ = some (.int .i64 m) := kc k (by first | exact s2_1 | exact ca s2_1 | exact ca (ca s2_1) | exact ca (ca (ca s2_1)) | (simp; done) | go_simp) (by show v4.heap.size ≠ _; omega)
    have sf2_2 : v6.frozen? ⟨v4.heap.size, 2, none⟩ = false := kf k (by first | (simp; done) | (simp; omega) | (show v4.heap.size < _; omega)) (by show v4.heap.size ≠ _; omega) (by first | exact sf2_1 | exact fa (by show v4.heap.size < _; omega) sf2_1 | exact fa (by show v4.heap.size < _; simp; omega) (fa (by show v4.heap.size < _; omega) sf2_1) | (simp; done) | go_simp)
    have s3_2 : v6.cell? ⟨v4.heap.size, 3, none⟩ = some (.int .i64 rr) := kc k (by first | exact s3_1 | exact ca s3_1 | exact ca (ca s3_1) | exact ca (ca (ca s3_1)) | (simp; done) | go_simp) (by show v4.heap.size ≠ _; omega)
    have sf3_2 : v6.frozen? ⟨v4.heap.size, 3, none⟩ = false := kf k (by first | (simp; done) | (simp; omega) | (show v4.heap.size < _; omega)) (by show v4.heap.size ≠ _; omega) (by first | exact sf3_1 | exact fa (by show v4.heap.size < _; omega) sf3_1 | exact fa (by show v4.heap.size < _; simp; omega) (fa (by show v4.heap.size < _; omega) sf3_1) | (simp; done) | go_simp)
    have sl_2 : v4.heap.size < v6.heap.size := cell_lt s0_2
    clear s0_1 sf0_1 s1_1 sf1_1 s2_1 sf2_1 s3_1 sf3_1 sl_1
    have y0_7 : v7.cell? ⟨w.heap.size, 0, none⟩ = some (.int .i64 0) := bc hb (by first | exact y0_6 | exact ca y0_6 | exact ca (ca y0_6) | exact ca (ca (ca y0_6)) | (simp; done) | go_simp)
    have yf0_7 : v7.frozen? ⟨w.heap.size, 0, none⟩ = false := bf hb (by first | (simp; done) | (simp; omega) | (show w.heap.size < _; omega)) (by first | exact yf0_6 | exact fa (by show w.heap.size < _; omega) yf0_6 | exact fa (by show w.heap.size < _; simp; omega) (fa (by show w.heap.size < _; omega) yf0_6) | (simp; done) | go_simp)
    have y1_7 : v7.cell? ⟨w.heap.size, 1, none⟩ = some (.int .i64 0) := bc hb (by first | exact y1_6 | exact ca y1_6 | exact ca (ca y1_6) | exact ca (ca (ca y1_6)) | (simp; done) | go_simp)
    have yf1_7 : v7.frozen? ⟨w.heap.size, 1, none⟩ = false := bf hb (by first | (simp; done) | (simp; omega) | (show w.heap.size < _; omega)) (by first | exact yf1_6 | exact fa (by show w.heap.size < _; omega) yf1_6 | exact fa (by show w.heap.size < _; simp; omega) (fa (by show w.heap.size < _; omega) yf1_6) | (simp; done) | go_simp)
    have y2_7 : v7.cell? ⟨w.heap.size, 2, none⟩ = some (.int .i64 0) := bc hb (by first | exact y2_6 | exact ca y2_6 | exact ca (ca y2_6) | exact ca (ca (ca y2_6)) | (simp; done) | go_simp)
    have yf2_7 : v7.frozen? ⟨w.heap.size, 2, none⟩ = false := bf hb (by first | (simp; done) | (simp; omega) | (show w.heap.size < _; omega)) (by first | exact yf2_6 | exact fa (by show w.heap.size < _; omega) yf2_6 | exact fa (by show w.heap.size < _; simp; omega) (fa (by show w.heap.size < _; omega) yf2_6) | (simp; done) | go_simp)
    have y3_7 : v7.cell? ⟨w.heap.size, 3, none⟩ = some (.int .i64 0) := bc hb (by first | exact y3_6 | exact ca y3_6 | exact ca (ca y3_6) | exact ca (ca (ca y3_6)) | (simp; done) | go_simp)
    have yf3_7 : v7.frozen? ⟨w.heap.size, 3, none⟩ = false := bf hb (by first | (simp; done) | (simp; omega) | (show w.heap.size < _; omega)) (by first | exact yf3_6 | exact fa (by show w.heap.size < _; omega) yf3_6 | exact fa (by show w.heap.size < _; simp; omega) (fa (by show w.heap.size < _; omega) yf3_6) | (simp; done) | go_simp)
    have yl_7 : w.heap.size < v7.heap.size := cell_lt y0_7
    clear y0_6 yf0_6 y1_6 yf1_6 y2_6 yf2_6 y3_6 yf3_6 yl_6
    have s0_3 : v7.cell? ⟨v4.heap.size, 0, none⟩ = some (.int .i64 (5000 + p * 31)) := bc hb (by first | exact s0_2 | exact ca s0_2 | exact ca (ca s0_2) | exact ca (ca (ca s0_2)) | (simp; done) | go_simp)
    have sf0_3 : v7.frozen? ⟨v4.heap.size, 0, none⟩ = false := bf hb (by first | (simp; done) | (simp; omega) | (show v4.heap.size < _; omega)) (by first | exact sf0_2 | exact fa (by show v4.heap.size < _; omega) sf0_2 | exact fa (by show v4.heap.size < _; simp; omega) (fa (by show v4.heap.size < _; omega) sf0_2) | (simp; done) | go_simp)
    have s1_3 : v7.cell? ⟨v4.heap.size, 1, none⟩ = some (.int .i64 (5000 + p * 31 + 200 + q * 9)) := bc hb (by first | exact s1_2 | exact ca s1_2 | exact ca (ca s1_2) | exact ca (ca (ca s1_2)) | (simp; done) | go_simp)
    have sf1_3 : v7.frozen? ⟨v4.heap.size, 1, none⟩ = false := bf hb (by first | (simp; done) | (simp; omega) | (show v4.heap.size < _; omega)) (by first | exact sf1_2 | exact fa (by show v4.heap.size < _; omega) sf1_2 | exact fa (by show v4.heap.size < _; simp; omega) (fa (by show v4.heap.size < _; omega) sf1_2) | (simp; done) | go_simp)
    have s2_3 : v7.cell? ⟨v4.heap.size, 2, none⟩ = some (.int .i64 m) := bc hb (by first | exact s2_2 | exact ca s2_2 | exact ca (ca s2_2) | exact ca (ca (ca s2_2)) | (simp; done) | go_simp)
    have sf2_3 : v7.frozen? ⟨v4.heap.size, 2, none⟩ = false := bf hb (by first | (simp; done) | (simp; omega) | (show v4.heap.size < _; omega)) (by first | exact sf2_2 | exact fa (by show v4.heap.size < _; omega) sf2_2 | exact fa (by show v4.heap.size < _; simp; omega) (fa (by show v4.heap.size < _; omega) sf2_2) | (simp; done) | go_simp)
    have s3_3 : v7.cell? ⟨v4.heap.size, 3, none⟩ = some (.int .i64 rr) := bc hb (by first | exact s3_2 | exact ca s3_2 | exact ca (ca s3_2) | exact ca (ca (ca s3_2)) | (simp; done) | go_simp)
    have sf3_3 : v7.frozen? ⟨v4.heap.size, 3, none⟩ = false := bf hb (by first | (simp; done) | (simp; omega) | (show v4.heap.size < _; omega)) (by first | exact sf3_2 | exact fa (by show v4.heap.size < _; omega) sf3_2 | exact fa (by show v4.heap.size < _; simp; omega) (fa (by show v4.heap.size < _; omega) sf3_2) | (simp; done) | go_simp)
    have sl_3 : v4.heap.size < v7.heap.size := cell_lt s0_3
    clear s0_2 sf0_2 s1_2 sf1_2 s2_2 sf2_2 s3_2 sf3_2 sl_2
    have HR6 := Lib.hid r
    have HB6 : Hid (KB w.heap.size R w v6) := KB.callee (Nat.le_refl _) (KB.drew HB.out) k
    have HB7 : Hid (KB w.heap.size R w v7) := KB.quiet (Nat.le_refl _) HB6.out hb
    have HR7 : Hid (Rd v7 R (K + 6)) := Lib.hid ((Rd.fwd HR6.out (hb.mono (by have := k.size; have : v5.drew.heap.size = v5.heap.size := rfl; omega))).mono (by omega))
    have hRne : R < v4.heap.size := by omega
    clear hb k r
    have HB := HB7
    have HR := HR7
    go_wp2
    have h4 : Has4 v7 w.heap.size 0 0 0 0 := ⟨by assumption, by assumption, by assumption, by assumption⟩
    have h5 : Has4 (v7.setCell ⟨v4.heap.size, 1, none⟩ (.int .i64 X)) w.heap.size 0 0 0 0 := h4.far hne
    have k5 : KB w.heap.size R w (v7.setCell ⟨v4.heap.size, 1, none⟩ (.int .i64 X)) := KB.setCell HB.out (by show w.heap.size ≤ v4.heap.size; omega) _
    have r5 := Rd.fwd HR.out (Below.setCell (Below.refl (R + 1) v7) (p := ⟨v4.heap.size, 1, none⟩) (by show R + 1 ≤ v4.heap.size; omega) (.int .i64 X))
    have h6 := h5.set (n0 := 5000 + p * 31) (n1 := X) (n2 := m) (n3 := rr)
    have k6 := st4_kb (n0 := 5000 + p * 31) (n1 := X) (n2 := m) (n3 := rr) k5 (Nat.le_refl w.heap.size)
    have r6 := Rd.fwd r5 (st4_below (n0 := 5000 + p * 31) (n1 := X) (n2 := m) (n3 := rr) (Below.refl (R + 1) _) (show R + 1 ≤ w.heap.size by omega))
    change bodyPost _ _ _ _ _ (st4 (v7.setCell ⟨v4.heap.size, 1, none⟩ (.int .i64 X)) w.heap.size (5000 + p * 31) (X) (m) (rr))
    generalize st4 (v7.setCell ⟨v4.heap.size, 1, none⟩ (.int .i64 X)) w.heap.size (5000 + p * 31) (X) (m) (rr) = WF at *
    exact bodyPost_ret (res4 Tryd.results56 (by rfl) h6) rfl (BondP.mk _ _ _ _ (by omega) (by omega) (by omega) (by omega) (KB.keep k6) (r6.mono (by omega)))
  · have hz0' : (z == 0) = false := by simpa using hz0
    go_wp2
    have h4 : Has4 v5 w.heap.size 0 0 0 0 := ⟨by assumption, by assumption, by assumption, by assumption⟩
    have h5 := h4
    have k5 := HB.out
    have r5 := HR.out
    have h6 := h5.set (n0 := 5000 + p * 31) (n1 := 5000 + p * 31 + 200 + q * 9) (n2 := m) (n3 := rr)
    have k6 := st4_kb (n0 := 5000 + p * 31) (n1 := 5000 + p * 31 + 200 + q * 9) (n2 := m) (n3 := rr) k5 (Nat.le_refl w.heap.size)
    have r6 := Rd.fwd r5 (st4_below (n0 := 5000 + p * 31) (n1 := 5000 + p * 31 + 200 + q * 9) (n2 := m) (n3 := rr) (Below.refl (R + 1) _) (show R + 1 ≤ w.heap.size by omega))
    change bodyPost _ _ _ _ _ (st4 v5 w.heap.size (5000 + p * 31) (5000 + p * 31 + 200 + q * 9) (m) (rr))
    generalize st4 v5 w.heap.size (5000 + p * 31) (5000 + p * 31 + 200 + q * 9) (m) (rr) = WF at *
    exact bodyPost_ret (res4 Tryd.results56 (by rfl) h6) rfl (BondP.mk _ _ _ _ (by omega) (by omega) (by omega) (by omega) (KB.keep k6) (r6.mono (by omega)))
set_option maxHeartbeats 4000000 in
theorem anyBond_any (R : Nat) (K : Int) (w : World) (hR : R < w.heap.size) (hK : 0 ≤ K) (hK' : K ≤ 800000) (hrd : Rd w R K) :
    Calls Tryd.prog 38 #[.pointer (some ⟨R, 0, none⟩)] w (BondP R K 8 w) := by
  have HR := Lib.hid hrd
  clear hrd
  have HB := Lib.hid (KB.refl w.heap.size R w)
  have hRw : R < w.heap.size := hR
  go_enter Tryd.func38, Tryd.ntmps38
  go_wp2_with fail
  refine (randomBond_any _ _ _ (by first | exact hR | omega | (simp; done) | (simp; omega)) (by omega) (by omega) (Rd.fwd HR.out (by repeat (first | exact Below.refl _ _ | refine Below.drew ?_ | refine bel_drewN _ ?_ | refine Below.alloc ?_ (by first | omega | (simp; done) | (simp; omega)) _ | refine Below.setCell ?_ (by first | (show _ ≤ _; omega) | (simp; done) | (simp; omega)) _)))).mono ?_
  rintro e v1 ⟨s, x, m, rr, rfl, hs, hx, hm, hr, k, r⟩
  have HBq : KB (w.heap.size) (R) w v1 := KB.callee (Nat.le_refl _) (by repeat (first | exact KB.refl _ _ _ | exact HB.out | refine KB.drew ?_ | refine KB.drewN ?_ | refine KB.alloc (Nat.le_refl _) ?_ _ | refine KB.setCell ?_ (by first | (show _ ≤ _; omega) | (simp; done) | (simp; omega)) _)) k
  have HB := Lib.hid HBq
  clear HBq
  have hR : R < v1.heap.size := Nat.lt_of_lt_of_le (by first | exact hR | omega | (simp; done) | (simp; omega)) k.size
  have HR := Lib.hid r
  have y0_1 : v1.cell? ⟨w.heap.size, 0, none⟩ = some (.int .i64 0) := kc k (by first | (simp; done) | go_simp) (by show w.heap.size ≠ _; omega)
  have yf0_1 : v1.frozen? ⟨w.heap.size, 0, none⟩ = false := kf k (by first | (simp; done) | (simp; omega) | (show w.heap.size < _; omega)) (by show w.heap.size ≠ _; omega) (by first | (simp; done) | go_simp)
  have y1_1 : v1.cell? ⟨w.heap.size, 1, none⟩ = some (.int .i64 0) := kc k (by first | (simp; done) | go_simp) (by show w.heap.size ≠ _; omega)
  have yf1_1 : v1.frozen? ⟨w.heap.size, 1, none⟩ = false := kf k (by first | (simp; done) | (simp; omega) | (show w.heap.size < _; omega)) (by show w.heap.size ≠ _; omega) (by first | (simp; done) | go_simp)
  have y2_1 : v1.cell? ⟨w.heap.size, 2, none⟩ = some (.int .i64 0) := kc k (by first | (simp; done) | go_simp) (by show w.heap.size ≠ _; omega)
  have yf2_1 : v1.frozen? ⟨w.heap.size, 2, none⟩ = false := kf k (by first | (simp; done) | (simp; omega) | (show w.heap.size < _; omega)) (by show w.heap.size ≠ _; omega) (by first | (simp; done) | go_simp)
  have y3_1 : v1.cell? ⟨w.heap.size, 3, none⟩ = some (.int .i64 0) := kc k (by first | (simp; done) | go_simp) (by show w.heap.size ≠ _; omega)
  have yf3_1 : v1.frozen? ⟨w.heap.size, 3, none⟩ = false := kf k (by first | (simp; done) | (simp; omega) | (show w.heap.size < _; omega)) (by show w.heap.size ≠ _; omega) (by first | (simp; done) | go_simp)
  have yl_1 : w.heap.size < v1.heap.size := cell_lt y0_1
  have hszv1 := k.size
  try simp at hszv1
  clear r k
  go_wp2_with fail
  refine (pick_any _ _ _ _ (by first | exact hR | omega | (simp; done) | (simp; omega)) (by omega) (by omega) (by omega) (by omega) (Rd.fwd HR.out (by repeat (first | exact Below.refl _ _ | refine Below.drew ?_ | refine bel_drewN _ ?_ | refine Below.alloc ?_ (by first | omega | (simp; done) | (simp; omega)) _ | refine Below.setCell ?_ (by first | (show _ ≤ _; omega) | (simp; done) | (simp; omega)) _)))).mono ?_
  rintro e v2 ⟨z, rfl, z0, z1, k, r⟩
  have z2 : z ≤ 23 := by omega
  clear z1
  have HBq : KB (w.heap.size) (R) w v2 := KB.callee (Nat.le_refl _) (by repeat (first | exact KB.refl _ _ _ | exact HB.out | refine KB.drew ?_ | refine KB.drewN ?_ | refine KB.alloc (Nat.le_refl _) ?_ _ | refine KB.setCell ?_ (by first | (show _ ≤ _; omega) | (simp; done) | (simp; omega)) _)) k
  have HB := Lib.hid HBq
  clear HBq
  have hR : R < v2.heap.size := Nat.lt_of_lt_of_le (by first | exact hR | omega | (simp; done) | (simp; omega)) k.size
  have HR := Lib.hid r
  have y0_2 : v2.cell? ⟨w.heap.size, 0, none⟩ = some (.int .i64 0) := kc k (by first | exact y0_1 | exact ca y0_1 | exact ca (ca y0_1) | exact ca (ca (ca y0_1)) | (simp; done) | go_simp) (by show w.heap.size ≠ _; omega)
  have yf0_2 : v2.frozen? ⟨w.heap.size, 0, none⟩ = false := kf k (by first | (simp; done) | (simp; omega) | (show w.heap.size < _; omega)) (by show w.heap.size ≠ _; omega) (by first | exact yf0_1 | exact fa (by show w.heap.size < _; omega) yf0_1 | exact fa (by show w.heap.size < _; simp; omega) (fa (by show w.heap.size < _; omega) yf0_1) | (simp; done) | go_simp)
  have y1_2 : v2.cell? ⟨w.heap.size, 1, none⟩ = some (.int .i64 0) := kc k (by first | exact y1_1 | exact ca y1_1 | exact ca (ca y1_1) | exact ca (ca (ca y1_1)) | (simp; done) | go_simp) (by show w.heap.size ≠ _; omega)
  have yf1_2 : v2.frozen? ⟨w.heap.size, 1, none⟩ = false := kf k (by first | (simp; done) | (simp; omega) | (show w.heap.size < _; omega)) (by show w.heap.size ≠ _; omega) (by first | exact yf1_1 | exact fa (by show w.heap.size < _; omega) yf1_1 | exact fa (by show w.heap.size < _; simp; omega) (fa (by show w.heap.size < _; omega) yf1_1) | (simp; done) | go_simp)
  have y2_2 : v2.cell? ⟨w.heap.size, 2, none⟩ = some (.int .i64 0) := kc k (by first | exact y2_1 | exact ca y2_1 | exact ca (ca y2_1) | exact ca (ca (ca y2_1)) | (simp; done) | go_simp) (by show w.heap.size ≠ _; omega)
  have yf2_2 : v2.frozen? ⟨w.heap.size, 2, none⟩ = false := kf k (by first | (simp; done) | (simp; omega) | (show w.heap.size < _; omega)) (by show w.heap.size ≠ _; omega) (by first | exact yf2_1 | exact fa (by show w.heap.size < _; omega) yf2_1 | exact fa (by show w.heap.size < _; simp; omega) (fa (by show w.heap.size < _; omega) yf2_1) | (simp; done) | go_simp)
  have y3_2 : v2.cell? ⟨w.heap.size, 3, none⟩ = some (.int .i64 0) := kc k (by first | exact y3_1 | exact ca y3_1 | exact ca (ca y3_1) | exact ca (ca (ca y3_1)) | (simp; done) | go_simp) (by show w.heap.size ≠ _; omega)
  have yf3_2 : v2.frozen? ⟨w.heap.size, 3, none⟩ = false := kf k (by first | (simp; done) | (simp; omega) | (show w.heap.size < _; omega)) (by show w.heap.size ≠ _; omega) (by first | exact yf3_1 | exact fa (by show w.heap.size < _; omega) yf3_1 | exact fa (by show w.heap.size < _; simp; omega) (fa (by show w.heap.size < _; omega) yf3_1) | (simp; done) | go_simp)
  have yl_2 : w.heap.size < v2.heap.size := cell_lt y0_2
  clear y0_1 yf0_1 y1_1 yf1_1 y2_1 yf2_1 y3_1 yf3_1 yl_1
  have s0_1 : v2.cell? ⟨v1.heap.size, 0, none⟩ = some (.int .i64 s) := kc k (by first | (simp; done) | go_simp) (by show v1.heap.size ≠ _; omega)
  have sf0_1 : v2.frozen? ⟨v1.heap.size, 0, none⟩ = false := kf k (by first | (simp; done) | (simp; omega) | (show v1.heap.size < _; omega)) (by show v1.heap.size ≠ _; omega) (by first | (simp; done) | go_simp)
  have s1_1 : v2.cell? ⟨v1.heap.size, 1, none⟩ = some (.int .i64 x) := kc k (by first | (simp; done) | go_simp) (by show v1.heap.size ≠ _; omega)
  have sf1_1 : v2.frozen? ⟨v1.heap.size, 1, none⟩ = false := kf k (by first | (simp; done) | (simp; omega) | (show v1.heap.size < _; omega)) (by show v1.heap.size ≠ _; omega) (by first | (simp; done) | go_simp)
  have s2_1 : v2.cell? ⟨v1.heap.size, 2, none⟩ = some (.int .i64 m) := kc k (by first | (simp; done) | go_simp) (by show v1.heap.size ≠ _; omega)
  have sf2_1 : v2.frozen? ⟨v1.heap.size, 2, none⟩ = false := kf k (by first | (simp; done) | (simp; omega) | (show v1.heap.size < _; omega)) (by show v1.heap.size ≠ _; omega) (by first | (simp; done) | go_simp)
  have s3_1 : v2.cell? ⟨v1.heap.size, 3, none⟩ = some (.int .i64 rr) := kc k (by first | (simp; done) | go_simp) (by show v1.heap.size ≠ _; omega)
  have sf3_1 : v2.frozen? ⟨v1.heap.size, 3, none⟩ = false := kf k (by first | (simp; done) | (simp; omega) | (show v1.heap.size < _; omega)) (by show v1.heap.size ≠ _; omega) (by first | (simp; done) | go_simp)
  have sl_1 : v1.heap.size < v2.heap.size := cell_lt s0_1
  have hszv2 := k.size
  try simp at hszv2
  clear r k
  have hne : v1.heap.size ≠ w.heap.size := by omega
  by_cases hz0 : z = 0
  · subst hz0
    go_wp2_with fail
    refine (one_any _ _ _ (-1) (36525) _ _ _ (by exact intsIn_lit _ [s, s + 1, 36525, s - 1] _ _ _ _ _ _ rfl (by first | (simp; done) | (simp; omega) | omega) (by simp; try omega)) (by omega) (by omega) (by first | omega | (simp; done) | (simp; omega)) (by first | omega | (simp; omega)) (by first | exact hR | omega | (simp; done) | (simp; omega)) (by omega) (by omega) (Rd.fwd HR.out (by repeat (first | exact Below.refl _ _ | refine Below.drew ?_ | refine bel_drewN _ ?_ | refine Below.alloc ?_ (by first | omega | (simp; done) | (simp; omega)) _ | refine Below.setCell ?_ (by first | (show _ ≤ _; omega) | (simp; done) | (simp; omega)) _)))).mono ?_
    rintro e u1 ⟨t, rfl, t0, t1, k, r⟩
    have HBq : KB (w.heap.size) (R) w u1 := KB.callee (Nat.le_refl _) (by repeat (first | exact KB.refl _ _ _ | exact HB.out | refine KB.drew ?_ | refine KB.drewN ?_ | refine KB.alloc (Nat.le_refl _) ?_ _ | refine KB.setCell ?_ (by first | (show _ ≤ _; omega) | (simp; done) | (simp; omega)) _)) k
    have HB := Lib.hid HBq
    clear HBq
    have hR : R < u1.heap.size := Nat.lt_of_lt_of_le (by first | exact hR | omega | (simp; done) | (simp; omega)) k.size
    have HR := Lib.hid r
    have y0_3 : u1.cell? ⟨w.heap.size, 0, none⟩ = some (.int .i64 0) := kc k (by first | exact y0_2 | exact ca y0_2 | exact ca (ca y0_2) | exact ca (ca (ca y0_2)) | (simp; done) | go_simp) (by show w.heap.size ≠ _; omega)
    have yf0_3 : u1.frozen? ⟨w.heap.size, 0, none⟩ = false := kf k (by first | (simp; done) | (simp; omega) | (show w.heap.size < _; omega)) (by show w.heap.size ≠ _; omega) (by first | exact yf0_2 | exact fa (by show w.heap.size < _; omega) yf0_2 | exact fa (by show w.heap.size < _; simp; omega) (fa (by show w.heap.size < _; omega) yf0_2) | (simp; done) | go_simp)
    have y1_3 : u1.cell? ⟨w.heap.size, 1, none⟩ = some (.int .i64 0) := kc k (by first | exact y1_2 | exact ca y1_2 | exact ca (ca y1_2) | exact ca (ca (ca y1_2)) | (simp; done) | go_simp) (by show w.heap.size ≠ _; omega)
    have yf1_3 : u1.frozen? ⟨w.heap.size, 1, none⟩ = false := kf k (by first | (simp; done) | (simp; omega) | (show w.heap.size < _; omega)) (by show w.heap.size ≠ _; omega) (by first | exact yf1_2 | exact fa (by show w.heap.size < _; omega) yf1_2 | exact fa (by show w.heap.size < _; simp; omega) (fa (by show w.heap.size < _; omega) yf1_2) | (simp; done) | go_simp)
    have y2_3 : u1.cell? ⟨w.heap.size, 2, none⟩ = some (.int .i64 0) := kc k (by first | exact y2_2 | exact ca y2_2 | exact ca (ca y2_2) | exact ca (ca (ca y2_2)) | (simp; done) | go_simp) (by show w.heap.size ≠ _; omega)
    have yf2_3 : u1.frozen? ⟨w.heap.size, 2, none⟩ = false := kf k (by first | (simp; done) | (simp; omega) | (show w.heap.size < _; omega)) (by show w.heap.size ≠ _; omega) (by first | exact yf2_2 | exact fa (by show w.heap.size < _; omega) yf2_2 | exact fa (by show w.heap.size < _; simp; omega) (fa (by show w.heap.size < _; omega) yf2_2) | (simp; done) | go_simp)
    have y3_3 : u1.cell? ⟨w.heap.size, 3, none⟩ = some (.int .i64 0) := kc k (by first | exact y3_2 | exact ca y3_2 | exact ca (ca y3_2) | exact ca (ca (ca y3_2)) | (simp; done) | go_simp) (by show w.heap.size ≠ _; omega)
    have yf3_3 : u1.frozen? ⟨w.heap.size, 3, none⟩ = false := kf k (by first | (simp; done) | (simp; omega) | (show w.heap.size < _; omega)) (by show w.heap.size ≠ _; omega) (by first | exact yf3_2 | exact fa (by show w.heap.size < _; omega) yf3_2 | exact fa (by show w.heap.size < _; simp; omega) (fa (by show w.heap.size < _; omega) yf3_2) | (simp; done) | go_simp)
    have yl_3 : w.heap.size < u1.heap.size := cell_lt y0_3
    clear y0_2 yf0_2 y1_2 yf1_2 y2_2 yf2_2 y3_2 yf3_2 yl_2
    have s0_2 : u1.cell? ⟨v1.heap.size, 0, none⟩ = some (.int .i64 s) := kc k (by first | exact s0_1 | exact ca s0_1 | exact ca (ca s0_1) | exact ca (ca (ca s0_1)) | (simp; done) | go_simp) (by show v1.heap.size ≠ _; omega)
    have sf0_2 : u1.frozen? ⟨v1.heap.size, 0, none⟩ = false := kf k (by first | (simp; done) | (simp; omega) | (show v1.heap.size < _; omega)) (by show v1.heap.size ≠ _; omega) (by first | exact sf0_1 | exact fa (by show v1.heap.size < _; omega) sf0_1 | exact fa (by show v1.heap.size < _; simp; omega) (fa (by show v1.heap.size < _; omega) sf0_1) | (simp; done) | go_simp)
    have s1_2 : u1.cell? ⟨v1.heap.size, 1, none⟩ = some (.int .i64 x) := kc k (by first | exact s1_1 | exact ca s1_1 | exact ca (ca s1_1) | exact ca (ca (ca s1_1)) | (simp; done) | go_simp) (by show v1.heap.size ≠ _; omega)
    have sf1_2 : u1.frozen? ⟨v1.heap.size, 1, none⟩ = false := kf k (by first | (simp; done) | (simp; omega) | (show v1.heap.size < _; omega)) (by show v1.heap.size ≠ _; omega) (by first | exact sf1_1 | exact fa (by show v1.heap.size < _; omega) sf1_1 | exact fa (by show v1.heap.size < _; simp; omega) (fa (by show v1.heap.size < _; omega) sf1_1) | (simp; done) | go_simp)
    have s2_2 : u1.cell? ⟨v1.heap.size, 2, none⟩ = some (.int .i64 m) := kc k (by first | exact s2_1 | exact ca s2_1 | exact ca (ca s2_1) | exact ca (ca (ca s2_1)) | (simp; done) | go_simp) (by show v1.heap.size ≠ _; omega)
    have sf2_2 : u1.frozen? ⟨v1.heap.size, 2, none⟩ = false := kf k (by first | (simp; done) | (simp; omega) | (show v1.heap.size < _; omega)) (by show v1.heap.size ≠ _; omega) (by first | exact sf2_1 | exact fa (by show v1.heap.size < _; omega) sf2_1 | exact fa (by show v1.heap.size < _; simp; omega) (fa (by show v1.heap.size < _; omega) sf2_1) | (simp; done) | go_simp)
    have s3_2 : u1.cell? ⟨v1.heap.size, 3, none⟩ = some (.int .i64 rr) := kc k (by first | exact s3_1 | exact ca s3_1 | exact ca (ca s3_1) | exact ca (ca (ca s3_1)) | (simp; done) | go_simp) (by show v1.heap.size ≠ _; omega)
    have sf3_2 : u1.frozen? ⟨v1.heap.size, 3, none⟩ = false := kf k (by first | (simp; done) | (simp; omega) | (show v1.heap.size < _; omega)) (by show v1.heap.size ≠ _; omega) (by first | exact sf3_1 | exact fa (by show v1.heap.size < _; omega) sf3_1 | exact fa (by show v1.heap.size < _; simp; omega) (fa (by show v1.heap.size < _; omega) sf3_1) | (simp; done) | go_simp)
    have sl_2 : v1.heap.size < u1.heap.size := cell_lt s0_2
    clear s0_1 sf0_1 s1_1 sf1_1 s2_1 sf2_1 s3_1 sf3_1 sl_1
    have hszu1 := k.size
    try simp at hszu1
    clear r k
    have hne : v1.heap.size ≠ w.heap.size := by omega
    go_wp2
    have h4 : Has4 u1 w.heap.size 0 0 0 0 := ⟨by assumption, by assumption, by assumption, by assumption⟩
    have h5 : Has4 (u1.setCell ⟨v1.heap.size, 1, none⟩ (.int .i64 t)) w.heap.size 0 0 0 0 := h4.far hne
    have k5 : KB w.heap.size R w (u1.setCell ⟨v1.heap.size, 1, none⟩ (.int .i64 t)) := KB.setCell HB.out (by show w.heap.size ≤ v1.heap.size; omega) _
    have r5 := Rd.fwd HR.out (Below.setCell (Below.refl (R + 1) u1) (p := ⟨v1.heap.size, 1, none⟩) (by show R + 1 ≤ v1.heap.size; omega) (.int .i64 t))
    have h6 := h5.set (n0 := s) (n1 := t) (n2 := m) (n3 := rr)
    have k6 := st4_kb (n0 := s) (n1 := t) (n2 := m) (n3 := rr) k5 (Nat.le_refl w.heap.size)
    have r6 := Rd.fwd r5 (st4_below (n0 := s) (n1 := t) (n2 := m) (n3 := rr) (Below.refl (R + 1) _) (show R + 1 ≤ w.heap.size by omega))
    change bodyPost _ _ _ _ _ (st4 (u1.setCell ⟨v1.heap.size, 1, none⟩ (.int .i64 t)) w.heap.size (s) (t) (m) (rr))
    generalize st4 (u1.setCell ⟨v1.heap.size, 1, none⟩ (.int .i64 t)) w.heap.size (s) (t) (m) (rr) = WF at *
    exact bodyPost_ret (res4 Tryd.results38 (by rfl) h6) rfl (BondP.mk _ _ _ _ (by omega) (by omega) (by omega) (by omega) (KB.keep k6) (r6.mono (by omega)))
  · have hz0' : (z == 0) = false := by simpa using hz0
    by_cases hz1 : z = 1
    · subst hz1
      go_wp2_with fail
      refine (one_any _ _ _ (0) (2) _ _ _ (by exact intsIn_lit _ [2, 0, 1] _ _ _ _ _ _ rfl (by first | (simp; done) | (simp; omega) | omega) (by simp; try omega)) (by omega) (by omega) (by first | omega | (simp; done) | (simp; omega)) (by first | omega | (simp; omega)) (by first | exact hR | omega | (simp; done) | (simp; omega)) (by omega) (by omega) (Rd.fwd HR.out (by repeat (first | exact Below.refl _ _ | refine Below.drew ?_ | refine bel_drewN _ ?_ | refine Below.alloc ?_ (by first | omega | (simp; done) | (simp; omega)) _ | refine Below.setCell ?_ (by first | (show _ ≤ _; omega) | (simp; done) | (simp; omega)) _)))).mono ?_
      rintro e u1 ⟨t, rfl, t0, t1, k, r⟩
      have HBq : KB (w.heap.size) (R) w u1 := KB.callee (Nat.le_refl _) (by repeat (first | exact KB.refl _ _ _ | exact HB.out | refine KB.drew ?_ | refine KB.drewN ?_ | refine KB.alloc (Nat.le_refl _) ?_ _ | refine KB.setCell ?_ (by first | (show _ ≤ _; omega) | (simp; done) | (simp; omega)) _)) k
      have HB := Lib.hid HBq
      clear HBq
      have hR : R < u1.heap.size := Nat.lt_of_lt_of_le (by first | exact hR | omega | (simp; done) | (simp; omega)) k.size
      have HR := Lib.hid r
      have y0_3 : u1.cell? ⟨w.heap.size, 0, none⟩ = some (.int .i64 0) := kc k (by first | exact y0_2 | exact ca y0_2 | exact ca (ca y0_2) | exact ca (ca (ca y0_2)) | (simp; done) | go_simp) (by show w.heap.size ≠ _; omega)
      have yf0_3 : u1.frozen? ⟨w.heap.size, 0, none⟩ = false := kf k (by first | (simp; done) | (simp; omega) | (show w.heap.size < _; omega)) (by show w.heap.size ≠ _; omega) (by first | exact yf0_2 | exact fa (by show w.heap.size < _; omega) yf0_2 | exact fa (by show w.heap.size < _; simp; omega) (fa (by show w.heap.size < _; omega) yf0_2) | (simp; done) | go_simp)
      have y1_3 : u1.cell? ⟨w.heap.size, 1, none⟩ = some (.int .i64 0) := kc k (by first | exact y1_2 | exact ca y1_2 | exact ca (ca y1_2) | exact ca (ca (ca y1_2)) | (simp; done) | go_simp) (by show w.heap.size ≠ _; omega)
      have yf1_3 : u1.frozen? ⟨w.heap.size, 1, none⟩ = false := kf k (by first | (simp; done) | (simp; omega) | (show w.heap.size < _; omega)) (by show w.heap.size ≠ _; omega) (by first | exact yf1_2 | exact fa (by show w.heap.size < _; omega) yf1_2 | exact fa (by show w.heap.size < _; simp; omega) (fa (by show w.heap.size < _; omega) yf1_2) | (simp; done) | go_simp)
      have y2_3 : u1.cell? ⟨w.heap.size, 2, none⟩ = some (.int .i64 0) := kc k (by first | exact y2_2 | exact ca y2_2 | exact ca (ca y2_2) | exact ca (ca (ca y2_2)) | (simp; done) | go_simp) (by show w.heap.size ≠ _; omega)
      have yf2_3 : u1.frozen? ⟨w.heap.size, 2, none⟩ = false := kf k (by first | (simp; done) | (simp; omega) | (show w.heap.size < _; omega)) (by show w.heap.size ≠ _; omega) (by first | exact yf2_2 | exact fa (by show w.heap.size < _; omega) yf2_2 | exact fa (by show w.heap.size < _; simp; omega) (fa (by show w.heap.size < _; omega) yf2_2) | (simp; done) | go_simp)
      have y3_3 : u1.cell? ⟨w.heap.size, 3, none⟩ = some (.int .i64 0) := kc k (by first | exact y3_2 | exact ca y3_2 | exact ca (ca y3_2) | exact ca (ca (ca y3_2)) | (simp; done) | go_simp) (by show w.heap.size ≠ _; omega)
      have yf3_3 : u1.frozen? ⟨w.heap.size, 3, none⟩ = false := kf k (by first | (simp; done) | (simp; omega) | (show w.heap.size < _; omega)) (by show w.heap.size ≠ _; omega) (by first | exact yf3_2 | exact fa (by show w.heap.size < _; omega) yf3_2 | exact fa (by show w.heap.size < _; simp; omega) (fa (by show w.heap.size < _; omega) yf3_2) | (simp; done) | go_simp)
      have yl_3 : w.heap.size < u1.heap.size := cell_lt y0_3
      clear y0_2 yf0_2 y1_2 yf1_2 y2_2 yf2_2 y3_2 yf3_2 yl_2
      have s0_2 : u1.cell? ⟨v1.heap.size, 0, none⟩ = some (.int .i64 s) := kc k (by first | exact s0_1 | exact ca s0_1 | exact ca (ca s0_1) | exact ca (ca (ca s0_1)) | (simp; done) | go_simp) (by show v1.heap.size ≠ _; omega)
      have sf0_2 : u1.frozen? ⟨v1.heap.size, 0, none⟩ = false := kf k (by first | (simp; done) | (simp; omega) | (show v1.heap.size < _; omega)) (by show v1.heap.size ≠ _; omega) (by first | exact sf0_1 | exact fa (by show v1.heap.size < _; omega) sf0_1 | exact fa (by show v1.heap.size < _; simp; omega) (fa (by show v1.heap.size < _; omega) sf0_1) | (simp; done) | go_simp)
      have s1_2 : u1.cell? ⟨v1.heap.size, 1, none⟩ = some (.int .i64 x) := kc k (by first | exact s1_1 | exact ca s1_1 | exact ca (ca s1_1) | exact ca (ca (ca s1_1)) | (simp; done) | go_simp) (by show v1.heap.size ≠ _; omega)
      have sf1_2 : u1.frozen? ⟨v1.heap.size, 1, none⟩ = false := kf k (by first | (simp; done) | (simp; omega) | (show v1.heap.size < _; omega)) (by show v1.heap.size ≠ _; omega) (by first | exact sf1_1 | exact fa (by show v1.heap.size < _; omega) sf1_1 | exact fa (by show v1.heap.size < _; simp; omega) (fa (by show v1.heap.size < _; omega) sf1_1) | (simp; done) | go_simp)
      have s2_2 : u1.cell? ⟨v1.heap.size, 2, none⟩ = some (.int .i64 m) := kc k (by first | exact s2_1 | exact ca s2_1 | exact ca (ca s2_1) | exact ca (ca (ca s2_1)) | (simp; done) | go_simp) (by show v1.heap.size ≠ _; omega)
      have sf2_2 : u1.frozen? ⟨v1.heap.size, 2, none⟩ = false := kf k (by first | (simp; done) | (simp; omega) | (show v1.heap.size < _; omega)) (by show v1.heap.size ≠ _; omega) (by first | exact sf2_1 | exact fa (by show v1.heap.size < _; omega) sf2_1 | exact fa (by show v1.heap.size < _; simp; omega) (fa (by show v1.heap.size < _; omega) sf2_1) | (simp; done) | go_simp)
      have s3_2 : u1.cell? ⟨v1.heap.size, 3, none⟩ = some (.int .i64 rr) := kc k (by first | exact s3_1 | exact ca s3_1 | exact ca (ca s3_1) | exact ca (ca (ca s3_1)) | (simp; done) | go_simp) (by show v1.heap.size ≠ _; omega)
      have sf3_2 : u1.frozen? ⟨v1.heap.size, 3, none⟩ = false := kf k (by first | (simp; done) | (simp; omega) | (show v1.heap.size < _; omega)) (by show v1.heap.size ≠ _; omega) (by first | exact sf3_1 | exact fa (by show v1.heap.size < _; omega) sf3_1 | exact fa (by show v1.heap.size < _; simp; omega) (fa (by show v1.heap.size < _; omega) sf3_1) | (simp; done) | go_simp)
      have sl_2 : v1.heap.size < u1.heap.size := cell_lt s0_2
      clear s0_1 sf0_1 s1_1 sf1_1 s2_1 sf2_1 s3_1 sf3_1 sl_1
      have hszu1 := k.size
      try simp at hszu1
      clear r k
      have hne : v1.heap.size ≠ w.heap.size := by omega
      go_wp2
      have h4 : Has4 u1 w.heap.size 0 0 0 0 := ⟨by assumption, by assumption, by assumption, by assumption⟩
      have h5 : Has4 (u1.setCell ⟨v1.heap.size, 2, none⟩ (.int .i64 t)) w.heap.size 0 0 0 0 := h4.far hne
      have k5 : KB w.heap.size R w (u1.setCell ⟨v1.heap.size, 2, none⟩ (.int .i64 t)) := KB.setCell HB.out (by show w.heap.size ≤ v1.heap.size; omega) _
      have r5 := Rd.fwd HR.out (Below.setCell (Below.refl (R + 1) u1) (p := ⟨v1.heap.size, 2, none⟩) (by show R + 1 ≤ v1.heap.size; omega) (.int .i64 t))
      have h6 := h5.set (n0 := s) (n1 := x) (n2 := t) (n3 := rr)
      have k6 := st4_kb (n0 := s) (n1 := x) (n2 := t) (n3 := rr) k5 (Nat.le_refl w.heap.size)
      have r6 := Rd.fwd r5 (st4_below (n0 := s) (n1 := x) (n2 := t) (n3 := rr) (Below.refl (R + 1) _) (show R + 1 ≤ w.heap.size by omega))
      change bodyPost _ _ _ _ _ (st4 (u1.setCell ⟨v1.heap.size, 2, none⟩ (.int .i64 t)) w.heap.size (s) (x) (t) (rr))
      generalize st4 (u1.setCell ⟨v1.heap.size, 2, none⟩ (.int .i64 t)) w.heap.size (s) (x) (t) (rr) = WF at *
      exact bodyPost_ret (res4 Tryd.results38 (by rfl) h6) rfl (BondP.mk _ _ _ _ (by omega) (by omega) (by omega) (by omega) (KB.keep k6) (r6.mono (by omega)))
    · have hz1' : (z == 1) = false := by simpa using hz1
      by_cases hz2 : z = 2
      · subst hz2
        go_wp2_with fail
        refine (one_any _ _ _ (-1) (3001) _ _ _ (by exact intsIn_lit _ [-1, 3000, 3001] _ _ _ _ _ _ rfl (by first | (simp; done) | (simp; omega) | omega) (by simp; try omega)) (by omega) (by omega) (by first | omega | (simp; done) | (simp; omega)) (by first | omega | (simp; omega)) (by first | exact hR | omega | (simp; done) | (simp; omega)) (by omega) (by omega) (Rd.fwd HR.out (by repeat (first | exact Below.refl _ _ | refine Below.drew ?_ | refine bel_drewN _ ?_ | refine Below.alloc ?_ (by first | omega | (simp; done) | (simp; omega)) _ | refine Below.setCell ?_ (by first | (show _ ≤ _; omega) | (simp; done) | (simp; omega)) _)))).mono ?_
        rintro e u1 ⟨t, rfl, t0, t1, k, r⟩
        have HBq : KB (w.heap.size) (R) w u1 := KB.callee (Nat.le_refl _) (by repeat (first | exact KB.refl _ _ _ | exact HB.out | refine KB.drew ?_ | refine KB.drewN ?_ | refine KB.alloc (Nat.le_refl _) ?_ _ | refine KB.setCell ?_ (by first | (show _ ≤ _; omega) | (simp; done) | (simp; omega)) _)) k
        have HB := Lib.hid HBq
        clear HBq
        have hR : R < u1.heap.size := Nat.lt_of_lt_of_le (by first | exact hR | omega | (simp; done) | (simp; omega)) k.size
        have HR := Lib.hid r
        have y0_3 : u1.cell? ⟨w.heap.size, 0, none⟩ = some (.int .i64 0) := kc k (by first | exact y0_2 | exact ca y0_2 | exact ca (ca y0_2) | exact ca (ca (ca y0_2)) | (simp; done) | go_simp) (by show w.heap.size ≠ _; omega)
        have yf0_3 : u1.frozen? ⟨w.heap.size, 0, none⟩ = false := kf k (by first | (simp; done) | (simp; omega) | (show w.heap.size < _; omega)) (by show w.heap.size ≠ _; omega) (by first | exact yf0_2 | exact fa (by show w.heap.size < _; omega) yf0_2 | exact fa (by show w.heap.size < _; simp; omega) (fa (by show w.heap.size < _; omega) yf0_2) | (simp; done) | go_simp)
        have y1_3 : u1.cell? ⟨w.heap.size, 1, none⟩ = some (.int .i64 0) := kc k (by first | exact y1_2 | exact ca y1_2 | exact ca (ca y1_2) | exact ca (ca (ca y1_2)) | (simp; done) | go_simp) (by show w.heap.size ≠ _; omega)
        have yf1_3 : u1.frozen? ⟨w.heap.size, 1, none⟩ = false := kf k (by first | (simp; done) | (simp; omega) | (show w.heap.size < _; omega)) (by show w.heap.size ≠ _; omega) (by first | exact yf1_2 | exact fa (by show w.heap.size < _; omega) yf1_2 | exact fa (by show w.heap.size < _; simp; omega) (fa (by show w.heap.size < _; omega) yf1_2) | (simp; done) | go_simp)
        have y2_3 : u1.cell? ⟨w.heap.size, 2, none⟩ = some (.int .i64 0) := kc k (by first | exact y2_2 | exact ca y2_2 | exact ca (ca y2_2) | exact ca (ca (ca y2_2)) | (simp; done) | go_simp) (by show w.heap.size ≠ _; omega)
        have yf2_3 : u1.frozen? ⟨w.heap.size, 2, none⟩ = false := kf k (by first | (simp; done) | (simp; omega) | (show w.heap.size < _; omega)) (by show w.heap.size ≠ _; omega) (by first | exact yf2_2 | exact fa (by show w.heap.size < _; omega) yf2_2 | exact fa (by show w.heap.size < _; simp; omega) (fa (by show w.heap.size < _; omega) yf2_2) | (simp; done) | go_simp)
        have y3_3 : u1.cell? ⟨w.heap.size, 3, none⟩ = some (.int .i64 0) := kc k (by first | exact y3_2 | exact ca y3_2 | exact ca (ca y3_2) | exact ca (ca (ca y3_2)) | (simp; done) | go_simp) (by show w.heap.size ≠ _; omega)
        have yf3_3 : u1.frozen? ⟨w.heap.size, 3, none⟩ = false := kf k (by first | (simp; done) | (simp; omega) | (show w.heap.size < _; omega)) (by show w.heap.size ≠ _; omega) (by first | exact yf3_2 | exact fa (by show w.heap.size < _; omega) yf3_2 | exact fa (by show w.heap.size < _; simp; omega) (fa (by show w.heap.size < _; omega) yf3_2) | (simp; done) | go_simp)
        have yl_3 : w.heap.size < u1.heap.size := cell_lt y0_3
        clear y0_2 yf0_2 y1_2 yf1_2 y2_2 yf2_2 y3_2 yf3_2 yl_2
        have s0_2 : u1.cell? ⟨v1.heap.size, 0, none⟩ = some (.int .i64 s) := kc k (by first | exact s0_1 | exact ca s0_1 | exact ca (ca s0_1) | exact ca (ca (ca s0_1)) | (simp; done) | go_simp) (by show v1.heap.size ≠ _; omega)
        have sf0_2 : u1.frozen? ⟨v1.heap.size, 0, none⟩ = false := kf k (by first | (simp; done) | (simp; omega) | (show v1.heap.size < _; omega)) (by show v1.heap.size ≠ _; omega) (by first | exact sf0_1 | exact fa (by show v1.heap.size < _; omega) sf0_1 | exact fa (by show v1.heap.size < _; simp; omega) (fa (by show v1.heap.size < _; omega) sf0_1) | (simp; done) | go_simp)
        have s1_2 : u1.cell? ⟨v1.heap.size, 1, none⟩ = some (.int .i64 x) := kc k (by first | exact s1_1 | exact ca s1_1 | exact ca (ca s1_1) | exact ca (ca (ca s1_1)) | (simp; done) | go_simp) (by show v1.heap.size ≠ _; omega)
        have sf1_2 : u1.frozen? ⟨v1.heap.size, 1, none⟩ = false := kf k (by first | (simp; done) | (simp; omega) | (show v1.heap.size < _; omega)) (by show v1.heap.size ≠ _; omega) (by first | exact sf1_1 | exact fa (by show v1.heap.size < _; omega) sf1_1 | exact fa (by show v1.heap.size < _; simp; omega) (fa (by show v1.heap.size < _; omega) sf1_1) | (simp; done) | go_simp)
        have s2_2 : u1.cell? ⟨v1.heap.size, 2, none⟩ = some (.int .i64 m) := kc k (by first | exact s2_1 | exact ca s2_1 | exact ca (ca s2_1) | exact ca (ca (ca s2_1)) | (simp; done) | go_simp) (by show v1.heap.size ≠ _; omega)
        have sf2_2 : u1.frozen? ⟨v1.heap.size, 2, none⟩ = false := kf k (by first | (simp; done) | (simp; omega) | (show v1.heap.size < _; omega)) (by show v1.heap.size ≠ _; omega) (by first | exact sf2_1 | exact fa (by show v1.heap.size < _; omega) sf2_1 | exact fa (by show v1.heap.size < _; simp; omega) (fa (by show v1.heap.size < _; omega) sf2_1) | (simp; done) | go_simp)
        have s3_2 : u1.cell? ⟨v1.heap.size, 3, none⟩ = some (.int .i64 rr) := kc k (by first | exact s3_1 | exact ca s3_1 | exact ca (ca s3_1) | exact ca (ca (ca s3_1)) | (simp; done) | go_simp) (by show v1.heap.size ≠ _; omega)
        have sf3_2 : u1.frozen? ⟨v1.heap.size, 3, none⟩ = false := kf k (by first | (simp; done) | (simp; omega) | (show v1.heap.size < _; omega)) (by show v1.heap.size ≠ _; omega) (by first | exact sf3_1 | exact fa (by show v1.heap.size < _; omega) sf3_1 | exact fa (by show v1.heap.size < _; simp; omega) (fa (by show v1.heap.size < _; omega) sf3_1) | (simp; done) | go_simp)
        have sl_2 : v1.heap.size < u1.heap.size := cell_lt s0_2
        clear s0_1 sf0_1 s1_1 sf1_1 s2_1 sf2_1 s3_1 sf3_1 sl_1
        have hszu1 := k.size
        try simp at hszu1
        clear r k
        have hne : v1.heap.size ≠ w.heap.size := by omega
        go_wp2
        have h4 : Has4 u1 w.heap.size 0 0 0 0 := ⟨by assumption, by assumption, by assumption, by assumption⟩
        have h5 : Has4 (u1.setCell ⟨v1.heap.size, 3, none⟩ (.int .i64 t)) w.heap.size 0 0 0 0 := h4.far hne
        have k5 : KB w.heap.size R w (u1.setCell ⟨v1.heap.size, 3, none⟩ (.int .i64 t)) := KB.setCell HB.out (by show w.heap.size ≤ v1.heap.size; omega) _
        have r5 := Rd.fwd HR.out (Below.setCell (Below.refl (R + 1) u1) (p := ⟨v1.heap.size, 3, none⟩) (by show R + 1 ≤ v1.heap.size; omega) (.int .i64 t))
        have h6 := h5.set (n0 := s) (n1 := x) (n2 := m) (n3 := t)
        have k6 := st4_kb (n0 := s) (n1 := x) (n2 := m) (n3 := t) k5 (Nat.le_refl w.heap.size)
        have r6 := Rd.fwd r5 (st4_below (n0 := s) (n1 := x) (n2 := m) (n3 := t) (Below.refl (R + 1) _) (show R + 1 ≤ w.heap.size by omega))
        change bodyPost _ _ _ _ _ (st4 (u1.setCell ⟨v1.heap.size, 3, none⟩ (.int .i64 t)) w.heap.size (s) (x) (m) (t))
        generalize st4 (u1.setCell ⟨v1.heap.size, 3, none⟩ (.int .i64 t)) w.heap.size (s) (x) (m) (t) = WF at *
        exact bodyPost_ret (res4 Tryd.results38 (by rfl) h6) rfl (BondP.mk _ _ _ _ (by omega) (by omega) (by omega) (by omega) (KB.keep k6) (r6.mono (by omega)))
      · have hz2' : (z == 2) = false := by simpa using hz2
        go_wp2
        have h4 : Has4 v2 w.heap.size 0 0 0 0 := ⟨by assumption, by assumption, by assumption, by assumption⟩
        have h5 := h4
        have k5 := HB.out
        have r5 := HR.out
        have h6 := h5.set (n0 := s) (n1 := x) (n2 := m) (n3 := rr)
        have k6 := st4_kb (n0 := s) (n1 := x) (n2 := m) (n3 := rr) k5 (Nat.le_refl w.heap.size)
        have r6 := Rd.fwd r5 (st4_below (n0 := s) (n1 := x) (n2 := m) (n3 := rr) (Below.refl (R + 1) _) (show R + 1 ≤ w.heap.size by omega))
        change bodyPost _ _ _ _ _ (st4 v2 w.heap.size (s) (x) (m) (rr))
        generalize st4 v2 w.heap.size (s) (x) (m) (rr) = WF at *
        exact bodyPost_ret (res4 Tryd.results38 (by rfl) h6) rfl (BondP.mk _ _ _ _ (by omega) (by omega) (by omega) (by omega) (KB.keep k6) (r6.mono (by omega)))
def DrawBd (w : World) (e : Ending) (w' : World) : Prop :=
  ∃ s x m r : Int, e = .returned (.agg #[.int .i64 s, .int .i64 x, .int .i64 m, .int .i64 r]) ∧ (0 ≤ s ∧ s ≤ 20000) ∧ (-1 ≤ x ∧ x ≤ 36525) ∧ (0 ≤ m ∧ m ≤ 12) ∧ (-1 ≤ r ∧ r ≤ 3001) ∧ Below w.heap.size w w'
set_option maxHeartbeats 1000000 in
theorem drawValidBond_any (a : Option Addr) (len cap : Nat) (w : World) (hlc : len ≤ cap) (hc : cap ≤ maxLen) (h : IsBytes w a len) :
    Calls Tryd.prog 16 #[.slice a len cap] w (DrawBd w) := by
  have H := Lib.hid h
  clear h
  go_enter Tryd.func16, Tryd.ntmps16
  go_wp2_with fail
  refine (newReader_any _ _ _ _ hlc hc (by repeat (first | exact H.out | refine IsBytes.alloc ?_ _))).mono ?_
  rintro e v1 ⟨rfl, hb, hrd, hszv1⟩
  try simp at hszv1
  replace hszv1 : w.heap.size + 1 + 1 ≤ v1.heap.size := by omega
  have hR : w.heap.size + 1 < v1.heap.size := by omega
  have hrdq : Rd v1 (w.heap.size + 1) 0 := by simpa using hrd
  have HR := Lib.hid hrdq
  have HBq : KB (w.heap.size) (w.heap.size + 1) w v1 := KB.quiet (Nat.le_refl _) (by repeat (first | exact KB.refl _ _ _ | exact HB.out | refine KB.drew ?_ | refine KB.drewN ?_ | refine KB.alloc (Nat.le_refl _) ?_ _ | refine KB.setCell ?_ (by first | (show _ ≤ _; omega) | (simp; done) | (simp; omega)) _)) hb
  have HB := Lib.hid HBq
  have c0_1 : v1.cell? ⟨w.heap.size, 0, none⟩ = some (.int .i64 0) := bc hb (by first | (simp; done) | go_simp)
  have cf0_1 : v1.frozen? ⟨w.heap.size, 0, none⟩ = false := bf hb (by first | (simp; done) | (simp; omega) | (show w.heap.size < _; omega)) (by first | (simp; done) | go_simp)
  have c1_1 : v1.cell? ⟨w.heap.size, 1, none⟩ = some (.int .i64 0) := bc hb (by first | (simp; done) | go_simp)
  have cf1_1 : v1.frozen? ⟨w.heap.size, 1, none⟩ = false := bf hb (by first | (simp; done) | (simp; omega) | (show w.heap.size < _; omega)) (by first | (simp; done) | go_simp)
  have c2_1 : v1.cell? ⟨w.heap.size, 2, none⟩ = some (.int .i64 0) := bc hb (by first | (simp; done) | go_simp)
  have cf2_1 : v1.frozen? ⟨w.heap.size, 2, none⟩ = false := bf hb (by first | (simp; done) | (simp; omega) | (show w.heap.size < _; omega)) (by first | (simp; done) | go_simp)
  have c3_1 : v1.cell? ⟨w.heap.size, 3, none⟩ = some (.int .i64 0) := bc hb (by first | (simp; done) | go_simp)
  have cf3_1 : v1.frozen? ⟨w.heap.size, 3, none⟩ = false := bf hb (by first | (simp; done) | (simp; omega) | (show w.heap.size < _; omega)) (by first | (simp; done) | go_simp)
  have cl_1 : w.heap.size < v1.heap.size := cell_lt c0_1
  clear hrd hrdq HBq hb
  go_wp2_with fail
  refine (anyBond_any _ _ _ (by first | exact hR | omega | (simp; done) | (simp; omega)) (by omega) (by omega) (Rd.fwd HR.out (by repeat (first | exact Below.refl _ _ | refine Below.drew ?_ | refine bel_drewN _ ?_ | refine Below.alloc ?_ (by first | omega | (simp; done) | (simp; omega)) _ | refine Below.setCell ?_ (by first | (show _ ≤ _; omega) | (simp; done) | (simp; omega)) _)))).mono ?_
  rintro e v2 ⟨n1, n2, n3, n4, rfl, h1, h2, h3, h4, k, r⟩
  have HBq : KB (w.heap.size) (w.heap.size + 1) w v2 := KB.callee (Nat.le_refl _) (by repeat (first | exact KB.refl _ _ _ | exact HB.out | refine KB.drew ?_ | refine KB.drewN ?_ | refine KB.alloc (Nat.le_refl _) ?_ _ | refine KB.setCell ?_ (by first | (show _ ≤ _; omega) | (simp; done) | (simp; omega)) _)) k
  have HB := Lib.hid HBq
  clear HBq
  have hR : w.heap.size + 1 < v2.heap.size := Nat.lt_of_lt_of_le (by first | exact hR | omega | (simp; done) | (simp; omega)) k.size
  have HR := Lib.hid r
  have c0_2 : v2.cell? ⟨w.heap.size, 0, none⟩ = some (.int .i64 0) := kc k (by first | exact c0_1 | exact ca c0_1 | exact ca (ca c0_1) | exact ca (ca (ca c0_1)) | (simp; done) | go_simp) (by show w.heap.size ≠ _; omega)
  have cf0_2 : v2.frozen? ⟨w.heap.size, 0, none⟩ = false := kf k (by first | (simp; done) | (simp; omega) | (show w.heap.size < _; omega)) (by show w.heap.size ≠ _; omega) (by first | exact cf0_1 | exact fa (by show w.heap.size < _; omega) cf0_1 | exact fa (by show w.heap.size < _; simp; omega) (fa (by show w.heap.size < _; omega) cf0_1) | (simp; done) | go_simp)
  have c1_2 : v2.cell? ⟨w.heap.size, 1, none⟩ = some (.int .i64 0) := kc k (by first | exact c1_1 | exact ca c1_1 | exact ca (ca c1_1) | exact ca (ca (ca c1_1)) | (simp; done) | go_simp) (by show w.heap.size ≠ _; omega)
  have cf1_2 : v2.frozen? ⟨w.heap.size, 1, none⟩ = false := kf k (by first | (simp; done) | (simp; omega) | (show w.heap.size < _; omega)) (by show w.heap.size ≠ _; omega) (by first | exact cf1_1 | exact fa (by show w.heap.size < _; omega) cf1_1 | exact fa (by show w.heap.size < _; simp; omega) (fa (by show w.heap.size < _; omega) cf1_1) | (simp; done) | go_simp)
  have c2_2 : v2.cell? ⟨w.heap.size, 2, none⟩ = some (.int .i64 0) := kc k (by first | exact c2_1 | exact ca c2_1 | exact ca (ca c2_1) | exact ca (ca (ca c2_1)) | (simp; done) | go_simp) (by show w.heap.size ≠ _; omega)
  have cf2_2 : v2.frozen? ⟨w.heap.size, 2, none⟩ = false := kf k (by first | (simp; done) | (simp; omega) | (show w.heap.size < _; omega)) (by show w.heap.size ≠ _; omega) (by first | exact cf2_1 | exact fa (by show w.heap.size < _; omega) cf2_1 | exact fa (by show w.heap.size < _; simp; omega) (fa (by show w.heap.size < _; omega) cf2_1) | (simp; done) | go_simp)
  have c3_2 : v2.cell? ⟨w.heap.size, 3, none⟩ = some (.int .i64 0) := kc k (by first | exact c3_1 | exact ca c3_1 | exact ca (ca c3_1) | exact ca (ca (ca c3_1)) | (simp; done) | go_simp) (by show w.heap.size ≠ _; omega)
  have cf3_2 : v2.frozen? ⟨w.heap.size, 3, none⟩ = false := kf k (by first | (simp; done) | (simp; omega) | (show w.heap.size < _; omega)) (by show w.heap.size ≠ _; omega) (by first | exact cf3_1 | exact fa (by show w.heap.size < _; omega) cf3_1 | exact fa (by show w.heap.size < _; simp; omega) (fa (by show w.heap.size < _; omega) cf3_1) | (simp; done) | go_simp)
  have cl_2 : w.heap.size < v2.heap.size := cell_lt c0_2
  clear c0_1 cf0_1 c1_1 cf1_1 c2_1 cf2_1 c3_1 cf3_1 cl_1
  have hszv2 := k.size
  try simp at hszv2
  clear r k
  go_wp2
  exact bodyPost_ret (v := .agg #[.int .i64 n1, .int .i64 n2, .int .i64 n3, .int .i64 n4]) (by simp [results, Tryd.results16, go_sem, *]) rfl ⟨_, _, _, _, rfl, h1, h2, h3, h4, KB.below (R := w.heap.size + 1) (by repeat (first | exact KB.refl _ _ _ | exact HB.out | refine KB.drew ?_ | refine KB.drewN ?_ | refine KB.alloc (Nat.le_refl _) ?_ _ | refine KB.setCell ?_ (by first | (show _ ≤ _; omega) | (simp; done) | (simp; omega)) _)) (by omega)⟩
set_option maxHeartbeats 1000000 in
theorem drawFlowsOf_any (a : Option Addr) (len cap : Nat) (w : World) (hlc : len ≤ cap) (hc : cap ≤ maxLen) (h : IsBytes w a len) :
    Calls Tryd.prog 28 #[.slice a len cap] w (DrawBd w) := by
  have H := Lib.hid h
  clear h
  go_enter Tryd.func28, Tryd.ntmps28
  go_wp2_with fail
  refine (newReader_any _ _ _ _ hlc hc (by repeat (first | exact H.out | refine IsBytes.alloc ?_ _))).mono ?_
  rintro e v1 ⟨rfl, hb, hrd, hszv1⟩
  try simp at hszv1
  replace hszv1 : w.heap.size + 1 + 1 ≤ v1.heap.size := by omega
  have hR : w.heap.size + 1 < v1.heap.size := by omega
  have hrdq : Rd v1 (w.heap.size + 1) 0 := by simpa using hrd
  have HR := Lib.hid hrdq
  have HBq : KB (w.heap.size) (w.heap.size + 1) w v1 := KB.quiet (Nat.le_refl _) (by repeat (first | exact KB.refl _ _ _ | exact HB.out | refine KB.drew ?_ | refine KB.drewN ?_ | refine KB.alloc (Nat.le_refl _) ?_ _ | refine KB.setCell ?_ (by first | (show _ ≤ _; omega) | (simp; done) | (simp; omega)) _)) hb
  have HB := Lib.hid HBq
  have c0_1 : v1.cell? ⟨w.heap.size, 0, none⟩ = some (.int .i64 0) := bc hb (by first | (simp; done) | go_simp)
  have cf0_1 : v1.frozen? ⟨w.heap.size, 0, none⟩ = false := bf hb (by first | (simp; done) | (simp; omega) | (show w.heap.size < _; omega)) (by first | (simp; done) | go_simp)
  have c1_1 : v1.cell? ⟨w.heap.size, 1, none⟩ = some (.int .i64 0) := bc hb (by first | (simp; done) | go_simp)
  have cf1_1 : v1.frozen? ⟨w.heap.size, 1, none⟩ = false := bf hb (by first | (simp; done) | (simp; omega) | (show w.heap.size < _; omega)) (by first | (simp; done) | go_simp)
  have c2_1 : v1.cell? ⟨w.heap.size, 2, none⟩ = some (.int .i64 0) := bc hb (by first | (simp; done) | go_simp)
  have cf2_1 : v1.frozen? ⟨w.heap.size, 2, none⟩ = false := bf hb (by first | (simp; done) | (simp; omega) | (show w.heap.size < _; omega)) (by first | (simp; done) | go_simp)
  have c3_1 : v1.cell? ⟨w.heap.size, 3, none⟩ = some (.int .i64 0) := bc hb (by first | (simp; done) | go_simp)
  have cf3_1 : v1.frozen? ⟨w.heap.size, 3, none⟩ = false := bf hb (by first | (simp; done) | (simp; omega) | (show w.heap.size < _; omega)) (by first | (simp; done) | go_simp)
  have cl_1 : w.heap.size < v1.heap.size := cell_lt c0_1
  clear hrd hrdq HBq hb
  go_wp2_with fail
  refine (anyBond_any _ _ _ (by first | exact hR | omega | (simp; done) | (simp; omega)) (by omega) (by omega) (Rd.fwd HR.out (by repeat (first | exact Below.refl _ _ | refine Below.drew ?_ | refine bel_drewN _ ?_ | refine Below.alloc ?_ (by first | omega | (simp; done) | (simp; omega)) _ | refine Below.setCell ?_ (by first | (show _ ≤ _; omega) | (simp; done) | (simp; omega)) _)))).mono ?_
  rintro e v2 ⟨n1, n2, n3, n4, rfl, h1, h2, h3, h4, k, r⟩
  have HBq : KB (w.heap.size) (w.heap.size + 1) w v2 := KB.callee (Nat.le_refl _) (by repeat (first | exact KB.refl _ _ _ | exact HB.out | refine KB.drew ?_ | refine KB.drewN ?_ | refine KB.alloc (Nat.le_refl _) ?_ _ | refine KB.setCell ?_ (by first | (show _ ≤ _; omega) | (simp; done) | (simp; omega)) _)) k
  have HB := Lib.hid HBq
  clear HBq
  have hR : w.heap.size + 1 < v2.heap.size := Nat.lt_of_lt_of_le (by first | exact hR | omega | (simp; done) | (simp; omega)) k.size
  have HR := Lib.hid r
  have c0_2 : v2.cell? ⟨w.heap.size, 0, none⟩ = some (.int .i64 0) := kc k (by first | exact c0_1 | exact ca c0_1 | exact ca (ca c0_1) | exact ca (ca (ca c0_1)) | (simp; done) | go_simp) (by show w.heap.size ≠ _; omega)
  have cf0_2 : v2.frozen? ⟨w.heap.size, 0, none⟩ = false := kf k (by first | (simp; done) | (simp; omega) | (show w.heap.size < _; omega)) (by show w.heap.size ≠ _; omega) (by first | exact cf0_1 | exact fa (by show w.heap.size < _; omega) cf0_1 | exact fa (by show w.heap.size < _; simp; omega) (fa (by show w.heap.size < _; omega) cf0_1) | (simp; done) | go_simp)
  have c1_2 : v2.cell? ⟨w.heap.size, 1, none⟩ = some (.int .i64 0) := kc k (by first | exact c1_1 | exact ca c1_1 | exact ca (ca c1_1) | exact ca (ca (ca c1_1)) | (simp; done) | go_simp) (by show w.heap.size ≠ _; omega)
  have cf1_2 : v2.frozen? ⟨w.heap.size, 1, none⟩ = false := kf k (by first | (simp; done) | (simp; omega) | (show w.heap.size < _; omega)) (by show w.heap.size ≠ _; omega) (by first | exact cf1_1 | exact fa (by show w.heap.size < _; omega) cf1_1 | exact fa (by show w.heap.size < _; simp; omega) (fa (by show w.heap.size < _; omega) cf1_1) | (simp; done) | go_simp)
  have c2_2 : v2.cell? ⟨w.heap.size, 2, none⟩ = some (.int .i64 0) := kc k (by first | exact c2_1 | exact ca c2_1 | exact ca (ca c2_1) | exact ca (ca (ca c2_1)) | (simp; done) | go_simp) (by show w.heap.size ≠ _; omega)
  have cf2_2 : v2.frozen? ⟨w.heap.size, 2, none⟩ = false := kf k (by first | (simp; done) | (simp; omega) | (show w.heap.size < _; omega)) (by show w.heap.size ≠ _; omega) (by first | exact cf2_1 | exact fa (by show w.heap.size < _; omega) cf2_1 | exact fa (by show w.heap.size < _; simp; omega) (fa (by show w.heap.size < _; omega) cf2_1) | (simp; done) | go_simp)
  have c3_2 : v2.cell? ⟨w.heap.size, 3, none⟩ = some (.int .i64 0) := kc k (by first | exact c3_1 | exact ca c3_1 | exact ca (ca c3_1) | exact ca (ca (ca c3_1)) | (simp; done) | go_simp) (by show w.heap.size ≠ _; omega)
  have cf3_2 : v2.frozen? ⟨w.heap.size, 3, none⟩ = false := kf k (by first | (simp; done) | (simp; omega) | (show w.heap.size < _; omega)) (by show w.heap.size ≠ _; omega) (by first | exact cf3_1 | exact fa (by show w.heap.size < _; omega) cf3_1 | exact fa (by show w.heap.size < _; simp; omega) (fa (by show w.heap.size < _; omega) cf3_1) | (simp; done) | go_simp)
  have cl_2 : w.heap.size < v2.heap.size := cell_lt c0_2
  clear c0_1 cf0_1 c1_1 cf1_1 c2_1 cf2_1 c3_1 cf3_1 cl_1
  have hszv2 := k.size
  try simp at hszv2
  clear r k
  go_wp2
  exact bodyPost_ret (v := .agg #[.int .i64 n1, .int .i64 n2, .int .i64 n3, .int .i64 n4]) (by simp [results, Tryd.results28, go_sem, *]) rfl ⟨_, _, _, _, rfl, h1, h2, h3, h4, KB.below (R := w.heap.size + 1) (by repeat (first | exact KB.refl _ _ _ | exact HB.out | refine KB.drew ?_ | refine KB.drewN ?_ | refine KB.alloc (Nat.le_refl _) ?_ _ | refine KB.setCell ?_ (by first | (show _ ≤ _; omega) | (simp; done) | (simp; omega)) _)) (by omega)⟩
set_option maxHeartbeats 1000000 in
theorem drawTotalOf_any (a : Option Addr) (len cap : Nat) (w : World) (hlc : len ≤ cap) (hc : cap ≤ maxLen) (h : IsBytes w a len) :
    Calls Tryd.prog 30 #[.slice a len cap] w (DrawBd w) := by
  have H := Lib.hid h
  clear h
  go_enter Tryd.func30, Tryd.ntmps30
  go_wp2_with fail
  refine (newReader_any _ _ _ _ hlc hc (by repeat (first | exact H.out | refine IsBytes.alloc ?_ _))).mono ?_
  rintro e v1 ⟨rfl, hb, hrd, hszv1⟩
  try simp at hszv1
  replace hszv1 : w.heap.size + 1 + 1 ≤ v1.heap.size := by omega
  have hR : w.heap.size + 1 < v1.heap.size := by omega
  have hrdq : Rd v1 (w.heap.size + 1) 0 := by simpa using hrd
  have HR := Lib.hid hrdq
  have HBq : KB (w.heap.size) (w.heap.size + 1) w v1 := KB.quiet (Nat.le_refl _) (by repeat (first | exact KB.refl _ _ _ | exact HB.out | refine KB.drew ?_ | refine KB.drewN ?_ | refine KB.alloc (Nat.le_refl _) ?_ _ | refine KB.setCell ?_ (by first | (show _ ≤ _; omega) | (simp; done) | (simp; omega)) _)) hb
  have HB := Lib.hid HBq
  have c0_1 : v1.cell? ⟨w.heap.size, 0, none⟩ = some (.int .i64 0) := bc hb (by first | (simp; done) | go_simp)
  have cf0_1 : v1.frozen? ⟨w.heap.size, 0, none⟩ = false := bf hb (by first | (simp; done) | (simp; omega) | (show w.heap.size < _; omega)) (by first | (simp; done) | go_simp)
  have c1_1 : v1.cell? ⟨w.heap.size, 1, none⟩ = some (.int .i64 0) := bc hb (by first | (simp; done) | go_simp)
  have cf1_1 : v1.frozen? ⟨w.heap.size, 1, none⟩ = false := bf hb (by first | (simp; done) | (simp; omega) | (show w.heap.size < _; omega)) (by first | (simp; done) | go_simp)
  have c2_1 : v1.cell? ⟨w.heap.size, 2, none⟩ = some (.int .i64 0) := bc hb (by first | (simp; done) | go_simp)
  have cf2_1 : v1.frozen? ⟨w.heap.size, 2, none⟩ = false := bf hb (by first | (simp; done) | (simp; omega) | (show w.heap.size < _; omega)) (by first | (simp; done) | go_simp)
  have c3_1 : v1.cell? ⟨w.heap.size, 3, none⟩ = some (.int .i64 0) := bc hb (by first | (simp; done) | go_simp)
  have cf3_1 : v1.frozen? ⟨w.heap.size, 3, none⟩ = false := bf hb (by first | (simp; done) | (simp; omega) | (show w.heap.size < _; omega)) (by first | (simp; done) | go_simp)
  have cl_1 : w.heap.size < v1.heap.size := cell_lt c0_1
  clear hrd hrdq HBq hb
  go_wp2_with fail
  refine (anyBond_any _ _ _ (by first | exact hR | omega | (simp; done) | (simp; omega)) (by omega) (by omega) (Rd.fwd HR.out (by repeat (first | exact Below.refl _ _ | refine Below.drew ?_ | refine bel_drewN _ ?_ | refine Below.alloc ?_ (by first | omega | (simp; done) | (simp; omega)) _ | refine Below.setCell ?_ (by first | (show _ ≤ _; omega) | (simp; done) | (simp; omega)) _)))).mono ?_
  rintro e v2 ⟨n1, n2, n3, n4, rfl, h1, h2, h3, h4, k, r⟩
  have HBq : KB (w.heap.size) (w.heap.size + 1) w v2 := KB.callee (Nat.le_refl _) (by repeat (first | exact KB.refl _ _ _ | exact HB.out | refine KB.drew ?_ | refine KB.drewN ?_ | refine KB.alloc (Nat.le_refl _) ?_ _ | refine KB.setCell ?_ (by first | (show _ ≤ _; omega) | (simp; done) | (simp; omega)) _)) k
  have HB := Lib.hid HBq
  clear HBq
  have hR : w.heap.size + 1 < v2.heap.size := Nat.lt_of_lt_of_le (by first | exact hR | omega | (simp; done) | (simp; omega)) k.size
  have HR := Lib.hid r
  have c0_2 : v2.cell? ⟨w.heap.size, 0, none⟩ = some (.int .i64 0) := kc k (by first | exact c0_1 | exact ca c0_1 | exact ca (ca c0_1) | exact ca (ca (ca c0_1)) | (simp; done) | go_simp) (by show w.heap.size ≠ _; omega)
  have cf0_2 : v2.frozen? ⟨w.heap.size, 0, none⟩ = false := kf k (by first | (simp; done) | (simp; omega) | (show w.heap.size < _; omega)) (by show w.heap.size ≠ _; omega) (by first | exact cf0_1 | exact fa (by show w.heap.size < _; omega) cf0_1 | exact fa (by show w.heap.size < _; simp; omega) (fa (by show w.heap.size < _; omega) cf0_1) | (simp; done) | go_simp)
  have c1_2 : v2.cell? ⟨w.heap.size, 1, none⟩ = some (.int .i64 0) := kc k (by first | exact c1_1 | exact ca c1_1 | exact ca (ca c1_1) | exact ca (ca (ca c1_1)) | (simp; done) | go_simp) (by show w.heap.size ≠ _; omega)
  have cf1_2 : v2.frozen? ⟨w.heap.size, 1, none⟩ = false := kf k (by first | (simp; done) | (simp; omega) | (show w.heap.size < _; omega)) (by show w.heap.size ≠ _; omega) (by first | exact cf1_1 | exact fa (by show w.heap.size < _; omega) cf1_1 | exact fa (by show w.heap.size < _; simp; omega) (fa (by show w.heap.size < _; omega) cf1_1) | (simp; done) | go_simp)
  have c2_2 : v2.cell? ⟨w.heap.size, 2, none⟩ = some (.int .i64 0) := kc k (by first | exact c2_1 | exact ca c2_1 | exact ca (ca c2_1) | exact ca (ca (ca c2_1)) | (simp; done) | go_simp) (by show w.heap.size ≠ _; omega)
  have cf2_2 : v2.frozen? ⟨w.heap.size, 2, none⟩ = false := kf k (by first | (simp; done) | (simp; omega) | (show w.heap.size < _; omega)) (by show w.heap.size ≠ _; omega) (by first | exact cf2_1 | exact fa (by show w.heap.size < _; omega) cf2_1 | exact fa (by show w.heap.size < _; simp; omega) (fa (by show w.heap.size < _; omega) cf2_1) | (simp; done) | go_simp)
  have c3_2 : v2.cell? ⟨w.heap.size, 3, none⟩ = some (.int .i64 0) := kc k (by first | exact c3_1 | exact ca c3_1 | exact ca (ca c3_1) | exact ca (ca (ca c3_1)) | (simp; done) | go_simp) (by show w.heap.size ≠ _; omega)
  have cf3_2 : v2.frozen? ⟨w.heap.size, 3, none⟩ = false := kf k (by first | (simp; done) | (simp; omega) | (show w.heap.size < _; omega)) (by show w.heap.size ≠ _; omega) (by first | exact cf3_1 | exact fa (by show w.heap.size < _; omega) cf3_1 | exact fa (by show w.heap.size < _; simp; omega) (fa (by show w.heap.size < _; omega) cf3_1) | (simp; done) | go_simp)
  have cl_2 : w.heap.size < v2.heap.size := cell_lt c0_2
  clear c0_1 cf0_1 c1_1 cf1_1 c2_1 cf2_1 c3_1 cf3_1 cl_1
  have hszv2 := k.size
  try simp at hszv2
  clear r k
  go_wp2
  exact bodyPost_ret (v := .agg #[.int .i64 n1, .int .i64 n2, .int .i64 n3, .int .i64 n4]) (by simp [results, Tryd.results30, go_sem, *]) rfl ⟨_, _, _, _, rfl, h1, h2, h3, h4, KB.below (R := w.heap.size + 1) (by repeat (first | exact KB.refl _ _ _ | exact HB.out | refine KB.drew ?_ | refine KB.drewN ?_ | refine KB.alloc (Nat.le_refl _) ?_ _ | refine KB.setCell ?_ (by first | (show _ ≤ _; omega) | (simp; done) | (simp; omega)) _)) (by omega)⟩
end Go.Proofs.YtoidghdgebdfaaaDoor
