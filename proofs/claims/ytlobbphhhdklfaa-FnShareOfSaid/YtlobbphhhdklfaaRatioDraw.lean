/- The draws of ratios. -/
import Derived.Test.YtlobbphhhdklfaaRatio5
import Derived.Test.YtlobbphhhdklfaaReader3
namespace Go.Proofs.Ytlobbphhhdklfaa
open Go.RowKit
set_option linter.unusedVariables false
def AnyRatPost (R : Nat) (K : Int) (w : World) (e : Ending) (w' : World) : Prop :=
  ∃ n d : Int, e = .returned (.agg #[.int .i64 n, .int .i64 d]) ∧ Keep R w w' ∧ Rd w' R (K + 5)
set_option maxHeartbeats 2000000 in
theorem anyRatio_any (R : Nat) (K : Int) (w : World) (hR : R < w.heap.size) (hK : 0 ≤ K) (hK' : K ≤ 1000000) (hrd : Rd w R K) :
    Calls Try.prog 27 #[.pointer (some ⟨R, 0, none⟩)] w (AnyRatPost R K w) := by
  have hRw := hR
  have HR := Lib.hid hrd
  clear hrd
  have HB := Lib.hid (KB.refl w.heap.size R w)
  go_enter Try.func27, Try.ntmps27
  go_wp2_with fail
  refine (pick_any _ _ _ _ (by first | exact hR | omega | (simp; done) | (simp; omega)) (by omega) (by omega) (by omega) (by omega) (Rd.fwd HR.out (by repeat (first | exact Below.refl _ _ | refine Below.drew ?_ | refine bel_drewN _ ?_ | refine Below.alloc ?_ (by first | omega | (simp; done) | (simp; omega)) _ | refine Below.setCell ?_ (by first | (show _ ≤ _; omega) | (simp; done) | (simp; omega)) _)))).mono ?_
  rintro e w1 ⟨x, rfl, x0, x1, k, r⟩
  have x2 : x ≤ 59 := by omega
  clear x1
  have HBq : KB (w.heap.size) (R) w w1 := KB.callee (Nat.le_refl _) (by repeat (first | exact KB.refl _ _ _ | exact HB.out | refine KB.drew ?_ | refine KB.drewN ?_ | refine KB.alloc (Nat.le_refl _) ?_ _ | refine KB.setCell ?_ (by first | (show _ ≤ _; omega) | (simp; done) | (simp; omega)) _)) k
  have HB := Lib.hid HBq
  clear HBq
  have hR : R < w1.heap.size := Nat.lt_of_lt_of_le (by first | exact hR | omega | (simp; done) | (simp; omega)) k.size
  have HR := Lib.hid r
  have a0_1 : w1.cell? ⟨w.heap.size, 0, none⟩ = some (.int .i64 0) := kc k (by first | (simp; done) | go_simp) (by show w.heap.size ≠ _; omega)
  have af0_1 : w1.frozen? ⟨w.heap.size, 0, none⟩ = false := kf k (by first | (simp; done) | (simp; omega) | (show w.heap.size < _; omega)) (by show w.heap.size ≠ _; omega) (by first | (simp; done) | go_simp)
  have a1_1 : w1.cell? ⟨w.heap.size, 1, none⟩ = some (.int .i64 0) := kc k (by first | (simp; done) | go_simp) (by show w.heap.size ≠ _; omega)
  have af1_1 : w1.frozen? ⟨w.heap.size, 1, none⟩ = false := kf k (by first | (simp; done) | (simp; omega) | (show w.heap.size < _; omega)) (by show w.heap.size ≠ _; omega) (by first | (simp; done) | go_simp)
  have al_1 : w.heap.size < w1.heap.size := cell_lt a0_1
  have hszw1 := k.size
  try simp at hszw1
  clear r k
  go_wp2_with fail
  refine (pick_any _ _ _ _ (by first | exact hR | omega | (simp; done) | (simp; omega)) (by omega) (by omega) (by omega) (by omega) (Rd.fwd HR.out (by repeat (first | exact Below.refl _ _ | refine Below.drew ?_ | refine bel_drewN _ ?_ | refine Below.alloc ?_ (by first | omega | (simp; done) | (simp; omega)) _ | refine Below.setCell ?_ (by first | (show _ ≤ _; omega) | (simp; done) | (simp; omega)) _)))).mono ?_
  rintro e w2 ⟨y, rfl, y0, y1, k, r⟩
  have y2 : y ≤ 39 := by omega
  clear y1
  have HBq : KB (w.heap.size) (R) w w2 := KB.callee (Nat.le_refl _) (by repeat (first | exact KB.refl _ _ _ | exact HB.out | refine KB.drew ?_ | refine KB.drewN ?_ | refine KB.alloc (Nat.le_refl _) ?_ _ | refine KB.setCell ?_ (by first | (show _ ≤ _; omega) | (simp; done) | (simp; omega)) _)) k
  have HB := Lib.hid HBq
  clear HBq
  have hR : R < w2.heap.size := Nat.lt_of_lt_of_le (by first | exact hR | omega | (simp; done) | (simp; omega)) k.size
  have HR := Lib.hid r
  have a0_2 : w2.cell? ⟨w.heap.size, 0, none⟩ = some (.int .i64 0) := kc k (by first | exact a0_1 | exact ca a0_1 | exact ca (ca a0_1) | exact ca (ca (ca a0_1)) | (simp; done) | go_simp) (by show w.heap.size ≠ _; omega)
  have af0_2 : w2.frozen? ⟨w.heap.size, 0, none⟩ = false := kf k (by first | (simp; done) | (simp; omega) | (show w.heap.size < _; omega)) (by show w.heap.size ≠ _; omega) (by first | exact af0_1 | exact fa (by show w.heap.size < _; omega) af0_1 | exact fa (by show w.heap.size < _; simp; omega) (fa (by show w.heap.size < _; omega) af0_1) | (simp; done) | go_simp)
  have a1_2 : w2.cell? ⟨w.heap.size, 1, none⟩ = some (.int .i64 0) := kc k (by first | exact a1_1 | exact ca a1_1 | exact ca (ca a1_1) | exact ca (ca (ca a1_1)) | (simp; done) | go_simp) (by show w.heap.size ≠ _; omega)
  have af1_2 : w2.frozen? ⟨w.heap.size, 1, none⟩ = false := kf k (by first | (simp; done) | (simp; omega) | (show w.heap.size < _; omega)) (by show w.heap.size ≠ _; omega) (by first | exact af1_1 | exact fa (by show w.heap.size < _; omega) af1_1 | exact fa (by show w.heap.size < _; simp; omega) (fa (by show w.heap.size < _; omega) af1_1) | (simp; done) | go_simp)
  have al_2 : w.heap.size < w2.heap.size := cell_lt a0_2
  clear a0_1 af0_1 a1_1 af1_1 al_1
  have hszw2 := k.size
  try simp at hszw2
  clear r k
  go_wp2_with fail
  refine (lowestS_any _ _ _ (by omega) (by omega) (by omega) (by omega)).mono ?_
  rintro e w3 ⟨rfl, hb⟩
  have HR := Lib.hid (Rd.fwd HR.out (Below.trans (by repeat (first | exact Below.refl _ _ | refine Below.drew ?_ | refine bel_drewN _ ?_ | refine Below.alloc ?_ (by first | omega | (simp; done) | (simp; omega)) _ | refine Below.setCell ?_ (by first | (show _ ≤ _; omega) | (simp; done) | (simp; omega)) _)) (hb.mono (by first | exact hR | omega | (simp; done) | (simp; omega)))))
  have HBq : KB (w.heap.size) (R) w w3 := KB.quiet (Nat.le_refl _) (by repeat (first | exact KB.refl _ _ _ | exact HB.out | refine KB.drew ?_ | refine KB.drewN ?_ | refine KB.alloc (Nat.le_refl _) ?_ _ | refine KB.setCell ?_ (by first | (show _ ≤ _; omega) | (simp; done) | (simp; omega)) _)) hb
  have HB := Lib.hid HBq
  clear HBq
  have hR := Nat.lt_of_lt_of_le (show _ < _ from by first | exact hR | omega | (simp; done) | (simp; omega)) hb.size
  have a0_3 : w3.cell? ⟨w.heap.size, 0, none⟩ = some (.int .i64 0) := bc hb (by first | exact a0_2 | exact ca a0_2 | exact ca (ca a0_2) | exact ca (ca (ca a0_2)) | (simp; done) | go_simp)
  have af0_3 : w3.frozen? ⟨w.heap.size, 0, none⟩ = false := bf hb (by first | (simp; done) | (simp; omega) | (show w.heap.size < _; omega)) (by first | exact af0_2 | exact fa (by show w.heap.size < _; omega) af0_2 | exact fa (by show w.heap.size < _; simp; omega) (fa (by show w.heap.size < _; omega) af0_2) | (simp; done) | go_simp)
  have a1_3 : w3.cell? ⟨w.heap.size, 1, none⟩ = some (.int .i64 0) := bc hb (by first | exact a1_2 | exact ca a1_2 | exact ca (ca a1_2) | exact ca (ca (ca a1_2)) | (simp; done) | go_simp)
  have af1_3 : w3.frozen? ⟨w.heap.size, 1, none⟩ = false := bf hb (by first | (simp; done) | (simp; omega) | (show w.heap.size < _; omega)) (by first | exact af1_2 | exact fa (by show w.heap.size < _; omega) af1_2 | exact fa (by show w.heap.size < _; simp; omega) (fa (by show w.heap.size < _; omega) af1_2) | (simp; done) | go_simp)
  have al_3 : w.heap.size < w3.heap.size := cell_lt a0_3
  clear a0_2 af0_2 a1_2 af1_2 al_2
  have z3 := below_size hb
  try simp at z3
  go_wp2_with fail
  refine (pick_any _ _ _ _ (by first | exact hR | omega | (simp; done) | (simp; omega)) (by omega) (by omega) (by omega) (by omega) (Rd.fwd HR.out (by repeat (first | exact Below.refl _ _ | refine Below.drew ?_ | refine bel_drewN _ ?_ | refine Below.alloc ?_ (by first | omega | (simp; done) | (simp; omega)) _ | refine Below.setCell ?_ (by first | (show _ ≤ _; omega) | (simp; done) | (simp; omega)) _)))).mono ?_
  rintro e w4 ⟨z, rfl, z0, z1, k, r⟩
  have z2 : z ≤ 23 := by omega
  clear z1
  have HBq : KB (w.heap.size) (R) w w4 := KB.callee (Nat.le_refl _) (by repeat (first | exact KB.refl _ _ _ | exact HB.out | refine KB.drew ?_ | refine KB.drewN ?_ | refine KB.alloc (Nat.le_refl _) ?_ _ | refine KB.setCell ?_ (by first | (show _ ≤ _; omega) | (simp; done) | (simp; omega)) _)) k
  have HB := Lib.hid HBq
  clear HBq
  have hR : R < w4.heap.size := Nat.lt_of_lt_of_le (by first | exact hR | omega | (simp; done) | (simp; omega)) k.size
  have HR := Lib.hid r
  have a0_4 : w4.cell? ⟨w.heap.size, 0, none⟩ = some (.int .i64 0) := kc k (by first | exact a0_3 | exact ca a0_3 | exact ca (ca a0_3) | exact ca (ca (ca a0_3)) | (simp; done) | go_simp) (by show w.heap.size ≠ _; omega)
  have af0_4 : w4.frozen? ⟨w.heap.size, 0, none⟩ = false := kf k (by first | (simp; done) | (simp; omega) | (show w.heap.size < _; omega)) (by show w.heap.size ≠ _; omega) (by first | exact af0_3 | exact fa (by show w.heap.size < _; omega) af0_3 | exact fa (by show w.heap.size < _; simp; omega) (fa (by show w.heap.size < _; omega) af0_3) | (simp; done) | go_simp)
  have a1_4 : w4.cell? ⟨w.heap.size, 1, none⟩ = some (.int .i64 0) := kc k (by first | exact a1_3 | exact ca a1_3 | exact ca (ca a1_3) | exact ca (ca (ca a1_3)) | (simp; done) | go_simp) (by show w.heap.size ≠ _; omega)
  have af1_4 : w4.frozen? ⟨w.heap.size, 1, none⟩ = false := kf k (by first | (simp; done) | (simp; omega) | (show w.heap.size < _; omega)) (by show w.heap.size ≠ _; omega) (by first | exact af1_3 | exact fa (by show w.heap.size < _; omega) af1_3 | exact fa (by show w.heap.size < _; simp; omega) (fa (by show w.heap.size < _; omega) af1_3) | (simp; done) | go_simp)
  have al_4 : w.heap.size < w4.heap.size := cell_lt a0_4
  clear a0_3 af0_3 a1_3 af1_3 al_3
  have c0_1 : w4.cell? ⟨w3.heap.size, 0, none⟩ = some (.int .i64 (lowN (x - 20) (1 + y))) := kc k (by first | (simp; done) | go_simp) (by show w3.heap.size ≠ _; omega)
  have cf0_1 : w4.frozen? ⟨w3.heap.size, 0, none⟩ = false := kf k (by first | (simp; done) | (simp; omega) | (show w3.heap.size < _; omega)) (by show w3.heap.size ≠ _; omega) (by first | (simp; done) | go_simp)
  have c1_1 : w4.cell? ⟨w3.heap.size, 1, none⟩ = some (.int .i64 (lowD (x - 20) (1 + y))) := kc k (by first | (simp; done) | go_simp) (by show w3.heap.size ≠ _; omega)
  have cf1_1 : w4.frozen? ⟨w3.heap.size, 1, none⟩ = false := kf k (by first | (simp; done) | (simp; omega) | (show w3.heap.size < _; omega)) (by show w3.heap.size ≠ _; omega) (by first | (simp; done) | go_simp)
  have cl_1 : w3.heap.size < w4.heap.size := cell_lt c0_1
  have hszw4 := k.size
  try simp at hszw4
  clear r k
  by_cases hz0 : z = 0
  · subst hz0
    go_wp2_with fail
    refine (one_any _ _ _ (-2000001) (2000001) _ _ _ (by exact intsIn_lit _ [2, 0, 2000000, 2000001, -2000001] _ _ _ _ _ _ rfl (by first | (simp; done) | (simp; omega) | omega) (by simp; try omega)) (by omega) (by omega) (by first | omega | (simp; done) | (simp; omega)) (by first | omega | (simp; omega)) (by first | exact hR | omega | (simp; done) | (simp; omega)) (by omega) (by omega) (Rd.fwd HR.out (by repeat (first | exact Below.refl _ _ | refine Below.drew ?_ | refine bel_drewN _ ?_ | refine Below.alloc ?_ (by first | omega | (simp; done) | (simp; omega)) _ | refine Below.setCell ?_ (by first | (show _ ≤ _; omega) | (simp; done) | (simp; omega)) _)))).mono ?_
    rintro e u1 ⟨n, rfl, n0, n1, k, r⟩
    have HBq : KB (w.heap.size) (R) w u1 := KB.callee (Nat.le_refl _) (by repeat (first | exact KB.refl _ _ _ | exact HB.out | refine KB.drew ?_ | refine KB.drewN ?_ | refine KB.alloc (Nat.le_refl _) ?_ _ | refine KB.setCell ?_ (by first | (show _ ≤ _; omega) | (simp; done) | (simp; omega)) _)) k
    have HB := Lib.hid HBq
    clear HBq
    have hR : R < u1.heap.size := Nat.lt_of_lt_of_le (by first | exact hR | omega | (simp; done) | (simp; omega)) k.size
    have HR := Lib.hid r
    have a0_5 : u1.cell? ⟨w.heap.size, 0, none⟩ = some (.int .i64 0) := kc k (by first | exact a0_4 | exact ca a0_4 | exact ca (ca a0_4) | exact ca (ca (ca a0_4)) | (simp; done) | go_simp) (by show w.heap.size ≠ _; omega)
    have af0_5 : u1.frozen? ⟨w.heap.size, 0, none⟩ = false := kf k (by first | (simp; done) | (simp; omega) | (show w.heap.size < _; omega)) (by show w.heap.size ≠ _; omega) (by first | exact af0_4 | exact fa (by show w.heap.size < _; omega) af0_4 | exact fa (by show w.heap.size < _; simp; omega) (fa (by show w.heap.size < _; omega) af0_4) | (simp; done) | go_simp)
    have a1_5 : u1.cell? ⟨w.heap.size, 1, none⟩ = some (.int .i64 0) := kc k (by first | exact a1_4 | exact ca a1_4 | exact ca (ca a1_4) | exact ca (ca (ca a1_4)) | (simp; done) | go_simp) (by show w.heap.size ≠ _; omega)
    have af1_5 : u1.frozen? ⟨w.heap.size, 1, none⟩ = false := kf k (by first | (simp; done) | (simp; omega) | (show w.heap.size < _; omega)) (by show w.heap.size ≠ _; omega) (by first | exact af1_4 | exact fa (by show w.heap.size < _; omega) af1_4 | exact fa (by show w.heap.size < _; simp; omega) (fa (by show w.heap.size < _; omega) af1_4) | (simp; done) | go_simp)
    have al_5 : w.heap.size < u1.heap.size := cell_lt a0_5
    clear a0_4 af0_4 a1_4 af1_4 al_4
    have c0_2 : u1.cell? ⟨w3.heap.size, 0, none⟩ = some (.int .i64 (lowN (x - 20) (1 + y))) := kc k (by first | exact c0_1 | exact ca c0_1 | exact ca (ca c0_1) | exact ca (ca (ca c0_1)) | (simp; done) | go_simp) (by show w3.heap.size ≠ _; omega)
    have cf0_2 : u1.frozen? ⟨w3.heap.size, 0, none⟩ = false := kf k (by first | (simp; done) | (simp; omega) | (show w3.heap.size < _; omega)) (by show w3.heap.size ≠ _; omega) (by first | exact cf0_1 | exact fa (by show w3.heap.size < _; omega) cf0_1 | exact fa (by show w3.heap.size < _; simp; omega) (fa (by show w3.heap.size < _; omega) cf0_1) | (simp; done) | go_simp)
    have c1_2 : u1.cell? ⟨w3.heap.size, 1, none⟩ = some (.int .i64 (lowD (x - 20) (1 + y))) := kc k (by first | exact c1_1 | exact ca c1_1 | exact ca (ca c1_1) | exact ca (ca (ca c1_1)) | (simp; done) | go_simp) (by show w3.heap.size ≠ _; omega)
    have cf1_2 : u1.frozen? ⟨w3.heap.size, 1, none⟩ = false := kf k (by first | (simp; done) | (simp; omega) | (show w3.heap.size < _; omega)) (by show w3.heap.size ≠ _; omega) (by first | exact cf1_1 | exact fa (by show w3.heap.size < _; omega) cf1_1 | exact fa (by show w3.heap.size < _; simp; omega) (fa (by show w3.heap.size < _; omega) cf1_1) | (simp; done) | go_simp)
    have cl_2 : w3.heap.size < u1.heap.size := cell_lt c0_2
    clear c0_1 cf0_1 c1_1 cf1_1 cl_1
    have hszu1 := k.size
    try simp at hszu1
    clear r k
    go_wp2_with fail
    refine (one_any _ _ _ (-1) (1999999) _ _ _ (by exact intsIn_lit _ [4, 0, -1, 1, 1999999] _ _ _ _ _ _ rfl (by first | (simp; done) | (simp; omega) | omega) (by simp; try omega)) (by omega) (by omega) (by first | omega | (simp; done) | (simp; omega)) (by first | omega | (simp; omega)) (by first | exact hR | omega | (simp; done) | (simp; omega)) (by omega) (by omega) (Rd.fwd HR.out (by repeat (first | exact Below.refl _ _ | refine Below.drew ?_ | refine bel_drewN _ ?_ | refine Below.alloc ?_ (by first | omega | (simp; done) | (simp; omega)) _ | refine Below.setCell ?_ (by first | (show _ ≤ _; omega) | (simp; done) | (simp; omega)) _)))).mono ?_
    rintro e u2 ⟨d, rfl, d0, d1, k, r⟩
    have HBq : KB (w.heap.size) (R) w u2 := KB.callee (Nat.le_refl _) (by repeat (first | exact KB.refl _ _ _ | exact HB.out | refine KB.drew ?_ | refine KB.drewN ?_ | refine KB.alloc (Nat.le_refl _) ?_ _ | refine KB.setCell ?_ (by first | (show _ ≤ _; omega) | (simp; done) | (simp; omega)) _)) k
    have HB := Lib.hid HBq
    clear HBq
    have hR : R < u2.heap.size := Nat.lt_of_lt_of_le (by first | exact hR | omega | (simp; done) | (simp; omega)) k.size
    have HR := Lib.hid r
    have a0_6 : u2.cell? ⟨w.heap.size, 0, none⟩ = some (.int .i64 0) := kc k (by first | exact a0_5 | exact ca a0_5 | exact ca (ca a0_5) | exact ca (ca (ca a0_5)) | (simp; done) | go_simp) (by show w.heap.size ≠ _; omega)
    have af0_6 : u2.frozen? ⟨w.heap.size, 0, none⟩ = false := kf k (by first | (simp; done) | (simp; omega) | (show w.heap.size < _; omega)) (by show w.heap.size ≠ _; omega) (by first | exact af0_5 | exact fa (by show w.heap.size < _; omega) af0_5 | exact fa (by show w.heap.size < _; simp; omega) (fa (by show w.heap.size < _; omega) af0_5) | (simp; done) | go_simp)
    have a1_6 : u2.cell? ⟨w.heap.size, 1, none⟩ = some (.int .i64 0) := kc k (by first | exact a1_5 | exact ca a1_5 | exact ca (ca a1_5) | exact ca (ca (ca a1_5)) | (simp; done) | go_simp) (by show w.heap.size ≠ _; omega)
    have af1_6 : u2.frozen? ⟨w.heap.size, 1, none⟩ = false := kf k (by first | (simp; done) | (simp; omega) | (show w.heap.size < _; omega)) (by show w.heap.size ≠ _; omega) (by first | exact af1_5 | exact fa (by show w.heap.size < _; omega) af1_5 | exact fa (by show w.heap.size < _; simp; omega) (fa (by show w.heap.size < _; omega) af1_5) | (simp; done) | go_simp)
    have al_6 : w.heap.size < u2.heap.size := cell_lt a0_6
    clear a0_5 af0_5 a1_5 af1_5 al_5
    have c0_3 : u2.cell? ⟨w3.heap.size, 0, none⟩ = some (.int .i64 (lowN (x - 20) (1 + y))) := kc k (by first | exact c0_2 | exact ca c0_2 | exact ca (ca c0_2) | exact ca (ca (ca c0_2)) | (simp; done) | go_simp) (by show w3.heap.size ≠ _; omega)
    have cf0_3 : u2.frozen? ⟨w3.heap.size, 0, none⟩ = false := kf k (by first | (simp; done) | (simp; omega) | (show w3.heap.size < _; omega)) (by show w3.heap.size ≠ _; omega) (by first | exact cf0_2 | exact fa (by show w3.heap.size < _; omega) cf0_2 | exact fa (by show w3.heap.size < _; simp; omega) (fa (by show w3.heap.size < _; omega) cf0_2) | (simp; done) | go_simp)
    have c1_3 : u2.cell? ⟨w3.heap.size, 1, none⟩ = some (.int .i64 (lowD (x - 20) (1 + y))) := kc k (by first | exact c1_2 | exact ca c1_2 | exact ca (ca c1_2) | exact ca (ca (ca c1_2)) | (simp; done) | go_simp) (by show w3.heap.size ≠ _; omega)
    have cf1_3 : u2.frozen? ⟨w3.heap.size, 1, none⟩ = false := kf k (by first | (simp; done) | (simp; omega) | (show w3.heap.size < _; omega)) (by show w3.heap.size ≠ _; omega) (by first | exact cf1_2 | exact fa (by show w3.heap.size < _; omega) cf1_2 | exact fa (by show w3.heap.size < _; simp; omega) (fa (by show w3.heap.size < _; omega) cf1_2) | (simp; done) | go_simp)
    have cl_3 : w3.heap.size < u2.heap.size := cell_lt c0_3
    clear c0_2 cf0_2 c1_2 cf1_2 cl_2
    have hszu2 := k.size
    try simp at hszu2
    clear r k
    have hne : w3.heap.size ≠ w.heap.size := by omega
    go_wp2
    refine bodyPost_ret (v := .agg #[.int .i64 n, .int .i64 d]) (by simp [results, Try.results27, go_sem, *]) rfl ⟨n, d, rfl, KB.keep (by repeat (first | exact KB.refl _ _ _ | exact HB.out | refine KB.drew ?_ | refine KB.drewN ?_ | refine KB.alloc (Nat.le_refl _) ?_ _ | refine KB.setCell ?_ (by first | (show _ ≤ _; omega) | (simp; done) | (simp; omega)) _)), ?_⟩
    exact Rd.mono (Rd.fwd HR.out (by repeat (first | exact Below.refl _ _ | refine Below.drew ?_ | refine bel_drewN _ ?_ | refine Below.alloc ?_ (by first | omega | (simp; done) | (simp; omega)) _ | refine Below.setCell ?_ (by first | (show _ ≤ _; omega) | (simp; done) | (simp; omega)) _))) (by omega)
  · have hz1 : (z == 0) = false := by simpa using hz0
    by_cases hz2 : z = 1
    · subst hz2
      go_wp2_with fail
      refine (pick_any _ _ _ _ (by first | exact hR | omega | (simp; done) | (simp; omega)) (by omega) (by omega) (by omega) (by omega) (Rd.fwd HR.out (by repeat (first | exact Below.refl _ _ | refine Below.drew ?_ | refine bel_drewN _ ?_ | refine Below.alloc ?_ (by first | omega | (simp; done) | (simp; omega)) _ | refine Below.setCell ?_ (by first | (show _ ≤ _; omega) | (simp; done) | (simp; omega)) _)))).mono ?_
      rintro e u1 ⟨q, rfl, q0, q1, k, r⟩
      have q2 : q ≤ 2 := by omega
      clear q1
      have HBq : KB (w.heap.size) (R) w u1 := KB.callee (Nat.le_refl _) (by repeat (first | exact KB.refl _ _ _ | exact HB.out | refine KB.drew ?_ | refine KB.drewN ?_ | refine KB.alloc (Nat.le_refl _) ?_ _ | refine KB.setCell ?_ (by first | (show _ ≤ _; omega) | (simp; done) | (simp; omega)) _)) k
      have HB := Lib.hid HBq
      clear HBq
      have hR : R < u1.heap.size := Nat.lt_of_lt_of_le (by first | exact hR | omega | (simp; done) | (simp; omega)) k.size
      have HR := Lib.hid r
      have a0_5 : u1.cell? ⟨w.heap.size, 0, none⟩ = some (.int .i64 0) := kc k (by first | exact a0_4 | exact ca a0_4 | exact ca (ca a0_4) | exact ca (ca (ca a0_4)) | (simp; done) | go_simp) (by show w.heap.size ≠ _; omega)
      have af0_5 : u1.frozen? ⟨w.heap.size, 0, none⟩ = false := kf k (by first | (simp; done) | (simp; omega) | (show w.heap.size < _; omega)) (by show w.heap.size ≠ _; omega) (by first | exact af0_4 | exact fa (by show w.heap.size < _; omega) af0_4 | exact fa (by show w.heap.size < _; simp; omega) (fa (by show w.heap.size < _; omega) af0_4) | (simp; done) | go_simp)
      have a1_5 : u1.cell? ⟨w.heap.size, 1, none⟩ = some (.int .i64 0) := kc k (by first | exact a1_4 | exact ca a1_4 | exact ca (ca a1_4) | exact ca (ca (ca a1_4)) | (simp; done) | go_simp) (by show w.heap.size ≠ _; omega)
      have af1_5 : u1.frozen? ⟨w.heap.size, 1, none⟩ = false := kf k (by first | (simp; done) | (simp; omega) | (show w.heap.size < _; omega)) (by show w.heap.size ≠ _; omega) (by first | exact af1_4 | exact fa (by show w.heap.size < _; omega) af1_4 | exact fa (by show w.heap.size < _; simp; omega) (fa (by show w.heap.size < _; omega) af1_4) | (simp; done) | go_simp)
      have al_5 : w.heap.size < u1.heap.size := cell_lt a0_5
      clear a0_4 af0_4 a1_4 af1_4 al_4
      have c0_2 : u1.cell? ⟨w3.heap.size, 0, none⟩ = some (.int .i64 (lowN (x - 20) (1 + y))) := kc k (by first | exact c0_1 | exact ca c0_1 | exact ca (ca c0_1) | exact ca (ca (ca c0_1)) | (simp; done) | go_simp) (by show w3.heap.size ≠ _; omega)
      have cf0_2 : u1.frozen? ⟨w3.heap.size, 0, none⟩ = false := kf k (by first | (simp; done) | (simp; omega) | (show w3.heap.size < _; omega)) (by show w3.heap.size ≠ _; omega) (by first | exact cf0_1 | exact fa (by show w3.heap.size < _; omega) cf0_1 | exact fa (by show w3.heap.size < _; simp; omega) (fa (by show w3.heap.size < _; omega) cf0_1) | (simp; done) | go_simp)
      have c1_2 : u1.cell? ⟨w3.heap.size, 1, none⟩ = some (.int .i64 (lowD (x - 20) (1 + y))) := kc k (by first | exact c1_1 | exact ca c1_1 | exact ca (ca c1_1) | exact ca (ca (ca c1_1)) | (simp; done) | go_simp) (by show w3.heap.size ≠ _; omega)
      have cf1_2 : u1.frozen? ⟨w3.heap.size, 1, none⟩ = false := kf k (by first | (simp; done) | (simp; omega) | (show w3.heap.size < _; omega)) (by show w3.heap.size ≠ _; omega) (by first | exact cf1_1 | exact fa (by show w3.heap.size < _; omega) cf1_1 | exact fa (by show w3.heap.size < _; simp; omega) (fa (by show w3.heap.size < _; omega) cf1_1) | (simp; done) | go_simp)
      have cl_2 : w3.heap.size < u1.heap.size := cell_lt c0_2
      clear c0_1 cf0_1 c1_1 cf1_1 cl_1
      have hszu1 := k.size
      try simp at hszu1
      clear r k
      go_wp2_with fail
      refine (lowestS_any _ _ _ (by omega) (by omega) (by omega) (by omega)).mono ?_
      rintro e u2 ⟨rfl, hb5⟩
      have HR := Lib.hid (Rd.fwd HR.out (Below.trans (by repeat (first | exact Below.refl _ _ | refine Below.drew ?_ | refine bel_drewN _ ?_ | refine Below.alloc ?_ (by first | omega | (simp; done) | (simp; omega)) _ | refine Below.setCell ?_ (by first | (show _ ≤ _; omega) | (simp; done) | (simp; omega)) _)) (hb5.mono (by first | exact hR | omega | (simp; done) | (simp; omega)))))
      have HBq : KB (w.heap.size) (R) w u2 := KB.quiet (Nat.le_refl _) (by repeat (first | exact KB.refl _ _ _ | exact HB.out | refine KB.drew ?_ | refine KB.drewN ?_ | refine KB.alloc (Nat.le_refl _) ?_ _ | refine KB.setCell ?_ (by first | (show _ ≤ _; omega) | (simp; done) | (simp; omega)) _)) hb5
      have HB := Lib.hid HBq
      clear HBq
      have hR := Nat.lt_of_lt_of_le (show _ < _ from by first | exact hR | omega | (simp; done) | (simp; omega)) hb5.size
      have a0_6 : u2.cell? ⟨w.heap.size, 0, none⟩ = some (.int .i64 0) := bc hb5 (by first | exact a0_5 | exact ca a0_5 | exact ca (ca a0_5) | exact ca (ca (ca a0_5)) | (simp; done) | go_simp)
      have af0_6 : u2.frozen? ⟨w.heap.size, 0, none⟩ = false := bf hb5 (by first | (simp; done) | (simp; omega) | (show w.heap.size < _; omega)) (by first | exact af0_5 | exact fa (by show w.heap.size < _; omega) af0_5 | exact fa (by show w.heap.size < _; simp; omega) (fa (by show w.heap.size < _; omega) af0_5) | (simp; done) | go_simp)
      have a1_6 : u2.cell? ⟨w.heap.size, 1, none⟩ = some (.int .i64 0) := bc hb5 (by first | exact a1_5 | exact ca a1_5 | exact ca (ca a1_5) | exact ca (ca (ca a1_5)) | (simp; done) | go_simp)
      have af1_6 : u2.frozen? ⟨w.heap.size, 1, none⟩ = false := bf hb5 (by first | (simp; done) | (simp; omega) | (show w.heap.size < _; omega)) (by first | exact af1_5 | exact fa (by show w.heap.size < _; omega) af1_5 | exact fa (by show w.heap.size < _; simp; omega) (fa (by show w.heap.size < _; omega) af1_5) | (simp; done) | go_simp)
      have al_6 : w.heap.size < u2.heap.size := cell_lt a0_6
      clear a0_5 af0_5 a1_5 af1_5 al_5
      have c0_3 : u2.cell? ⟨w3.heap.size, 0, none⟩ = some (.int .i64 (lowN (x - 20) (1 + y))) := bc hb5 (by first | exact c0_2 | exact ca c0_2 | exact ca (ca c0_2) | exact ca (ca (ca c0_2)) | (simp; done) | go_simp)
      have cf0_3 : u2.frozen? ⟨w3.heap.size, 0, none⟩ = false := bf hb5 (by first | (simp; done) | (simp; omega) | (show w3.heap.size < _; omega)) (by first | exact cf0_2 | exact fa (by show w3.heap.size < _; omega) cf0_2 | exact fa (by show w3.heap.size < _; simp; omega) (fa (by show w3.heap.size < _; omega) cf0_2) | (simp; done) | go_simp)
      have c1_3 : u2.cell? ⟨w3.heap.size, 1, none⟩ = some (.int .i64 (lowD (x - 20) (1 + y))) := bc hb5 (by first | exact c1_2 | exact ca c1_2 | exact ca (ca c1_2) | exact ca (ca (ca c1_2)) | (simp; done) | go_simp)
      have cf1_3 : u2.frozen? ⟨w3.heap.size, 1, none⟩ = false := bf hb5 (by first | (simp; done) | (simp; omega) | (show w3.heap.size < _; omega)) (by first | exact cf1_2 | exact fa (by show w3.heap.size < _; omega) cf1_2 | exact fa (by show w3.heap.size < _; simp; omega) (fa (by show w3.heap.size < _; omega) cf1_2) | (simp; done) | go_simp)
      have cl_3 : w3.heap.size < u2.heap.size := cell_lt c0_3
      clear c0_2 cf0_2 c1_2 cf1_2 cl_2
      have z5 := below_size hb5
      try simp at z5
      have hne : w3.heap.size ≠ w.heap.size := by omega
      go_wp2
      refine bodyPost_ret (v := .agg #[.int .i64 (lowN 1999999 (1 + q * 999)), .int .i64 (lowD 1999999 (1 + q * 999))]) (by simp [results, Try.results27, go_sem, *]) rfl ⟨_, _, rfl, KB.keep (by repeat (first | exact KB.refl _ _ _ | exact HB.out | refine KB.drew ?_ | refine KB.drewN ?_ | refine KB.alloc (Nat.le_refl _) ?_ _ | refine KB.setCell ?_ (by first | (show _ ≤ _; omega) | (simp; done) | (simp; omega)) _)), ?_⟩
      exact Rd.mono (Rd.fwd HR.out (by repeat (first | exact Below.refl _ _ | refine Below.drew ?_ | refine bel_drewN _ ?_ | refine Below.alloc ?_ (by first | omega | (simp; done) | (simp; omega)) _ | refine Below.setCell ?_ (by first | (show _ ≤ _; omega) | (simp; done) | (simp; omega)) _))) (by omega)
    · have hz3 : (z == 1) = false := by simpa using hz2
      have hne : w3.heap.size ≠ w.heap.size := by omega
      go_wp2
      refine bodyPost_ret (v := .agg #[.int .i64 (lowN (x - 20) (1 + y)), .int .i64 (lowD (x - 20) (1 + y))]) (by simp [results, Try.results27, go_sem, *]) rfl ⟨_, _, rfl, KB.keep (by repeat (first | exact KB.refl _ _ _ | exact HB.out | refine KB.drew ?_ | refine KB.drewN ?_ | refine KB.alloc (Nat.le_refl _) ?_ _ | refine KB.setCell ?_ (by first | (show _ ≤ _; omega) | (simp; done) | (simp; omega)) _)), ?_⟩
      exact Rd.mono (Rd.fwd HR.out (by repeat (first | exact Below.refl _ _ | refine Below.drew ?_ | refine bel_drewN _ ?_ | refine Below.alloc ?_ (by first | omega | (simp; done) | (simp; omega)) _ | refine Below.setCell ?_ (by first | (show _ ≤ _; omega) | (simp; done) | (simp; omega)) _))) (by omega)
end Go.Proofs.Ytlobbphhhdklfaa
