/- Parts of years and interest: the draws. -/
import Derived.Test.YtdphmeepbkmkkaaDoorPart8
import Derived.Test.YtdphmeepbkmkkaaDoorDateDraw
namespace Go.Proofs.YtdphmeepbkmkkaaDoor
open Go.RowKit
set_option linter.unusedVariables false
set_option maxHeartbeats 1000000 in
theorem anyKind_any (R : Nat) (K : Int) (w : World) (hR : R < w.heap.size) (hK : 0 ≤ K) (hK' : K ≤ 900000) (hrd : Rd w R K) :
    Calls Tryd.prog 46 #[.pointer (some ⟨R, 0, none⟩)] w (OnePost (-1) 4 R (K + 2) w) := by
  have HR := Lib.hid hrd
  clear hrd
  have HB := Lib.hid (KB.refl w.heap.size R w)
  go_enter Tryd.func46, Tryd.ntmps46
  go_wp2_with fail
  refine (one_any _ _ _ (-1) (4) _ _ _ (by exact intsIn_lit _ [0, 1, 2, 3, 3, 2, 4, -1] _ _ _ _ _ _ rfl (by first | (simp; done) | (simp; omega) | omega) (by simp; try omega)) (by omega) (by omega) (by first | omega | (simp; done) | (simp; omega)) (by first | omega | (simp; omega)) (by first | exact hR | omega | (simp; done) | (simp; omega)) (by omega) (by omega) (Rd.fwd HR.out (by repeat (first | exact Below.refl _ _ | refine Below.drew ?_ | refine bel_drewN _ ?_ | refine Below.alloc ?_ (by first | omega | (simp; done) | (simp; omega)) _ | refine Below.setCell ?_ (by first | (show _ ≤ _; omega) | (simp; done) | (simp; omega)) _)))).mono ?_
  rintro e w1 ⟨y, rfl, y0, y1, k, r⟩
  have HBq : KB (w.heap.size) (R) w w1 := KB.callee (Nat.le_refl _) (by repeat (first | exact KB.refl _ _ _ | exact HB.out | refine KB.drew ?_ | refine KB.drewN ?_ | refine KB.alloc (Nat.le_refl _) ?_ _ | refine KB.setCell ?_ (by first | (show _ ≤ _; omega) | (simp; done) | (simp; omega)) _)) k
  have HB := Lib.hid HBq
  clear HBq
  have hR : R < w1.heap.size := Nat.lt_of_lt_of_le (by first | exact hR | omega | (simp; done) | (simp; omega)) k.size
  have HR := Lib.hid r
  have hszw1 := k.size
  try simp at hszw1
  clear r k
  go_wp2
  go_ret
  exact ⟨y, rfl, y0, y1, KB.keep (by repeat (first | exact KB.refl _ _ _ | exact HB.out | refine KB.drew ?_ | refine KB.drewN ?_ | refine KB.alloc (Nat.le_refl _) ?_ _ | refine KB.setCell ?_ (by first | (show _ ≤ _; omega) | (simp; done) | (simp; omega)) _)), Rd.mono HR.out (by omega)⟩
def DrawYP (w : World) (e : Ending) (w' : World) : Prop :=
  ∃ k a b : Int, e = .returned (.tuple #[.int .i64 k, .int .i64 a, .int .i64 b]) ∧ (-1 ≤ k ∧ k ≤ 4) ∧ (-1 ≤ a ∧ a ≤ 36525) ∧ (-2 ≤ b ∧ b ≤ 40526) ∧ Below w.heap.size w w'
set_option maxHeartbeats 1000000 in
theorem drawYearPart_any (a : Option Addr) (len cap : Nat) (w : World) (hlc : len ≤ cap) (hc : cap ≤ maxLen) (h : IsBytes w a len) :
    Calls Tryd.prog 20 #[.slice a len cap] w (DrawYP w) := by
  have H := Lib.hid h
  clear h
  go_enter Tryd.func20, Tryd.ntmps20
  go_wp2_with fail
  refine (newReader_any _ _ _ _ hlc hc (by repeat (first | exact H.out | refine IsBytes.alloc ?_ _))).mono ?_
  rintro e v1 ⟨rfl, hb, hrd, hszv1⟩
  try simp at hszv1
  replace hszv1 : w.heap.size + 1 ≤ v1.heap.size := by omega
  have hR : w.heap.size < v1.heap.size := by omega
  have hrdq : Rd v1 (w.heap.size) 0 := by simpa using hrd
  have HR := Lib.hid hrdq
  have HBq : KB (w.heap.size) (w.heap.size) w v1 := KB.quiet (Nat.le_refl _) (by repeat (first | exact KB.refl _ _ _ | exact HB.out | refine KB.drew ?_ | refine KB.drewN ?_ | refine KB.alloc (Nat.le_refl _) ?_ _ | refine KB.setCell ?_ (by first | (show _ ≤ _; omega) | (simp; done) | (simp; omega)) _)) hb
  have HB := Lib.hid HBq
  clear hrd hrdq HBq hb
  go_wp2_with fail
  refine (anyKind_any _ _ _ (by first | exact hR | omega | (simp; done) | (simp; omega)) (by omega) (by omega) (Rd.fwd HR.out (by repeat (first | exact Below.refl _ _ | refine Below.drew ?_ | refine bel_drewN _ ?_ | refine Below.alloc ?_ (by first | omega | (simp; done) | (simp; omega)) _ | refine Below.setCell ?_ (by first | (show _ ≤ _; omega) | (simp; done) | (simp; omega)) _)))).mono ?_
  rintro e v2 ⟨n, rfl, n0, n1, k, r⟩
  have HBq : KB (w.heap.size) (w.heap.size) w v2 := KB.callee (Nat.le_refl _) (by repeat (first | exact KB.refl _ _ _ | exact HB.out | refine KB.drew ?_ | refine KB.drewN ?_ | refine KB.alloc (Nat.le_refl _) ?_ _ | refine KB.setCell ?_ (by first | (show _ ≤ _; omega) | (simp; done) | (simp; omega)) _)) k
  have HB := Lib.hid HBq
  clear HBq
  have hR : w.heap.size < v2.heap.size := Nat.lt_of_lt_of_le (by first | exact hR | omega | (simp; done) | (simp; omega)) k.size
  have HR := Lib.hid r
  have hszv2 := k.size
  try simp at hszv2
  clear r k
  go_wp2_with fail
  refine (anyDay_any _ _ _ (by first | exact hR | omega | (simp; done) | (simp; omega)) (by omega) (by omega) (Rd.fwd HR.out (by repeat (first | exact Below.refl _ _ | refine Below.drew ?_ | refine bel_drewN _ ?_ | refine Below.alloc ?_ (by first | omega | (simp; done) | (simp; omega)) _ | refine Below.setCell ?_ (by first | (show _ ≤ _; omega) | (simp; done) | (simp; omega)) _)))).mono ?_
  rintro e v3 ⟨x, rfl, x0, x1, k, r⟩
  have HBq : KB (w.heap.size) (w.heap.size) w v3 := KB.callee (Nat.le_refl _) (by repeat (first | exact KB.refl _ _ _ | exact HB.out | refine KB.drew ?_ | refine KB.drewN ?_ | refine KB.alloc (Nat.le_refl _) ?_ _ | refine KB.setCell ?_ (by first | (show _ ≤ _; omega) | (simp; done) | (simp; omega)) _)) k
  have HB := Lib.hid HBq
  clear HBq
  have hR : w.heap.size < v3.heap.size := Nat.lt_of_lt_of_le (by first | exact hR | omega | (simp; done) | (simp; omega)) k.size
  have HR := Lib.hid r
  have hszv3 := k.size
  try simp at hszv3
  clear r k
  go_wp2_with fail
  refine (one_any _ _ _ (-1) (4001) _ _ _ (by exact intsIn_lit _ [30, 31, 182, 365, 366, 0, 1, 900, -1, 4000, 4001] _ _ _ _ _ _ rfl (by first | (simp; done) | (simp; omega) | omega) (by simp; try omega)) (by omega) (by omega) (by first | omega | (simp; done) | (simp; omega)) (by first | omega | (simp; omega)) (by first | exact hR | omega | (simp; done) | (simp; omega)) (by omega) (by omega) (Rd.fwd HR.out (by repeat (first | exact Below.refl _ _ | refine Below.drew ?_ | refine bel_drewN _ ?_ | refine Below.alloc ?_ (by first | omega | (simp; done) | (simp; omega)) _ | refine Below.setCell ?_ (by first | (show _ ≤ _; omega) | (simp; done) | (simp; omega)) _)))).mono ?_
  rintro e v4 ⟨q, rfl, q0, q1, k, r⟩
  have HBq : KB (w.heap.size) (w.heap.size) w v4 := KB.callee (Nat.le_refl _) (by repeat (first | exact KB.refl _ _ _ | exact HB.out | refine KB.drew ?_ | refine KB.drewN ?_ | refine KB.alloc (Nat.le_refl _) ?_ _ | refine KB.setCell ?_ (by first | (show _ ≤ _; omega) | (simp; done) | (simp; omega)) _)) k
  have HB := Lib.hid HBq
  clear HBq
  have hR : w.heap.size < v4.heap.size := Nat.lt_of_lt_of_le (by first | exact hR | omega | (simp; done) | (simp; omega)) k.size
  have HR := Lib.hid r
  have hszv4 := k.size
  try simp at hszv4
  clear r k
  have HF : Hid (Below w.heap.size w v4) := KB.below (R := w.heap.size) (by repeat (first | exact KB.refl _ _ _ | exact HB.out | refine KB.drew ?_ | refine KB.drewN ?_ | refine KB.alloc (Nat.le_refl _) ?_ _ | refine KB.setCell ?_ (by first | (show _ ≤ _; omega) | (simp; done) | (simp; omega)) _)) (by omega)
  go_wp2
  refine bodyPost_ret (v := .tuple #[.int .i64 n, .int .i64 x, .int .i64 (x + q)]) (by simp [results, Tryd.results20, go_sem, *]) rfl ⟨n, x, x + q, rfl, ⟨n0, n1⟩, ⟨x0, x1⟩, ⟨by omega, by omega⟩, HF.out⟩
def DrawIO (w : World) (e : Ending) (w' : World) : Prop :=
  ∃ c r k a b : Int, e = .returned (.tuple #[.int .i64 c, .int .i64 r, .int .i64 k, .int .i64 a, .int .i64 b]) ∧ (-1 ≤ c ∧ c ≤ 100000001) ∧ (-1 ≤ r ∧ r ≤ 3001) ∧ (-1 ≤ k ∧ k ≤ 4) ∧ (-1 ≤ a ∧ a ≤ 36525) ∧ (-2 ≤ b ∧ b ≤ 40526) ∧ Below w.heap.size w w'
set_option maxHeartbeats 1000000 in
theorem drawInterestOf_any (a : Option Addr) (len cap : Nat) (w : World) (hlc : len ≤ cap) (hc : cap ≤ maxLen) (h : IsBytes w a len) :
    Calls Tryd.prog 28 #[.slice a len cap] w (DrawIO w) := by
  have H := Lib.hid h
  clear h
  go_enter Tryd.func28, Tryd.ntmps28
  go_wp2_with fail
  refine (newReader_any _ _ _ _ hlc hc (by repeat (first | exact H.out | refine IsBytes.alloc ?_ _))).mono ?_
  rintro e v1 ⟨rfl, hb, hrd, hszv1⟩
  try simp at hszv1
  replace hszv1 : w.heap.size + 1 ≤ v1.heap.size := by omega
  have hR : w.heap.size < v1.heap.size := by omega
  have hrdq : Rd v1 (w.heap.size) 0 := by simpa using hrd
  have HR := Lib.hid hrdq
  have HBq : KB (w.heap.size) (w.heap.size) w v1 := KB.quiet (Nat.le_refl _) (by repeat (first | exact KB.refl _ _ _ | exact HB.out | refine KB.drew ?_ | refine KB.drewN ?_ | refine KB.alloc (Nat.le_refl _) ?_ _ | refine KB.setCell ?_ (by first | (show _ ≤ _; omega) | (simp; done) | (simp; omega)) _)) hb
  have HB := Lib.hid HBq
  clear hrd hrdq HBq hb
  have H2 : Hid (IsBytes v1 a len) := H.out.keep (R := w.heap.size) (KB.keep HB.out) (fun h0 b hb => by have := H.out.lt h0 b hb; omega)
  go_wp2_with fail
  refine (drawYearPart_any _ _ _ _ hlc hc H2.out).mono ?_
  rintro e v2 ⟨n, x, y, rfl, n0, x0, y0, hb⟩
  have HR := Lib.hid (Rd.fwd HR.out (Below.trans (by repeat (first | exact Below.refl _ _ | refine Below.drew ?_ | refine bel_drewN _ ?_ | refine Below.alloc ?_ (by first | omega | (simp; done) | (simp; omega)) _ | refine Below.setCell ?_ (by first | (show _ ≤ _; omega) | (simp; done) | (simp; omega)) _)) (hb.mono (by first | exact hR | omega | (simp; done) | (simp; omega)))))
  have HBq : KB (w.heap.size) (w.heap.size) w v2 := KB.quiet (Nat.le_refl _) (by repeat (first | exact KB.refl _ _ _ | exact HB.out | refine KB.drew ?_ | refine KB.drewN ?_ | refine KB.alloc (Nat.le_refl _) ?_ _ | refine KB.setCell ?_ (by first | (show _ ≤ _; omega) | (simp; done) | (simp; omega)) _)) hb
  have HB := Lib.hid HBq
  clear HBq
  have hR := Nat.lt_of_lt_of_le (show _ < _ from by first | exact hR | omega | (simp; done) | (simp; omega)) hb.size
  go_wp2_with fail
  refine (one_any _ _ _ (-1) (100000001) _ _ _ (by exact intsIn_lit _ [10000, 1000000, 1, 0, 100000000, 100000001, -1] _ _ _ _ _ _ rfl (by first | (simp; done) | (simp; omega) | omega) (by simp; try omega)) (by omega) (by omega) (by first | omega | (simp; done) | (simp; omega)) (by first | omega | (simp; omega)) (by first | exact hR | omega | (simp; done) | (simp; omega)) (by omega) (by omega) (Rd.fwd HR.out (by repeat (first | exact Below.refl _ _ | refine Below.drew ?_ | refine bel_drewN _ ?_ | refine Below.alloc ?_ (by first | omega | (simp; done) | (simp; omega)) _ | refine Below.setCell ?_ (by first | (show _ ≤ _; omega) | (simp; done) | (simp; omega)) _)))).mono ?_
  rintro e v3 ⟨c, rfl, c0, c1, k, r⟩
  have HBq : KB (w.heap.size) (w.heap.size) w v3 := KB.callee (Nat.le_refl _) (by repeat (first | exact KB.refl _ _ _ | exact HB.out | refine KB.drew ?_ | refine KB.drewN ?_ | refine KB.alloc (Nat.le_refl _) ?_ _ | refine KB.setCell ?_ (by first | (show _ ≤ _; omega) | (simp; done) | (simp; omega)) _)) k
  have HB := Lib.hid HBq
  clear HBq
  have hR : w.heap.size < v3.heap.size := Nat.lt_of_lt_of_le (by first | exact hR | omega | (simp; done) | (simp; omega)) k.size
  have HR := Lib.hid r
  have hszv3 := k.size
  try simp at hszv3
  clear r k
  go_wp2_with fail
  refine (one_any _ _ _ (-1) (3001) _ _ _ (by exact intsIn_lit _ [100, 425, 5, 0, 3000, 3001, -1] _ _ _ _ _ _ rfl (by first | (simp; done) | (simp; omega) | omega) (by simp; try omega)) (by omega) (by omega) (by first | omega | (simp; done) | (simp; omega)) (by first | omega | (simp; omega)) (by first | exact hR | omega | (simp; done) | (simp; omega)) (by omega) (by omega) (Rd.fwd HR.out (by repeat (first | exact Below.refl _ _ | refine Below.drew ?_ | refine bel_drewN _ ?_ | refine Below.alloc ?_ (by first | omega | (simp; done) | (simp; omega)) _ | refine Below.setCell ?_ (by first | (show _ ≤ _; omega) | (simp; done) | (simp; omega)) _)))).mono ?_
  rintro e v4 ⟨q, rfl, q0, q1, k, r⟩
  have HBq : KB (w.heap.size) (w.heap.size) w v4 := KB.callee (Nat.le_refl _) (by repeat (first | exact KB.refl _ _ _ | exact HB.out | refine KB.drew ?_ | refine KB.drewN ?_ | refine KB.alloc (Nat.le_refl _) ?_ _ | refine KB.setCell ?_ (by first | (show _ ≤ _; omega) | (simp; done) | (simp; omega)) _)) k
  have HB := Lib.hid HBq
  clear HBq
  have hR : w.heap.size < v4.heap.size := Nat.lt_of_lt_of_le (by first | exact hR | omega | (simp; done) | (simp; omega)) k.size
  have HR := Lib.hid r
  have hszv4 := k.size
  try simp at hszv4
  clear r k
  have HF : Hid (Below w.heap.size w v4) := KB.below (R := w.heap.size) (by repeat (first | exact KB.refl _ _ _ | exact HB.out | refine KB.drew ?_ | refine KB.drewN ?_ | refine KB.alloc (Nat.le_refl _) ?_ _ | refine KB.setCell ?_ (by first | (show _ ≤ _; omega) | (simp; done) | (simp; omega)) _)) (by omega)
  go_wp2
  refine bodyPost_ret (v := .tuple #[.int .i64 c, .int .i64 q, .int .i64 n, .int .i64 x, .int .i64 y]) (by simp [results, Tryd.results28, go_sem, *]) rfl ⟨c, q, n, x, y, rfl, ⟨c0, c1⟩, ⟨q0, q1⟩, n0, x0, y0, HF.out⟩
end Go.Proofs.YtdphmeepbkmkkaaDoor
