/- The draws of days and dates. -/
import Derived.Test.YtbjphookihgkpaaDoorDate8
import Derived.Test.YtbjphookihgkpaaDoorReader3
namespace Go.Proofs.YtbjphookihgkpaaDoor
open Go.RowKit
set_option linter.unusedVariables false
set_option maxHeartbeats 1000000 in
theorem someDay_any (R : Nat) (K : Int) (w : World) (hR : R < w.heap.size) (hK : 0 ≤ K) (hK' : K ≤ 1000000) (hrd : Rd w R K) :
    Calls Tryd.prog 20 #[.pointer (some ⟨R, 0, none⟩)] w (OnePost 0 36524 R (K + 4) w) := by
  have HR := Lib.hid hrd
  clear hrd
  have HB := Lib.hid (KB.refl w.heap.size R w)
  go_enter Tryd.func20, Tryd.ntmps20
  go_wp2_with fail
  refine (pick_any _ _ _ _ (by first | exact hR | omega | (simp; done) | (simp; omega)) (by omega) (by omega) (by omega) (by omega) (Rd.fwd HR.out (by repeat (first | exact Below.refl _ _ | refine Below.drew ?_ | refine bel_drewN _ ?_ | refine Below.alloc ?_ (by first | omega | (simp; done) | (simp; omega)) _ | refine Below.setCell ?_ (by first | (show _ ≤ _; omega) | (simp; done) | (simp; omega)) _)))).mono ?_
  rintro e w1 ⟨x, rfl, x0, x1, k, r⟩
  have x2 : x ≤ 7 := by omega
  clear x1
  have HBq : KB (w.heap.size) (R) w w1 := KB.callee (Nat.le_refl _) (by repeat (first | exact KB.refl _ _ _ | exact HB.out | refine KB.drew ?_ | refine KB.drewN ?_ | refine KB.alloc (Nat.le_refl _) ?_ _ | refine KB.setCell ?_ (by first | (show _ ≤ _; omega) | (simp; done) | (simp; omega)) _)) k
  have HB := Lib.hid HBq
  clear HBq
  have hR : R < w1.heap.size := Nat.lt_of_lt_of_le (by first | exact hR | omega | (simp; done) | (simp; omega)) k.size
  have HR := Lib.hid r
  have hszw1 := k.size
  try simp at hszw1
  clear r k
  by_cases h0 : x = 0
  · subst h0
    go_wp2_with fail
    refine (one_any _ _ _ (0) (36524) _ _ _ (by exact intsIn_lit _ [0, 36524, 58, 59, 789, 790, 3711, 3712] _ _ _ _ _ _ rfl (by first | (simp; done) | (simp; omega) | omega) (by simp; try omega)) (by omega) (by omega) (by first | omega | (simp; done) | (simp; omega)) (by first | omega | (simp; omega)) (by first | exact hR | omega | (simp; done) | (simp; omega)) (by omega) (by omega) (Rd.fwd HR.out (by repeat (first | exact Below.refl _ _ | refine Below.drew ?_ | refine bel_drewN _ ?_ | refine Below.alloc ?_ (by first | omega | (simp; done) | (simp; omega)) _ | refine Below.setCell ?_ (by first | (show _ ≤ _; omega) | (simp; done) | (simp; omega)) _)))).mono ?_
    rintro e w2 ⟨y, rfl, y0, y1, k, r⟩
    have HBq : KB (w.heap.size) (R) w w2 := KB.callee (Nat.le_refl _) (by repeat (first | exact KB.refl _ _ _ | exact HB.out | refine KB.drew ?_ | refine KB.drewN ?_ | refine KB.alloc (Nat.le_refl _) ?_ _ | refine KB.setCell ?_ (by first | (show _ ≤ _; omega) | (simp; done) | (simp; omega)) _)) k
    have HB := Lib.hid HBq
    clear HBq
    have hR : R < w2.heap.size := Nat.lt_of_lt_of_le (by first | exact hR | omega | (simp; done) | (simp; omega)) k.size
    have HR := Lib.hid r
    have hszw2 := k.size
    try simp at hszw2
    clear r k
    go_wp2
    go_ret
    exact ⟨y, rfl, y0, y1, KB.keep (by repeat (first | exact KB.refl _ _ _ | exact HB.out | refine KB.drew ?_ | refine KB.drewN ?_ | refine KB.alloc (Nat.le_refl _) ?_ _ | refine KB.setCell ?_ (by first | (show _ ≤ _; omega) | (simp; done) | (simp; omega)) _)), Rd.mono HR.out (by omega)⟩
  · have h0' : (x == 0) = false := by simpa using h0
    by_cases h1 : x = 1
    · subst h1
      go_wp2_with fail
      refine (pick_any _ _ _ _ (by first | exact hR | omega | (simp; done) | (simp; omega)) (by omega) (by omega) (by omega) (by omega) (Rd.fwd HR.out (by repeat (first | exact Below.refl _ _ | refine Below.drew ?_ | refine bel_drewN _ ?_ | refine Below.alloc ?_ (by first | omega | (simp; done) | (simp; omega)) _ | refine Below.setCell ?_ (by first | (show _ ≤ _; omega) | (simp; done) | (simp; omega)) _)))).mono ?_
      rintro e w2 ⟨y, rfl, y0, y1, k, r⟩
      have y2 : y ≤ 255 := by omega
      clear y1
      have HBq : KB (w.heap.size) (R) w w2 := KB.callee (Nat.le_refl _) (by repeat (first | exact KB.refl _ _ _ | exact HB.out | refine KB.drew ?_ | refine KB.drewN ?_ | refine KB.alloc (Nat.le_refl _) ?_ _ | refine KB.setCell ?_ (by first | (show _ ≤ _; omega) | (simp; done) | (simp; omega)) _)) k
      have HB := Lib.hid HBq
      clear HBq
      have hR : R < w2.heap.size := Nat.lt_of_lt_of_le (by first | exact hR | omega | (simp; done) | (simp; omega)) k.size
      have HR := Lib.hid r
      have hszw2 := k.size
      try simp at hszw2
      clear r k
      go_wp2
      go_ret
      exact ⟨y * 142, rfl, by omega, by omega, KB.keep (by repeat (first | exact KB.refl _ _ _ | exact HB.out | refine KB.drew ?_ | refine KB.drewN ?_ | refine KB.alloc (Nat.le_refl _) ?_ _ | refine KB.setCell ?_ (by first | (show _ ≤ _; omega) | (simp; done) | (simp; omega)) _)), Rd.mono HR.out (by omega)⟩
    · have h1' : (x == 1) = false := by simpa using h1
      go_wp2_with fail
      refine (pick_any _ _ _ _ (by first | exact hR | omega | (simp; done) | (simp; omega)) (by omega) (by omega) (by omega) (by omega) (Rd.fwd HR.out (by repeat (first | exact Below.refl _ _ | refine Below.drew ?_ | refine bel_drewN _ ?_ | refine Below.alloc ?_ (by first | omega | (simp; done) | (simp; omega)) _ | refine Below.setCell ?_ (by first | (show _ ≤ _; omega) | (simp; done) | (simp; omega)) _)))).mono ?_
      rintro e w2 ⟨y, rfl, y0, y1, k, r⟩
      have y2 : y ≤ 249 := by omega
      clear y1
      have HBq : KB (w.heap.size) (R) w w2 := KB.callee (Nat.le_refl _) (by repeat (first | exact KB.refl _ _ _ | exact HB.out | refine KB.drew ?_ | refine KB.drewN ?_ | refine KB.alloc (Nat.le_refl _) ?_ _ | refine KB.setCell ?_ (by first | (show _ ≤ _; omega) | (simp; done) | (simp; omega)) _)) k
      have HB := Lib.hid HBq
      clear HBq
      have hR : R < w2.heap.size := Nat.lt_of_lt_of_le (by first | exact hR | omega | (simp; done) | (simp; omega)) k.size
      have HR := Lib.hid r
      have hszw2 := k.size
      try simp at hszw2
      clear r k
      go_wp2
      go_ret
      exact ⟨9000 + y * 13, rfl, by omega, by omega, KB.keep (by repeat (first | exact KB.refl _ _ _ | exact HB.out | refine KB.drew ?_ | refine KB.drewN ?_ | refine KB.alloc (Nat.le_refl _) ?_ _ | refine KB.setCell ?_ (by first | (show _ ≤ _; omega) | (simp; done) | (simp; omega)) _)), Rd.mono HR.out (by omega)⟩
set_option maxHeartbeats 1000000 in
theorem anyDay_any (R : Nat) (K : Int) (w : World) (hR : R < w.heap.size) (hK : 0 ≤ K) (hK' : K ≤ 900000) (hrd : Rd w R K) :
    Calls Tryd.prog 10 #[.pointer (some ⟨R, 0, none⟩)] w (OnePost (-1) 36525 R (K + 9) w) := by
  have HR := Lib.hid hrd
  clear hrd
  have HB := Lib.hid (KB.refl w.heap.size R w)
  go_enter Tryd.func10, Tryd.ntmps10
  go_wp2_with fail
  refine (pick_any _ _ _ _ (by first | exact hR | omega | (simp; done) | (simp; omega)) (by omega) (by omega) (by omega) (by omega) (Rd.fwd HR.out (by repeat (first | exact Below.refl _ _ | refine Below.drew ?_ | refine bel_drewN _ ?_ | refine Below.alloc ?_ (by first | omega | (simp; done) | (simp; omega)) _ | refine Below.setCell ?_ (by first | (show _ ≤ _; omega) | (simp; done) | (simp; omega)) _)))).mono ?_
  rintro e w1 ⟨x, rfl, x0, x1, k, r⟩
  have x2 : x ≤ 15 := by omega
  clear x1
  have HBq : KB (w.heap.size) (R) w w1 := KB.callee (Nat.le_refl _) (by repeat (first | exact KB.refl _ _ _ | exact HB.out | refine KB.drew ?_ | refine KB.drewN ?_ | refine KB.alloc (Nat.le_refl _) ?_ _ | refine KB.setCell ?_ (by first | (show _ ≤ _; omega) | (simp; done) | (simp; omega)) _)) k
  have HB := Lib.hid HBq
  clear HBq
  have hR : R < w1.heap.size := Nat.lt_of_lt_of_le (by first | exact hR | omega | (simp; done) | (simp; omega)) k.size
  have HR := Lib.hid r
  have hszw1 := k.size
  try simp at hszw1
  clear r k
  by_cases h0 : x = 0
  · subst h0
    go_wp2_with fail
    refine (one_any _ _ _ (-1) (36525) _ _ _ (by exact intsIn_lit _ [-1, 36525, 36524, 0] _ _ _ _ _ _ rfl (by first | (simp; done) | (simp; omega) | omega) (by simp; try omega)) (by omega) (by omega) (by first | omega | (simp; done) | (simp; omega)) (by first | omega | (simp; omega)) (by first | exact hR | omega | (simp; done) | (simp; omega)) (by omega) (by omega) (Rd.fwd HR.out (by repeat (first | exact Below.refl _ _ | refine Below.drew ?_ | refine bel_drewN _ ?_ | refine Below.alloc ?_ (by first | omega | (simp; done) | (simp; omega)) _ | refine Below.setCell ?_ (by first | (show _ ≤ _; omega) | (simp; done) | (simp; omega)) _)))).mono ?_
    rintro e w2 ⟨y, rfl, y0, y1, k, r⟩
    have HBq : KB (w.heap.size) (R) w w2 := KB.callee (Nat.le_refl _) (by repeat (first | exact KB.refl _ _ _ | exact HB.out | refine KB.drew ?_ | refine KB.drewN ?_ | refine KB.alloc (Nat.le_refl _) ?_ _ | refine KB.setCell ?_ (by first | (show _ ≤ _; omega) | (simp; done) | (simp; omega)) _)) k
    have HB := Lib.hid HBq
    clear HBq
    have hR : R < w2.heap.size := Nat.lt_of_lt_of_le (by first | exact hR | omega | (simp; done) | (simp; omega)) k.size
    have HR := Lib.hid r
    have hszw2 := k.size
    try simp at hszw2
    clear r k
    go_wp2
    go_ret
    exact ⟨y, rfl, y0, y1, KB.keep (by repeat (first | exact KB.refl _ _ _ | exact HB.out | refine KB.drew ?_ | refine KB.drewN ?_ | refine KB.alloc (Nat.le_refl _) ?_ _ | refine KB.setCell ?_ (by first | (show _ ≤ _; omega) | (simp; done) | (simp; omega)) _)), Rd.mono HR.out (by omega)⟩
  · have h0' : (x == 0) = false := by simpa using h0
    go_wp2_with fail
    refine (someDay_any _ _ _ (by first | exact hR | omega | (simp; done) | (simp; omega)) (by omega) (by omega) (Rd.fwd HR.out (by repeat (first | exact Below.refl _ _ | refine Below.drew ?_ | refine bel_drewN _ ?_ | refine Below.alloc ?_ (by first | omega | (simp; done) | (simp; omega)) _ | refine Below.setCell ?_ (by first | (show _ ≤ _; omega) | (simp; done) | (simp; omega)) _)))).mono ?_
    rintro e w2 ⟨y, rfl, y0, y1, k, r⟩
    have HBq : KB (w.heap.size) (R) w w2 := KB.callee (Nat.le_refl _) (by repeat (first | exact KB.refl _ _ _ | exact HB.out | refine KB.drew ?_ | refine KB.drewN ?_ | refine KB.alloc (Nat.le_refl _) ?_ _ | refine KB.setCell ?_ (by first | (show _ ≤ _; omega) | (simp; done) | (simp; omega)) _)) k
    have HB := Lib.hid HBq
    clear HBq
    have hR : R < w2.heap.size := Nat.lt_of_lt_of_le (by first | exact hR | omega | (simp; done) | (simp; omega)) k.size
    have HR := Lib.hid r
    have hszw2 := k.size
    try simp at hszw2
    clear r k
    go_wp2
    go_ret
    exact ⟨y, rfl, by omega, by omega, KB.keep (by repeat (first | exact KB.refl _ _ _ | exact HB.out | refine KB.drew ?_ | refine KB.drewN ?_ | refine KB.alloc (Nat.le_refl _) ?_ _ | refine KB.setCell ?_ (by first | (show _ ≤ _; omega) | (simp; done) | (simp; omega)) _)), Rd.mono HR.out (by omega)⟩
def DrawAM (w : World) (e : Ending) (w' : World) : Prop :=
  ∃ n k : Int, e = .returned (.tuple #[.int .i64 n, .int .i64 k]) ∧ -1 ≤ n ∧ n ≤ 36525 ∧ -601 ≤ k ∧ k ≤ 601 ∧ Below w.heap.size w w'
set_option maxHeartbeats 1000000 in
theorem drawAddMonths_any (a : Option Addr) (len cap : Nat) (w : World) (hlc : len ≤ cap) (hc : cap ≤ maxLen) (h : IsBytes w a len) :
    Calls Tryd.prog 4 #[.slice a len cap] w (DrawAM w) := by
  have H := Lib.hid h
  clear h
  go_enter Tryd.func4, Tryd.ntmps4
  go_wp2_with fail
  refine (newReader_any _ _ _ _ hlc hc (by repeat (first | exact H.out | refine IsBytes.alloc ?_ _))).mono ?_
  rintro e v1 ⟨rfl, hb, hrd, hszv1⟩
  try simp at hszv1
  replace hszv1 : w.heap.size + 1 ≤ v1.heap.size := by omega
  have hR : w.heap.size < v1.heap.size := by omega
  have hrdq : Rd v1 (w.heap.size) 0 := by simpa using hrd
  have HR := Lib.hid hrdq
  have HBq : KB (w.heap.size) (w.heap.size) w v1 := KB.quiet (Nat.le_refl _) (by repeat (first | exact KB.refl _ _ _ | exact HB.out | refine KB.drew ?_ | refine KB.drewN ?_ | refine KB.alloc (Nat.le_refl _) ?_ _ | refine KB.setCell ?_ (by first | (show _ ≤ _; omega) | (simp; done) | (simp; omega)) _)) hb
  have HB := Lib.hid HBq
  clear hrd hrdq HBq hb
  go_wp2_with fail
  refine (anyDay_any _ _ _ (by first | exact hR | omega | (simp; done) | (simp; omega)) (by omega) (by omega) (Rd.fwd HR.out (by repeat (first | exact Below.refl _ _ | refine Below.drew ?_ | refine bel_drewN _ ?_ | refine Below.alloc ?_ (by first | omega | (simp; done) | (simp; omega)) _ | refine Below.setCell ?_ (by first | (show _ ≤ _; omega) | (simp; done) | (simp; omega)) _)))).mono ?_
  rintro e v2 ⟨n, rfl, n0, n1, k, r⟩
  have HBq : KB (w.heap.size) (w.heap.size) w v2 := KB.callee (Nat.le_refl _) (by repeat (first | exact KB.refl _ _ _ | exact HB.out | refine KB.drew ?_ | refine KB.drewN ?_ | refine KB.alloc (Nat.le_refl _) ?_ _ | refine KB.setCell ?_ (by first | (show _ ≤ _; omega) | (simp; done) | (simp; omega)) _)) k
  have HB := Lib.hid HBq
  clear HBq
  have hR : w.heap.size < v2.heap.size := Nat.lt_of_lt_of_le (by first | exact hR | omega | (simp; done) | (simp; omega)) k.size
  have HR := Lib.hid r
  have hszv2 := k.size
  try simp at hszv2
  clear r k
  go_wp2_with fail
  refine (one_any _ _ _ (-601) (601) _ _ _ (by exact intsIn_lit _ [1, 6, 12, -1, -6, 0, 3, 13, 600, -600, 601, -601] _ _ _ _ _ _ rfl (by first | (simp; done) | (simp; omega) | omega) (by simp; try omega)) (by omega) (by omega) (by first | omega | (simp; done) | (simp; omega)) (by first | omega | (simp; omega)) (by first | exact hR | omega | (simp; done) | (simp; omega)) (by omega) (by omega) (Rd.fwd HR.out (by repeat (first | exact Below.refl _ _ | refine Below.drew ?_ | refine bel_drewN _ ?_ | refine Below.alloc ?_ (by first | omega | (simp; done) | (simp; omega)) _ | refine Below.setCell ?_ (by first | (show _ ≤ _; omega) | (simp; done) | (simp; omega)) _)))).mono ?_
  rintro e v3 ⟨q, rfl, q0, q1, k, r⟩
  have HBq : KB (w.heap.size) (w.heap.size) w v3 := KB.callee (Nat.le_refl _) (by repeat (first | exact KB.refl _ _ _ | exact HB.out | refine KB.drew ?_ | refine KB.drewN ?_ | refine KB.alloc (Nat.le_refl _) ?_ _ | refine KB.setCell ?_ (by first | (show _ ≤ _; omega) | (simp; done) | (simp; omega)) _)) k
  have HB := Lib.hid HBq
  clear HBq
  have hR : w.heap.size < v3.heap.size := Nat.lt_of_lt_of_le (by first | exact hR | omega | (simp; done) | (simp; omega)) k.size
  have HR := Lib.hid r
  have hszv3 := k.size
  try simp at hszv3
  clear r k
  have HF : Hid (Below w.heap.size w v3) := KB.below (R := w.heap.size) (by repeat (first | exact KB.refl _ _ _ | exact HB.out | refine KB.drew ?_ | refine KB.drewN ?_ | refine KB.alloc (Nat.le_refl _) ?_ _ | refine KB.setCell ?_ (by first | (show _ ≤ _; omega) | (simp; done) | (simp; omega)) _)) (by omega)
  go_wp2
  go_ret2
  exact ⟨n, q, rfl, n0, n1, q0, q1, HF.out⟩
def DateP (R : Nat) (K : Int) (w : World) (e : Ending) (w' : World) : Prop :=
  ∃ y m d : Int, e = .returned (.agg #[.int .i64 y, .int .i64 m, .int .i64 d]) ∧ (-100000 ≤ y ∧ y ≤ 100000) ∧ (-100000 ≤ m ∧ m ≤ 100000) ∧ (-100000 ≤ d ∧ d ≤ 100000) ∧ Keep R w w' ∧ Rd w' R (K + 7)
def DrawD (w : World) (e : Ending) (w' : World) : Prop :=
  ∃ y m d : Int, e = .returned (.agg #[.int .i64 y, .int .i64 m, .int .i64 d]) ∧ (-100000 ≤ y ∧ y ≤ 100000) ∧ (-100000 ≤ m ∧ m ≤ 100000) ∧ (-100000 ≤ d ∧ d ≤ 100000) ∧ Below w.heap.size w w'
end Go.Proofs.YtbjphookihgkpaaDoor
