/- The draws of days and dates. -/
import Derived.Test.YtddaaamahdnffaaDoorDate8
import Derived.Test.YtddaaamahdnffaaDoorReader3
namespace Go.Proofs.YtddaaamahdnffaaDoor
open Go.RowKit
set_option linter.unusedVariables false
set_option maxHeartbeats 1000000 in
theorem someDay_any (R : Nat) (K : Int) (w : World) (hR : R < w.heap.size) (hK : 0 ≤ K) (hK' : K ≤ 1000000) (hrd : Rd w R K) :
    Calls Tryd.prog 45 #[.pointer (some ⟨R, 0, none⟩)] w (OnePost 0 36524 R (K + 4) w) := by
  have HR := Lib.hid hrd
  clear hrd
  have HB := Lib.hid (KB.refl w.heap.size R w)
  go_enter Tryd.func45, Tryd.ntmps45
  go_wp2_with fail
  refine (pick_any _ _ _ _ (by first | exact hR | omega | (simp; done) | (simp; omega)) (by omega) (by omega) (by omega) (by omega) (Rd.fwd HR.out (by repeat (first | exact Below.refl _ _ | refine Below.drew ?_ | refine bel_drewN _ ?_ | refine Below.alloc ?_ (by first | omega | (simp; done) | (simp; omega)) _ | refine Below.setCell ?_ (by first | (show _ ≤ _; omega) | (simp; done) | (simp; omega)) _)))).mono ?_
  rintro e w1 ⟨x, rfl, x0, x1, k, r⟩
  have x2 : x ≤ 7 := by omega
  clear x1
  have HBq : KB (w.heap.size) (R) w w1 := KB.callee (Nat.le_refl _) (by repeat (first | exact KB.refl _ _ _ | exact HB.out | refine KB.drew ?_ | refine KB.drewN ?_ | refine KB.alloc (Nat.le_refl _) ?_ _ | refine KB.setCell ?_ (by first | (show _ ≤ _; omega) | (simp; done) | (simp; omega)) _)) k
  have HB := Lib.hid HBq
  clear HBq
  have hR : R < w1.heap.size := Nat.lt_of_lt_of_le (by first | exact hR | omega | (simp; done) | (simp; omega)) k.size
  have HR := Lib.hid r
  have hszw1 := k.size
  try simp at hszw1
  clear r k
  by_cases h0 : x = 0
  · subst h0
    go_wp2_with fail
    refine (one_any _ _ _ (0) (36524) _ _ _ (by exact intsIn_lit _ [0, 36524, 58, 59, 789, 790, 3711, 3712] _ _ _ _ _ _ rfl (by first | (simp; done) | (simp; omega) | omega) (by simp; try omega)) (by omega) (by omega) (by first | omega | (simp; done) | (simp; omega)) (by first | omega | (simp; omega)) (by first | exact hR | omega | (simp; done) | (simp; omega)) (by omega) (by omega) (Rd.fwd HR.out (by repeat (first | exact Below.refl _ _ | refine Below.drew ?_ | refine bel_drewN _ ?_ | refine Below.alloc ?_ (by first | omega | (simp; done) | (simp; omega)) _ | refine Below.setCell ?_ (by first | (show _ ≤ _; omega) | (simp; done) | (simp; omega)) _)))).mono ?_
    rintro e w2 ⟨y, rfl, y0, y1, k, r⟩
    have HBq : KB (w.heap.size) (R) w w2 := KB.callee (Nat.le_refl _) (by repeat (first | exact KB.refl _ _ _ | exact HB.out | refine KB.drew ?_ | refine KB.drewN ?_ | refine KB.alloc (Nat.le_refl _) ?_ _ | refine KB.setCell ?_ (by first | (show _ ≤ _; omega) | (simp; done) | (simp; omega)) _)) k
    have HB := Lib.hid HBq
    clear HBq
    have hR : R < w2.heap.size := Nat.lt_of_lt_of_le (by first | exact hR | omega | (simp; done) | (simp; omega)) k.size
    have HR := Lib.hid r
    have hszw2 := k.size
    try simp at hszw2
    clear r k
    go_wp2
    go_ret
    exact ⟨y, rfl, y0, y1, KB.keep (by repeat (first | exact KB.refl _ _ _ | exact HB.out | refine KB.drew ?_ | refine KB.drewN ?_ | refine KB.alloc (Nat.le_refl _) ?_ _ | refine KB.setCell ?_ (by first | (show _ ≤ _; omega) | (simp; done) | (simp; omega)) _)), Rd.mono HR.out (by omega)⟩
  · have h0' : (x == 0) = false := by simpa using h0
    by_cases h1 : x = 1
    · subst h1
      go_wp2_with fail
      refine (pick_any _ _ _ _ (by first | exact hR | omega | (simp; done) | (simp; omega)) (by omega) (by omega) (by omega) (by omega) (Rd.fwd HR.out (by repeat (first | exact Below.refl _ _ | refine Below.drew ?_ | refine bel_drewN _ ?_ | refine Below.alloc ?_ (by first | omega | (simp; done) | (simp; omega)) _ | refine Below.setCell ?_ (by first | (show _ ≤ _; omega) | (simp; done) | (simp; omega)) _)))).mono ?_
      rintro e w2 ⟨y, rfl, y0, y1, k, r⟩
      have y2 : y ≤ 255 := by omega
      clear y1
      have HBq : KB (w.heap.size) (R) w w2 := KB.callee (Nat.le_refl _) (by repeat (first | exact KB.refl _ _ _ | exact HB.out | refine KB.drew ?_ | refine KB.drewN ?_ | refine KB.alloc (Nat.le_refl _) ?_ _ | refine KB.setCell ?_ (by first | (show _ ≤ _; omega) | (simp; done) | (simp; omega)) _)) k
      have HB := Lib.hid HBq
      clear HBq
      have hR : R < w2.heap.size := Nat.lt_of_lt_of_le (by first | exact hR | omega | (simp; done) | (simp; omega)) k.size
      have HR := Lib.hid r
      have hszw2 := k.size
      try simp at hszw2
      clear r k
      go_wp2
      go_ret
      exact ⟨y * 142, rfl, by omega, by omega, KB.keep (by repeat (first | exact KB.refl _ _ _ | exact HB.out | refine KB.drew ?_ | refine KB.drewN ?_ | refine KB.alloc (Nat.le_refl _) ?_ _ | refine KB.setCell ?_ (by first | (show _ ≤ _; omega) | (simp; done) | (simp; omega)) _)), Rd.mono HR.out (by omega)⟩
    · have h1' : (x == 1) = false := by simpa using h1
      go_wp2_with fail
      refine (pick_any _ _ _ _ (by first | exact hR | omega | (simp; done) | (simp; omega)) (by omega) (by omega) (by omega) (by omega) (Rd.fwd HR.out (by repeat (first | exact Below.refl _ _ | refine Below.drew ?_ | refine bel_drewN _ ?_ | refine Below.alloc ?_ (by first | omega | (simp; done) | (simp; omega)) _ | refine Below.setCell ?_ (by first | (show _ ≤ _; omega) | (simp; done) | (simp; omega)) _)))).mono ?_
      rintro e w2 ⟨y, rfl, y0, y1, k, r⟩
      have y2 : y ≤ 249 := by omega
      clear y1
      have HBq : KB (w.heap.size) (R) w w2 := KB.callee (Nat.le_refl _) (by repeat (first | exact KB.refl _ _ _ | exact HB.out | refine KB.drew ?_ | refine KB.drewN ?_ | refine KB.alloc (Nat.le_refl _) ?_ _ | refine KB.setCell ?_ (by first | (show _ ≤ _; omega) | (simp; done) | (simp; omega)) _)) k
      have HB := Lib.hid HBq
      clear HBq
      have hR : R < w2.heap.size := Nat.lt_of_lt_of_le (by first | exact hR | omega | (simp; done) | (simp; omega)) k.size
      have HR := Lib.hid r
      have hszw2 := k.size
      try simp at hszw2
      clear r k
      go_wp2
      go_ret
      exact ⟨9000 + y * 13, rfl, by omega, by omega, KB.keep (by repeat (first | exact KB.refl _ _ _ | exact HB.out | refine KB.drew ?_ | refine KB.drewN ?_ | refine KB.alloc (Nat.le_refl _) ?_ _ | refine KB.setCell ?_ (by first | (show _ ≤ _; omega) | (simp; done) | (simp; omega)) _)), Rd.mono HR.out (by omega)⟩
set_option maxHeartbeats 1000000 in
theorem anyDay_any (R : Nat) (K : Int) (w : World) (hR : R < w.heap.size) (hK : 0 ≤ K) (hK' : K ≤ 900000) (hrd : Rd w R K) :
    Calls Tryd.prog 37 #[.pointer (some ⟨R, 0, none⟩)] w (OnePost (-1) 36525 R (K + 9) w) := by
  have HR := Lib.hid hrd
  clear hrd
  have HB := Lib.hid (KB.refl w.heap.size R w)
  go_enter Tryd.func37, Tryd.ntmps37
  go_wp2_with fail
  refine (pick_any _ _ _ _ (by first | exact hR | omega | (simp; done) | (simp; omega)) (by omega) (by omega) (by omega) (by omega) (Rd.fwd HR.out (by repeat (first | exact Below.refl _ _ | refine Below.drew ?_ | refine bel_drewN _ ?_ | refine Below.alloc ?_ (by first | omega | (simp; done) | (simp; omega)) _ | refine Below.setCell ?_ (by first | (show _ ≤ _; omega) | (simp; done) | (simp; omega)) _)))).mono ?_
  rintro e w1 ⟨x, rfl, x0, x1, k, r⟩
  have x2 : x ≤ 15 := by omega
  clear x1
  have HBq : KB (w.heap.size) (R) w w1 := KB.callee (Nat.le_refl _) (by repeat (first | exact KB.refl _ _ _ | exact HB.out | refine KB.drew ?_ | refine KB.drewN ?_ | refine KB.alloc (Nat.le_refl _) ?_ _ | refine KB.setCell ?_ (by first | (show _ ≤ _; omega) | (simp; done) | (simp; omega)) _)) k
  have HB := Lib.hid HBq
  clear HBq
  have hR : R < w1.heap.size := Nat.lt_of_lt_of_le (by first | exact hR | omega | (simp; done) | (simp; omega)) k.size
  have HR := Lib.hid r
  have hszw1 := k.size
  try simp at hszw1
  clear r k
  by_cases h0 : x = 0
  · subst h0
    go_wp2_with fail
    refine (one_any _ _ _ (-1) (36525) _ _ _ (by exact intsIn_lit _ [-1, 36525, 36524, 0] _ _ _ _ _ _ rfl (by first | (simp; done) | (simp; omega) | omega) (by simp; try omega)) (by omega) (by omega) (by first | omega | (simp; done) | (simp; omega)) (by first | omega | (simp; omega)) (by first | exact hR | omega | (simp; done) | (simp; omega)) (by omega) (by omega) (Rd.fwd HR.out (by repeat (first | exact Below.refl _ _ | refine Below.drew ?_ | refine bel_drewN _ ?_ | refine Below.alloc ?_ (by first | omega | (simp; done) | (simp; omega)) _ | refine Below.setCell ?_ (by first | (show _ ≤ _; omega) | (simp; done) | (simp; omega)) _)))).mono ?_
    rintro e w2 ⟨y, rfl, y0, y1, k, r⟩
    have HBq : KB (w.heap.size) (R) w w2 := KB.callee (Nat.le_refl _) (by repeat (first | exact KB.refl _ _ _ | exact HB.out | refine KB.drew ?_ | refine KB.drewN ?_ | refine KB.alloc (Nat.le_refl _) ?_ _ | refine KB.setCell ?_ (by first | (show _ ≤ _; omega) | (simp; done) | (simp; omega)) _)) k
    have HB := Lib.hid HBq
    clear HBq
    have hR : R < w2.heap.size := Nat.lt_of_lt_of_le (by first | exact hR | omega | (simp; done) | (simp; omega)) k.size
    have HR := Lib.hid r
    have hszw2 := k.size
    try simp at hszw2
    clear r k
    go_wp2
    go_ret
    exact ⟨y, rfl, y0, y1, KB.keep (by repeat (first | exact KB.refl _ _ _ | exact HB.out | refine KB.drew ?_ | refine KB.drewN ?_ | refine KB.alloc (Nat.le_refl _) ?_ _ | refine KB.setCell ?_ (by first | (show _ ≤ _; omega) | (simp; done) | (simp; omega)) _)), Rd.mono HR.out (by omega)⟩
  · have h0' : (x == 0) = false := by simpa using h0
    go_wp2_with fail
    refine (someDay_any _ _ _ (by first | exact hR | omega | (simp; done) | (simp; omega)) (by omega) (by omega) (Rd.fwd HR.out (by repeat (first | exact Below.refl _ _ | refine Below.drew ?_ | refine bel_drewN _ ?_ | refine Below.alloc ?_ (by first | omega | (simp; done) | (simp; omega)) _ | refine Below.setCell ?_ (by first | (show _ ≤ _; omega) | (simp; done) | (simp; omega)) _)))).mono ?_
    rintro e w2 ⟨y, rfl, y0, y1, k, r⟩
    have HBq : KB (w.heap.size) (R) w w2 := KB.callee (Nat.le_refl _) (by repeat (first | exact KB.refl _ _ _ | exact HB.out | refine KB.drew ?_ | refine KB.drewN ?_ | refine KB.alloc (Nat.le_refl _) ?_ _ | refine KB.setCell ?_ (by first | (show _ ≤ _; omega) | (simp; done) | (simp; omega)) _)) k
    have HB := Lib.hid HBq
    clear HBq
    have hR : R < w2.heap.size := Nat.lt_of_lt_of_le (by first | exact hR | omega | (simp; done) | (simp; omega)) k.size
    have HR := Lib.hid r
    have hszw2 := k.size
    try simp at hszw2
    clear r k
    go_wp2
    go_ret
    exact ⟨y, rfl, by omega, by omega, KB.keep (by repeat (first | exact KB.refl _ _ _ | exact HB.out | refine KB.drew ?_ | refine KB.drewN ?_ | refine KB.alloc (Nat.le_refl _) ?_ _ | refine KB.setCell ?_ (by first | (show _ ≤ _; omega) | (simp; done) | (simp; omega)) _)), Rd.mono HR.out (by omega)⟩
theorem drawDateOf_any (a : Option Addr) (len cap : Nat) (w : World) (hlc : len ≤ cap) (hc : cap ≤ maxLen) (h : IsBytes w a len) :
    Calls Tryd.prog 20 #[.slice a len cap] w (fun e w' => ∃ n : Int, e = .returned (.int .i64 n) ∧ -1 ≤ n ∧ n ≤ 36525 ∧ Below w.heap.size w w') := by
  have H := Lib.hid h
  clear h
  go_enter Tryd.func20, Tryd.ntmps20
  go_wp2_with fail
  refine (newReader_any _ _ _ _ hlc hc (by repeat (first | exact H.out | refine IsBytes.alloc ?_ _))).mono ?_
  rintro e v1 ⟨rfl, hb, hrd, hszv1⟩
  try simp at hszv1
  replace hszv1 : w.heap.size + 1 ≤ v1.heap.size := by omega
  have hR : w.heap.size < v1.heap.size := by omega
  have hrdq : Rd v1 (w.heap.size) 0 := by simpa using hrd
  have HR := Lib.hid hrdq
  have HBq : KB (w.heap.size) (w.heap.size) w v1 := KB.quiet (Nat.le_refl _) (by repeat (first | exact KB.refl _ _ _ | exact HB.out | refine KB.drew ?_ | refine KB.drewN ?_ | refine KB.alloc (Nat.le_refl _) ?_ _ | refine KB.setCell ?_ (by first | (show _ ≤ _; omega) | (simp; done) | (simp; omega)) _)) hb
  have HB := Lib.hid HBq
  clear hrd hrdq HBq hb
  go_wp2_with fail
  refine (anyDay_any _ _ _ (by first | exact hR | omega | (simp; done) | (simp; omega)) (by omega) (by omega) (Rd.fwd HR.out (by repeat (first | exact Below.refl _ _ | refine Below.drew ?_ | refine bel_drewN _ ?_ | refine Below.alloc ?_ (by first | omega | (simp; done) | (simp; omega)) _ | refine Below.setCell ?_ (by first | (show _ ≤ _; omega) | (simp; done) | (simp; omega)) _)))).mono ?_
  rintro e v2 ⟨n, rfl, n0, n1, k, r⟩
  have HBq : KB (w.heap.size) (w.heap.size) w v2 := KB.callee (Nat.le_refl _) (by repeat (first | exact KB.refl _ _ _ | exact HB.out | refine KB.drew ?_ | refine KB.drewN ?_ | refine KB.alloc (Nat.le_refl _) ?_ _ | refine KB.setCell ?_ (by first | (show _ ≤ _; omega) | (simp; done) | (simp; omega)) _)) k
  have HB := Lib.hid HBq
  clear HBq
  have hR : w.heap.size < v2.heap.size := Nat.lt_of_lt_of_le (by first | exact hR | omega | (simp; done) | (simp; omega)) k.size
  have HR := Lib.hid r
  have hszv2 := k.size
  try simp at hszv2
  clear r k
  have HF : Hid (Below w.heap.size w v2) := KB.below (R := w.heap.size) (by repeat (first | exact KB.refl _ _ _ | exact HB.out | refine KB.drew ?_ | refine KB.drewN ?_ | refine KB.alloc (Nat.le_refl _) ?_ _ | refine KB.setCell ?_ (by first | (show _ ≤ _; omega) | (simp; done) | (simp; omega)) _)) (by omega)
  go_wp2
  go_ret
  exact ⟨n, rfl, n0, n1, HF.out⟩
def DrawAM (w : World) (e : Ending) (w' : World) : Prop :=
  ∃ n k : Int, e = .returned (.tuple #[.int .i64 n, .int .i64 k]) ∧ -1 ≤ n ∧ n ≤ 36525 ∧ -601 ≤ k ∧ k ≤ 601 ∧ Below w.heap.size w w'
set_option maxHeartbeats 1000000 in
theorem drawAddMonths_any (a : Option Addr) (len cap : Nat) (w : World) (hlc : len ≤ cap) (hc : cap ≤ maxLen) (h : IsBytes w a len) :
    Calls Tryd.prog 24 #[.slice a len cap] w (DrawAM w) := by
  have H := Lib.hid h
  clear h
  go_enter Tryd.func24, Tryd.ntmps24
  go_wp2_with fail
  refine (newReader_any _ _ _ _ hlc hc (by repeat (first | exact H.out | refine IsBytes.alloc ?_ _))).mono ?_
  rintro e v1 ⟨rfl, hb, hrd, hszv1⟩
  try simp at hszv1
  replace hszv1 : w.heap.size + 1 ≤ v1.heap.size := by omega
  have hR : w.heap.size < v1.heap.size := by omega
  have hrdq : Rd v1 (w.heap.size) 0 := by simpa using hrd
  have HR := Lib.hid hrdq
  have HBq : KB (w.heap.size) (w.heap.size) w v1 := KB.quiet (Nat.le_refl _) (by repeat (first | exact KB.refl _ _ _ | exact HB.out | refine KB.drew ?_ | refine KB.drewN ?_ | refine KB.alloc (Nat.le_refl _) ?_ _ | refine KB.setCell ?_ (by first | (show _ ≤ _; omega) | (simp; done) | (simp; omega)) _)) hb
  have HB := Lib.hid HBq
  clear hrd hrdq HBq hb
  go_wp2_with fail
  refine (anyDay_any _ _ _ (by first | exact hR | omega | (simp; done) | (simp; omega)) (by omega) (by omega) (Rd.fwd HR.out (by repeat (first | exact Below.refl _ _ | refine Below.drew ?_ | refine bel_drewN _ ?_ | refine Below.alloc ?_ (by first | omega | (simp; done) | (simp; omega)) _ | refine Below.setCell ?_ (by first | (show _ ≤ _; omega) | (simp; done) | (simp; omega)) _)))).mono ?_
  rintro e v2 ⟨n, rfl, n0, n1, k, r⟩
  have HBq : KB (w.heap.size) (w.heap.size) w v2 := KB.callee (Nat.le_refl _) (by repeat (first | exact KB.refl _ _ _ | exact HB.out | refine KB.drew ?_ | refine KB.drewN ?_ | refine KB.alloc (Nat.le_refl _) ?_ _ | refine KB.setCell ?_ (by first | (show _ ≤ _; omega) | (simp; done) | (simp; omega)) _)) k
  have HB := Lib.hid HBq
  clear HBq
  have hR : w.heap.size < v2.heap.size := Nat.lt_of_lt_of_le (by first | exact hR | omega | (simp; done) | (simp; omega)) k.size
  have HR := Lib.hid r
  have hszv2 := k.size
  try simp at hszv2
  clear r k
  go_wp2_with fail
  refine (one_any _ _ _ (-601) (601) _ _ _ (by exact intsIn_lit _ [1, 6, 12, -1, -6, 0, 3, 13, 600, -600, 601, -601] _ _ _ _ _ _ rfl (by first | (simp; done) | (simp; omega) | omega) (by simp; try omega)) (by omega) (by omega) (by first | omega | (simp; done) | (simp; omega)) (by first | omega | (simp; omega)) (by first | exact hR | omega | (simp; done) | (simp; omega)) (by omega) (by omega) (Rd.fwd HR.out (by repeat (first | exact Below.refl _ _ | refine Below.drew ?_ | refine bel_drewN _ ?_ | refine Below.alloc ?_ (by first | omega | (simp; done) | (simp; omega)) _ | refine Below.setCell ?_ (by first | (show _ ≤ _; omega) | (simp; done) | (simp; omega)) _)))).mono ?_
  rintro e v3 ⟨q, rfl, q0, q1, k, r⟩
  have HBq : KB (w.heap.size) (w.heap.size) w v3 := KB.callee (Nat.le_refl _) (by repeat (first | exact KB.refl _ _ _ | exact HB.out | refine KB.drew ?_ | refine KB.drewN ?_ | refine KB.alloc (Nat.le_refl _) ?_ _ | refine KB.setCell ?_ (by first | (show _ ≤ _; omega) | (simp; done) | (simp; omega)) _)) k
  have HB := Lib.hid HBq
  clear HBq
  have hR : w.heap.size < v3.heap.size := Nat.lt_of_lt_of_le (by first | exact hR | omega | (simp; done) | (simp; omega)) k.size
  have HR := Lib.hid r
  have hszv3 := k.size
  try simp at hszv3
  clear r k
  have HF : Hid (Below w.heap.size w v3) := KB.below (R := w.heap.size) (by repeat (first | exact KB.refl _ _ _ | exact HB.out | refine KB.drew ?_ | refine KB.drewN ?_ | refine KB.alloc (Nat.le_refl _) ?_ _ | refine KB.setCell ?_ (by first | (show _ ≤ _; omega) | (simp; done) | (simp; omega)) _)) (by omega)
  go_wp2
  go_ret2
  exact ⟨n, q, rfl, n0, n1, q0, q1, HF.out⟩
def DateP (R : Nat) (K : Int) (w : World) (e : Ending) (w' : World) : Prop :=
  ∃ y m d : Int, e = .returned (.agg #[.int .i64 y, .int .i64 m, .int .i64 d]) ∧ (-100000 ≤ y ∧ y ≤ 100000) ∧ (-100000 ≤ m ∧ m ≤ 100000) ∧ (-100000 ≤ d ∧ d ≤ 100000) ∧ Keep R w w' ∧ Rd w' R (K + 7)
set_option maxHeartbeats 2000000 in
theorem anyDate_any (R : Nat) (K : Int) (w : World) (hR : R < w.heap.size) (hK : 0 ≤ K) (hK' : K ≤ 900000) (hrd : Rd w R K) :
    Calls Tryd.prog 35 #[.pointer (some ⟨R, 0, none⟩)] w (DateP R K w) := by
  have HR := Lib.hid hrd
  clear hrd
  have HB := Lib.hid (KB.refl w.heap.size R w)
  have hRw : R < w.heap.size := hR
  go_enter Tryd.func35, Tryd.ntmps35
  go_wp2_with fail
  refine (someDay_any _ _ _ (by first | exact hR | omega | (simp; done) | (simp; omega)) (by omega) (by omega) (Rd.fwd HR.out (by repeat (first | exact Below.refl _ _ | refine Below.drew ?_ | refine bel_drewN _ ?_ | refine Below.alloc ?_ (by first | omega | (simp; done) | (simp; omega)) _ | refine Below.setCell ?_ (by first | (show _ ≤ _; omega) | (simp; done) | (simp; omega)) _)))).mono ?_
  rintro e w1 ⟨n, rfl, n0, n1, k, r⟩
  have HBq : KB (w.heap.size) (R) w w1 := KB.callee (Nat.le_refl _) (by repeat (first | exact KB.refl _ _ _ | exact HB.out | refine KB.drew ?_ | refine KB.drewN ?_ | refine KB.alloc (Nat.le_refl _) ?_ _ | refine KB.setCell ?_ (by first | (show _ ≤ _; omega) | (simp; done) | (simp; omega)) _)) k
  have HB := Lib.hid HBq
  clear HBq
  have hR : R < w1.heap.size := Nat.lt_of_lt_of_le (by first | exact hR | omega | (simp; done) | (simp; omega)) k.size
  have HR := Lib.hid r
  have a0_1 : w1.cell? ⟨w.heap.size, 0, none⟩ = some (.int .i64 0) := kc k (by first | (simp; done) | go_simp) (by show w.heap.size ≠ _; omega)
  have af0_1 : w1.frozen? ⟨w.heap.size, 0, none⟩ = false := kf k (by first | (simp; done) | (simp; omega) | (show w.heap.size < _; omega)) (by show w.heap.size ≠ _; omega) (by first | (simp; done) | go_simp)
  have a1_1 : w1.cell? ⟨w.heap.size, 1, none⟩ = some (.int .i64 0) := kc k (by first | (simp; done) | go_simp) (by show w.heap.size ≠ _; omega)
  have af1_1 : w1.frozen? ⟨w.heap.size, 1, none⟩ = false := kf k (by first | (simp; done) | (simp; omega) | (show w.heap.size < _; omega)) (by show w.heap.size ≠ _; omega) (by first | (simp; done) | go_simp)
  have a2_1 : w1.cell? ⟨w.heap.size, 2, none⟩ = some (.int .i64 0) := kc k (by first | (simp; done) | go_simp) (by show w.heap.size ≠ _; omega)
  have af2_1 : w1.frozen? ⟨w.heap.size, 2, none⟩ = false := kf k (by first | (simp; done) | (simp; omega) | (show w.heap.size < _; omega)) (by show w.heap.size ≠ _; omega) (by first | (simp; done) | go_simp)
  have al_1 : w.heap.size < w1.heap.size := cell_lt a0_1
  have hszw1 := k.size
  try simp at hszw1
  clear r k
  have hd := (date_ok ⟨n0, n1⟩).1
  obtain ⟨⟨a1, a2⟩, ⟨a3, a4⟩, ⟨a5, a6⟩⟩ := hd
  have a7 := @dim_bd (dY n) (dM n)
  obtain ⟨_, a7⟩ := a7
  go_wp2_with fail
  refine (dateOfS_any n _ n0 n1).mono ?_
  rintro e w2 ⟨rfl, hb⟩
  have HR := Lib.hid (Rd.fwd HR.out (Below.trans (by repeat (first | exact Below.refl _ _ | refine Below.drew ?_ | refine bel_drewN _ ?_ | refine Below.alloc ?_ (by first | omega | (simp; done) | (simp; omega)) _ | refine Below.setCell ?_ (by first | (show _ ≤ _; omega) | (simp; done) | (simp; omega)) _)) (hb.mono (by first | exact hR | omega | (simp; done) | (simp; omega)))))
  have HBq : KB (w.heap.size) (R) w w2 := KB.quiet (Nat.le_refl _) (by repeat (first | exact KB.refl _ _ _ | exact HB.out | refine KB.drew ?_ | refine KB.drewN ?_ | refine KB.alloc (Nat.le_refl _) ?_ _ | refine KB.setCell ?_ (by first | (show _ ≤ _; omega) | (simp; done) | (simp; omega)) _)) hb
  have HB := Lib.hid HBq
  clear HBq
  have hR := Nat.lt_of_lt_of_le (show _ < _ from by first | exact hR | omega | (simp; done) | (simp; omega)) hb.size
  have a0_2 : w2.cell? ⟨w.heap.size, 0, none⟩ = some (.int .i64 0) := bc hb (by first | exact a0_1 | exact ca a0_1 | exact ca (ca a0_1) | exact ca (ca (ca a0_1)) | (simp; done) | go_simp)
  have af0_2 : w2.frozen? ⟨w.heap.size, 0, none⟩ = false := bf hb (by first | (simp; done) | (simp; omega) | (show w.heap.size < _; omega)) (by first | exact af0_1 | exact fa (by show w.heap.size < _; omega) af0_1 | exact fa (by show w.heap.size < _; simp; omega) (fa (by show w.heap.size < _; omega) af0_1) | (simp; done) | go_simp)
  have a1_2 : w2.cell? ⟨w.heap.size, 1, none⟩ = some (.int .i64 0) := bc hb (by first | exact a1_1 | exact ca a1_1 | exact ca (ca a1_1) | exact ca (ca (ca a1_1)) | (simp; done) | go_simp)
  have af1_2 : w2.frozen? ⟨w.heap.size, 1, none⟩ = false := bf hb (by first | (simp; done) | (simp; omega) | (show w.heap.size < _; omega)) (by first | exact af1_1 | exact fa (by show w.heap.size < _; omega) af1_1 | exact fa (by show w.heap.size < _; simp; omega) (fa (by show w.heap.size < _; omega) af1_1) | (simp; done) | go_simp)
  have a2_2 : w2.cell? ⟨w.heap.size, 2, none⟩ = some (.int .i64 0) := bc hb (by first | exact a2_1 | exact ca a2_1 | exact ca (ca a2_1) | exact ca (ca (ca a2_1)) | (simp; done) | go_simp)
  have af2_2 : w2.frozen? ⟨w.heap.size, 2, none⟩ = false := bf hb (by first | (simp; done) | (simp; omega) | (show w.heap.size < _; omega)) (by first | exact af2_1 | exact fa (by show w.heap.size < _; omega) af2_1 | exact fa (by show w.heap.size < _; simp; omega) (fa (by show w.heap.size < _; omega) af2_1) | (simp; done) | go_simp)
  have al_2 : w.heap.size < w2.heap.size := cell_lt a0_2
  clear a0_1 af0_1 a1_1 af1_1 a2_1 af2_1 al_1
  have z2 := below_size hb
  try simp at z2
  go_wp2_with fail
  refine (pick_any _ _ _ _ (by first | exact hR | omega | (simp; done) | (simp; omega)) (by omega) (by omega) (by omega) (by omega) (Rd.fwd HR.out (by repeat (first | exact Below.refl _ _ | refine Below.drew ?_ | refine bel_drewN _ ?_ | refine Below.alloc ?_ (by first | omega | (simp; done) | (simp; omega)) _ | refine Below.setCell ?_ (by first | (show _ ≤ _; omega) | (simp; done) | (simp; omega)) _)))).mono ?_
  rintro e w3 ⟨z, rfl, z0, z1, k, r⟩
  have z2 : z ≤ 15 := by omega
  clear z1
  have HBq : KB (w.heap.size) (R) w w3 := KB.callee (Nat.le_refl _) (by repeat (first | exact KB.refl _ _ _ | exact HB.out | refine KB.drew ?_ | refine KB.drewN ?_ | refine KB.alloc (Nat.le_refl _) ?_ _ | refine KB.setCell ?_ (by first | (show _ ≤ _; omega) | (simp; done) | (simp; omega)) _)) k
  have HB := Lib.hid HBq
  clear HBq
  have hR : R < w3.heap.size := Nat.lt_of_lt_of_le (by first | exact hR | omega | (simp; done) | (simp; omega)) k.size
  have HR := Lib.hid r
  have a0_3 : w3.cell? ⟨w.heap.size, 0, none⟩ = some (.int .i64 0) := kc k (by first | exact a0_2 | exact ca a0_2 | exact ca (ca a0_2) | exact ca (ca (ca a0_2)) | (simp; done) | go_simp) (by show w.heap.size ≠ _; omega)
  have af0_3 : w3.frozen? ⟨w.heap.size, 0, none⟩ = false := kf k (by first | (simp; done) | (simp; omega) | (show w.heap.size < _; omega)) (by show w.heap.size ≠ _; omega) (by first | exact af0_2 | exact fa (by show w.heap.size < _; omega) af0_2 | exact fa (by show w.heap.size < _; simp; omega) (fa (by show w.heap.size < _; omega) af0_2) | (simp; done) | go_simp)
  have a1_3 : w3.cell? ⟨w.heap.size, 1, none⟩ = some (.int .i64 0) := kc k (by first | exact a1_2 | exact ca a1_2 | exact ca (ca a1_2) | exact ca (ca (ca a1_2)) | (simp; done) | go_simp) (by show w.heap.size ≠ _; omega)
  have af1_3 : w3.frozen? ⟨w.heap.size, 1, none⟩ = false := kf k (by first | (simp; done) | (simp; omega) | (show w.heap.size < _; omega)) (by show w.heap.size ≠ _; omega) (by first | exact af1_2 | exact fa (by show w.heap.size < _; omega) af1_2 | exact fa (by show w.heap.size < _; simp; omega) (fa (by show w.heap.size < _; omega) af1_2) | (simp; done) | go_simp)
  have a2_3 : w3.cell? ⟨w.heap.size, 2, none⟩ = some (.int .i64 0) := kc k (by first | exact a2_2 | exact ca a2_2 | exact ca (ca a2_2) | exact ca (ca (ca a2_2)) | (simp; done) | go_simp) (by show w.heap.size ≠ _; omega)
  have af2_3 : w3.frozen? ⟨w.heap.size, 2, none⟩ = false := kf k (by first | (simp; done) | (simp; omega) | (show w.heap.size < _; omega)) (by show w.heap.size ≠ _; omega) (by first | exact af2_2 | exact fa (by show w.heap.size < _; omega) af2_2 | exact fa (by show w.heap.size < _; simp; omega) (fa (by show w.heap.size < _; omega) af2_2) | (simp; done) | go_simp)
  have al_3 : w.heap.size < w3.heap.size := cell_lt a0_3
  clear a0_2 af0_2 a1_2 af1_2 a2_2 af2_2 al_2
  have c0_1 : w3.cell? ⟨w2.heap.size, 0, none⟩ = some (.int .i64 (dY n)) := kc k (by first | (simp; done) | go_simp) (by show w2.heap.size ≠ _; omega)
  have cf0_1 : w3.frozen? ⟨w2.heap.size, 0, none⟩ = false := kf k (by first | (simp; done) | (simp; omega) | (show w2.heap.size < _; omega)) (by show w2.heap.size ≠ _; omega) (by first | (simp; done) | go_simp)
  have c1_1 : w3.cell? ⟨w2.heap.size, 1, none⟩ = some (.int .i64 (dM n)) := kc k (by first | (simp; done) | go_simp) (by show w2.heap.size ≠ _; omega)
  have cf1_1 : w3.frozen? ⟨w2.heap.size, 1, none⟩ = false := kf k (by first | (simp; done) | (simp; omega) | (show w2.heap.size < _; omega)) (by show w2.heap.size ≠ _; omega) (by first | (simp; done) | go_simp)
  have c2_1 : w3.cell? ⟨w2.heap.size, 2, none⟩ = some (.int .i64 (dD n)) := kc k (by first | (simp; done) | go_simp) (by show w2.heap.size ≠ _; omega)
  have cf2_1 : w3.frozen? ⟨w2.heap.size, 2, none⟩ = false := kf k (by first | (simp; done) | (simp; omega) | (show w2.heap.size < _; omega)) (by show w2.heap.size ≠ _; omega) (by first | (simp; done) | go_simp)
  have cl_1 : w2.heap.size < w3.heap.size := cell_lt c0_1
  have hszw3 := k.size
  try simp at hszw3
  clear r k
  have hne : w2.heap.size ≠ w.heap.size := by omega
  by_cases hz0 : z = 0
  · subst hz0
    go_wp2_with fail
    refine (one_any _ _ _ (0) (32) _ _ _ (by exact intsIn_lit _ [0, 29, 30, 31, 32] _ _ _ _ _ _ rfl (by first | (simp; done) | (simp; omega) | omega) (by simp; try omega)) (by omega) (by omega) (by first | omega | (simp; done) | (simp; omega)) (by first | omega | (simp; omega)) (by first | exact hR | omega | (simp; done) | (simp; omega)) (by omega) (by omega) (Rd.fwd HR.out (by repeat (first | exact Below.refl _ _ | refine Below.drew ?_ | refine bel_drewN _ ?_ | refine Below.alloc ?_ (by first | omega | (simp; done) | (simp; omega)) _ | refine Below.setCell ?_ (by first | (show _ ≤ _; omega) | (simp; done) | (simp; omega)) _)))).mono ?_
    rintro e u1 ⟨q, rfl, q0, q1, k, r⟩
    have HBq : KB (w.heap.size) (R) w u1 := KB.callee (Nat.le_refl _) (by repeat (first | exact KB.refl _ _ _ | exact HB.out | refine KB.drew ?_ | refine KB.drewN ?_ | refine KB.alloc (Nat.le_refl _) ?_ _ | refine KB.setCell ?_ (by first | (show _ ≤ _; omega) | (simp; done) | (simp; omega)) _)) k
    have HB := Lib.hid HBq
    clear HBq
    have hR : R < u1.heap.size := Nat.lt_of_lt_of_le (by first | exact hR | omega | (simp; done) | (simp; omega)) k.size
    have HR := Lib.hid r
    have a0_4 : u1.cell? ⟨w.heap.size, 0, none⟩ = some (.int .i64 0) := kc k (by first | exact a0_3 | exact ca a0_3 | exact ca (ca a0_3) | exact ca (ca (ca a0_3)) | (simp; done) | go_simp) (by show w.heap.size ≠ _; omega)
    have af0_4 : u1.frozen? ⟨w.heap.size, 0, none⟩ = false := kf k (by first | (simp; done) | (simp; omega) | (show w.heap.size < _; omega)) (by show w.heap.size ≠ _; omega) (by first | exact af0_3 | exact fa (by show w.heap.size < _; omega) af0_3 | exact fa (by show w.heap.size < _; simp; omega) (fa (by show w.heap.size < _; omega) af0_3) | (simp; done) | go_simp)
    have a1_4 : u1.cell? ⟨w.heap.size, 1, none⟩ = some (.int .i64 0) := kc k (by first | exact a1_3 | exact ca a1_3 | exact ca (ca a1_3) | exact ca (ca (ca a1_3)) | (simp; done) | go_simp) (by show w.heap.size ≠ _; omega)
    have af1_4 : u1.frozen? ⟨w.heap.size, 1, none⟩ = false := kf k (by first | (simp; done) | (simp; omega) | (show w.heap.size < _; omega)) (by show w.heap.size ≠ _; omega) (by first | exact af1_3 | exact fa (by show w.heap.size < _; omega) af1_3 | exact fa (by show w.heap.size < _; simp; omega) (fa (by show w.heap.size < _; omega) af1_3) | (simp; done) | go_simp)
    have a2_4 : u1.cell? ⟨w.heap.size, 2, none⟩ = some (.int .i64 0) := kc k (by first | exact a2_3 | exact ca a2_3 | exact ca (ca a2_3) | exact ca (ca (ca a2_3)) | (simp; done) | go_simp) (by show w.heap.size ≠ _; omega)
    have af2_4 : u1.frozen? ⟨w.heap.size, 2, none⟩ = false := kf k (by first | (simp; done) | (simp; omega) | (show w.heap.size < _; omega)) (by show w.heap.size ≠ _; omega) (by first | exact af2_3 | exact fa (by show w.heap.size < _; omega) af2_3 | exact fa (by show w.heap.size < _; simp; omega) (fa (by show w.heap.size < _; omega) af2_3) | (simp; done) | go_simp)
    have al_4 : w.heap.size < u1.heap.size := cell_lt a0_4
    clear a0_3 af0_3 a1_3 af1_3 a2_3 af2_3 al_3
    have c0_2 : u1.cell? ⟨w2.heap.size, 0, none⟩ = some (.int .i64 (dY n)) := kc k (by first | exact c0_1 | exact ca c0_1 | exact ca (ca c0_1) | exact ca (ca (ca c0_1)) | (simp; done) | go_simp) (by show w2.heap.size ≠ _; omega)
    have cf0_2 : u1.frozen? ⟨w2.heap.size, 0, none⟩ = false := kf k (by first | (simp; done) | (simp; omega) | (show w2.heap.size < _; omega)) (by show w2.heap.size ≠ _; omega) (by first | exact cf0_1 | exact fa (by show w2.heap.size < _; omega) cf0_1 | exact fa (by show w2.heap.size < _; simp; omega) (fa (by show w2.heap.size < _; omega) cf0_1) | (simp; done) | go_simp)
    have c1_2 : u1.cell? ⟨w2.heap.size, 1, none⟩ = some (.int .i64 (dM n)) := kc k (by first | exact c1_1 | exact ca c1_1 | exact ca (ca c1_1) | exact ca (ca (ca c1_1)) | (simp; done) | go_simp) (by show w2.heap.size ≠ _; omega)
    have cf1_2 : u1.frozen? ⟨w2.heap.size, 1, none⟩ = false := kf k (by first | (simp; done) | (simp; omega) | (show w2.heap.size < _; omega)) (by show w2.heap.size ≠ _; omega) (by first | exact cf1_1 | exact fa (by show w2.heap.size < _; omega) cf1_1 | exact fa (by show w2.heap.size < _; simp; omega) (fa (by show w2.heap.size < _; omega) cf1_1) | (simp; done) | go_simp)
    have c2_2 : u1.cell? ⟨w2.heap.size, 2, none⟩ = some (.int .i64 (dD n)) := kc k (by first | exact c2_1 | exact ca c2_1 | exact ca (ca c2_1) | exact ca (ca (ca c2_1)) | (simp; done) | go_simp) (by show w2.heap.size ≠ _; omega)
    have cf2_2 : u1.frozen? ⟨w2.heap.size, 2, none⟩ = false := kf k (by first | (simp; done) | (simp; omega) | (show w2.heap.size < _; omega)) (by show w2.heap.size ≠ _; omega) (by first | exact cf2_1 | exact fa (by show w2.heap.size < _; omega) cf2_1 | exact fa (by show w2.heap.size < _; simp; omega) (fa (by show w2.heap.size < _; omega) cf2_1) | (simp; done) | go_simp)
    have cl_2 : w2.heap.size < u1.heap.size := cell_lt c0_2
    clear c0_1 cf0_1 c1_1 cf1_1 c2_1 cf2_1 cl_1
    have hszu1 := k.size
    try simp at hszu1
    clear r k
    have hne : w2.heap.size ≠ w.heap.size := by omega
    go_wp2
    refine bodyPost_ret (v := .agg #[.int .i64 (dY n), .int .i64 (dM n), .int .i64 q]) (by simp [results, Tryd.results35, go_sem, *]) rfl ⟨_, _, _, rfl, ⟨by omega, by omega⟩, ⟨by omega, by omega⟩, ⟨by omega, by omega⟩, KB.keep (by repeat (first | exact KB.refl _ _ _ | exact HB.out | refine KB.drew ?_ | refine KB.drewN ?_ | refine KB.alloc (Nat.le_refl _) ?_ _ | refine KB.setCell ?_ (by first | (show _ ≤ _; omega) | (simp; done) | (simp; omega)) _)), ?_⟩
    exact Rd.mono (Rd.fwd HR.out (by repeat (first | exact Below.refl _ _ | refine Below.drew ?_ | refine bel_drewN _ ?_ | refine Below.alloc ?_ (by first | omega | (simp; done) | (simp; omega)) _ | refine Below.setCell ?_ (by first | (show _ ≤ _; omega) | (simp; done) | (simp; omega)) _))) (by omega)
  · have hz0' : (z == 0) = false := by simpa using hz0
    by_cases hz1 : z = 1
    · subst hz1
      go_wp2_with fail
      refine (one_any _ _ _ (0) (13) _ _ _ (by exact intsIn_lit _ [0, 2, 13] _ _ _ _ _ _ rfl (by first | (simp; done) | (simp; omega) | omega) (by simp; try omega)) (by omega) (by omega) (by first | omega | (simp; done) | (simp; omega)) (by first | omega | (simp; omega)) (by first | exact hR | omega | (simp; done) | (simp; omega)) (by omega) (by omega) (Rd.fwd HR.out (by repeat (first | exact Below.refl _ _ | refine Below.drew ?_ | refine bel_drewN _ ?_ | refine Below.alloc ?_ (by first | omega | (simp; done) | (simp; omega)) _ | refine Below.setCell ?_ (by first | (show _ ≤ _; omega) | (simp; done) | (simp; omega)) _)))).mono ?_
      rintro e u1 ⟨q, rfl, q0, q1, k, r⟩
      have HBq : KB (w.heap.size) (R) w u1 := KB.callee (Nat.le_refl _) (by repeat (first | exact KB.refl _ _ _ | exact HB.out | refine KB.drew ?_ | refine KB.drewN ?_ | refine KB.alloc (Nat.le_refl _) ?_ _ | refine KB.setCell ?_ (by first | (show _ ≤ _; omega) | (simp; done) | (simp; omega)) _)) k
      have HB := Lib.hid HBq
      clear HBq
      have hR : R < u1.heap.size := Nat.lt_of_lt_of_le (by first | exact hR | omega | (simp; done) | (simp; omega)) k.size
      have HR := Lib.hid r
      have a0_4 : u1.cell? ⟨w.heap.size, 0, none⟩ = some (.int .i64 0) := kc k (by first | exact a0_3 | exact ca a0_3 | exact ca (ca a0_3) | exact ca (ca (ca a0_3)) | (simp; done) | go_simp) (by show w.heap.size ≠ _; omega)
      have af0_4 : u1.frozen? ⟨w.heap.size, 0, none⟩ = false := kf k (by first | (simp; done) | (simp; omega) | (show w.heap.size < _; omega)) (by show w.heap.size ≠ _; omega) (by first | exact af0_3 | exact fa (by show w.heap.size < _; omega) af0_3 | exact fa (by show w.heap.size < _; simp; omega) (fa (by show w.heap.size < _; omega) af0_3) | (simp; done) | go_simp)
      have a1_4 : u1.cell? ⟨w.heap.size, 1, none⟩ = some (.int .i64 0) := kc k (by first | exact a1_3 | exact ca a1_3 | exact ca (ca a1_3) | exact ca (ca (ca a1_3)) | (simp; done) | go_simp) (by show w.heap.size ≠ _; omega)
      have af1_4 : u1.frozen? ⟨w.heap.size, 1, none⟩ = false := kf k (by first | (simp; done) | (simp; omega) | (show w.heap.size < _; omega)) (by show w.heap.size ≠ _; omega) (by first | exact af1_3 | exact fa (by show w.heap.size < _; omega) af1_3 | exact fa (by show w.heap.size < _; simp; omega) (fa (by show w.heap.size < _; omega) af1_3) | (simp; done) | go_simp)
      have a2_4 : u1.cell? ⟨w.heap.size, 2, none⟩ = some (.int .i64 0) := kc k (by first | exact a2_3 | exact ca a2_3 | exact ca (ca a2_3) | exact ca (ca (ca a2_3)) | (simp; done) | go_simp) (by show w.heap.size ≠ _; omega)
      have af2_4 : u1.frozen? ⟨w.heap.size, 2, none⟩ = false := kf k (by first | (simp; done) | (simp; omega) | (show w.heap.size < _; omega)) (by show w.heap.size ≠ _; omega) (by first | exact af2_3 | exact fa (by show w.heap.size < _; omega) af2_3 | exact fa (by show w.heap.size < _; simp; omega) (fa (by show w.heap.size < _; omega) af2_3) | (simp; done) | go_simp)
      have al_4 : w.heap.size < u1.heap.size := cell_lt a0_4
      clear a0_3 af0_3 a1_3 af1_3 a2_3 af2_3 al_3
      have c0_2 : u1.cell? ⟨w2.heap.size, 0, none⟩ = some (.int .i64 (dY n)) := kc k (by first | exact c0_1 | exact ca c0_1 | exact ca (ca c0_1) | exact ca (ca (ca c0_1)) | (simp; done) | go_simp) (by show w2.heap.size ≠ _; omega)
      have cf0_2 : u1.frozen? ⟨w2.heap.size, 0, none⟩ = false := kf k (by first | (simp; done) | (simp; omega) | (show w2.heap.size < _; omega)) (by show w2.heap.size ≠ _; omega) (by first | exact cf0_1 | exact fa (by show w2.heap.size < _; omega) cf0_1 | exact fa (by show w2.heap.size < _; simp; omega) (fa (by show w2.heap.size < _; omega) cf0_1) | (simp; done) | go_simp)
      have c1_2 : u1.cell? ⟨w2.heap.size, 1, none⟩ = some (.int .i64 (dM n)) := kc k (by first | exact c1_1 | exact ca c1_1 | exact ca (ca c1_1) | exact ca (ca (ca c1_1)) | (simp; done) | go_simp) (by show w2.heap.size ≠ _; omega)
      have cf1_2 : u1.frozen? ⟨w2.heap.size, 1, none⟩ = false := kf k (by first | (simp; done) | (simp; omega) | (show w2.heap.size < _; omega)) (by show w2.heap.size ≠ _; omega) (by first | exact cf1_1 | exact fa (by show w2.heap.size < _; omega) cf1_1 | exact fa (by show w2.heap.size < _; simp; omega) (fa (by show w2.heap.size < _; omega) cf1_1) | (simp; done) | go_simp)
      have c2_2 : u1.cell? ⟨w2.heap.size, 2, none⟩ = some (.int .i64 (dD n)) := kc k (by first | exact c2_1 | exact ca c2_1 | exact ca (ca c2_1) | exact ca (ca (ca c2_1)) | (simp; done) | go_simp) (by show w2.heap.size ≠ _; omega)
      have cf2_2 : u1.frozen? ⟨w2.heap.size, 2, none⟩ = false := kf k (by first | (simp; done) | (simp; omega) | (show w2.heap.size < _; omega)) (by show w2.heap.size ≠ _; omega) (by first | exact cf2_1 | exact fa (by show w2.heap.size < _; omega) cf2_1 | exact fa (by show w2.heap.size < _; simp; omega) (fa (by show w2.heap.size < _; omega) cf2_1) | (simp; done) | go_simp)
      have cl_2 : w2.heap.size < u1.heap.size := cell_lt c0_2
      clear c0_1 cf0_1 c1_1 cf1_1 c2_1 cf2_1 cl_1
      have hszu1 := k.size
      try simp at hszu1
      clear r k
      have hne : w2.heap.size ≠ w.heap.size := by omega
      go_wp2
      refine bodyPost_ret (v := .agg #[.int .i64 (dY n), .int .i64 q, .int .i64 (dD n)]) (by simp [results, Tryd.results35, go_sem, *]) rfl ⟨_, _, _, rfl, ⟨by omega, by omega⟩, ⟨by omega, by omega⟩, ⟨by omega, by omega⟩, KB.keep (by repeat (first | exact KB.refl _ _ _ | exact HB.out | refine KB.drew ?_ | refine KB.drewN ?_ | refine KB.alloc (Nat.le_refl _) ?_ _ | refine KB.setCell ?_ (by first | (show _ ≤ _; omega) | (simp; done) | (simp; omega)) _)), ?_⟩
      exact Rd.mono (Rd.fwd HR.out (by repeat (first | exact Below.refl _ _ | refine Below.drew ?_ | refine bel_drewN _ ?_ | refine Below.alloc ?_ (by first | omega | (simp; done) | (simp; omega)) _ | refine Below.setCell ?_ (by first | (show _ ≤ _; omega) | (simp; done) | (simp; omega)) _))) (by omega)
    · have hz1' : (z == 1) = false := by simpa using hz1
      by_cases hz2 : z = 2
      · subst hz2
        go_wp2_with fail
        refine (one_any _ _ _ (1989) (2090) _ _ _ (by exact intsIn_lit _ [1989, 2090, 1990, 2089] _ _ _ _ _ _ rfl (by first | (simp; done) | (simp; omega) | omega) (by simp; try omega)) (by omega) (by omega) (by first | omega | (simp; done) | (simp; omega)) (by first | omega | (simp; omega)) (by first | exact hR | omega | (simp; done) | (simp; omega)) (by omega) (by omega) (Rd.fwd HR.out (by repeat (first | exact Below.refl _ _ | refine Below.drew ?_ | refine bel_drewN _ ?_ | refine Below.alloc ?_ (by first | omega | (simp; done) | (simp; omega)) _ | refine Below.setCell ?_ (by first | (show _ ≤ _; omega) | (simp; done) | (simp; omega)) _)))).mono ?_
        rintro e u1 ⟨q, rfl, q0, q1, k, r⟩
        have HBq : KB (w.heap.size) (R) w u1 := KB.callee (Nat.le_refl _) (by repeat (first | exact KB.refl _ _ _ | exact HB.out | refine KB.drew ?_ | refine KB.drewN ?_ | refine KB.alloc (Nat.le_refl _) ?_ _ | refine KB.setCell ?_ (by first | (show _ ≤ _; omega) | (simp; done) | (simp; omega)) _)) k
        have HB := Lib.hid HBq
        clear HBq
        have hR : R < u1.heap.size := Nat.lt_of_lt_of_le (by first | exact hR | omega | (simp; done) | (simp; omega)) k.size
        have HR := Lib.hid r
        have a0_4 : u1.cell? ⟨w.heap.size, 0, none⟩ = some (.int .i64 0) := kc k (by first | exact a0_3 | exact ca a0_3 | exact ca (ca a0_3) | exact ca (ca (ca a0_3)) | (simp; done) | go_simp) (by show w.heap.size ≠ _; omega)
        have af0_4 : u1.frozen? ⟨w.heap.size, 0, none⟩ = false := kf k (by first | (simp; done) | (simp; omega) | (show w.heap.size < _; omega)) (by show w.heap.size ≠ _; omega) (by first | exact af0_3 | exact fa (by show w.heap.size < _; omega) af0_3 | exact fa (by show w.heap.size < _; simp; omega) (fa (by show w.heap.size < _; omega) af0_3) | (simp; done) | go_simp)
        have a1_4 : u1.cell? ⟨w.heap.size, 1, none⟩ = some (.int .i64 0) := kc k (by first | exact a1_3 | exact ca a1_3 | exact ca (ca a1_3) | exact ca (ca (ca a1_3)) | (simp; done) | go_simp) (by show w.heap.size ≠ _; omega)
        have af1_4 : u1.frozen? ⟨w.heap.size, 1, none⟩ = false := kf k (by first | (simp; done) | (simp; omega) | (show w.heap.size < _; omega)) (by show w.heap.size ≠ _; omega) (by first | exact af1_3 | exact fa (by show w.heap.size < _; omega) af1_3 | exact fa (by show w.heap.size < _; simp; omega) (fa (by show w.heap.size < _; omega) af1_3) | (simp; done) | go_simp)
        have a2_4 : u1.cell? ⟨w.heap.size, 2, none⟩ = some (.int .i64 0) := kc k (by first | exact a2_3 | exact ca a2_3 | exact ca (ca a2_3) | exact ca (ca (ca a2_3)) | (simp; done) | go_simp) (by show w.heap.size ≠ _; omega)
        have af2_4 : u1.frozen? ⟨w.heap.size, 2, none⟩ = false := kf k (by first | (simp; done) | (simp; omega) | (show w.heap.size < _; omega)) (by show w.heap.size ≠ _; omega) (by first | exact af2_3 | exact fa (by show w.heap.size < _; omega) af2_3 | exact fa (by show w.heap.size < _; simp; omega) (fa (by show w.heap.size < _; omega) af2_3) | (simp; done) | go_simp)
        have al_4 : w.heap.size < u1.heap.size := cell_lt a0_4
        clear a0_3 af0_3 a1_3 af1_3 a2_3 af2_3 al_3
        have c0_2 : u1.cell? ⟨w2.heap.size, 0, none⟩ = some (.int .i64 (dY n)) := kc k (by first | exact c0_1 | exact ca c0_1 | exact ca (ca c0_1) | exact ca (ca (ca c0_1)) | (simp; done) | go_simp) (by show w2.heap.size ≠ _; omega)
        have cf0_2 : u1.frozen? ⟨w2.heap.size, 0, none⟩ = false := kf k (by first | (simp; done) | (simp; omega) | (show w2.heap.size < _; omega)) (by show w2.heap.size ≠ _; omega) (by first | exact cf0_1 | exact fa (by show w2.heap.size < _; omega) cf0_1 | exact fa (by show w2.heap.size < _; simp; omega) (fa (by show w2.heap.size < _; omega) cf0_1) | (simp; done) | go_simp)
        have c1_2 : u1.cell? ⟨w2.heap.size, 1, none⟩ = some (.int .i64 (dM n)) := kc k (by first | exact c1_1 | exact ca c1_1 | exact ca (ca c1_1) | exact ca (ca (ca c1_1)) | (simp; done) | go_simp) (by show w2.heap.size ≠ _; omega)
        have cf1_2 : u1.frozen? ⟨w2.heap.size, 1, none⟩ = false := kf k (by first | (simp; done) | (simp; omega) | (show w2.heap.size < _; omega)) (by show w2.heap.size ≠ _; omega) (by first | exact cf1_1 | exact fa (by show w2.heap.size < _; omega) cf1_1 | exact fa (by show w2.heap.size < _; simp; omega) (fa (by show w2.heap.size < _; omega) cf1_1) | (simp; done) | go_simp)
        have c2_2 : u1.cell? ⟨w2.heap.size, 2, none⟩ = some (.int .i64 (dD n)) := kc k (by first | exact c2_1 | exact ca c2_1 | exact ca (ca c2_1) | exact ca (ca (ca c2_1)) | (simp; done) | go_simp) (by show w2.heap.size ≠ _; omega)
        have cf2_2 : u1.frozen? ⟨w2.heap.size, 2, none⟩ = false := kf k (by first | (simp; done) | (simp; omega) | (show w2.heap.size < _; omega)) (by show w2.heap.size ≠ _; omega) (by first | exact cf2_1 | exact fa (by show w2.heap.size < _; omega) cf2_1 | exact fa (by show w2.heap.size < _; simp; omega) (fa (by show w2.heap.size < _; omega) cf2_1) | (simp; done) | go_simp)
        have cl_2 : w2.heap.size < u1.heap.size := cell_lt c0_2
        clear c0_1 cf0_1 c1_1 cf1_1 c2_1 cf2_1 cl_1
        have hszu1 := k.size
        try simp at hszu1
        clear r k
        have hne : w2.heap.size ≠ w.heap.size := by omega
        go_wp2
        refine bodyPost_ret (v := .agg #[.int .i64 q, .int .i64 (dM n), .int .i64 (dD n)]) (by simp [results, Tryd.results35, go_sem, *]) rfl ⟨_, _, _, rfl, ⟨by omega, by omega⟩, ⟨by omega, by omega⟩, ⟨by omega, by omega⟩, KB.keep (by repeat (first | exact KB.refl _ _ _ | exact HB.out | refine KB.drew ?_ | refine KB.drewN ?_ | refine KB.alloc (Nat.le_refl _) ?_ _ | refine KB.setCell ?_ (by first | (show _ ≤ _; omega) | (simp; done) | (simp; omega)) _)), ?_⟩
        exact Rd.mono (Rd.fwd HR.out (by repeat (first | exact Below.refl _ _ | refine Below.drew ?_ | refine bel_drewN _ ?_ | refine Below.alloc ?_ (by first | omega | (simp; done) | (simp; omega)) _ | refine Below.setCell ?_ (by first | (show _ ≤ _; omega) | (simp; done) | (simp; omega)) _))) (by omega)
      · have hz2' : (z == 2) = false := by simpa using hz2
        go_wp2
        refine bodyPost_ret (v := .agg #[.int .i64 (dY n), .int .i64 (dM n), .int .i64 (dD n)]) (by simp [results, Tryd.results35, go_sem, *]) rfl ⟨_, _, _, rfl, ⟨by omega, by omega⟩, ⟨by omega, by omega⟩, ⟨by omega, by omega⟩, KB.keep (by repeat (first | exact KB.refl _ _ _ | exact HB.out | refine KB.drew ?_ | refine KB.drewN ?_ | refine KB.alloc (Nat.le_refl _) ?_ _ | refine KB.setCell ?_ (by first | (show _ ≤ _; omega) | (simp; done) | (simp; omega)) _)), ?_⟩
        exact Rd.mono (Rd.fwd HR.out (by repeat (first | exact Below.refl _ _ | refine Below.drew ?_ | refine bel_drewN _ ?_ | refine Below.alloc ?_ (by first | omega | (simp; done) | (simp; omega)) _ | refine Below.setCell ?_ (by first | (show _ ≤ _; omega) | (simp; done) | (simp; omega)) _))) (by omega)
def DrawD (w : World) (e : Ending) (w' : World) : Prop :=
  ∃ y m d : Int, e = .returned (.agg #[.int .i64 y, .int .i64 m, .int .i64 d]) ∧ (-100000 ≤ y ∧ y ≤ 100000) ∧ (-100000 ≤ m ∧ m ≤ 100000) ∧ (-100000 ≤ d ∧ d ≤ 100000) ∧ Below w.heap.size w w'
theorem drawValidDate_any (a : Option Addr) (len cap : Nat) (w : World) (hlc : len ≤ cap) (hc : cap ≤ maxLen) (h : IsBytes w a len) :
    Calls Tryd.prog 17 #[.slice a len cap] w (DrawD w) := by
  have H := Lib.hid h
  clear h
  go_enter Tryd.func17, Tryd.ntmps17
  go_wp2_with fail
  refine (newReader_any _ _ _ _ hlc hc (by repeat (first | exact H.out | refine IsBytes.alloc ?_ _))).mono ?_
  rintro e v1 ⟨rfl, hb, hrd, hszv1⟩
  try simp at hszv1
  replace hszv1 : w.heap.size + 1 + 1 ≤ v1.heap.size := by omega
  have hR : w.heap.size + 1 < v1.heap.size := by omega
  have hrdq : Rd v1 (w.heap.size + 1) 0 := by simpa using hrd
  have HR := Lib.hid hrdq
  have HBq : KB (w.heap.size) (w.heap.size + 1) w v1 := KB.quiet (Nat.le_refl _) (by repeat (first | exact KB.refl _ _ _ | exact HB.out | refine KB.drew ?_ | refine KB.drewN ?_ | refine KB.alloc (Nat.le_refl _) ?_ _ | refine KB.setCell ?_ (by first | (show _ ≤ _; omega) | (simp; done) | (simp; omega)) _)) hb
  have HB := Lib.hid HBq
  have c0_1 : v1.cell? ⟨w.heap.size, 0, none⟩ = some (.int .i64 0) := bc hb (by first | (simp; done) | go_simp)
  have cf0_1 : v1.frozen? ⟨w.heap.size, 0, none⟩ = false := bf hb (by first | (simp; done) | (simp; omega) | (show w.heap.size < _; omega)) (by first | (simp; done) | go_simp)
  have c1_1 : v1.cell? ⟨w.heap.size, 1, none⟩ = some (.int .i64 0) := bc hb (by first | (simp; done) | go_simp)
  have cf1_1 : v1.frozen? ⟨w.heap.size, 1, none⟩ = false := bf hb (by first | (simp; done) | (simp; omega) | (show w.heap.size < _; omega)) (by first | (simp; done) | go_simp)
  have c2_1 : v1.cell? ⟨w.heap.size, 2, none⟩ = some (.int .i64 0) := bc hb (by first | (simp; done) | go_simp)
  have cf2_1 : v1.frozen? ⟨w.heap.size, 2, none⟩ = false := bf hb (by first | (simp; done) | (simp; omega) | (show w.heap.size < _; omega)) (by first | (simp; done) | go_simp)
  have cl_1 : w.heap.size < v1.heap.size := cell_lt c0_1
  clear hrd hrdq HBq hb
  go_wp2_with fail
  refine (anyDate_any _ _ _ (by first | exact hR | omega | (simp; done) | (simp; omega)) (by omega) (by omega) (Rd.fwd HR.out (by repeat (first | exact Below.refl _ _ | refine Below.drew ?_ | refine bel_drewN _ ?_ | refine Below.alloc ?_ (by first | omega | (simp; done) | (simp; omega)) _ | refine Below.setCell ?_ (by first | (show _ ≤ _; omega) | (simp; done) | (simp; omega)) _)))).mono ?_
  rintro e v2 ⟨y, m, d, rfl, hy, hm, hd, k, r⟩
  have HBq : KB (w.heap.size) (w.heap.size + 1) w v2 := KB.callee (Nat.le_refl _) (by repeat (first | exact KB.refl _ _ _ | exact HB.out | refine KB.drew ?_ | refine KB.drewN ?_ | refine KB.alloc (Nat.le_refl _) ?_ _ | refine KB.setCell ?_ (by first | (show _ ≤ _; omega) | (simp; done) | (simp; omega)) _)) k
  have HB := Lib.hid HBq
  clear HBq
  have hR : w.heap.size + 1 < v2.heap.size := Nat.lt_of_lt_of_le (by first | exact hR | omega | (simp; done) | (simp; omega)) k.size
  have HR := Lib.hid r
  have c0_2 : v2.cell? ⟨w.heap.size, 0, none⟩ = some (.int .i64 0) := kc k (by first | exact c0_1 | exact ca c0_1 | exact ca (ca c0_1) | exact ca (ca (ca c0_1)) | (simp; done) | go_simp) (by show w.heap.size ≠ _; omega)
  have cf0_2 : v2.frozen? ⟨w.heap.size, 0, none⟩ = false := kf k (by first | (simp; done) | (simp; omega) | (show w.heap.size < _; omega)) (by show w.heap.size ≠ _; omega) (by first | exact cf0_1 | exact fa (by show w.heap.size < _; omega) cf0_1 | exact fa (by show w.heap.size < _; simp; omega) (fa (by show w.heap.size < _; omega) cf0_1) | (simp; done) | go_simp)
  have c1_2 : v2.cell? ⟨w.heap.size, 1, none⟩ = some (.int .i64 0) := kc k (by first | exact c1_1 | exact ca c1_1 | exact ca (ca c1_1) | exact ca (ca (ca c1_1)) | (simp; done) | go_simp) (by show w.heap.size ≠ _; omega)
  have cf1_2 : v2.frozen? ⟨w.heap.size, 1, none⟩ = false := kf k (by first | (simp; done) | (simp; omega) | (show w.heap.size < _; omega)) (by show w.heap.size ≠ _; omega) (by first | exact cf1_1 | exact fa (by show w.heap.size < _; omega) cf1_1 | exact fa (by show w.heap.size < _; simp; omega) (fa (by show w.heap.size < _; omega) cf1_1) | (simp; done) | go_simp)
  have c2_2 : v2.cell? ⟨w.heap.size, 2, none⟩ = some (.int .i64 0) := kc k (by first | exact c2_1 | exact ca c2_1 | exact ca (ca c2_1) | exact ca (ca (ca c2_1)) | (simp; done) | go_simp) (by show w.heap.size ≠ _; omega)
  have cf2_2 : v2.frozen? ⟨w.heap.size, 2, none⟩ = false := kf k (by first | (simp; done) | (simp; omega) | (show w.heap.size < _; omega)) (by show w.heap.size ≠ _; omega) (by first | exact cf2_1 | exact fa (by show w.heap.size < _; omega) cf2_1 | exact fa (by show w.heap.size < _; simp; omega) (fa (by show w.heap.size < _; omega) cf2_1) | (simp; done) | go_simp)
  have cl_2 : w.heap.size < v2.heap.size := cell_lt c0_2
  clear c0_1 cf0_1 c1_1 cf1_1 c2_1 cf2_1 cl_1
  have hszv2 := k.size
  try simp at hszv2
  clear r k
  go_wp2
  exact bodyPost_ret (v := .agg #[.int .i64 y, .int .i64 m, .int .i64 d]) (by simp [results, Tryd.results17, go_sem, *]) rfl ⟨_, _, _, rfl, hy, hm, hd, KB.below (R := w.heap.size + 1) (by repeat (first | exact KB.refl _ _ _ | exact HB.out | refine KB.drew ?_ | refine KB.drewN ?_ | refine KB.alloc (Nat.le_refl _) ?_ _ | refine KB.setCell ?_ (by first | (show _ ≤ _; omega) | (simp; done) | (simp; omega)) _)) (by omega)⟩
theorem drawDayOf_any (a : Option Addr) (len cap : Nat) (w : World) (hlc : len ≤ cap) (hc : cap ≤ maxLen) (h : IsBytes w a len) :
    Calls Tryd.prog 23 #[.slice a len cap] w (DrawD w) := by
  have H := Lib.hid h
  clear h
  go_enter Tryd.func23, Tryd.ntmps23
  go_wp2_with fail
  refine (newReader_any _ _ _ _ hlc hc (by repeat (first | exact H.out | refine IsBytes.alloc ?_ _))).mono ?_
  rintro e v1 ⟨rfl, hb, hrd, hszv1⟩
  try simp at hszv1
  replace hszv1 : w.heap.size + 1 + 1 ≤ v1.heap.size := by omega
  have hR : w.heap.size + 1 < v1.heap.size := by omega
  have hrdq : Rd v1 (w.heap.size + 1) 0 := by simpa using hrd
  have HR := Lib.hid hrdq
  have HBq : KB (w.heap.size) (w.heap.size + 1) w v1 := KB.quiet (Nat.le_refl _) (by repeat (first | exact KB.refl _ _ _ | exact HB.out | refine KB.drew ?_ | refine KB.drewN ?_ | refine KB.alloc (Nat.le_refl _) ?_ _ | refine KB.setCell ?_ (by first | (show _ ≤ _; omega) | (simp; done) | (simp; omega)) _)) hb
  have HB := Lib.hid HBq
  have c0_1 : v1.cell? ⟨w.heap.size, 0, none⟩ = some (.int .i64 0) := bc hb (by first | (simp; done) | go_simp)
  have cf0_1 : v1.frozen? ⟨w.heap.size, 0, none⟩ = false := bf hb (by first | (simp; done) | (simp; omega) | (show w.heap.size < _; omega)) (by first | (simp; done) | go_simp)
  have c1_1 : v1.cell? ⟨w.heap.size, 1, none⟩ = some (.int .i64 0) := bc hb (by first | (simp; done) | go_simp)
  have cf1_1 : v1.frozen? ⟨w.heap.size, 1, none⟩ = false := bf hb (by first | (simp; done) | (simp; omega) | (show w.heap.size < _; omega)) (by first | (simp; done) | go_simp)
  have c2_1 : v1.cell? ⟨w.heap.size, 2, none⟩ = some (.int .i64 0) := bc hb (by first | (simp; done) | go_simp)
  have cf2_1 : v1.frozen? ⟨w.heap.size, 2, none⟩ = false := bf hb (by first | (simp; done) | (simp; omega) | (show w.heap.size < _; omega)) (by first | (simp; done) | go_simp)
  have cl_1 : w.heap.size < v1.heap.size := cell_lt c0_1
  clear hrd hrdq HBq hb
  go_wp2_with fail
  refine (anyDate_any _ _ _ (by first | exact hR | omega | (simp; done) | (simp; omega)) (by omega) (by omega) (Rd.fwd HR.out (by repeat (first | exact Below.refl _ _ | refine Below.drew ?_ | refine bel_drewN _ ?_ | refine Below.alloc ?_ (by first | omega | (simp; done) | (simp; omega)) _ | refine Below.setCell ?_ (by first | (show _ ≤ _; omega) | (simp; done) | (simp; omega)) _)))).mono ?_
  rintro e v2 ⟨y, m, d, rfl, hy, hm, hd, k, r⟩
  have HBq : KB (w.heap.size) (w.heap.size + 1) w v2 := KB.callee (Nat.le_refl _) (by repeat (first | exact KB.refl _ _ _ | exact HB.out | refine KB.drew ?_ | refine KB.drewN ?_ | refine KB.alloc (Nat.le_refl _) ?_ _ | refine KB.setCell ?_ (by first | (show _ ≤ _; omega) | (simp; done) | (simp; omega)) _)) k
  have HB := Lib.hid HBq
  clear HBq
  have hR : w.heap.size + 1 < v2.heap.size := Nat.lt_of_lt_of_le (by first | exact hR | omega | (simp; done) | (simp; omega)) k.size
  have HR := Lib.hid r
  have c0_2 : v2.cell? ⟨w.heap.size, 0, none⟩ = some (.int .i64 0) := kc k (by first | exact c0_1 | exact ca c0_1 | exact ca (ca c0_1) | exact ca (ca (ca c0_1)) | (simp; done) | go_simp) (by show w.heap.size ≠ _; omega)
  have cf0_2 : v2.frozen? ⟨w.heap.size, 0, none⟩ = false := kf k (by first | (simp; done) | (simp; omega) | (show w.heap.size < _; omega)) (by show w.heap.size ≠ _; omega) (by first | exact cf0_1 | exact fa (by show w.heap.size < _; omega) cf0_1 | exact fa (by show w.heap.size < _; simp; omega) (fa (by show w.heap.size < _; omega) cf0_1) | (simp; done) | go_simp)
  have c1_2 : v2.cell? ⟨w.heap.size, 1, none⟩ = some (.int .i64 0) := kc k (by first | exact c1_1 | exact ca c1_1 | exact ca (ca c1_1) | exact ca (ca (ca c1_1)) | (simp; done) | go_simp) (by show w.heap.size ≠ _; omega)
  have cf1_2 : v2.frozen? ⟨w.heap.size, 1, none⟩ = false := kf k (by first | (simp; done) | (simp; omega) | (show w.heap.size < _; omega)) (by show w.heap.size ≠ _; omega) (by first | exact cf1_1 | exact fa (by show w.heap.size < _; omega) cf1_1 | exact fa (by show w.heap.size < _; simp; omega) (fa (by show w.heap.size < _; omega) cf1_1) | (simp; done) | go_simp)
  have c2_2 : v2.cell? ⟨w.heap.size, 2, none⟩ = some (.int .i64 0) := kc k (by first | exact c2_1 | exact ca c2_1 | exact ca (ca c2_1) | exact ca (ca (ca c2_1)) | (simp; done) | go_simp) (by show w.heap.size ≠ _; omega)
  have cf2_2 : v2.frozen? ⟨w.heap.size, 2, none⟩ = false := kf k (by first | (simp; done) | (simp; omega) | (show w.heap.size < _; omega)) (by show w.heap.size ≠ _; omega) (by first | exact cf2_1 | exact fa (by show w.heap.size < _; omega) cf2_1 | exact fa (by show w.heap.size < _; simp; omega) (fa (by show w.heap.size < _; omega) cf2_1) | (simp; done) | go_simp)
  have cl_2 : w.heap.size < v2.heap.size := cell_lt c0_2
  clear c0_1 cf0_1 c1_1 cf1_1 c2_1 cf2_1 cl_1
  have hszv2 := k.size
  try simp at hszv2
  clear r k
  go_wp2
  exact bodyPost_ret (v := .agg #[.int .i64 y, .int .i64 m, .int .i64 d]) (by simp [results, Tryd.results23, go_sem, *]) rfl ⟨_, _, _, rfl, hy, hm, hd, KB.below (R := w.heap.size + 1) (by repeat (first | exact KB.refl _ _ _ | exact HB.out | refine KB.drew ?_ | refine KB.drewN ?_ | refine KB.alloc (Nat.le_refl _) ?_ _ | refine KB.setCell ?_ (by first | (show _ ≤ _; omega) | (simp; done) | (simp; omega)) _)) (by omega)⟩
end Go.Proofs.YtddaaamahdnffaaDoor
