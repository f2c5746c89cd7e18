/- The laws over parts of years. -/
import Derived.Test.YtdphmeepbkmkkaaDoorPartDraw
import Derived.Test.YtdphmeepbkmkkaaDoorRatioDraw2
namespace Go.Proofs.YtdphmeepbkmkkaaDoor
open Go.RowKit
set_option linter.unusedVariables false
theorem fnExactYearPart_walk (k a b : Int) (w : World) (hM : MD w) (h0 : (Lit.int .i64 k).wf = true) (_w1 : (Lit.int .i64 a).wf = true) (_w2 : (Lit.int .i64 b).wf = true) :
    Calls Tryd.prog 3 #[.int .i64 k, .int .i64 a, .int .i64 b] w fun e w' => e = .returned (.bool true) ∧ Below w.heap.size w w' := by
  have hM1 := hM.size
  have HM := Lib.hid hM
  have H0 := Lib.hid h0
  clear hM _w1 _w2 h0
  go_enter Tryd.func3, Tryd.ntmps3
  have HB := Lib.hid (Below.refl w.heap.size w)
  go_wp2_with fail
  refine (yearPartS2_any k a b _).mono ?_
  rintro e w1 ⟨rfl, hb⟩
  have hszw1 := below_size hb
  try simp at hszw1
  have HBq : Below w.heap.size w w1 := Below.trans (by repeat (first | exact Below.refl _ _ | exact HB.out | refine Below.drew ?_ | refine bel_drewN _ ?_ | refine Below.alloc ?_ (by first | omega | (simp; done) | (simp; omega)) _ | refine Below.setCell ?_ (by first | (show _ ≤ _; omega) | (simp; done) | (simp; omega)) _)) (hb.mono (by first | omega | (simp; done) | (simp; omega)))
  have HB := Lib.hid HBq
  clear HBq hb
  go_wp2_with fail
  refine (yearPartI_any k a b _ (by exact HM.out.fwd (by repeat (first | exact Below.refl _ _ | exact HB.out.mono hM1 | refine Below.drew ?_ | refine bel_drewN _ ?_ | refine Below.alloc ?_ (by first | omega | (simp; done) | (simp; omega)) _ | refine Below.setCell ?_ (by first | (show _ ≤ _; omega) | (simp; done) | (simp; omega)) _))) H0.out).mono ?_
  rintro e w2 ⟨rfl, hb⟩
  have r0_1 : w2.cell? ⟨w1.heap.size, 0, none⟩ = some (.int .i64 ((ypV k a b).1)) := bc hb (by first | (simp; done) | go_simp)
  have r1_1 : w2.cell? ⟨w1.heap.size, 1, none⟩ = some (.int .i64 ((ypV k a b).2.1)) := bc hb (by first | (simp; done) | go_simp)
  have rl_1 : w1.heap.size < w2.heap.size := cell_lt r0_1
  have hszw2 := below_size hb
  try simp at hszw2
  have HBq : Below w.heap.size w w2 := Below.trans (by repeat (first | exact Below.refl _ _ | exact HB.out | refine Below.drew ?_ | refine bel_drewN _ ?_ | refine Below.alloc ?_ (by first | omega | (simp; done) | (simp; omega)) _ | refine Below.setCell ?_ (by first | (show _ ≤ _; omega) | (simp; done) | (simp; omega)) _)) (hb.mono (by first | omega | (simp; done) | (simp; omega)))
  have HB := Lib.hid HBq
  clear HBq hb
  go_wp2_with fail
  refine (eqRatio_same _ _ _).mono ?_
  rintro e w3 ⟨rfl, hb⟩
  have r0_2 : w3.cell? ⟨w1.heap.size, 0, none⟩ = some (.int .i64 ((ypV k a b).1)) := bc hb (by first | exact r0_1 | exact ca r0_1 | exact ca (ca r0_1) | exact ca (ca (ca r0_1)) | (simp; done) | go_simp)
  have r1_2 : w3.cell? ⟨w1.heap.size, 1, none⟩ = some (.int .i64 ((ypV k a b).2.1)) := bc hb (by first | exact r1_1 | exact ca r1_1 | exact ca (ca r1_1) | exact ca (ca (ca r1_1)) | (simp; done) | go_simp)
  have rl_2 : w1.heap.size < w3.heap.size := cell_lt r0_2
  clear r0_1 r1_1 rl_1
  have hszw3 := below_size hb
  try simp at hszw3
  have HBq : Below w.heap.size w w3 := Below.trans (by repeat (first | exact Below.refl _ _ | exact HB.out | refine Below.drew ?_ | refine bel_drewN _ ?_ | refine Below.alloc ?_ (by first | omega | (simp; done) | (simp; omega)) _ | refine Below.setCell ?_ (by first | (show _ ≤ _; omega) | (simp; done) | (simp; omega)) _)) (hb.mono (by first | omega | (simp; done) | (simp; omega)))
  have HB := Lib.hid HBq
  clear HBq hb
  go_wp2
  go_ret
  exact ⟨ret_bool (by simp), HB.out⟩
theorem fnExactInterestOf_walk (c r k a b : Int) (w : World) (hM : MD w) (_wc : (Lit.int .i64 c).wf = true) (_wr : (Lit.int .i64 r).wf = true) (h0 : (Lit.int .i64 k).wf = true) (_w1 : (Lit.int .i64 a).wf = true) (_w2 : (Lit.int .i64 b).wf = true) :
    Calls Tryd.prog 4 #[.int .i64 c, .int .i64 r, .int .i64 k, .int .i64 a, .int .i64 b] w fun e w' => e = .returned (.bool true) ∧ Below w.heap.size w w' := by
  have hM1 := hM.size
  have HM := Lib.hid hM
  have H0 := Lib.hid h0
  clear hM _w1 _w2 h0 _wc _wr
  go_enter Tryd.func4, Tryd.ntmps4
  have HB := Lib.hid (Below.refl w.heap.size w)
  go_wp2_with fail
  refine (interestS_any c r k a b _).mono ?_
  rintro e w1 ⟨rfl, hb⟩
  have hszw1 := below_size hb
  try simp at hszw1
  have HBq : Below w.heap.size w w1 := Below.trans (by repeat (first | exact Below.refl _ _ | exact HB.out | refine Below.drew ?_ | refine bel_drewN _ ?_ | refine Below.alloc ?_ (by first | omega | (simp; done) | (simp; omega)) _ | refine Below.setCell ?_ (by first | (show _ ≤ _; omega) | (simp; done) | (simp; omega)) _)) (hb.mono (by first | omega | (simp; done) | (simp; omega)))
  have HB := Lib.hid HBq
  clear HBq hb
  go_wp2_with fail
  refine (interestI_any c r k a b _ (by exact HM.out.fwd (by repeat (first | exact Below.refl _ _ | exact HB.out.mono hM1 | refine Below.drew ?_ | refine bel_drewN _ ?_ | refine Below.alloc ?_ (by first | omega | (simp; done) | (simp; omega)) _ | refine Below.setCell ?_ (by first | (show _ ≤ _; omega) | (simp; done) | (simp; omega)) _))) H0.out).mono ?_
  rintro e w2 ⟨rfl, hb⟩
  have hszw2 := below_size hb
  try simp at hszw2
  have HBq : Below w.heap.size w w2 := Below.trans (by repeat (first | exact Below.refl _ _ | exact HB.out | refine Below.drew ?_ | refine bel_drewN _ ?_ | refine Below.alloc ?_ (by first | omega | (simp; done) | (simp; omega)) _ | refine Below.setCell ?_ (by first | (show _ ≤ _; omega) | (simp; done) | (simp; omega)) _)) (hb.mono (by first | omega | (simp; done) | (simp; omega)))
  have HB := Lib.hid HBq
  clear HBq hb
  go_wp2
  go_ret
  exact ⟨rfl, HB.out⟩
theorem big_FnYearPartSum (a : Option Addr) (len cap : Nat) (w : World) (hlc : len ≤ cap) (hc : cap ≤ maxLen) (hbig : 1048576 < len) :
    Calls Tryd.prog 5 #[.slice a len cap] w fun e w' => e = .returned (.bool true) ∧ Below w.heap.size w w' := by
  unfold maxLen at hc
  go_enter Tryd.func5, Tryd.ntmps5
  go_wp2
  go_ret
  exact ⟨rfl, Below.refl _ _⟩
theorem big_FnYearPartYear (a : Option Addr) (len cap : Nat) (w : World) (hlc : len ≤ cap) (hc : cap ≤ maxLen) (hbig : 1048576 < len) :
    Calls Tryd.prog 7 #[.slice a len cap] w fun e w' => e = .returned (.bool true) ∧ Below w.heap.size w w' := by
  unfold maxLen at hc
  go_enter Tryd.func7, Tryd.ntmps7
  go_wp2
  go_ret
  exact ⟨rfl, Below.refl _ _⟩
theorem big_FnYearPart (a : Option Addr) (len cap : Nat) (w : World) (hlc : len ≤ cap) (hc : cap ≤ maxLen) (hbig : 1048576 < len) :
    Calls Tryd.prog 8 #[.slice a len cap] w fun e w' => e = .returned (.bool true) ∧ Below w.heap.size w w' := by
  unfold maxLen at hc
  go_enter Tryd.func8, Tryd.ntmps8
  go_wp2
  go_ret
  exact ⟨rfl, Below.refl _ _⟩
theorem big_FnYearPartMoney (a : Option Addr) (len cap : Nat) (w : World) (hlc : len ≤ cap) (hc : cap ≤ maxLen) (hbig : 1048576 < len) :
    Calls Tryd.prog 9 #[.slice a len cap] w fun e w' => e = .returned (.bool true) ∧ Below w.heap.size w w' := by
  unfold maxLen at hc
  go_enter Tryd.func9, Tryd.ntmps9
  go_wp2
  go_ret
  exact ⟨rfl, Below.refl _ _⟩
theorem big_FnInterestOf (a : Option Addr) (len cap : Nat) (w : World) (hlc : len ≤ cap) (hc : cap ≤ maxLen) (hbig : 1048576 < len) :
    Calls Tryd.prog 10 #[.slice a len cap] w fun e w' => e = .returned (.bool true) ∧ Below w.heap.size w w' := by
  unfold maxLen at hc
  go_enter Tryd.func10, Tryd.ntmps10
  go_wp2
  go_ret
  exact ⟨rfl, Below.refl _ _⟩
theorem big_FnInterestOfDouble (a : Option Addr) (len cap : Nat) (w : World) (hlc : len ≤ cap) (hc : cap ≤ maxLen) (hbig : 1048576 < len) :
    Calls Tryd.prog 11 #[.slice a len cap] w fun e w' => e = .returned (.bool true) ∧ Below w.heap.size w w' := by
  unfold maxLen at hc
  go_enter Tryd.func11, Tryd.ntmps11
  go_wp2
  go_ret
  exact ⟨rfl, Below.refl _ _⟩
theorem big_FnRepoInterest (a : Option Addr) (len cap : Nat) (w : World) (hlc : len ≤ cap) (hc : cap ≤ maxLen) (hbig : 1048576 < len) :
    Calls Tryd.prog 13 #[.slice a len cap] w fun e w' => e = .returned (.bool true) ∧ Below w.heap.size w w' := by
  unfold maxLen at hc
  go_enter Tryd.func13, Tryd.ntmps13
  go_wp2
  go_ret
  exact ⟨rfl, Below.refl _ _⟩
theorem big_FnRollRepo (a : Option Addr) (len cap : Nat) (w : World) (hlc : len ≤ cap) (hc : cap ≤ maxLen) (hbig : 1048576 < len) :
    Calls Tryd.prog 14 #[.slice a len cap] w fun e w' => e = .returned (.bool true) ∧ Below w.heap.size w w' := by
  unfold maxLen at hc
  go_enter Tryd.func14, Tryd.ntmps14
  go_wp2
  go_ret
  exact ⟨rfl, Below.refl _ _⟩
/-- YearPart where it has a part of a year, where it has none -/
def YpI (k a b N D : Int) : Prop := ∀ W : World, MD W → Calls Tryd.prog 16 #[.int .i64 k, .int .i64 a, .int .i64 b] W (YP (N, D, true) W)
def YpS (k a b N D : Int) : Prop := ∀ W : World, Calls Tryd.prog 15 #[.int .i64 k, .int .i64 a, .int .i64 b] W (YP (N, D, true) W)
theorem ypI_of {k a b : Int} (hv : vpart k a b = true) : YpI k a b (lowN (ypN k a b) (ypD k)) (lowD (ypN k a b) (ypD k)) := by
  intro W h
  rw [← ypV_yes hv]
  obtain ⟨⟨k0, k1⟩, _⟩ := vpart_iff.1 hv
  exact yearPartI_any k a b W h (by go_wf)
theorem ypS_of {k a b : Int} (hv : vpart k a b = true) : YpS k a b (lowN (ypN k a b) (ypD k)) (lowD (ypN k a b) (ypD k)) := by
  intro W
  rw [← ypV_yes hv]
  exact yearPartS2_any k a b W
theorem ypI_no {k a b : Int} (hk : -1 ≤ k ∧ k ≤ 4) (hv : vpart k a b = false) (W : World) (h : MD W) : Calls Tryd.prog 16 #[.int .i64 k, .int .i64 a, .int .i64 b] W (YP (0, 0, false) W) := by
  rw [← ypV_no hv]
  obtain ⟨k0, k1⟩ := hk
  exact yearPartI_any k a b W h (by go_wf)
theorem ypS_no {k a b : Int} (hv : vpart k a b = false) (W : World) : Calls Tryd.prog 15 #[.int .i64 k, .int .i64 a, .int .i64 b] W (YP (0, 0, false) W) := by
  rw [← ypV_no hv]
  exact yearPartS2_any k a b W
theorem lowI_ge {n1 d1 n2 d2 : Int} (h1 : -2000000 ≤ n1 ∧ n1 ≤ 2000000) (h2 : -2000000 ≤ n2 ∧ n2 ≤ 2000000) (k1 : 1 ≤ d1 ∧ d1 ≤ 2000000) (k2 : 1 ≤ d2 ∧ d2 ≤ 2000000) (h : n2 * d1 ≤ n1 * d2) : 0 ≤ cmpR (lowN n1 d1) (lowD n1 d1) (lowN n2 d2) (lowD n2 d2) := by
  rw [cmpR_yes (low_ok h1.1 h1.2 k1.1 k1.2) (low_ok h2.1 h2.2 k2.1 k2.2)]
  have := low_cross k2.1 k1.1 h
  unfold cmpI
  rw [if_neg (by omega)]
  split <;> omega
theorem vpart_cut {k a b m : Int} (h : vpart k a b = true) (h1 : a ≤ m) (h2 : m ≤ b) : vpart k a m = true ∧ vpart k m b = true := by
  obtain ⟨hk, a1, a2, a3, a4⟩ := vpart_iff.1 h
  exact ⟨vpart_iff.2 ⟨hk, by omega, by omega, by omega, by omega⟩, vpart_iff.2 ⟨hk, by omega, by omega, by omega, by omega⟩⟩
theorem ypN_sum {k a m b : Int} (h : k ≠ 2) : ypN k a m + ypN k m b = ypN k a b := by
  unfold ypN
  rw [if_neg h, if_neg h, if_neg h]
  split <;> omega
theorem sum_res {k a m b : Int} (hv : vpart k a b = true) (h2 : k ≠ 2) : lowRes (lowN (ypN k a m) (ypD k) * lowD (ypN k m b) (ypD k) + lowN (ypN k m b) (ypD k) * lowD (ypN k a m) (ypD k)) (lowD (ypN k a m) (ypD k) * lowD (ypN k m b) (ypD k)) = (lowN (ypN k a b) (ypD k), lowD (ypN k a b) (ypD k), true) := by
  have s := low_sum (m := ypN k a m) (n := ypN k m b) (ypD_bd k).1
  rw [ypN_sum h2] at s
  unfold lowRes
  rw [s.1, s.2, if_pos (yp_ok hv)]
theorem sumCall {k a m b : Int} (hv : vpart k a b = true) (h2 : k ≠ 2) (hm1 : a ≤ m) (hm2 : m ≤ b) (W : World) :
    Calls Tryd.prog 21 #[.agg #[.int .i64 (lowN (ypN k a m) (ypD k)), .int .i64 (lowD (ypN k a m) (ypD k))], .agg #[.int .i64 (lowN (ypN k m b) (ypD k)), .int .i64 (lowD (ypN k m b) (ypD k))]] W (YP (lowN (ypN k a b) (ypD k), lowD (ypN k a b) (ypD k), true) W) := by
  obtain ⟨v1, v2⟩ := vpart_cut hv hm1 hm2
  have := addRatio_any _ _ _ _ W (yp_ok v1) (yp_ok v2)
  rw [sum_res hv h2] at this
  exact this
set_option maxHeartbeats 4000000 in
theorem fnYearPartSum_walk (a : Option Addr) (len cap : Nat) (w : World) (hM : MD w) (hlc : len ≤ cap) (hc : cap ≤ maxLen) (h : IsBytes w a len) :
    Calls Tryd.prog 5 #[.slice a len cap] w fun e w' => e = .returned (.bool true) ∧ Below w.heap.size w w' := by
  by_cases hbig : 1048576 < len
  · exact big_FnYearPartSum a len cap w hlc hc hbig
  have hM1 := hM.size
  have HM := Lib.hid hM
  have H := Lib.hid h
  clear h hM
  go_enter Tryd.func5, Tryd.ntmps5
  have HB := Lib.hid (Below.refl w.heap.size w)
  go_wp2_with fail
  refine (drawYearPart_any _ _ _ _ hlc hc H.out).mono ?_
  rintro e w1 ⟨k, x, y, rfl, hk, hx, hy, hb⟩
  have hszw1 := below_size hb
  try simp at hszw1
  have HBq : Below w.heap.size w w1 := Below.trans (by repeat (first | exact Below.refl _ _ | exact HB.out | refine Below.drew ?_ | refine bel_drewN _ ?_ | refine Below.alloc ?_ (by first | omega | (simp; done) | (simp; omega)) _ | refine Below.setCell ?_ (by first | (show _ ≤ _; omega) | (simp; done) | (simp; omega)) _)) (hb.mono (by first | omega | (simp; done) | (simp; omega)))
  have HB := Lib.hid HBq
  clear HBq hb
  by_cases hv : vpart k x y = true
  · obtain ⟨⟨k0, k1⟩, x0, x1, y0, y1⟩ := vpart_iff.1 hv
    clear hk hx hy
    have HI := Lib.hid (ypI_of hv)
    have HS := Lib.hid (ypS_of hv)
    by_cases h2 : k = 2
    · subst h2
      clear hv
      generalize lowN (ypN 2 x y) (ypD 2) = N at *
      generalize lowD (ypN 2 x y) (ypD 2) = D at *
      go_wp2_with fail
      refine (HI.out _ (by exact HM.out.fwd (by repeat (first | exact Below.refl _ _ | exact HB.out.mono hM1 | refine Below.drew ?_ | refine bel_drewN _ ?_ | refine Below.alloc ?_ (by first | omega | (simp; done) | (simp; omega)) _ | refine Below.setCell ?_ (by first | (show _ ≤ _; omega) | (simp; done) | (simp; omega)) _)))).mono ?_
      rintro e w2 ⟨rfl, hb⟩
      have hszw2 := below_size hb
      try simp at hszw2
      have HBq : Below w.heap.size w w2 := Below.trans (by repeat (first | exact Below.refl _ _ | exact HB.out | refine Below.drew ?_ | refine bel_drewN _ ?_ | refine Below.alloc ?_ (by first | omega | (simp; done) | (simp; omega)) _ | refine Below.setCell ?_ (by first | (show _ ≤ _; omega) | (simp; done) | (simp; omega)) _)) (hb.mono (by first | omega | (simp; done) | (simp; omega)))
      have HB := Lib.hid HBq
      clear HBq hb
      go_wp2_with fail
      refine (HS.out _).mono ?_
      rintro e w3 ⟨rfl, hb⟩
      have r0_1 : w3.cell? ⟨w2.heap.size, 0, none⟩ = some (.int .i64 N) := bc hb (by first | (simp; done) | go_simp)
      have r1_1 : w3.cell? ⟨w2.heap.size, 1, none⟩ = some (.int .i64 D) := bc hb (by first | (simp; done) | go_simp)
      have rl_1 : w2.heap.size < w3.heap.size := cell_lt r0_1
      have hszw3 := below_size hb
      try simp at hszw3
      have HBq : Below w.heap.size w w3 := Below.trans (by repeat (first | exact Below.refl _ _ | exact HB.out | refine Below.drew ?_ | refine bel_drewN _ ?_ | refine Below.alloc ?_ (by first | omega | (simp; done) | (simp; omega)) _ | refine Below.setCell ?_ (by first | (show _ ≤ _; omega) | (simp; done) | (simp; omega)) _)) (hb.mono (by first | omega | (simp; done) | (simp; omega)))
      have HB := Lib.hid HBq
      clear HBq hb
      go_wp2
      go_ret
      exact ⟨rfl, (by repeat (first | exact Below.refl _ _ | exact HB.out | refine Below.drew ?_ | refine bel_drewN _ ?_ | refine Below.alloc ?_ (by first | omega | (simp; done) | (simp; omega)) _ | refine Below.setCell ?_ (by first | (show _ ≤ _; omega) | (simp; done) | (simp; omega)) _))⟩
    · have h2' : (k == 2) = false := by simpa using h2
      have m1 : x ≤ (x + y) / 2 := by omega
      have m2 : (x + y) / 2 ≤ y := by omega
      obtain ⟨v1, v2⟩ := vpart_cut hv m1 m2
      have HI1 := Lib.hid (ypI_of v1)
      have HI2 := Lib.hid (ypI_of v2)
      have HA := Lib.hid (sumCall hv h2 m1 m2)
      clear hv v1 v2 h2
      generalize lowN (ypN k x y) (ypD k) = N at *
      generalize lowD (ypN k x y) (ypD k) = D at *
      generalize lowN (ypN k x ((x + y) / 2)) (ypD k) = N1 at *
      generalize lowD (ypN k x ((x + y) / 2)) (ypD k) = D1 at *
      generalize lowN (ypN k ((x + y) / 2) y) (ypD k) = N2 at *
      generalize lowD (ypN k ((x + y) / 2) y) (ypD k) = D2 at *
      go_wp2_with fail
      refine (HI.out _ (by exact HM.out.fwd (by repeat (first | exact Below.refl _ _ | exact HB.out.mono hM1 | refine Below.drew ?_ | refine bel_drewN _ ?_ | refine Below.alloc ?_ (by first | omega | (simp; done) | (simp; omega)) _ | refine Below.setCell ?_ (by first | (show _ ≤ _; omega) | (simp; done) | (simp; omega)) _)))).mono ?_
      rintro e w2 ⟨rfl, hb⟩
      have hszw2 := below_size hb
      try simp at hszw2
      have HBq : Below w.heap.size w w2 := Below.trans (by repeat (first | exact Below.refl _ _ | exact HB.out | refine Below.drew ?_ | refine bel_drewN _ ?_ | refine Below.alloc ?_ (by first | omega | (simp; done) | (simp; omega)) _ | refine Below.setCell ?_ (by first | (show _ ≤ _; omega) | (simp; done) | (simp; omega)) _)) (hb.mono (by first | omega | (simp; done) | (simp; omega)))
      have HB := Lib.hid HBq
      clear HBq hb
      go_wp2_with fail
      refine (HS.out _).mono ?_
      rintro e w3 ⟨rfl, hb⟩
      have r0_1 : w3.cell? ⟨w2.heap.size, 0, none⟩ = some (.int .i64 N) := bc hb (by first | (simp; done) | go_simp)
      have r1_1 : w3.cell? ⟨w2.heap.size, 1, none⟩ = some (.int .i64 D) := bc hb (by first | (simp; done) | go_simp)
      have rl_1 : w2.heap.size < w3.heap.size := cell_lt r0_1
      have hszw3 := below_size hb
      try simp at hszw3
      have HBq : Below w.heap.size w w3 := Below.trans (by repeat (first | exact Below.refl _ _ | exact HB.out | refine Below.drew ?_ | refine bel_drewN _ ?_ | refine Below.alloc ?_ (by first | omega | (simp; done) | (simp; omega)) _ | refine Below.setCell ?_ (by first | (show _ ≤ _; omega) | (simp; done) | (simp; omega)) _)) (hb.mono (by first | omega | (simp; done) | (simp; omega)))
      have HB := Lib.hid HBq
      clear HBq hb
      go_wp2_with fail
      refine (HI1.out _ (by exact HM.out.fwd (by repeat (first | exact Below.refl _ _ | exact HB.out.mono hM1 | refine Below.drew ?_ | refine bel_drewN _ ?_ | refine Below.alloc ?_ (by first | omega | (simp; done) | (simp; omega)) _ | refine Below.setCell ?_ (by first | (show _ ≤ _; omega) | (simp; done) | (simp; omega)) _)))).mono ?_
      rintro e w4 ⟨rfl, hb⟩
      have r0_2 : w4.cell? ⟨w2.heap.size, 0, none⟩ = some (.int .i64 N) := bc hb (by first | exact r0_1 | exact ca r0_1 | exact ca (ca r0_1) | exact ca (ca (ca r0_1)) | (simp; done) | go_simp)
      have r1_2 : w4.cell? ⟨w2.heap.size, 1, none⟩ = some (.int .i64 D) := bc hb (by first | exact r1_1 | exact ca r1_1 | exact ca (ca r1_1) | exact ca (ca (ca r1_1)) | (simp; done) | go_simp)
      have rl_2 : w2.heap.size < w4.heap.size := cell_lt r0_2
      clear r0_1 r1_1 rl_1
      have s0_1 : w4.cell? ⟨w3.heap.size, 0, none⟩ = some (.int .i64 N) := bc hb (by first | (simp; done) | go_simp)
      have s1_1 : w4.cell? ⟨w3.heap.size, 1, none⟩ = some (.int .i64 D) := bc hb (by first | (simp; done) | go_simp)
      have sl_1 : w3.heap.size < w4.heap.size := cell_lt s0_1
      have hszw4 := below_size hb
      try simp at hszw4
      have HBq : Below w.heap.size w w4 := Below.trans (by repeat (first | exact Below.refl _ _ | exact HB.out | refine Below.drew ?_ | refine bel_drewN _ ?_ | refine Below.alloc ?_ (by first | omega | (simp; done) | (simp; omega)) _ | refine Below.setCell ?_ (by first | (show _ ≤ _; omega) | (simp; done) | (simp; omega)) _)) (hb.mono (by first | omega | (simp; done) | (simp; omega)))
      have HB := Lib.hid HBq
      clear HBq hb
      go_wp2_with fail
      refine (HI2.out _ (by exact HM.out.fwd (by repeat (first | exact Below.refl _ _ | exact HB.out.mono hM1 | refine Below.drew ?_ | refine bel_drewN _ ?_ | refine Below.alloc ?_ (by first | omega | (simp; done) | (simp; omega)) _ | refine Below.setCell ?_ (by first | (show _ ≤ _; omega) | (simp; done) | (simp; omega)) _)))).mono ?_
      rintro e w5 ⟨rfl, hb⟩
      have r0_3 : w5.cell? ⟨w2.heap.size, 0, none⟩ = some (.int .i64 N) := bc hb (by first | exact r0_2 | exact ca r0_2 | exact ca (ca r0_2) | exact ca (ca (ca r0_2)) | (simp; done) | go_simp)
      have r1_3 : w5.cell? ⟨w2.heap.size, 1, none⟩ = some (.int .i64 D) := bc hb (by first | exact r1_2 | exact ca r1_2 | exact ca (ca r1_2) | exact ca (ca (ca r1_2)) | (simp; done) | go_simp)
      have rl_3 : w2.heap.size < w5.heap.size := cell_lt r0_3
      clear r0_2 r1_2 rl_2
      have s0_2 : w5.cell? ⟨w3.heap.size, 0, none⟩ = some (.int .i64 N) := bc hb (by first | exact s0_1 | exact ca s0_1 | exact ca (ca s0_1) | exact ca (ca (ca s0_1)) | (simp; done) | go_simp)
      have s1_2 : w5.cell? ⟨w3.heap.size, 1, none⟩ = some (.int .i64 D) := bc hb (by first | exact s1_1 | exact ca s1_1 | exact ca (ca s1_1) | exact ca (ca (ca s1_1)) | (simp; done) | go_simp)
      have sl_2 : w3.heap.size < w5.heap.size := cell_lt s0_2
      clear s0_1 s1_1 sl_1
      have t0_1 : w5.cell? ⟨w4.heap.size, 0, none⟩ = some (.int .i64 N1) := bc hb (by first | (simp; done) | go_simp)
      have t1_1 : w5.cell? ⟨w4.heap.size, 1, none⟩ = some (.int .i64 D1) := bc hb (by first | (simp; done) | go_simp)
      have tl_1 : w4.heap.size < w5.heap.size := cell_lt t0_1
      have hszw5 := below_size hb
      try simp at hszw5
      have HBq : Below w.heap.size w w5 := Below.trans (by repeat (first | exact Below.refl _ _ | exact HB.out | refine Below.drew ?_ | refine bel_drewN _ ?_ | refine Below.alloc ?_ (by first | omega | (simp; done) | (simp; omega)) _ | refine Below.setCell ?_ (by first | (show _ ≤ _; omega) | (simp; done) | (simp; omega)) _)) (hb.mono (by first | omega | (simp; done) | (simp; omega)))
      have HB := Lib.hid HBq
      clear HBq hb
      go_wp2_with fail
      refine (HA.out _).mono ?_
      rintro e w6 ⟨rfl, hb⟩
      have r0_4 : w6.cell? ⟨w2.heap.size, 0, none⟩ = some (.int .i64 N) := bc hb (by first | exact r0_3 | exact ca r0_3 | exact ca (ca r0_3) | exact ca (ca (ca r0_3)) | (simp; done) | go_simp)
      have r1_4 : w6.cell? ⟨w2.heap.size, 1, none⟩ = some (.int .i64 D) := bc hb (by first | exact r1_3 | exact ca r1_3 | exact ca (ca r1_3) | exact ca (ca (ca r1_3)) | (simp; done) | go_simp)
      have rl_4 : w2.heap.size < w6.heap.size := cell_lt r0_4
      clear r0_3 r1_3 rl_3
      have s0_3 : w6.cell? ⟨w3.heap.size, 0, none⟩ = some (.int .i64 N) := bc hb (by first | exact s0_2 | exact ca s0_2 | exact ca (ca s0_2) | exact ca (ca (ca s0_2)) | (simp; done) | go_simp)
      have s1_3 : w6.cell? ⟨w3.heap.size, 1, none⟩ = some (.int .i64 D) := bc hb (by first | exact s1_2 | exact ca s1_2 | exact ca (ca s1_2) | exact ca (ca (ca s1_2)) | (simp; done) | go_simp)
      have sl_3 : w3.heap.size < w6.heap.size := cell_lt s0_3
      clear s0_2 s1_2 sl_2
      have t0_2 : w6.cell? ⟨w4.heap.size, 0, none⟩ = some (.int .i64 N1) := bc hb (by first | exact t0_1 | exact ca t0_1 | exact ca (ca t0_1) | exact ca (ca (ca t0_1)) | (simp; done) | go_simp)
      have t1_2 : w6.cell? ⟨w4.heap.size, 1, none⟩ = some (.int .i64 D1) := bc hb (by first | exact t1_1 | exact ca t1_1 | exact ca (ca t1_1) | exact ca (ca (ca t1_1)) | (simp; done) | go_simp)
      have tl_2 : w4.heap.size < w6.heap.size := cell_lt t0_2
      clear t0_1 t1_1 tl_1
      have u0_1 : w6.cell? ⟨w5.heap.size, 0, none⟩ = some (.int .i64 N2) := bc hb (by first | (simp; done) | go_simp)
      have u1_1 : w6.cell? ⟨w5.heap.size, 1, none⟩ = some (.int .i64 D2) := bc hb (by first | (simp; done) | go_simp)
      have ul_1 : w5.heap.size < w6.heap.size := cell_lt u0_1
      have hszw6 := below_size hb
      try simp at hszw6
      have HBq : Below w.heap.size w w6 := Below.trans (by repeat (first | exact Below.refl _ _ | exact HB.out | refine Below.drew ?_ | refine bel_drewN _ ?_ | refine Below.alloc ?_ (by first | omega | (simp; done) | (simp; omega)) _ | refine Below.setCell ?_ (by first | (show _ ≤ _; omega) | (simp; done) | (simp; omega)) _)) (hb.mono (by first | omega | (simp; done) | (simp; omega)))
      have HB := Lib.hid HBq
      clear HBq hb
      go_wp2
      go_ret
      exact ⟨rfl, (by repeat (first | exact Below.refl _ _ | exact HB.out | refine Below.drew ?_ | refine bel_drewN _ ?_ | refine Below.alloc ?_ (by first | omega | (simp; done) | (simp; omega)) _ | refine Below.setCell ?_ (by first | (show _ ≤ _; omega) | (simp; done) | (simp; omega)) _))⟩
  · have hv' : vpart k x y = false := by simpa using hv
    have HI := Lib.hid (ypI_no hk hv')
    have HS := Lib.hid (ypS_no hv')
    clear hk hx hy hv hv'
    go_wp2_with fail
    refine (HI.out _ (by exact HM.out.fwd (by repeat (first | exact Below.refl _ _ | exact HB.out.mono hM1 | refine Below.drew ?_ | refine bel_drewN _ ?_ | refine Below.alloc ?_ (by first | omega | (simp; done) | (simp; omega)) _ | refine Below.setCell ?_ (by first | (show _ ≤ _; omega) | (simp; done) | (simp; omega)) _)))).mono ?_
    rintro e w2 ⟨rfl, hb⟩
    have hszw2 := below_size hb
    try simp at hszw2
    have HBq : Below w.heap.size w w2 := Below.trans (by repeat (first | exact Below.refl _ _ | exact HB.out | refine Below.drew ?_ | refine bel_drewN _ ?_ | refine Below.alloc ?_ (by first | omega | (simp; done) | (simp; omega)) _ | refine Below.setCell ?_ (by first | (show _ ≤ _; omega) | (simp; done) | (simp; omega)) _)) (hb.mono (by first | omega | (simp; done) | (simp; omega)))
    have HB := Lib.hid HBq
    clear HBq hb
    go_wp2_with fail
    refine (HS.out _).mono ?_
    rintro e w3 ⟨rfl, hb⟩
    have r0_1 : w3.cell? ⟨w2.heap.size, 0, none⟩ = some (.int .i64 0) := bc hb (by first | (simp; done) | go_simp)
    have r1_1 : w3.cell? ⟨w2.heap.size, 1, none⟩ = some (.int .i64 0) := bc hb (by first | (simp; done) | go_simp)
    have rl_1 : w2.heap.size < w3.heap.size := cell_lt r0_1
    have hszw3 := below_size hb
    try simp at hszw3
    have HBq : Below w.heap.size w w3 := Below.trans (by repeat (first | exact Below.refl _ _ | exact HB.out | refine Below.drew ?_ | refine bel_drewN _ ?_ | refine Below.alloc ?_ (by first | omega | (simp; done) | (simp; omega)) _ | refine Below.setCell ?_ (by first | (show _ ≤ _; omega) | (simp; done) | (simp; omega)) _)) (hb.mono (by first | omega | (simp; done) | (simp; omega)))
    have HB := Lib.hid HBq
    clear HBq hb
    go_wp2
    go_ret
    exact ⟨rfl, (by repeat (first | exact Below.refl _ _ | exact HB.out | refine Below.drew ?_ | refine bel_drewN _ ?_ | refine Below.alloc ?_ (by first | omega | (simp; done) | (simp; omega)) _ | refine Below.setCell ?_ (by first | (show _ ≤ _; omega) | (simp; done) | (simp; omega)) _))⟩
end Go.Proofs.YtdphmeepbkmkkaaDoor
