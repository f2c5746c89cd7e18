/- The laws over dates. -/
import Derived.Test.YtddaaamahdnffaaDoorDateDraw
import Derived.Test.YtddaaamahdnffaaDoorDateFacts
namespace Go.Proofs.YtddaaamahdnffaaDoor
open Go.RowKit
set_option linter.unusedVariables false
theorem fnExactDayOf_walk (y m d : Int) (w : World) (hM : MD w) (_w0 : True) :
    Calls Tryd.prog 3 #[.agg #[.int .i64 y, .int .i64 m, .int .i64 d]] w fun e w' => e = .returned (.bool true) ∧ Below w.heap.size w w' := by
  have hM1 := hM.size
  have HM := Lib.hid hM
  clear hM
  go_enter Tryd.func3, Tryd.ntmps3
  have HB := Lib.hid (Below.refl w.heap.size w)
  go_wp2_with fail
  refine (toDate_any y m d _).mono ?_
  rintro e w1 ⟨rfl, hb⟩
  have r0_1 : w1.cell? ⟨w.heap.size, 0, none⟩ = some (.int .i64 y) := bc hb (by first | (simp; done) | go_simp)
  have r1_1 : w1.cell? ⟨w.heap.size, 1, none⟩ = some (.int .i64 m) := bc hb (by first | (simp; done) | go_simp)
  have r2_1 : w1.cell? ⟨w.heap.size, 2, none⟩ = some (.int .i64 d) := bc hb (by first | (simp; done) | go_simp)
  have rl_1 : w.heap.size < w1.heap.size := cell_lt r0_1
  have hszw1 := below_size hb
  try simp at hszw1
  have HBq : Below w.heap.size w w1 := Below.trans (by repeat (first | exact Below.refl _ _ | exact HB.out | refine Below.drew ?_ | refine bel_drewN _ ?_ | refine Below.alloc ?_ (by first | omega | (simp; done) | (simp; omega)) _ | refine Below.setCell ?_ (by first | (show _ ≤ _; omega) | (simp; done) | (simp; omega)) _)) (hb.mono (by first | omega | (simp; done) | (simp; omega)))
  have HB := Lib.hid HBq
  clear HBq hb
  go_wp2_with fail
  refine (dayOfS2_any y m d _ (by exact HM.out.fwd (by repeat (first | exact Below.refl _ _ | exact HB.out.mono hM1 | refine Below.drew ?_ | refine bel_drewN _ ?_ | refine Below.alloc ?_ (by first | omega | (simp; done) | (simp; omega)) _ | refine Below.setCell ?_ (by first | (show _ ≤ _; omega) | (simp; done) | (simp; omega)) _)))).mono ?_
  rintro e w2 ⟨rfl, hb⟩
  have r0_2 : w2.cell? ⟨w.heap.size, 0, none⟩ = some (.int .i64 y) := bc hb (by first | exact r0_1 | exact ca r0_1 | exact ca (ca r0_1) | exact ca (ca (ca r0_1)) | (simp; done) | go_simp)
  have r1_2 : w2.cell? ⟨w.heap.size, 1, none⟩ = some (.int .i64 m) := bc hb (by first | exact r1_1 | exact ca r1_1 | exact ca (ca r1_1) | exact ca (ca (ca r1_1)) | (simp; done) | go_simp)
  have r2_2 : w2.cell? ⟨w.heap.size, 2, none⟩ = some (.int .i64 d) := bc hb (by first | exact r2_1 | exact ca r2_1 | exact ca (ca r2_1) | exact ca (ca (ca r2_1)) | (simp; done) | go_simp)
  have rl_2 : w.heap.size < w2.heap.size := cell_lt r0_2
  clear r0_1 r1_1 r2_1 rl_1
  have hszw2 := below_size hb
  try simp at hszw2
  have HBq : Below w.heap.size w w2 := Below.trans (by repeat (first | exact Below.refl _ _ | exact HB.out | refine Below.drew ?_ | refine bel_drewN _ ?_ | refine Below.alloc ?_ (by first | omega | (simp; done) | (simp; omega)) _ | refine Below.setCell ?_ (by first | (show _ ≤ _; omega) | (simp; done) | (simp; omega)) _)) (hb.mono (by first | omega | (simp; done) | (simp; omega)))
  have HB := Lib.hid HBq
  clear HBq hb
  go_wp2_with fail
  refine (toDate_any y m d _).mono ?_
  rintro e w3 ⟨rfl, hb⟩
  have r0_3 : w3.cell? ⟨w.heap.size, 0, none⟩ = some (.int .i64 y) := bc hb (by first | exact r0_2 | exact ca r0_2 | exact ca (ca r0_2) | exact ca (ca (ca r0_2)) | (simp; done) | go_simp)
  have r1_3 : w3.cell? ⟨w.heap.size, 1, none⟩ = some (.int .i64 m) := bc hb (by first | exact r1_2 | exact ca r1_2 | exact ca (ca r1_2) | exact ca (ca (ca r1_2)) | (simp; done) | go_simp)
  have r2_3 : w3.cell? ⟨w.heap.size, 2, none⟩ = some (.int .i64 d) := bc hb (by first | exact r2_2 | exact ca r2_2 | exact ca (ca r2_2) | exact ca (ca (ca r2_2)) | (simp; done) | go_simp)
  have rl_3 : w.heap.size < w3.heap.size := cell_lt r0_3
  clear r0_2 r1_2 r2_2 rl_2
  have hszw3 := below_size hb
  try simp at hszw3
  have HBq : Below w.heap.size w w3 := Below.trans (by repeat (first | exact Below.refl _ _ | exact HB.out | refine Below.drew ?_ | refine bel_drewN _ ?_ | refine Below.alloc ?_ (by first | omega | (simp; done) | (simp; omega)) _ | refine Below.setCell ?_ (by first | (show _ ≤ _; omega) | (simp; done) | (simp; omega)) _)) (hb.mono (by first | omega | (simp; done) | (simp; omega)))
  have HB := Lib.hid HBq
  clear HBq hb
  go_wp2_with fail
  refine (dayOfI_any y m d _ (by exact HM.out.fwd (by repeat (first | exact Below.refl _ _ | exact HB.out.mono hM1 | refine Below.drew ?_ | refine bel_drewN _ ?_ | refine Below.alloc ?_ (by first | omega | (simp; done) | (simp; omega)) _ | refine Below.setCell ?_ (by first | (show _ ≤ _; omega) | (simp; done) | (simp; omega)) _)))).mono ?_
  rintro e w4 ⟨rfl, hb⟩
  have r0_4 : w4.cell? ⟨w.heap.size, 0, none⟩ = some (.int .i64 y) := bc hb (by first | exact r0_3 | exact ca r0_3 | exact ca (ca r0_3) | exact ca (ca (ca r0_3)) | (simp; done) | go_simp)
  have r1_4 : w4.cell? ⟨w.heap.size, 1, none⟩ = some (.int .i64 m) := bc hb (by first | exact r1_3 | exact ca r1_3 | exact ca (ca r1_3) | exact ca (ca (ca r1_3)) | (simp; done) | go_simp)
  have r2_4 : w4.cell? ⟨w.heap.size, 2, none⟩ = some (.int .i64 d) := bc hb (by first | exact r2_3 | exact ca r2_3 | exact ca (ca r2_3) | exact ca (ca (ca r2_3)) | (simp; done) | go_simp)
  have rl_4 : w.heap.size < w4.heap.size := cell_lt r0_4
  clear r0_3 r1_3 r2_3 rl_3
  have hszw4 := below_size hb
  try simp at hszw4
  have HBq : Below w.heap.size w w4 := Below.trans (by repeat (first | exact Below.refl _ _ | exact HB.out | refine Below.drew ?_ | refine bel_drewN _ ?_ | refine Below.alloc ?_ (by first | omega | (simp; done) | (simp; omega)) _ | refine Below.setCell ?_ (by first | (show _ ≤ _; omega) | (simp; done) | (simp; omega)) _)) (hb.mono (by first | omega | (simp; done) | (simp; omega)))
  have HB := Lib.hid HBq
  clear HBq hb
  go_wp2
  go_ret
  exact ⟨rfl, HB.out⟩
theorem fnExactAddMonths_walk (n k : Int) (w : World) (hM : MD w) (_w0 : (Lit.int .i64 n).wf = true) (_w1 : (Lit.int .i64 k).wf = true) :
    Calls Tryd.prog 4 #[.int .i64 n, .int .i64 k] w fun e w' => e = .returned (.bool true) ∧ Below w.heap.size w w' := by
  have hM1 := hM.size
  have HM := Lib.hid hM
  clear hM _w0 _w1
  go_enter Tryd.func4, Tryd.ntmps4
  have HB := Lib.hid (Below.refl w.heap.size w)
  go_wp2_with fail
  refine (addMonthsS_any n k _).mono ?_
  rintro e w1 ⟨rfl, hb⟩
  have hszw1 := below_size hb
  try simp at hszw1
  have HBq : Below w.heap.size w w1 := Below.trans (by repeat (first | exact Below.refl _ _ | exact HB.out | refine Below.drew ?_ | refine bel_drewN _ ?_ | refine Below.alloc ?_ (by first | omega | (simp; done) | (simp; omega)) _ | refine Below.setCell ?_ (by first | (show _ ≤ _; omega) | (simp; done) | (simp; omega)) _)) (hb.mono (by first | omega | (simp; done) | (simp; omega)))
  have HB := Lib.hid HBq
  clear HBq hb
  go_wp2_with fail
  refine (addMonthsI_any n k _ (by exact HM.out.fwd (by repeat (first | exact Below.refl _ _ | exact HB.out.mono hM1 | refine Below.drew ?_ | refine bel_drewN _ ?_ | refine Below.alloc ?_ (by first | omega | (simp; done) | (simp; omega)) _ | refine Below.setCell ?_ (by first | (show _ ≤ _; omega) | (simp; done) | (simp; omega)) _)))).mono ?_
  rintro e w2 ⟨rfl, hb⟩
  have hszw2 := below_size hb
  try simp at hszw2
  have HBq : Below w.heap.size w w2 := Below.trans (by repeat (first | exact Below.refl _ _ | exact HB.out | refine Below.drew ?_ | refine bel_drewN _ ?_ | refine Below.alloc ?_ (by first | omega | (simp; done) | (simp; omega)) _ | refine Below.setCell ?_ (by first | (show _ ≤ _; omega) | (simp; done) | (simp; omega)) _)) (hb.mono (by first | omega | (simp; done) | (simp; omega)))
  have HB := Lib.hid HBq
  clear HBq hb
  go_wp2
  go_ret
  exact ⟨rfl, HB.out⟩
theorem big_FnValidDate (a : Option Addr) (len cap : Nat) (w : World) (hlc : len ≤ cap) (hc : cap ≤ maxLen) (hbig : 1048576 < len) :
    Calls Tryd.prog 5 #[.slice a len cap] w fun e w' => e = .returned (.bool true) ∧ Below w.heap.size w w' := by
  unfold maxLen at hc
  go_enter Tryd.func5, Tryd.ntmps5
  go_wp2
  go_ret
  exact ⟨rfl, Below.refl _ _⟩
theorem big_FnDateOf (a : Option Addr) (len cap : Nat) (w : World) (hlc : len ≤ cap) (hc : cap ≤ maxLen) (hbig : 1048576 < len) :
    Calls Tryd.prog 6 #[.slice a len cap] w fun e w' => e = .returned (.bool true) ∧ Below w.heap.size w w' := by
  unfold maxLen at hc
  go_enter Tryd.func6, Tryd.ntmps6
  go_wp2
  go_ret
  exact ⟨rfl, Below.refl _ _⟩
theorem big_FnDayOf (a : Option Addr) (len cap : Nat) (w : World) (hlc : len ≤ cap) (hc : cap ≤ maxLen) (hbig : 1048576 < len) :
    Calls Tryd.prog 7 #[.slice a len cap] w fun e w' => e = .returned (.bool true) ∧ Below w.heap.size w w' := by
  unfold maxLen at hc
  go_enter Tryd.func7, Tryd.ntmps7
  go_wp2
  go_ret
  exact ⟨rfl, Below.refl _ _⟩
theorem big_FnAddMonthsBack (a : Option Addr) (len cap : Nat) (w : World) (hlc : len ≤ cap) (hc : cap ≤ maxLen) (hbig : 1048576 < len) :
    Calls Tryd.prog 8 #[.slice a len cap] w fun e w' => e = .returned (.bool true) ∧ Below w.heap.size w w' := by
  unfold maxLen at hc
  go_enter Tryd.func8, Tryd.ntmps8
  go_wp2
  go_ret
  exact ⟨rfl, Below.refl _ _⟩
theorem big_FnAddMonthsOrder (a : Option Addr) (len cap : Nat) (w : World) (hlc : len ≤ cap) (hc : cap ≤ maxLen) (hbig : 1048576 < len) :
    Calls Tryd.prog 9 #[.slice a len cap] w fun e w' => e = .returned (.bool true) ∧ Below w.heap.size w w' := by
  unfold maxLen at hc
  go_enter Tryd.func9, Tryd.ntmps9
  go_wp2
  go_ret
  exact ⟨rfl, Below.refl _ _⟩
theorem big_FnAddMonths (a : Option Addr) (len cap : Nat) (w : World) (hlc : len ≤ cap) (hc : cap ≤ maxLen) (hbig : 1048576 < len) :
    Calls Tryd.prog 10 #[.slice a len cap] w fun e w' => e = .returned (.bool true) ∧ Below w.heap.size w w' := by
  unfold maxLen at hc
  go_enter Tryd.func10, Tryd.ntmps10
  go_wp2
  go_ret
  exact ⟨rfl, Below.refl _ _⟩
theorem big_FnAddMonthsYear (a : Option Addr) (len cap : Nat) (w : World) (hlc : len ≤ cap) (hc : cap ≤ maxLen) (hbig : 1048576 < len) :
    Calls Tryd.prog 11 #[.slice a len cap] w fun e w' => e = .returned (.bool true) ∧ Below w.heap.size w w' := by
  unfold maxLen at hc
  go_enter Tryd.func11, Tryd.ntmps11
  go_wp2
  go_ret
  exact ⟨rfl, Below.refl _ _⟩
set_option maxHeartbeats 1000000 in
theorem fnValidDate_walk (a : Option Addr) (len cap : Nat) (w : World) (hM : MD w) (hlc : len ≤ cap) (hc : cap ≤ maxLen) (h : IsBytes w a len) :
    Calls Tryd.prog 5 #[.slice a len cap] w fun e w' => e = .returned (.bool true) ∧ Below w.heap.size w w' := by
  by_cases hbig : 1048576 < len
  · exact big_FnValidDate a len cap w hlc hc hbig
  have hM1 := hM.size
  have HM := Lib.hid hM
  have H := Lib.hid h
  clear h hM
  go_enter Tryd.func5, Tryd.ntmps5
  have HB := Lib.hid (Below.refl w.heap.size w)
  go_wp2_with fail
  refine (drawValidDate_any _ _ _ _ hlc hc H.out).mono ?_
  rintro e w1 ⟨y, m, d, rfl, hy, hm, hd, hb⟩
  have hszw1 := below_size hb
  try simp at hszw1
  have HBq : Below w.heap.size w w1 := Below.trans (by repeat (first | exact Below.refl _ _ | exact HB.out | refine Below.drew ?_ | refine bel_drewN _ ?_ | refine Below.alloc ?_ (by first | omega | (simp; done) | (simp; omega)) _ | refine Below.setCell ?_ (by first | (show _ ≤ _; omega) | (simp; done) | (simp; omega)) _)) (hb.mono (by first | omega | (simp; done) | (simp; omega)))
  have HB := Lib.hid HBq
  clear HBq hb
  clear hy hm hd
  by_cases hv : dtB y m d = true
  · have hn := num_bd (dtB_iff.1 hv)
    have hf : 0 ≤ dayF y m d := by unfold dayF; rw [if_pos hv]; exact hn.1
    clear hn
    go_wp2_with fail
    refine (validDateI_any y m d _ (by exact HM.out.fwd (by repeat (first | exact Below.refl _ _ | exact HB.out.mono hM1 | refine Below.drew ?_ | refine bel_drewN _ ?_ | refine Below.alloc ?_ (by first | omega | (simp; done) | (simp; omega)) _ | refine Below.setCell ?_ (by first | (show _ ≤ _; omega) | (simp; done) | (simp; omega)) _)))).mono ?_
    rintro e w2 ⟨rfl, hb⟩
    have r0_1 : w2.cell? ⟨w1.heap.size, 0, none⟩ = some (.int .i64 y) := bc hb (by first | (simp; done) | go_simp)
    have r1_1 : w2.cell? ⟨w1.heap.size, 1, none⟩ = some (.int .i64 m) := bc hb (by first | (simp; done) | go_simp)
    have r2_1 : w2.cell? ⟨w1.heap.size, 2, none⟩ = some (.int .i64 d) := bc hb (by first | (simp; done) | go_simp)
    have rl_1 : w1.heap.size < w2.heap.size := cell_lt r0_1
    have hszw2 := below_size hb
    try simp at hszw2
    have HBq : Below w.heap.size w w2 := Below.trans (by repeat (first | exact Below.refl _ _ | exact HB.out | refine Below.drew ?_ | refine bel_drewN _ ?_ | refine Below.alloc ?_ (by first | omega | (simp; done) | (simp; omega)) _ | refine Below.setCell ?_ (by first | (show _ ≤ _; omega) | (simp; done) | (simp; omega)) _)) (hb.mono (by first | omega | (simp; done) | (simp; omega)))
    have HB := Lib.hid HBq
    clear HBq hb
    go_wp2_with fail
    refine (validDateS2_any y m d _).mono ?_
    rintro e w3 ⟨rfl, hb⟩
    have r0_2 : w3.cell? ⟨w1.heap.size, 0, none⟩ = some (.int .i64 y) := bc hb (by first | exact r0_1 | exact ca r0_1 | exact ca (ca r0_1) | exact ca (ca (ca r0_1)) | (simp; done) | go_simp)
    have r1_2 : w3.cell? ⟨w1.heap.size, 1, none⟩ = some (.int .i64 m) := bc hb (by first | exact r1_1 | exact ca r1_1 | exact ca (ca r1_1) | exact ca (ca (ca r1_1)) | (simp; done) | go_simp)
    have r2_2 : w3.cell? ⟨w1.heap.size, 2, none⟩ = some (.int .i64 d) := bc hb (by first | exact r2_1 | exact ca r2_1 | exact ca (ca r2_1) | exact ca (ca (ca r2_1)) | (simp; done) | go_simp)
    have rl_2 : w1.heap.size < w3.heap.size := cell_lt r0_2
    clear r0_1 r1_1 r2_1 rl_1
    have hszw3 := below_size hb
    try simp at hszw3
    have HBq : Below w.heap.size w w3 := Below.trans (by repeat (first | exact Below.refl _ _ | exact HB.out | refine Below.drew ?_ | refine bel_drewN _ ?_ | refine Below.alloc ?_ (by first | omega | (simp; done) | (simp; omega)) _ | refine Below.setCell ?_ (by first | (show _ ≤ _; omega) | (simp; done) | (simp; omega)) _)) (hb.mono (by first | omega | (simp; done) | (simp; omega)))
    have HB := Lib.hid HBq
    clear HBq hb
    go_wp2_with fail
    refine (dayOfI_any y m d _ (by exact HM.out.fwd (by repeat (first | exact Below.refl _ _ | exact HB.out.mono hM1 | refine Below.drew ?_ | refine bel_drewN _ ?_ | refine Below.alloc ?_ (by first | omega | (simp; done) | (simp; omega)) _ | refine Below.setCell ?_ (by first | (show _ ≤ _; omega) | (simp; done) | (simp; omega)) _)))).mono ?_
    rintro e w4 ⟨rfl, hb⟩
    have r0_3 : w4.cell? ⟨w1.heap.size, 0, none⟩ = some (.int .i64 y) := bc hb (by first | exact r0_2 | exact ca r0_2 | exact ca (ca r0_2) | exact ca (ca (ca r0_2)) | (simp; done) | go_simp)
    have r1_3 : w4.cell? ⟨w1.heap.size, 1, none⟩ = some (.int .i64 m) := bc hb (by first | exact r1_2 | exact ca r1_2 | exact ca (ca r1_2) | exact ca (ca (ca r1_2)) | (simp; done) | go_simp)
    have r2_3 : w4.cell? ⟨w1.heap.size, 2, none⟩ = some (.int .i64 d) := bc hb (by first | exact r2_2 | exact ca r2_2 | exact ca (ca r2_2) | exact ca (ca (ca r2_2)) | (simp; done) | go_simp)
    have rl_3 : w1.heap.size < w4.heap.size := cell_lt r0_3
    clear r0_2 r1_2 r2_2 rl_2
    have hszw4 := below_size hb
    try simp at hszw4
    have HBq : Below w.heap.size w w4 := Below.trans (by repeat (first | exact Below.refl _ _ | exact HB.out | refine Below.drew ?_ | refine bel_drewN _ ?_ | refine Below.alloc ?_ (by first | omega | (simp; done) | (simp; omega)) _ | refine Below.setCell ?_ (by first | (show _ ≤ _; omega) | (simp; done) | (simp; omega)) _)) (hb.mono (by first | omega | (simp; done) | (simp; omega)))
    have HB := Lib.hid HBq
    clear HBq hb
    go_wp2
    go_ret
    exact ⟨rfl, HB.out⟩
  · have hv' : dtB y m d = false := by simpa using hv
    have hf : dayF y m d < 0 := by unfold dayF; rw [if_neg hv]; decide
    clear hv
    go_wp2_with fail
    refine (validDateI_any y m d _ (by exact HM.out.fwd (by repeat (first | exact Below.refl _ _ | exact HB.out.mono hM1 | refine Below.drew ?_ | refine bel_drewN _ ?_ | refine Below.alloc ?_ (by first | omega | (simp; done) | (simp; omega)) _ | refine Below.setCell ?_ (by first | (show _ ≤ _; omega) | (simp; done) | (simp; omega)) _)))).mono ?_
    rintro e w2 ⟨rfl, hb⟩
    have r0_1 : w2.cell? ⟨w1.heap.size, 0, none⟩ = some (.int .i64 y) := bc hb (by first | (simp; done) | go_simp)
    have r1_1 : w2.cell? ⟨w1.heap.size, 1, none⟩ = some (.int .i64 m) := bc hb (by first | (simp; done) | go_simp)
    have r2_1 : w2.cell? ⟨w1.heap.size, 2, none⟩ = some (.int .i64 d) := bc hb (by first | (simp; done) | go_simp)
    have rl_1 : w1.heap.size < w2.heap.size := cell_lt r0_1
    have hszw2 := below_size hb
    try simp at hszw2
    have HBq : Below w.heap.size w w2 := Below.trans (by repeat (first | exact Below.refl _ _ | exact HB.out | refine Below.drew ?_ | refine bel_drewN _ ?_ | refine Below.alloc ?_ (by first | omega | (simp; done) | (simp; omega)) _ | refine Below.setCell ?_ (by first | (show _ ≤ _; omega) | (simp; done) | (simp; omega)) _)) (hb.mono (by first | omega | (simp; done) | (simp; omega)))
    have HB := Lib.hid HBq
    clear HBq hb
    go_wp2_with fail
    refine (validDateS2_any y m d _).mono ?_
    rintro e w3 ⟨rfl, hb⟩
    have r0_2 : w3.cell? ⟨w1.heap.size, 0, none⟩ = some (.int .i64 y) := bc hb (by first | exact r0_1 | exact ca r0_1 | exact ca (ca r0_1) | exact ca (ca (ca r0_1)) | (simp; done) | go_simp)
    have r1_2 : w3.cell? ⟨w1.heap.size, 1, none⟩ = some (.int .i64 m) := bc hb (by first | exact r1_1 | exact ca r1_1 | exact ca (ca r1_1) | exact ca (ca (ca r1_1)) | (simp; done) | go_simp)
    have r2_2 : w3.cell? ⟨w1.heap.size, 2, none⟩ = some (.int .i64 d) := bc hb (by first | exact r2_1 | exact ca r2_1 | exact ca (ca r2_1) | exact ca (ca (ca r2_1)) | (simp; done) | go_simp)
    have rl_2 : w1.heap.size < w3.heap.size := cell_lt r0_2
    clear r0_1 r1_1 r2_1 rl_1
    have hszw3 := below_size hb
    try simp at hszw3
    have HBq : Below w.heap.size w w3 := Below.trans (by repeat (first | exact Below.refl _ _ | exact HB.out | refine Below.drew ?_ | refine bel_drewN _ ?_ | refine Below.alloc ?_ (by first | omega | (simp; done) | (simp; omega)) _ | refine Below.setCell ?_ (by first | (show _ ≤ _; omega) | (simp; done) | (simp; omega)) _)) (hb.mono (by first | omega | (simp; done) | (simp; omega)))
    have HB := Lib.hid HBq
    clear HBq hb
    go_wp2_with fail
    refine (dayOfI_any y m d _ (by exact HM.out.fwd (by repeat (first | exact Below.refl _ _ | exact HB.out.mono hM1 | refine Below.drew ?_ | refine bel_drewN _ ?_ | refine Below.alloc ?_ (by first | omega | (simp; done) | (simp; omega)) _ | refine Below.setCell ?_ (by first | (show _ ≤ _; omega) | (simp; done) | (simp; omega)) _)))).mono ?_
    rintro e w4 ⟨rfl, hb⟩
    have r0_3 : w4.cell? ⟨w1.heap.size, 0, none⟩ = some (.int .i64 y) := bc hb (by first | exact r0_2 | exact ca r0_2 | exact ca (ca r0_2) | exact ca (ca (ca r0_2)) | (simp; done) | go_simp)
    have r1_3 : w4.cell? ⟨w1.heap.size, 1, none⟩ = some (.int .i64 m) := bc hb (by first | exact r1_2 | exact ca r1_2 | exact ca (ca r1_2) | exact ca (ca (ca r1_2)) | (simp; done) | go_simp)
    have r2_3 : w4.cell? ⟨w1.heap.size, 2, none⟩ = some (.int .i64 d) := bc hb (by first | exact r2_2 | exact ca r2_2 | exact ca (ca r2_2) | exact ca (ca (ca r2_2)) | (simp; done) | go_simp)
    have rl_3 : w1.heap.size < w4.heap.size := cell_lt r0_3
    clear r0_2 r1_2 r2_2 rl_2
    have hszw4 := below_size hb
    try simp at hszw4
    have HBq : Below w.heap.size w w4 := Below.trans (by repeat (first | exact Below.refl _ _ | exact HB.out | refine Below.drew ?_ | refine bel_drewN _ ?_ | refine Below.alloc ?_ (by first | omega | (simp; done) | (simp; omega)) _ | refine Below.setCell ?_ (by first | (show _ ≤ _; omega) | (simp; done) | (simp; omega)) _)) (hb.mono (by first | omega | (simp; done) | (simp; omega)))
    have HB := Lib.hid HBq
    clear HBq hb
    go_wp2
    go_ret
    exact ⟨ret_bool (by simp; omega), HB.out⟩
set_option maxHeartbeats 1000000 in
theorem fnDayOf_walk (a : Option Addr) (len cap : Nat) (w : World) (hM : MD w) (hlc : len ≤ cap) (hc : cap ≤ maxLen) (h : IsBytes w a len) :
    Calls Tryd.prog 7 #[.slice a len cap] w fun e w' => e = .returned (.bool true) ∧ Below w.heap.size w w' := by
  by_cases hbig : 1048576 < len
  · exact big_FnDayOf a len cap w hlc hc hbig
  have hM1 := hM.size
  have HM := Lib.hid hM
  have H := Lib.hid h
  clear h hM
  go_enter Tryd.func7, Tryd.ntmps7
  have HB := Lib.hid (Below.refl w.heap.size w)
  go_wp2_with fail
  refine (drawDayOf_any _ _ _ _ hlc hc H.out).mono ?_
  rintro e w1 ⟨y, m, d, rfl, hy, hm, hd, hb⟩
  have hszw1 := below_size hb
  try simp at hszw1
  have HBq : Below w.heap.size w w1 := Below.trans (by repeat (first | exact Below.refl _ _ | exact HB.out | refine Below.drew ?_ | refine bel_drewN _ ?_ | refine Below.alloc ?_ (by first | omega | (simp; done) | (simp; omega)) _ | refine Below.setCell ?_ (by first | (show _ ≤ _; omega) | (simp; done) | (simp; omega)) _)) (hb.mono (by first | omega | (simp; done) | (simp; omega)))
  have HB := Lib.hid HBq
  clear HBq hb
  clear hy hm hd
  go_wp2_with fail
  refine (dayOfI_any y m d _ (by exact HM.out.fwd (by repeat (first | exact Below.refl _ _ | exact HB.out.mono hM1 | refine Below.drew ?_ | refine bel_drewN _ ?_ | refine Below.alloc ?_ (by first | omega | (simp; done) | (simp; omega)) _ | refine Below.setCell ?_ (by first | (show _ ≤ _; omega) | (simp; done) | (simp; omega)) _)))).mono ?_
  rintro e w2 ⟨rfl, hb⟩
  have r0_1 : w2.cell? ⟨w1.heap.size, 0, none⟩ = some (.int .i64 y) := bc hb (by first | (simp; done) | go_simp)
  have r1_1 : w2.cell? ⟨w1.heap.size, 1, none⟩ = some (.int .i64 m) := bc hb (by first | (simp; done) | go_simp)
  have r2_1 : w2.cell? ⟨w1.heap.size, 2, none⟩ = some (.int .i64 d) := bc hb (by first | (simp; done) | go_simp)
  have rl_1 : w1.heap.size < w2.heap.size := cell_lt r0_1
  have hszw2 := below_size hb
  try simp at hszw2
  have HBq : Below w.heap.size w w2 := Below.trans (by repeat (first | exact Below.refl _ _ | exact HB.out | refine Below.drew ?_ | refine bel_drewN _ ?_ | refine Below.alloc ?_ (by first | omega | (simp; done) | (simp; omega)) _ | refine Below.setCell ?_ (by first | (show _ ≤ _; omega) | (simp; done) | (simp; omega)) _)) (hb.mono (by first | omega | (simp; done) | (simp; omega)))
  have HB := Lib.hid HBq
  clear HBq hb
  go_wp2_with fail
  refine (dayOfS2_any y m d _ (by exact HM.out.fwd (by repeat (first | exact Below.refl _ _ | exact HB.out.mono hM1 | refine Below.drew ?_ | refine bel_drewN _ ?_ | refine Below.alloc ?_ (by first | omega | (simp; done) | (simp; omega)) _ | refine Below.setCell ?_ (by first | (show _ ≤ _; omega) | (simp; done) | (simp; omega)) _)))).mono ?_
  rintro e w3 ⟨rfl, hb⟩
  have r0_2 : w3.cell? ⟨w1.heap.size, 0, none⟩ = some (.int .i64 y) := bc hb (by first | exact r0_1 | exact ca r0_1 | exact ca (ca r0_1) | exact ca (ca (ca r0_1)) | (simp; done) | go_simp)
  have r1_2 : w3.cell? ⟨w1.heap.size, 1, none⟩ = some (.int .i64 m) := bc hb (by first | exact r1_1 | exact ca r1_1 | exact ca (ca r1_1) | exact ca (ca (ca r1_1)) | (simp; done) | go_simp)
  have r2_2 : w3.cell? ⟨w1.heap.size, 2, none⟩ = some (.int .i64 d) := bc hb (by first | exact r2_1 | exact ca r2_1 | exact ca (ca r2_1) | exact ca (ca (ca r2_1)) | (simp; done) | go_simp)
  have rl_2 : w1.heap.size < w3.heap.size := cell_lt r0_2
  clear r0_1 r1_1 r2_1 rl_1
  have hszw3 := below_size hb
  try simp at hszw3
  have HBq : Below w.heap.size w w3 := Below.trans (by repeat (first | exact Below.refl _ _ | exact HB.out | refine Below.drew ?_ | refine bel_drewN _ ?_ | refine Below.alloc ?_ (by first | omega | (simp; done) | (simp; omega)) _ | refine Below.setCell ?_ (by first | (show _ ≤ _; omega) | (simp; done) | (simp; omega)) _)) (hb.mono (by first | omega | (simp; done) | (simp; omega)))
  have HB := Lib.hid HBq
  clear HBq hb
  obtain ⟨b1, b2⟩ := dayF_bd y m d
  by_cases hf : dayF y m d < 0
  · --
    go_wp2_with fail
    refine (dayOfS2_any y m d _ (by exact HM.out.fwd (by repeat (first | exact Below.refl _ _ | exact HB.out.mono hM1 | refine Below.drew ?_ | refine bel_drewN _ ?_ | refine Below.alloc ?_ (by first | omega | (simp; done) | (simp; omega)) _ | refine Below.setCell ?_ (by first | (show _ ≤ _; omega) | (simp; done) | (simp; omega)) _)))).mono ?_
    rintro e w4 ⟨rfl, hb⟩
    have r0_3 : w4.cell? ⟨w1.heap.size, 0, none⟩ = some (.int .i64 y) := bc hb (by first | exact r0_2 | exact ca r0_2 | exact ca (ca r0_2) | exact ca (ca (ca r0_2)) | (simp; done) | go_simp)
    have r1_3 : w4.cell? ⟨w1.heap.size, 1, none⟩ = some (.int .i64 m) := bc hb (by first | exact r1_2 | exact ca r1_2 | exact ca (ca r1_2) | exact ca (ca (ca r1_2)) | (simp; done) | go_simp)
    have r2_3 : w4.cell? ⟨w1.heap.size, 2, none⟩ = some (.int .i64 d) := bc hb (by first | exact r2_2 | exact ca r2_2 | exact ca (ca r2_2) | exact ca (ca (ca r2_2)) | (simp; done) | go_simp)
    have rl_3 : w1.heap.size < w4.heap.size := cell_lt r0_3
    clear r0_2 r1_2 r2_2 rl_2
    have hszw4 := below_size hb
    try simp at hszw4
    have HBq : Below w.heap.size w w4 := Below.trans (by repeat (first | exact Below.refl _ _ | exact HB.out | refine Below.drew ?_ | refine bel_drewN _ ?_ | refine Below.alloc ?_ (by first | omega | (simp; done) | (simp; omega)) _ | refine Below.setCell ?_ (by first | (show _ ≤ _; omega) | (simp; done) | (simp; omega)) _)) (hb.mono (by first | omega | (simp; done) | (simp; omega)))
    have HB := Lib.hid HBq
    clear HBq hb
    go_wp2
    go_ret
    exact ⟨rfl, HB.out⟩
  · have hv : dtB y m d = true := by
      by_cases q : dtB y m d = true
      · exact q
      · exfalso; unfold dayF at hf; rw [if_neg q] at hf; omega
    have D := dtB_iff.1 hv
    have e := date_eq D
    rw [← dayF_yes D] at e
    have hin := inR_yes (n := dayF y m d) (lo := 0) (hi := 36524) (by omega)
    have o := o_yes hin
    rw [e.1, e.2.1, e.2.2] at o
    obtain ⟨o1, o2, o3⟩ := o
    clear e D hv
    go_wp2_with fail
    refine (dateOfI2_any _ _ (by exact HM.out.fwd (by repeat (first | exact Below.refl _ _ | exact HB.out.mono hM1 | refine Below.drew ?_ | refine bel_drewN _ ?_ | refine Below.alloc ?_ (by first | omega | (simp; done) | (simp; omega)) _ | refine Below.setCell ?_ (by first | (show _ ≤ _; omega) | (simp; done) | (simp; omega)) _)))).mono ?_
    rintro e w4 ⟨rfl, hb⟩
    have r0_3 : w4.cell? ⟨w1.heap.size, 0, none⟩ = some (.int .i64 y) := bc hb (by first | exact r0_2 | exact ca r0_2 | exact ca (ca r0_2) | exact ca (ca (ca r0_2)) | (simp; done) | go_simp)
    have r1_3 : w4.cell? ⟨w1.heap.size, 1, none⟩ = some (.int .i64 m) := bc hb (by first | exact r1_2 | exact ca r1_2 | exact ca (ca r1_2) | exact ca (ca (ca r1_2)) | (simp; done) | go_simp)
    have r2_3 : w4.cell? ⟨w1.heap.size, 2, none⟩ = some (.int .i64 d) := bc hb (by first | exact r2_2 | exact ca r2_2 | exact ca (ca r2_2) | exact ca (ca (ca r2_2)) | (simp; done) | go_simp)
    have rl_3 : w1.heap.size < w4.heap.size := cell_lt r0_3
    clear r0_2 r1_2 r2_2 rl_2
    have hszw4 := below_size hb
    try simp at hszw4
    have HBq : Below w.heap.size w w4 := Below.trans (by repeat (first | exact Below.refl _ _ | exact HB.out | refine Below.drew ?_ | refine bel_drewN _ ?_ | refine Below.alloc ?_ (by first | omega | (simp; done) | (simp; omega)) _ | refine Below.setCell ?_ (by first | (show _ ≤ _; omega) | (simp; done) | (simp; omega)) _)) (hb.mono (by first | omega | (simp; done) | (simp; omega)))
    have HB := Lib.hid HBq
    clear HBq hb
    go_wp2
    go_ret
    exact ⟨rfl, (by repeat (first | exact Below.refl _ _ | exact HB.out | refine Below.drew ?_ | refine bel_drewN _ ?_ | refine Below.alloc ?_ (by first | omega | (simp; done) | (simp; omega)) _ | refine Below.setCell ?_ (by first | (show _ ≤ _; omega) | (simp; done) | (simp; omega)) _))⟩
set_option maxHeartbeats 2000000 in
theorem fnDateOf_walk (a : Option Addr) (len cap : Nat) (w : World) (hM : MD w) (hlc : len ≤ cap) (hc : cap ≤ maxLen) (h : IsBytes w a len) :
    Calls Tryd.prog 6 #[.slice a len cap] w fun e w' => e = .returned (.bool true) ∧ Below w.heap.size w w' := by
  by_cases hbig : 1048576 < len
  · exact big_FnDateOf a len cap w hlc hc hbig
  have hM1 := hM.size
  have HM := Lib.hid hM
  have H := Lib.hid h
  clear h hM
  go_enter Tryd.func6, Tryd.ntmps6
  have HB := Lib.hid (Below.refl w.heap.size w)
  go_wp2_with fail
  refine (drawDateOf_any _ _ _ _ hlc hc H.out).mono ?_
  rintro e w1 ⟨n, rfl, n0, n1, hb⟩
  have hszw1 := below_size hb
  try simp at hszw1
  have HBq : Below w.heap.size w w1 := Below.trans (by repeat (first | exact Below.refl _ _ | exact HB.out | refine Below.drew ?_ | refine bel_drewN _ ?_ | refine Below.alloc ?_ (by first | omega | (simp; done) | (simp; omega)) _ | refine Below.setCell ?_ (by first | (show _ ≤ _; omega) | (simp; done) | (simp; omega)) _)) (hb.mono (by first | omega | (simp; done) | (simp; omega)))
  have HB := Lib.hid HBq
  clear HBq hb
  go_wp2_with fail
  refine (dateOfI2_any n _ (by exact HM.out.fwd (by repeat (first | exact Below.refl _ _ | exact HB.out.mono hM1 | refine Below.drew ?_ | refine bel_drewN _ ?_ | refine Below.alloc ?_ (by first | omega | (simp; done) | (simp; omega)) _ | refine Below.setCell ?_ (by first | (show _ ≤ _; omega) | (simp; done) | (simp; omega)) _)))).mono ?_
  rintro e w2 ⟨rfl, hb⟩
  have hszw2 := below_size hb
  try simp at hszw2
  have HBq : Below w.heap.size w w2 := Below.trans (by repeat (first | exact Below.refl _ _ | exact HB.out | refine Below.drew ?_ | refine bel_drewN _ ?_ | refine Below.alloc ?_ (by first | omega | (simp; done) | (simp; omega)) _ | refine Below.setCell ?_ (by first | (show _ ≤ _; omega) | (simp; done) | (simp; omega)) _)) (hb.mono (by first | omega | (simp; done) | (simp; omega)))
  have HB := Lib.hid HBq
  clear HBq hb
  go_wp2_with fail
  refine (dateOfS2_any n _ (by exact HM.out.fwd (by repeat (first | exact Below.refl _ _ | exact HB.out.mono hM1 | refine Below.drew ?_ | refine bel_drewN _ ?_ | refine Below.alloc ?_ (by first | omega | (simp; done) | (simp; omega)) _ | refine Below.setCell ?_ (by first | (show _ ≤ _; omega) | (simp; done) | (simp; omega)) _)))).mono ?_
  rintro e w3 ⟨rfl, hb⟩
  have r0_1 : w3.cell? ⟨w2.heap.size, 0, none⟩ = some (.int .i64 (oY n)) := bc hb (by first | (simp; done) | go_simp)
  have r1_1 : w3.cell? ⟨w2.heap.size, 1, none⟩ = some (.int .i64 (oM n)) := bc hb (by first | (simp; done) | go_simp)
  have r2_1 : w3.cell? ⟨w2.heap.size, 2, none⟩ = some (.int .i64 (oD n)) := bc hb (by first | (simp; done) | go_simp)
  have rl_1 : w2.heap.size < w3.heap.size := cell_lt r0_1
  have hszw3 := below_size hb
  try simp at hszw3
  have HBq : Below w.heap.size w w3 := Below.trans (by repeat (first | exact Below.refl _ _ | exact HB.out | refine Below.drew ?_ | refine bel_drewN _ ?_ | refine Below.alloc ?_ (by first | omega | (simp; done) | (simp; omega)) _ | refine Below.setCell ?_ (by first | (show _ ≤ _; omega) | (simp; done) | (simp; omega)) _)) (hb.mono (by first | omega | (simp; done) | (simp; omega)))
  have HB := Lib.hid HBq
  clear HBq hb
  by_cases hin : inR n 0 36524 = true
  · have hn := inR_true.1 hin
    obtain ⟨o1, o2, o3⟩ := o_yes hin
    have hd := date_ok hn
    have hy := hd.1.1
    obtain ⟨hy1, hy2⟩ := hy
    obtain ⟨hy3, hy4⟩ := hd.1.2.2
    have hy5 := @dim_bd (dY n) (dM n)
    obtain ⟨_, hy5⟩ := hy5
    have hdf : dayF (dY n) (dM n) (dD n) = n := by rw [dayF_yes hd.1]; exact hd.2
    clear hd
    by_cases hl : n < 36524
    · have hin2 := inR_yes (n := n + 1) (lo := 0) (hi := 36524) (by omega)
      obtain ⟨p1, p2, p3⟩ := o_yes hin2
      have nd := next_date hn.1 (by omega)
      rcases nd with ⟨e1, e2, e3⟩ | ⟨q1, e1, e2, e3, q2⟩ | ⟨q1, q2, e1, e2, e3⟩
      all_goals
        try clear q1 q2
        rw [e1] at p1
        rw [e2] at p2
        rw [e3] at p3
        clear e1 e2 e3
        go_wp2_with fail
        refine (dateOfI2_any (n + 1) _ (by exact HM.out.fwd (by repeat (first | exact Below.refl _ _ | exact HB.out.mono hM1 | refine Below.drew ?_ | refine bel_drewN _ ?_ | refine Below.alloc ?_ (by first | omega | (simp; done) | (simp; omega)) _ | refine Below.setCell ?_ (by first | (show _ ≤ _; omega) | (simp; done) | (simp; omega)) _)))).mono ?_
        rintro e w4 ⟨rfl, hb⟩
        have r0_2 : w4.cell? ⟨w2.heap.size, 0, none⟩ = some (.int .i64 (oY n)) := bc hb (by first | exact r0_1 | exact ca r0_1 | exact ca (ca r0_1) | exact ca (ca (ca r0_1)) | (simp; done) | go_simp)
        have r1_2 : w4.cell? ⟨w2.heap.size, 1, none⟩ = some (.int .i64 (oM n)) := bc hb (by first | exact r1_1 | exact ca r1_1 | exact ca (ca r1_1) | exact ca (ca (ca r1_1)) | (simp; done) | go_simp)
        have r2_2 : w4.cell? ⟨w2.heap.size, 2, none⟩ = some (.int .i64 (oD n)) := bc hb (by first | exact r2_1 | exact ca r2_1 | exact ca (ca r2_1) | exact ca (ca (ca r2_1)) | (simp; done) | go_simp)
        have rl_2 : w2.heap.size < w4.heap.size := cell_lt r0_2
        clear r0_1 r1_1 r2_1 rl_1
        have s0_1 : w4.cell? ⟨w3.heap.size, 0, none⟩ = some (.int .i64 (oY n)) := bc hb (by first | (simp; done) | go_simp)
        have s1_1 : w4.cell? ⟨w3.heap.size, 1, none⟩ = some (.int .i64 (oM n)) := bc hb (by first | (simp; done) | go_simp)
        have s2_1 : w4.cell? ⟨w3.heap.size, 2, none⟩ = some (.int .i64 (oD n)) := bc hb (by first | (simp; done) | go_simp)
        have sl_1 : w3.heap.size < w4.heap.size := cell_lt s0_1
        have hszw4 := below_size hb
        try simp at hszw4
        have HBq : Below w.heap.size w w4 := Below.trans (by repeat (first | exact Below.refl _ _ | exact HB.out | refine Below.drew ?_ | refine bel_drewN _ ?_ | refine Below.alloc ?_ (by first | omega | (simp; done) | (simp; omega)) _ | refine Below.setCell ?_ (by first | (show _ ≤ _; omega) | (simp; done) | (simp; omega)) _)) (hb.mono (by first | omega | (simp; done) | (simp; omega)))
        have HB := Lib.hid HBq
        clear HBq hb
        go_wp2_with fail
        refine (dayOfI_any _ _ _ _ (by exact HM.out.fwd (by repeat (first | exact Below.refl _ _ | exact HB.out.mono hM1 | refine Below.drew ?_ | refine bel_drewN _ ?_ | refine Below.alloc ?_ (by first | omega | (simp; done) | (simp; omega)) _ | refine Below.setCell ?_ (by first | (show _ ≤ _; omega) | (simp; done) | (simp; omega)) _)))).mono ?_
        rintro e w5 ⟨rfl, hb⟩
        have r0_3 : w5.cell? ⟨w2.heap.size, 0, none⟩ = some (.int .i64 (oY n)) := bc hb (by first | exact r0_2 | exact ca r0_2 | exact ca (ca r0_2) | exact ca (ca (ca r0_2)) | (simp; done) | go_simp)
        have r1_3 : w5.cell? ⟨w2.heap.size, 1, none⟩ = some (.int .i64 (oM n)) := bc hb (by first | exact r1_2 | exact ca r1_2 | exact ca (ca r1_2) | exact ca (ca (ca r1_2)) | (simp; done) | go_simp)
        have r2_3 : w5.cell? ⟨w2.heap.size, 2, none⟩ = some (.int .i64 (oD n)) := bc hb (by first | exact r2_2 | exact ca r2_2 | exact ca (ca r2_2) | exact ca (ca (ca r2_2)) | (simp; done) | go_simp)
        have rl_3 : w2.heap.size < w5.heap.size := cell_lt r0_3
        clear r0_2 r1_2 r2_2 rl_2
        have s0_2 : w5.cell? ⟨w3.heap.size, 0, none⟩ = some (.int .i64 (oY n)) := bc hb (by first | exact s0_1 | exact ca s0_1 | exact ca (ca s0_1) | exact ca (ca (ca s0_1)) | (simp; done) | go_simp)
        have s1_2 : w5.cell? ⟨w3.heap.size, 1, none⟩ = some (.int .i64 (oM n)) := bc hb (by first | exact s1_1 | exact ca s1_1 | exact ca (ca s1_1) | exact ca (ca (ca s1_1)) | (simp; done) | go_simp)
        have s2_2 : w5.cell? ⟨w3.heap.size, 2, none⟩ = some (.int .i64 (oD n)) := bc hb (by first | exact s2_1 | exact ca s2_1 | exact ca (ca s2_1) | exact ca (ca (ca s2_1)) | (simp; done) | go_simp)
        have sl_2 : w3.heap.size < w5.heap.size := cell_lt s0_2
        clear s0_1 s1_1 s2_1 sl_1
        have hszw5 := below_size hb
        try simp at hszw5
        have HBq : Below w.heap.size w w5 := Below.trans (by repeat (first | exact Below.refl _ _ | exact HB.out | refine Below.drew ?_ | refine bel_drewN _ ?_ | refine Below.alloc ?_ (by first | omega | (simp; done) | (simp; omega)) _ | refine Below.setCell ?_ (by first | (show _ ≤ _; omega) | (simp; done) | (simp; omega)) _)) (hb.mono (by first | omega | (simp; done) | (simp; omega)))
        have HB := Lib.hid HBq
        clear HBq hb
        go_wp2
        go_ret
        exact ⟨rfl, (by repeat (first | exact Below.refl _ _ | exact HB.out | refine Below.drew ?_ | refine bel_drewN _ ?_ | refine Below.alloc ?_ (by first | omega | (simp; done) | (simp; omega)) _ | refine Below.setCell ?_ (by first | (show _ ≤ _; omega) | (simp; done) | (simp; omega)) _))⟩
    · have hin2 := inR_no (n := n + 1) (lo := 0) (hi := 36524) (by omega)
      obtain ⟨p1, p2, p3⟩ := o_no hin2
      have hq1 : ((0 : Int) == dY n) = false := by simp; omega
      have hnd : decide (n < 36524) = false := by simp; omega
      go_wp2_with fail
      refine (dateOfI2_any (n + 1) _ (by exact HM.out.fwd (by repeat (first | exact Below.refl _ _ | exact HB.out.mono hM1 | refine Below.drew ?_ | refine bel_drewN _ ?_ | refine Below.alloc ?_ (by first | omega | (simp; done) | (simp; omega)) _ | refine Below.setCell ?_ (by first | (show _ ≤ _; omega) | (simp; done) | (simp; omega)) _)))).mono ?_
      rintro e w4 ⟨rfl, hb⟩
      have r0_2 : w4.cell? ⟨w2.heap.size, 0, none⟩ = some (.int .i64 (oY n)) := bc hb (by first | exact r0_1 | exact ca r0_1 | exact ca (ca r0_1) | exact ca (ca (ca r0_1)) | (simp; done) | go_simp)
      have r1_2 : w4.cell? ⟨w2.heap.size, 1, none⟩ = some (.int .i64 (oM n)) := bc hb (by first | exact r1_1 | exact ca r1_1 | exact ca (ca r1_1) | exact ca (ca (ca r1_1)) | (simp; done) | go_simp)
      have r2_2 : w4.cell? ⟨w2.heap.size, 2, none⟩ = some (.int .i64 (oD n)) := bc hb (by first | exact r2_1 | exact ca r2_1 | exact ca (ca r2_1) | exact ca (ca (ca r2_1)) | (simp; done) | go_simp)
      have rl_2 : w2.heap.size < w4.heap.size := cell_lt r0_2
      clear r0_1 r1_1 r2_1 rl_1
      have s0_1 : w4.cell? ⟨w3.heap.size, 0, none⟩ = some (.int .i64 (oY n)) := bc hb (by first | (simp; done) | go_simp)
      have s1_1 : w4.cell? ⟨w3.heap.size, 1, none⟩ = some (.int .i64 (oM n)) := bc hb (by first | (simp; done) | go_simp)
      have s2_1 : w4.cell? ⟨w3.heap.size, 2, none⟩ = some (.int .i64 (oD n)) := bc hb (by first | (simp; done) | go_simp)
      have sl_1 : w3.heap.size < w4.heap.size := cell_lt s0_1
      have hszw4 := below_size hb
      try simp at hszw4
      have HBq : Below w.heap.size w w4 := Below.trans (by repeat (first | exact Below.refl _ _ | exact HB.out | refine Below.drew ?_ | refine bel_drewN _ ?_ | refine Below.alloc ?_ (by first | omega | (simp; done) | (simp; omega)) _ | refine Below.setCell ?_ (by first | (show _ ≤ _; omega) | (simp; done) | (simp; omega)) _)) (hb.mono (by first | omega | (simp; done) | (simp; omega)))
      have HB := Lib.hid HBq
      clear HBq hb
      go_wp2_with fail
      refine (dayOfI_any _ _ _ _ (by exact HM.out.fwd (by repeat (first | exact Below.refl _ _ | exact HB.out.mono hM1 | refine Below.drew ?_ | refine bel_drewN _ ?_ | refine Below.alloc ?_ (by first | omega | (simp; done) | (simp; omega)) _ | refine Below.setCell ?_ (by first | (show _ ≤ _; omega) | (simp; done) | (simp; omega)) _)))).mono ?_
      rintro e w5 ⟨rfl, hb⟩
      have r0_3 : w5.cell? ⟨w2.heap.size, 0, none⟩ = some (.int .i64 (oY n)) := bc hb (by first | exact r0_2 | exact ca r0_2 | exact ca (ca r0_2) | exact ca (ca (ca r0_2)) | (simp; done) | go_simp)
      have r1_3 : w5.cell? ⟨w2.heap.size, 1, none⟩ = some (.int .i64 (oM n)) := bc hb (by first | exact r1_2 | exact ca r1_2 | exact ca (ca r1_2) | exact ca (ca (ca r1_2)) | (simp; done) | go_simp)
      have r2_3 : w5.cell? ⟨w2.heap.size, 2, none⟩ = some (.int .i64 (oD n)) := bc hb (by first | exact r2_2 | exact ca r2_2 | exact ca (ca r2_2) | exact ca (ca (ca r2_2)) | (simp; done) | go_simp)
      have rl_3 : w2.heap.size < w5.heap.size := cell_lt r0_3
      clear r0_2 r1_2 r2_2 rl_2
      have s0_2 : w5.cell? ⟨w3.heap.size, 0, none⟩ = some (.int .i64 (oY n)) := bc hb (by first | exact s0_1 | exact ca s0_1 | exact ca (ca s0_1) | exact ca (ca (ca s0_1)) | (simp; done) | go_simp)
      have s1_2 : w5.cell? ⟨w3.heap.size, 1, none⟩ = some (.int .i64 (oM n)) := bc hb (by first | exact s1_1 | exact ca s1_1 | exact ca (ca s1_1) | exact ca (ca (ca s1_1)) | (simp; done) | go_simp)
      have s2_2 : w5.cell? ⟨w3.heap.size, 2, none⟩ = some (.int .i64 (oD n)) := bc hb (by first | exact s2_1 | exact ca s2_1 | exact ca (ca s2_1) | exact ca (ca (ca s2_1)) | (simp; done) | go_simp)
      have sl_2 : w3.heap.size < w5.heap.size := cell_lt s0_2
      clear s0_1 s1_1 s2_1 sl_1
      have hszw5 := below_size hb
      try simp at hszw5
      have HBq : Below w.heap.size w w5 := Below.trans (by repeat (first | exact Below.refl _ _ | exact HB.out | refine Below.drew ?_ | refine bel_drewN _ ?_ | refine Below.alloc ?_ (by first | omega | (simp; done) | (simp; omega)) _ | refine Below.setCell ?_ (by first | (show _ ≤ _; omega) | (simp; done) | (simp; omega)) _)) (hb.mono (by first | omega | (simp; done) | (simp; omega)))
      have HB := Lib.hid HBq
      clear HBq hb
      go_wp2
      go_ret
      exact ⟨rfl, (by repeat (first | exact Below.refl _ _ | exact HB.out | refine Below.drew ?_ | refine bel_drewN _ ?_ | refine Below.alloc ?_ (by first | omega | (simp; done) | (simp; omega)) _ | refine Below.setCell ?_ (by first | (show _ ≤ _; omega) | (simp; done) | (simp; omega)) _))⟩
  · have hin' : inR n 0 36524 = false := by simpa using hin
    obtain ⟨o1, o2, o3⟩ := o_no hin'
    clear hin
    go_wp2
    go_ret
    exact ⟨rfl, (by repeat (first | exact Below.refl _ _ | exact HB.out | refine Below.drew ?_ | refine bel_drewN _ ?_ | refine Below.alloc ?_ (by first | omega | (simp; done) | (simp; omega)) _ | refine Below.setCell ?_ (by first | (show _ ≤ _; omega) | (simp; done) | (simp; omega)) _))⟩
set_option maxHeartbeats 2000000 in
theorem fnAddMonthsBack_walk (a : Option Addr) (len cap : Nat) (w : World) (hM : MD w) (hlc : len ≤ cap) (hc : cap ≤ maxLen) (h : IsBytes w a len) :
    Calls Tryd.prog 8 #[.slice a len cap] w fun e w' => e = .returned (.bool true) ∧ Below w.heap.size w w' := by
  by_cases hbig : 1048576 < len
  · exact big_FnAddMonthsBack a len cap w hlc hc hbig
  have hM1 := hM.size
  have HM := Lib.hid hM
  have H := Lib.hid h
  clear h hM
  go_enter Tryd.func8, Tryd.ntmps8
  have HB := Lib.hid (Below.refl w.heap.size w)
  go_wp2_with fail
  refine (drawAddMonths_any _ _ _ _ hlc hc H.out).mono ?_
  rintro e w1 ⟨n, k, rfl, n0, n1, k0, k1, hb⟩
  have hszw1 := below_size hb
  try simp at hszw1
  have HBq : Below w.heap.size w w1 := Below.trans (by repeat (first | exact Below.refl _ _ | exact HB.out | refine Below.drew ?_ | refine bel_drewN _ ?_ | refine Below.alloc ?_ (by first | omega | (simp; done) | (simp; omega)) _ | refine Below.setCell ?_ (by first | (show _ ≤ _; omega) | (simp; done) | (simp; omega)) _)) (hb.mono (by first | omega | (simp; done) | (simp; omega)))
  have HB := Lib.hid HBq
  clear HBq hb
  go_wp2_with fail
  refine (addMonthsI_any n k _ (by exact HM.out.fwd (by repeat (first | exact Below.refl _ _ | exact HB.out.mono hM1 | refine Below.drew ?_ | refine bel_drewN _ ?_ | refine Below.alloc ?_ (by first | omega | (simp; done) | (simp; omega)) _ | refine Below.setCell ?_ (by first | (show _ ≤ _; omega) | (simp; done) | (simp; omega)) _)))).mono ?_
  rintro e w2 ⟨rfl, hb⟩
  have hszw2 := below_size hb
  try simp at hszw2
  have HBq : Below w.heap.size w w2 := Below.trans (by repeat (first | exact Below.refl _ _ | exact HB.out | refine Below.drew ?_ | refine bel_drewN _ ?_ | refine Below.alloc ?_ (by first | omega | (simp; done) | (simp; omega)) _ | refine Below.setCell ?_ (by first | (show _ ≤ _; omega) | (simp; done) | (simp; omega)) _)) (hb.mono (by first | omega | (simp; done) | (simp; omega)))
  have HB := Lib.hid HBq
  clear HBq hb
  go_wp2_with fail
  refine (addMonthsS_any n k _).mono ?_
  rintro e w3 ⟨rfl, hb⟩
  have hszw3 := below_size hb
  try simp at hszw3
  have HBq : Below w.heap.size w w3 := Below.trans (by repeat (first | exact Below.refl _ _ | exact HB.out | refine Below.drew ?_ | refine bel_drewN _ ?_ | refine Below.alloc ?_ (by first | omega | (simp; done) | (simp; omega)) _ | refine Below.setCell ?_ (by first | (show _ ≤ _; omega) | (simp; done) | (simp; omega)) _)) (hb.mono (by first | omega | (simp; done) | (simp; omega)))
  have HB := Lib.hid HBq
  clear HBq hb
  obtain ⟨b1, b2⟩ := addM_bd n k
  by_cases hneg : addM n k < 0
  · --
    go_wp2_with fail
    refine (addMonthsS_any n k _).mono ?_
    rintro e w4 ⟨rfl, hb⟩
    have hszw4 := below_size hb
    try simp at hszw4
    have HBq : Below w.heap.size w w4 := Below.trans (by repeat (first | exact Below.refl _ _ | exact HB.out | refine Below.drew ?_ | refine bel_drewN _ ?_ | refine Below.alloc ?_ (by first | omega | (simp; done) | (simp; omega)) _ | refine Below.setCell ?_ (by first | (show _ ≤ _; omega) | (simp; done) | (simp; omega)) _)) (hb.mono (by first | omega | (simp; done) | (simp; omega)))
    have HB := Lib.hid HBq
    clear HBq hb
    go_wp2
    go_ret
    exact ⟨rfl, (by repeat (first | exact Below.refl _ _ | exact HB.out | refine Below.drew ?_ | refine bel_drewN _ ?_ | refine Below.alloc ?_ (by first | omega | (simp; done) | (simp; omega)) _ | refine Below.setCell ?_ (by first | (show _ ≤ _; omega) | (simp; done) | (simp; omega)) _))⟩
  · have hb := addM_back (n := n) (k := k) (by omega)
    obtain ⟨b3, b4⟩ := hb
    have b3' : n ≤ addM (addM n k) (-k) + 3 := by omega
    go_wp2_with fail
    refine (addMonthsI_any (addM n k) (-k) _ (by exact HM.out.fwd (by repeat (first | exact Below.refl _ _ | exact HB.out.mono hM1 | refine Below.drew ?_ | refine bel_drewN _ ?_ | refine Below.alloc ?_ (by first | omega | (simp; done) | (simp; omega)) _ | refine Below.setCell ?_ (by first | (show _ ≤ _; omega) | (simp; done) | (simp; omega)) _)))).mono ?_
    rintro e w4 ⟨rfl, hb⟩
    have hszw4 := below_size hb
    try simp at hszw4
    have HBq : Below w.heap.size w w4 := Below.trans (by repeat (first | exact Below.refl _ _ | exact HB.out | refine Below.drew ?_ | refine bel_drewN _ ?_ | refine Below.alloc ?_ (by first | omega | (simp; done) | (simp; omega)) _ | refine Below.setCell ?_ (by first | (show _ ≤ _; omega) | (simp; done) | (simp; omega)) _)) (hb.mono (by first | omega | (simp; done) | (simp; omega)))
    have HB := Lib.hid HBq
    clear HBq hb
    go_wp2
    go_ret
    exact ⟨rfl, (by repeat (first | exact Below.refl _ _ | exact HB.out | refine Below.drew ?_ | refine bel_drewN _ ?_ | refine Below.alloc ?_ (by first | omega | (simp; done) | (simp; omega)) _ | refine Below.setCell ?_ (by first | (show _ ≤ _; omega) | (simp; done) | (simp; omega)) _))⟩
set_option maxHeartbeats 2000000 in
theorem fnAddMonthsOrder_walk (a : Option Addr) (len cap : Nat) (w : World) (hM : MD w) (hlc : len ≤ cap) (hc : cap ≤ maxLen) (h : IsBytes w a len) :
    Calls Tryd.prog 9 #[.slice a len cap] w fun e w' => e = .returned (.bool true) ∧ Below w.heap.size w w' := by
  by_cases hbig : 1048576 < len
  · exact big_FnAddMonthsOrder a len cap w hlc hc hbig
  have hM1 := hM.size
  have HM := Lib.hid hM
  have H := Lib.hid h
  clear h hM
  go_enter Tryd.func9, Tryd.ntmps9
  have HB := Lib.hid (Below.refl w.heap.size w)
  go_wp2_with fail
  refine (drawAddMonths_any _ _ _ _ hlc hc H.out).mono ?_
  rintro e w1 ⟨n, k, rfl, n0, n1, k0, k1, hb⟩
  have hszw1 := below_size hb
  try simp at hszw1
  have HBq : Below w.heap.size w w1 := Below.trans (by repeat (first | exact Below.refl _ _ | exact HB.out | refine Below.drew ?_ | refine bel_drewN _ ?_ | refine Below.alloc ?_ (by first | omega | (simp; done) | (simp; omega)) _ | refine Below.setCell ?_ (by first | (show _ ≤ _; omega) | (simp; done) | (simp; omega)) _)) (hb.mono (by first | omega | (simp; done) | (simp; omega)))
  have HB := Lib.hid HBq
  clear HBq hb
  go_wp2_with fail
  refine (addMonthsI_any n k _ (by exact HM.out.fwd (by repeat (first | exact Below.refl _ _ | exact HB.out.mono hM1 | refine Below.drew ?_ | refine bel_drewN _ ?_ | refine Below.alloc ?_ (by first | omega | (simp; done) | (simp; omega)) _ | refine Below.setCell ?_ (by first | (show _ ≤ _; omega) | (simp; done) | (simp; omega)) _)))).mono ?_
  rintro e w2 ⟨rfl, hb⟩
  have hszw2 := below_size hb
  try simp at hszw2
  have HBq : Below w.heap.size w w2 := Below.trans (by repeat (first | exact Below.refl _ _ | exact HB.out | refine Below.drew ?_ | refine bel_drewN _ ?_ | refine Below.alloc ?_ (by first | omega | (simp; done) | (simp; omega)) _ | refine Below.setCell ?_ (by first | (show _ ≤ _; omega) | (simp; done) | (simp; omega)) _)) (hb.mono (by first | omega | (simp; done) | (simp; omega)))
  have HB := Lib.hid HBq
  clear HBq hb
  go_wp2_with fail
  refine (addMonthsS_any n k _).mono ?_
  rintro e w3 ⟨rfl, hb⟩
  have hszw3 := below_size hb
  try simp at hszw3
  have HBq : Below w.heap.size w w3 := Below.trans (by repeat (first | exact Below.refl _ _ | exact HB.out | refine Below.drew ?_ | refine bel_drewN _ ?_ | refine Below.alloc ?_ (by first | omega | (simp; done) | (simp; omega)) _ | refine Below.setCell ?_ (by first | (show _ ≤ _; omega) | (simp; done) | (simp; omega)) _)) (hb.mono (by first | omega | (simp; done) | (simp; omega)))
  have HB := Lib.hid HBq
  clear HBq hb
  obtain ⟨b1, b2⟩ := addM_bd n k
  by_cases hneg : addM n k < 0
  · --
    go_wp2_with fail
    refine (addMonthsS_any n k _).mono ?_
    rintro e w4 ⟨rfl, hb⟩
    have hszw4 := below_size hb
    try simp at hszw4
    have HBq : Below w.heap.size w w4 := Below.trans (by repeat (first | exact Below.refl _ _ | exact HB.out | refine Below.drew ?_ | refine bel_drewN _ ?_ | refine Below.alloc ?_ (by first | omega | (simp; done) | (simp; omega)) _ | refine Below.setCell ?_ (by first | (show _ ≤ _; omega) | (simp; done) | (simp; omega)) _)) (hb.mono (by first | omega | (simp; done) | (simp; omega)))
    have HB := Lib.hid HBq
    clear HBq hb
    go_wp2
    go_ret
    exact ⟨rfl, (by repeat (first | exact Below.refl _ _ | exact HB.out | refine Below.drew ?_ | refine bel_drewN _ ?_ | refine Below.alloc ?_ (by first | omega | (simp; done) | (simp; omega)) _ | refine Below.setCell ?_ (by first | (show _ ≤ _; omega) | (simp; done) | (simp; omega)) _))⟩
  · by_cases hmax : n = 36524
    · have hmax' : (n == 36524) = true := by simpa using hmax
      clear hmax
      go_wp2_with fail
      refine (addMonthsS_any n k _).mono ?_
      rintro e w4 ⟨rfl, hb⟩
      have hszw4 := below_size hb
      try simp at hszw4
      have HBq : Below w.heap.size w w4 := Below.trans (by repeat (first | exact Below.refl _ _ | exact HB.out | refine Below.drew ?_ | refine bel_drewN _ ?_ | refine Below.alloc ?_ (by first | omega | (simp; done) | (simp; omega)) _ | refine Below.setCell ?_ (by first | (show _ ≤ _; omega) | (simp; done) | (simp; omega)) _)) (hb.mono (by first | omega | (simp; done) | (simp; omega)))
      have HB := Lib.hid HBq
      clear HBq hb
      go_wp2
      go_ret
      exact ⟨rfl, (by repeat (first | exact Below.refl _ _ | exact HB.out | refine Below.drew ?_ | refine bel_drewN _ ?_ | refine Below.alloc ?_ (by first | omega | (simp; done) | (simp; omega)) _ | refine Below.setCell ?_ (by first | (show _ ≤ _; omega) | (simp; done) | (simp; omega)) _))⟩
    · have hmax' : (n == 36524) = false := by simpa using hmax
      have hin := (addM_in (n := n) (k := k) (by omega)).1
      obtain ⟨hin1, hin2⟩ := hin
      obtain ⟨b3, b4⟩ := addM_bd (n + 1) k
      by_cases hneg2 : addM (n + 1) k < 0
      · --
        go_wp2_with fail
        refine (addMonthsI_any (n + 1) k _ (by exact HM.out.fwd (by repeat (first | exact Below.refl _ _ | exact HB.out.mono hM1 | refine Below.drew ?_ | refine bel_drewN _ ?_ | refine Below.alloc ?_ (by first | omega | (simp; done) | (simp; omega)) _ | refine Below.setCell ?_ (by first | (show _ ≤ _; omega) | (simp; done) | (simp; omega)) _)))).mono ?_
        rintro e w4 ⟨rfl, hb⟩
        have hszw4 := below_size hb
        try simp at hszw4
        have HBq : Below w.heap.size w w4 := Below.trans (by repeat (first | exact Below.refl _ _ | exact HB.out | refine Below.drew ?_ | refine bel_drewN _ ?_ | refine Below.alloc ?_ (by first | omega | (simp; done) | (simp; omega)) _ | refine Below.setCell ?_ (by first | (show _ ≤ _; omega) | (simp; done) | (simp; omega)) _)) (hb.mono (by first | omega | (simp; done) | (simp; omega)))
        have HB := Lib.hid HBq
        clear HBq hb
        go_wp2
        go_ret
        exact ⟨rfl, (by repeat (first | exact Below.refl _ _ | exact HB.out | refine Below.drew ?_ | refine bel_drewN _ ?_ | refine Below.alloc ?_ (by first | omega | (simp; done) | (simp; omega)) _ | refine Below.setCell ?_ (by first | (show _ ≤ _; omega) | (simp; done) | (simp; omega)) _))⟩
      · have ho := addM_order (n := n) (k := k) (by omega) (by omega) (by omega)
        obtain ⟨o1, o2⟩ := ho
        go_wp2_with fail
        refine (addMonthsI_any (n + 1) k _ (by exact HM.out.fwd (by repeat (first | exact Below.refl _ _ | exact HB.out.mono hM1 | refine Below.drew ?_ | refine bel_drewN _ ?_ | refine Below.alloc ?_ (by first | omega | (simp; done) | (simp; omega)) _ | refine Below.setCell ?_ (by first | (show _ ≤ _; omega) | (simp; done) | (simp; omega)) _)))).mono ?_
        rintro e w4 ⟨rfl, hb⟩
        have hszw4 := below_size hb
        try simp at hszw4
        have HBq : Below w.heap.size w w4 := Below.trans (by repeat (first | exact Below.refl _ _ | exact HB.out | refine Below.drew ?_ | refine bel_drewN _ ?_ | refine Below.alloc ?_ (by first | omega | (simp; done) | (simp; omega)) _ | refine Below.setCell ?_ (by first | (show _ ≤ _; omega) | (simp; done) | (simp; omega)) _)) (hb.mono (by first | omega | (simp; done) | (simp; omega)))
        have HB := Lib.hid HBq
        clear HBq hb
        go_wp2
        go_ret
        exact ⟨rfl, (by repeat (first | exact Below.refl _ _ | exact HB.out | refine Below.drew ?_ | refine bel_drewN _ ?_ | refine Below.alloc ?_ (by first | omega | (simp; done) | (simp; omega)) _ | refine Below.setCell ?_ (by first | (show _ ≤ _; omega) | (simp; done) | (simp; omega)) _))⟩
set_option maxHeartbeats 2000000 in
theorem fnAddMonthsYear_walk (a : Option Addr) (len cap : Nat) (w : World) (hM : MD w) (hlc : len ≤ cap) (hc : cap ≤ maxLen) (h : IsBytes w a len) :
    Calls Tryd.prog 11 #[.slice a len cap] w fun e w' => e = .returned (.bool true) ∧ Below w.heap.size w w' := by
  by_cases hbig : 1048576 < len
  · exact big_FnAddMonthsYear a len cap w hlc hc hbig
  have hM1 := hM.size
  have HM := Lib.hid hM
  have H := Lib.hid h
  clear h hM
  go_enter Tryd.func11, Tryd.ntmps11
  have HB := Lib.hid (Below.refl w.heap.size w)
  go_wp2_with fail
  refine (drawAddMonths_any _ _ _ _ hlc hc H.out).mono ?_
  rintro e w1 ⟨n, k, rfl, n0, n1, k0, k1, hb⟩
  have hszw1 := below_size hb
  try simp at hszw1
  have HBq : Below w.heap.size w w1 := Below.trans (by repeat (first | exact Below.refl _ _ | exact HB.out | refine Below.drew ?_ | refine bel_drewN _ ?_ | refine Below.alloc ?_ (by first | omega | (simp; done) | (simp; omega)) _ | refine Below.setCell ?_ (by first | (show _ ≤ _; omega) | (simp; done) | (simp; omega)) _)) (hb.mono (by first | omega | (simp; done) | (simp; omega)))
  have HB := Lib.hid HBq
  clear HBq hb
  go_wp2_with fail
  refine (addMonthsI_any n k _ (by exact HM.out.fwd (by repeat (first | exact Below.refl _ _ | exact HB.out.mono hM1 | refine Below.drew ?_ | refine bel_drewN _ ?_ | refine Below.alloc ?_ (by first | omega | (simp; done) | (simp; omega)) _ | refine Below.setCell ?_ (by first | (show _ ≤ _; omega) | (simp; done) | (simp; omega)) _)))).mono ?_
  rintro e w2 ⟨rfl, hb⟩
  have hszw2 := below_size hb
  try simp at hszw2
  have HBq : Below w.heap.size w w2 := Below.trans (by repeat (first | exact Below.refl _ _ | exact HB.out | refine Below.drew ?_ | refine bel_drewN _ ?_ | refine Below.alloc ?_ (by first | omega | (simp; done) | (simp; omega)) _ | refine Below.setCell ?_ (by first | (show _ ≤ _; omega) | (simp; done) | (simp; omega)) _)) (hb.mono (by first | omega | (simp; done) | (simp; omega)))
  have HB := Lib.hid HBq
  clear HBq hb
  go_wp2_with fail
  refine (addMonthsS_any n k _).mono ?_
  rintro e w3 ⟨rfl, hb⟩
  have hszw3 := below_size hb
  try simp at hszw3
  have HBq : Below w.heap.size w w3 := Below.trans (by repeat (first | exact Below.refl _ _ | exact HB.out | refine Below.drew ?_ | refine bel_drewN _ ?_ | refine Below.alloc ?_ (by first | omega | (simp; done) | (simp; omega)) _ | refine Below.setCell ?_ (by first | (show _ ≤ _; omega) | (simp; done) | (simp; omega)) _)) (hb.mono (by first | omega | (simp; done) | (simp; omega)))
  have HB := Lib.hid HBq
  clear HBq hb
  obtain ⟨b1, b2⟩ := addM_bd n k
  by_cases hneg : addM n k < 0
  · --
    go_wp2_with fail
    refine (addMonthsS_any n k _).mono ?_
    rintro e w4 ⟨rfl, hb⟩
    have hszw4 := below_size hb
    try simp at hszw4
    have HBq : Below w.heap.size w w4 := Below.trans (by repeat (first | exact Below.refl _ _ | exact HB.out | refine Below.drew ?_ | refine bel_drewN _ ?_ | refine Below.alloc ?_ (by first | omega | (simp; done) | (simp; omega)) _ | refine Below.setCell ?_ (by first | (show _ ≤ _; omega) | (simp; done) | (simp; omega)) _)) (hb.mono (by first | omega | (simp; done) | (simp; omega)))
    have HB := Lib.hid HBq
    clear HBq hb
    go_wp2
    go_ret
    exact ⟨rfl, (by repeat (first | exact Below.refl _ _ | exact HB.out | refine Below.drew ?_ | refine bel_drewN _ ?_ | refine Below.alloc ?_ (by first | omega | (simp; done) | (simp; omega)) _ | refine Below.setCell ?_ (by first | (show _ ≤ _; omega) | (simp; done) | (simp; omega)) _))⟩
  · have hin := (addM_in (n := n) (k := k) (by omega)).1
    have hi := inR_yes hin
    obtain ⟨o1, o2, o3⟩ := o_yes hi
    have hy := addM_year hin
    have hd := (date_ok hin).1.1
    obtain ⟨hd1, hd2⟩ := hd
    by_cases hneg2 : dayF (dY n + 1) (dM n) (dD n) < 0
    · rw [if_pos hneg2] at hy
      have hy' : (addM n 12 == dayF (dY n + 1) (dM n) 28) = true := by simpa using hy
      clear hy
      go_wp2_with fail
      refine (dateOfI2_any n _ (by exact HM.out.fwd (by repeat (first | exact Below.refl _ _ | exact HB.out.mono hM1 | refine Below.drew ?_ | refine bel_drewN _ ?_ | refine Below.alloc ?_ (by first | omega | (simp; done) | (simp; omega)) _ | refine Below.setCell ?_ (by first | (show _ ≤ _; omega) | (simp; done) | (simp; omega)) _)))).mono ?_
      rintro e w4 ⟨rfl, hb⟩
      have hszw4 := below_size hb
      try simp at hszw4
      have HBq : Below w.heap.size w w4 := Below.trans (by repeat (first | exact Below.refl _ _ | exact HB.out | refine Below.drew ?_ | refine bel_drewN _ ?_ | refine Below.alloc ?_ (by first | omega | (simp; done) | (simp; omega)) _ | refine Below.setCell ?_ (by first | (show _ ≤ _; omega) | (simp; done) | (simp; omega)) _)) (hb.mono (by first | omega | (simp; done) | (simp; omega)))
      have HB := Lib.hid HBq
      clear HBq hb
      go_wp2_with fail
      refine (dayOfI_any _ _ _ _ (by exact HM.out.fwd (by repeat (first | exact Below.refl _ _ | exact HB.out.mono hM1 | refine Below.drew ?_ | refine bel_drewN _ ?_ | refine Below.alloc ?_ (by first | omega | (simp; done) | (simp; omega)) _ | refine Below.setCell ?_ (by first | (show _ ≤ _; omega) | (simp; done) | (simp; omega)) _)))).mono ?_
      rintro e w5 ⟨rfl, hb⟩
      have r0_1 : w5.cell? ⟨w4.heap.size, 0, none⟩ = some (.int .i64 (dY n)) := bc hb (by first | (simp; done) | go_simp)
      have r1_1 : w5.cell? ⟨w4.heap.size, 1, none⟩ = some (.int .i64 (dM n)) := bc hb (by first | (simp; done) | go_simp)
      have r2_1 : w5.cell? ⟨w4.heap.size, 2, none⟩ = some (.int .i64 (dD n)) := bc hb (by first | (simp; done) | go_simp)
      have rl_1 : w4.heap.size < w5.heap.size := cell_lt r0_1
      have hszw5 := below_size hb
      try simp at hszw5
      have HBq : Below w.heap.size w w5 := Below.trans (by repeat (first | exact Below.refl _ _ | exact HB.out | refine Below.drew ?_ | refine bel_drewN _ ?_ | refine Below.alloc ?_ (by first | omega | (simp; done) | (simp; omega)) _ | refine Below.setCell ?_ (by first | (show _ ≤ _; omega) | (simp; done) | (simp; omega)) _)) (hb.mono (by first | omega | (simp; done) | (simp; omega)))
      have HB := Lib.hid HBq
      clear HBq hb
      go_wp2_with fail
      refine (dayOfI_any _ _ _ _ (by exact HM.out.fwd (by repeat (first | exact Below.refl _ _ | exact HB.out.mono hM1 | refine Below.drew ?_ | refine bel_drewN _ ?_ | refine Below.alloc ?_ (by first | omega | (simp; done) | (simp; omega)) _ | refine Below.setCell ?_ (by first | (show _ ≤ _; omega) | (simp; done) | (simp; omega)) _)))).mono ?_
      rintro e w6 ⟨rfl, hb⟩
      have r0_2 : w6.cell? ⟨w4.heap.size, 0, none⟩ = some (.int .i64 (dY n)) := bc hb (by first | exact r0_1 | exact ca r0_1 | exact ca (ca r0_1) | exact ca (ca (ca r0_1)) | (simp; done) | go_simp)
      have r1_2 : w6.cell? ⟨w4.heap.size, 1, none⟩ = some (.int .i64 (dM n)) := bc hb (by first | exact r1_1 | exact ca r1_1 | exact ca (ca r1_1) | exact ca (ca (ca r1_1)) | (simp; done) | go_simp)
      have r2_2 : w6.cell? ⟨w4.heap.size, 2, none⟩ = some (.int .i64 (dD n)) := bc hb (by first | exact r2_1 | exact ca r2_1 | exact ca (ca r2_1) | exact ca (ca (ca r2_1)) | (simp; done) | go_simp)
      have rl_2 : w4.heap.size < w6.heap.size := cell_lt r0_2
      clear r0_1 r1_1 r2_1 rl_1
      have hszw6 := below_size hb
      try simp at hszw6
      have HBq : Below w.heap.size w w6 := Below.trans (by repeat (first | exact Below.refl _ _ | exact HB.out | refine Below.drew ?_ | refine bel_drewN _ ?_ | refine Below.alloc ?_ (by first | omega | (simp; done) | (simp; omega)) _ | refine Below.setCell ?_ (by first | (show _ ≤ _; omega) | (simp; done) | (simp; omega)) _)) (hb.mono (by first | omega | (simp; done) | (simp; omega)))
      have HB := Lib.hid HBq
      clear HBq hb
      go_wp2_with fail
      refine (addMonthsI_any n 12 _ (by exact HM.out.fwd (by repeat (first | exact Below.refl _ _ | exact HB.out.mono hM1 | refine Below.drew ?_ | refine bel_drewN _ ?_ | refine Below.alloc ?_ (by first | omega | (simp; done) | (simp; omega)) _ | refine Below.setCell ?_ (by first | (show _ ≤ _; omega) | (simp; done) | (simp; omega)) _)))).mono ?_
      rintro e w7 ⟨rfl, hb⟩
      have r0_3 : w7.cell? ⟨w4.heap.size, 0, none⟩ = some (.int .i64 (dY n)) := bc hb (by first | exact r0_2 | exact ca r0_2 | exact ca (ca r0_2) | exact ca (ca (ca r0_2)) | (simp; done) | go_simp)
      have r1_3 : w7.cell? ⟨w4.heap.size, 1, none⟩ = some (.int .i64 (dM n)) := bc hb (by first | exact r1_2 | exact ca r1_2 | exact ca (ca r1_2) | exact ca (ca (ca r1_2)) | (simp; done) | go_simp)
      have r2_3 : w7.cell? ⟨w4.heap.size, 2, none⟩ = some (.int .i64 (dD n)) := bc hb (by first | exact r2_2 | exact ca r2_2 | exact ca (ca r2_2) | exact ca (ca (ca r2_2)) | (simp; done) | go_simp)
      have rl_3 : w4.heap.size < w7.heap.size := cell_lt r0_3
      clear r0_2 r1_2 r2_2 rl_2
      have hszw7 := below_size hb
      try simp at hszw7
      have HBq : Below w.heap.size w w7 := Below.trans (by repeat (first | exact Below.refl _ _ | exact HB.out | refine Below.drew ?_ | refine bel_drewN _ ?_ | refine Below.alloc ?_ (by first | omega | (simp; done) | (simp; omega)) _ | refine Below.setCell ?_ (by first | (show _ ≤ _; omega) | (simp; done) | (simp; omega)) _)) (hb.mono (by first | omega | (simp; done) | (simp; omega)))
      have HB := Lib.hid HBq
      clear HBq hb
      go_wp2
      go_ret
      exact ⟨rfl, (by repeat (first | exact Below.refl _ _ | exact HB.out | refine Below.drew ?_ | refine bel_drewN _ ?_ | refine Below.alloc ?_ (by first | omega | (simp; done) | (simp; omega)) _ | refine Below.setCell ?_ (by first | (show _ ≤ _; omega) | (simp; done) | (simp; omega)) _))⟩
    · rw [if_neg hneg2] at hy
      have hy' : (addM n 12 == dayF (dY n + 1) (dM n) (dD n)) = true := by simpa using hy
      clear hy
      go_wp2_with fail
      refine (dateOfI2_any n _ (by exact HM.out.fwd (by repeat (first | exact Below.refl _ _ | exact HB.out.mono hM1 | refine Below.drew ?_ | refine bel_drewN _ ?_ | refine Below.alloc ?_ (by first | omega | (simp; done) | (simp; omega)) _ | refine Below.setCell ?_ (by first | (show _ ≤ _; omega) | (simp; done) | (simp; omega)) _)))).mono ?_
      rintro e w4 ⟨rfl, hb⟩
      have hszw4 := below_size hb
      try simp at hszw4
      have HBq : Below w.heap.size w w4 := Below.trans (by repeat (first | exact Below.refl _ _ | exact HB.out | refine Below.drew ?_ | refine bel_drewN _ ?_ | refine Below.alloc ?_ (by first | omega | (simp; done) | (simp; omega)) _ | refine Below.setCell ?_ (by first | (show _ ≤ _; omega) | (simp; done) | (simp; omega)) _)) (hb.mono (by first | omega | (simp; done) | (simp; omega)))
      have HB := Lib.hid HBq
      clear HBq hb
      go_wp2_with fail
      refine (dayOfI_any _ _ _ _ (by exact HM.out.fwd (by repeat (first | exact Below.refl _ _ | exact HB.out.mono hM1 | refine Below.drew ?_ | refine bel_drewN _ ?_ | refine Below.alloc ?_ (by first | omega | (simp; done) | (simp; omega)) _ | refine Below.setCell ?_ (by first | (show _ ≤ _; omega) | (simp; done) | (simp; omega)) _)))).mono ?_
      rintro e w5 ⟨rfl, hb⟩
      have r0_1 : w5.cell? ⟨w4.heap.size, 0, none⟩ = some (.int .i64 (dY n)) := bc hb (by first | (simp; done) | go_simp)
      have r1_1 : w5.cell? ⟨w4.heap.size, 1, none⟩ = some (.int .i64 (dM n)) := bc hb (by first | (simp; done) | go_simp)
      have r2_1 : w5.cell? ⟨w4.heap.size, 2, none⟩ = some (.int .i64 (dD n)) := bc hb (by first | (simp; done) | go_simp)
      have rl_1 : w4.heap.size < w5.heap.size := cell_lt r0_1
      have hszw5 := below_size hb
      try simp at hszw5
      have HBq : Below w.heap.size w w5 := Below.trans (by repeat (first | exact Below.refl _ _ | exact HB.out | refine Below.drew ?_ | refine bel_drewN _ ?_ | refine Below.alloc ?_ (by first | omega | (simp; done) | (simp; omega)) _ | refine Below.setCell ?_ (by first | (show _ ≤ _; omega) | (simp; done) | (simp; omega)) _)) (hb.mono (by first | omega | (simp; done) | (simp; omega)))
      have HB := Lib.hid HBq
      clear HBq hb
      go_wp2_with fail
      refine (addMonthsI_any n 12 _ (by exact HM.out.fwd (by repeat (first | exact Below.refl _ _ | exact HB.out.mono hM1 | refine Below.drew ?_ | refine bel_drewN _ ?_ | refine Below.alloc ?_ (by first | omega | (simp; done) | (simp; omega)) _ | refine Below.setCell ?_ (by first | (show _ ≤ _; omega) | (simp; done) | (simp; omega)) _)))).mono ?_
      rintro e w6 ⟨rfl, hb⟩
      have r0_2 : w6.cell? ⟨w4.heap.size, 0, none⟩ = some (.int .i64 (dY n)) := bc hb (by first | exact r0_1 | exact ca r0_1 | exact ca (ca r0_1) | exact ca (ca (ca r0_1)) | (simp; done) | go_simp)
      have r1_2 : w6.cell? ⟨w4.heap.size, 1, none⟩ = some (.int .i64 (dM n)) := bc hb (by first | exact r1_1 | exact ca r1_1 | exact ca (ca r1_1) | exact ca (ca (ca r1_1)) | (simp; done) | go_simp)
      have r2_2 : w6.cell? ⟨w4.heap.size, 2, none⟩ = some (.int .i64 (dD n)) := bc hb (by first | exact r2_1 | exact ca r2_1 | exact ca (ca r2_1) | exact ca (ca (ca r2_1)) | (simp; done) | go_simp)
      have rl_2 : w4.heap.size < w6.heap.size := cell_lt r0_2
      clear r0_1 r1_1 r2_1 rl_1
      have hszw6 := below_size hb
      try simp at hszw6
      have HBq : Below w.heap.size w w6 := Below.trans (by repeat (first | exact Below.refl _ _ | exact HB.out | refine Below.drew ?_ | refine bel_drewN _ ?_ | refine Below.alloc ?_ (by first | omega | (simp; done) | (simp; omega)) _ | refine Below.setCell ?_ (by first | (show _ ≤ _; omega) | (simp; done) | (simp; omega)) _)) (hb.mono (by first | omega | (simp; done) | (simp; omega)))
      have HB := Lib.hid HBq
      clear HBq hb
      go_wp2
      go_ret
      exact ⟨rfl, (by repeat (first | exact Below.refl _ _ | exact HB.out | refine Below.drew ?_ | refine bel_drewN _ ?_ | refine Below.alloc ?_ (by first | omega | (simp; done) | (simp; omega)) _ | refine Below.setCell ?_ (by first | (show _ ≤ _; omega) | (simp; done) | (simp; omega)) _))⟩
end Go.Proofs.YtddaaamahdnffaaDoor
