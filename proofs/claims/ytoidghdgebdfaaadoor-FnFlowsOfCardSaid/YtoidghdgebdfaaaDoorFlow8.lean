/- Bonds: rows of payments held against each other, marked, held; the exact laws. -/
import Derived.Test.YtoidghdgebdfaaaDoorFlow7
namespace Go.Proofs.YtoidghdgebdfaaaDoor
open Go.RowKit
set_option linter.unusedVariables false
theorem eqFlow_same (a b : Int) (w : World) :
    Calls Tryd.prog 23 #[.agg #[.int .i64 a, .int .i64 b], .agg #[.int .i64 a, .int .i64 b]] w fun e w' => e = .returned (.bool true) ∧ Below w.heap.size w w' := by
  go_enter Tryd.func23, Tryd.ntmps23
  have HB := Lib.hid (Below.refl w.heap.size w)
  go_wp2
  go_ret
  exact ⟨rfl, (by repeat (first | exact Below.refl _ _ | exact HB.out | refine Below.drew ?_ | refine bel_drewN _ ?_ | refine Below.alloc ?_ (by first | omega | (simp; done) | (simp; omega)) _ | refine Below.setCell ?_ (by first | (show _ ≤ _; omega) | (simp; done) | (simp; omega)) _))⟩
theorem fnExactTotalOf_walk (s e m r : Int) (w : World) (hM : MD w) (_w0 : True) :
    Calls Tryd.prog 3 #[.agg #[.int .i64 s, .int .i64 e, .int .i64 m, .int .i64 r]] w fun ed w' => ed = .returned (.bool true) ∧ Below w.heap.size w w' := by
  have hM1 := hM.size
  have HM := Lib.hid hM
  clear hM
  go_enter Tryd.func3, Tryd.ntmps3
  have HB := Lib.hid (Below.refl w.heap.size w)
  go_wp2_with fail
  refine (toBond_any s e m r _).mono ?_
  rintro e w1 ⟨rfl, hb⟩
  have x0_1 : w1.cell? ⟨w.heap.size, 0, none⟩ = some (.int .i64 s) := bc hb (by first | (simp; done) | go_simp)
  have x1_1 : w1.cell? ⟨w.heap.size, 1, none⟩ = some (.int .i64 e) := bc hb (by first | (simp; done) | go_simp)
  have x2_1 : w1.cell? ⟨w.heap.size, 2, none⟩ = some (.int .i64 m) := bc hb (by first | (simp; done) | go_simp)
  have x3_1 : w1.cell? ⟨w.heap.size, 3, none⟩ = some (.int .i64 r) := bc hb (by first | (simp; done) | go_simp)
  have xl_1 : w.heap.size < w1.heap.size := cell_lt x0_1
  have hszw1 := below_size hb
  try simp at hszw1
  have HBq : Below w.heap.size w w1 := Below.trans (by repeat (first | exact Below.refl _ _ | exact HB.out | refine Below.drew ?_ | refine bel_drewN _ ?_ | refine Below.alloc ?_ (by first | omega | (simp; done) | (simp; omega)) _ | refine Below.setCell ?_ (by first | (show _ ≤ _; omega) | (simp; done) | (simp; omega)) _)) (hb.mono (by first | omega | (simp; done) | (simp; omega)))
  have HB := Lib.hid HBq
  clear HBq hb
  go_wp2_with fail
  refine (totalOfS_any s e m r _ (by exact HM.out.fwd (by repeat (first | exact Below.refl _ _ | exact HB.out.mono hM1 | refine Below.drew ?_ | refine bel_drewN _ ?_ | refine Below.alloc ?_ (by first | omega | (simp; done) | (simp; omega)) _ | refine Below.setCell ?_ (by first | (show _ ≤ _; omega) | (simp; done) | (simp; omega)) _)))).mono ?_
  rintro e w2 ⟨rfl, hb⟩
  have x0_2 : w2.cell? ⟨w.heap.size, 0, none⟩ = some (.int .i64 s) := bc hb (by first | exact x0_1 | exact ca x0_1 | exact ca (ca x0_1) | exact ca (ca (ca x0_1)) | (simp; done) | go_simp)
  have x1_2 : w2.cell? ⟨w.heap.size, 1, none⟩ = some (.int .i64 e) := bc hb (by first | exact x1_1 | exact ca x1_1 | exact ca (ca x1_1) | exact ca (ca (ca x1_1)) | (simp; done) | go_simp)
  have x2_2 : w2.cell? ⟨w.heap.size, 2, none⟩ = some (.int .i64 m) := bc hb (by first | exact x2_1 | exact ca x2_1 | exact ca (ca x2_1) | exact ca (ca (ca x2_1)) | (simp; done) | go_simp)
  have x3_2 : w2.cell? ⟨w.heap.size, 3, none⟩ = some (.int .i64 r) := bc hb (by first | exact x3_1 | exact ca x3_1 | exact ca (ca x3_1) | exact ca (ca (ca x3_1)) | (simp; done) | go_simp)
  have xl_2 : w.heap.size < w2.heap.size := cell_lt x0_2
  clear x0_1 x1_1 x2_1 x3_1 xl_1
  have hszw2 := below_size hb
  try simp at hszw2
  have HBq : Below w.heap.size w w2 := Below.trans (by repeat (first | exact Below.refl _ _ | exact HB.out | refine Below.drew ?_ | refine bel_drewN _ ?_ | refine Below.alloc ?_ (by first | omega | (simp; done) | (simp; omega)) _ | refine Below.setCell ?_ (by first | (show _ ≤ _; omega) | (simp; done) | (simp; omega)) _)) (hb.mono (by first | omega | (simp; done) | (simp; omega)))
  have HB := Lib.hid HBq
  clear HBq hb
  go_wp2_with fail
  refine (toBond_any s e m r _).mono ?_
  rintro e w3 ⟨rfl, hb⟩
  have x0_3 : w3.cell? ⟨w.heap.size, 0, none⟩ = some (.int .i64 s) := bc hb (by first | exact x0_2 | exact ca x0_2 | exact ca (ca x0_2) | exact ca (ca (ca x0_2)) | (simp; done) | go_simp)
  have x1_3 : w3.cell? ⟨w.heap.size, 1, none⟩ = some (.int .i64 e) := bc hb (by first | exact x1_2 | exact ca x1_2 | exact ca (ca x1_2) | exact ca (ca (ca x1_2)) | (simp; done) | go_simp)
  have x2_3 : w3.cell? ⟨w.heap.size, 2, none⟩ = some (.int .i64 m) := bc hb (by first | exact x2_2 | exact ca x2_2 | exact ca (ca x2_2) | exact ca (ca (ca x2_2)) | (simp; done) | go_simp)
  have x3_3 : w3.cell? ⟨w.heap.size, 3, none⟩ = some (.int .i64 r) := bc hb (by first | exact x3_2 | exact ca x3_2 | exact ca (ca x3_2) | exact ca (ca (ca x3_2)) | (simp; done) | go_simp)
  have xl_3 : w.heap.size < w3.heap.size := cell_lt x0_3
  clear x0_2 x1_2 x2_2 x3_2 xl_2
  have hszw3 := below_size hb
  try simp at hszw3
  have HBq : Below w.heap.size w w3 := Below.trans (by repeat (first | exact Below.refl _ _ | exact HB.out | refine Below.drew ?_ | refine bel_drewN _ ?_ | refine Below.alloc ?_ (by first | omega | (simp; done) | (simp; omega)) _ | refine Below.setCell ?_ (by first | (show _ ≤ _; omega) | (simp; done) | (simp; omega)) _)) (hb.mono (by first | omega | (simp; done) | (simp; omega)))
  have HB := Lib.hid HBq
  clear HBq hb
  go_wp2_with fail
  refine (totalOfI_any s e m r _ (by exact HM.out.fwd (by repeat (first | exact Below.refl _ _ | exact HB.out.mono hM1 | refine Below.drew ?_ | refine bel_drewN _ ?_ | refine Below.alloc ?_ (by first | omega | (simp; done) | (simp; omega)) _ | refine Below.setCell ?_ (by first | (show _ ≤ _; omega) | (simp; done) | (simp; omega)) _)))).mono ?_
  rintro e w4 ⟨rfl, hb⟩
  have x0_4 : w4.cell? ⟨w.heap.size, 0, none⟩ = some (.int .i64 s) := bc hb (by first | exact x0_3 | exact ca x0_3 | exact ca (ca x0_3) | exact ca (ca (ca x0_3)) | (simp; done) | go_simp)
  have x1_4 : w4.cell? ⟨w.heap.size, 1, none⟩ = some (.int .i64 e) := bc hb (by first | exact x1_3 | exact ca x1_3 | exact ca (ca x1_3) | exact ca (ca (ca x1_3)) | (simp; done) | go_simp)
  have x2_4 : w4.cell? ⟨w.heap.size, 2, none⟩ = some (.int .i64 m) := bc hb (by first | exact x2_3 | exact ca x2_3 | exact ca (ca x2_3) | exact ca (ca (ca x2_3)) | (simp; done) | go_simp)
  have x3_4 : w4.cell? ⟨w.heap.size, 3, none⟩ = some (.int .i64 r) := bc hb (by first | exact x3_3 | exact ca x3_3 | exact ca (ca x3_3) | exact ca (ca (ca x3_3)) | (simp; done) | go_simp)
  have xl_4 : w.heap.size < w4.heap.size := cell_lt x0_4
  clear x0_3 x1_3 x2_3 x3_3 xl_3
  have hszw4 := below_size hb
  try simp at hszw4
  have HBq : Below w.heap.size w w4 := Below.trans (by repeat (first | exact Below.refl _ _ | exact HB.out | refine Below.drew ?_ | refine bel_drewN _ ?_ | refine Below.alloc ?_ (by first | omega | (simp; done) | (simp; omega)) _ | refine Below.setCell ?_ (by first | (show _ ≤ _; omega) | (simp; done) | (simp; omega)) _)) (hb.mono (by first | omega | (simp; done) | (simp; omega)))
  have HB := Lib.hid HBq
  clear HBq hb
  go_wp2
  go_ret
  exact ⟨rfl, HB.out⟩
set_option maxHeartbeats 1000000 in
theorem fnExactNextFlow_walk (s e m r d : Int) (w : World) (hM : MD w) (_w0 : True) (_w1 : (Lit.int .i64 d).wf = true) :
    Calls Tryd.prog 5 #[.agg #[.int .i64 s, .int .i64 e, .int .i64 m, .int .i64 r], .int .i64 d] w fun ed w' => ed = .returned (.bool true) ∧ Below w.heap.size w w' := by
  have hM1 := hM.size
  have HM := Lib.hid hM
  clear hM _w1
  have HS : Hid (∀ W : World, MD W → Calls Tryd.prog 21 #[.agg #[.int .i64 s, .int .i64 e, .int .i64 m, .int .i64 r], .int .i64 d] W fun ed w' => ed = .returned (.tuple #[.agg #[.int .i64 (nfV s e m r d).1, .int .i64 (nfV s e m r d).2], .bool (nfB s e m r d)]) ∧ Below W.heap.size W w') := Lib.hid fun W h => nextFlowS_any s e m r d W h
  have HI : Hid (∀ W : World, MD W → Calls Tryd.prog 22 #[.agg #[.int .i64 s, .int .i64 e, .int .i64 m, .int .i64 r], .int .i64 d] W fun ed w' => ed = .returned (.tuple #[.agg #[.int .i64 (nfV s e m r d).1, .int .i64 (nfV s e m r d).2], .bool (nfB s e m r d)]) ∧ Below W.heap.size W w') := Lib.hid fun W h => nextFlowI_any s e m r d W h
  generalize (nfV s e m r d).1 = X at *
  generalize (nfV s e m r d).2 = Y at *
  generalize nfB s e m r d = B at *
  go_enter Tryd.func5, Tryd.ntmps5
  have HB := Lib.hid (Below.refl w.heap.size w)
  go_wp2_with fail
  refine (toBond_any s e m r _).mono ?_
  rintro e w1 ⟨rfl, hb⟩
  have x0_1 : w1.cell? ⟨w.heap.size, 0, none⟩ = some (.int .i64 s) := bc hb (by first | (simp; done) | go_simp)
  have x1_1 : w1.cell? ⟨w.heap.size, 1, none⟩ = some (.int .i64 e) := bc hb (by first | (simp; done) | go_simp)
  have x2_1 : w1.cell? ⟨w.heap.size, 2, none⟩ = some (.int .i64 m) := bc hb (by first | (simp; done) | go_simp)
  have x3_1 : w1.cell? ⟨w.heap.size, 3, none⟩ = some (.int .i64 r) := bc hb (by first | (simp; done) | go_simp)
  have xl_1 : w.heap.size < w1.heap.size := cell_lt x0_1
  have hszw1 := below_size hb
  try simp at hszw1
  have HBq : Below w.heap.size w w1 := Below.trans (by repeat (first | exact Below.refl _ _ | exact HB.out | refine Below.drew ?_ | refine bel_drewN _ ?_ | refine Below.alloc ?_ (by first | omega | (simp; done) | (simp; omega)) _ | refine Below.setCell ?_ (by first | (show _ ≤ _; omega) | (simp; done) | (simp; omega)) _)) (hb.mono (by first | omega | (simp; done) | (simp; omega)))
  have HB := Lib.hid HBq
  clear HBq hb
  go_wp2_with fail
  refine (HS.out _ (by exact HM.out.fwd (by repeat (first | exact Below.refl _ _ | exact HB.out.mono hM1 | refine Below.drew ?_ | refine bel_drewN _ ?_ | refine Below.alloc ?_ (by first | omega | (simp; done) | (simp; omega)) _ | refine Below.setCell ?_ (by first | (show _ ≤ _; omega) | (simp; done) | (simp; omega)) _)))).mono ?_
  rintro e w2 ⟨rfl, hb⟩
  have x0_2 : w2.cell? ⟨w.heap.size, 0, none⟩ = some (.int .i64 s) := bc hb (by first | exact x0_1 | exact ca x0_1 | exact ca (ca x0_1) | exact ca (ca (ca x0_1)) | (simp; done) | go_simp)
  have x1_2 : w2.cell? ⟨w.heap.size, 1, none⟩ = some (.int .i64 e) := bc hb (by first | exact x1_1 | exact ca x1_1 | exact ca (ca x1_1) | exact ca (ca (ca x1_1)) | (simp; done) | go_simp)
  have x2_2 : w2.cell? ⟨w.heap.size, 2, none⟩ = some (.int .i64 m) := bc hb (by first | exact x2_1 | exact ca x2_1 | exact ca (ca x2_1) | exact ca (ca (ca x2_1)) | (simp; done) | go_simp)
  have x3_2 : w2.cell? ⟨w.heap.size, 3, none⟩ = some (.int .i64 r) := bc hb (by first | exact x3_1 | exact ca x3_1 | exact ca (ca x3_1) | exact ca (ca (ca x3_1)) | (simp; done) | go_simp)
  have xl_2 : w.heap.size < w2.heap.size := cell_lt x0_2
  clear x0_1 x1_1 x2_1 x3_1 xl_1
  have hszw2 := below_size hb
  try simp at hszw2
  have HBq : Below w.heap.size w w2 := Below.trans (by repeat (first | exact Below.refl _ _ | exact HB.out | refine Below.drew ?_ | refine bel_drewN _ ?_ | refine Below.alloc ?_ (by first | omega | (simp; done) | (simp; omega)) _ | refine Below.setCell ?_ (by first | (show _ ≤ _; omega) | (simp; done) | (simp; omega)) _)) (hb.mono (by first | omega | (simp; done) | (simp; omega)))
  have HB := Lib.hid HBq
  clear HBq hb
  go_wp2_with fail
  refine (toBond_any s e m r _).mono ?_
  rintro e w3 ⟨rfl, hb⟩
  have x0_3 : w3.cell? ⟨w.heap.size, 0, none⟩ = some (.int .i64 s) := bc hb (by first | exact x0_2 | exact ca x0_2 | exact ca (ca x0_2) | exact ca (ca (ca x0_2)) | (simp; done) | go_simp)
  have x1_3 : w3.cell? ⟨w.heap.size, 1, none⟩ = some (.int .i64 e) := bc hb (by first | exact x1_2 | exact ca x1_2 | exact ca (ca x1_2) | exact ca (ca (ca x1_2)) | (simp; done) | go_simp)
  have x2_3 : w3.cell? ⟨w.heap.size, 2, none⟩ = some (.int .i64 m) := bc hb (by first | exact x2_2 | exact ca x2_2 | exact ca (ca x2_2) | exact ca (ca (ca x2_2)) | (simp; done) | go_simp)
  have x3_3 : w3.cell? ⟨w.heap.size, 3, none⟩ = some (.int .i64 r) := bc hb (by first | exact x3_2 | exact ca x3_2 | exact ca (ca x3_2) | exact ca (ca (ca x3_2)) | (simp; done) | go_simp)
  have xl_3 : w.heap.size < w3.heap.size := cell_lt x0_3
  clear x0_2 x1_2 x2_2 x3_2 xl_2
  have y0_1 : w3.cell? ⟨w2.heap.size, 0, none⟩ = some (.int .i64 X) := bc hb (by first | (simp; done) | go_simp)
  have y1_1 : w3.cell? ⟨w2.heap.size, 1, none⟩ = some (.int .i64 Y) := bc hb (by first | (simp; done) | go_simp)
  have yl_1 : w2.heap.size < w3.heap.size := cell_lt y0_1
  have hszw3 := below_size hb
  try simp at hszw3
  have HBq : Below w.heap.size w w3 := Below.trans (by repeat (first | exact Below.refl _ _ | exact HB.out | refine Below.drew ?_ | refine bel_drewN _ ?_ | refine Below.alloc ?_ (by first | omega | (simp; done) | (simp; omega)) _ | refine Below.setCell ?_ (by first | (show _ ≤ _; omega) | (simp; done) | (simp; omega)) _)) (hb.mono (by first | omega | (simp; done) | (simp; omega)))
  have HB := Lib.hid HBq
  clear HBq hb
  go_wp2_with fail
  refine (HI.out _ (by exact HM.out.fwd (by repeat (first | exact Below.refl _ _ | exact HB.out.mono hM1 | refine Below.drew ?_ | refine bel_drewN _ ?_ | refine Below.alloc ?_ (by first | omega | (simp; done) | (simp; omega)) _ | refine Below.setCell ?_ (by first | (show _ ≤ _; omega) | (simp; done) | (simp; omega)) _)))).mono ?_
  rintro e w4 ⟨rfl, hb⟩
  have x0_4 : w4.cell? ⟨w.heap.size, 0, none⟩ = some (.int .i64 s) := bc hb (by first | exact x0_3 | exact ca x0_3 | exact ca (ca x0_3) | exact ca (ca (ca x0_3)) | (simp; done) | go_simp)
  have x1_4 : w4.cell? ⟨w.heap.size, 1, none⟩ = some (.int .i64 e) := bc hb (by first | exact x1_3 | exact ca x1_3 | exact ca (ca x1_3) | exact ca (ca (ca x1_3)) | (simp; done) | go_simp)
  have x2_4 : w4.cell? ⟨w.heap.size, 2, none⟩ = some (.int .i64 m) := bc hb (by first | exact x2_3 | exact ca x2_3 | exact ca (ca x2_3) | exact ca (ca (ca x2_3)) | (simp; done) | go_simp)
  have x3_4 : w4.cell? ⟨w.heap.size, 3, none⟩ = some (.int .i64 r) := bc hb (by first | exact x3_3 | exact ca x3_3 | exact ca (ca x3_3) | exact ca (ca (ca x3_3)) | (simp; done) | go_simp)
  have xl_4 : w.heap.size < w4.heap.size := cell_lt x0_4
  clear x0_3 x1_3 x2_3 x3_3 xl_3
  have y0_2 : w4.cell? ⟨w2.heap.size, 0, none⟩ = some (.int .i64 X) := bc hb (by first | exact y0_1 | exact ca y0_1 | exact ca (ca y0_1) | exact ca (ca (ca y0_1)) | (simp; done) | go_simp)
  have y1_2 : w4.cell? ⟨w2.heap.size, 1, none⟩ = some (.int .i64 Y) := bc hb (by first | exact y1_1 | exact ca y1_1 | exact ca (ca y1_1) | exact ca (ca (ca y1_1)) | (simp; done) | go_simp)
  have yl_2 : w2.heap.size < w4.heap.size := cell_lt y0_2
  clear y0_1 y1_1 yl_1
  have hszw4 := below_size hb
  try simp at hszw4
  have HBq : Below w.heap.size w w4 := Below.trans (by repeat (first | exact Below.refl _ _ | exact HB.out | refine Below.drew ?_ | refine bel_drewN _ ?_ | refine Below.alloc ?_ (by first | omega | (simp; done) | (simp; omega)) _ | refine Below.setCell ?_ (by first | (show _ ≤ _; omega) | (simp; done) | (simp; omega)) _)) (hb.mono (by first | omega | (simp; done) | (simp; omega)))
  have HB := Lib.hid HBq
  clear HBq hb
  go_wp2_with fail
  refine (eqFlow_same X Y _).mono ?_
  rintro e w5 ⟨rfl, hb⟩
  have x0_5 : w5.cell? ⟨w.heap.size, 0, none⟩ = some (.int .i64 s) := bc hb (by first | exact x0_4 | exact ca x0_4 | exact ca (ca x0_4) | exact ca (ca (ca x0_4)) | (simp; done) | go_simp)
  have x1_5 : w5.cell? ⟨w.heap.size, 1, none⟩ = some (.int .i64 e) := bc hb (by first | exact x1_4 | exact ca x1_4 | exact ca (ca x1_4) | exact ca (ca (ca x1_4)) | (simp; done) | go_simp)
  have x2_5 : w5.cell? ⟨w.heap.size, 2, none⟩ = some (.int .i64 m) := bc hb (by first | exact x2_4 | exact ca x2_4 | exact ca (ca x2_4) | exact ca (ca (ca x2_4)) | (simp; done) | go_simp)
  have x3_5 : w5.cell? ⟨w.heap.size, 3, none⟩ = some (.int .i64 r) := bc hb (by first | exact x3_4 | exact ca x3_4 | exact ca (ca x3_4) | exact ca (ca (ca x3_4)) | (simp; done) | go_simp)
  have xl_5 : w.heap.size < w5.heap.size := cell_lt x0_5
  clear x0_4 x1_4 x2_4 x3_4 xl_4
  have y0_3 : w5.cell? ⟨w2.heap.size, 0, none⟩ = some (.int .i64 X) := bc hb (by first | exact y0_2 | exact ca y0_2 | exact ca (ca y0_2) | exact ca (ca (ca y0_2)) | (simp; done) | go_simp)
  have y1_3 : w5.cell? ⟨w2.heap.size, 1, none⟩ = some (.int .i64 Y) := bc hb (by first | exact y1_2 | exact ca y1_2 | exact ca (ca y1_2) | exact ca (ca (ca y1_2)) | (simp; done) | go_simp)
  have yl_3 : w2.heap.size < w5.heap.size := cell_lt y0_3
  clear y0_2 y1_2 yl_2
  have hszw5 := below_size hb
  try simp at hszw5
  have HBq : Below w.heap.size w w5 := Below.trans (by repeat (first | exact Below.refl _ _ | exact HB.out | refine Below.drew ?_ | refine bel_drewN _ ?_ | refine Below.alloc ?_ (by first | omega | (simp; done) | (simp; omega)) _ | refine Below.setCell ?_ (by first | (show _ ≤ _; omega) | (simp; done) | (simp; omega)) _)) (hb.mono (by first | omega | (simp; done) | (simp; omega)))
  have HB := Lib.hid HBq
  clear HBq hb
  go_wp2
  go_ret
  exact ⟨ret_bool (by first | rfl | simp), HB.out⟩
set_option maxHeartbeats 4000000 in
theorem eqFlows_any (v1 v2 : Value) (b1 b2 : Nat) (L : Nat) (A : Nat → Int × Int) (w : World) (hL : L ≤ 100) (h1 : FV w b1 v1 L A) (h2 : FV w b2 v2 L A) :
    Calls Tryd.prog 25 #[v1, v2] w fun e w' => e = .returned (.bool true) ∧ Below w.heap.size w w' := by
  rcases h1 with ⟨rfl, va, vc, rfl, hvc⟩ | ⟨hp, g1, c1, cap1, rfl, _, l1, m1, p1⟩
  · rcases h2 with ⟨_, va2, vc2, rfl, hvc2⟩ | ⟨hp, _⟩
    · go_enter Tryd.func25, Tryd.ntmps25
      go_wp2
      go_loop [5] (fun i => i = .int .i64 0) (fun _ => 0)
      case atStart => rfl
      case round =>
        obtain rfl := hrel
        go_wp2
        go_ret
        exact ⟨rfl, Below.refl _ _⟩
    · omega
  · rcases h2 with ⟨h0, _⟩ | ⟨_, g2, c2, cap2, rfl, _, l2, m2, p2⟩
    · omega
    have P1 := Lib.hid p1
    have P2 := Lib.hid p2
    have t1 := p1.lt
    have t2 := p2.lt
    clear p1 p2
    go_enter Tryd.func25, Tryd.ntmps25
    go_wp2
    go_loopw [5] (fun i wr => ∃ k : Nat, k ≤ L ∧ i = .int .i64 k ∧ Below w.heap.size w wr) (fun i _ => L - (intOf i).toNat)
    case atStart => exact ⟨0, Nat.zero_le _, rfl, Below.refl _ _⟩
    case round =>
      obtain ⟨k, hk, rfl, hbel⟩ := hrel
      have hsz := hbel.size
      by_cases hlt : k < L
      · obtain ⟨⟨a0, a1⟩, _⟩ := (P1.out.fwd hbel t1).cells hlt
        obtain ⟨⟨b0, b1⟩, _⟩ := (P2.out.fwd hbel t2).cells hlt
        have HB := Lib.hid hbel
        clear hbel
        have i0 : (0 : Int) ≤ (k : Int) := by omega
        have i1 : (k : Int) < (L : Int) := by omega
        generalize (A k).1 = x at *
        generalize (A k).2 = y at *
        go_wp2_with fail
        go_region_held3 (fun w' => (w'.cell? ⟨g1, k * 2, none⟩ = some (.int .i64 x) ∧ w'.cell? ⟨g1, k * 2 + 1, none⟩ = some (.int .i64 y)) ∧ w'.cell? ⟨g2, k * 2, none⟩ = some (.int .i64 x) ∧ w'.cell? ⟨g2, k * 2 + 1, none⟩ = some (.int .i64 y))
          ((go_split_ands; refine ⟨⟨?_, ?_⟩, ?_, ?_⟩ <;> first | assumption | (with_reducible exact bc hb (by first | assumption | (simp; assumption))) | (simp; assumption)))
          (first | (go_at_call 23; refine (eqFlow_same _ _ _).mono ?_; rintro e v ⟨rfl, hb⟩))
        go_wp2
        go_roundw
        case rel => exact ⟨k + 1, by omega, by go_num, HB.out.trans ((Below.drew (Below.refl _ _)).trans (hb.mono (by simpa using hsz)))⟩
        case measure => simp [intOf]; omega
      · obtain rfl : k = L := by omega
        go_wp2
        go_ret
        exact ⟨rfl, hbel⟩
/-- the marks -/
def mkF (t : Nat) : Int × Int := (2 * (t : Int) + 1, 2 * (t : Int) + 2)
def mkFTo (A : Nat → Int × Int) (k j : Nat) : Int × Int := if j < k then mkF j else A j
set_option maxHeartbeats 4000000 in
theorem markFlows_any (v : Value) (b : Nat) (L : Nat) (A : Nat → Int × Int) (w : World) (hL : L ≤ 100) (h : FV w b v L A) :
    Calls Tryd.prog 26 #[v, .int .i64 1] w fun e w' => e = .returned (.int .i64 (2 * (L : Int) + 1)) ∧ FV w' b v L mkF ∧ Below b w w' := by
  rcases h with ⟨rfl, va, vc, rfl, hvc⟩ | ⟨hp, g, c, cap, rfl, hb, l1, m1, h⟩
  · go_enter Tryd.func26, Tryd.ntmps26
    go_wp2
    go_loop [1, 5] (fun k i => k = .int .i64 1 ∧ i = .int .i64 0) (fun _ _ => 0)
    case atStart => exact ⟨rfl, rfl⟩
    case round =>
      obtain ⟨rfl, rfl⟩ := hrel
      go_wp2
      go_ret
      exact ⟨rfl, .inl ⟨rfl, _, _, rfl, hvc⟩, Below.refl _ _⟩
  · have H := Lib.hid h
    clear h
    go_enter Tryd.func26, Tryd.ntmps26
    go_wp2
    go_loopw [1, 5] (fun k i wr => ∃ t : Nat, t ≤ L ∧ i = .int .i64 t ∧ k = .int .i64 (2 * (t : Int) + 1) ∧ FB wr g cap L (mkFTo A t) ∧ Below b w wr) (fun _ i _ => L - (intOf i).toNat)
    case atStart => exact ⟨0, Nat.zero_le _, rfl, by simp, H.out.congr (fun j hj => by unfold mkFTo; rw [if_neg (by omega)]), Below.refl _ _⟩
    case round =>
      obtain ⟨t, ht, rfl, rfl, hp, hg⟩ := hrel
      by_cases hlt : t < L
      · obtain ⟨⟨a0, a1⟩, fz⟩ := hp.cells hlt
        have f0 := fz (t * 2)
        have f1 := fz (t * 2 + 1)
        have HP := Lib.hid hp
        have HG := Lib.hid hg
        have i0 : (0 : Int) ≤ (t : Int) := by omega
        have i1 : (t : Int) < (L : Int) := by omega
        clear fz hp hg
        go_wp2
        go_roundw
        case rel =>
          refine ⟨t + 1, by omega, by go_num, by go_num, FB.congr ((HP.out.set0 t hlt _).set1 t hlt _) (fun j hj => ?_), Below.setCell (Below.setCell HG.out hb _) hb _⟩
          unfold updF mkFTo mkF
          by_cases c1 : j = t
          · subst c1; rw [if_pos rfl, if_pos (by omega)]; simp; omega
          · rw [if_neg c1, if_neg c1]
            by_cases c2 : j < t
            · rw [if_pos c2, if_pos (by omega)]
            · rw [if_neg c2, if_neg (by omega)]
        case measure => simp [intOf]; omega
      · obtain rfl : t = L := by omega
        go_wp2
        go_ret
        exact ⟨rfl, .inr ⟨by omega, g, c, cap, rfl, hb, l1, m1, hp.congr (fun j hj => by unfold mkFTo; rw [if_pos hj])⟩, hg⟩
set_option maxHeartbeats 4000000 in
theorem heldFlows_any (v : Value) (b : Nat) (L : Nat) (w : World) (hL : L ≤ 100) (h : FV w b v L mkF) :
    Calls Tryd.prog 27 #[v, .int .i64 1] w fun e w' => e = .returned (.int .i64 (2 * (L : Int) + 1)) ∧ w = w' := by
  rcases h with ⟨rfl, va, vc, rfl, hvc⟩ | ⟨hp, g, c, cap, rfl, hb, l1, m1, h⟩
  · go_enter Tryd.func27, Tryd.ntmps27
    go_wp2
    go_loop [1, 5] (fun k i => k = .int .i64 1 ∧ i = .int .i64 0) (fun _ _ => 0)
    case atStart => exact ⟨rfl, rfl⟩
    case round =>
      obtain ⟨rfl, rfl⟩ := hrel
      go_wp2
      go_ret
      exact ⟨rfl, rfl⟩
  · have H := Lib.hid h
    clear h
    go_enter Tryd.func27, Tryd.ntmps27
    go_wp2
    go_loop [1, 5] (fun k i => ∃ t : Nat, t ≤ L ∧ i = .int .i64 t ∧ k = .int .i64 (2 * (t : Int) + 1)) (fun _ i => L - (intOf i).toNat)
    case atStart => exact ⟨0, Nat.zero_le _, rfl, by simp⟩
    case round =>
      obtain ⟨t, ht, rfl, rfl⟩ := hrel
      by_cases hlt : t < L
      · obtain ⟨⟨a0, a1⟩, _⟩ := H.out.cells hlt
        have i0 : (0 : Int) ≤ (t : Int) := by omega
        have i1 : (t : Int) < (L : Int) := by omega
        unfold mkF at a0 a1
        rw [show 2 * (t : Int) + 2 = 2 * (t : Int) + 1 + 1 by omega] at a1
        go_wp2
        go_round
        case rel => exact ⟨t + 1, by omega, by go_num, by go_num⟩
        case measure => simp [intOf]; omega
      · obtain rfl : t = L := by omega
        go_wp2
        go_ret
        exact ⟨rfl, rfl⟩
set_option maxHeartbeats 4000000 in
theorem fnExactFlowsOf_walk (s e m r : Int) (w : World) (hM : MD w) (_w0 : True) :
    Calls Tryd.prog 6 #[.agg #[.int .i64 s, .int .i64 e, .int .i64 m, .int .i64 r]] w fun ed w' => ed = .returned (.bool true) ∧ Below w.heap.size w w' := by
  have hM1 := hM.size
  have HM := Lib.hid hM
  clear hM
  have hL : flL s e m r ≤ 40 := fl_ok s e m r |>.le
  have HS : Hid (∀ W : World, MD W → Calls Tryd.prog 24 #[.agg #[.int .i64 s, .int .i64 e, .int .i64 m, .int .i64 r]] W (FlOf s e m r W)) := Lib.hid fun W h => flowsOfS_any s e m r W h
  have HI : Hid (∀ W : World, MD W → Calls Tryd.prog 18 #[.agg #[.int .i64 s, .int .i64 e, .int .i64 m, .int .i64 r]] W (FlOf s e m r W)) := Lib.hid fun W h => flowsOfI_any s e m r W h
  unfold FlOf at HS HI
  generalize flL s e m r = L at *
  generalize flF s e m r = A at *
  go_enter Tryd.func6, Tryd.ntmps6
  have HB := Lib.hid (Below.refl w.heap.size w)
  go_wp2_with fail
  refine (toBond_any s e m r _).mono ?_
  rintro e w1 ⟨rfl, hb⟩
  have x0_1 : w1.cell? ⟨w.heap.size, 0, none⟩ = some (.int .i64 s) := bc hb (by first | (simp; done) | go_simp)
  have x1_1 : w1.cell? ⟨w.heap.size, 1, none⟩ = some (.int .i64 e) := bc hb (by first | (simp; done) | go_simp)
  have x2_1 : w1.cell? ⟨w.heap.size, 2, none⟩ = some (.int .i64 m) := bc hb (by first | (simp; done) | go_simp)
  have x3_1 : w1.cell? ⟨w.heap.size, 3, none⟩ = some (.int .i64 r) := bc hb (by first | (simp; done) | go_simp)
  have xl_1 : w.heap.size < w1.heap.size := cell_lt x0_1
  have hszw1 := below_size hb
  try simp at hszw1
  have HBq : Below w.heap.size w w1 := Below.trans (by repeat (first | exact Below.refl _ _ | exact HB.out | refine Below.drew ?_ | refine bel_drewN _ ?_ | refine Below.alloc ?_ (by first | omega | (simp; done) | (simp; omega)) _ | refine Below.setCell ?_ (by first | (show _ ≤ _; omega) | (simp; done) | (simp; omega)) _)) (hb.mono (by first | omega | (simp; done) | (simp; omega)))
  have HB := Lib.hid HBq
  clear HBq hb
  go_wp2_with fail
  refine (HS.out _ (by exact HM.out.fwd (by repeat (first | exact Below.refl _ _ | exact HB.out.mono hM1 | refine Below.drew ?_ | refine bel_drewN _ ?_ | refine Below.alloc ?_ (by first | omega | (simp; done) | (simp; omega)) _ | refine Below.setCell ?_ (by first | (show _ ≤ _; omega) | (simp; done) | (simp; omega)) _)))).mono ?_
  rintro ed w2 ⟨v0, rfl, hv0, hb⟩
  have hzw2 := hb.size
  have x0_2 : w2.cell? ⟨w.heap.size, 0, none⟩ = some (.int .i64 s) := bc hb (by first | exact x0_1 | exact ca x0_1 | exact ca (ca x0_1) | exact ca (ca (ca x0_1)) | (simp; done) | go_simp)
  have x1_2 : w2.cell? ⟨w.heap.size, 1, none⟩ = some (.int .i64 e) := bc hb (by first | exact x1_1 | exact ca x1_1 | exact ca (ca x1_1) | exact ca (ca (ca x1_1)) | (simp; done) | go_simp)
  have x2_2 : w2.cell? ⟨w.heap.size, 2, none⟩ = some (.int .i64 m) := bc hb (by first | exact x2_1 | exact ca x2_1 | exact ca (ca x2_1) | exact ca (ca (ca x2_1)) | (simp; done) | go_simp)
  have x3_2 : w2.cell? ⟨w.heap.size, 3, none⟩ = some (.int .i64 r) := bc hb (by first | exact x3_1 | exact ca x3_1 | exact ca (ca x3_1) | exact ca (ca (ca x3_1)) | (simp; done) | go_simp)
  have xl_2 : w.heap.size < w2.heap.size := cell_lt x0_2
  clear x0_1 x1_1 x2_1 x3_1 xl_1
  have HV0 := Lib.hid hv0
  clear hv0
  have HBq : Below w.heap.size w w2 := HB.out.trans (hb.mono HB.out.size)
  have HB := Lib.hid HBq
  clear HBq hb
  go_wp2_with fail
  refine (toBond_any s e m r _).mono ?_
  rintro ed w3 ⟨rfl, hb⟩
  have hzw3 := hb.size
  have x0_3 : w3.cell? ⟨w.heap.size, 0, none⟩ = some (.int .i64 s) := bc hb (by first | exact x0_2 | exact ca x0_2 | exact ca (ca x0_2) | exact ca (ca (ca x0_2)) | (simp; done) | go_simp)
  have x1_3 : w3.cell? ⟨w.heap.size, 1, none⟩ = some (.int .i64 e) := bc hb (by first | exact x1_2 | exact ca x1_2 | exact ca (ca x1_2) | exact ca (ca (ca x1_2)) | (simp; done) | go_simp)
  have x2_3 : w3.cell? ⟨w.heap.size, 2, none⟩ = some (.int .i64 m) := bc hb (by first | exact x2_2 | exact ca x2_2 | exact ca (ca x2_2) | exact ca (ca (ca x2_2)) | (simp; done) | go_simp)
  have x3_3 : w3.cell? ⟨w.heap.size, 3, none⟩ = some (.int .i64 r) := bc hb (by first | exact x3_2 | exact ca x3_2 | exact ca (ca x3_2) | exact ca (ca (ca x3_2)) | (simp; done) | go_simp)
  have xl_3 : w.heap.size < w3.heap.size := cell_lt x0_3
  clear x0_2 x1_2 x2_2 x3_2 xl_2
  have HV0 := Lib.hid (HV0.out.below hb)
  have HBq : Below w.heap.size w w3 := HB.out.trans (hb.mono HB.out.size)
  have HB := Lib.hid HBq
  clear HBq hb
  go_wp2_with fail
  refine (HI.out _ (by exact HM.out.fwd (by repeat (first | exact Below.refl _ _ | exact HB.out.mono hM1 | refine Below.drew ?_ | refine bel_drewN _ ?_ | refine Below.alloc ?_ (by first | omega | (simp; done) | (simp; omega)) _ | refine Below.setCell ?_ (by first | (show _ ≤ _; omega) | (simp; done) | (simp; omega)) _)))).mono ?_
  rintro ed w4 ⟨v1, rfl, hv1, hb⟩
  have hzw4 := hb.size
  have x0_4 : w4.cell? ⟨w.heap.size, 0, none⟩ = some (.int .i64 s) := bc hb (by first | exact x0_3 | exact ca x0_3 | exact ca (ca x0_3) | exact ca (ca (ca x0_3)) | (simp; done) | go_simp)
  have x1_4 : w4.cell? ⟨w.heap.size, 1, none⟩ = some (.int .i64 e) := bc hb (by first | exact x1_3 | exact ca x1_3 | exact ca (ca x1_3) | exact ca (ca (ca x1_3)) | (simp; done) | go_simp)
  have x2_4 : w4.cell? ⟨w.heap.size, 2, none⟩ = some (.int .i64 m) := bc hb (by first | exact x2_3 | exact ca x2_3 | exact ca (ca x2_3) | exact ca (ca (ca x2_3)) | (simp; done) | go_simp)
  have x3_4 : w4.cell? ⟨w.heap.size, 3, none⟩ = some (.int .i64 r) := bc hb (by first | exact x3_3 | exact ca x3_3 | exact ca (ca x3_3) | exact ca (ca (ca x3_3)) | (simp; done) | go_simp)
  have xl_4 : w.heap.size < w4.heap.size := cell_lt x0_4
  clear x0_3 x1_3 x2_3 x3_3 xl_3
  have HV1 := Lib.hid hv1
  have H3 := Lib.hid hb
  have HQ := Lib.hid (HV0.out.below hb)
  clear hv1
  have HBq : Below w.heap.size w w4 := HB.out.trans (hb.mono HB.out.size)
  have HB := Lib.hid HBq
  clear HBq hb
  go_wp2_with fail
  refine (eqFlows_any _ _ _ _ L A _ (by omega) HV1.out HQ.out).mono ?_
  rintro ed w5 ⟨rfl, hb⟩
  have hzw5 := hb.size
  have x0_5 : w5.cell? ⟨w.heap.size, 0, none⟩ = some (.int .i64 s) := bc hb (by first | exact x0_4 | exact ca x0_4 | exact ca (ca x0_4) | exact ca (ca (ca x0_4)) | (simp; done) | go_simp)
  have x1_5 : w5.cell? ⟨w.heap.size, 1, none⟩ = some (.int .i64 e) := bc hb (by first | exact x1_4 | exact ca x1_4 | exact ca (ca x1_4) | exact ca (ca (ca x1_4)) | (simp; done) | go_simp)
  have x2_5 : w5.cell? ⟨w.heap.size, 2, none⟩ = some (.int .i64 m) := bc hb (by first | exact x2_4 | exact ca x2_4 | exact ca (ca x2_4) | exact ca (ca (ca x2_4)) | (simp; done) | go_simp)
  have x3_5 : w5.cell? ⟨w.heap.size, 3, none⟩ = some (.int .i64 r) := bc hb (by first | exact x3_4 | exact ca x3_4 | exact ca (ca x3_4) | exact ca (ca (ca x3_4)) | (simp; done) | go_simp)
  have xl_5 : w.heap.size < w5.heap.size := cell_lt x0_5
  clear x0_4 x1_4 x2_4 x3_4 xl_4
  have HV1 := Lib.hid (HV1.out.below hb)
  have H3 : Hid (Below w3.heap.size w3 w5) := H3.out.trans (hb.mono hzw4)
  have HBq : Below w.heap.size w w5 := HB.out.trans (hb.mono HB.out.size)
  have HB := Lib.hid HBq
  clear HBq hb
  go_wp2_with fail
  refine (markFlows_any _ _ L A _ (by omega) HV1.out).mono ?_
  rintro ed w6 ⟨rfl, hv1, hb⟩
  have hzw6 := hb.size
  have HV1 := Lib.hid hv1
  have hz3 : w.heap.size < w3.heap.size := by omega
  have H3 : Hid (Below w3.heap.size w3 w6) := H3.out.trans hb
  have HV0 := Lib.hid (HV0.out.below H3.out)
  have x0_5 := (hb.cell (p := ⟨w.heap.size, 0, none⟩) hz3).trans x0_5
  have x1_5 := (hb.cell (p := ⟨w.heap.size, 1, none⟩) hz3).trans x1_5
  have x2_5 := (hb.cell (p := ⟨w.heap.size, 2, none⟩) hz3).trans x2_5
  have x3_5 := (hb.cell (p := ⟨w.heap.size, 3, none⟩) hz3).trans x3_5
  have xl_5 : w.heap.size < w6.heap.size := by omega
  have HBq : Below w.heap.size w w6 := HB.out.trans (hb.mono (by omega))
  have HB := Lib.hid HBq
  clear HBq hb hv1
  go_wp2_with fail
  refine (heldFlows_any _ _ L _ (by omega) HV1.out).mono ?_
  rintro ed w6' ⟨rfl, rfl⟩
  go_wp2_with fail
  refine (toBond_any s e m r _).mono ?_
  rintro ed w7 ⟨rfl, hb⟩
  have hzw7 := hb.size
  have x0_6 : w7.cell? ⟨w.heap.size, 0, none⟩ = some (.int .i64 s) := bc hb (by first | exact x0_5 | exact ca x0_5 | exact ca (ca x0_5) | exact ca (ca (ca x0_5)) | (simp; done) | go_simp)
  have x1_6 : w7.cell? ⟨w.heap.size, 1, none⟩ = some (.int .i64 e) := bc hb (by first | exact x1_5 | exact ca x1_5 | exact ca (ca x1_5) | exact ca (ca (ca x1_5)) | (simp; done) | go_simp)
  have x2_6 : w7.cell? ⟨w.heap.size, 2, none⟩ = some (.int .i64 m) := bc hb (by first | exact x2_5 | exact ca x2_5 | exact ca (ca x2_5) | exact ca (ca (ca x2_5)) | (simp; done) | go_simp)
  have x3_6 : w7.cell? ⟨w.heap.size, 3, none⟩ = some (.int .i64 r) := bc hb (by first | exact x3_5 | exact ca x3_5 | exact ca (ca x3_5) | exact ca (ca (ca x3_5)) | (simp; done) | go_simp)
  have xl_6 : w.heap.size < w7.heap.size := cell_lt x0_6
  clear x0_5 x1_5 x2_5 x3_5 xl_5
  have HV0 := Lib.hid (HV0.out.below hb)
  have HV1 := Lib.hid (HV1.out.below hb)
  have HBq : Below w.heap.size w w7 := HB.out.trans (hb.mono HB.out.size)
  have HB := Lib.hid HBq
  clear HBq hb
  go_wp2_with fail
  refine (HI.out _ (by exact HM.out.fwd (by repeat (first | exact Below.refl _ _ | exact HB.out.mono hM1 | refine Below.drew ?_ | refine bel_drewN _ ?_ | refine Below.alloc ?_ (by first | omega | (simp; done) | (simp; omega)) _ | refine Below.setCell ?_ (by first | (show _ ≤ _; omega) | (simp; done) | (simp; omega)) _)))).mono ?_
  rintro ed w8 ⟨v2, rfl, hv2, hb⟩
  have hzw8 := hb.size
  have x0_7 : w8.cell? ⟨w.heap.size, 0, none⟩ = some (.int .i64 s) := bc hb (by first | exact x0_6 | exact ca x0_6 | exact ca (ca x0_6) | exact ca (ca (ca x0_6)) | (simp; done) | go_simp)
  have x1_7 : w8.cell? ⟨w.heap.size, 1, none⟩ = some (.int .i64 e) := bc hb (by first | exact x1_6 | exact ca x1_6 | exact ca (ca x1_6) | exact ca (ca (ca x1_6)) | (simp; done) | go_simp)
  have x2_7 : w8.cell? ⟨w.heap.size, 2, none⟩ = some (.int .i64 m) := bc hb (by first | exact x2_6 | exact ca x2_6 | exact ca (ca x2_6) | exact ca (ca (ca x2_6)) | (simp; done) | go_simp)
  have x3_7 : w8.cell? ⟨w.heap.size, 3, none⟩ = some (.int .i64 r) := bc hb (by first | exact x3_6 | exact ca x3_6 | exact ca (ca x3_6) | exact ca (ca (ca x3_6)) | (simp; done) | go_simp)
  have xl_7 : w.heap.size < w8.heap.size := cell_lt x0_7
  clear x0_6 x1_6 x2_6 x3_6 xl_6
  have HV2 := Lib.hid hv2
  have HV0 := Lib.hid (HV0.out.below hb)
  have HV1 := Lib.hid (HV1.out.below hb)
  clear hv2
  have HBq : Below w.heap.size w w8 := HB.out.trans (hb.mono HB.out.size)
  have HB := Lib.hid HBq
  clear HBq hb
  go_wp2_with fail
  refine (eqFlows_any _ _ _ _ L A _ (by omega) HV2.out HV0.out).mono ?_
  rintro ed w9 ⟨rfl, hb⟩
  have hzw9 := hb.size
  have x0_8 : w9.cell? ⟨w.heap.size, 0, none⟩ = some (.int .i64 s) := bc hb (by first | exact x0_7 | exact ca x0_7 | exact ca (ca x0_7) | exact ca (ca (ca x0_7)) | (simp; done) | go_simp)
  have x1_8 : w9.cell? ⟨w.heap.size, 1, none⟩ = some (.int .i64 e) := bc hb (by first | exact x1_7 | exact ca x1_7 | exact ca (ca x1_7) | exact ca (ca (ca x1_7)) | (simp; done) | go_simp)
  have x2_8 : w9.cell? ⟨w.heap.size, 2, none⟩ = some (.int .i64 m) := bc hb (by first | exact x2_7 | exact ca x2_7 | exact ca (ca x2_7) | exact ca (ca (ca x2_7)) | (simp; done) | go_simp)
  have x3_8 : w9.cell? ⟨w.heap.size, 3, none⟩ = some (.int .i64 r) := bc hb (by first | exact x3_7 | exact ca x3_7 | exact ca (ca x3_7) | exact ca (ca (ca x3_7)) | (simp; done) | go_simp)
  have xl_8 : w.heap.size < w9.heap.size := cell_lt x0_8
  clear x0_7 x1_7 x2_7 x3_7 xl_7
  have HV1 := Lib.hid (HV1.out.below hb)
  have HBq : Below w.heap.size w w9 := HB.out.trans (hb.mono HB.out.size)
  have HB := Lib.hid HBq
  clear HBq hb
  go_wp2_with fail
  refine (heldFlows_any _ _ L _ (by omega) HV1.out).mono ?_
  rintro ed w9' ⟨rfl, rfl⟩
  go_wp2
  go_ret
  exact ⟨rfl, HB.out⟩
set_option maxHeartbeats 4000000 in
theorem fnExactFlowsAfter_walk (s e m r d : Int) (w : World) (hM : MD w) (_w0 : True) (_w1 : (Lit.int .i64 d).wf = true) :
    Calls Tryd.prog 10 #[.agg #[.int .i64 s, .int .i64 e, .int .i64 m, .int .i64 r], .int .i64 d] w fun ed w' => ed = .returned (.bool true) ∧ Below w.heap.size w w' := by
  have hM1 := hM.size
  have HM := Lib.hid hM
  clear hM _w1
  have hL : afL s e m r d ≤ 40 := Nat.le_trans (Nat.sub_le _ _) (fl_ok s e m r).le
  have HS : Hid (∀ W : World, MD W → Calls Tryd.prog 31 #[.agg #[.int .i64 s, .int .i64 e, .int .i64 m, .int .i64 r], .int .i64 d] W (FlAf s e m r d W)) := Lib.hid fun W h => flowsAfterS_any s e m r d W h
  have HI : Hid (∀ W : World, MD W → Calls Tryd.prog 32 #[.agg #[.int .i64 s, .int .i64 e, .int .i64 m, .int .i64 r], .int .i64 d] W (FlAf s e m r d W)) := Lib.hid fun W h => flowsAfterI_any s e m r d W h
  unfold FlAf at HS HI
  generalize afL s e m r d = L at *
  generalize afF s e m r d = A at *
  go_enter Tryd.func10, Tryd.ntmps10
  have HB := Lib.hid (Below.refl w.heap.size w)
  go_wp2_with fail
  refine (toBond_any s e m r _).mono ?_
  rintro e w1 ⟨rfl, hb⟩
  have x0_1 : w1.cell? ⟨w.heap.size, 0, none⟩ = some (.int .i64 s) := bc hb (by first | (simp; done) | go_simp)
  have x1_1 : w1.cell? ⟨w.heap.size, 1, none⟩ = some (.int .i64 e) := bc hb (by first | (simp; done) | go_simp)
  have x2_1 : w1.cell? ⟨w.heap.size, 2, none⟩ = some (.int .i64 m) := bc hb (by first | (simp; done) | go_simp)
  have x3_1 : w1.cell? ⟨w.heap.size, 3, none⟩ = some (.int .i64 r) := bc hb (by first | (simp; done) | go_simp)
  have xl_1 : w.heap.size < w1.heap.size := cell_lt x0_1
  have hszw1 := below_size hb
  try simp at hszw1
  have HBq : Below w.heap.size w w1 := Below.trans (by repeat (first | exact Below.refl _ _ | exact HB.out | refine Below.drew ?_ | refine bel_drewN _ ?_ | refine Below.alloc ?_ (by first | omega | (simp; done) | (simp; omega)) _ | refine Below.setCell ?_ (by first | (show _ ≤ _; omega) | (simp; done) | (simp; omega)) _)) (hb.mono (by first | omega | (simp; done) | (simp; omega)))
  have HB := Lib.hid HBq
  clear HBq hb
  go_wp2_with fail
  refine (HS.out _ (by exact HM.out.fwd (by repeat (first | exact Below.refl _ _ | exact HB.out.mono hM1 | refine Below.drew ?_ | refine bel_drewN _ ?_ | refine Below.alloc ?_ (by first | omega | (simp; done) | (simp; omega)) _ | refine Below.setCell ?_ (by first | (show _ ≤ _; omega) | (simp; done) | (simp; omega)) _)))).mono ?_
  rintro ed w2 ⟨v0, rfl, hv0, hb⟩
  have hzw2 := hb.size
  have x0_2 : w2.cell? ⟨w.heap.size, 0, none⟩ = some (.int .i64 s) := bc hb (by first | exact x0_1 | exact ca x0_1 | exact ca (ca x0_1) | exact ca (ca (ca x0_1)) | (simp; done) | go_simp)
  have x1_2 : w2.cell? ⟨w.heap.size, 1, none⟩ = some (.int .i64 e) := bc hb (by first | exact x1_1 | exact ca x1_1 | exact ca (ca x1_1) | exact ca (ca (ca x1_1)) | (simp; done) | go_simp)
  have x2_2 : w2.cell? ⟨w.heap.size, 2, none⟩ = some (.int .i64 m) := bc hb (by first | exact x2_1 | exact ca x2_1 | exact ca (ca x2_1) | exact ca (ca (ca x2_1)) | (simp; done) | go_simp)
  have x3_2 : w2.cell? ⟨w.heap.size, 3, none⟩ = some (.int .i64 r) := bc hb (by first | exact x3_1 | exact ca x3_1 | exact ca (ca x3_1) | exact ca (ca (ca x3_1)) | (simp; done) | go_simp)
  have xl_2 : w.heap.size < w2.heap.size := cell_lt x0_2
  clear x0_1 x1_1 x2_1 x3_1 xl_1
  have HV0 := Lib.hid hv0
  clear hv0
  have HBq : Below w.heap.size w w2 := HB.out.trans (hb.mono HB.out.size)
  have HB := Lib.hid HBq
  clear HBq hb
  go_wp2_with fail
  refine (toBond_any s e m r _).mono ?_
  rintro ed w3 ⟨rfl, hb⟩
  have hzw3 := hb.size
  have x0_3 : w3.cell? ⟨w.heap.size, 0, none⟩ = some (.int .i64 s) := bc hb (by first | exact x0_2 | exact ca x0_2 | exact ca (ca x0_2) | exact ca (ca (ca x0_2)) | (simp; done) | go_simp)
  have x1_3 : w3.cell? ⟨w.heap.size, 1, none⟩ = some (.int .i64 e) := bc hb (by first | exact x1_2 | exact ca x1_2 | exact ca (ca x1_2) | exact ca (ca (ca x1_2)) | (simp; done) | go_simp)
  have x2_3 : w3.cell? ⟨w.heap.size, 2, none⟩ = some (.int .i64 m) := bc hb (by first | exact x2_2 | exact ca x2_2 | exact ca (ca x2_2) | exact ca (ca (ca x2_2)) | (simp; done) | go_simp)
  have x3_3 : w3.cell? ⟨w.heap.size, 3, none⟩ = some (.int .i64 r) := bc hb (by first | exact x3_2 | exact ca x3_2 | exact ca (ca x3_2) | exact ca (ca (ca x3_2)) | (simp; done) | go_simp)
  have xl_3 : w.heap.size < w3.heap.size := cell_lt x0_3
  clear x0_2 x1_2 x2_2 x3_2 xl_2
  have HV0 := Lib.hid (HV0.out.below hb)
  have HBq : Below w.heap.size w w3 := HB.out.trans (hb.mono HB.out.size)
  have HB := Lib.hid HBq
  clear HBq hb
  go_wp2_with fail
  refine (HI.out _ (by exact HM.out.fwd (by repeat (first | exact Below.refl _ _ | exact HB.out.mono hM1 | refine Below.drew ?_ | refine bel_drewN _ ?_ | refine Below.alloc ?_ (by first | omega | (simp; done) | (simp; omega)) _ | refine Below.setCell ?_ (by first | (show _ ≤ _; omega) | (simp; done) | (simp; omega)) _)))).mono ?_
  rintro ed w4 ⟨v1, rfl, hv1, hb⟩
  have hzw4 := hb.size
  have x0_4 : w4.cell? ⟨w.heap.size, 0, none⟩ = some (.int .i64 s) := bc hb (by first | exact x0_3 | exact ca x0_3 | exact ca (ca x0_3) | exact ca (ca (ca x0_3)) | (simp; done) | go_simp)
  have x1_4 : w4.cell? ⟨w.heap.size, 1, none⟩ = some (.int .i64 e) := bc hb (by first | exact x1_3 | exact ca x1_3 | exact ca (ca x1_3) | exact ca (ca (ca x1_3)) | (simp; done) | go_simp)
  have x2_4 : w4.cell? ⟨w.heap.size, 2, none⟩ = some (.int .i64 m) := bc hb (by first | exact x2_3 | exact ca x2_3 | exact ca (ca x2_3) | exact ca (ca (ca x2_3)) | (simp; done) | go_simp)
  have x3_4 : w4.cell? ⟨w.heap.size, 3, none⟩ = some (.int .i64 r) := bc hb (by first | exact x3_3 | exact ca x3_3 | exact ca (ca x3_3) | exact ca (ca (ca x3_3)) | (simp; done) | go_simp)
  have xl_4 : w.heap.size < w4.heap.size := cell_lt x0_4
  clear x0_3 x1_3 x2_3 x3_3 xl_3
  have HV1 := Lib.hid hv1
  have H3 := Lib.hid hb
  have HQ := Lib.hid (HV0.out.below hb)
  clear hv1
  have HBq : Below w.heap.size w w4 := HB.out.trans (hb.mono HB.out.size)
  have HB := Lib.hid HBq
  clear HBq hb
  go_wp2_with fail
  refine (eqFlows_any _ _ _ _ L A _ (by omega) HV1.out HQ.out).mono ?_
  rintro ed w5 ⟨rfl, hb⟩
  have hzw5 := hb.size
  have x0_5 : w5.cell? ⟨w.heap.size, 0, none⟩ = some (.int .i64 s) := bc hb (by first | exact x0_4 | exact ca x0_4 | exact ca (ca x0_4) | exact ca (ca (ca x0_4)) | (simp; done) | go_simp)
  have x1_5 : w5.cell? ⟨w.heap.size, 1, none⟩ = some (.int .i64 e) := bc hb (by first | exact x1_4 | exact ca x1_4 | exact ca (ca x1_4) | exact ca (ca (ca x1_4)) | (simp; done) | go_simp)
  have x2_5 : w5.cell? ⟨w.heap.size, 2, none⟩ = some (.int .i64 m) := bc hb (by first | exact x2_4 | exact ca x2_4 | exact ca (ca x2_4) | exact ca (ca (ca x2_4)) | (simp; done) | go_simp)
  have x3_5 : w5.cell? ⟨w.heap.size, 3, none⟩ = some (.int .i64 r) := bc hb (by first | exact x3_4 | exact ca x3_4 | exact ca (ca x3_4) | exact ca (ca (ca x3_4)) | (simp; done) | go_simp)
  have xl_5 : w.heap.size < w5.heap.size := cell_lt x0_5
  clear x0_4 x1_4 x2_4 x3_4 xl_4
  have HV1 := Lib.hid (HV1.out.below hb)
  have H3 : Hid (Below w3.heap.size w3 w5) := H3.out.trans (hb.mono hzw4)
  have HBq : Below w.heap.size w w5 := HB.out.trans (hb.mono HB.out.size)
  have HB := Lib.hid HBq
  clear HBq hb
  go_wp2_with fail
  refine (markFlows_any _ _ L A _ (by omega) HV1.out).mono ?_
  rintro ed w6 ⟨rfl, hv1, hb⟩
  have hzw6 := hb.size
  have HV1 := Lib.hid hv1
  have hz3 : w.heap.size < w3.heap.size := by omega
  have H3 : Hid (Below w3.heap.size w3 w6) := H3.out.trans hb
  have HV0 := Lib.hid (HV0.out.below H3.out)
  have x0_5 := (hb.cell (p := ⟨w.heap.size, 0, none⟩) hz3).trans x0_5
  have x1_5 := (hb.cell (p := ⟨w.heap.size, 1, none⟩) hz3).trans x1_5
  have x2_5 := (hb.cell (p := ⟨w.heap.size, 2, none⟩) hz3).trans x2_5
  have x3_5 := (hb.cell (p := ⟨w.heap.size, 3, none⟩) hz3).trans x3_5
  have xl_5 : w.heap.size < w6.heap.size := by omega
  have HBq : Below w.heap.size w w6 := HB.out.trans (hb.mono (by omega))
  have HB := Lib.hid HBq
  clear HBq hb hv1
  go_wp2_with fail
  refine (heldFlows_any _ _ L _ (by omega) HV1.out).mono ?_
  rintro ed w6' ⟨rfl, rfl⟩
  go_wp2_with fail
  refine (toBond_any s e m r _).mono ?_
  rintro ed w7 ⟨rfl, hb⟩
  have hzw7 := hb.size
  have x0_6 : w7.cell? ⟨w.heap.size, 0, none⟩ = some (.int .i64 s) := bc hb (by first | exact x0_5 | exact ca x0_5 | exact ca (ca x0_5) | exact ca (ca (ca x0_5)) | (simp; done) | go_simp)
  have x1_6 : w7.cell? ⟨w.heap.size, 1, none⟩ = some (.int .i64 e) := bc hb (by first | exact x1_5 | exact ca x1_5 | exact ca (ca x1_5) | exact ca (ca (ca x1_5)) | (simp; done) | go_simp)
  have x2_6 : w7.cell? ⟨w.heap.size, 2, none⟩ = some (.int .i64 m) := bc hb (by first | exact x2_5 | exact ca x2_5 | exact ca (ca x2_5) | exact ca (ca (ca x2_5)) | (simp; done) | go_simp)
  have x3_6 : w7.cell? ⟨w.heap.size, 3, none⟩ = some (.int .i64 r) := bc hb (by first | exact x3_5 | exact ca x3_5 | exact ca (ca x3_5) | exact ca (ca (ca x3_5)) | (simp; done) | go_simp)
  have xl_6 : w.heap.size < w7.heap.size := cell_lt x0_6
  clear x0_5 x1_5 x2_5 x3_5 xl_5
  have HV0 := Lib.hid (HV0.out.below hb)
  have HV1 := Lib.hid (HV1.out.below hb)
  have HBq : Below w.heap.size w w7 := HB.out.trans (hb.mono HB.out.size)
  have HB := Lib.hid HBq
  clear HBq hb
  go_wp2_with fail
  refine (HI.out _ (by exact HM.out.fwd (by repeat (first | exact Below.refl _ _ | exact HB.out.mono hM1 | refine Below.drew ?_ | refine bel_drewN _ ?_ | refine Below.alloc ?_ (by first | omega | (simp; done) | (simp; omega)) _ | refine Below.setCell ?_ (by first | (show _ ≤ _; omega) | (simp; done) | (simp; omega)) _)))).mono ?_
  rintro ed w8 ⟨v2, rfl, hv2, hb⟩
  have hzw8 := hb.size
  have x0_7 : w8.cell? ⟨w.heap.size, 0, none⟩ = some (.int .i64 s) := bc hb (by first | exact x0_6 | exact ca x0_6 | exact ca (ca x0_6) | exact ca (ca (ca x0_6)) | (simp; done) | go_simp)
  have x1_7 : w8.cell? ⟨w.heap.size, 1, none⟩ = some (.int .i64 e) := bc hb (by first | exact x1_6 | exact ca x1_6 | exact ca (ca x1_6) | exact ca (ca (ca x1_6)) | (simp; done) | go_simp)
  have x2_7 : w8.cell? ⟨w.heap.size, 2, none⟩ = some (.int .i64 m) := bc hb (by first | exact x2_6 | exact ca x2_6 | exact ca (ca x2_6) | exact ca (ca (ca x2_6)) | (simp; done) | go_simp)
  have x3_7 : w8.cell? ⟨w.heap.size, 3, none⟩ = some (.int .i64 r) := bc hb (by first | exact x3_6 | exact ca x3_6 | exact ca (ca x3_6) | exact ca (ca (ca x3_6)) | (simp; done) | go_simp)
  have xl_7 : w.heap.size < w8.heap.size := cell_lt x0_7
  clear x0_6 x1_6 x2_6 x3_6 xl_6
  have HV2 := Lib.hid hv2
  have HV0 := Lib.hid (HV0.out.below hb)
  have HV1 := Lib.hid (HV1.out.below hb)
  clear hv2
  have HBq : Below w.heap.size w w8 := HB.out.trans (hb.mono HB.out.size)
  have HB := Lib.hid HBq
  clear HBq hb
  go_wp2_with fail
  refine (eqFlows_any _ _ _ _ L A _ (by omega) HV2.out HV0.out).mono ?_
  rintro ed w9 ⟨rfl, hb⟩
  have hzw9 := hb.size
  have x0_8 : w9.cell? ⟨w.heap.size, 0, none⟩ = some (.int .i64 s) := bc hb (by first | exact x0_7 | exact ca x0_7 | exact ca (ca x0_7) | exact ca (ca (ca x0_7)) | (simp; done) | go_simp)
  have x1_8 : w9.cell? ⟨w.heap.size, 1, none⟩ = some (.int .i64 e) := bc hb (by first | exact x1_7 | exact ca x1_7 | exact ca (ca x1_7) | exact ca (ca (ca x1_7)) | (simp; done) | go_simp)
  have x2_8 : w9.cell? ⟨w.heap.size, 2, none⟩ = some (.int .i64 m) := bc hb (by first | exact x2_7 | exact ca x2_7 | exact ca (ca x2_7) | exact ca (ca (ca x2_7)) | (simp; done) | go_simp)
  have x3_8 : w9.cell? ⟨w.heap.size, 3, none⟩ = some (.int .i64 r) := bc hb (by first | exact x3_7 | exact ca x3_7 | exact ca (ca x3_7) | exact ca (ca (ca x3_7)) | (simp; done) | go_simp)
  have xl_8 : w.heap.size < w9.heap.size := cell_lt x0_8
  clear x0_7 x1_7 x2_7 x3_7 xl_7
  have HV1 := Lib.hid (HV1.out.below hb)
  have HBq : Below w.heap.size w w9 := HB.out.trans (hb.mono HB.out.size)
  have HB := Lib.hid HBq
  clear HBq hb
  go_wp2_with fail
  refine (heldFlows_any _ _ L _ (by omega) HV1.out).mono ?_
  rintro ed w9' ⟨rfl, rfl⟩
  go_wp2
  go_ret
  exact ⟨rfl, HB.out⟩
end Go.Proofs.YtoidghdgebdfaaaDoor
