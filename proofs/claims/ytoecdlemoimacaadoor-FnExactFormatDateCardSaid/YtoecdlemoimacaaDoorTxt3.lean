/- Texts: dates, exactly. -/
import Derived.Test.YtoecdlemoimacaaDoorTxt2
namespace Go.Proofs.YtoecdlemoimacaaDoor
open Go.RowKit
set_option linter.unusedVariables false
theorem fnExactFormatDate_walk (y m d : Int) (w : World) (hT : PT w) (hM : MD w) (_w0 : True) :
    Calls Tryd.prog 7 #[.agg #[.int .i64 y, .int .i64 m, .int .i64 d]] w fun e w' => e = .returned (.bool true) ∧ Below w.heap.size w w' := by
  have hM1 := hM.size
  have HM := Lib.hid hM
  have HT := Lib.hid hT
  have HI := Lib.hid (fun W (hT : PT W) (hM : MD W) => fmtDateI_any y m d W hT hM)
  have HS := Lib.hid (fun W => fmtDateS_any y m d W)
  clear hM hT
  generalize dateTx y m d = S at *
  go_enter Tryd.func7, Tryd.ntmps7
  have HB := Lib.hid (Below.refl w.heap.size w)
  go_wp2_with fail
  refine (toDate_any y m d _).mono ?_
  rintro e w1 ⟨rfl, hb⟩
  have x0_1 : w1.cell? ⟨w.heap.size, 0, none⟩ = some (.int .i64 y) := bc hb (by first | (simp; done) | go_simp)
  have x1_1 : w1.cell? ⟨w.heap.size, 1, none⟩ = some (.int .i64 m) := bc hb (by first | (simp; done) | go_simp)
  have x2_1 : w1.cell? ⟨w.heap.size, 2, none⟩ = some (.int .i64 d) := bc hb (by first | (simp; done) | go_simp)
  have xl_1 : w.heap.size < w1.heap.size := cell_lt x0_1
  have hszw1 := below_size hb
  try simp at hszw1
  have HBq : Below w.heap.size w w1 := Below.trans (by repeat (first | exact Below.refl _ _ | exact HB.out | refine Below.drew ?_ | refine bel_drewN _ ?_ | refine Below.alloc ?_ (by first | omega | (simp; done) | (simp; omega)) _ | refine Below.setCell ?_ (by first | (show _ ≤ _; omega) | (simp; done) | (simp; omega)) _)) (hb.mono (by first | omega | (simp; done) | (simp; omega)))
  have HB := Lib.hid HBq
  clear HBq hb
  go_wp2_with fail
  refine (HS.out _).mono ?_
  rintro e w2 ⟨rfl, hb⟩
  have x0_2 : w2.cell? ⟨w.heap.size, 0, none⟩ = some (.int .i64 y) := bc hb (by first | exact x0_1 | exact ca x0_1 | exact ca (ca x0_1) | exact ca (ca (ca x0_1)) | (simp; done) | go_simp)
  have x1_2 : w2.cell? ⟨w.heap.size, 1, none⟩ = some (.int .i64 m) := bc hb (by first | exact x1_1 | exact ca x1_1 | exact ca (ca x1_1) | exact ca (ca (ca x1_1)) | (simp; done) | go_simp)
  have x2_2 : w2.cell? ⟨w.heap.size, 2, none⟩ = some (.int .i64 d) := bc hb (by first | exact x2_1 | exact ca x2_1 | exact ca (ca x2_1) | exact ca (ca (ca x2_1)) | (simp; done) | go_simp)
  have xl_2 : w.heap.size < w2.heap.size := cell_lt x0_2
  clear x0_1 x1_1 x2_1 xl_1
  have hszw2 := below_size hb
  try simp at hszw2
  have HBq : Below w.heap.size w w2 := Below.trans (by repeat (first | exact Below.refl _ _ | exact HB.out | refine Below.drew ?_ | refine bel_drewN _ ?_ | refine Below.alloc ?_ (by first | omega | (simp; done) | (simp; omega)) _ | refine Below.setCell ?_ (by first | (show _ ≤ _; omega) | (simp; done) | (simp; omega)) _)) (hb.mono (by first | omega | (simp; done) | (simp; omega)))
  have HB := Lib.hid HBq
  clear HBq hb
  go_wp2_with fail
  refine (toDate_any y m d _).mono ?_
  rintro e w3 ⟨rfl, hb⟩
  have x0_3 : w3.cell? ⟨w.heap.size, 0, none⟩ = some (.int .i64 y) := bc hb (by first | exact x0_2 | exact ca x0_2 | exact ca (ca x0_2) | exact ca (ca (ca x0_2)) | (simp; done) | go_simp)
  have x1_3 : w3.cell? ⟨w.heap.size, 1, none⟩ = some (.int .i64 m) := bc hb (by first | exact x1_2 | exact ca x1_2 | exact ca (ca x1_2) | exact ca (ca (ca x1_2)) | (simp; done) | go_simp)
  have x2_3 : w3.cell? ⟨w.heap.size, 2, none⟩ = some (.int .i64 d) := bc hb (by first | exact x2_2 | exact ca x2_2 | exact ca (ca x2_2) | exact ca (ca (ca x2_2)) | (simp; done) | go_simp)
  have xl_3 : w.heap.size < w3.heap.size := cell_lt x0_3
  clear x0_2 x1_2 x2_2 xl_2
  have hszw3 := below_size hb
  try simp at hszw3
  have HBq : Below w.heap.size w w3 := Below.trans (by repeat (first | exact Below.refl _ _ | exact HB.out | refine Below.drew ?_ | refine bel_drewN _ ?_ | refine Below.alloc ?_ (by first | omega | (simp; done) | (simp; omega)) _ | refine Below.setCell ?_ (by first | (show _ ≤ _; omega) | (simp; done) | (simp; omega)) _)) (hb.mono (by first | omega | (simp; done) | (simp; omega)))
  have HB := Lib.hid HBq
  clear HBq hb
  have HT3 := Lib.hid (HT.out.below HB.out)
  go_wp2_with fail
  refine (HI.out _ HT3.out (by exact HM.out.fwd (by repeat (first | exact Below.refl _ _ | exact HB.out.mono hM1 | refine Below.drew ?_ | refine bel_drewN _ ?_ | refine Below.alloc ?_ (by first | omega | (simp; done) | (simp; omega)) _ | refine Below.setCell ?_ (by first | (show _ ≤ _; omega) | (simp; done) | (simp; omega)) _)))).mono ?_
  rintro e w4 ⟨rfl, hb⟩
  have x0_4 : w4.cell? ⟨w.heap.size, 0, none⟩ = some (.int .i64 y) := bc hb (by first | exact x0_3 | exact ca x0_3 | exact ca (ca x0_3) | exact ca (ca (ca x0_3)) | (simp; done) | go_simp)
  have x1_4 : w4.cell? ⟨w.heap.size, 1, none⟩ = some (.int .i64 m) := bc hb (by first | exact x1_3 | exact ca x1_3 | exact ca (ca x1_3) | exact ca (ca (ca x1_3)) | (simp; done) | go_simp)
  have x2_4 : w4.cell? ⟨w.heap.size, 2, none⟩ = some (.int .i64 d) := bc hb (by first | exact x2_3 | exact ca x2_3 | exact ca (ca x2_3) | exact ca (ca (ca x2_3)) | (simp; done) | go_simp)
  have xl_4 : w.heap.size < w4.heap.size := cell_lt x0_4
  clear x0_3 x1_3 x2_3 xl_3
  have hszw4 := below_size hb
  try simp at hszw4
  have HBq : Below w.heap.size w w4 := Below.trans (by repeat (first | exact Below.refl _ _ | exact HB.out | refine Below.drew ?_ | refine bel_drewN _ ?_ | refine Below.alloc ?_ (by first | omega | (simp; done) | (simp; omega)) _ | refine Below.setCell ?_ (by first | (show _ ≤ _; omega) | (simp; done) | (simp; omega)) _)) (hb.mono (by first | omega | (simp; done) | (simp; omega)))
  have HB := Lib.hid HBq
  clear HBq hb
  go_wp2
  go_ret
  exact ⟨ret_bool (by first | rfl | simp), HB.out⟩
end Go.Proofs.YtoecdlemoimacaaDoor
