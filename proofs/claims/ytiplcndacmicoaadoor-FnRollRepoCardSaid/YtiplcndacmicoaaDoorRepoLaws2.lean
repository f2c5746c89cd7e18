/- The laws over repos that are rolled. -/
import Derived.Test.YtiplcndacmicoaaDoorRepoLaws
import Derived.Test.YtiplcndacmicoaaDoorRepo2
import Derived.Test.YtiplcndacmicoaaDoorRepoEx
namespace Go.Proofs.YtiplcndacmicoaaDoor
open Go.RowKit
set_option linter.unusedVariables false
/-- the world under a name -/
theorem name_world {P : Program} {c : Code} {Q : Exit → Act → World → Prop} {a : Act} {W : World} (h : ∀ WX, WX = W → Code.wp P c Q a WX) : Code.wp P c Q a W := h W rfl
def RRP (c r a b h : Int) (B : Bool) (w : World) (e : Ending) (w' : World) : Prop :=
  e = .returned (.tuple #[.agg #[.int .i64 c, .int .i64 r, .int .i64 a, .int .i64 b, .int .i64 h], .bool B]) ∧ Below w.heap.size w w'
def RI (f : Nat) (c r a b h t q v0 v1 v2 v3 v4 : Int) (B : Bool) : Prop :=
  ∀ W : World, MD W → Calls Tryd.prog f #[.agg #[.int .i64 c, .int .i64 r, .int .i64 a, .int .i64 b, .int .i64 h], .int .i64 t, .int .i64 q] W (RRP v0 v1 v2 v3 v4 B W)
theorem roll_facts (c r a b h t q : Int) : ∃ (v0 v1 v2 v3 v4 : Int) (B : Bool),
    RI 8 c r a b h t q v0 v1 v2 v3 v4 B ∧ RI 6 c r a b h t q v0 v1 v2 v3 v4 B ∧
    (B = false ∨ (B = true ∧ rpB c r a b h = true ∧ rpB v0 v1 v2 v3 v4 = true ∧ v0 = c + riV c r a b h ∧ v1 = q ∧ v2 = b ∧ v3 = t ∧ v4 = h ∧ -10 ≤ v0 ∧ v0 ≤ 1000000000000000000)) := by
  cases k : rpB c r a b h
  · exact ⟨0, 0, 0, 0, 0, false, fun W hM => rollI_no c r a b h t q W k, fun W hM => rollS_no c r a b h t q W k, .inl rfl⟩
  · obtain ⟨c0, c1⟩ := inR_true.1 (rpB_iff.1 k).1
    have i0 := (itV_bd' (rp_it k)).1
    rw [← riV_yes k] at i0
    obtain ⟨_, i1⟩ := riV_bd c r a b h
    obtain ⟨V, hV⟩ : ∃ V, c + riV c r a b h = V := ⟨_, rfl⟩
    have V0 : -10 ≤ V := by omega
    have V1 : V ≤ 1000000000000000000 := by omega
    cases k2 : rpB V q b t h
    · exact ⟨0, 0, 0, 0, 0, false, fun W hM => rollI_a c r a b h t q V W hM k (Lib.hid hV) V0 V1 (by omega) c1 i0 i1 k2, fun W hM => rollS_a c r a b h t q V W hM k (Lib.hid hV) V0 V1 (by omega) c1 i0 i1 k2, .inl rfl⟩
    · exact ⟨V, q, b, t, h, true, fun W hM => rollI_b c r a b h t q V W hM k (Lib.hid hV) V0 V1 (by omega) c1 i0 i1 k2, fun W hM => rollS_b c r a b h t q V W hM k (Lib.hid hV) V0 V1 (by omega) c1 i0 i1 k2, .inr ⟨rfl, rfl, k2, hV.symm, rfl, rfl, rfl, rfl, V0, V1⟩⟩
theorem eqRepo_same (a b c d f : Int) (w : World) :
    Calls Tryd.prog 9 #[.agg #[.int .i64 a, .int .i64 b, .int .i64 c, .int .i64 d, .int .i64 f], .agg #[.int .i64 a, .int .i64 b, .int .i64 c, .int .i64 d, .int .i64 f]] w fun e w' => e = .returned (.bool true) ∧ Below w.heap.size w w' := by
  go_enter Tryd.func9, Tryd.ntmps9
  have HB := Lib.hid (Below.refl w.heap.size w)
  go_wp2
  go_ret
  exact ⟨rfl, (by repeat (first | exact Below.refl _ _ | exact HB.out | refine Below.drew ?_ | refine bel_drewN _ ?_ | refine Below.alloc ?_ (by first | omega | (simp; done) | (simp; omega)) _ | refine Below.setCell ?_ (by first | (show _ ≤ _; omega) | (simp; done) | (simp; omega)) _))⟩
set_option maxHeartbeats 2000000 in
theorem fnExactRollRepo_walk (c r a b h t q : Int) (w : World) (hM : MD w) (_w0 : True) (_w1 : (Lit.int .i64 t).wf = true) (_w2 : (Lit.int .i64 q).wf = true) :
    Calls Tryd.prog 3 #[.agg #[.int .i64 c, .int .i64 r, .int .i64 a, .int .i64 b, .int .i64 h], .int .i64 t, .int .i64 q] w fun e w' => e = .returned (.bool true) ∧ Below w.heap.size w w' := by
  obtain ⟨v0, v1, v2, v3, v4, B, hi, hs, _⟩ := roll_facts c r a b h t q
  have HI := Lib.hid hi
  have HS := Lib.hid hs
  have hM1 := hM.size
  have HM := Lib.hid hM
  clear hM hi hs _w1 _w2
  go_enter Tryd.func3, Tryd.ntmps3
  have HB := Lib.hid (Below.refl w.heap.size w)
  go_wp2_with fail
  refine (toRepo_any c r a b h _).mono ?_
  rintro e w1 ⟨rfl, hb⟩
  have x0_1 : w1.cell? ⟨w.heap.size, 0, none⟩ = some (.int .i64 c) := bc hb (by first | (simp; done) | go_simp)
  have x1_1 : w1.cell? ⟨w.heap.size, 1, none⟩ = some (.int .i64 r) := bc hb (by first | (simp; done) | go_simp)
  have x2_1 : w1.cell? ⟨w.heap.size, 2, none⟩ = some (.int .i64 a) := bc hb (by first | (simp; done) | go_simp)
  have x3_1 : w1.cell? ⟨w.heap.size, 3, none⟩ = some (.int .i64 b) := bc hb (by first | (simp; done) | go_simp)
  have x4_1 : w1.cell? ⟨w.heap.size, 4, none⟩ = some (.int .i64 h) := bc hb (by first | (simp; done) | go_simp)
  have xl_1 : w.heap.size < w1.heap.size := cell_lt x0_1
  have hszw1 := below_size hb
  try simp at hszw1
  have HBq : Below w.heap.size w w1 := Below.trans (by repeat (first | exact Below.refl _ _ | exact HB.out | refine Below.drew ?_ | refine bel_drewN _ ?_ | refine Below.alloc ?_ (by first | omega | (simp; done) | (simp; omega)) _ | refine Below.setCell ?_ (by first | (show _ ≤ _; omega) | (simp; done) | (simp; omega)) _)) (hb.mono (by first | omega | (simp; done) | (simp; omega)))
  have HB := Lib.hid HBq
  clear HBq hb
  go_wp2_with fail
  refine (HS.out _ (by exact HM.out.fwd (by repeat (first | exact Below.refl _ _ | exact HB.out.mono hM1 | refine Below.drew ?_ | refine bel_drewN _ ?_ | refine Below.alloc ?_ (by first | omega | (simp; done) | (simp; omega)) _ | refine Below.setCell ?_ (by first | (show _ ≤ _; omega) | (simp; done) | (simp; omega)) _)))).mono ?_
  rintro e w2 ⟨rfl, hb⟩
  have x0_2 : w2.cell? ⟨w.heap.size, 0, none⟩ = some (.int .i64 c) := bc hb (by first | exact x0_1 | exact ca x0_1 | exact ca (ca x0_1) | exact ca (ca (ca x0_1)) | (simp; done) | go_simp)
  have x1_2 : w2.cell? ⟨w.heap.size, 1, none⟩ = some (.int .i64 r) := bc hb (by first | exact x1_1 | exact ca x1_1 | exact ca (ca x1_1) | exact ca (ca (ca x1_1)) | (simp; done) | go_simp)
  have x2_2 : w2.cell? ⟨w.heap.size, 2, none⟩ = some (.int .i64 a) := bc hb (by first | exact x2_1 | exact ca x2_1 | exact ca (ca x2_1) | exact ca (ca (ca x2_1)) | (simp; done) | go_simp)
  have x3_2 : w2.cell? ⟨w.heap.size, 3, none⟩ = some (.int .i64 b) := bc hb (by first | exact x3_1 | exact ca x3_1 | exact ca (ca x3_1) | exact ca (ca (ca x3_1)) | (simp; done) | go_simp)
  have x4_2 : w2.cell? ⟨w.heap.size, 4, none⟩ = some (.int .i64 h) := bc hb (by first | exact x4_1 | exact ca x4_1 | exact ca (ca x4_1) | exact ca (ca (ca x4_1)) | (simp; done) | go_simp)
  have xl_2 : w.heap.size < w2.heap.size := cell_lt x0_2
  clear x0_1 x1_1 x2_1 x3_1 x4_1 xl_1
  have hszw2 := below_size hb
  try simp at hszw2
  have HBq : Below w.heap.size w w2 := Below.trans (by repeat (first | exact Below.refl _ _ | exact HB.out | refine Below.drew ?_ | refine bel_drewN _ ?_ | refine Below.alloc ?_ (by first | omega | (simp; done) | (simp; omega)) _ | refine Below.setCell ?_ (by first | (show _ ≤ _; omega) | (simp; done) | (simp; omega)) _)) (hb.mono (by first | omega | (simp; done) | (simp; omega)))
  have HB := Lib.hid HBq
  clear HBq hb
  go_wp2_with fail
  refine (toRepo_any c r a b h _).mono ?_
  rintro e w3 ⟨rfl, hb⟩
  have x0_3 : w3.cell? ⟨w.heap.size, 0, none⟩ = some (.int .i64 c) := bc hb (by first | exact x0_2 | exact ca x0_2 | exact ca (ca x0_2) | exact ca (ca (ca x0_2)) | (simp; done) | go_simp)
  have x1_3 : w3.cell? ⟨w.heap.size, 1, none⟩ = some (.int .i64 r) := bc hb (by first | exact x1_2 | exact ca x1_2 | exact ca (ca x1_2) | exact ca (ca (ca x1_2)) | (simp; done) | go_simp)
  have x2_3 : w3.cell? ⟨w.heap.size, 2, none⟩ = some (.int .i64 a) := bc hb (by first | exact x2_2 | exact ca x2_2 | exact ca (ca x2_2) | exact ca (ca (ca x2_2)) | (simp; done) | go_simp)
  have x3_3 : w3.cell? ⟨w.heap.size, 3, none⟩ = some (.int .i64 b) := bc hb (by first | exact x3_2 | exact ca x3_2 | exact ca (ca x3_2) | exact ca (ca (ca x3_2)) | (simp; done) | go_simp)
  have x4_3 : w3.cell? ⟨w.heap.size, 4, none⟩ = some (.int .i64 h) := bc hb (by first | exact x4_2 | exact ca x4_2 | exact ca (ca x4_2) | exact ca (ca (ca x4_2)) | (simp; done) | go_simp)
  have xl_3 : w.heap.size < w3.heap.size := cell_lt x0_3
  clear x0_2 x1_2 x2_2 x3_2 x4_2 xl_2
  have y0_1 : w3.cell? ⟨w2.heap.size, 0, none⟩ = some (.int .i64 v0) := bc hb (by first | (simp; done) | go_simp)
  have y1_1 : w3.cell? ⟨w2.heap.size, 1, none⟩ = some (.int .i64 v1) := bc hb (by first | (simp; done) | go_simp)
  have y2_1 : w3.cell? ⟨w2.heap.size, 2, none⟩ = some (.int .i64 v2) := bc hb (by first | (simp; done) | go_simp)
  have y3_1 : w3.cell? ⟨w2.heap.size, 3, none⟩ = some (.int .i64 v3) := bc hb (by first | (simp; done) | go_simp)
  have y4_1 : w3.cell? ⟨w2.heap.size, 4, none⟩ = some (.int .i64 v4) := bc hb (by first | (simp; done) | go_simp)
  have yl_1 : w2.heap.size < w3.heap.size := cell_lt y0_1
  have hszw3 := below_size hb
  try simp at hszw3
  have HBq : Below w.heap.size w w3 := Below.trans (by repeat (first | exact Below.refl _ _ | exact HB.out | refine Below.drew ?_ | refine bel_drewN _ ?_ | refine Below.alloc ?_ (by first | omega | (simp; done) | (simp; omega)) _ | refine Below.setCell ?_ (by first | (show _ ≤ _; omega) | (simp; done) | (simp; omega)) _)) (hb.mono (by first | omega | (simp; done) | (simp; omega)))
  have HB := Lib.hid HBq
  clear HBq hb
  go_wp2_with fail
  refine (HI.out _ (by exact HM.out.fwd (by repeat (first | exact Below.refl _ _ | exact HB.out.mono hM1 | refine Below.drew ?_ | refine bel_drewN _ ?_ | refine Below.alloc ?_ (by first | omega | (simp; done) | (simp; omega)) _ | refine Below.setCell ?_ (by first | (show _ ≤ _; omega) | (simp; done) | (simp; omega)) _)))).mono ?_
  rintro e w4 ⟨rfl, hb⟩
  have x0_4 : w4.cell? ⟨w.heap.size, 0, none⟩ = some (.int .i64 c) := bc hb (by first | exact x0_3 | exact ca x0_3 | exact ca (ca x0_3) | exact ca (ca (ca x0_3)) | (simp; done) | go_simp)
  have x1_4 : w4.cell? ⟨w.heap.size, 1, none⟩ = some (.int .i64 r) := bc hb (by first | exact x1_3 | exact ca x1_3 | exact ca (ca x1_3) | exact ca (ca (ca x1_3)) | (simp; done) | go_simp)
  have x2_4 : w4.cell? ⟨w.heap.size, 2, none⟩ = some (.int .i64 a) := bc hb (by first | exact x2_3 | exact ca x2_3 | exact ca (ca x2_3) | exact ca (ca (ca x2_3)) | (simp; done) | go_simp)
  have x3_4 : w4.cell? ⟨w.heap.size, 3, none⟩ = some (.int .i64 b) := bc hb (by first | exact x3_3 | exact ca x3_3 | exact ca (ca x3_3) | exact ca (ca (ca x3_3)) | (simp; done) | go_simp)
  have x4_4 : w4.cell? ⟨w.heap.size, 4, none⟩ = some (.int .i64 h) := bc hb (by first | exact x4_3 | exact ca x4_3 | exact ca (ca x4_3) | exact ca (ca (ca x4_3)) | (simp; done) | go_simp)
  have xl_4 : w.heap.size < w4.heap.size := cell_lt x0_4
  clear x0_3 x1_3 x2_3 x3_3 x4_3 xl_3
  have y0_2 : w4.cell? ⟨w2.heap.size, 0, none⟩ = some (.int .i64 v0) := bc hb (by first | exact y0_1 | exact ca y0_1 | exact ca (ca y0_1) | exact ca (ca (ca y0_1)) | (simp; done) | go_simp)
  have y1_2 : w4.cell? ⟨w2.heap.size, 1, none⟩ = some (.int .i64 v1) := bc hb (by first | exact y1_1 | exact ca y1_1 | exact ca (ca y1_1) | exact ca (ca (ca y1_1)) | (simp; done) | go_simp)
  have y2_2 : w4.cell? ⟨w2.heap.size, 2, none⟩ = some (.int .i64 v2) := bc hb (by first | exact y2_1 | exact ca y2_1 | exact ca (ca y2_1) | exact ca (ca (ca y2_1)) | (simp; done) | go_simp)
  have y3_2 : w4.cell? ⟨w2.heap.size, 3, none⟩ = some (.int .i64 v3) := bc hb (by first | exact y3_1 | exact ca y3_1 | exact ca (ca y3_1) | exact ca (ca (ca y3_1)) | (simp; done) | go_simp)
  have y4_2 : w4.cell? ⟨w2.heap.size, 4, none⟩ = some (.int .i64 v4) := bc hb (by first | exact y4_1 | exact ca y4_1 | exact ca (ca y4_1) | exact ca (ca (ca y4_1)) | (simp; done) | go_simp)
  have yl_2 : w2.heap.size < w4.heap.size := cell_lt y0_2
  clear y0_1 y1_1 y2_1 y3_1 y4_1 yl_1
  have hszw4 := below_size hb
  try simp at hszw4
  have HBq : Below w.heap.size w w4 := Below.trans (by repeat (first | exact Below.refl _ _ | exact HB.out | refine Below.drew ?_ | refine bel_drewN _ ?_ | refine Below.alloc ?_ (by first | omega | (simp; done) | (simp; omega)) _ | refine Below.setCell ?_ (by first | (show _ ≤ _; omega) | (simp; done) | (simp; omega)) _)) (hb.mono (by first | omega | (simp; done) | (simp; omega)))
  have HB := Lib.hid HBq
  clear HBq hb
  go_wp2_with fail
  refine (eqRepo_same v0 v1 v2 v3 v4 _).mono ?_
  rintro e w5 ⟨rfl, hb⟩
  have x0_5 : w5.cell? ⟨w.heap.size, 0, none⟩ = some (.int .i64 c) := bc hb (by first | exact x0_4 | exact ca x0_4 | exact ca (ca x0_4) | exact ca (ca (ca x0_4)) | (simp; done) | go_simp)
  have x1_5 : w5.cell? ⟨w.heap.size, 1, none⟩ = some (.int .i64 r) := bc hb (by first | exact x1_4 | exact ca x1_4 | exact ca (ca x1_4) | exact ca (ca (ca x1_4)) | (simp; done) | go_simp)
  have x2_5 : w5.cell? ⟨w.heap.size, 2, none⟩ = some (.int .i64 a) := bc hb (by first | exact x2_4 | exact ca x2_4 | exact ca (ca x2_4) | exact ca (ca (ca x2_4)) | (simp; done) | go_simp)
  have x3_5 : w5.cell? ⟨w.heap.size, 3, none⟩ = some (.int .i64 b) := bc hb (by first | exact x3_4 | exact ca x3_4 | exact ca (ca x3_4) | exact ca (ca (ca x3_4)) | (simp; done) | go_simp)
  have x4_5 : w5.cell? ⟨w.heap.size, 4, none⟩ = some (.int .i64 h) := bc hb (by first | exact x4_4 | exact ca x4_4 | exact ca (ca x4_4) | exact ca (ca (ca x4_4)) | (simp; done) | go_simp)
  have xl_5 : w.heap.size < w5.heap.size := cell_lt x0_5
  clear x0_4 x1_4 x2_4 x3_4 x4_4 xl_4
  have y0_3 : w5.cell? ⟨w2.heap.size, 0, none⟩ = some (.int .i64 v0) := bc hb (by first | exact y0_2 | exact ca y0_2 | exact ca (ca y0_2) | exact ca (ca (ca y0_2)) | (simp; done) | go_simp)
  have y1_3 : w5.cell? ⟨w2.heap.size, 1, none⟩ = some (.int .i64 v1) := bc hb (by first | exact y1_2 | exact ca y1_2 | exact ca (ca y1_2) | exact ca (ca (ca y1_2)) | (simp; done) | go_simp)
  have y2_3 : w5.cell? ⟨w2.heap.size, 2, none⟩ = some (.int .i64 v2) := bc hb (by first | exact y2_2 | exact ca y2_2 | exact ca (ca y2_2) | exact ca (ca (ca y2_2)) | (simp; done) | go_simp)
  have y3_3 : w5.cell? ⟨w2.heap.size, 3, none⟩ = some (.int .i64 v3) := bc hb (by first | exact y3_2 | exact ca y3_2 | exact ca (ca y3_2) | exact ca (ca (ca y3_2)) | (simp; done) | go_simp)
  have y4_3 : w5.cell? ⟨w2.heap.size, 4, none⟩ = some (.int .i64 v4) := bc hb (by first | exact y4_2 | exact ca y4_2 | exact ca (ca y4_2) | exact ca (ca (ca y4_2)) | (simp; done) | go_simp)
  have yl_3 : w2.heap.size < w5.heap.size := cell_lt y0_3
  clear y0_2 y1_2 y2_2 y3_2 y4_2 yl_2
  have hszw5 := below_size hb
  try simp at hszw5
  have HBq : Below w.heap.size w w5 := Below.trans (by repeat (first | exact Below.refl _ _ | exact HB.out | refine Below.drew ?_ | refine bel_drewN _ ?_ | refine Below.alloc ?_ (by first | omega | (simp; done) | (simp; omega)) _ | refine Below.setCell ?_ (by first | (show _ ≤ _; omega) | (simp; done) | (simp; omega)) _)) (hb.mono (by first | omega | (simp; done) | (simp; omega)))
  have HB := Lib.hid HBq
  clear HBq hb
  cases B
  all_goals
    go_wp2
    go_ret
    exact ⟨ret_bool (by first | rfl | simp), HB.out⟩
end Go.Proofs.YtiplcndacmicoaaDoor
