/- Texts: dates. -/
import Derived.Test.YtoecdlemoimacaaDoorTxt1
namespace Go.Proofs.YtoecdlemoimacaaDoor
open Go.RowKit
set_option linter.unusedVariables false
/-- the world under a name -/
theorem name_world2 {P : Program} {c : Code} {Q : Exit → Act → World → Prop} {a : Act} {W : World} (h : ∀ WX, WX = W → Code.wp P c Q a WX) : Code.wp P c Q a W := h W rfl
/-- the text of a date -/
def dtx (y m d : Nat) : List UInt8 := Lib.decDigits y ++ [45] ++ twoD m ++ [45] ++ twoD d
def dateTx (y m d : Int) : List UInt8 := if dtB y m d = true then dtx y.toNat m.toNat d.toNat else []
theorem dtB_bd {y m d : Int} (h : dtB y m d = true) : (1990 ≤ y ∧ y ≤ 2089) ∧ (1 ≤ m ∧ m ≤ 12) ∧ (1 ≤ d ∧ d ≤ 31) := by
  unfold dtB at h
  rw [Bool.and_eq_true, Bool.and_eq_true, inR_true, inR_true, inR_true] at h
  have := dim_bd (y := y) (m := m)
  omega
theorem cats (D M T : List UInt8) (hD : D.length ≤ 21) (hM : M.length ≤ 22) (hT : T.length ≤ 22) :
    (∀ W, (Op.stringOp .add ⟨D.toArray⟩ { data := #[45] }).run Tryd.prog W = .ok (.string ⟨(D ++ [45]).toArray⟩) W) ∧
    (∀ W, (Op.stringOp .add ⟨(D ++ [45]).toArray⟩ ⟨M.toArray⟩).run Tryd.prog W = .ok (.string ⟨(D ++ [45] ++ M).toArray⟩) W) ∧
    (∀ W, (Op.stringOp .add ⟨(D ++ [45] ++ M).toArray⟩ { data := #[45] }).run Tryd.prog W = .ok (.string ⟨(D ++ [45] ++ M ++ [45]).toArray⟩) W) ∧
    (∀ W, (Op.stringOp .add ⟨(D ++ [45] ++ M ++ [45]).toArray⟩ ⟨T.toArray⟩).run Tryd.prog W = .ok (.string ⟨(D ++ [45] ++ M ++ [45] ++ T).toArray⟩) W) :=
  ⟨fun W => cat_lit D [45] (by omega) (by decide) W, fun W => cat_lit _ M (by simp; omega) (by omega) W, fun W => cat_lit _ [45] (by simp; omega) (by decide) W, fun W => cat_lit _ T (by simp; omega) (by omega) W⟩
set_option maxHeartbeats 2000000 in
theorem fmtDateI_any (y m d : Int) (w : World) (hT : PT w) (hM : MD w) :
    Calls Tryd.prog 17 #[.agg #[.int .i64 y, .int .i64 m, .int .i64 d]] w fun e w' => e = .returned (.string ⟨(dateTx y m d).toArray⟩) ∧ Below w.heap.size w w' := by
  have hM1 := hM.size
  have HM := Lib.hid hM
  have HT := Lib.hid hT
  clear hM hT
  unfold dateTx
  cases h : dtB y m d
  · have HV := Lib.hid (fun W (k : MD W) => validDateI_any y m d W k)
    simp only [h] at HV
    rw [if_neg (by simp)]
    go_enter Tryd.func17, Tryd.ntmps17
    have HB := Lib.hid (Below.refl w.heap.size w)
    go_wp2_with fail
    refine (HV.out _ (by exact HM.out.fwd (by repeat (first | exact Below.refl _ _ | exact HB.out.mono hM1 | refine Below.drew ?_ | refine bel_drewN _ ?_ | refine Below.alloc ?_ (by first | omega | (simp; done) | (simp; omega)) _ | refine Below.setCell ?_ (by first | (show _ ≤ _; omega) | (simp; done) | (simp; omega)) _)))).mono ?_
    rintro e w1 ⟨rfl, hb⟩
    have x0_1 : w1.cell? ⟨w.heap.size, 0, none⟩ = some (.int .i64 y) := bc hb (by first | (simp; done) | go_simp)
    have x1_1 : w1.cell? ⟨w.heap.size, 1, none⟩ = some (.int .i64 m) := bc hb (by first | (simp; done) | go_simp)
    have x2_1 : w1.cell? ⟨w.heap.size, 2, none⟩ = some (.int .i64 d) := bc hb (by first | (simp; done) | go_simp)
    have xl_1 : w.heap.size < w1.heap.size := cell_lt x0_1
    have hszw1 := below_size hb
    try simp at hszw1
    have HBq : Below w.heap.size w w1 := Below.trans (by repeat (first | exact Below.refl _ _ | exact HB.out | refine Below.drew ?_ | refine bel_drewN _ ?_ | refine Below.alloc ?_ (by first | omega | (simp; done) | (simp; omega)) _ | refine Below.setCell ?_ (by first | (show _ ≤ _; omega) | (simp; done) | (simp; omega)) _)) (hb.mono (by first | omega | (simp; done) | (simp; omega)))
    have HB := Lib.hid HBq
    clear HBq hb
    go_wp2
    go_ret
    exact ⟨rfl, HB.out⟩
  · have HV := Lib.hid (fun W (k : MD W) => validDateI_any y m d W k)
    simp only [h] at HV
    obtain ⟨⟨y0, y1⟩, ⟨m0, m1⟩, ⟨d0, d1⟩⟩ := dtB_bd h
    rw [if_pos rfl]
    obtain ⟨yn, rfl⟩ : ∃ n : Nat, y = n := ⟨y.toNat, by omega⟩
    obtain ⟨mn, rfl⟩ : ∃ n : Nat, m = n := ⟨m.toNat, by omega⟩
    obtain ⟨dn, rfl⟩ : ∃ n : Nat, d = n := ⟨d.toNat, by omega⟩
    simp only [Int.toNat_natCast]
    unfold dtx
    have HD := Lib.hid (fun W (k : PT W) => itoa_any yn W (by omega) k)
    have HMo := Lib.hid (fun W (k : PT W) => twoI_any mn W (by omega) k)
    have HDa := Lib.hid (fun W (k : PT W) => twoI_any dn W (by omega) k)
    obtain ⟨c1, c2, c3, c4⟩ := cats (Lib.decDigits yn) (twoD mn) (twoD dn) (dec_len _ (by omega)) (twoD_len _ (by omega)) (twoD_len _ (by omega))
    generalize Lib.decDigits yn ++ [45] ++ twoD mn ++ [45] ++ twoD dn = S4 at *
    generalize Lib.decDigits yn ++ [45] ++ twoD mn ++ [45] = S3 at *
    generalize Lib.decDigits yn ++ [45] ++ twoD mn = S2 at *
    generalize Lib.decDigits yn ++ [45] = S1 at *
    generalize Lib.decDigits yn = S0 at *
    generalize twoD mn = M0 at *
    generalize twoD dn = D0 at *
    generalize (yn : Int) = Y at *
    generalize (mn : Int) = Mo at *
    generalize (dn : Int) = Da at *
    clear h y0 y1 m0 m1 d0 d1
    go_enter Tryd.func17, Tryd.ntmps17
    have HB := Lib.hid (Below.refl w.heap.size w)
    go_wp2_with fail
    refine (HV.out _ (by exact HM.out.fwd (by repeat (first | exact Below.refl _ _ | exact HB.out.mono hM1 | refine Below.drew ?_ | refine bel_drewN _ ?_ | refine Below.alloc ?_ (by first | omega | (simp; done) | (simp; omega)) _ | refine Below.setCell ?_ (by first | (show _ ≤ _; omega) | (simp; done) | (simp; omega)) _)))).mono ?_
    rintro e w1 ⟨rfl, hb⟩
    have x0_1 : w1.cell? ⟨w.heap.size, 0, none⟩ = some (.int .i64 Y) := bc hb (by first | (simp; done) | go_simp)
    have x1_1 : w1.cell? ⟨w.heap.size, 1, none⟩ = some (.int .i64 Mo) := bc hb (by first | (simp; done) | go_simp)
    have x2_1 : w1.cell? ⟨w.heap.size, 2, none⟩ = some (.int .i64 Da) := bc hb (by first | (simp; done) | go_simp)
    have xl_1 : w.heap.size < w1.heap.size := cell_lt x0_1
    have hszw1 := below_size hb
    try simp at hszw1
    have HBq : Below w.heap.size w w1 := Below.trans (by repeat (first | exact Below.refl _ _ | exact HB.out | refine Below.drew ?_ | refine bel_drewN _ ?_ | refine Below.alloc ?_ (by first | omega | (simp; done) | (simp; omega)) _ | refine Below.setCell ?_ (by first | (show _ ≤ _; omega) | (simp; done) | (simp; omega)) _)) (hb.mono (by first | omega | (simp; done) | (simp; omega)))
    have HB := Lib.hid HBq
    clear HBq hb
    go_wp2_with fail
    have HT1 : Hid (PT w1) := Lib.hid (HT.out.below HB.out)
    refine region_calm (by kernel_rfl) (by kernel_rfl) ?_
    repeat (first | (refine calm_skip (by rfl) (fun K hK => ?_); go_simp; refine hK _ ?_; clear hK K) | (apply calm_want; rfl; (intro w' hw'; unfold Oper.quietAt; (have q0 := bc hw' x0_1; have q1 := bc hw' x1_1; have q2 := bc hw' x2_1); go_simp; (first | rfl | with_reducible exact calm_call (HD.out _ (HT1.out.below hw')) hw' | with_reducible exact calm_call (HMo.out _ (HT1.out.below hw')) hw' | with_reducible exact calm_call (HDa.out _ (HT1.out.below hw')) hw')); intro K hK; go_simp; refine hK _ ?_; clear hK K))
    refine wpQuiet_nil ?_
    intro W' hW'
    have HW' := Lib.hid hW'
    clear hW'
    go_wp2
    go_ret
    exact ⟨rfl, HB.out.trans (HW'.out.mono HB.out.size)⟩
set_option maxHeartbeats 2000000 in
theorem fmtDateS0_any (yn mn dn : Nat) (w : World) (y1 : yn ≤ 3000) (m1 : mn ≤ 3000) (d1 : dn ≤ 3000) :
    Calls Tryd.prog 38 #[.agg #[.int .i64 yn, .int .i64 mn, .int .i64 dn]] w fun e w' => e = .returned (.string ⟨(dtx yn mn dn).toArray⟩) ∧ Below w.heap.size w w' := by
  unfold dtx
  have HD := Lib.hid (fun W => fmtInt_any yn (by omega) W)
  have HMo := Lib.hid (fun W => twoS_any mn W (by omega))
  have HDa := Lib.hid (fun W => twoS_any dn W (by omega))
  obtain ⟨c1, c2, c3, c4⟩ := cats (Lib.decDigits yn) (twoD mn) (twoD dn) (dec_len _ (by omega)) (twoD_len _ (by omega)) (twoD_len _ (by omega))
  generalize Lib.decDigits yn ++ [45] ++ twoD mn ++ [45] ++ twoD dn = S4 at *
  generalize Lib.decDigits yn ++ [45] ++ twoD mn ++ [45] = S3 at *
  generalize Lib.decDigits yn ++ [45] ++ twoD mn = S2 at *
  generalize Lib.decDigits yn ++ [45] = S1 at *
  generalize Lib.decDigits yn = S0 at *
  generalize twoD mn = M0 at *
  generalize twoD dn = D0 at *
  generalize (yn : Int) = Y at *
  generalize (mn : Int) = Mo at *
  generalize (dn : Int) = Da at *
  clear y1 m1 d1
  go_enter Tryd.func38, Tryd.ntmps38
  have HB := Lib.hid (Below.refl w.heap.size w)
  go_wp2_with fail
  refine name_world2 ?_
  intro WX hWX
  have x0 : WX.cell? ⟨w.heap.size, 0, none⟩ = some (.int .i64 Y) := by rw [hWX]; simp
  have x1 : WX.cell? ⟨w.heap.size, 1, none⟩ = some (.int .i64 Mo) := by rw [hWX]; simp
  have x2 : WX.cell? ⟨w.heap.size, 2, none⟩ = some (.int .i64 Da) := by rw [hWX]; simp
  have hbx : Below w.heap.size w WX := by rw [hWX]; exact (Below.refl _ _).alloc (Nat.le_refl _) _
  have HBX := Lib.hid hbx
  clear hWX hbx
  refine region_calm (by kernel_rfl) (by kernel_rfl) ?_
  repeat (first | (refine calm_skip (by rfl) (fun K hK => ?_); go_simp; refine hK _ ?_; clear hK K) | (apply calm_want; rfl; (intro w' hw'; unfold Oper.quietAt; (have q0 := bc hw' x0; have q1 := bc hw' x1; have q2 := bc hw' x2); go_simp; (first | rfl | with_reducible exact calm_call (HD.out _) hw' | with_reducible exact calm_call (HMo.out _) hw' | with_reducible exact calm_call (HDa.out _) hw')); intro K hK; go_simp; refine hK _ ?_; clear hK K))
  refine wpQuiet_nil ?_
  intro W' hW'
  have HW' := Lib.hid hW'
  clear hW'
  go_wp2
  go_ret
  exact ⟨rfl, HBX.out.trans (HW'.out.mono HBX.out.size)⟩
theorem fmtDateS_any (y m d : Int) (w : World) :
    Calls Tryd.prog 15 #[.agg #[.int .i64 y, .int .i64 m, .int .i64 d]] w fun e w' => e = .returned (.string ⟨(dateTx y m d).toArray⟩) ∧ Below w.heap.size w w' := by
  have HV := Lib.hid (fun W => validDateS_any y m d W)
  unfold dateTx
  cases h : dtB y m d
  · simp only [h] at HV
    rw [if_neg (by simp)]
    go_enter Tryd.func15, Tryd.ntmps15
    have HB := Lib.hid (Below.refl w.heap.size w)
    go_wp2_with fail
    refine (HV.out _).mono ?_
    rintro e w1 ⟨rfl, hb⟩
    have x0_1 : w1.cell? ⟨w.heap.size, 0, none⟩ = some (.int .i64 y) := bc hb (by first | (simp; done) | go_simp)
    have x1_1 : w1.cell? ⟨w.heap.size, 1, none⟩ = some (.int .i64 m) := bc hb (by first | (simp; done) | go_simp)
    have x2_1 : w1.cell? ⟨w.heap.size, 2, none⟩ = some (.int .i64 d) := bc hb (by first | (simp; done) | go_simp)
    have xl_1 : w.heap.size < w1.heap.size := cell_lt x0_1
    have hszw1 := below_size hb
    try simp at hszw1
    have HBq : Below w.heap.size w w1 := Below.trans (by repeat (first | exact Below.refl _ _ | exact HB.out | refine Below.drew ?_ | refine bel_drewN _ ?_ | refine Below.alloc ?_ (by first | omega | (simp; done) | (simp; omega)) _ | refine Below.setCell ?_ (by first | (show _ ≤ _; omega) | (simp; done) | (simp; omega)) _)) (hb.mono (by first | omega | (simp; done) | (simp; omega)))
    have HB := Lib.hid HBq
    clear HBq hb
    go_wp2
    go_ret
    exact ⟨rfl, HB.out⟩
  · simp only [h] at HV
    obtain ⟨⟨y0, y1⟩, ⟨m0, m1⟩, ⟨d0, d1⟩⟩ := dtB_bd h
    rw [if_pos rfl]
    obtain ⟨yn, rfl⟩ : ∃ n : Nat, y = n := ⟨y.toNat, by omega⟩
    obtain ⟨mn, rfl⟩ : ∃ n : Nat, m = n := ⟨m.toNat, by omega⟩
    obtain ⟨dn, rfl⟩ : ∃ n : Nat, d = n := ⟨d.toNat, by omega⟩
    simp only [Int.toNat_natCast]
    have HF := Lib.hid (fun W => fmtDateS0_any yn mn dn W (by omega) (by omega) (by omega))
    generalize dtx yn mn dn = S at *
    generalize (yn : Int) = Y at *
    generalize (mn : Int) = Mo at *
    generalize (dn : Int) = Da at *
    clear h y0 y1 m0 m1 d0 d1
    go_enter Tryd.func15, Tryd.ntmps15
    have HB := Lib.hid (Below.refl w.heap.size w)
    go_wp2_with fail
    refine (HV.out _).mono ?_
    rintro e w1 ⟨rfl, hb⟩
    have x0_1 : w1.cell? ⟨w.heap.size, 0, none⟩ = some (.int .i64 Y) := bc hb (by first | (simp; done) | go_simp)
    have x1_1 : w1.cell? ⟨w.heap.size, 1, none⟩ = some (.int .i64 Mo) := bc hb (by first | (simp; done) | go_simp)
    have x2_1 : w1.cell? ⟨w.heap.size, 2, none⟩ = some (.int .i64 Da) := bc hb (by first | (simp; done) | go_simp)
    have xl_1 : w.heap.size < w1.heap.size := cell_lt x0_1
    have hszw1 := below_size hb
    try simp at hszw1
    have HBq : Below w.heap.size w w1 := Below.trans (by repeat (first | exact Below.refl _ _ | exact HB.out | refine Below.drew ?_ | refine bel_drewN _ ?_ | refine Below.alloc ?_ (by first | omega | (simp; done) | (simp; omega)) _ | refine Below.setCell ?_ (by first | (show _ ≤ _; omega) | (simp; done) | (simp; omega)) _)) (hb.mono (by first | omega | (simp; done) | (simp; omega)))
    have HB := Lib.hid HBq
    clear HBq hb
    go_wp2_with fail
    refine (HF.out _).mono ?_
    rintro e w2 ⟨rfl, hb⟩
    have x0_2 : w2.cell? ⟨w.heap.size, 0, none⟩ = some (.int .i64 Y) := bc hb (by first | exact x0_1 | exact ca x0_1 | exact ca (ca x0_1) | exact ca (ca (ca x0_1)) | (simp; done) | go_simp)
    have x1_2 : w2.cell? ⟨w.heap.size, 1, none⟩ = some (.int .i64 Mo) := bc hb (by first | exact x1_1 | exact ca x1_1 | exact ca (ca x1_1) | exact ca (ca (ca x1_1)) | (simp; done) | go_simp)
    have x2_2 : w2.cell? ⟨w.heap.size, 2, none⟩ = some (.int .i64 Da) := bc hb (by first | exact x2_1 | exact ca x2_1 | exact ca (ca x2_1) | exact ca (ca (ca x2_1)) | (simp; done) | go_simp)
    have xl_2 : w.heap.size < w2.heap.size := cell_lt x0_2
    clear x0_1 x1_1 x2_1 xl_1
    have hszw2 := below_size hb
    try simp at hszw2
    have HBq : Below w.heap.size w w2 := Below.trans (by repeat (first | exact Below.refl _ _ | exact HB.out | refine Below.drew ?_ | refine bel_drewN _ ?_ | refine Below.alloc ?_ (by first | omega | (simp; done) | (simp; omega)) _ | refine Below.setCell ?_ (by first | (show _ ≤ _; omega) | (simp; done) | (simp; omega)) _)) (hb.mono (by first | omega | (simp; done) | (simp; omega)))
    have HB := Lib.hid HBq
    clear HBq hb
    go_wp2
    go_ret
    exact ⟨rfl, HB.out⟩
end Go.Proofs.YtoecdlemoimacaaDoor
