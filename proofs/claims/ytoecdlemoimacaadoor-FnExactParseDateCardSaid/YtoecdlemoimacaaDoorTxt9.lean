/- Reading dates out of texts: the reference's ParseDate, and the law. -/
import Derived.Test.YtoecdlemoimacaaDoorTxt8
namespace Go.Proofs.YtoecdlemoimacaaDoor
open Go.RowKit
set_option linter.unusedVariables false
set_option maxHeartbeats 4000000 in
theorem parseS_any (l : List UInt8) (w : World) (hl : l.length ≤ 1048576) :
    Calls Tryd.prog 18 #[.string ⟨l.toArray⟩] w (PDP l (spOk l) (sY l) (sM l) (sD l) w) := by
  have hY0 := DA.new w 0 0 0
  by_cases h10 : l.length = 10
  · have i10 : ((l.length : Int) != 10) = false := by simp; omega
    have HN1 := Lib.hid (fun W => number_any l 0 4 4 W hl (by omega) (by omega) rfl)
    have HN2 := Lib.hid (fun W => number_any l 5 2 7 W hl (by omega) (by omega) rfl)
    have HN3 := Lib.hid (fun W => number_any l 8 2 10 W hl (by omega) (by omega) rfl)
    have e1 : nmF l 4 0 0 = sY l := rfl
    have e2 : nmF l 2 5 0 = sM l := rfl
    have e3 : nmF l 2 8 0 = sD l := rfl
    rw [e1] at HN1
    rw [e2] at HN2
    rw [e3] at HN3
    clear e1 e2 e3
    obtain ⟨B, hB⟩ : ∃ B, B = spOk l := ⟨_, rfl⟩
    have hI1 : dtB (sY l) (sM l) (sD l) = false → B = false := fun h => by rw [hB]; unfold spOk; rw [h]; simp
    have hI2 : dtB (sY l) (sM l) (sD l) = true → dtx (sY l).toNat (sM l).toNat (sD l).toNat = l → B = true := fun h k => by rw [hB]; unfold spOk; rw [h, k, h10]; simp
    have hI3 : ¬ dtx (sY l).toNat (sM l).toNat (sD l).toNat = l → B = false := fun k => by rw [hB]; unfold spOk; simp [k]
    rw [← hB]
    clear hB
    have HI1 := Lib.hid hI1
    have HI2 := Lib.hid hI2
    have HI3 := Lib.hid hI3
    have HV := Lib.hid (fun W => validDateS_any (sY l) (sM l) (sD l) W)
    clear hI1 hI2 hI3
    generalize sY l = Y at *
    generalize sM l = M at *
    generalize sD l = D at *
    have HY0 := Lib.hid (hY0.alloc (.cells #[.int .i64 Y, .int .i64 M, .int .i64 D] 33))
    have hD0 := DA.new (w.alloc (.cells #[.int .i64 0, .int .i64 0, .int .i64 0] 33)) Y M D
    rw [show (w.alloc (.cells #[.int .i64 0, .int .i64 0, .int .i64 0] 33)).heap.size = w.heap.size + 1 by simp] at hD0
    have HD0 := Lib.hid hD0
    have HB0 : Hid (Below w.heap.size w ((w.alloc (.cells #[.int .i64 0, .int .i64 0, .int .i64 0] 33)).alloc (.cells #[.int .i64 Y, .int .i64 M, .int .i64 D] 33))) := Lib.hid (((Below.refl _ _).alloc (Nat.le_refl _) _).alloc (by simp) _)
    clear hY0 hD0
    cases hv : dtB Y M D
    · have hBf := HI1.out hv
      subst hBf
      rw [hv] at HV
      go_enter Tryd.func18, Tryd.ntmps18
      go_wp2_with fail
      refine (HN1.out _).mono ?_
      rintro e v1 ⟨rfl, rfl⟩
      go_wp2_with fail
      refine (HN2.out _).mono ?_
      rintro e v2 ⟨rfl, rfl⟩
      go_wp2_with fail
      refine (HN3.out _).mono ?_
      rintro e v3 ⟨rfl, rfl⟩
      go_wp2_with fail
      refine (HV.out _).mono ?_
      rintro e v4 ⟨rfl, hb⟩
      have y2 := HY0.out.fwd hb (by simp; omega)
      have HB2 := Lib.hid (HB0.out.trans (hb.mono (by simp; omega)))
      obtain ⟨f0, f1, f2⟩ := y2.free
      obtain ⟨q0, q1, q2⟩ := y2.cell
      have hy := Lib.hid (y2.set3 0 0 0)
      clear hb y2
      go_wp2
      exact bodyPost_ret (resDt Tryd.results18 (by rfl) rfl hy.out) rfl ⟨rfl, ((HB2.out.setCell (Nat.le_refl _) _).setCell (Nat.le_refl _) _).setCell (Nat.le_refl _) _⟩
    · obtain ⟨⟨y0, y1⟩, ⟨m0, m1⟩, ⟨d0, d1⟩⟩ := dtB_bd hv
      have HF := Lib.hid (fun W => fmtDateS0_any Y.toNat M.toNat D.toNat W (by omega) (by omega) (by omega))
      rw [show ((Y.toNat : Nat) : Int) = Y by omega, show ((M.toNat : Nat) : Int) = M by omega, show ((D.toNat : Nat) : Int) = D by omega] at HF
      rw [hv] at HV
      have HVV := Lib.hid hv
      clear y0 y1 m0 m1 d0 d1 hv
      generalize dtx Y.toNat M.toNat D.toNat = S at *
      go_enter Tryd.func18, Tryd.ntmps18
      go_wp2_with fail
      refine (HN1.out _).mono ?_
      rintro e v1 ⟨rfl, rfl⟩
      go_wp2_with fail
      refine (HN2.out _).mono ?_
      rintro e v2 ⟨rfl, rfl⟩
      go_wp2_with fail
      refine (HN3.out _).mono ?_
      rintro e v3 ⟨rfl, rfl⟩
      go_wp2_with fail
      refine (HV.out _).mono ?_
      rintro e v4 ⟨rfl, hb⟩
      have y2 := HY0.out.fwd hb (by simp; omega)
      have z2 := HD0.out.fwd hb (by simp)
      have HB2 := Lib.hid (HB0.out.trans (hb.mono (by simp; omega)))
      have hs2 : w.heap.size + 1 + 1 ≤ v4.heap.size := by have := hb.size; simpa using this
      obtain ⟨r0, r1, r2⟩ := z2.cell
      have Y2 := Lib.hid y2
      have Z2 := Lib.hid z2
      clear hb y2 z2
      go_wp2_with fail
      refine (HF.out _).mono ?_
      rintro e v5 ⟨rfl, hb⟩
      have y3 := Y2.out.fwd hb (by omega)
      have z3 := Z2.out.fwd hb (by omega)
      have HB3 := Lib.hid (HB2.out.trans (hb.mono (by omega)))
      clear r0 r1 r2
      obtain ⟨r0, r1, r2⟩ := z3.cell
      obtain ⟨f0, f1, f2⟩ := y3.free
      obtain ⟨q0, q1, q2⟩ := y3.cell
      have Y3 := Lib.hid y3
      clear hb y3 z3
      by_cases h1 : S = l
      · have hBt := HI2.out HVV.out h1
        subst hBt
        subst h1
        have hy := Lib.hid (Y3.out.set3 Y M D)
        go_wp2
        exact bodyPost_ret (resDt Tryd.results18 (by rfl) rfl hy.out) rfl ⟨rfl, ((HB3.out.setCell (Nat.le_refl _) _).setCell (Nat.le_refl _) _).setCell (Nat.le_refl _) _⟩
      · have hBf := HI3.out h1
        subst hBf
        have hb1 : (S == l) = false := by simpa using h1
        have h1' : ¬ l = S := fun e => h1 e.symm
        have hy := Lib.hid (Y3.out.set3 0 0 0)
        go_wp2
        all_goals first
          | exact bodyPost_ret (resDt Tryd.results18 (by rfl) rfl hy.out) rfl ⟨rfl, ((HB3.out.setCell (Nat.le_refl _) _).setCell (Nat.le_refl _) _).setCell (Nat.le_refl _) _⟩
          | contradiction
          | (exfalso; simp_all; done)
  · have i10 : ((l.length : Int) != 10) = true := by simp; omega
    have hBf : spOk l = false := by unfold spOk; simp [h10]
    rw [hBf]
    clear hY0
    go_enter Tryd.func18, Tryd.ntmps18
    go_wp2
    exact bodyPost_ret (v := .tuple #[.agg #[.int .i64 0, .int .i64 0, .int .i64 0], .bool false]) (by simp [results, Tryd.results18, go_sem]) rfl ⟨rfl, (Below.refl _ _).alloc (Nat.le_refl _) _⟩
theorem eqDateSame (y m d : Int) (w : World) :
    Calls Tryd.prog 20 #[.agg #[.int .i64 y, .int .i64 m, .int .i64 d], .agg #[.int .i64 y, .int .i64 m, .int .i64 d]] w fun e w' => e = .returned (.bool true) ∧ Below w.heap.size w w' := by
  go_enter Tryd.func20, Tryd.ntmps20
  have HB := Lib.hid (Below.refl w.heap.size w)
  go_wp2
  go_ret
  exact ⟨rfl, (by repeat (first | exact Below.refl _ _ | exact HB.out | refine Below.drew ?_ | refine bel_drewN _ ?_ | refine Below.alloc ?_ (by first | omega | (simp; done) | (simp; omega)) _ | refine Below.setCell ?_ (by first | (show _ ≤ _; omega) | (simp; done) | (simp; omega)) _))⟩
set_option maxHeartbeats 2000000 in
theorem fnExactParseDate_walk (s : ByteArray) (w : World) (hT : PT w) (hM : MD w) (hs : s.size ≤ maxLen) :
    Calls Tryd.prog 8 #[.string s] w fun e w' => e = .returned (.bool true) ∧ Below w.heap.size w w' := by
  obtain ⟨l, rfl⟩ : ∃ l : List UInt8, s = ⟨l.toArray⟩ := ⟨s.data.toList, by cases s; simp⟩
  rw [size_lit] at hs
  unfold maxLen at hs
  by_cases hbig : 1048576 < l.length
  · have i1 : (1048576 : Int) < (l.length : Int) := by omega
    go_enter Tryd.func8, Tryd.ntmps8
    go_wp2
    go_ret
    exact ⟨rfl, Below.refl _ _⟩
  have hl : l.length ≤ 1048576 := by omega
  have i1 : ¬ (1048576 : Int) < (l.length : Int) := by omega
  have hM1 := hM.size
  have HM := Lib.hid hM
  have HT := Lib.hid hT
  obtain ⟨p1, p2⟩ := parse_same l
  have HI := Lib.hid (fun W (a : PT W) (b : MD W) => parseI_any l W hl a b)
  have HS := Lib.hid (fun W => parseS_any l W hl)
  unfold PDP at HI HS
  have q1 : pv (imOk l) (cY l) = pv (spOk l) (sY l) ∧ pv (imOk l) (cM l) = pv (spOk l) (sM l) ∧ pv (imOk l) (cD l) = pv (spOk l) (sD l) := by
    rw [← p1]
    cases h : imOk l
    · exact ⟨rfl, rfl, rfl⟩
    · obtain ⟨a, b, c⟩ := p2 h
      rw [a, b, c]
      exact ⟨rfl, rfl, rfl⟩
  obtain ⟨q1, q2, q3⟩ := q1
  rw [q1, q2, q3, p1] at HI
  clear q1 q2 q3 p1 p2 hM hT hs hbig
  generalize pv (spOk l) (sY l) = Y at *
  generalize pv (spOk l) (sM l) = M at *
  generalize pv (spOk l) (sD l) = D at *
  generalize spOk l = B at *
  go_enter Tryd.func8, Tryd.ntmps8
  have HB := Lib.hid (Below.refl w.heap.size w)
  go_wp2_with fail
  refine (HS.out _).mono ?_
  rintro e w1 ⟨rfl, hb⟩
  have hszw1 := below_size hb
  try simp at hszw1
  have HBq : Below w.heap.size w w1 := Below.trans (by repeat (first | exact Below.refl _ _ | exact HB.out | refine Below.drew ?_ | refine bel_drewN _ ?_ | refine Below.alloc ?_ (by first | omega | (simp; done) | (simp; omega)) _ | refine Below.setCell ?_ (by first | (show _ ≤ _; omega) | (simp; done) | (simp; omega)) _)) (hb.mono (by first | omega | (simp; done) | (simp; omega)))
  have HB := Lib.hid HBq
  clear HBq hb
  go_wp2_with fail
  refine (HI.out _ (HT.out.below (by repeat (first | exact Below.refl _ _ | exact HB.out | refine Below.drew ?_ | refine bel_drewN _ ?_ | refine Below.alloc ?_ (by first | omega | (simp; done) | (simp; omega)) _ | refine Below.setCell ?_ (by first | (show _ ≤ _; omega) | (simp; done) | (simp; omega)) _))) (by exact HM.out.fwd (by repeat (first | exact Below.refl _ _ | exact HB.out.mono hM1 | refine Below.drew ?_ | refine bel_drewN _ ?_ | refine Below.alloc ?_ (by first | omega | (simp; done) | (simp; omega)) _ | refine Below.setCell ?_ (by first | (show _ ≤ _; omega) | (simp; done) | (simp; omega)) _)))).mono ?_
  rintro e w2 ⟨rfl, hb⟩
  have x0_1 : w2.cell? ⟨w1.heap.size, 0, none⟩ = some (.int .i64 Y) := bc hb (by first | (simp; done) | go_simp)
  have x1_1 : w2.cell? ⟨w1.heap.size, 1, none⟩ = some (.int .i64 M) := bc hb (by first | (simp; done) | go_simp)
  have x2_1 : w2.cell? ⟨w1.heap.size, 2, none⟩ = some (.int .i64 D) := bc hb (by first | (simp; done) | go_simp)
  have xl_1 : w1.heap.size < w2.heap.size := cell_lt x0_1
  have hszw2 := below_size hb
  try simp at hszw2
  have HBq : Below w.heap.size w w2 := Below.trans (by repeat (first | exact Below.refl _ _ | exact HB.out | refine Below.drew ?_ | refine bel_drewN _ ?_ | refine Below.alloc ?_ (by first | omega | (simp; done) | (simp; omega)) _ | refine Below.setCell ?_ (by first | (show _ ≤ _; omega) | (simp; done) | (simp; omega)) _)) (hb.mono (by first | omega | (simp; done) | (simp; omega)))
  have HB := Lib.hid HBq
  clear HBq hb
  go_wp2_with fail
  refine (eqDateSame Y M D _).mono ?_
  rintro e w3 ⟨rfl, hb⟩
  have x0_2 : w3.cell? ⟨w1.heap.size, 0, none⟩ = some (.int .i64 Y) := bc hb (by first | exact x0_1 | exact ca x0_1 | exact ca (ca x0_1) | exact ca (ca (ca x0_1)) | (simp; done) | go_simp)
  have x1_2 : w3.cell? ⟨w1.heap.size, 1, none⟩ = some (.int .i64 M) := bc hb (by first | exact x1_1 | exact ca x1_1 | exact ca (ca x1_1) | exact ca (ca (ca x1_1)) | (simp; done) | go_simp)
  have x2_2 : w3.cell? ⟨w1.heap.size, 2, none⟩ = some (.int .i64 D) := bc hb (by first | exact x2_1 | exact ca x2_1 | exact ca (ca x2_1) | exact ca (ca (ca x2_1)) | (simp; done) | go_simp)
  have xl_2 : w1.heap.size < w3.heap.size := cell_lt x0_2
  clear x0_1 x1_1 x2_1 xl_1
  have hszw3 := below_size hb
  try simp at hszw3
  have HBq : Below w.heap.size w w3 := Below.trans (by repeat (first | exact Below.refl _ _ | exact HB.out | refine Below.drew ?_ | refine bel_drewN _ ?_ | refine Below.alloc ?_ (by first | omega | (simp; done) | (simp; omega)) _ | refine Below.setCell ?_ (by first | (show _ ≤ _; omega) | (simp; done) | (simp; omega)) _)) (hb.mono (by first | omega | (simp; done) | (simp; omega)))
  have HB := Lib.hid HBq
  clear HBq hb
  cases B
  all_goals
    go_wp2
    go_ret
    exact ⟨ret_bool (by first | rfl | simp), HB.out⟩
end Go.Proofs.YtoecdlemoimacaaDoor
