/- Shares of an amount. -/
import Derived.Test.YtlobbphhhdklfaaRatioDraw2
namespace Go.Proofs.Ytlobbphhhdklfaa
open Go.RowKit
set_option linter.unusedVariables false
def shareOk (a n d : Int) : Bool := inR a (-1000000000) 1000000000 && (ratioOk n d && inR n 0 d)
def shareV (a n d : Int) : Int := if shareOk a n d = true then near (a * n) d else 0
theorem shareOk_iff {a n d : Int} : shareOk a n d = true ↔ inR a (-1000000000) 1000000000 = true ∧ ratioOk n d = true ∧ inR n 0 d = true := by
  unfold shareOk; rw [Bool.and_eq_true, Bool.and_eq_true]
set_option maxHeartbeats 1000000 in
theorem shareI_any (a n d : Int) (w : World) :
    Calls Try.prog 14 #[.int .i64 a, .agg #[.int .i64 n, .int .i64 d]] w fun e w' => e = .returned (.tuple #[.int .i64 (shareV a n d), .bool (shareOk a n d)]) ∧ Below w.heap.size w w' := by
  by_cases h1 : inR a (-1000000000) 1000000000 = true
  · by_cases h2 : ratioOk n d = true
    · by_cases h3 : inR n 0 d = true
      · have ok : shareOk a n d = true := shareOk_iff.2 ⟨h1, h2, h3⟩
        have V : Hid (shareV a n d = near (a * n) d) := by unfold shareV; rw [if_pos ok]; exact rfl
        obtain ⟨⟨b1, b2⟩, ⟨b3, b4⟩, _⟩ := ratioOk_iff.1 h2
        obtain ⟨a1, a2⟩ := inR_true.1 h1
        obtain ⟨b5, b6⟩ := inR_true.1 h3
        obtain ⟨m1, m2⟩ := mul_bd a1 a2 b5 (by omega : n ≤ 2000000)
        go_enter Try.func14, Try.ntmps14
        have HB := Lib.hid (Below.refl w.heap.size w)
        go_wp2_with fail
        refine ((amountValid_any _ _)).mono ?_
        rintro e w1 ⟨rfl, rfl⟩
        go_wp2_with fail
        refine (ratioValid_any n d _).mono ?_
        rintro e w2 ⟨rfl, hb⟩
        have r0_1 : w2.cell? ⟨w.heap.size, 0, none⟩ = some (.int .i64 n) := bc hb (by first | (simp; done) | go_simp)
        have r1_1 : w2.cell? ⟨w.heap.size, 1, none⟩ = some (.int .i64 d) := bc hb (by first | (simp; done) | go_simp)
        have rl_1 : w.heap.size < w2.heap.size := cell_lt r0_1
        have hszw2 := below_size hb
        try simp at hszw2
        have HBq : Below w.heap.size w w2 := Below.trans (by repeat (first | exact Below.refl _ _ | exact HB.out | refine Below.drew ?_ | refine bel_drewN _ ?_ | refine Below.alloc ?_ (by first | omega | (simp; done) | (simp; omega)) _ | refine Below.setCell ?_ (by first | (show _ ≤ _; omega) | (simp; done) | (simp; omega)) _)) (hb.mono (by first | omega | (simp; done) | (simp; omega)))
        have HB := Lib.hid HBq
        clear HBq hb
        go_wp2_with fail
        refine ((within_any _ _ _ _)).mono ?_
        rintro e w3 ⟨rfl, rfl⟩
        go_wp2_with fail
        refine ((nearestI_any _ _ _ (by omega) (by omega) (by omega) (by omega))).mono ?_
        rintro e w3 ⟨rfl, rfl⟩
        go_wp2
        go_ret2
        exact ⟨ret_ib V.out.symm ok.symm, HB.out⟩
      · have h3' : inR n 0 d = false := by simpa using h3
        have ok : Hid (shareOk a n d = false) := by unfold shareOk; rw [h3']; simp [Hid]
        have V : Hid (shareV a n d = 0) := by unfold shareV; rw [ok.out]; exact rfl
        clear h3
        go_enter Try.func14, Try.ntmps14
        have HB := Lib.hid (Below.refl w.heap.size w)
        go_wp2_with fail
        refine ((amountValid_any _ _)).mono ?_
        rintro e w1 ⟨rfl, rfl⟩
        go_wp2_with fail
        refine (ratioValid_any n d _).mono ?_
        rintro e w2 ⟨rfl, hb⟩
        have r0_1 : w2.cell? ⟨w.heap.size, 0, none⟩ = some (.int .i64 n) := bc hb (by first | (simp; done) | go_simp)
        have r1_1 : w2.cell? ⟨w.heap.size, 1, none⟩ = some (.int .i64 d) := bc hb (by first | (simp; done) | go_simp)
        have rl_1 : w.heap.size < w2.heap.size := cell_lt r0_1
        have hszw2 := below_size hb
        try simp at hszw2
        have HBq : Below w.heap.size w w2 := Below.trans (by repeat (first | exact Below.refl _ _ | exact HB.out | refine Below.drew ?_ | refine bel_drewN _ ?_ | refine Below.alloc ?_ (by first | omega | (simp; done) | (simp; omega)) _ | refine Below.setCell ?_ (by first | (show _ ≤ _; omega) | (simp; done) | (simp; omega)) _)) (hb.mono (by first | omega | (simp; done) | (simp; omega)))
        have HB := Lib.hid HBq
        clear HBq hb
        go_wp2_with fail
        refine ((within_any _ _ _ _)).mono ?_
        rintro e w3 ⟨rfl, rfl⟩
        go_wp2
        go_ret2
        exact ⟨ret_ib V.out.symm ok.out.symm, HB.out⟩
    · have h2' : ratioOk n d = false := by simpa using h2
      have ok : Hid (shareOk a n d = false) := by unfold shareOk; rw [h2']; simp [Hid]
      have V : Hid (shareV a n d = 0) := by unfold shareV; rw [ok.out]; exact rfl
      clear h2
      go_enter Try.func14, Try.ntmps14
      have HB := Lib.hid (Below.refl w.heap.size w)
      go_wp2_with fail
      refine ((amountValid_any _ _)).mono ?_
      rintro e w1 ⟨rfl, rfl⟩
      go_wp2_with fail
      refine (ratioValid_any n d _).mono ?_
      rintro e w2 ⟨rfl, hb⟩
      have hszw2 := below_size hb
      try simp at hszw2
      have HBq : Below w.heap.size w w2 := Below.trans (by repeat (first | exact Below.refl _ _ | exact HB.out | refine Below.drew ?_ | refine bel_drewN _ ?_ | refine Below.alloc ?_ (by first | omega | (simp; done) | (simp; omega)) _ | refine Below.setCell ?_ (by first | (show _ ≤ _; omega) | (simp; done) | (simp; omega)) _)) (hb.mono (by first | omega | (simp; done) | (simp; omega)))
      have HB := Lib.hid HBq
      clear HBq hb
      go_wp2
      go_ret2
      exact ⟨ret_ib V.out.symm ok.out.symm, HB.out⟩
  · have h1' : inR a (-1000000000) 1000000000 = false := by simpa using h1
    have ok : Hid (shareOk a n d = false) := by unfold shareOk; rw [h1']; simp [Hid]
    have V : Hid (shareV a n d = 0) := by unfold shareV; rw [ok.out]; exact rfl
    clear h1
    go_enter Try.func14, Try.ntmps14
    have HB := Lib.hid (Below.refl w.heap.size w)
    go_wp2_with fail
    refine ((amountValid_any _ _)).mono ?_
    rintro e w1 ⟨rfl, rfl⟩
    go_wp2
    go_ret2
    exact ⟨ret_ib V.out.symm ok.out.symm, (by repeat (first | exact Below.refl _ _ | exact HB.out | refine Below.drew ?_ | refine bel_drewN _ ?_ | refine Below.alloc ?_ (by first | omega | (simp; done) | (simp; omega)) _ | refine Below.setCell ?_ (by first | (show _ ≤ _; omega) | (simp; done) | (simp; omega)) _))⟩
set_option maxHeartbeats 1000000 in
theorem shareS_any (a n d : Int) (w : World) :
    Calls Try.prog 15 #[.int .i64 a, .agg #[.int .i64 n, .int .i64 d]] w fun e w' => e = .returned (.tuple #[.int .i64 (shareV a n d), .bool (shareOk a n d)]) ∧ Below w.heap.size w w' := by
  by_cases h1 : inR a (-1000000000) 1000000000 = true
  · by_cases h2 : ratioOk n d = true
    · by_cases h3 : inR n 0 d = true
      · have ok : shareOk a n d = true := shareOk_iff.2 ⟨h1, h2, h3⟩
        have V : Hid (shareV a n d = near (a * n) d) := by unfold shareV; rw [if_pos ok]; exact rfl
        obtain ⟨⟨b1, b2⟩, ⟨b3, b4⟩, _⟩ := ratioOk_iff.1 h2
        obtain ⟨a1, a2⟩ := inR_true.1 h1
        obtain ⟨b5, b6⟩ := inR_true.1 h3
        obtain ⟨m1, m2⟩ := mul_bd a1 a2 b5 (by omega : n ≤ 2000000)
        go_enter Try.func15, Try.ntmps15
        have HB := Lib.hid (Below.refl w.heap.size w)
        go_wp2_with fail
        refine ((inRange_any _ _ _ _)).mono ?_
        rintro e w1 ⟨rfl, rfl⟩
        go_wp2_with fail
        refine (validRatio_any n d _).mono ?_
        rintro e w2 ⟨rfl, hb⟩
        have r0_1 : w2.cell? ⟨w.heap.size, 0, none⟩ = some (.int .i64 n) := bc hb (by first | (simp; done) | go_simp)
        have r1_1 : w2.cell? ⟨w.heap.size, 1, none⟩ = some (.int .i64 d) := bc hb (by first | (simp; done) | go_simp)
        have rl_1 : w.heap.size < w2.heap.size := cell_lt r0_1
        have hszw2 := below_size hb
        try simp at hszw2
        have HBq : Below w.heap.size w w2 := Below.trans (by repeat (first | exact Below.refl _ _ | exact HB.out | refine Below.drew ?_ | refine bel_drewN _ ?_ | refine Below.alloc ?_ (by first | omega | (simp; done) | (simp; omega)) _ | refine Below.setCell ?_ (by first | (show _ ≤ _; omega) | (simp; done) | (simp; omega)) _)) (hb.mono (by first | omega | (simp; done) | (simp; omega)))
        have HB := Lib.hid HBq
        clear HBq hb
        go_wp2_with fail
        refine ((inRange_any _ _ _ _)).mono ?_
        rintro e w3 ⟨rfl, rfl⟩
        go_wp2_with fail
        refine ((nearestS_any _ _ _ (by omega) (by omega) (by omega) (by omega))).mono ?_
        rintro e w3 ⟨rfl, rfl⟩
        go_wp2
        go_ret2
        exact ⟨ret_ib V.out.symm ok.symm, HB.out⟩
      · have h3' : inR n 0 d = false := by simpa using h3
        have ok : Hid (shareOk a n d = false) := by unfold shareOk; rw [h3']; simp [Hid]
        have V : Hid (shareV a n d = 0) := by unfold shareV; rw [ok.out]; exact rfl
        clear h3
        go_enter Try.func15, Try.ntmps15
        have HB := Lib.hid (Below.refl w.heap.size w)
        go_wp2_with fail
        refine ((inRange_any _ _ _ _)).mono ?_
        rintro e w1 ⟨rfl, rfl⟩
        go_wp2_with fail
        refine (validRatio_any n d _).mono ?_
        rintro e w2 ⟨rfl, hb⟩
        have r0_1 : w2.cell? ⟨w.heap.size, 0, none⟩ = some (.int .i64 n) := bc hb (by first | (simp; done) | go_simp)
        have r1_1 : w2.cell? ⟨w.heap.size, 1, none⟩ = some (.int .i64 d) := bc hb (by first | (simp; done) | go_simp)
        have rl_1 : w.heap.size < w2.heap.size := cell_lt r0_1
        have hszw2 := below_size hb
        try simp at hszw2
        have HBq : Below w.heap.size w w2 := Below.trans (by repeat (first | exact Below.refl _ _ | exact HB.out | refine Below.drew ?_ | refine bel_drewN _ ?_ | refine Below.alloc ?_ (by first | omega | (simp; done) | (simp; omega)) _ | refine Below.setCell ?_ (by first | (show _ ≤ _; omega) | (simp; done) | (simp; omega)) _)) (hb.mono (by first | omega | (simp; done) | (simp; omega)))
        have HB := Lib.hid HBq
        clear HBq hb
        go_wp2_with fail
        refine ((inRange_any _ _ _ _)).mono ?_
        rintro e w3 ⟨rfl, rfl⟩
        go_wp2
        go_ret2
        exact ⟨ret_ib V.out.symm ok.out.symm, HB.out⟩
    · have h2' : ratioOk n d = false := by simpa using h2
      have ok : Hid (shareOk a n d = false) := by unfold shareOk; rw [h2']; simp [Hid]
      have V : Hid (shareV a n d = 0) := by unfold shareV; rw [ok.out]; exact rfl
      clear h2
      go_enter Try.func15, Try.ntmps15
      have HB := Lib.hid (Below.refl w.heap.size w)
      go_wp2_with fail
      refine ((inRange_any _ _ _ _)).mono ?_
      rintro e w1 ⟨rfl, rfl⟩
      go_wp2_with fail
      refine (validRatio_any n d _).mono ?_
      rintro e w2 ⟨rfl, hb⟩
      have hszw2 := below_size hb
      try simp at hszw2
      have HBq : Below w.heap.size w w2 := Below.trans (by repeat (first | exact Below.refl _ _ | exact HB.out | refine Below.drew ?_ | refine bel_drewN _ ?_ | refine Below.alloc ?_ (by first | omega | (simp; done) | (simp; omega)) _ | refine Below.setCell ?_ (by first | (show _ ≤ _; omega) | (simp; done) | (simp; omega)) _)) (hb.mono (by first | omega | (simp; done) | (simp; omega)))
      have HB := Lib.hid HBq
      clear HBq hb
      go_wp2
      go_ret2
      exact ⟨ret_ib V.out.symm ok.out.symm, HB.out⟩
  · have h1' : inR a (-1000000000) 1000000000 = false := by simpa using h1
    have ok : Hid (shareOk a n d = false) := by unfold shareOk; rw [h1']; simp [Hid]
    have V : Hid (shareV a n d = 0) := by unfold shareV; rw [ok.out]; exact rfl
    clear h1
    go_enter Try.func15, Try.ntmps15
    have HB := Lib.hid (Below.refl w.heap.size w)
    go_wp2_with fail
    refine ((inRange_any _ _ _ _)).mono ?_
    rintro e w1 ⟨rfl, rfl⟩
    go_wp2
    go_ret2
    exact ⟨ret_ib V.out.symm ok.out.symm, (by repeat (first | exact Below.refl _ _ | exact HB.out | refine Below.drew ?_ | refine bel_drewN _ ?_ | refine Below.alloc ?_ (by first | omega | (simp; done) | (simp; omega)) _ | refine Below.setCell ?_ (by first | (show _ ≤ _; omega) | (simp; done) | (simp; omega)) _))⟩
def ShareDraw (w : World) (e : Ending) (w' : World) : Prop :=
  ∃ a n d : Int, e = .returned (.tuple #[.int .i64 a, .agg #[.int .i64 n, .int .i64 d]]) ∧ Below w.heap.size w w'
set_option maxHeartbeats 2000000 in
theorem drawShareOf_any (a : Option Addr) (len cap : Nat) (w : World) (hlc : len ≤ cap) (hc : cap ≤ maxLen) (h : IsBytes w a len) :
    Calls Try.prog 13 #[.slice a len cap] w (ShareDraw w) := by
  have H := Lib.hid h
  clear h
  go_enter Try.func13, Try.ntmps13
  go_wp2_with fail
  refine (newReader_any _ _ _ _ hlc hc (by repeat (first | exact H.out | refine IsBytes.alloc ?_ _))).mono ?_
  rintro e v1 ⟨rfl, hb, hrd, hszv1⟩
  simp at hszv1
  replace hszv1 : w.heap.size + 1 + 1 ≤ v1.heap.size := by omega
  have hR : w.heap.size + 1 < v1.heap.size := by omega
  have hrdq : Rd v1 (w.heap.size + 1) 0 := by simpa using hrd
  have HR := Lib.hid hrdq
  have HBq : KB (w.heap.size) (w.heap.size + 1) w v1 := KB.quiet (Nat.le_refl _) (by repeat (first | exact KB.refl _ _ _ | exact HB.out | refine KB.drew ?_ | refine KB.drewN ?_ | refine KB.alloc (Nat.le_refl _) ?_ _ | refine KB.setCell ?_ (by first | (show _ ≤ _; omega) | (simp; done) | (simp; omega)) _)) hb
  have HB := Lib.hid HBq
  have p0_1 : v1.cell? ⟨w.heap.size, 0, none⟩ = some (.int .i64 0) := bc hb (by first | (simp; done) | go_simp)
  have pf0_1 : v1.frozen? ⟨w.heap.size, 0, none⟩ = false := bf hb (by first | (simp; done) | (simp; omega) | (show w.heap.size < _; omega)) (by first | (simp; done) | go_simp)
  have p1_1 : v1.cell? ⟨w.heap.size, 1, none⟩ = some (.int .i64 0) := bc hb (by first | (simp; done) | go_simp)
  have pf1_1 : v1.frozen? ⟨w.heap.size, 1, none⟩ = false := bf hb (by first | (simp; done) | (simp; omega) | (show w.heap.size < _; omega)) (by first | (simp; done) | go_simp)
  have pl_1 : w.heap.size < v1.heap.size := cell_lt p0_1
  clear hrd hrdq HBq hb
  go_wp2_with fail
  refine (one_any _ _ _ (-1000000000) (1000000001) _ _ _ (by exact intsIn_lit _ [100, 7, -7, 0, 12345, 1000000000, 1000000001, -1000000000] _ _ _ _ _ _ rfl (by first | (simp; done) | (simp; omega) | omega) (by simp; try omega)) (by omega) (by omega) (by first | omega | (simp; done) | (simp; omega)) (by first | omega | (simp; omega)) (by first | exact hR | omega | (simp; done) | (simp; omega)) (by omega) (by omega) (Rd.fwd HR.out (by repeat (first | exact Below.refl _ _ | refine Below.drew ?_ | refine bel_drewN _ ?_ | refine Below.alloc ?_ (by first | omega | (simp; done) | (simp; omega)) _ | refine Below.setCell ?_ (by first | (show _ ≤ _; omega) | (simp; done) | (simp; omega)) _)))).mono ?_
  rintro e v2 ⟨m, rfl, m0, m1, k, r⟩
  have HBq : KB (w.heap.size) (w.heap.size + 1) w v2 := KB.callee (Nat.le_refl _) (by repeat (first | exact KB.refl _ _ _ | exact HB.out | refine KB.drew ?_ | refine KB.drewN ?_ | refine KB.alloc (Nat.le_refl _) ?_ _ | refine KB.setCell ?_ (by first | (show _ ≤ _; omega) | (simp; done) | (simp; omega)) _)) k
  have HB := Lib.hid HBq
  clear HBq
  have hR : w.heap.size + 1 < v2.heap.size := Nat.lt_of_lt_of_le (by first | exact hR | omega | (simp; done) | (simp; omega)) k.size
  have HR := Lib.hid r
  have p0_2 : v2.cell? ⟨w.heap.size, 0, none⟩ = some (.int .i64 0) := kc k (by first | exact p0_1 | exact ca p0_1 | exact ca (ca p0_1) | exact ca (ca (ca p0_1)) | (simp; done) | go_simp) (by show w.heap.size ≠ _; omega)
  have pf0_2 : v2.frozen? ⟨w.heap.size, 0, none⟩ = false := kf k (by first | (simp; done) | (simp; omega) | (show w.heap.size < _; omega)) (by show w.heap.size ≠ _; omega) (by first | exact pf0_1 | exact fa (by show w.heap.size < _; omega) pf0_1 | exact fa (by show w.heap.size < _; simp; omega) (fa (by show w.heap.size < _; omega) pf0_1) | (simp; done) | go_simp)
  have p1_2 : v2.cell? ⟨w.heap.size, 1, none⟩ = some (.int .i64 0) := kc k (by first | exact p1_1 | exact ca p1_1 | exact ca (ca p1_1) | exact ca (ca (ca p1_1)) | (simp; done) | go_simp) (by show w.heap.size ≠ _; omega)
  have pf1_2 : v2.frozen? ⟨w.heap.size, 1, none⟩ = false := kf k (by first | (simp; done) | (simp; omega) | (show w.heap.size < _; omega)) (by show w.heap.size ≠ _; omega) (by first | exact pf1_1 | exact fa (by show w.heap.size < _; omega) pf1_1 | exact fa (by show w.heap.size < _; simp; omega) (fa (by show w.heap.size < _; omega) pf1_1) | (simp; done) | go_simp)
  have pl_2 : w.heap.size < v2.heap.size := cell_lt p0_2
  clear p0_1 pf0_1 p1_1 pf1_1 pl_1
  have hszv2 := k.size
  try simp at hszv2
  clear r k
  go_wp2_with fail
  refine (anyRatio_any _ _ _ (by first | exact hR | omega | (simp; done) | (simp; omega)) (by omega) (by omega) (Rd.fwd HR.out (by repeat (first | exact Below.refl _ _ | refine Below.drew ?_ | refine bel_drewN _ ?_ | refine Below.alloc ?_ (by first | omega | (simp; done) | (simp; omega)) _ | refine Below.setCell ?_ (by first | (show _ ≤ _; omega) | (simp; done) | (simp; omega)) _)))).mono ?_
  rintro e v3 ⟨n, d, rfl, k, r⟩
  have HBq : KB (w.heap.size) (w.heap.size + 1) w v3 := KB.callee (Nat.le_refl _) (by repeat (first | exact KB.refl _ _ _ | exact HB.out | refine KB.drew ?_ | refine KB.drewN ?_ | refine KB.alloc (Nat.le_refl _) ?_ _ | refine KB.setCell ?_ (by first | (show _ ≤ _; omega) | (simp; done) | (simp; omega)) _)) k
  have HB := Lib.hid HBq
  clear HBq
  have hR : w.heap.size + 1 < v3.heap.size := Nat.lt_of_lt_of_le (by first | exact hR | omega | (simp; done) | (simp; omega)) k.size
  have HR := Lib.hid r
  have p0_3 : v3.cell? ⟨w.heap.size, 0, none⟩ = some (.int .i64 0) := kc k (by first | exact p0_2 | exact ca p0_2 | exact ca (ca p0_2) | exact ca (ca (ca p0_2)) | (simp; done) | go_simp) (by show w.heap.size ≠ _; omega)
  have pf0_3 : v3.frozen? ⟨w.heap.size, 0, none⟩ = false := kf k (by first | (simp; done) | (simp; omega) | (show w.heap.size < _; omega)) (by show w.heap.size ≠ _; omega) (by first | exact pf0_2 | exact fa (by show w.heap.size < _; omega) pf0_2 | exact fa (by show w.heap.size < _; simp; omega) (fa (by show w.heap.size < _; omega) pf0_2) | (simp; done) | go_simp)
  have p1_3 : v3.cell? ⟨w.heap.size, 1, none⟩ = some (.int .i64 0) := kc k (by first | exact p1_2 | exact ca p1_2 | exact ca (ca p1_2) | exact ca (ca (ca p1_2)) | (simp; done) | go_simp) (by show w.heap.size ≠ _; omega)
  have pf1_3 : v3.frozen? ⟨w.heap.size, 1, none⟩ = false := kf k (by first | (simp; done) | (simp; omega) | (show w.heap.size < _; omega)) (by show w.heap.size ≠ _; omega) (by first | exact pf1_2 | exact fa (by show w.heap.size < _; omega) pf1_2 | exact fa (by show w.heap.size < _; simp; omega) (fa (by show w.heap.size < _; omega) pf1_2) | (simp; done) | go_simp)
  have pl_3 : w.heap.size < v3.heap.size := cell_lt p0_3
  clear p0_2 pf0_2 p1_2 pf1_2 pl_2
  have hszv3 := k.size
  try simp at hszv3
  clear r k
  go_wp2_with fail
  refine (pick_any _ _ _ _ (by first | exact hR | omega | (simp; done) | (simp; omega)) (by omega) (by omega) (by omega) (by omega) (Rd.fwd HR.out (by repeat (first | exact Below.refl _ _ | refine Below.drew ?_ | refine bel_drewN _ ?_ | refine Below.alloc ?_ (by first | omega | (simp; done) | (simp; omega)) _ | refine Below.setCell ?_ (by first | (show _ ≤ _; omega) | (simp; done) | (simp; omega)) _)))).mono ?_
  rintro e v4 ⟨z, rfl, z0, z1, k, r⟩
  have z2 : z ≤ 2 := by omega
  clear z1
  have HBq : KB (w.heap.size) (w.heap.size + 1) w v4 := KB.callee (Nat.le_refl _) (by repeat (first | exact KB.refl _ _ _ | exact HB.out | refine KB.drew ?_ | refine KB.drewN ?_ | refine KB.alloc (Nat.le_refl _) ?_ _ | refine KB.setCell ?_ (by first | (show _ ≤ _; omega) | (simp; done) | (simp; omega)) _)) k
  have HB := Lib.hid HBq
  clear HBq
  have hR : w.heap.size + 1 < v4.heap.size := Nat.lt_of_lt_of_le (by first | exact hR | omega | (simp; done) | (simp; omega)) k.size
  have HR := Lib.hid r
  have p0_4 : v4.cell? ⟨w.heap.size, 0, none⟩ = some (.int .i64 0) := kc k (by first | exact p0_3 | exact ca p0_3 | exact ca (ca p0_3) | exact ca (ca (ca p0_3)) | (simp; done) | go_simp) (by show w.heap.size ≠ _; omega)
  have pf0_4 : v4.frozen? ⟨w.heap.size, 0, none⟩ = false := kf k (by first | (simp; done) | (simp; omega) | (show w.heap.size < _; omega)) (by show w.heap.size ≠ _; omega) (by first | exact pf0_3 | exact fa (by show w.heap.size < _; omega) pf0_3 | exact fa (by show w.heap.size < _; simp; omega) (fa (by show w.heap.size < _; omega) pf0_3) | (simp; done) | go_simp)
  have p1_4 : v4.cell? ⟨w.heap.size, 1, none⟩ = some (.int .i64 0) := kc k (by first | exact p1_3 | exact ca p1_3 | exact ca (ca p1_3) | exact ca (ca (ca p1_3)) | (simp; done) | go_simp) (by show w.heap.size ≠ _; omega)
  have pf1_4 : v4.frozen? ⟨w.heap.size, 1, none⟩ = false := kf k (by first | (simp; done) | (simp; omega) | (show w.heap.size < _; omega)) (by show w.heap.size ≠ _; omega) (by first | exact pf1_3 | exact fa (by show w.heap.size < _; omega) pf1_3 | exact fa (by show w.heap.size < _; simp; omega) (fa (by show w.heap.size < _; omega) pf1_3) | (simp; done) | go_simp)
  have pl_4 : w.heap.size < v4.heap.size := cell_lt p0_4
  clear p0_3 pf0_3 p1_3 pf1_3 pl_3
  have x0_1 : v4.cell? ⟨v3.heap.size, 0, none⟩ = some (.int .i64 n) := kc k (by first | (simp; done) | go_simp) (by show v3.heap.size ≠ _; omega)
  have xf0_1 : v4.frozen? ⟨v3.heap.size, 0, none⟩ = false := kf k (by first | (simp; done) | (simp; omega) | (show v3.heap.size < _; omega)) (by show v3.heap.size ≠ _; omega) (by first | (simp; done) | go_simp)
  have x1_1 : v4.cell? ⟨v3.heap.size, 1, none⟩ = some (.int .i64 d) := kc k (by first | (simp; done) | go_simp) (by show v3.heap.size ≠ _; omega)
  have xf1_1 : v4.frozen? ⟨v3.heap.size, 1, none⟩ = false := kf k (by first | (simp; done) | (simp; omega) | (show v3.heap.size < _; omega)) (by show v3.heap.size ≠ _; omega) (by first | (simp; done) | go_simp)
  have xl_1 : v3.heap.size < v4.heap.size := cell_lt x0_1
  have hszv4 := k.size
  try simp at hszv4
  clear r k
  by_cases hz : 0 < z
  · have hz' := hz
    go_wp2_with fail
    refine (pick_any _ _ _ _ (by first | exact hR | omega | (simp; done) | (simp; omega)) (by omega) (by omega) (by omega) (by omega) (Rd.fwd HR.out (by repeat (first | exact Below.refl _ _ | refine Below.drew ?_ | refine bel_drewN _ ?_ | refine Below.alloc ?_ (by first | omega | (simp; done) | (simp; omega)) _ | refine Below.setCell ?_ (by first | (show _ ≤ _; omega) | (simp; done) | (simp; omega)) _)))).mono ?_
    rintro e v5 ⟨u, rfl, u0, u1, k, r⟩
    have u2 : u ≤ 19 := by omega
    clear u1
    have HBq : KB (w.heap.size) (w.heap.size + 1) w v5 := KB.callee (Nat.le_refl _) (by repeat (first | exact KB.refl _ _ _ | exact HB.out | refine KB.drew ?_ | refine KB.drewN ?_ | refine KB.alloc (Nat.le_refl _) ?_ _ | refine KB.setCell ?_ (by first | (show _ ≤ _; omega) | (simp; done) | (simp; omega)) _)) k
    have HB := Lib.hid HBq
    clear HBq
    have hR : w.heap.size + 1 < v5.heap.size := Nat.lt_of_lt_of_le (by first | exact hR | omega | (simp; done) | (simp; omega)) k.size
    have HR := Lib.hid r
    have p0_5 : v5.cell? ⟨w.heap.size, 0, none⟩ = some (.int .i64 0) := kc k (by first | exact p0_4 | exact ca p0_4 | exact ca (ca p0_4) | exact ca (ca (ca p0_4)) | (simp; done) | go_simp) (by show w.heap.size ≠ _; omega)
    have pf0_5 : v5.frozen? ⟨w.heap.size, 0, none⟩ = false := kf k (by first | (simp; done) | (simp; omega) | (show w.heap.size < _; omega)) (by show w.heap.size ≠ _; omega) (by first | exact pf0_4 | exact fa (by show w.heap.size < _; omega) pf0_4 | exact fa (by show w.heap.size < _; simp; omega) (fa (by show w.heap.size < _; omega) pf0_4) | (simp; done) | go_simp)
    have p1_5 : v5.cell? ⟨w.heap.size, 1, none⟩ = some (.int .i64 0) := kc k (by first | exact p1_4 | exact ca p1_4 | exact ca (ca p1_4) | exact ca (ca (ca p1_4)) | (simp; done) | go_simp) (by show w.heap.size ≠ _; omega)
    have pf1_5 : v5.frozen? ⟨w.heap.size, 1, none⟩ = false := kf k (by first | (simp; done) | (simp; omega) | (show w.heap.size < _; omega)) (by show w.heap.size ≠ _; omega) (by first | exact pf1_4 | exact fa (by show w.heap.size < _; omega) pf1_4 | exact fa (by show w.heap.size < _; simp; omega) (fa (by show w.heap.size < _; omega) pf1_4) | (simp; done) | go_simp)
    have pl_5 : w.heap.size < v5.heap.size := cell_lt p0_5
    clear p0_4 pf0_4 p1_4 pf1_4 pl_4
    have x0_2 : v5.cell? ⟨v3.heap.size, 0, none⟩ = some (.int .i64 n) := kc k (by first | exact x0_1 | exact ca x0_1 | exact ca (ca x0_1) | exact ca (ca (ca x0_1)) | (simp; done) | go_simp) (by show v3.heap.size ≠ _; omega)
    have xf0_2 : v5.frozen? ⟨v3.heap.size, 0, none⟩ = false := kf k (by first | (simp; done) | (simp; omega) | (show v3.heap.size < _; omega)) (by show v3.heap.size ≠ _; omega) (by first | exact xf0_1 | exact fa (by show v3.heap.size < _; omega) xf0_1 | exact fa (by show v3.heap.size < _; simp; omega) (fa (by show v3.heap.size < _; omega) xf0_1) | (simp; done) | go_simp)
    have x1_2 : v5.cell? ⟨v3.heap.size, 1, none⟩ = some (.int .i64 d) := kc k (by first | exact x1_1 | exact ca x1_1 | exact ca (ca x1_1) | exact ca (ca (ca x1_1)) | (simp; done) | go_simp) (by show v3.heap.size ≠ _; omega)
    have xf1_2 : v5.frozen? ⟨v3.heap.size, 1, none⟩ = false := kf k (by first | (simp; done) | (simp; omega) | (show v3.heap.size < _; omega)) (by show v3.heap.size ≠ _; omega) (by first | exact xf1_1 | exact fa (by show v3.heap.size < _; omega) xf1_1 | exact fa (by show v3.heap.size < _; simp; omega) (fa (by show v3.heap.size < _; omega) xf1_1) | (simp; done) | go_simp)
    have xl_2 : v3.heap.size < v5.heap.size := cell_lt x0_2
    clear x0_1 xf0_1 x1_1 xf1_1 xl_1
    have hszv5 := k.size
    try simp at hszv5
    clear r k
    go_wp2_with fail
    refine (pick_any _ _ _ _ (by first | exact hR | omega | (simp; done) | (simp; omega)) (by omega) (by omega) (by omega) (by omega) (Rd.fwd HR.out (by repeat (first | exact Below.refl _ _ | refine Below.drew ?_ | refine bel_drewN _ ?_ | refine Below.alloc ?_ (by first | omega | (simp; done) | (simp; omega)) _ | refine Below.setCell ?_ (by first | (show _ ≤ _; omega) | (simp; done) | (simp; omega)) _)))).mono ?_
    rintro e v6 ⟨t, rfl, t0, t1, k, r⟩
    have t2 : t ≤ (u+1) := by omega
    clear t1
    have HBq : KB (w.heap.size) (w.heap.size + 1) w v6 := KB.callee (Nat.le_refl _) (by repeat (first | exact KB.refl _ _ _ | exact HB.out | refine KB.drew ?_ | refine KB.drewN ?_ | refine KB.alloc (Nat.le_refl _) ?_ _ | refine KB.setCell ?_ (by first | (show _ ≤ _; omega) | (simp; done) | (simp; omega)) _)) k
    have HB := Lib.hid HBq
    clear HBq
    have hR : w.heap.size + 1 < v6.heap.size := Nat.lt_of_lt_of_le (by first | exact hR | omega | (simp; done) | (simp; omega)) k.size
    have HR := Lib.hid r
    have p0_6 : v6.cell? ⟨w.heap.size, 0, none⟩ = some (.int .i64 0) := kc k (by first | exact p0_5 | exact ca p0_5 | exact ca (ca p0_5) | exact ca (ca (ca p0_5)) | (simp; done) | go_simp) (by show w.heap.size ≠ _; omega)
    have pf0_6 : v6.frozen? ⟨w.heap.size, 0, none⟩ = false := kf k (by first | (simp; done) | (simp; omega) | (show w.heap.size < _; omega)) (by show w.heap.size ≠ _; omega) (by first | exact pf0_5 | exact fa (by show w.heap.size < _; omega) pf0_5 | exact fa (by show w.heap.size < _; simp; omega) (fa (by show w.heap.size < _; omega) pf0_5) | (simp; done) | go_simp)
    have p1_6 : v6.cell? ⟨w.heap.size, 1, none⟩ = some (.int .i64 0) := kc k (by first | exact p1_5 | exact ca p1_5 | exact ca (ca p1_5) | exact ca (ca (ca p1_5)) | (simp; done) | go_simp) (by show w.heap.size ≠ _; omega)
    have pf1_6 : v6.frozen? ⟨w.heap.size, 1, none⟩ = false := kf k (by first | (simp; done) | (simp; omega) | (show w.heap.size < _; omega)) (by show w.heap.size ≠ _; omega) (by first | exact pf1_5 | exact fa (by show w.heap.size < _; omega) pf1_5 | exact fa (by show w.heap.size < _; simp; omega) (fa (by show w.heap.size < _; omega) pf1_5) | (simp; done) | go_simp)
    have pl_6 : w.heap.size < v6.heap.size := cell_lt p0_6
    clear p0_5 pf0_5 p1_5 pf1_5 pl_5
    have x0_3 : v6.cell? ⟨v3.heap.size, 0, none⟩ = some (.int .i64 n) := kc k (by first | exact x0_2 | exact ca x0_2 | exact ca (ca x0_2) | exact ca (ca (ca x0_2)) | (simp; done) | go_simp) (by show v3.heap.size ≠ _; omega)
    have xf0_3 : v6.frozen? ⟨v3.heap.size, 0, none⟩ = false := kf k (by first | (simp; done) | (simp; omega) | (show v3.heap.size < _; omega)) (by show v3.heap.size ≠ _; omega) (by first | exact xf0_2 | exact fa (by show v3.heap.size < _; omega) xf0_2 | exact fa (by show v3.heap.size < _; simp; omega) (fa (by show v3.heap.size < _; omega) xf0_2) | (simp; done) | go_simp)
    have x1_3 : v6.cell? ⟨v3.heap.size, 1, none⟩ = some (.int .i64 d) := kc k (by first | exact x1_2 | exact ca x1_2 | exact ca (ca x1_2) | exact ca (ca (ca x1_2)) | (simp; done) | go_simp) (by show v3.heap.size ≠ _; omega)
    have xf1_3 : v6.frozen? ⟨v3.heap.size, 1, none⟩ = false := kf k (by first | (simp; done) | (simp; omega) | (show v3.heap.size < _; omega)) (by show v3.heap.size ≠ _; omega) (by first | exact xf1_2 | exact fa (by show v3.heap.size < _; omega) xf1_2 | exact fa (by show v3.heap.size < _; simp; omega) (fa (by show v3.heap.size < _; omega) xf1_2) | (simp; done) | go_simp)
    have xl_3 : v3.heap.size < v6.heap.size := cell_lt x0_3
    clear x0_2 xf0_2 x1_2 xf1_2 xl_2
    have hszv6 := k.size
    try simp at hszv6
    clear r k
    go_wp2_with fail
    refine (lowestS_any _ _ _ (by omega) (by omega) (by omega) (by omega)).mono ?_
    rintro e v7 ⟨rfl, hb⟩
    have HR := Lib.hid (Rd.fwd HR.out (Below.trans (by repeat (first | exact Below.refl _ _ | refine Below.drew ?_ | refine bel_drewN _ ?_ | refine Below.alloc ?_ (by first | omega | (simp; done) | (simp; omega)) _ | refine Below.setCell ?_ (by first | (show _ ≤ _; omega) | (simp; done) | (simp; omega)) _)) (hb.mono (by first | exact hR | omega | (simp; done) | (simp; omega)))))
    have HBq : KB (w.heap.size) (w.heap.size + 1) w v7 := KB.quiet (Nat.le_refl _) (by repeat (first | exact KB.refl _ _ _ | exact HB.out | refine KB.drew ?_ | refine KB.drewN ?_ | refine KB.alloc (Nat.le_refl _) ?_ _ | refine KB.setCell ?_ (by first | (show _ ≤ _; omega) | (simp; done) | (simp; omega)) _)) hb
    have HB := Lib.hid HBq
    clear HBq
    have hR := Nat.lt_of_lt_of_le (show _ < _ from by first | exact hR | omega | (simp; done) | (simp; omega)) hb.size
    have p0_7 : v7.cell? ⟨w.heap.size, 0, none⟩ = some (.int .i64 0) := bc hb (by first | exact p0_6 | exact ca p0_6 | exact ca (ca p0_6) | exact ca (ca (ca p0_6)) | (simp; done) | go_simp)
    have pf0_7 : v7.frozen? ⟨w.heap.size, 0, none⟩ = false := bf hb (by first | (simp; done) | (simp; omega) | (show w.heap.size < _; omega)) (by first | exact pf0_6 | exact fa (by show w.heap.size < _; omega) pf0_6 | exact fa (by show w.heap.size < _; simp; omega) (fa (by show w.heap.size < _; omega) pf0_6) | (simp; done) | go_simp)
    have p1_7 : v7.cell? ⟨w.heap.size, 1, none⟩ = some (.int .i64 0) := bc hb (by first | exact p1_6 | exact ca p1_6 | exact ca (ca p1_6) | exact ca (ca (ca p1_6)) | (simp; done) | go_simp)
    have pf1_7 : v7.frozen? ⟨w.heap.size, 1, none⟩ = false := bf hb (by first | (simp; done) | (simp; omega) | (show w.heap.size < _; omega)) (by first | exact pf1_6 | exact fa (by show w.heap.size < _; omega) pf1_6 | exact fa (by show w.heap.size < _; simp; omega) (fa (by show w.heap.size < _; omega) pf1_6) | (simp; done) | go_simp)
    have pl_7 : w.heap.size < v7.heap.size := cell_lt p0_7
    clear p0_6 pf0_6 p1_6 pf1_6 pl_6
    have x0_4 : v7.cell? ⟨v3.heap.size, 0, none⟩ = some (.int .i64 n) := bc hb (by first | exact x0_3 | exact ca x0_3 | exact ca (ca x0_3) | exact ca (ca (ca x0_3)) | (simp; done) | go_simp)
    have xf0_4 : v7.frozen? ⟨v3.heap.size, 0, none⟩ = false := bf hb (by first | (simp; done) | (simp; omega) | (show v3.heap.size < _; omega)) (by first | exact xf0_3 | exact fa (by show v3.heap.size < _; omega) xf0_3 | exact fa (by show v3.heap.size < _; simp; omega) (fa (by show v3.heap.size < _; omega) xf0_3) | (simp; done) | go_simp)
    have x1_4 : v7.cell? ⟨v3.heap.size, 1, none⟩ = some (.int .i64 d) := bc hb (by first | exact x1_3 | exact ca x1_3 | exact ca (ca x1_3) | exact ca (ca (ca x1_3)) | (simp; done) | go_simp)
    have xf1_4 : v7.frozen? ⟨v3.heap.size, 1, none⟩ = false := bf hb (by first | (simp; done) | (simp; omega) | (show v3.heap.size < _; omega)) (by first | exact xf1_3 | exact fa (by show v3.heap.size < _; omega) xf1_3 | exact fa (by show v3.heap.size < _; simp; omega) (fa (by show v3.heap.size < _; omega) xf1_3) | (simp; done) | go_simp)
    have xl_4 : v3.heap.size < v7.heap.size := cell_lt x0_4
    clear x0_3 xf0_3 x1_3 xf1_3 xl_3
    have z7 := below_size hb
    try simp at z7
    have hne : v3.heap.size ≠ w.heap.size := by omega
    go_wp2_with fail
    go_region
    all_goals
      go_wp2
      exact bodyPost_ret (v := .tuple #[.int .i64 m, .agg #[.int .i64 (lowN t (1 + u)), .int .i64 (lowD t (1 + u))]]) (by simp [results, Try.results13, go_sem, *]) rfl ⟨_, _, _, rfl, KB.below (R := w.heap.size + 1) (by repeat (first | exact KB.refl _ _ _ | exact HB.out | refine KB.drew ?_ | refine KB.drewN ?_ | refine KB.alloc (Nat.le_refl _) ?_ _ | refine KB.setCell ?_ (by first | (show _ ≤ _; omega) | (simp; done) | (simp; omega)) _)) (by omega)⟩
  · have hz' := hz
    have hne : v3.heap.size ≠ w.heap.size := by omega
    go_wp2_with fail
    go_region
    all_goals
      go_wp2
      exact bodyPost_ret (v := .tuple #[.int .i64 m, .agg #[.int .i64 n, .int .i64 d]]) (by simp [results, Try.results13, go_sem, *]) rfl ⟨_, _, _, rfl, KB.below (R := w.heap.size + 1) (by repeat (first | exact KB.refl _ _ _ | exact HB.out | refine KB.drew ?_ | refine KB.drewN ?_ | refine KB.alloc (Nat.le_refl _) ?_ _ | refine KB.setCell ?_ (by first | (show _ ≤ _; omega) | (simp; done) | (simp; omega)) _)) (by omega)⟩
theorem share_one (a : Int) (h : shareOk a 1 1 = true) : shareV a 1 1 = a := by
  unfold shareV near; rw [if_pos h]; omega
theorem share_zero (a : Int) : shareV a 0 1 = 0 := by
  unfold shareV near
  split
  · rw [Int.mul_zero]; decide
  · rfl
theorem gd_sub (n d : Int) : gd (d - n) d = gd n d := by
  unfold gd
  congr 1
  rw [show d - n = -n + d by omega, Int.gcd_add_self_left, Int.neg_gcd]
theorem share_facts {a n d : Int} (h : shareOk a n d = true) : shareOk a 1 1 = true ∧ shareOk a 0 1 = true ∧ shareOk a (d - n) d = true ∧ absI (shareV a n d + shareV a (d - n) d - a) ≤ 1 ∧ -1000000000000000000 ≤ shareV a n d ∧ shareV a n d ≤ 1000000000000000000 ∧ -1000000000000000000 ≤ shareV a (d - n) d ∧ shareV a (d - n) d ≤ 1000000000000000000 ∧ -1000000000 ≤ a ∧ a ≤ 1000000000 := by
  obtain ⟨h1, h2, h3⟩ := shareOk_iff.1 h
  obtain ⟨⟨b1, b2⟩, ⟨b3, b4⟩, g⟩ := ratioOk_iff.1 h2
  obtain ⟨c1, c2⟩ := inR_true.1 h3
  obtain ⟨a1, a2⟩ := inR_true.1 h1
  have o1 : shareOk a 1 1 = true := shareOk_iff.2 ⟨h1, by decide, by decide⟩
  have o2 : shareOk a 0 1 = true := shareOk_iff.2 ⟨h1, by decide, by decide⟩
  have o3 : shareOk a (d - n) d = true := shareOk_iff.2 ⟨h1, ratioOk_iff.2 ⟨⟨by omega, by omega⟩, ⟨b3, b4⟩, by rw [gd_sub]; exact g⟩, inR_true.2 ⟨by omega, by omega⟩⟩
  have key : ∀ x : Int, near x d + near (a * d - x) d - a = 0 ∨ near x d + near (a * d - x) d - a = 1 := by
    intro x
    unfold near
    have e1 := Int.mul_ediv_add_emod (2 * x + d) (2 * d)
    have e2 := Int.emod_nonneg (2 * x + d) (b := 2 * d) (by omega)
    have e3 := Int.emod_lt_of_pos (2 * x + d) (b := 2 * d) (by omega)
    have f1 := Int.mul_ediv_add_emod (2 * (a * d - x) + d) (2 * d)
    have f2 := Int.emod_nonneg (2 * (a * d - x) + d) (b := 2 * d) (by omega)
    have f3 := Int.emod_lt_of_pos (2 * (a * d - x) + d) (b := 2 * d) (by omega)
    generalize hq : (2 * x + d) / (2 * d) = q at *
    generalize hr : (2 * (a * d - x) + d) / (2 * d) = r at *
    have s : 2 * d * (q + r - a) = 2 * d * q + 2 * d * r - 2 * (a * d) := by
      rw [Int.mul_sub, Int.mul_add, Int.mul_assoc 2 d a, Int.mul_comm d a]
    have l1 : 2 * d * (q + r - a) < 2 * d * 2 := by omega
    have l2 : 2 * d * (-1) < 2 * d * (q + r - a) := by omega
    have := Int.lt_of_mul_lt_mul_left l1 (by omega)
    have := Int.lt_of_mul_lt_mul_left l2 (by omega)
    omega
  have k := key (a * n)
  have v1 : shareV a n d = near (a * n) d := by unfold shareV; rw [if_pos h]
  have v2 : shareV a (d - n) d = near (a * d - a * n) d := by unfold shareV; rw [if_pos o3, Int.mul_sub]
  have nb : ∀ x : Int, -2000000000000000 ≤ x → x ≤ 2000000000000000 → -1000000000000000000 ≤ near x d ∧ near x d ≤ 1000000000000000000 := by
    intro x x1 x2
    unfold near
    have := ediv_bd (n := 2 * x + d) (d := 2 * d) (b := 1000000000000000000) (by omega) (by omega) (by omega)
    exact this
  obtain ⟨m1, m2⟩ := mul_bd a1 a2 c1 (by omega : n ≤ 2000000)
  obtain ⟨m3, m4⟩ := mul_bd a1 a2 (by omega : 0 ≤ d - n) (by omega : d - n ≤ 2000000)
  rw [Int.mul_sub] at m3 m4
  obtain ⟨n1, n2⟩ := nb (a * n) (by omega) (by omega)
  obtain ⟨n3, n4⟩ := nb (a * d - a * n) (by omega) (by omega)
  refine ⟨o1, o2, o3, ?_, by rw [v1]; exact n1, by rw [v1]; exact n2, by rw [v2]; exact n3, by rw [v2]; exact n4, a1, a2⟩
  rw [v1, v2]
  unfold absI
  split <;> omega
set_option maxHeartbeats 2000000 in
theorem fnShareOf_walk (a : Option Addr) (len cap : Nat) (w : World) (hlc : len ≤ cap) (hc : cap ≤ maxLen) (h : IsBytes w a len) :
    Calls Try.prog 6 #[.slice a len cap] w fun e w' => e = .returned (.bool true) ∧ Below w.heap.size w w' := by
  by_cases hbig : 1048576 < len
  · unfold maxLen at hc
    go_enter Try.func6, Try.ntmps6
    go_wp2
    go_ret
    exact ⟨rfl, Below.refl _ _⟩
  have H := Lib.hid h
  clear h
  go_enter Try.func6, Try.ntmps6
  have HB := Lib.hid (Below.refl w.heap.size w)
  go_wp2_with fail
  refine (drawShareOf_any _ _ _ _ hlc hc H.out).mono ?_
  rintro e v1 ⟨m, n, d, rfl, hb⟩
  have hszv1 := below_size hb
  try simp at hszv1
  have HBq : Below w.heap.size w v1 := Below.trans (by repeat (first | exact Below.refl _ _ | exact HB.out | refine Below.drew ?_ | refine bel_drewN _ ?_ | refine Below.alloc ?_ (by first | omega | (simp; done) | (simp; omega)) _ | refine Below.setCell ?_ (by first | (show _ ≤ _; omega) | (simp; done) | (simp; omega)) _)) (hb.mono (by first | omega | (simp; done) | (simp; omega)))
  have HB := Lib.hid HBq
  clear HBq hb
  go_wp2_with fail
  refine (shareI_any m n d _).mono ?_
  rintro e v2 ⟨rfl, hb⟩
  have p0_1 : v2.cell? ⟨v1.heap.size, 0, none⟩ = some (.int .i64 n) := bc hb (by first | (simp; done) | go_simp)
  have p1_1 : v2.cell? ⟨v1.heap.size, 1, none⟩ = some (.int .i64 d) := bc hb (by first | (simp; done) | go_simp)
  have pl_1 : v1.heap.size < v2.heap.size := cell_lt p0_1
  have hszv2 := below_size hb
  try simp at hszv2
  have HBq : Below w.heap.size w v2 := Below.trans (by repeat (first | exact Below.refl _ _ | exact HB.out | refine Below.drew ?_ | refine bel_drewN _ ?_ | refine Below.alloc ?_ (by first | omega | (simp; done) | (simp; omega)) _ | refine Below.setCell ?_ (by first | (show _ ≤ _; omega) | (simp; done) | (simp; omega)) _)) (hb.mono (by first | omega | (simp; done) | (simp; omega)))
  have HB := Lib.hid HBq
  clear HBq hb
  go_wp2_with fail
  refine (shareS_any m n d _).mono ?_
  rintro e v3 ⟨rfl, hb⟩
  have p0_2 : v3.cell? ⟨v1.heap.size, 0, none⟩ = some (.int .i64 n) := bc hb (by first | exact p0_1 | exact ca p0_1 | exact ca (ca p0_1) | exact ca (ca (ca p0_1)) | (simp; done) | go_simp)
  have p1_2 : v3.cell? ⟨v1.heap.size, 1, none⟩ = some (.int .i64 d) := bc hb (by first | exact p1_1 | exact ca p1_1 | exact ca (ca p1_1) | exact ca (ca (ca p1_1)) | (simp; done) | go_simp)
  have pl_2 : v1.heap.size < v3.heap.size := cell_lt p0_2
  clear p0_1 p1_1 pl_1
  have hszv3 := below_size hb
  try simp at hszv3
  have HBq : Below w.heap.size w v3 := Below.trans (by repeat (first | exact Below.refl _ _ | exact HB.out | refine Below.drew ?_ | refine bel_drewN _ ?_ | refine Below.alloc ?_ (by first | omega | (simp; done) | (simp; omega)) _ | refine Below.setCell ?_ (by first | (show _ ≤ _; omega) | (simp; done) | (simp; omega)) _)) (hb.mono (by first | omega | (simp; done) | (simp; omega)))
  have HB := Lib.hid HBq
  clear HBq hb
  by_cases hk : shareOk m n d = true
  · obtain ⟨o1, o2, o3, q, q1, q2, q3, q4, a1, a2⟩ := share_facts hk
    have s1 := share_one m o1
    have s1' : (shareV m 1 1 == m) = true := by simpa using s1
    have s2 := share_zero m
    have s2' : (shareV m 0 1 == 0) = true := by simpa using s2
    obtain ⟨⟨b1, b2⟩, ⟨b3, b4⟩, _⟩ := ratioOk_iff.1 (shareOk_iff.1 hk).2.1
    have q5 : -1000000000 ≤ shareV m 1 1 ∧ shareV m 1 1 ≤ 1000000000 := by omega
    obtain ⟨q5, q6⟩ := q5
    clear s1 s2
    go_wp2_with fail
    refine (shareI_any m 1 1 _).mono ?_
    rintro e v4 ⟨rfl, hb⟩
    have p0_3 : v4.cell? ⟨v1.heap.size, 0, none⟩ = some (.int .i64 n) := bc hb (by first | exact p0_2 | exact ca p0_2 | exact ca (ca p0_2) | exact ca (ca (ca p0_2)) | (simp; done) | go_simp)
    have p1_3 : v4.cell? ⟨v1.heap.size, 1, none⟩ = some (.int .i64 d) := bc hb (by first | exact p1_2 | exact ca p1_2 | exact ca (ca p1_2) | exact ca (ca (ca p1_2)) | (simp; done) | go_simp)
    have pl_3 : v1.heap.size < v4.heap.size := cell_lt p0_3
    clear p0_2 p1_2 pl_2
    have hszv4 := below_size hb
    try simp at hszv4
    have HBq : Below w.heap.size w v4 := Below.trans (by repeat (first | exact Below.refl _ _ | exact HB.out | refine Below.drew ?_ | refine bel_drewN _ ?_ | refine Below.alloc ?_ (by first | omega | (simp; done) | (simp; omega)) _ | refine Below.setCell ?_ (by first | (show _ ≤ _; omega) | (simp; done) | (simp; omega)) _)) (hb.mono (by first | omega | (simp; done) | (simp; omega)))
    have HB := Lib.hid HBq
    clear HBq hb
    go_wp2_with fail
    refine (shareI_any m 0 1 _).mono ?_
    rintro e v5 ⟨rfl, hb⟩
    have p0_4 : v5.cell? ⟨v1.heap.size, 0, none⟩ = some (.int .i64 n) := bc hb (by first | exact p0_3 | exact ca p0_3 | exact ca (ca p0_3) | exact ca (ca (ca p0_3)) | (simp; done) | go_simp)
    have p1_4 : v5.cell? ⟨v1.heap.size, 1, none⟩ = some (.int .i64 d) := bc hb (by first | exact p1_3 | exact ca p1_3 | exact ca (ca p1_3) | exact ca (ca (ca p1_3)) | (simp; done) | go_simp)
    have pl_4 : v1.heap.size < v5.heap.size := cell_lt p0_4
    clear p0_3 p1_3 pl_3
    have hszv5 := below_size hb
    try simp at hszv5
    have HBq : Below w.heap.size w v5 := Below.trans (by repeat (first | exact Below.refl _ _ | exact HB.out | refine Below.drew ?_ | refine bel_drewN _ ?_ | refine Below.alloc ?_ (by first | omega | (simp; done) | (simp; omega)) _ | refine Below.setCell ?_ (by first | (show _ ≤ _; omega) | (simp; done) | (simp; omega)) _)) (hb.mono (by first | omega | (simp; done) | (simp; omega)))
    have HB := Lib.hid HBq
    clear HBq hb
    go_wp2_with fail
    refine (shareI_any m (d - n) d _).mono ?_
    rintro e v6 ⟨rfl, hb⟩
    have p0_5 : v6.cell? ⟨v1.heap.size, 0, none⟩ = some (.int .i64 n) := bc hb (by first | exact p0_4 | exact ca p0_4 | exact ca (ca p0_4) | exact ca (ca (ca p0_4)) | (simp; done) | go_simp)
    have p1_5 : v6.cell? ⟨v1.heap.size, 1, none⟩ = some (.int .i64 d) := bc hb (by first | exact p1_4 | exact ca p1_4 | exact ca (ca p1_4) | exact ca (ca (ca p1_4)) | (simp; done) | go_simp)
    have pl_5 : v1.heap.size < v6.heap.size := cell_lt p0_5
    clear p0_4 p1_4 pl_4
    have hszv6 := below_size hb
    try simp at hszv6
    have HBq : Below w.heap.size w v6 := Below.trans (by repeat (first | exact Below.refl _ _ | exact HB.out | refine Below.drew ?_ | refine bel_drewN _ ?_ | refine Below.alloc ?_ (by first | omega | (simp; done) | (simp; omega)) _ | refine Below.setCell ?_ (by first | (show _ ≤ _; omega) | (simp; done) | (simp; omega)) _)) (hb.mono (by first | omega | (simp; done) | (simp; omega)))
    have HB := Lib.hid HBq
    clear HBq hb
    go_wp2_with (go_at_call 12; refine (absolute_any _ _ (by omega) (by omega)).mono ?_; rintro e w' ⟨rfl, rfl⟩)
    go_ret
    exact ⟨rfl, HB.out⟩
  · have hk' : shareOk m n d = false := by simpa using hk
    clear hk
    go_wp2
    go_ret
    exact ⟨rfl, HB.out⟩
end Go.Proofs.Ytlobbphhhdklfaa
