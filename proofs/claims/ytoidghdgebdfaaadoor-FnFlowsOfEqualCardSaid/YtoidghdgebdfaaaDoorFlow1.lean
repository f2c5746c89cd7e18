/- Bonds: coupons. -/
import Derived.Test.YtoidghdgebdfaaaDoorSch7
namespace Go.Proofs.YtoidghdgebdfaaaDoor
open Go.RowKit
set_option linter.unusedVariables false
/-- the coupon of a whole period; the day from which a period's days are counted; the coupon of a period -/
def cFull (m r : Int) : Int := near (10000 * r * m) 120000
noncomputable def cFrom (m F T : Int) : Int := if addM T (-m) < 0 then F else addM T (-m)
noncomputable def cpn (m r F T : Int) (W : Bool) : Int := if W = true then cFull m r else near (cFull m r * (T - F)) (T - cFrom m F T)
theorem cFull_bd {m r : Int} (hm : m = 1 ∨ m = 3 ∨ m = 6 ∨ m = 12) (hr : 0 ≤ r ∧ r ≤ 3000) : (0 ≤ 10000 * r * m ∧ 10000 * r * m ≤ 360000000) ∧ 0 ≤ cFull m r ∧ cFull m r ≤ 3000 := by
  unfold cFull near
  rcases hm with rfl | rfl | rfl | rfl <;> omega
theorem cFrom_bd {m F T : Int} (hm : m = 1 ∨ m = 3 ∨ m = 6 ∨ m = 12) (hF : 0 ≤ F) (hFT : F < T) (hT : T ≤ 36524) : 0 ≤ cFrom m F T ∧ cFrom m F T < T := by
  unfold cFrom
  split
  · omega
  · rename_i h
    have z := addM_zero (n := T) ⟨by omega, hT⟩
    have := addM_lt (n := T) (k := -m) (k' := 0) (by omega) (by rw [z]; omega) (by omega)
    rw [z] at this
    omega
theorem cpn_mul {m r F T : Int} (hm : m = 1 ∨ m = 3 ∨ m = 6 ∨ m = 12) (hr : 0 ≤ r ∧ r ≤ 3000) (hF : 0 ≤ F) (hFT : F < T) (hT : T ≤ 36524) : 0 ≤ cFull m r * (T - F) ∧ cFull m r * (T - F) ≤ 3000 * 36524 := by
  obtain ⟨_, a, b⟩ := cFull_bd hm hr
  exact ⟨Int.mul_nonneg a (by omega), Int.mul_le_mul b (by omega) (by omega) (by decide)⟩
theorem near_nonneg' {n d : Int} (hn : 0 ≤ n) (hd : 1 ≤ d) : 0 ≤ near n d := Int.ediv_nonneg (by omega) (by omega)
theorem near_le' {n d : Int} (hn : 0 ≤ n) (hd : 1 ≤ d) : near n d ≤ n := by
  unfold near
  have h := Int.ediv_mul_le (2 * n + d) (b := 2 * d) (by omega)
  by_cases c : (2 * n + d) / (2 * d) ≤ n
  · exact c
  · exfalso
    have h2 : (n + 1) * (2 * d) ≤ (2 * n + d) / (2 * d) * (2 * d) := Int.mul_le_mul_of_nonneg_right (by omega) (by omega)
    have h3 : (n + 1) * (2 * d) = 2 * (n * d) + 2 * d := by rw [Int.add_mul, Int.one_mul, Int.mul_left_comm]
    have h4 : n * 1 ≤ n * d := Int.mul_le_mul_of_nonneg_left hd hn
    omega
theorem cpn_bd {m r F T : Int} {W : Bool} (hm : m = 1 ∨ m = 3 ∨ m = 6 ∨ m = 12) (hr : 0 ≤ r ∧ r ≤ 3000) (hF : 0 ≤ F) (hFT : F < T) (hT : T ≤ 36524) : 0 ≤ cpn m r F T W ∧ cpn m r F T W ≤ 200000000 := by
  obtain ⟨_, a, b⟩ := cFull_bd hm hr
  obtain ⟨c, d⟩ := cpn_mul hm hr hF hFT hT
  obtain ⟨e, f⟩ := cFrom_bd hm hF hFT hT
  unfold cpn
  split
  · omega
  · have := near_nonneg' c (d := T - cFrom m F T) (by omega)
    have := near_le' c (d := T - cFrom m F T) (by omega)
    omega
theorem addS_any (n k : Int) (w : World) (n0 : 0 ≤ n) (n1 : n ≤ 36524) (k0 : -600 ≤ k) (k1 : k ≤ 600) :
    Calls Tryd.prog 65 #[.int .i64 n, .int .i64 k] w fun e w' => e = .returned (.int .i64 (addM n k)) ∧ Below w.heap.size w w' := by
  have e : addM n k = amIn n k := by unfold addM; rw [if_pos (inR_yes ⟨n0, n1⟩), if_pos (inR_yes ⟨k0, k1⟩)]
  rw [e]
  exact addMonthsS_in n k w n0 n1 k0 k1
set_option maxHeartbeats 2000000 in
theorem couponI_any (s e m r F T : Int) (W : Bool) (w : World) (hM : MD w) (hm : m = 1 ∨ m = 3 ∨ m = 6 ∨ m = 12) (hr : 0 ≤ r ∧ r ≤ 3000) (hF : 0 ≤ F) (hFT : F < T) (hT : T ≤ 36524) :
    Calls Tryd.prog 55 #[.agg #[.int .i64 s, .int .i64 e, .int .i64 m, .int .i64 r], .agg #[.int .i64 F, .int .i64 T, .bool W]] w fun ed w' => ed = .returned (.int .i64 (cpn m r F T W)) ∧ Below w.heap.size w w' := by
  have hM1 := hM.size
  have HM := Lib.hid hM
  clear hM
  obtain ⟨⟨p0, p1⟩, a0, a1⟩ := cFull_bd hm hr
  obtain ⟨c0, c1⟩ := cpn_mul hm hr hF hFT hT
  obtain ⟨d0, d1⟩ := cFrom_bd hm hF hFT hT
  have hr0 := hr.1
  have hr1 := hr.2
  have m0 : 1 ≤ m := by omega
  have m1 : m ≤ 12 := by omega
  have t0 : 0 ≤ T := by omega
  have n0 : -600 ≤ -m := by omega
  have n1 : -m ≤ 600 := by omega
  clear hm hr
  have HN : Hid (∀ V : World, Calls Tryd.prog 67 #[.int .i64 (10000 * r * m), .int .i64 120000] V fun ed w' => ed = .returned (.int .i64 (cFull m r)) ∧ V = w') := Lib.hid fun V => nearestI_any _ _ V (by omega) (by omega) (by omega) (by omega)
  have HA : Hid (∀ V : World, MD V → Calls Tryd.prog 62 #[.int .i64 T, .int .i64 (-m)] V fun ed w' => ed = .returned (.int .i64 (addM T (-m))) ∧ Below V.heap.size V w') := Lib.hid fun V h => addMonthsI_any T (-m) V h
  cases W
  · have CP : Hid (cpn m r F T false = near (cFull m r * (T - F)) (T - cFrom m F T)) := Lib.hid (by unfold cpn; rw [if_neg (by decide)])
    have CF : Hid (cFrom m F T = if addM T (-m) < 0 then F else addM T (-m)) := Lib.hid rfl
    have ab := addM_bd T (-m)
    obtain ⟨ab0, ab1⟩ := ab
    generalize cFull m r = U at *
    by_cases hx : addM T (-m) < 0
    · have CF2 : Hid (cFrom m F T = F) := Lib.hid (by rw [CF.out, if_pos hx])
      go_enter Tryd.func55, Tryd.ntmps55
      have HB := Lib.hid (Below.refl w.heap.size w)
      go_wp2_with fail
      refine (HN.out _).mono ?_
      rintro e w1 ⟨rfl, rfl⟩
      go_wp2_with fail
      refine (HA.out _ (by exact HM.out.fwd (by repeat (first | exact Below.refl _ _ | exact HB.out.mono hM1 | refine Below.drew ?_ | refine bel_drewN _ ?_ | refine Below.alloc ?_ (by first | omega | (simp; done) | (simp; omega)) _ | refine Below.setCell ?_ (by first | (show _ ≤ _; omega) | (simp; done) | (simp; omega)) _)))).mono ?_
      rintro e w1 ⟨rfl, hb⟩
      have b0_1 : w1.cell? ⟨w.heap.size, 0, none⟩ = some (.int .i64 s) := bc hb (by first | (simp; done) | go_simp)
      have b1_1 : w1.cell? ⟨w.heap.size, 1, none⟩ = some (.int .i64 e) := bc hb (by first | (simp; done) | go_simp)
      have b2_1 : w1.cell? ⟨w.heap.size, 2, none⟩ = some (.int .i64 m) := bc hb (by first | (simp; done) | go_simp)
      have b3_1 : w1.cell? ⟨w.heap.size, 3, none⟩ = some (.int .i64 r) := bc hb (by first | (simp; done) | go_simp)
      have bl_1 : w.heap.size < w1.heap.size := cell_lt b0_1
      have p0_1 : w1.cell? ⟨w.heap.size + 1, 0, none⟩ = some (.int .i64 F) := bc hb (by first | (simp; done) | go_simp)
      have p1_1 : w1.cell? ⟨w.heap.size + 1, 1, none⟩ = some (.int .i64 T) := bc hb (by first | (simp; done) | go_simp)
      have p2_1 : w1.cell? ⟨w.heap.size + 1, 2, none⟩ = some (.bool false) := bc hb (by first | (simp; done) | go_simp)
      have pl_1 : w.heap.size + 1 < w1.heap.size := cell_lt p0_1
      have hszw1 := below_size hb
      try simp at hszw1
      have HBq : Below w.heap.size w w1 := Below.trans (by repeat (first | exact Below.refl _ _ | exact HB.out | refine Below.drew ?_ | refine bel_drewN _ ?_ | refine Below.alloc ?_ (by first | omega | (simp; done) | (simp; omega)) _ | refine Below.setCell ?_ (by first | (show _ ≤ _; omega) | (simp; done) | (simp; omega)) _)) (hb.mono (by first | omega | (simp; done) | (simp; omega)))
      have HB := Lib.hid HBq
      clear HBq hb
      go_wp2_with fail
      refine (nearestI_any _ _ _ (by omega) (by omega) (by omega) (by omega)).mono ?_
      rintro e w2 ⟨rfl, rfl⟩
      go_wp2
      go_ret
      exact ⟨ret_int (by rw [CP.out, CF2.out]), (by repeat (first | exact Below.refl _ _ | exact HB.out | refine Below.drew ?_ | refine bel_drewN _ ?_ | refine Below.alloc ?_ (by first | omega | (simp; done) | (simp; omega)) _ | refine Below.setCell ?_ (by first | (show _ ≤ _; omega) | (simp; done) | (simp; omega)) _))⟩
    · have CF2 : Hid (cFrom m F T = addM T (-m)) := Lib.hid (by rw [CF.out, if_neg hx])
      rw [CF2.out] at d0 d1
      go_enter Tryd.func55, Tryd.ntmps55
      have HB := Lib.hid (Below.refl w.heap.size w)
      go_wp2_with fail
      refine (HN.out _).mono ?_
      rintro e w1 ⟨rfl, rfl⟩
      go_wp2_with fail
      refine (HA.out _ (by exact HM.out.fwd (by repeat (first | exact Below.refl _ _ | exact HB.out.mono hM1 | refine Below.drew ?_ | refine bel_drewN _ ?_ | refine Below.alloc ?_ (by first | omega | (simp; done) | (simp; omega)) _ | refine Below.setCell ?_ (by first | (show _ ≤ _; omega) | (simp; done) | (simp; omega)) _)))).mono ?_
      rintro e w1 ⟨rfl, hb⟩
      have b0_1 : w1.cell? ⟨w.heap.size, 0, none⟩ = some (.int .i64 s) := bc hb (by first | (simp; done) | go_simp)
      have b1_1 : w1.cell? ⟨w.heap.size, 1, none⟩ = some (.int .i64 e) := bc hb (by first | (simp; done) | go_simp)
      have b2_1 : w1.cell? ⟨w.heap.size, 2, none⟩ = some (.int .i64 m) := bc hb (by first | (simp; done) | go_simp)
      have b3_1 : w1.cell? ⟨w.heap.size, 3, none⟩ = some (.int .i64 r) := bc hb (by first | (simp; done) | go_simp)
      have bl_1 : w.heap.size < w1.heap.size := cell_lt b0_1
      have p0_1 : w1.cell? ⟨w.heap.size + 1, 0, none⟩ = some (.int .i64 F) := bc hb (by first | (simp; done) | go_simp)
      have p1_1 : w1.cell? ⟨w.heap.size + 1, 1, none⟩ = some (.int .i64 T) := bc hb (by first | (simp; done) | go_simp)
      have p2_1 : w1.cell? ⟨w.heap.size + 1, 2, none⟩ = some (.bool false) := bc hb (by first | (simp; done) | go_simp)
      have pl_1 : w.heap.size + 1 < w1.heap.size := cell_lt p0_1
      have hszw1 := below_size hb
      try simp at hszw1
      have HBq : Below w.heap.size w w1 := Below.trans (by repeat (first | exact Below.refl _ _ | exact HB.out | refine Below.drew ?_ | refine bel_drewN _ ?_ | refine Below.alloc ?_ (by first | omega | (simp; done) | (simp; omega)) _ | refine Below.setCell ?_ (by first | (show _ ≤ _; omega) | (simp; done) | (simp; omega)) _)) (hb.mono (by first | omega | (simp; done) | (simp; omega)))
      have HB := Lib.hid HBq
      clear HBq hb
      go_wp2_with fail
      refine (nearestI_any _ _ _ (by omega) (by omega) (by omega) (by omega)).mono ?_
      rintro e w2 ⟨rfl, rfl⟩
      go_wp2
      go_ret
      exact ⟨ret_int (by rw [CP.out, CF2.out]), (by repeat (first | exact Below.refl _ _ | exact HB.out | refine Below.drew ?_ | refine bel_drewN _ ?_ | refine Below.alloc ?_ (by first | omega | (simp; done) | (simp; omega)) _ | refine Below.setCell ?_ (by first | (show _ ≤ _; omega) | (simp; done) | (simp; omega)) _))⟩
  · have CP : Hid (cpn m r F T true = cFull m r) := Lib.hid (by unfold cpn; rw [if_pos rfl])
    generalize cFull m r = U at *
    go_enter Tryd.func55, Tryd.ntmps55
    have HB := Lib.hid (Below.refl w.heap.size w)
    go_wp2_with fail
    refine (HN.out _).mono ?_
    rintro e w1 ⟨rfl, rfl⟩
    go_wp2
    go_ret
    exact ⟨ret_int CP.out.symm, (by repeat (first | exact Below.refl _ _ | exact HB.out | refine Below.drew ?_ | refine bel_drewN _ ?_ | refine Below.alloc ?_ (by first | omega | (simp; done) | (simp; omega)) _ | refine Below.setCell ?_ (by first | (show _ ≤ _; omega) | (simp; done) | (simp; omega)) _))⟩
set_option maxHeartbeats 2000000 in
theorem couponS_any (s e m r F T : Int) (W : Bool) (w : World) (hM : MD w) (hm : m = 1 ∨ m = 3 ∨ m = 6 ∨ m = 12) (hr : 0 ≤ r ∧ r ≤ 3000) (hF : 0 ≤ F) (hFT : F < T) (hT : T ≤ 36524) :
    Calls Tryd.prog 54 #[.agg #[.int .i64 s, .int .i64 e, .int .i64 m, .int .i64 r], .agg #[.int .i64 F, .int .i64 T, .bool W]] w fun ed w' => ed = .returned (.int .i64 (cpn m r F T W)) ∧ Below w.heap.size w w' := by
  have hM1 := hM.size
  have HM := Lib.hid hM
  clear hM
  obtain ⟨⟨p0, p1⟩, a0, a1⟩ := cFull_bd hm hr
  obtain ⟨c0, c1⟩ := cpn_mul hm hr hF hFT hT
  obtain ⟨d0, d1⟩ := cFrom_bd hm hF hFT hT
  have hr0 := hr.1
  have hr1 := hr.2
  have m0 : 1 ≤ m := by omega
  have m1 : m ≤ 12 := by omega
  have t0 : 0 ≤ T := by omega
  have n0 : -600 ≤ -m := by omega
  have n1 : -m ≤ 600 := by omega
  clear hm hr
  have HN : Hid (∀ V : World, Calls Tryd.prog 66 #[.int .i64 (10000 * r * m), .int .i64 120000] V fun ed w' => ed = .returned (.int .i64 (cFull m r)) ∧ V = w') := Lib.hid fun V => nearestS_any _ _ V (by omega) (by omega) (by omega) (by omega)
  have HA : Hid (∀ V : World, MD V → Calls Tryd.prog 65 #[.int .i64 T, .int .i64 (-m)] V fun ed w' => ed = .returned (.int .i64 (addM T (-m))) ∧ Below V.heap.size V w') := Lib.hid fun V h => addS_any T (-m) V t0 hT n0 n1
  cases W
  · have CP : Hid (cpn m r F T false = near (cFull m r * (T - F)) (T - cFrom m F T)) := Lib.hid (by unfold cpn; rw [if_neg (by decide)])
    have CF : Hid (cFrom m F T = if addM T (-m) < 0 then F else addM T (-m)) := Lib.hid rfl
    have ab := addM_bd T (-m)
    obtain ⟨ab0, ab1⟩ := ab
    generalize cFull m r = U at *
    by_cases hx : addM T (-m) < 0
    · have CF2 : Hid (cFrom m F T = F) := Lib.hid (by rw [CF.out, if_pos hx])
      go_enter Tryd.func54, Tryd.ntmps54
      have HB := Lib.hid (Below.refl w.heap.size w)
      go_wp2_with fail
      refine (HN.out _).mono ?_
      rintro e w1 ⟨rfl, rfl⟩
      go_wp2_with fail
      refine (HA.out _ (by exact HM.out.fwd (by repeat (first | exact Below.refl _ _ | exact HB.out.mono hM1 | refine Below.drew ?_ | refine bel_drewN _ ?_ | refine Below.alloc ?_ (by first | omega | (simp; done) | (simp; omega)) _ | refine Below.setCell ?_ (by first | (show _ ≤ _; omega) | (simp; done) | (simp; omega)) _)))).mono ?_
      rintro e w1 ⟨rfl, hb⟩
      have b0_1 : w1.cell? ⟨w.heap.size, 0, none⟩ = some (.int .i64 s) := bc hb (by first | (simp; done) | go_simp)
      have b1_1 : w1.cell? ⟨w.heap.size, 1, none⟩ = some (.int .i64 e) := bc hb (by first | (simp; done) | go_simp)
      have b2_1 : w1.cell? ⟨w.heap.size, 2, none⟩ = some (.int .i64 m) := bc hb (by first | (simp; done) | go_simp)
      have b3_1 : w1.cell? ⟨w.heap.size, 3, none⟩ = some (.int .i64 r) := bc hb (by first | (simp; done) | go_simp)
      have bl_1 : w.heap.size < w1.heap.size := cell_lt b0_1
      have p0_1 : w1.cell? ⟨w.heap.size + 1, 0, none⟩ = some (.int .i64 F) := bc hb (by first | (simp; done) | go_simp)
      have p1_1 : w1.cell? ⟨w.heap.size + 1, 1, none⟩ = some (.int .i64 T) := bc hb (by first | (simp; done) | go_simp)
      have p2_1 : w1.cell? ⟨w.heap.size + 1, 2, none⟩ = some (.bool false) := bc hb (by first | (simp; done) | go_simp)
      have pl_1 : w.heap.size + 1 < w1.heap.size := cell_lt p0_1
      have hszw1 := below_size hb
      try simp at hszw1
      have HBq : Below w.heap.size w w1 := Below.trans (by repeat (first | exact Below.refl _ _ | exact HB.out | refine Below.drew ?_ | refine bel_drewN _ ?_ | refine Below.alloc ?_ (by first | omega | (simp; done) | (simp; omega)) _ | refine Below.setCell ?_ (by first | (show _ ≤ _; omega) | (simp; done) | (simp; omega)) _)) (hb.mono (by first | omega | (simp; done) | (simp; omega)))
      have HB := Lib.hid HBq
      clear HBq hb
      go_wp2_with fail
      refine (nearestS_any _ _ _ (by omega) (by omega) (by omega) (by omega)).mono ?_
      rintro e w2 ⟨rfl, rfl⟩
      go_wp2
      go_ret
      exact ⟨ret_int (by rw [CP.out, CF2.out]), (by repeat (first | exact Below.refl _ _ | exact HB.out | refine Below.drew ?_ | refine bel_drewN _ ?_ | refine Below.alloc ?_ (by first | omega | (simp; done) | (simp; omega)) _ | refine Below.setCell ?_ (by first | (show _ ≤ _; omega) | (simp; done) | (simp; omega)) _))⟩
    · have CF2 : Hid (cFrom m F T = addM T (-m)) := Lib.hid (by rw [CF.out, if_neg hx])
      rw [CF2.out] at d0 d1
      go_enter Tryd.func54, Tryd.ntmps54
      have HB := Lib.hid (Below.refl w.heap.size w)
      go_wp2_with fail
      refine (HN.out _).mono ?_
      rintro e w1 ⟨rfl, rfl⟩
      go_wp2_with fail
      refine (HA.out _ (by exact HM.out.fwd (by repeat (first | exact Below.refl _ _ | exact HB.out.mono hM1 | refine Below.drew ?_ | refine bel_drewN _ ?_ | refine Below.alloc ?_ (by first | omega | (simp; done) | (simp; omega)) _ | refine Below.setCell ?_ (by first | (show _ ≤ _; omega) | (simp; done) | (simp; omega)) _)))).mono ?_
      rintro e w1 ⟨rfl, hb⟩
      have b0_1 : w1.cell? ⟨w.heap.size, 0, none⟩ = some (.int .i64 s) := bc hb (by first | (simp; done) | go_simp)
      have b1_1 : w1.cell? ⟨w.heap.size, 1, none⟩ = some (.int .i64 e) := bc hb (by first | (simp; done) | go_simp)
      have b2_1 : w1.cell? ⟨w.heap.size, 2, none⟩ = some (.int .i64 m) := bc hb (by first | (simp; done) | go_simp)
      have b3_1 : w1.cell? ⟨w.heap.size, 3, none⟩ = some (.int .i64 r) := bc hb (by first | (simp; done) | go_simp)
      have bl_1 : w.heap.size < w1.heap.size := cell_lt b0_1
      have p0_1 : w1.cell? ⟨w.heap.size + 1, 0, none⟩ = some (.int .i64 F) := bc hb (by first | (simp; done) | go_simp)
      have p1_1 : w1.cell? ⟨w.heap.size + 1, 1, none⟩ = some (.int .i64 T) := bc hb (by first | (simp; done) | go_simp)
      have p2_1 : w1.cell? ⟨w.heap.size + 1, 2, none⟩ = some (.bool false) := bc hb (by first | (simp; done) | go_simp)
      have pl_1 : w.heap.size + 1 < w1.heap.size := cell_lt p0_1
      have hszw1 := below_size hb
      try simp at hszw1
      have HBq : Below w.heap.size w w1 := Below.trans (by repeat (first | exact Below.refl _ _ | exact HB.out | refine Below.drew ?_ | refine bel_drewN _ ?_ | refine Below.alloc ?_ (by first | omega | (simp; done) | (simp; omega)) _ | refine Below.setCell ?_ (by first | (show _ ≤ _; omega) | (simp; done) | (simp; omega)) _)) (hb.mono (by first | omega | (simp; done) | (simp; omega)))
      have HB := Lib.hid HBq
      clear HBq hb
      go_wp2_with fail
      refine (nearestS_any _ _ _ (by omega) (by omega) (by omega) (by omega)).mono ?_
      rintro e w2 ⟨rfl, rfl⟩
      go_wp2
      go_ret
      exact ⟨ret_int (by rw [CP.out, CF2.out]), (by repeat (first | exact Below.refl _ _ | exact HB.out | refine Below.drew ?_ | refine bel_drewN _ ?_ | refine Below.alloc ?_ (by first | omega | (simp; done) | (simp; omega)) _ | refine Below.setCell ?_ (by first | (show _ ≤ _; omega) | (simp; done) | (simp; omega)) _))⟩
  · have CP : Hid (cpn m r F T true = cFull m r) := Lib.hid (by unfold cpn; rw [if_pos rfl])
    generalize cFull m r = U at *
    go_enter Tryd.func54, Tryd.ntmps54
    have HB := Lib.hid (Below.refl w.heap.size w)
    go_wp2_with fail
    refine (HN.out _).mono ?_
    rintro e w1 ⟨rfl, rfl⟩
    go_wp2
    go_ret
    exact ⟨ret_int CP.out.symm, (by repeat (first | exact Below.refl _ _ | exact HB.out | refine Below.drew ?_ | refine bel_drewN _ ?_ | refine Below.alloc ?_ (by first | omega | (simp; done) | (simp; omega)) _ | refine Below.setCell ?_ (by first | (show _ ≤ _; omega) | (simp; done) | (simp; omega)) _))⟩
end Go.Proofs.YtoidghdgebdfaaaDoor
