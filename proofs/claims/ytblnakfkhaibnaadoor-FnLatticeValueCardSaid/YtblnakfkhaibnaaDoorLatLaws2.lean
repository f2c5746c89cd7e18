/- The laws over lattices: calls and coupons. -/
import Derived.Test.YtblnakfkhaibnaaDoorLatLaws
namespace Go.Proofs.YtblnakfkhaibnaaDoor
open Go.RowKit
set_option linter.unusedVariables false
def mn3 (n : Int) : Int := if 3000 < n then 3000 else n
theorem mn3_min (n : Int) : (if 3000 < n then (3000 : Int) else n) = mn3 n := rfl
theorem mn3_min' (n : Int) : (if n < 3000 then n else (3000 : Int)) = mn3 n := by unfold mn3; split <;> split <;> omega
theorem lvB_with {s r p c c' k k' : Int} (h : lvB s r p c k = true) (hc : 0 ≤ c' ∧ c' ≤ 3000) (hk : k' = 0 ∨ 50 ≤ k' ∧ k' ≤ 200) : lvB s r p c' k' = true :=
  lvB_iff.2 ⟨(lvB_iff.1 h).1, hc, hk⟩
theorem lv_all {s r p c k : Int} (h : ¬ lvH s r p c k = 0) :
    lvL s r p c k ≤ lvH s r p c k ∧ lvL s r p c k ≤ lvL s r p c 0 ∧ lvH s r p c k ≤ lvH s r p c 0 ∧ lvL s r p c k ≤ lvL s r p (mn3 (c + 10)) k ∧ lvH s r p c k ≤ lvH s r p (mn3 (c + 10)) k := by
  have hb := lvB_of h
  obtain ⟨_, hc, hk⟩ := lvB_iff.1 hb
  have m0 : c ≤ mn3 (c + 10) ∧ mn3 (c + 10) ≤ 3000 := by unfold mn3; split <;> omega
  have a := lv_mono hb (lvB_with (c' := c) (k' := 0) hb hc (.inl rfl)) (Int.le_refl _) (Int.le_refl _) (.inl rfl)
  have b := lv_mono hb (lvB_with (c' := mn3 (c + 10)) (k' := k) hb ⟨by omega, m0.2⟩ hk) (Int.le_refl _) m0.1 (.inr (.inl rfl))
  exact ⟨(lv_bd s r p c k).2.1, a.1, a.2, b.1, b.2⟩
set_option maxHeartbeats 4000000 in
theorem fnLatticeValue_walk (a : Option Addr) (len cap : Nat) (w : World) (hlc : len ≤ cap) (hc : cap ≤ maxLen) (h : IsBytes w a len) :
    Calls Tryd.prog 5 #[.slice a len cap] w fun e w' => e = .returned (.bool true) ∧ Below w.heap.size w w' := by
  by_cases hbig : 1048576 < len
  · exact big_FnLatticeValue a len cap w hlc hc hbig
  have H := Lib.hid h
  clear h
  go_enter Tryd.func5, Tryd.ntmps5
  have HB := Lib.hid (Below.refl w.heap.size w)
  go_wp2_with fail
  refine (drawLatticeValue_any _ _ _ _ hlc hc H.out).mono ?_
  rintro e w1 ⟨s, x, p, c, k, rfl, hs, hx, hp, hcc, hk, hb⟩
  have hszw1 := below_size hb
  try simp at hszw1
  have HBq : Below w.heap.size w w1 := Below.trans (by repeat (first | exact Below.refl _ _ | exact HB.out | refine Below.drew ?_ | refine bel_drewN _ ?_ | refine Below.alloc ?_ (by first | omega | (simp; done) | (simp; omega)) _ | refine Below.setCell ?_ (by first | (show _ ≤ _; omega) | (simp; done) | (simp; omega)) _)) (hb.mono (by first | omega | (simp; done) | (simp; omega)))
  have HB := Lib.hid HBq
  clear HBq hb
  have HI := Lib.hid (fun W => latValueI_any s x p c k W)
  have HS := Lib.hid (fun W => latValueS_any s x p c k W)
  have HJ := Lib.hid (fun W => latValueI_any s x p c 0 W)
  have HN := Lib.hid (fun W => latValueI_any s x p (mn3 (c + 10)) k W)
  unfold RP at HI HS HJ HN
  have hE := @lv_all s x p c k
  have hm := mn3_min (c + 10)
  have hm' := mn3_min' (c + 10)
  generalize lvL s x p c k = L at *
  generalize lvH s x p c k = M at *
  generalize lvL s x p c 0 = L2 at *
  generalize lvH s x p c 0 = M2 at *
  generalize lvL s x p (mn3 (c + 10)) k = L3 at *
  generalize lvH s x p (mn3 (c + 10)) k = M3 at *
  generalize mn3 (c + 10) = C at *
  clear hs hp hk hx
  by_cases hz : M = 0
  · subst hz
    clear hE HJ HN
    go_wp2_with fail
    refine (HI.out _).mono ?_
    rintro e w2 ⟨rfl, hb⟩
    have l0_1 : w2.cell? ⟨w1.heap.size, 0, none⟩ = some (.int .i64 s) := bc hb (by first | (simp; done) | go_simp)
    have l1_1 : w2.cell? ⟨w1.heap.size, 1, none⟩ = some (.int .i64 x) := bc hb (by first | (simp; done) | go_simp)
    have l2_1 : w2.cell? ⟨w1.heap.size, 2, none⟩ = some (.int .i64 p) := bc hb (by first | (simp; done) | go_simp)
    have ll_1 : w1.heap.size < w2.heap.size := cell_lt l0_1
    have hszw2 := below_size hb
    try simp at hszw2
    have HBq : Below w.heap.size w w2 := Below.trans (by repeat (first | exact Below.refl _ _ | exact HB.out | refine Below.drew ?_ | refine bel_drewN _ ?_ | refine Below.alloc ?_ (by first | omega | (simp; done) | (simp; omega)) _ | refine Below.setCell ?_ (by first | (show _ ≤ _; omega) | (simp; done) | (simp; omega)) _)) (hb.mono (by first | omega | (simp; done) | (simp; omega)))
    have HB := Lib.hid HBq
    clear HBq hb
    go_wp2_with fail
    go_region_held3 (fun w' => (w'.cell? ⟨w2.heap.size, 0, none⟩ = some (.int .i64 L) ∧ w'.cell? ⟨w2.heap.size, 1, none⟩ = some (.int .i64 0)) ∧ w'.cell? ⟨w1.heap.size, 0, none⟩ = some (.int .i64 s) ∧ w'.cell? ⟨w1.heap.size, 1, none⟩ = some (.int .i64 x) ∧ w'.cell? ⟨w1.heap.size, 2, none⟩ = some (.int .i64 p))
      ((go_split_ands; refine ⟨⟨?_, ?_⟩, ?_, ?_, ?_⟩ <;> first | assumption | (with_reducible exact bc hb (by assumption)) | (exact ca (w := w2) (by assumption)) | (exact new_cell (W := w2) rfl rfl) | (simp; done)))
      (first | (go_at_call 9; (with_reducible refine (HS.out _).mono ?_); rintro e v3 ⟨rfl, hb⟩))
    all_goals
      have l0_2 : v3.cell? ⟨w1.heap.size, 0, none⟩ = some (.int .i64 s) := bc hb (by first | exact l0_1 | exact ca l0_1 | exact ca (ca l0_1) | exact ca (ca (ca l0_1)) | (simp; done) | go_simp)
      have l1_2 : v3.cell? ⟨w1.heap.size, 1, none⟩ = some (.int .i64 x) := bc hb (by first | exact l1_1 | exact ca l1_1 | exact ca (ca l1_1) | exact ca (ca (ca l1_1)) | (simp; done) | go_simp)
      have l2_2 : v3.cell? ⟨w1.heap.size, 2, none⟩ = some (.int .i64 p) := bc hb (by first | exact l2_1 | exact ca l2_1 | exact ca (ca l2_1) | exact ca (ca (ca l2_1)) | (simp; done) | go_simp)
      have ll_2 : w1.heap.size < v3.heap.size := cell_lt l0_2
      clear l0_1 l1_1 l2_1 ll_1
      have v0_1 : v3.cell? ⟨w2.heap.size, 0, none⟩ = some (.int .i64 L) := bc hb (by first | (simp; done) | go_simp)
      have v1_1 : v3.cell? ⟨w2.heap.size, 1, none⟩ = some (.int .i64 0) := bc hb (by first | (simp; done) | go_simp)
      have vl_1 : w2.heap.size < v3.heap.size := cell_lt v0_1
      have hszv3 := below_size hb
      try simp at hszv3
      have HBq : Below w.heap.size w v3 := Below.trans (by repeat (first | exact Below.refl _ _ | exact HB.out | refine Below.drew ?_ | refine bel_drewN _ ?_ | refine Below.alloc ?_ (by first | omega | (simp; done) | (simp; omega)) _ | refine Below.setCell ?_ (by first | (show _ ≤ _; omega) | (simp; done) | (simp; omega)) _)) (hb.mono (by first | omega | (simp; done) | (simp; omega)))
      have HB := Lib.hid HBq
      clear HBq hb
      go_wp2_with fail
      go_region_held3 (fun w' => (w'.cell? ⟨w2.heap.size, 0, none⟩ = some (.int .i64 L) ∧ w'.cell? ⟨w2.heap.size, 1, none⟩ = some (.int .i64 0)) ∧ w'.cell? ⟨w1.heap.size, 0, none⟩ = some (.int .i64 s) ∧ w'.cell? ⟨w1.heap.size, 1, none⟩ = some (.int .i64 x) ∧ w'.cell? ⟨w1.heap.size, 2, none⟩ = some (.int .i64 p))
        ((go_split_ands; refine ⟨⟨?_, ?_⟩, ?_, ?_, ?_⟩ <;> first | assumption | (with_reducible exact bc hb (by assumption)) | (show v3.cell? _ = _; assumption) | (simp; done)))
        (first | (go_at_call 9; (with_reducible refine (HS.out _).mono ?_); rintro e v4 ⟨rfl, hb⟩))
      all_goals
        have l0_3 : v4.cell? ⟨w1.heap.size, 0, none⟩ = some (.int .i64 s) := bc hb (by first | exact l0_2 | exact ca l0_2 | exact ca (ca l0_2) | exact ca (ca (ca l0_2)) | (simp; done) | go_simp)
        have l1_3 : v4.cell? ⟨w1.heap.size, 1, none⟩ = some (.int .i64 x) := bc hb (by first | exact l1_2 | exact ca l1_2 | exact ca (ca l1_2) | exact ca (ca (ca l1_2)) | (simp; done) | go_simp)
        have l2_3 : v4.cell? ⟨w1.heap.size, 2, none⟩ = some (.int .i64 p) := bc hb (by first | exact l2_2 | exact ca l2_2 | exact ca (ca l2_2) | exact ca (ca (ca l2_2)) | (simp; done) | go_simp)
        have ll_3 : w1.heap.size < v4.heap.size := cell_lt l0_3
        clear l0_2 l1_2 l2_2 ll_2
        have v0_2 : v4.cell? ⟨w2.heap.size, 0, none⟩ = some (.int .i64 L) := bc hb (by first | exact v0_1 | exact ca v0_1 | exact ca (ca v0_1) | exact ca (ca (ca v0_1)) | (simp; done) | go_simp)
        have v1_2 : v4.cell? ⟨w2.heap.size, 1, none⟩ = some (.int .i64 0) := bc hb (by first | exact v1_1 | exact ca v1_1 | exact ca (ca v1_1) | exact ca (ca (ca v1_1)) | (simp; done) | go_simp)
        have vl_2 : w2.heap.size < v4.heap.size := cell_lt v0_2
        clear v0_1 v1_1 vl_1
        have hszv4 := below_size hb
        try simp at hszv4
        have HBq : Below w.heap.size w v4 := Below.trans (by repeat (first | exact Below.refl _ _ | exact HB.out | refine Below.drew ?_ | refine bel_drewN _ ?_ | refine Below.alloc ?_ (by first | omega | (simp; done) | (simp; omega)) _ | refine Below.setCell ?_ (by first | (show _ ≤ _; omega) | (simp; done) | (simp; omega)) _)) (hb.mono (by first | omega | (simp; done) | (simp; omega)))
        have HB := Lib.hid HBq
        clear HBq hb
        go_wp2
        go_ret
        exact ⟨ret_bool (by first | rfl | simp), (by repeat (first | exact Below.refl _ _ | exact HB.out | refine Below.drew ?_ | refine bel_drewN _ ?_ | refine Below.alloc ?_ (by first | omega | (simp; done) | (simp; omega)) _ | refine Below.setCell ?_ (by first | (show _ ≤ _; omega) | (simp; done) | (simp; omega)) _))⟩
  · have hz' : (M == 0) = false := by simp [hz]
    have E := Lib.hid (hE hz)
    clear hE
    go_wp2_with fail
    refine (HI.out _).mono ?_
    rintro e w2 ⟨rfl, hb⟩
    have l0_1 : w2.cell? ⟨w1.heap.size, 0, none⟩ = some (.int .i64 s) := bc hb (by first | (simp; done) | go_simp)
    have l1_1 : w2.cell? ⟨w1.heap.size, 1, none⟩ = some (.int .i64 x) := bc hb (by first | (simp; done) | go_simp)
    have l2_1 : w2.cell? ⟨w1.heap.size, 2, none⟩ = some (.int .i64 p) := bc hb (by first | (simp; done) | go_simp)
    have ll_1 : w1.heap.size < w2.heap.size := cell_lt l0_1
    have hszw2 := below_size hb
    try simp at hszw2
    have HBq : Below w.heap.size w w2 := Below.trans (by repeat (first | exact Below.refl _ _ | exact HB.out | refine Below.drew ?_ | refine bel_drewN _ ?_ | refine Below.alloc ?_ (by first | omega | (simp; done) | (simp; omega)) _ | refine Below.setCell ?_ (by first | (show _ ≤ _; omega) | (simp; done) | (simp; omega)) _)) (hb.mono (by first | omega | (simp; done) | (simp; omega)))
    have HB := Lib.hid HBq
    clear HBq hb
    go_wp2_with fail
    go_region_held3 (fun w' => (w'.cell? ⟨w2.heap.size, 0, none⟩ = some (.int .i64 L) ∧ w'.cell? ⟨w2.heap.size, 1, none⟩ = some (.int .i64 M)) ∧ w'.cell? ⟨w1.heap.size, 0, none⟩ = some (.int .i64 s) ∧ w'.cell? ⟨w1.heap.size, 1, none⟩ = some (.int .i64 x) ∧ w'.cell? ⟨w1.heap.size, 2, none⟩ = some (.int .i64 p))
      ((go_split_ands; refine ⟨⟨?_, ?_⟩, ?_, ?_, ?_⟩ <;> first | assumption | (with_reducible exact bc hb (by assumption)) | (exact ca (w := w2) (by assumption)) | (exact new_cell (W := w2) rfl rfl) | (simp; done)))
      (first | (go_at_call 9; (with_reducible refine (HS.out _).mono ?_); rintro e v3 ⟨rfl, hb⟩))
    all_goals
      have l0_2 : v3.cell? ⟨w1.heap.size, 0, none⟩ = some (.int .i64 s) := bc hb (by first | exact l0_1 | exact ca l0_1 | exact ca (ca l0_1) | exact ca (ca (ca l0_1)) | (simp; done) | go_simp)
      have l1_2 : v3.cell? ⟨w1.heap.size, 1, none⟩ = some (.int .i64 x) := bc hb (by first | exact l1_1 | exact ca l1_1 | exact ca (ca l1_1) | exact ca (ca (ca l1_1)) | (simp; done) | go_simp)
      have l2_2 : v3.cell? ⟨w1.heap.size, 2, none⟩ = some (.int .i64 p) := bc hb (by first | exact l2_1 | exact ca l2_1 | exact ca (ca l2_1) | exact ca (ca (ca l2_1)) | (simp; done) | go_simp)
      have ll_2 : w1.heap.size < v3.heap.size := cell_lt l0_2
      clear l0_1 l1_1 l2_1 ll_1
      have v0_1 : v3.cell? ⟨w2.heap.size, 0, none⟩ = some (.int .i64 L) := bc hb (by first | (simp; done) | go_simp)
      have v1_1 : v3.cell? ⟨w2.heap.size, 1, none⟩ = some (.int .i64 M) := bc hb (by first | (simp; done) | go_simp)
      have vl_1 : w2.heap.size < v3.heap.size := cell_lt v0_1
      have hszv3 := below_size hb
      try simp at hszv3
      have HBq : Below w.heap.size w v3 := Below.trans (by repeat (first | exact Below.refl _ _ | exact HB.out | refine Below.drew ?_ | refine bel_drewN _ ?_ | refine Below.alloc ?_ (by first | omega | (simp; done) | (simp; omega)) _ | refine Below.setCell ?_ (by first | (show _ ≤ _; omega) | (simp; done) | (simp; omega)) _)) (hb.mono (by first | omega | (simp; done) | (simp; omega)))
      have HB := Lib.hid HBq
      clear HBq hb
      go_wp2_with fail
      refine (HJ.out _).mono ?_
      rintro e w4 ⟨rfl, hb⟩
      have l0_3 : w4.cell? ⟨w1.heap.size, 0, none⟩ = some (.int .i64 s) := bc hb (by first | exact l0_2 | exact ca l0_2 | exact ca (ca l0_2) | exact ca (ca (ca l0_2)) | (simp; done) | go_simp)
      have l1_3 : w4.cell? ⟨w1.heap.size, 1, none⟩ = some (.int .i64 x) := bc hb (by first | exact l1_2 | exact ca l1_2 | exact ca (ca l1_2) | exact ca (ca (ca l1_2)) | (simp; done) | go_simp)
      have l2_3 : w4.cell? ⟨w1.heap.size, 2, none⟩ = some (.int .i64 p) := bc hb (by first | exact l2_2 | exact ca l2_2 | exact ca (ca l2_2) | exact ca (ca (ca l2_2)) | (simp; done) | go_simp)
      have ll_3 : w1.heap.size < w4.heap.size := cell_lt l0_3
      clear l0_2 l1_2 l2_2 ll_2
      have v0_2 : w4.cell? ⟨w2.heap.size, 0, none⟩ = some (.int .i64 L) := bc hb (by first | exact v0_1 | exact ca v0_1 | exact ca (ca v0_1) | exact ca (ca (ca v0_1)) | (simp; done) | go_simp)
      have v1_2 : w4.cell? ⟨w2.heap.size, 1, none⟩ = some (.int .i64 M) := bc hb (by first | exact v1_1 | exact ca v1_1 | exact ca (ca v1_1) | exact ca (ca (ca v1_1)) | (simp; done) | go_simp)
      have vl_2 : w2.heap.size < w4.heap.size := cell_lt v0_2
      clear v0_1 v1_1 vl_1
      have hszw4 := below_size hb
      try simp at hszw4
      have HBq : Below w.heap.size w w4 := Below.trans (by repeat (first | exact Below.refl _ _ | exact HB.out | refine Below.drew ?_ | refine bel_drewN _ ?_ | refine Below.alloc ?_ (by first | omega | (simp; done) | (simp; omega)) _ | refine Below.setCell ?_ (by first | (show _ ≤ _; omega) | (simp; done) | (simp; omega)) _)) (hb.mono (by first | omega | (simp; done) | (simp; omega)))
      have HB := Lib.hid HBq
      clear HBq hb
      go_wp2_with fail
      refine (HN.out _).mono ?_
      rintro e w5 ⟨rfl, hb⟩
      have l0_4 : w5.cell? ⟨w1.heap.size, 0, none⟩ = some (.int .i64 s) := bc hb (by first | exact l0_3 | exact ca l0_3 | exact ca (ca l0_3) | exact ca (ca (ca l0_3)) | (simp; done) | go_simp)
      have l1_4 : w5.cell? ⟨w1.heap.size, 1, none⟩ = some (.int .i64 x) := bc hb (by first | exact l1_3 | exact ca l1_3 | exact ca (ca l1_3) | exact ca (ca (ca l1_3)) | (simp; done) | go_simp)
      have l2_4 : w5.cell? ⟨w1.heap.size, 2, none⟩ = some (.int .i64 p) := bc hb (by first | exact l2_3 | exact ca l2_3 | exact ca (ca l2_3) | exact ca (ca (ca l2_3)) | (simp; done) | go_simp)
      have ll_4 : w1.heap.size < w5.heap.size := cell_lt l0_4
      clear l0_3 l1_3 l2_3 ll_3
      have v0_3 : w5.cell? ⟨w2.heap.size, 0, none⟩ = some (.int .i64 L) := bc hb (by first | exact v0_2 | exact ca v0_2 | exact ca (ca v0_2) | exact ca (ca (ca v0_2)) | (simp; done) | go_simp)
      have v1_3 : w5.cell? ⟨w2.heap.size, 1, none⟩ = some (.int .i64 M) := bc hb (by first | exact v1_2 | exact ca v1_2 | exact ca (ca v1_2) | exact ca (ca (ca v1_2)) | (simp; done) | go_simp)
      have vl_3 : w2.heap.size < w5.heap.size := cell_lt v0_3
      clear v0_2 v1_2 vl_2
      have u0_1 : w5.cell? ⟨w4.heap.size, 0, none⟩ = some (.int .i64 L2) := bc hb (by first | (simp; done) | go_simp)
      have u1_1 : w5.cell? ⟨w4.heap.size, 1, none⟩ = some (.int .i64 M2) := bc hb (by first | (simp; done) | go_simp)
      have ul_1 : w4.heap.size < w5.heap.size := cell_lt u0_1
      have hszw5 := below_size hb
      try simp at hszw5
      have HBq : Below w.heap.size w w5 := Below.trans (by repeat (first | exact Below.refl _ _ | exact HB.out | refine Below.drew ?_ | refine bel_drewN _ ?_ | refine Below.alloc ?_ (by first | omega | (simp; done) | (simp; omega)) _ | refine Below.setCell ?_ (by first | (show _ ≤ _; omega) | (simp; done) | (simp; omega)) _)) (hb.mono (by first | omega | (simp; done) | (simp; omega)))
      have HB := Lib.hid HBq
      clear HBq hb
      obtain ⟨e1, e2, e3, e4, e5⟩ := E.out
      have d1 : decide (L ≤ M) = true := decide_eq_true e1
      have d2 : decide (L ≤ L2) = true := decide_eq_true e2
      have d3 : decide (M ≤ M2) = true := decide_eq_true e3
      have d4 : decide (L ≤ L3) = true := decide_eq_true e4
      have d5 : decide (M ≤ M3) = true := decide_eq_true e5
      go_wp2
      go_ret
      exact ⟨ret_bool (by first | rfl | simp), (by repeat (first | exact Below.refl _ _ | exact HB.out | refine Below.drew ?_ | refine bel_drewN _ ?_ | refine Below.alloc ?_ (by first | omega | (simp; done) | (simp; omega)) _ | refine Below.setCell ?_ (by first | (show _ ≤ _; omega) | (simp; done) | (simp; omega)) _))⟩
end Go.Proofs.YtblnakfkhaibnaaDoor
