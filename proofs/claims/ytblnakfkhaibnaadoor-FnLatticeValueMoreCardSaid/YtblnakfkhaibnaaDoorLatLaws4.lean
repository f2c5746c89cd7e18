/- The laws over lattices: without moves. -/
import Derived.Test.YtblnakfkhaibnaaDoorLatLaws
namespace Go.Proofs.YtblnakfkhaibnaaDoor
open Go.RowKit
set_option linter.unusedVariables false
def mnR (c x : Int) : Int := if x < c then x else c
theorem mnR_min (c x : Int) : (if x < c then x else c) = mnR c x := rfl
theorem mnR_min' (c x : Int) : (if c < x then c else x) = mnR c x := by unfold mnR; split <;> split <;> omega
theorem lv_flat {s r p c k : Int} (h : ¬ lvH s r p c k = 0) : lvL s r 0 (mnR c r) 200 = lvL s r 0 (mnR c r) 0 ∧ lvH s r 0 (mnR c r) 200 = lvH s r 0 (mnR c r) 0 := by
  obtain ⟨a, b, _⟩ := lvB_iff.1 (lvB_of h)
  obtain ⟨⟨s0, s1⟩, ⟨p0, p1⟩, h1, h2⟩ := latB_iff.1 a
  have sp : 0 ≤ s * p := Int.mul_nonneg (by omega) p0
  have a0 : latB s r 0 = true := latB_iff.2 ⟨⟨s0, s1⟩, ⟨by omega, by omega⟩, by rw [Int.mul_zero]; omega, by rw [Int.mul_zero]; omega⟩
  have m0 : 0 ≤ mnR c r ∧ mnR c r ≤ r ∧ mnR c r ≤ 3000 := by unfold mnR; split <;> omega
  have v2 : lvB s r 0 (mnR c r) 200 = true := lvB_iff.2 ⟨a0, ⟨m0.1, m0.2.2⟩, .inr (by omega)⟩
  have v0 : lvB s r 0 (mnR c r) 0 = true := lvB_iff.2 ⟨a0, ⟨m0.1, m0.2.2⟩, .inl rfl⟩
  obtain ⟨e1, e2⟩ := lv_yes v2
  obtain ⟨e3, e4⟩ := lv_yes v0
  rw [e1, e2, e3, e4]
  exact lflat_same a0 m0.1 m0.2.1 s.toNat 0 (by omega) (by omega)
set_option maxHeartbeats 4000000 in
theorem fnLatticeValueMore_walk (a : Option Addr) (len cap : Nat) (w : World) (hlc : len ≤ cap) (hc : cap ≤ maxLen) (h : IsBytes w a len) :
    Calls Tryd.prog 6 #[.slice a len cap] w fun e w' => e = .returned (.bool true) ∧ Below w.heap.size w w' := by
  by_cases hbig : 1048576 < len
  · exact big_FnLatticeValueMore a len cap w hlc hc hbig
  have H := Lib.hid h
  clear h
  go_enter Tryd.func6, Tryd.ntmps6
  have HB := Lib.hid (Below.refl w.heap.size w)
  go_wp2_with fail
  refine (drawLatticeValue_any _ _ _ _ hlc hc H.out).mono ?_
  rintro e w1 ⟨s, x, p, c, k, rfl, hs, hx, hp, hcc, hk, hb⟩
  have hszw1 := below_size hb
  try simp at hszw1
  have HBq : Below w.heap.size w w1 := Below.trans (by repeat (first | exact Below.refl _ _ | exact HB.out | refine Below.drew ?_ | refine bel_drewN _ ?_ | refine Below.alloc ?_ (by first | omega | (simp; done) | (simp; omega)) _ | refine Below.setCell ?_ (by first | (show _ ≤ _; omega) | (simp; done) | (simp; omega)) _)) (hb.mono (by first | omega | (simp; done) | (simp; omega)))
  have HB := Lib.hid HBq
  clear HBq hb
  have HI := Lib.hid (fun W => latValueI_any s x p c k W)
  have HS := Lib.hid (fun W => latValueS_any s x p c k W)
  have HJ := Lib.hid (fun W => latValueI_any s x 0 (mnR c x) 200 W)
  have HK := Lib.hid (fun W => latValueI_any s x 0 (mnR c x) 0 W)
  unfold RP at HI HS HJ HK
  have hE := @lv_flat s x p c k
  have hm := mnR_min c x
  have hm' := mnR_min' c x
  generalize lvL s x p c k = L at *
  generalize lvH s x p c k = M at *
  generalize lvL s x 0 (mnR c x) 200 = L2 at *
  generalize lvH s x 0 (mnR c x) 200 = M2 at *
  generalize lvL s x 0 (mnR c x) 0 = L3 at *
  generalize lvH s x 0 (mnR c x) 0 = M3 at *
  generalize mnR c x = C at *
  clear hs hp hcc hk
  by_cases hz : M = 0
  · subst hz
    clear hE HJ HK
    go_wp2_with fail
    refine (HI.out _).mono ?_
    rintro e w2 ⟨rfl, hb⟩
    have l0_1 : w2.cell? ⟨w1.heap.size, 0, none⟩ = some (.int .i64 s) := bc hb (by first | (simp; done) | go_simp)
    have l1_1 : w2.cell? ⟨w1.heap.size, 1, none⟩ = some (.int .i64 x) := bc hb (by first | (simp; done) | go_simp)
    have l2_1 : w2.cell? ⟨w1.heap.size, 2, none⟩ = some (.int .i64 p) := bc hb (by first | (simp; done) | go_simp)
    have ll_1 : w1.heap.size < w2.heap.size := cell_lt l0_1
    have hszw2 := below_size hb
    try simp at hszw2
    have HBq : Below w.heap.size w w2 := Below.trans (by repeat (first | exact Below.refl _ _ | exact HB.out | refine Below.drew ?_ | refine bel_drewN _ ?_ | refine Below.alloc ?_ (by first | omega | (simp; done) | (simp; omega)) _ | refine Below.setCell ?_ (by first | (show _ ≤ _; omega) | (simp; done) | (simp; omega)) _)) (hb.mono (by first | omega | (simp; done) | (simp; omega)))
    have HB := Lib.hid HBq
    clear HBq hb
    go_wp2_with fail
    go_region_held3 (fun w' => (w'.cell? ⟨w2.heap.size, 0, none⟩ = some (.int .i64 L) ∧ w'.cell? ⟨w2.heap.size, 1, none⟩ = some (.int .i64 0)) ∧ w'.cell? ⟨w1.heap.size, 0, none⟩ = some (.int .i64 s) ∧ w'.cell? ⟨w1.heap.size, 1, none⟩ = some (.int .i64 x) ∧ w'.cell? ⟨w1.heap.size, 2, none⟩ = some (.int .i64 p))
      ((go_split_ands; refine ⟨⟨?_, ?_⟩, ?_, ?_, ?_⟩ <;> first | assumption | (with_reducible exact bc hb (by assumption)) | (exact ca (w := w2) (by assumption)) | (exact new_cell (W := w2) rfl rfl) | (simp; done)))
      (first | (go_at_call 9; (with_reducible refine (HS.out _).mono ?_); rintro e v3 ⟨rfl, hb⟩))
    all_goals
      have l0_2 : v3.cell? ⟨w1.heap.size, 0, none⟩ = some (.int .i64 s) := bc hb (by first | exact l0_1 | exact ca l0_1 | exact ca (ca l0_1) | exact ca (ca (ca l0_1)) | (simp; done) | go_simp)
      have l1_2 : v3.cell? ⟨w1.heap.size, 1, none⟩ = some (.int .i64 x) := bc hb (by first | exact l1_1 | exact ca l1_1 | exact ca (ca l1_1) | exact ca (ca (ca l1_1)) | (simp; done) | go_simp)
      have l2_2 : v3.cell? ⟨w1.heap.size, 2, none⟩ = some (.int .i64 p) := bc hb (by first | exact l2_1 | exact ca l2_1 | exact ca (ca l2_1) | exact ca (ca (ca l2_1)) | (simp; done) | go_simp)
      have ll_2 : w1.heap.size < v3.heap.size := cell_lt l0_2
      clear l0_1 l1_1 l2_1 ll_1
      have v0_1 : v3.cell? ⟨w2.heap.size, 0, none⟩ = some (.int .i64 L) := bc hb (by first | (simp; done) | go_simp)
      have v1_1 : v3.cell? ⟨w2.heap.size, 1, none⟩ = some (.int .i64 0) := bc hb (by first | (simp; done) | go_simp)
      have vl_1 : w2.heap.size < v3.heap.size := cell_lt v0_1
      have hszv3 := below_size hb
      try simp at hszv3
      have HBq : Below w.heap.size w v3 := Below.trans (by repeat (first | exact Below.refl _ _ | exact HB.out | refine Below.drew ?_ | refine bel_drewN _ ?_ | refine Below.alloc ?_ (by first | omega | (simp; done) | (simp; omega)) _ | refine Below.setCell ?_ (by first | (show _ ≤ _; omega) | (simp; done) | (simp; omega)) _)) (hb.mono (by first | omega | (simp; done) | (simp; omega)))
      have HB := Lib.hid HBq
      clear HBq hb
      go_wp2_with fail
      go_region_held3 (fun w' => (w'.cell? ⟨w2.heap.size, 0, none⟩ = some (.int .i64 L) ∧ w'.cell? ⟨w2.heap.size, 1, none⟩ = some (.int .i64 0)) ∧ w'.cell? ⟨w1.heap.size, 0, none⟩ = some (.int .i64 s) ∧ w'.cell? ⟨w1.heap.size, 1, none⟩ = some (.int .i64 x) ∧ w'.cell? ⟨w1.heap.size, 2, none⟩ = some (.int .i64 p))
        ((go_split_ands; refine ⟨⟨?_, ?_⟩, ?_, ?_, ?_⟩ <;> first | assumption | (with_reducible exact bc hb (by assumption)) | (show v3.cell? _ = _; assumption) | (simp; done)))
        (first | (go_at_call 9; (with_reducible refine (HS.out _).mono ?_); rintro e v4 ⟨rfl, hb⟩))
      all_goals
        have l0_3 : v4.cell? ⟨w1.heap.size, 0, none⟩ = some (.int .i64 s) := bc hb (by first | exact l0_2 | exact ca l0_2 | exact ca (ca l0_2) | exact ca (ca (ca l0_2)) | (simp; done) | go_simp)
        have l1_3 : v4.cell? ⟨w1.heap.size, 1, none⟩ = some (.int .i64 x) := bc hb (by first | exact l1_2 | exact ca l1_2 | exact ca (ca l1_2) | exact ca (ca (ca l1_2)) | (simp; done) | go_simp)
        have l2_3 : v4.cell? ⟨w1.heap.size, 2, none⟩ = some (.int .i64 p) := bc hb (by first | exact l2_2 | exact ca l2_2 | exact ca (ca l2_2) | exact ca (ca (ca l2_2)) | (simp; done) | go_simp)
        have ll_3 : w1.heap.size < v4.heap.size := cell_lt l0_3
        clear l0_2 l1_2 l2_2 ll_2
        have v0_2 : v4.cell? ⟨w2.heap.size, 0, none⟩ = some (.int .i64 L) := bc hb (by first | exact v0_1 | exact ca v0_1 | exact ca (ca v0_1) | exact ca (ca (ca v0_1)) | (simp; done) | go_simp)
        have v1_2 : v4.cell? ⟨w2.heap.size, 1, none⟩ = some (.int .i64 0) := bc hb (by first | exact v1_1 | exact ca v1_1 | exact ca (ca v1_1) | exact ca (ca (ca v1_1)) | (simp; done) | go_simp)
        have vl_2 : w2.heap.size < v4.heap.size := cell_lt v0_2
        clear v0_1 v1_1 vl_1
        have hszv4 := below_size hb
        try simp at hszv4
        have HBq : Below w.heap.size w v4 := Below.trans (by repeat (first | exact Below.refl _ _ | exact HB.out | refine Below.drew ?_ | refine bel_drewN _ ?_ | refine Below.alloc ?_ (by first | omega | (simp; done) | (simp; omega)) _ | refine Below.setCell ?_ (by first | (show _ ≤ _; omega) | (simp; done) | (simp; omega)) _)) (hb.mono (by first | omega | (simp; done) | (simp; omega)))
        have HB := Lib.hid HBq
        clear HBq hb
        go_wp2
        go_ret
        exact ⟨ret_bool (by first | rfl | simp), (by repeat (first | exact Below.refl _ _ | exact HB.out | refine Below.drew ?_ | refine bel_drewN _ ?_ | refine Below.alloc ?_ (by first | omega | (simp; done) | (simp; omega)) _ | refine Below.setCell ?_ (by first | (show _ ≤ _; omega) | (simp; done) | (simp; omega)) _))⟩
  · have hz' : (M == 0) = false := by simp [hz]
    have E := Lib.hid (hE hz)
    clear hE
    go_wp2_with fail
    refine (HI.out _).mono ?_
    rintro e w2 ⟨rfl, hb⟩
    have l0_1 : w2.cell? ⟨w1.heap.size, 0, none⟩ = some (.int .i64 s) := bc hb (by first | (simp; done) | go_simp)
    have l1_1 : w2.cell? ⟨w1.heap.size, 1, none⟩ = some (.int .i64 x) := bc hb (by first | (simp; done) | go_simp)
    have l2_1 : w2.cell? ⟨w1.heap.size, 2, none⟩ = some (.int .i64 p) := bc hb (by first | (simp; done) | go_simp)
    have ll_1 : w1.heap.size < w2.heap.size := cell_lt l0_1
    have hszw2 := below_size hb
    try simp at hszw2
    have HBq : Below w.heap.size w w2 := Below.trans (by repeat (first | exact Below.refl _ _ | exact HB.out | refine Below.drew ?_ | refine bel_drewN _ ?_ | refine Below.alloc ?_ (by first | omega | (simp; done) | (simp; omega)) _ | refine Below.setCell ?_ (by first | (show _ ≤ _; omega) | (simp; done) | (simp; omega)) _)) (hb.mono (by first | omega | (simp; done) | (simp; omega)))
    have HB := Lib.hid HBq
    clear HBq hb
    go_wp2_with fail
    go_region_held3 (fun w' => (w'.cell? ⟨w2.heap.size, 0, none⟩ = some (.int .i64 L) ∧ w'.cell? ⟨w2.heap.size, 1, none⟩ = some (.int .i64 M)) ∧ w'.cell? ⟨w1.heap.size, 0, none⟩ = some (.int .i64 s) ∧ w'.cell? ⟨w1.heap.size, 1, none⟩ = some (.int .i64 x) ∧ w'.cell? ⟨w1.heap.size, 2, none⟩ = some (.int .i64 p))
      ((go_split_ands; refine ⟨⟨?_, ?_⟩, ?_, ?_, ?_⟩ <;> first | assumption | (with_reducible exact bc hb (by assumption)) | (exact ca (w := w2) (by assumption)) | (exact new_cell (W := w2) rfl rfl) | (simp; done)))
      (first | (go_at_call 9; (with_reducible refine (HS.out _).mono ?_); rintro e v3 ⟨rfl, hb⟩))
    all_goals
      have l0_2 : v3.cell? ⟨w1.heap.size, 0, none⟩ = some (.int .i64 s) := bc hb (by first | exact l0_1 | exact ca l0_1 | exact ca (ca l0_1) | exact ca (ca (ca l0_1)) | (simp; done) | go_simp)
      have l1_2 : v3.cell? ⟨w1.heap.size, 1, none⟩ = some (.int .i64 x) := bc hb (by first | exact l1_1 | exact ca l1_1 | exact ca (ca l1_1) | exact ca (ca (ca l1_1)) | (simp; done) | go_simp)
      have l2_2 : v3.cell? ⟨w1.heap.size, 2, none⟩ = some (.int .i64 p) := bc hb (by first | exact l2_1 | exact ca l2_1 | exact ca (ca l2_1) | exact ca (ca (ca l2_1)) | (simp; done) | go_simp)
      have ll_2 : w1.heap.size < v3.heap.size := cell_lt l0_2
      clear l0_1 l1_1 l2_1 ll_1
      have v0_1 : v3.cell? ⟨w2.heap.size, 0, none⟩ = some (.int .i64 L) := bc hb (by first | (simp; done) | go_simp)
      have v1_1 : v3.cell? ⟨w2.heap.size, 1, none⟩ = some (.int .i64 M) := bc hb (by first | (simp; done) | go_simp)
      have vl_1 : w2.heap.size < v3.heap.size := cell_lt v0_1
      have hszv3 := below_size hb
      try simp at hszv3
      have HBq : Below w.heap.size w v3 := Below.trans (by repeat (first | exact Below.refl _ _ | exact HB.out | refine Below.drew ?_ | refine bel_drewN _ ?_ | refine Below.alloc ?_ (by first | omega | (simp; done) | (simp; omega)) _ | refine Below.setCell ?_ (by first | (show _ ≤ _; omega) | (simp; done) | (simp; omega)) _)) (hb.mono (by first | omega | (simp; done) | (simp; omega)))
      have HB := Lib.hid HBq
      clear HBq hb
      obtain ⟨rfl, rfl⟩ := E.out
      go_wp2_with fail
      go_region_held3 (fun w' => (w'.cell? ⟨v3.heap.size, 0, none⟩ = some (.int .i64 s) ∧ w'.cell? ⟨v3.heap.size, 1, none⟩ = some (.int .i64 x) ∧ w'.cell? ⟨v3.heap.size, 2, none⟩ = some (.int .i64 0)) ∧ w'.cell? ⟨w1.heap.size, 1, none⟩ = some (.int .i64 x))
        ((go_split_ands; refine ⟨⟨?_, ?_, ?_⟩, ?_⟩ <;> first | assumption | (with_reducible exact bc hb5 (by assumption)) | (with_reducible exact bc hb6 (by assumption)) | (exact ca (w := v3) (by assumption)) | (exact new_cell (W := v3) rfl rfl) | (simp; done)))
        (first | (go_at_call 11; first | ((with_reducible refine (HJ.out _).mono ?_); rintro e v5 ⟨rfl, hb5⟩) | ((with_reducible refine (HK.out _).mono ?_); rintro e v6 ⟨rfl, hb6⟩)))
      all_goals
        have hz5 := hb5.size
        have hz6 := hb6.size
        have h03 := HB.out.size
        go_wp2
        go_ret
        refine ⟨ret_bool (by first | rfl | simp), ?_⟩
        repeat (first | (with_reducible exact HB.out) | (with_reducible refine Below.drew ?_) | (with_reducible refine Below.alloc ?_ (by first | omega | (simp; omega)) _) | (with_reducible refine Below.trans ?_ (hb6.mono (by first | omega | (simp at hz5 hz6 ⊢; omega)))) | (with_reducible refine Below.trans ?_ (hb5.mono (by first | omega | (simp at hz5 hz6 ⊢; omega)))))
end Go.Proofs.YtblnakfkhaibnaaDoor
