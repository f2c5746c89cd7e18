/- The laws over lattices: what the right to call is worth. -/
import Derived.Test.YtblnakfkhaibnaaDoorLatLaws2
namespace Go.Proofs.YtblnakfkhaibnaaDoor
open Go.RowKit
set_option linter.unusedVariables false
def mn2 (n : Int) : Int := if 200 < n then 200 else n
theorem mn2_min (n : Int) : (if 200 < n then (200 : Int) else n) = mn2 n := rfl
theorem mn2_min' (n : Int) : (if n < 200 then n else (200 : Int)) = mn2 n := by unfold mn2; split <;> split <;> omega
theorem cw_all {s r p c k : Int} (h : ¬ cwH s r p c k = 0) :
    0 ≤ cwL s r p c k ∧ cwL s r p c k ≤ cwH s r p c k ∧ cwL s r p c (mn2 (k + 5)) ≤ cwL s r p c k ∧ cwH s r p c (mn2 (k + 5)) ≤ cwH s r p c k := by
  have hb : cwB s r p c k = true := by
    cases q : cwB s r p c k
    · exact absurd (cw_no q).2 h
    · rfl
  obtain ⟨h0, h1, h2⟩ := cwB_lv.1 hb
  obtain ⟨g1, g2, g3⟩ := cwB_iff.1 hb
  rw [inR_true] at g3
  have m0 : k ≤ mn2 (k + 5) ∧ mn2 (k + 5) ≤ 200 := by unfold mn2; split <;> omega
  have hb' : cwB s r p c (mn2 (k + 5)) = true := cwB_iff.2 ⟨g1, g2, inR_yes ⟨by omega, m0.2⟩⟩
  obtain ⟨_, h1', _⟩ := cwB_lv.1 hb'
  obtain ⟨e1, e2⟩ := cw_yes hb
  obtain ⟨e3, e4⟩ := cw_yes hb'
  have a := lv_mono h1 h0 (Int.le_refl r) (Int.le_refl c) (.inl rfl)
  have b := lv_mono h1 h1' (Int.le_refl r) (Int.le_refl c) (.inr (.inr ⟨h2, m0.1⟩))
  have l0 := (lv_bd s r p c 0).2.1
  have l1 := (lv_bd s r p c k).2.1
  rw [e1, e2, e3, e4]
  unfold mx0
  refine ⟨?_, ?_, ?_, ?_⟩ <;> (try split) <;> (try split) <;> omega
set_option maxHeartbeats 2000000 in
theorem drawCallWorth_any (a : Option Addr) (len cap : Nat) (w : World) (hlc : len ≤ cap) (hc : cap ≤ maxLen) (h : IsBytes w a len) :
    Calls Tryd.prog 16 #[.slice a len cap] w (DrawLt w) := by
  have H := Lib.hid h
  clear h
  go_enter Tryd.func16, Tryd.ntmps16
  have HB := Lib.hid (Below.refl w.heap.size w)
  go_wp2_with fail
  refine (drawLatticeValue_any _ _ _ _ hlc hc (by exact H.out.alloc _)).mono ?_
  rintro e v1 ⟨s, x, p, c, q, rfl, hs, hx, hp, hcc, hk, hb⟩
  have y0_1 : v1.cell? ⟨w.heap.size, 0, none⟩ = some (.int .i64 0) := bc hb (by first | (simp; done) | go_simp)
  have yf0_1 : v1.frozen? ⟨w.heap.size, 0, none⟩ = false := bf hb (by first | (simp; done) | (simp; omega) | (show w.heap.size < _; omega)) (by first | (simp; done) | go_simp)
  have y1_1 : v1.cell? ⟨w.heap.size, 1, none⟩ = some (.int .i64 0) := bc hb (by first | (simp; done) | go_simp)
  have yf1_1 : v1.frozen? ⟨w.heap.size, 1, none⟩ = false := bf hb (by first | (simp; done) | (simp; omega) | (show w.heap.size < _; omega)) (by first | (simp; done) | go_simp)
  have y2_1 : v1.cell? ⟨w.heap.size, 2, none⟩ = some (.int .i64 0) := bc hb (by first | (simp; done) | go_simp)
  have yf2_1 : v1.frozen? ⟨w.heap.size, 2, none⟩ = false := bf hb (by first | (simp; done) | (simp; omega) | (show w.heap.size < _; omega)) (by first | (simp; done) | go_simp)
  have yl_1 : w.heap.size < v1.heap.size := cell_lt y0_1
  have hszv1 := below_size hb
  try simp at hszv1
  have HBq : Below w.heap.size w v1 := Below.trans (by repeat (first | exact Below.refl _ _ | exact HB.out | refine Below.drew ?_ | refine bel_drewN _ ?_ | refine Below.alloc ?_ (by first | omega | (simp; done) | (simp; omega)) _ | refine Below.setCell ?_ (by first | (show _ ≤ _; omega) | (simp; done) | (simp; omega)) _)) (hb.mono (by first | omega | (simp; done) | (simp; omega)))
  have HB := Lib.hid HBq
  clear HBq hb
  go_wp2
  have h4 : Has3 v1 w.heap.size 0 0 0 := ⟨by assumption, by assumption, by assumption⟩
  have h6 := h4.set (n0 := s) (n1 := x) (n2 := p)
  have k6 := st3_below (n0 := s) (n1 := x) (n2 := p) HB.out (Nat.le_refl w.heap.size)
  change bodyPost _ _ _ _ _ (st3 v1 w.heap.size s x p)
  generalize st3 v1 w.heap.size s x p = WF at *
  exact bodyPost_ret (res3t Tryd.results16 (by rfl) rfl rfl h6) rfl ⟨s, x, p, c, q, rfl, hs, hx, hp, hcc, hk, k6⟩
set_option maxHeartbeats 4000000 in
theorem fnCallWorth_walk (a : Option Addr) (len cap : Nat) (w : World) (hlc : len ≤ cap) (hc : cap ≤ maxLen) (h : IsBytes w a len) :
    Calls Tryd.prog 8 #[.slice a len cap] w fun e w' => e = .returned (.bool true) ∧ Below w.heap.size w w' := by
  by_cases hbig : 1048576 < len
  · exact big_FnCallWorth a len cap w hlc hc hbig
  have H := Lib.hid h
  clear h
  go_enter Tryd.func8, Tryd.ntmps8
  have HB := Lib.hid (Below.refl w.heap.size w)
  go_wp2_with fail
  refine (drawCallWorth_any _ _ _ _ hlc hc H.out).mono ?_
  rintro e w1 ⟨s, x, p, c, k, rfl, hs, hx, hp, hcc, hk, hb⟩
  have hszw1 := below_size hb
  try simp at hszw1
  have HBq : Below w.heap.size w w1 := Below.trans (by repeat (first | exact Below.refl _ _ | exact HB.out | refine Below.drew ?_ | refine bel_drewN _ ?_ | refine Below.alloc ?_ (by first | omega | (simp; done) | (simp; omega)) _ | refine Below.setCell ?_ (by first | (show _ ≤ _; omega) | (simp; done) | (simp; omega)) _)) (hb.mono (by first | omega | (simp; done) | (simp; omega)))
  have HB := Lib.hid HBq
  clear HBq hb
  have HI := Lib.hid (fun W => callWorthI_any s x p c k W)
  have HS := Lib.hid (fun W => callWorthS_any s x p c k W)
  have HJ := Lib.hid (fun W => callWorthI_any s x p c (mn2 (k + 5)) W)
  unfold RP at HI HS HJ
  have hE := @cw_all s x p c k
  have hm := mn2_min (k + 5)
  have hm' := mn2_min' (k + 5)
  generalize cwL s x p c k = L at *
  generalize cwH s x p c k = M at *
  generalize cwL s x p c (mn2 (k + 5)) = L2 at *
  generalize cwH s x p c (mn2 (k + 5)) = M2 at *
  generalize mn2 (k + 5) = C at *
  clear hs hp hcc hx
  by_cases hz : M = 0
  · subst hz
    clear hE HJ
    go_wp2_with fail
    refine (HI.out _).mono ?_
    rintro e w2 ⟨rfl, hb⟩
    have l0_1 : w2.cell? ⟨w1.heap.size, 0, none⟩ = some (.int .i64 s) := bc hb (by first | (simp; done) | go_simp)
    have l1_1 : w2.cell? ⟨w1.heap.size, 1, none⟩ = some (.int .i64 x) := bc hb (by first | (simp; done) | go_simp)
    have l2_1 : w2.cell? ⟨w1.heap.size, 2, none⟩ = some (.int .i64 p) := bc hb (by first | (simp; done) | go_simp)
    have ll_1 : w1.heap.size < w2.heap.size := cell_lt l0_1
    have hszw2 := below_size hb
    try simp at hszw2
    have HBq : Below w.heap.size w w2 := Below.trans (by repeat (first | exact Below.refl _ _ | exact HB.out | refine Below.drew ?_ | refine bel_drewN _ ?_ | refine Below.alloc ?_ (by first | omega | (simp; done) | (simp; omega)) _ | refine Below.setCell ?_ (by first | (show _ ≤ _; omega) | (simp; done) | (simp; omega)) _)) (hb.mono (by first | omega | (simp; done) | (simp; omega)))
    have HB := Lib.hid HBq
    clear HBq hb
    go_wp2_with fail
    go_region_held3 (fun w' => (w'.cell? ⟨w2.heap.size, 0, none⟩ = some (.int .i64 L) ∧ w'.cell? ⟨w2.heap.size, 1, none⟩ = some (.int .i64 0)) ∧ w'.cell? ⟨w1.heap.size, 0, none⟩ = some (.int .i64 s) ∧ w'.cell? ⟨w1.heap.size, 1, none⟩ = some (.int .i64 x) ∧ w'.cell? ⟨w1.heap.size, 2, none⟩ = some (.int .i64 p))
      ((go_split_ands; refine ⟨⟨?_, ?_⟩, ?_, ?_, ?_⟩ <;> first | assumption | (with_reducible exact bc hb (by assumption)) | (exact ca (w := w2) (by assumption)) | (exact new_cell (W := w2) rfl rfl) | (simp; done)))
      (first | (go_at_call 13; (with_reducible refine (HS.out _).mono ?_); rintro e v3 ⟨rfl, hb⟩))
    all_goals
      have l0_2 : v3.cell? ⟨w1.heap.size, 0, none⟩ = some (.int .i64 s) := bc hb (by first | exact l0_1 | exact ca l0_1 | exact ca (ca l0_1) | exact ca (ca (ca l0_1)) | (simp; done) | go_simp)
      have l1_2 : v3.cell? ⟨w1.heap.size, 1, none⟩ = some (.int .i64 x) := bc hb (by first | exact l1_1 | exact ca l1_1 | exact ca (ca l1_1) | exact ca (ca (ca l1_1)) | (simp; done) | go_simp)
      have l2_2 : v3.cell? ⟨w1.heap.size, 2, none⟩ = some (.int .i64 p) := bc hb (by first | exact l2_1 | exact ca l2_1 | exact ca (ca l2_1) | exact ca (ca (ca l2_1)) | (simp; done) | go_simp)
      have ll_2 : w1.heap.size < v3.heap.size := cell_lt l0_2
      clear l0_1 l1_1 l2_1 ll_1
      have v0_1 : v3.cell? ⟨w2.heap.size, 0, none⟩ = some (.int .i64 L) := bc hb (by first | (simp; done) | go_simp)
      have v1_1 : v3.cell? ⟨w2.heap.size, 1, none⟩ = some (.int .i64 0) := bc hb (by first | (simp; done) | go_simp)
      have vl_1 : w2.heap.size < v3.heap.size := cell_lt v0_1
      have hszv3 := below_size hb
      try simp at hszv3
      have HBq : Below w.heap.size w v3 := Below.trans (by repeat (first | exact Below.refl _ _ | exact HB.out | refine Below.drew ?_ | refine bel_drewN _ ?_ | refine Below.alloc ?_ (by first | omega | (simp; done) | (simp; omega)) _ | refine Below.setCell ?_ (by first | (show _ ≤ _; omega) | (simp; done) | (simp; omega)) _)) (hb.mono (by first | omega | (simp; done) | (simp; omega)))
      have HB := Lib.hid HBq
      clear HBq hb
      go_wp2_with fail
      go_region_held3 (fun w' => (w'.cell? ⟨w2.heap.size, 0, none⟩ = some (.int .i64 L) ∧ w'.cell? ⟨w2.heap.size, 1, none⟩ = some (.int .i64 0)) ∧ w'.cell? ⟨w1.heap.size, 0, none⟩ = some (.int .i64 s) ∧ w'.cell? ⟨w1.heap.size, 1, none⟩ = some (.int .i64 x) ∧ w'.cell? ⟨w1.heap.size, 2, none⟩ = some (.int .i64 p))
        ((go_split_ands; refine ⟨⟨?_, ?_⟩, ?_, ?_, ?_⟩ <;> first | assumption | (with_reducible exact bc hb (by assumption)) | (show v3.cell? _ = _; assumption) | (simp; done)))
        (first | (go_at_call 13; (with_reducible refine (HS.out _).mono ?_); rintro e v4 ⟨rfl, hb⟩))
      all_goals
        have l0_3 : v4.cell? ⟨w1.heap.size, 0, none⟩ = some (.int .i64 s) := bc hb (by first | exact l0_2 | exact ca l0_2 | exact ca (ca l0_2) | exact ca (ca (ca l0_2)) | (simp; done) | go_simp)
        have l1_3 : v4.cell? ⟨w1.heap.size, 1, none⟩ = some (.int .i64 x) := bc hb (by first | exact l1_2 | exact ca l1_2 | exact ca (ca l1_2) | exact ca (ca (ca l1_2)) | (simp; done) | go_simp)
        have l2_3 : v4.cell? ⟨w1.heap.size, 2, none⟩ = some (.int .i64 p) := bc hb (by first | exact l2_2 | exact ca l2_2 | exact ca (ca l2_2) | exact ca (ca (ca l2_2)) | (simp; done) | go_simp)
        have ll_3 : w1.heap.size < v4.heap.size := cell_lt l0_3
        clear l0_2 l1_2 l2_2 ll_2
        have v0_2 : v4.cell? ⟨w2.heap.size, 0, none⟩ = some (.int .i64 L) := bc hb (by first | exact v0_1 | exact ca v0_1 | exact ca (ca v0_1) | exact ca (ca (ca v0_1)) | (simp; done) | go_simp)
        have v1_2 : v4.cell? ⟨w2.heap.size, 1, none⟩ = some (.int .i64 0) := bc hb (by first | exact v1_1 | exact ca v1_1 | exact ca (ca v1_1) | exact ca (ca (ca v1_1)) | (simp; done) | go_simp)
        have vl_2 : w2.heap.size < v4.heap.size := cell_lt v0_2
        clear v0_1 v1_1 vl_1
        have hszv4 := below_size hb
        try simp at hszv4
        have HBq : Below w.heap.size w v4 := Below.trans (by repeat (first | exact Below.refl _ _ | exact HB.out | refine Below.drew ?_ | refine bel_drewN _ ?_ | refine Below.alloc ?_ (by first | omega | (simp; done) | (simp; omega)) _ | refine Below.setCell ?_ (by first | (show _ ≤ _; omega) | (simp; done) | (simp; omega)) _)) (hb.mono (by first | omega | (simp; done) | (simp; omega)))
        have HB := Lib.hid HBq
        clear HBq hb
        go_wp2
        go_ret
        exact ⟨ret_bool (by first | rfl | simp), (by repeat (first | exact Below.refl _ _ | exact HB.out | refine Below.drew ?_ | refine bel_drewN _ ?_ | refine Below.alloc ?_ (by first | omega | (simp; done) | (simp; omega)) _ | refine Below.setCell ?_ (by first | (show _ ≤ _; omega) | (simp; done) | (simp; omega)) _))⟩
  · have hz' : (M == 0) = false := by simp [hz]
    have E := Lib.hid (hE hz)
    clear hE
    go_wp2_with fail
    refine (HI.out _).mono ?_
    rintro e w2 ⟨rfl, hb⟩
    have l0_1 : w2.cell? ⟨w1.heap.size, 0, none⟩ = some (.int .i64 s) := bc hb (by first | (simp; done) | go_simp)
    have l1_1 : w2.cell? ⟨w1.heap.size, 1, none⟩ = some (.int .i64 x) := bc hb (by first | (simp; done) | go_simp)
    have l2_1 : w2.cell? ⟨w1.heap.size, 2, none⟩ = some (.int .i64 p) := bc hb (by first | (simp; done) | go_simp)
    have ll_1 : w1.heap.size < w2.heap.size := cell_lt l0_1
    have hszw2 := below_size hb
    try simp at hszw2
    have HBq : Below w.heap.size w w2 := Below.trans (by repeat (first | exact Below.refl _ _ | exact HB.out | refine Below.drew ?_ | refine bel_drewN _ ?_ | refine Below.alloc ?_ (by first | omega | (simp; done) | (simp; omega)) _ | refine Below.setCell ?_ (by first | (show _ ≤ _; omega) | (simp; done) | (simp; omega)) _)) (hb.mono (by first | omega | (simp; done) | (simp; omega)))
    have HB := Lib.hid HBq
    clear HBq hb
    go_wp2_with fail
    go_region_held3 (fun w' => (w'.cell? ⟨w2.heap.size, 0, none⟩ = some (.int .i64 L) ∧ w'.cell? ⟨w2.heap.size, 1, none⟩ = some (.int .i64 M)) ∧ w'.cell? ⟨w1.heap.size, 0, none⟩ = some (.int .i64 s) ∧ w'.cell? ⟨w1.heap.size, 1, none⟩ = some (.int .i64 x) ∧ w'.cell? ⟨w1.heap.size, 2, none⟩ = some (.int .i64 p))
      ((go_split_ands; refine ⟨⟨?_, ?_⟩, ?_, ?_, ?_⟩ <;> first | assumption | (with_reducible exact bc hb (by assumption)) | (exact ca (w := w2) (by assumption)) | (exact new_cell (W := w2) rfl rfl) | (simp; done)))
      (first | (go_at_call 13; (with_reducible refine (HS.out _).mono ?_); rintro e v3 ⟨rfl, hb⟩))
    all_goals
      have l0_2 : v3.cell? ⟨w1.heap.size, 0, none⟩ = some (.int .i64 s) := bc hb (by first | exact l0_1 | exact ca l0_1 | exact ca (ca l0_1) | exact ca (ca (ca l0_1)) | (simp; done) | go_simp)
      have l1_2 : v3.cell? ⟨w1.heap.size, 1, none⟩ = some (.int .i64 x) := bc hb (by first | exact l1_1 | exact ca l1_1 | exact ca (ca l1_1) | exact ca (ca (ca l1_1)) | (simp; done) | go_simp)
      have l2_2 : v3.cell? ⟨w1.heap.size, 2, none⟩ = some (.int .i64 p) := bc hb (by first | exact l2_1 | exact ca l2_1 | exact ca (ca l2_1) | exact ca (ca (ca l2_1)) | (simp; done) | go_simp)
      have ll_2 : w1.heap.size < v3.heap.size := cell_lt l0_2
      clear l0_1 l1_1 l2_1 ll_1
      have v0_1 : v3.cell? ⟨w2.heap.size, 0, none⟩ = some (.int .i64 L) := bc hb (by first | (simp; done) | go_simp)
      have v1_1 : v3.cell? ⟨w2.heap.size, 1, none⟩ = some (.int .i64 M) := bc hb (by first | (simp; done) | go_simp)
      have vl_1 : w2.heap.size < v3.heap.size := cell_lt v0_1
      have hszv3 := below_size hb
      try simp at hszv3
      have HBq : Below w.heap.size w v3 := Below.trans (by repeat (first | exact Below.refl _ _ | exact HB.out | refine Below.drew ?_ | refine bel_drewN _ ?_ | refine Below.alloc ?_ (by first | omega | (simp; done) | (simp; omega)) _ | refine Below.setCell ?_ (by first | (show _ ≤ _; omega) | (simp; done) | (simp; omega)) _)) (hb.mono (by first | omega | (simp; done) | (simp; omega)))
      have HB := Lib.hid HBq
      clear HBq hb
      go_wp2_with fail
      refine (HJ.out _).mono ?_
      rintro e w4 ⟨rfl, hb⟩
      have l0_3 : w4.cell? ⟨w1.heap.size, 0, none⟩ = some (.int .i64 s) := bc hb (by first | exact l0_2 | exact ca l0_2 | exact ca (ca l0_2) | exact ca (ca (ca l0_2)) | (simp; done) | go_simp)
      have l1_3 : w4.cell? ⟨w1.heap.size, 1, none⟩ = some (.int .i64 x) := bc hb (by first | exact l1_2 | exact ca l1_2 | exact ca (ca l1_2) | exact ca (ca (ca l1_2)) | (simp; done) | go_simp)
      have l2_3 : w4.cell? ⟨w1.heap.size, 2, none⟩ = some (.int .i64 p) := bc hb (by first | exact l2_2 | exact ca l2_2 | exact ca (ca l2_2) | exact ca (ca (ca l2_2)) | (simp; done) | go_simp)
      have ll_3 : w1.heap.size < w4.heap.size := cell_lt l0_3
      clear l0_2 l1_2 l2_2 ll_2
      have v0_2 : w4.cell? ⟨w2.heap.size, 0, none⟩ = some (.int .i64 L) := bc hb (by first | exact v0_1 | exact ca v0_1 | exact ca (ca v0_1) | exact ca (ca (ca v0_1)) | (simp; done) | go_simp)
      have v1_2 : w4.cell? ⟨w2.heap.size, 1, none⟩ = some (.int .i64 M) := bc hb (by first | exact v1_1 | exact ca v1_1 | exact ca (ca v1_1) | exact ca (ca (ca v1_1)) | (simp; done) | go_simp)
      have vl_2 : w2.heap.size < w4.heap.size := cell_lt v0_2
      clear v0_1 v1_1 vl_1
      have hszw4 := below_size hb
      try simp at hszw4
      have HBq : Below w.heap.size w w4 := Below.trans (by repeat (first | exact Below.refl _ _ | exact HB.out | refine Below.drew ?_ | refine bel_drewN _ ?_ | refine Below.alloc ?_ (by first | omega | (simp; done) | (simp; omega)) _ | refine Below.setCell ?_ (by first | (show _ ≤ _; omega) | (simp; done) | (simp; omega)) _)) (hb.mono (by first | omega | (simp; done) | (simp; omega)))
      have HB := Lib.hid HBq
      clear HBq hb
      obtain ⟨e1, e2, e3, e4⟩ := E.out
      have d1 : decide (0 ≤ L) = true := decide_eq_true e1
      have d2 : decide (L ≤ M) = true := decide_eq_true e2
      have d3 : decide (L2 ≤ L) = true := decide_eq_true e3
      have d4 : decide (M2 ≤ M) = true := decide_eq_true e4
      go_wp2
      go_ret
      exact ⟨ret_bool (by first | rfl | simp), (by repeat (first | exact Below.refl _ _ | exact HB.out | refine Below.drew ?_ | refine bel_drewN _ ?_ | refine Below.alloc ?_ (by first | omega | (simp; done) | (simp; omega)) _ | refine Below.setCell ?_ (by first | (show _ ≤ _; omega) | (simp; done) | (simp; omega)) _))⟩
end Go.Proofs.YtblnakfkhaibnaaDoor
