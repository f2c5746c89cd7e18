/- The laws over lattices. -/
import Derived.Test.YtblnakfkhaibnaaDoorLat8
import Derived.Test.YtblnakfkhaibnaaDoorLatDraw
namespace Go.Proofs.YtblnakfkhaibnaaDoor
open Go.RowKit
set_option linter.unusedVariables false
theorem big_FnLatticeValue (a : Option Addr) (len cap : Nat) (w : World) (hlc : len ≤ cap) (hc : cap ≤ maxLen) (hbig : 1048576 < len) :
    Calls Tryd.prog 5 #[.slice a len cap] w fun e w' => e = .returned (.bool true) ∧ Below w.heap.size w w' := by
  unfold maxLen at hc
  go_enter Tryd.func5, Tryd.ntmps5
  go_wp2
  go_ret
  exact ⟨rfl, Below.refl _ _⟩
theorem big_FnLatticeValueMore (a : Option Addr) (len cap : Nat) (w : World) (hlc : len ≤ cap) (hc : cap ≤ maxLen) (hbig : 1048576 < len) :
    Calls Tryd.prog 6 #[.slice a len cap] w fun e w' => e = .returned (.bool true) ∧ Below w.heap.size w w' := by
  unfold maxLen at hc
  go_enter Tryd.func6, Tryd.ntmps6
  go_wp2
  go_ret
  exact ⟨rfl, Below.refl _ _⟩
theorem big_FnLatticeValueRate (a : Option Addr) (len cap : Nat) (w : World) (hlc : len ≤ cap) (hc : cap ≤ maxLen) (hbig : 1048576 < len) :
    Calls Tryd.prog 7 #[.slice a len cap] w fun e w' => e = .returned (.bool true) ∧ Below w.heap.size w w' := by
  unfold maxLen at hc
  go_enter Tryd.func7, Tryd.ntmps7
  go_wp2
  go_ret
  exact ⟨rfl, Below.refl _ _⟩
theorem big_FnCallWorth (a : Option Addr) (len cap : Nat) (w : World) (hlc : len ≤ cap) (hc : cap ≤ maxLen) (hbig : 1048576 < len) :
    Calls Tryd.prog 8 #[.slice a len cap] w fun e w' => e = .returned (.bool true) ∧ Below w.heap.size w w' := by
  unfold maxLen at hc
  go_enter Tryd.func8, Tryd.ntmps8
  go_wp2
  go_ret
  exact ⟨rfl, Below.refl _ _⟩
theorem lv_mono {s r r' p c c' k k' : Int} (h : lvB s r p c k = true) (h' : lvB s r' p c' k' = true) (hr : r' ≤ r) (hcc : c ≤ c') (hkk : KLe k k') :
    lvL s r p c k ≤ lvL s r' p c' k' ∧ lvH s r p c k ≤ lvH s r' p c' k' := by
  obtain ⟨a1, a2, a3⟩ := lvB_iff.1 h
  obtain ⟨b1, b2, b3⟩ := lvB_iff.1 h'
  obtain ⟨⟨s0, s1⟩, _⟩ := latB_iff.1 a1
  obtain ⟨e1, e2⟩ := lv_yes h
  obtain ⟨e3, e4⟩ := lv_yes h'
  rw [e1, e2, e3, e4]
  exact lval_mono a1 b1 hr a2.1 hcc b2.2 (by omega) (by omega) hkk s.toNat 0 (by omega) (by omega)
theorem lvB_of {s r p c k : Int} (h : ¬ lvH s r p c k = 0) : lvB s r p c k = true := by
  cases q : lvB s r p c k
  · exact absurd (lv_no q).2 h
  · rfl
theorem lv_rate {s r p c k : Int} (h : ¬ lvH s r p c k = 0) : lvH s (r + 10) p c k = 0 ∨ (¬ lvH s (r + 10) p c k = 0 ∧ lvL s (r + 10) p c k ≤ lvL s r p c k ∧ lvH s (r + 10) p c k ≤ lvH s r p c k) := by
  by_cases q : lvH s (r + 10) p c k = 0
  · exact .inl q
  · exact .inr ⟨q, lv_mono (lvB_of q) (lvB_of h) (by omega) (Int.le_refl _) (.inr (.inl rfl))⟩
set_option maxHeartbeats 4000000 in
theorem fnLatticeValueRate_walk (a : Option Addr) (len cap : Nat) (w : World) (hlc : len ≤ cap) (hc : cap ≤ maxLen) (h : IsBytes w a len) :
    Calls Tryd.prog 7 #[.slice a len cap] w fun e w' => e = .returned (.bool true) ∧ Below w.heap.size w w' := by
  by_cases hbig : 1048576 < len
  · exact big_FnLatticeValueRate a len cap w hlc hc hbig
  have H := Lib.hid h
  clear h
  go_enter Tryd.func7, Tryd.ntmps7
  have HB := Lib.hid (Below.refl w.heap.size w)
  go_wp2_with fail
  refine (drawLatticeValue_any _ _ _ _ hlc hc H.out).mono ?_
  rintro e w1 ⟨s, x, p, c, k, rfl, hs, hx, hp, hcc, hk, hb⟩
  have hszw1 := below_size hb
  try simp at hszw1
  have HBq : Below w.heap.size w w1 := Below.trans (by repeat (first | exact Below.refl _ _ | exact HB.out | refine Below.drew ?_ | refine bel_drewN _ ?_ | refine Below.alloc ?_ (by first | omega | (simp; done) | (simp; omega)) _ | refine Below.setCell ?_ (by first | (show _ ≤ _; omega) | (simp; done) | (simp; omega)) _)) (hb.mono (by first | omega | (simp; done) | (simp; omega)))
  have HB := Lib.hid HBq
  clear HBq hb
  have HI := Lib.hid (fun W => latValueI_any s x p c k W)
  have HS := Lib.hid (fun W => latValueS_any s x p c k W)
  have HJ := Lib.hid (fun W => latValueI_any s (x + 10) p c k W)
  unfold RP at HI HS HJ
  have hE := @lv_rate s x p c k
  generalize lvL s x p c k = L at *
  generalize lvH s x p c k = M at *
  generalize lvL s (x + 10) p c k = L2 at *
  generalize lvH s (x + 10) p c k = M2 at *
  clear hs hp hcc hk
  by_cases hz : M = 0
  · subst hz
    clear hE HJ
    go_wp2_with fail
    refine (HI.out _).mono ?_
    rintro e w2 ⟨rfl, hb⟩
    have l0_1 : w2.cell? ⟨w1.heap.size, 0, none⟩ = some (.int .i64 s) := bc hb (by first | (simp; done) | go_simp)
    have l1_1 : w2.cell? ⟨w1.heap.size, 1, none⟩ = some (.int .i64 x) := bc hb (by first | (simp; done) | go_simp)
    have l2_1 : w2.cell? ⟨w1.heap.size, 2, none⟩ = some (.int .i64 p) := bc hb (by first | (simp; done) | go_simp)
    have ll_1 : w1.heap.size < w2.heap.size := cell_lt l0_1
    have hszw2 := below_size hb
    try simp at hszw2
    have HBq : Below w.heap.size w w2 := Below.trans (by repeat (first | exact Below.refl _ _ | exact HB.out | refine Below.drew ?_ | refine bel_drewN _ ?_ | refine Below.alloc ?_ (by first | omega | (simp; done) | (simp; omega)) _ | refine Below.setCell ?_ (by first | (show _ ≤ _; omega) | (simp; done) | (simp; omega)) _)) (hb.mono (by first | omega | (simp; done) | (simp; omega)))
    have HB := Lib.hid HBq
    clear HBq hb
    go_wp2_with fail
    go_region_held3 (fun w' => (w'.cell? ⟨w2.heap.size, 0, none⟩ = some (.int .i64 L) ∧ w'.cell? ⟨w2.heap.size, 1, none⟩ = some (.int .i64 0)) ∧ w'.cell? ⟨w1.heap.size, 0, none⟩ = some (.int .i64 s) ∧ w'.cell? ⟨w1.heap.size, 1, none⟩ = some (.int .i64 x) ∧ w'.cell? ⟨w1.heap.size, 2, none⟩ = some (.int .i64 p))
      ((go_split_ands; refine ⟨⟨?_, ?_⟩, ?_, ?_, ?_⟩ <;> first | assumption | (with_reducible exact bc hb (by assumption)) | (exact ca (w := w2) (by assumption)) | (exact new_cell (W := w2) rfl rfl) | (simp; done)))
      (first | (go_at_call 9; (with_reducible refine (HS.out _).mono ?_); rintro e v3 ⟨rfl, hb⟩))
    all_goals
      have l0_2 : v3.cell? ⟨w1.heap.size, 0, none⟩ = some (.int .i64 s) := bc hb (by first | exact l0_1 | exact ca l0_1 | exact ca (ca l0_1) | exact ca (ca (ca l0_1)) | (simp; done) | go_simp)
      have l1_2 : v3.cell? ⟨w1.heap.size, 1, none⟩ = some (.int .i64 x) := bc hb (by first | exact l1_1 | exact ca l1_1 | exact ca (ca l1_1) | exact ca (ca (ca l1_1)) | (simp; done) | go_simp)
      have l2_2 : v3.cell? ⟨w1.heap.size, 2, none⟩ = some (.int .i64 p) := bc hb (by first | exact l2_1 | exact ca l2_1 | exact ca (ca l2_1) | exact ca (ca (ca l2_1)) | (simp; done) | go_simp)
      have ll_2 : w1.heap.size < v3.heap.size := cell_lt l0_2
      clear l0_1 l1_1 l2_1 ll_1
      have v0_1 : v3.cell? ⟨w2.heap.size, 0, none⟩ = some (.int .i64 L) := bc hb (by first | (simp; done) | go_simp)
      have v1_1 : v3.cell? ⟨w2.heap.size, 1, none⟩ = some (.int .i64 0) := bc hb (by first | (simp; done) | go_simp)
      have vl_1 : w2.heap.size < v3.heap.size := cell_lt v0_1
      have hszv3 := below_size hb
      try simp at hszv3
      have HBq : Below w.heap.size w v3 := Below.trans (by repeat (first | exact Below.refl _ _ | exact HB.out | refine Below.drew ?_ | refine bel_drewN _ ?_ | refine Below.alloc ?_ (by first | omega | (simp; done) | (simp; omega)) _ | refine Below.setCell ?_ (by first | (show _ ≤ _; omega) | (simp; done) | (simp; omega)) _)) (hb.mono (by first | omega | (simp; done) | (simp; omega)))
      have HB := Lib.hid HBq
      clear HBq hb
      go_wp2_with fail
      go_region_held3 (fun w' => (w'.cell? ⟨w2.heap.size, 0, none⟩ = some (.int .i64 L) ∧ w'.cell? ⟨w2.heap.size, 1, none⟩ = some (.int .i64 0)) ∧ w'.cell? ⟨w1.heap.size, 0, none⟩ = some (.int .i64 s) ∧ w'.cell? ⟨w1.heap.size, 1, none⟩ = some (.int .i64 x) ∧ w'.cell? ⟨w1.heap.size, 2, none⟩ = some (.int .i64 p))
        ((go_split_ands; refine ⟨⟨?_, ?_⟩, ?_, ?_, ?_⟩ <;> first | assumption | (with_reducible exact bc hb (by assumption)) | (show v3.cell? _ = _; assumption) | (simp; done)))
        (first | (go_at_call 9; (with_reducible refine (HS.out _).mono ?_); rintro e v4 ⟨rfl, hb⟩))
      all_goals
        have l0_3 : v4.cell? ⟨w1.heap.size, 0, none⟩ = some (.int .i64 s) := bc hb (by first | exact l0_2 | exact ca l0_2 | exact ca (ca l0_2) | exact ca (ca (ca l0_2)) | (simp; done) | go_simp)
        have l1_3 : v4.cell? ⟨w1.heap.size, 1, none⟩ = some (.int .i64 x) := bc hb (by first | exact l1_2 | exact ca l1_2 | exact ca (ca l1_2) | exact ca (ca (ca l1_2)) | (simp; done) | go_simp)
        have l2_3 : v4.cell? ⟨w1.heap.size, 2, none⟩ = some (.int .i64 p) := bc hb (by first | exact l2_2 | exact ca l2_2 | exact ca (ca l2_2) | exact ca (ca (ca l2_2)) | (simp; done) | go_simp)
        have ll_3 : w1.heap.size < v4.heap.size := cell_lt l0_3
        clear l0_2 l1_2 l2_2 ll_2
        have v0_2 : v4.cell? ⟨w2.heap.size, 0, none⟩ = some (.int .i64 L) := bc hb (by first | exact v0_1 | exact ca v0_1 | exact ca (ca v0_1) | exact ca (ca (ca v0_1)) | (simp; done) | go_simp)
        have v1_2 : v4.cell? ⟨w2.heap.size, 1, none⟩ = some (.int .i64 0) := bc hb (by first | exact v1_1 | exact ca v1_1 | exact ca (ca v1_1) | exact ca (ca (ca v1_1)) | (simp; done) | go_simp)
        have vl_2 : w2.heap.size < v4.heap.size := cell_lt v0_2
        clear v0_1 v1_1 vl_1
        have hszv4 := below_size hb
        try simp at hszv4
        have HBq : Below w.heap.size w v4 := Below.trans (by repeat (first | exact Below.refl _ _ | exact HB.out | refine Below.drew ?_ | refine bel_drewN _ ?_ | refine Below.alloc ?_ (by first | omega | (simp; done) | (simp; omega)) _ | refine Below.setCell ?_ (by first | (show _ ≤ _; omega) | (simp; done) | (simp; omega)) _)) (hb.mono (by first | omega | (simp; done) | (simp; omega)))
        have HB := Lib.hid HBq
        clear HBq hb
        go_wp2
        go_ret
        exact ⟨ret_bool (by first | rfl | simp), (by repeat (first | exact Below.refl _ _ | exact HB.out | refine Below.drew ?_ | refine bel_drewN _ ?_ | refine Below.alloc ?_ (by first | omega | (simp; done) | (simp; omega)) _ | refine Below.setCell ?_ (by first | (show _ ≤ _; omega) | (simp; done) | (simp; omega)) _))⟩
  · have hz' : (M == 0) = false := by simp [hz]
    have E := Lib.hid (hE hz)
    clear hE
    go_wp2_with fail
    refine (HI.out _).mono ?_
    rintro e w2 ⟨rfl, hb⟩
    have l0_1 : w2.cell? ⟨w1.heap.size, 0, none⟩ = some (.int .i64 s) := bc hb (by first | (simp; done) | go_simp)
    have l1_1 : w2.cell? ⟨w1.heap.size, 1, none⟩ = some (.int .i64 x) := bc hb (by first | (simp; done) | go_simp)
    have l2_1 : w2.cell? ⟨w1.heap.size, 2, none⟩ = some (.int .i64 p) := bc hb (by first | (simp; done) | go_simp)
    have ll_1 : w1.heap.size < w2.heap.size := cell_lt l0_1
    have hszw2 := below_size hb
    try simp at hszw2
    have HBq : Below w.heap.size w w2 := Below.trans (by repeat (first | exact Below.refl _ _ | exact HB.out | refine Below.drew ?_ | refine bel_drewN _ ?_ | refine Below.alloc ?_ (by first | omega | (simp; done) | (simp; omega)) _ | refine Below.setCell ?_ (by first | (show _ ≤ _; omega) | (simp; done) | (simp; omega)) _)) (hb.mono (by first | omega | (simp; done) | (simp; omega)))
    have HB := Lib.hid HBq
    clear HBq hb
    go_wp2_with fail
    go_region_held3 (fun w' => (w'.cell? ⟨w2.heap.size, 0, none⟩ = some (.int .i64 L) ∧ w'.cell? ⟨w2.heap.size, 1, none⟩ = some (.int .i64 M)) ∧ w'.cell? ⟨w1.heap.size, 0, none⟩ = some (.int .i64 s) ∧ w'.cell? ⟨w1.heap.size, 1, none⟩ = some (.int .i64 x) ∧ w'.cell? ⟨w1.heap.size, 2, none⟩ = some (.int .i64 p))
      ((go_split_ands; refine ⟨⟨?_, ?_⟩, ?_, ?_, ?_⟩ <;> first | assumption | (with_reducible exact bc hb (by assumption)) | (exact ca (w := w2) (by assumption)) | (exact new_cell (W := w2) rfl rfl) | (simp; done)))
      (first | (go_at_call 9; (with_reducible refine (HS.out _).mono ?_); rintro e v3 ⟨rfl, hb⟩))
    all_goals
      have l0_2 : v3.cell? ⟨w1.heap.size, 0, none⟩ = some (.int .i64 s) := bc hb (by first | exact l0_1 | exact ca l0_1 | exact ca (ca l0_1) | exact ca (ca (ca l0_1)) | (simp; done) | go_simp)
      have l1_2 : v3.cell? ⟨w1.heap.size, 1, none⟩ = some (.int .i64 x) := bc hb (by first | exact l1_1 | exact ca l1_1 | exact ca (ca l1_1) | exact ca (ca (ca l1_1)) | (simp; done) | go_simp)
      have l2_2 : v3.cell? ⟨w1.heap.size, 2, none⟩ = some (.int .i64 p) := bc hb (by first | exact l2_1 | exact ca l2_1 | exact ca (ca l2_1) | exact ca (ca (ca l2_1)) | (simp; done) | go_simp)
      have ll_2 : w1.heap.size < v3.heap.size := cell_lt l0_2
      clear l0_1 l1_1 l2_1 ll_1
      have v0_1 : v3.cell? ⟨w2.heap.size, 0, none⟩ = some (.int .i64 L) := bc hb (by first | (simp; done) | go_simp)
      have v1_1 : v3.cell? ⟨w2.heap.size, 1, none⟩ = some (.int .i64 M) := bc hb (by first | (simp; done) | go_simp)
      have vl_1 : w2.heap.size < v3.heap.size := cell_lt v0_1
      have hszv3 := below_size hb
      try simp at hszv3
      have HBq : Below w.heap.size w v3 := Below.trans (by repeat (first | exact Below.refl _ _ | exact HB.out | refine Below.drew ?_ | refine bel_drewN _ ?_ | refine Below.alloc ?_ (by first | omega | (simp; done) | (simp; omega)) _ | refine Below.setCell ?_ (by first | (show _ ≤ _; omega) | (simp; done) | (simp; omega)) _)) (hb.mono (by first | omega | (simp; done) | (simp; omega)))
      have HB := Lib.hid HBq
      clear HBq hb
      go_wp2_with fail
      refine (HJ.out _).mono ?_
      rintro e w4 ⟨rfl, hb⟩
      have l0_3 : w4.cell? ⟨w1.heap.size, 0, none⟩ = some (.int .i64 s) := bc hb (by first | exact l0_2 | exact ca l0_2 | exact ca (ca l0_2) | exact ca (ca (ca l0_2)) | (simp; done) | go_simp)
      have l1_3 : w4.cell? ⟨w1.heap.size, 1, none⟩ = some (.int .i64 x) := bc hb (by first | exact l1_2 | exact ca l1_2 | exact ca (ca l1_2) | exact ca (ca (ca l1_2)) | (simp; done) | go_simp)
      have l2_3 : w4.cell? ⟨w1.heap.size, 2, none⟩ = some (.int .i64 p) := bc hb (by first | exact l2_2 | exact ca l2_2 | exact ca (ca l2_2) | exact ca (ca (ca l2_2)) | (simp; done) | go_simp)
      have ll_3 : w1.heap.size < w4.heap.size := cell_lt l0_3
      clear l0_2 l1_2 l2_2 ll_2
      have v0_2 : w4.cell? ⟨w2.heap.size, 0, none⟩ = some (.int .i64 L) := bc hb (by first | exact v0_1 | exact ca v0_1 | exact ca (ca v0_1) | exact ca (ca (ca v0_1)) | (simp; done) | go_simp)
      have v1_2 : w4.cell? ⟨w2.heap.size, 1, none⟩ = some (.int .i64 M) := bc hb (by first | exact v1_1 | exact ca v1_1 | exact ca (ca v1_1) | exact ca (ca (ca v1_1)) | (simp; done) | go_simp)
      have vl_2 : w2.heap.size < w4.heap.size := cell_lt v0_2
      clear v0_1 v1_1 vl_1
      have hszw4 := below_size hb
      try simp at hszw4
      have HBq : Below w.heap.size w w4 := Below.trans (by repeat (first | exact Below.refl _ _ | exact HB.out | refine Below.drew ?_ | refine bel_drewN _ ?_ | refine Below.alloc ?_ (by first | omega | (simp; done) | (simp; omega)) _ | refine Below.setCell ?_ (by first | (show _ ≤ _; omega) | (simp; done) | (simp; omega)) _)) (hb.mono (by first | omega | (simp; done) | (simp; omega)))
      have HB := Lib.hid HBq
      clear HBq hb
      rcases E.out with e1 | ⟨e0, e1, e2⟩
      · subst e1
        go_wp2
        go_ret
        exact ⟨ret_bool (by first | rfl | simp), (by repeat (first | exact Below.refl _ _ | exact HB.out | refine Below.drew ?_ | refine bel_drewN _ ?_ | refine Below.alloc ?_ (by first | omega | (simp; done) | (simp; omega)) _ | refine Below.setCell ?_ (by first | (show _ ≤ _; omega) | (simp; done) | (simp; omega)) _))⟩
      · have e0' : (M2 == 0) = false := by simp [e0]
        have d1 : decide (L2 ≤ L) = true := decide_eq_true e1
        have d2 : decide (M2 ≤ M) = true := decide_eq_true e2
        go_wp2
        go_ret
        exact ⟨ret_bool (by first | rfl | simp), (by repeat (first | exact Below.refl _ _ | exact HB.out | refine Below.drew ?_ | refine bel_drewN _ ?_ | refine Below.alloc ?_ (by first | omega | (simp; done) | (simp; omega)) _ | refine Below.setCell ?_ (by first | (show _ ≤ _; omega) | (simp; done) | (simp; omega)) _))⟩
end Go.Proofs.YtblnakfkhaibnaaDoor
