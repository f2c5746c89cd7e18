/- Dates: the date of a day. -/
import Derived.Test.YtbjphookihgkpaaDoorDate4
namespace Go.Proofs.YtbjphookihgkpaaDoor
open Go.RowKit
set_option linter.unusedVariables false
/-- the three cells of a date in block b -/
def D3 (w : World) (b : Nat) (y m d : Int) : Prop := w.heap[b]? = some (.cells #[.int .i64 y, .int .i64 m, .int .i64 d] 27 (0, 0))
theorem D3.cell {w : World} {b : Nat} {y m d : Int} (h : D3 w b y m d) : w.cell? ⟨b, 0, none⟩ = some (.int .i64 y) ∧ w.cell? ⟨b, 1, none⟩ = some (.int .i64 m) ∧ w.cell? ⟨b, 2, none⟩ = some (.int .i64 d) := by
  unfold D3 at h
  refine ⟨?_, ?_, ?_⟩ <;> simp [World.cell?, h]
theorem D3.free {w : World} {b : Nat} {y m d : Int} (h : D3 w b y m d) : w.frozen? ⟨b, 0, none⟩ = false ∧ w.frozen? ⟨b, 1, none⟩ = false ∧ w.frozen? ⟨b, 2, none⟩ = false := by
  unfold D3 at h
  refine ⟨?_, ?_, ?_⟩ <;> simp [World.frozen?, h]
theorem D3.lt {w : World} {b : Nat} {y m d : Int} (h : D3 w b y m d) : b < w.heap.size := cell_lt h.cell.1
theorem D3.set {w : World} {b : Nat} {y m d : Int} (h : D3 w b y m d) (v : Int) : D3 (w.setCell ⟨b, 0, none⟩ (.int .i64 v)) b v m d ∧ D3 (w.setCell ⟨b, 1, none⟩ (.int .i64 v)) b y v d ∧ D3 (w.setCell ⟨b, 2, none⟩ (.int .i64 v)) b y m v := by
  unfold D3 at h
  refine ⟨?_, ?_, ?_⟩ <;> simp [D3, World.setCell, Array.getElem?_modify, h]
theorem D3.new (w : World) (y m d : Int) : D3 (w.alloc (.cells #[.int .i64 y, .int .i64 m, .int .i64 d] 27)) w.heap.size y m d := by
  unfold D3 World.alloc
  simp
theorem D3.fwd {w w' : World} {b B : Nat} {y m d : Int} (h : D3 w b y m d) (k : Below B w w') (hb : b < B) : D3 w' b y m d := (k.block b hb).trans h
set_option maxHeartbeats 2000000 in
theorem dateOfI_any (n : Int) (w : World) (hT : MD w) (h0 : 0 ≤ n) (h1 : n ≤ 36524) :
    Calls Tryd.prog 14 #[.int .i64 n] w fun e w' => e = .returned (.agg #[.int .i64 (dY n), .int .i64 (dM n), .int .i64 (dD n)]) ∧ Below w.heap.size w w' := by
  obtain ⟨hd, hnum⟩ := date_ok ⟨h0, h1⟩
  have HD := Lib.hid hd
  have HN := Lib.hid hnum
  generalize hY : dY n = Y at *
  generalize hM : dM n = M at *
  generalize hD : dD n = D at *
  clear hY hM hD
  unfold num at hnum
  obtain ⟨⟨a1, a2⟩, ⟨a3, a4⟩, ⟨a5, a6⟩⟩ := hd
  have cM := cum_nonneg Y a3 (by omega)
  have cM2 := cum_mono Y a3 (show M < 13 by omega) (by omega)
  rw [cum_last] at cM2
  have HX := Lib.hid hnum
  clear hnum
  obtain ⟨cM, cM'⟩ := cM
  have hM1 := hT.size
  have HT := Lib.hid hT
  clear hT
  go_enter Tryd.func14, Tryd.ntmps14
  go_wp2
  go_loopw [0] (fun r wr => ∃ k : Int, 1990 ≤ k ∧ k ≤ Y ∧ r = .int .i64 (n - dby k) ∧ D3 wr (w.heap.size + 1) k 1 0 ∧ Below (w.heap.size + 1) (w.alloc (.cells #[.int .i64 0, .int .i64 0, .int .i64 0] 27)) wr) (fun r wr => (intOf r).toNat)
  case atStart =>
    refine ⟨1990, by omega, by omega, by rw [dby_first]; simp, ?_, (by repeat (first | exact Below.refl _ _ | refine Below.drew ?_ | refine bel_drewN _ ?_ | refine Below.alloc ?_ (by first | omega | (simp; done) | (simp; omega)) _ | refine Below.setCell ?_ (by first | (show _ ≤ _; omega) | (simp; done) | (simp; omega)) _))⟩
    have := D3.new (w.alloc (.cells #[.int .i64 0, .int .i64 0, .int .i64 0] 27)) 1990 1 0
    simpa using this
  case round =>
    obtain ⟨k, k1, k2, rfl, hD3, hbel⟩ := hrel
    obtain ⟨q0, q1, q2⟩ := hD3.cell
    obtain ⟨f0, f1, f2⟩ := hD3.free
    have qs := hbel.size
    simp at qs
    have ql := hD3.lt
    have H3 := Lib.hid hD3
    have HB := Lib.hid hbel
    clear hbel hD3
    have e1 := dby_mono k1
    have e2 := dby_mono (show k ≤ 2090 by omega)
    rw [dby_first] at e1
    rw [dby_last] at e2
    have e3 := ydays_bd k
    obtain ⟨e3, e4⟩ := e3
    by_cases hk : k < Y
    · have E := Lib.hid (dby_succ k1 (by omega))
      have e5 := dby_lt k1 hk (by omega)
      have e6 : ydays k ≤ n - dby k := by have := HX.out; omega
      go_wp2_with (go_at_call 21; refine (yearDaysI_any _ _ (by omega) (by omega)).mono ?_; rintro e w' ⟨rfl, rfl⟩)
      go_roundw
      case rel => exact ⟨k + 1, by omega, by omega, by rw [E.out]; go_num, (H3.out.set (k + 1)).1, HB.out.setCell (by show _ ≤ w.heap.size + 1; omega) _⟩
      case measure => simp [intOf]; omega
    · obtain rfl : k = Y := by omega
      have e6 : n - dby k < ydays k := by have := HX.out; omega
      go_wp2_with (go_at_call 21; refine (yearDaysI_any _ _ (by omega) (by omega)).mono ?_; rintro e w' ⟨rfl, rfl⟩)
      obtain ⟨wo, rfl⟩ : ∃ wo : World, wo = wr := ⟨_, rfl⟩
      go_loopw [0] (fun r wr => ∃ j : Int, 1 ≤ j ∧ j ≤ M ∧ r = .int .i64 (n - dby k - cum k j) ∧ D3 wr (w.heap.size + 1) k j 0 ∧ Below (w.heap.size + 1) (w.alloc (.cells #[.int .i64 0, .int .i64 0, .int .i64 0] 27)) wr) (fun r wr => (intOf r).toNat)
      case atStart => exact ⟨1, by omega, by omega, by rw [cum_first]; simp, H3.out, HB.out⟩
      case round =>
        clear q0 q1 q2 f0 f1 f2 qs ql
        obtain ⟨j, j1, j2, rfl, hD3, hbel⟩ := hrel
        obtain ⟨q0, q1, q2⟩ := hD3.cell
        obtain ⟨f0, f1, f2⟩ := hD3.free
        have qs := hbel.size
        simp at qs
        have ql := hD3.lt
        have HM : Hid (MD wr) := (HT.out.fwd ((Below.refl _ _).alloc hM1 _)).fwd (hbel.mono (by omega))
        have c0 : wr.cell? ⟨w.heap.size, 0, none⟩ = some (.int .i64 0) := by rw [hbel.cell (by simp)]; simp
        have c1 : wr.cell? ⟨w.heap.size, 1, none⟩ = some (.int .i64 0) := by rw [hbel.cell (by simp)]; simp
        have c2 : wr.cell? ⟨w.heap.size, 2, none⟩ = some (.int .i64 0) := by rw [hbel.cell (by simp)]; simp
        have g0 : wr.frozen? ⟨w.heap.size, 0, none⟩ = false := by rw [hbel.frozen (by simp)]; simp
        have g1 : wr.frozen? ⟨w.heap.size, 1, none⟩ = false := by rw [hbel.frozen (by simp)]; simp
        have g2 : wr.frozen? ⟨w.heap.size, 2, none⟩ = false := by rw [hbel.frozen (by simp)]; simp
        have H3 := Lib.hid hD3
        have HB := Lib.hid hbel
        clear hbel hD3
        have c := cum_nonneg k j1 (by omega)
        obtain ⟨c3, c4⟩ := c
        have cd := @dim_bd k j
        obtain ⟨c5, c6⟩ := cd
        by_cases hj : j < M
        · have E := Lib.hid (cum_succ k j1 (by omega))
          have e7 := cum_mono k j1 hj (by omega)
          have e8 : dim k j ≤ n - dby k - cum k j := by have := HX.out; omega
          go_wp2_with (go_at_call 15; refine (daysInI_any _ _ _ HM.out (by omega) (by omega) (by omega) (by omega)).mono ?_; rintro e w' ⟨rfl, rfl⟩)
          go_roundw
          case rel => exact ⟨j + 1, by omega, by omega, by rw [E.out]; go_num, (H3.out.set (j + 1)).2.1, HB.out.setCell (by show _ ≤ w.heap.size + 1; omega) _⟩
          case measure => simp [intOf]; omega
        · obtain rfl : j = M := by omega
          have e8 : n - dby k - cum k j < dim k j := by have := HX.out; omega
          have e9 : 0 ≤ n - dby k - cum k j := by have := HX.out; omega
          go_wp2_with (go_at_call 15; refine (daysInI_any _ _ _ HM.out (by omega) (by omega) (by omega) (by omega)).mono ?_; rintro e w' ⟨rfl, rfl⟩)
          have hfin : n - dby k - cum k j + 1 = D := by have := HX.out; omega
          refine bodyPost_ret (v := .agg #[.int .i64 k, .int .i64 j, .int .i64 (n - dby k - cum k j + 1)]) (by simp [results, Tryd.results14, go_sem, *]) rfl ⟨by rw [hfin], ?_⟩
          have b0 : Below w.heap.size w wr := ((Below.refl _ _).alloc (Nat.le_refl _) _).trans (HB.out.mono (by omega))
          exact (((b0.setCell (by show _ ≤ w.heap.size + 1; omega) _).setCell (Nat.le_refl _) _).setCell (Nat.le_refl _) _).setCell (Nat.le_refl _) _
end Go.Proofs.YtbjphookihgkpaaDoor
