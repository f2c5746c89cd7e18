/- Parts of years: the count that looks at leap years. -/
import Derived.Test.YtiplcndacmicoaaDoorPart2
namespace Go.Proofs.YtiplcndacmicoaaDoor
open Go.RowKit
set_option linter.unusedVariables false
/-- the two cells of an array in block b -/
def A2 (w : World) (b : Nat) (x y : Int) : Prop := w.heap[b]? = some (.cells #[.int .i64 x, .int .i64 y] 68 (0, 0))
theorem A2.cell {w : World} {b : Nat} {x y : Int} (h : A2 w b x y) : w.cell? ⟨b, 0, none⟩ = some (.int .i64 x) ∧ w.cell? ⟨b, 1, none⟩ = some (.int .i64 y) := by
  unfold A2 at h
  refine ⟨?_, ?_⟩ <;> simp [World.cell?, h]
theorem A2.free {w : World} {b : Nat} {x y : Int} (h : A2 w b x y) : w.frozen? ⟨b, 0, none⟩ = false ∧ w.frozen? ⟨b, 1, none⟩ = false := by
  unfold A2 at h
  refine ⟨?_, ?_⟩ <;> simp [World.frozen?, h]
theorem A2.lt {w : World} {b : Nat} {x y : Int} (h : A2 w b x y) : b < w.heap.size := cell_lt h.cell.1
theorem A2.set {w : World} {b : Nat} {x y : Int} (h : A2 w b x y) (v : Int) : A2 (w.setCell ⟨b, 0, none⟩ (.int .i64 v)) b v y ∧ A2 (w.setCell ⟨b, 1, none⟩ (.int .i64 v)) b x v := by
  unfold A2 at h
  refine ⟨?_, ?_⟩ <;> simp [A2, World.setCell, Array.getElem?_modify, h]
theorem A2.new (w : World) (x y : Int) : A2 (w.alloc (.cells #[.int .i64 x, .int .i64 y] 68)) w.heap.size x y := by
  unfold A2 World.alloc
  simp
theorem A2.fwd {w w' : World} {b B : Nat} {x y : Int} (h : A2 w b x y) (k : Below B w w') (hb : b < B) : A2 w' b x y := (k.block b hb).trans h
set_option maxHeartbeats 4000000 in
theorem byYear_any (a b : Int) (w : World) (hT : MD w) (h0 : 0 ≤ a) (hab : a ≤ b) (h1 : b ≤ 36524) :
    Calls Tryd.prog 42 #[.int .i64 a, .int .i64 b] w fun e w' => e = .returned (.tuple #[.agg #[.int .i64 (lowRes (365 * (lpd b - lpd a) + 366 * ((b - a) - (lpd b - lpd a))) 133590).1, .int .i64 (lowRes (365 * (lpd b - lpd a) + 366 * ((b - a) - (lpd b - lpd a))) 133590).2.1], .bool (lowRes (365 * (lpd b - lpd a) + 366 * ((b - a) - (lpd b - lpd a))) 133590).2.2]) ∧ Below w.heap.size w w' := by
  have hM1 := hT.size
  have HT := Lib.hid hT
  clear hT
  have E : 365 * (lpd b - lpd a) + 366 * ((b - a) - (lpd b - lpd a)) = (lpd b - lpd a) * 365 + ((b - a) - (lpd b - lpd a)) * 366 := by omega
  rw [E]
  clear E
  go_enter Tryd.func42, Tryd.ntmps42
  go_wp2
  go_loopw [7] (fun i wr => ∃ k : Int, a ≤ k ∧ k ≤ b ∧ i = .int .i64 k ∧ A2 wr (w.heap.size + 1) ((k - a) - (lpd k - lpd a)) (lpd k - lpd a) ∧ wr.cell? ⟨w.heap.size, 0, none⟩ = some (.int .i64 0) ∧ wr.cell? ⟨w.heap.size, 1, none⟩ = some (.int .i64 0) ∧ wr.frozen? ⟨w.heap.size, 0, none⟩ = false ∧ wr.frozen? ⟨w.heap.size, 1, none⟩ = false ∧ Below w.heap.size w wr) (fun i _ => (b - intOf i).toNat)
  case atStart =>
    refine ⟨a, by omega, by omega, rfl, ?_, by simp, by simp, by simp, by simp, (by repeat (first | exact Below.refl _ _ | refine Below.drew ?_ | refine bel_drewN _ ?_ | refine Below.alloc ?_ (by first | omega | (simp; done) | (simp; omega)) _ | refine Below.setCell ?_ (by first | (show _ ≤ _; omega) | (simp; done) | (simp; omega)) _))⟩
    have := A2.new (w.alloc (.cells #[.int .i64 0, .int .i64 0] 51)) 0 0
    simpa using this
  case round =>
    obtain ⟨k, k1, k2, rfl, hA, r0, r1, rf0, rf1, hbel⟩ := hrel
    obtain ⟨q0, q1⟩ := hA.cell
    obtain ⟨f0, f1⟩ := hA.free
    have ql := hA.lt
    have hs := hbel.size
    have HM : Hid (MD wr) := HT.out.fwd (hbel.mono (by omega))
    have HA := Lib.hid hA
    have HB := Lib.hid hbel
    clear hbel hA
    obtain ⟨l1, l2⟩ := lpd_bd h0 k1
    by_cases hk : k < b
    · have hkk : 0 ≤ k ∧ k ≤ 36524 := ⟨by omega, by omega⟩
      obtain ⟨⟨y1, y2⟩, y3, y4⟩ := dY_bd hkk
      have N := num_last (dY k)
      have hdt : Dt (dY k) 12 31 := ⟨⟨y1, y2⟩, ⟨by omega, by omega⟩, by omega, by unfold dim md; simp⟩
      obtain ⟨nb0, nb1⟩ := num_bd hdt
      obtain ⟨X, hX⟩ : ∃ X, num (dY k) 12 31 = X := ⟨_, rfl⟩
      have HN : Hid (∀ W : World, MD W → Calls Tryd.prog 51 #[.agg #[.int .i64 (dY k), .int .i64 12, .int .i64 31]] W fun e w' => e = .returned (.int .i64 X) ∧ Below W.heap.size W w') := by
        refine Lib.hid fun W h => ?_
        rw [← hX]
        exact numberI_any _ _ _ _ h hdt
      rw [hX] at nb0 nb1 N
      clear hdt hX
      by_cases hm : (X+1<b)
      · have Y := lpd_year (Y := dY k) (a := k) (b := (X+1)) (by omega) (by omega) (fun i i1 i2 => dY_of ⟨by omega, by omega⟩ y1 y2 (by omega) (by omega))
        have hk1 : k < (X+1) := by omega
        have hk2 : (X+1) ≤ b := by omega
        have e1 : (X + 1 < b) = True := by simp; omega
        clear hm N
        cases hlp : lp (dY k)
        · have L := lpI_no hlp
          rw [L] at Y
          have Y' := Lib.hid Y
          clear Y
          go_wp2_with fail
          refine (dateOfI_any _ _ HM.out (by omega) (by omega)).mono ?_
          rintro e v1 ⟨rfl, hb1⟩
          have HM1 := Lib.hid (HM.out.below hb1)
          have q0' := bc hb1 q0
          have q1' := bc hb1 q1
          have f0' := bf hb1 (cell_lt q0) f0
          have f1' := bf hb1 (cell_lt q1) f1
          go_wp2_with fail
          rename_i KK hKK
          refine hKK _ _ ?_
          go_frame
          go_simp
          go_wp2_with fail
          refine (HN.out _ HM1.out).mono ?_
          rintro e v2 ⟨rfl, hb2⟩
          have q0'' := bc hb2 q0'
          have q1'' := bc hb2 q1'
          have f0'' := bf hb2 (cell_lt q0') f0'
          have f1'' := bf hb2 (cell_lt q1') f1'
          go_wp2_with (go_at_call 52; refine (leapI_any _ _ (by omega) (by omega)).mono ?_; rintro e w' ⟨rfl, rfl⟩)
          have hB2 : Below w.heap.size w v2 := (HB.out.trans (hb1.mono hs)).trans (hb2.mono (by have := hb1.size; omega))
          have hA2 := ((HA.out.fwd hb1 ql).fwd hb2 (by have := hb1.size; omega)).set (k - a - (lpd k - lpd a) + ((X+1) - k))
          have z0 := bc hb2 (bc hb1 r0)
          have z1 := bc hb2 (bc hb1 r1)
          have zf0 := bf hb2 (show w.heap.size < _ from by have := hb1.size; omega) (bf hb1 (show w.heap.size < _ from by omega) rf0)
          have zf1 := bf hb2 (show w.heap.size < _ from by have := hb1.size; omega) (bf hb1 (show w.heap.size < _ from by omega) rf1)
          go_roundw
          case rel =>
            have Y1 := Y'.out
            refine ⟨_, by omega, hk2, rfl, ?_, ?_, ?_, ?_, ?_, hB2.setCell (Nat.le_succ _) _⟩
            · have e2 : (X+1) - a - (lpd (X+1) - lpd a) = k - a - (lpd k - lpd a) + ((X+1) - k) := by omega
              have e3 : lpd (X+1) - lpd a = lpd k - lpd a := by omega
              rw [e2, e3]
              exact hA2.1
            · first | (go_simp; exact z0) | go_simp
            · first | (go_simp; exact z1) | go_simp
            · first | (go_simp; exact zf0) | go_simp
            · first | (go_simp; exact zf1) | go_simp
          case measure => simp [intOf]; omega
        · have L := lpI_yes hlp
          rw [L] at Y
          have Y' := Lib.hid Y
          clear Y
          go_wp2_with fail
          refine (dateOfI_any _ _ HM.out (by omega) (by omega)).mono ?_
          rintro e v1 ⟨rfl, hb1⟩
          have HM1 := Lib.hid (HM.out.below hb1)
          have q0' := bc hb1 q0
          have q1' := bc hb1 q1
          have f0' := bf hb1 (cell_lt q0) f0
          have f1' := bf hb1 (cell_lt q1) f1
          go_wp2_with fail
          rename_i KK hKK
          refine hKK _ _ ?_
          go_frame
          go_simp
          go_wp2_with fail
          refine (HN.out _ HM1.out).mono ?_
          rintro e v2 ⟨rfl, hb2⟩
          have q0'' := bc hb2 q0'
          have q1'' := bc hb2 q1'
          have f0'' := bf hb2 (cell_lt q0') f0'
          have f1'' := bf hb2 (cell_lt q1') f1'
          go_wp2_with (go_at_call 52; refine (leapI_any _ _ (by omega) (by omega)).mono ?_; rintro e w' ⟨rfl, rfl⟩)
          have hB2 : Below w.heap.size w v2 := (HB.out.trans (hb1.mono hs)).trans (hb2.mono (by have := hb1.size; omega))
          have hA2 := ((HA.out.fwd hb1 ql).fwd hb2 (by have := hb1.size; omega)).set (lpd k - lpd a + ((X+1) - k))
          have z0 := bc hb2 (bc hb1 r0)
          have z1 := bc hb2 (bc hb1 r1)
          have zf0 := bf hb2 (show w.heap.size < _ from by have := hb1.size; omega) (bf hb1 (show w.heap.size < _ from by omega) rf0)
          have zf1 := bf hb2 (show w.heap.size < _ from by have := hb1.size; omega) (bf hb1 (show w.heap.size < _ from by omega) rf1)
          go_roundw
          case rel =>
            have Y1 := Y'.out
            refine ⟨_, by omega, hk2, rfl, ?_, ?_, ?_, ?_, ?_, hB2.setCell (Nat.le_succ _) _⟩
            · have e2 : (X+1) - a - (lpd (X+1) - lpd a) = k - a - (lpd k - lpd a) := by omega
              have e3 : lpd (X+1) - lpd a = lpd k - lpd a + ((X+1) - k) := by omega
              rw [e2, e3]
              exact hA2.2
            · first | (go_simp; exact z0) | go_simp
            · first | (go_simp; exact z1) | go_simp
            · first | (go_simp; exact zf0) | go_simp
            · first | (go_simp; exact zf1) | go_simp
          case measure => simp [intOf]; omega
      by_cases hm : (b≤X+1)
      · have Y := lpd_year (Y := dY k) (a := k) (b := b) (by omega) (by omega) (fun i i1 i2 => dY_of ⟨by omega, by omega⟩ y1 y2 (by omega) (by omega))
        have hk1 : k < b := by omega
        have hk2 : b ≤ b := by omega
        have e1 : (X + 1 < b) = False := by simp; omega
        clear hm N
        cases hlp : lp (dY k)
        · have L := lpI_no hlp
          rw [L] at Y
          have Y' := Lib.hid Y
          clear Y
          go_wp2_with fail
          refine (dateOfI_any _ _ HM.out (by omega) (by omega)).mono ?_
          rintro e v1 ⟨rfl, hb1⟩
          have HM1 := Lib.hid (HM.out.below hb1)
          have q0' := bc hb1 q0
          have q1' := bc hb1 q1
          have f0' := bf hb1 (cell_lt q0) f0
          have f1' := bf hb1 (cell_lt q1) f1
          go_wp2_with fail
          rename_i KK hKK
          refine hKK _ _ ?_
          go_frame
          go_simp
          go_wp2_with fail
          refine (HN.out _ HM1.out).mono ?_
          rintro e v2 ⟨rfl, hb2⟩
          have q0'' := bc hb2 q0'
          have q1'' := bc hb2 q1'
          have f0'' := bf hb2 (cell_lt q0') f0'
          have f1'' := bf hb2 (cell_lt q1') f1'
          go_wp2_with (go_at_call 52; refine (leapI_any _ _ (by omega) (by omega)).mono ?_; rintro e w' ⟨rfl, rfl⟩)
          have hB2 : Below w.heap.size w v2 := (HB.out.trans (hb1.mono hs)).trans (hb2.mono (by have := hb1.size; omega))
          have hA2 := ((HA.out.fwd hb1 ql).fwd hb2 (by have := hb1.size; omega)).set (k - a - (lpd k - lpd a) + (b - k))
          have z0 := bc hb2 (bc hb1 r0)
          have z1 := bc hb2 (bc hb1 r1)
          have zf0 := bf hb2 (show w.heap.size < _ from by have := hb1.size; omega) (bf hb1 (show w.heap.size < _ from by omega) rf0)
          have zf1 := bf hb2 (show w.heap.size < _ from by have := hb1.size; omega) (bf hb1 (show w.heap.size < _ from by omega) rf1)
          go_roundw
          case rel =>
            have Y1 := Y'.out
            refine ⟨_, by omega, hk2, rfl, ?_, ?_, ?_, ?_, ?_, hB2.setCell (Nat.le_succ _) _⟩
            · have e2 : b - a - (lpd b - lpd a) = k - a - (lpd k - lpd a) + (b - k) := by omega
              have e3 : lpd b - lpd a = lpd k - lpd a := by omega
              rw [e2, e3]
              exact hA2.1
            · first | (go_simp; exact z0) | go_simp
            · first | (go_simp; exact z1) | go_simp
            · first | (go_simp; exact zf0) | go_simp
            · first | (go_simp; exact zf1) | go_simp
          case measure => simp [intOf]; omega
        · have L := lpI_yes hlp
          rw [L] at Y
          have Y' := Lib.hid Y
          clear Y
          go_wp2_with fail
          refine (dateOfI_any _ _ HM.out (by omega) (by omega)).mono ?_
          rintro e v1 ⟨rfl, hb1⟩
          have HM1 := Lib.hid (HM.out.below hb1)
          have q0' := bc hb1 q0
          have q1' := bc hb1 q1
          have f0' := bf hb1 (cell_lt q0) f0
          have f1' := bf hb1 (cell_lt q1) f1
          go_wp2_with fail
          rename_i KK hKK
          refine hKK _ _ ?_
          go_frame
          go_simp
          go_wp2_with fail
          refine (HN.out _ HM1.out).mono ?_
          rintro e v2 ⟨rfl, hb2⟩
          have q0'' := bc hb2 q0'
          have q1'' := bc hb2 q1'
          have f0'' := bf hb2 (cell_lt q0') f0'
          have f1'' := bf hb2 (cell_lt q1') f1'
          go_wp2_with (go_at_call 52; refine (leapI_any _ _ (by omega) (by omega)).mono ?_; rintro e w' ⟨rfl, rfl⟩)
          have hB2 : Below w.heap.size w v2 := (HB.out.trans (hb1.mono hs)).trans (hb2.mono (by have := hb1.size; omega))
          have hA2 := ((HA.out.fwd hb1 ql).fwd hb2 (by have := hb1.size; omega)).set (lpd k - lpd a + (b - k))
          have z0 := bc hb2 (bc hb1 r0)
          have z1 := bc hb2 (bc hb1 r1)
          have zf0 := bf hb2 (show w.heap.size < _ from by have := hb1.size; omega) (bf hb1 (show w.heap.size < _ from by omega) rf0)
          have zf1 := bf hb2 (show w.heap.size < _ from by have := hb1.size; omega) (bf hb1 (show w.heap.size < _ from by omega) rf1)
          go_roundw
          case rel =>
            have Y1 := Y'.out
            refine ⟨_, by omega, hk2, rfl, ?_, ?_, ?_, ?_, ?_, hB2.setCell (Nat.le_succ _) _⟩
            · have e2 : b - a - (lpd b - lpd a) = k - a - (lpd k - lpd a) := by omega
              have e3 : lpd b - lpd a = lpd k - lpd a + (b - k) := by omega
              rw [e2, e3]
              exact hA2.2
            · first | (go_simp; exact z0) | go_simp
            · first | (go_simp; exact z1) | go_simp
            · first | (go_simp; exact zf0) | go_simp
            · first | (go_simp; exact zf1) | go_simp
          case measure => simp [intOf]; omega
      · exfalso; omega
    · obtain rfl : k = b := by omega
      go_wp2_with fail
      refine (lowestI_any _ 133590 _ (by omega) (by omega) (by omega) (by omega)).mono ?_
      rintro e w3 ⟨rfl, hb⟩
      have s0 := bc hb r0
      have s1 := bc hb r1
      have g0 := bf hb (cell_lt r0) rf0
      have g1 := bf hb (cell_lt r1) rf1
      have hs3 := hb.size
      go_wp2
      generalize lowRes ((lpd k - lpd a) * 365 + (k - a - (lpd k - lpd a)) * 366) 133590 = r
      have HBq := HB.out.trans (hb.mono hs)
      exact bodyPost_ret (v := .tuple #[.agg #[.int .i64 r.1, .int .i64 r.2.1], .bool r.2.2]) (by simp [results, Tryd.results42, go_sem, *]) rfl ⟨rfl, (HBq.setCell (Nat.le_refl _) _).setCell (Nat.le_refl _) _⟩
end Go.Proofs.YtiplcndacmicoaaDoor
