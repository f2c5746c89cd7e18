/- Reading dates out of texts: the reference. -/
import Derived.Test.YtoecdlemoimacaaDoorTxtPlain
namespace Go.Proofs.YtoecdlemoimacaaDoor
open Go.RowKit
set_option linter.unusedVariables false
theorem size_lit (l : List UInt8) : (ByteArray.mk l.toArray).size = l.length := by
  show l.toArray.size = l.length
  simp
theorem isD_inR (c : UInt8) : inR (c.toNat : Int) 48 57 = isD c := by
  rw [Bool.eq_iff_iff, inR_true]
  unfold isD
  simp
  omega
theorem at_lit (l : List UInt8) (i : Nat) (h : i < l.length) (h' : i < (ByteArray.mk l.toArray).size) : (ByteArray.mk l.toArray)[i] = l[i] := by
  show l.toArray[i] = l[i]
  simp
theorem wrap_c (c : UInt8) : wrap64 (c.toNat : Int) = (c.toNat : Int) := by
  have := c.toNat_lt
  unfold wrap64
  omega
set_option maxHeartbeats 1000000 in
theorem digit_any (l : List UInt8) (i : Nat) (w : World) (hl : l.length ≤ 1048576) (hi : i ≤ 10000000) :
    Calls Tryd.prog 42 #[.string ⟨l.toArray⟩, .int .i64 i] w fun e w' => e = .returned (.int .i64 (dg l i)) ∧ w = w' := by
  unfold dg
  by_cases h : i < l.length
  · have hd : decide ((l.length : Int) ≤ (i : Int)) = false := decide_eq_false (by omega)
    have hlt : (i : Int) < (l.length : Int) := by omega
    rw [List.getElem?_eq_getElem h]
    have hix := at_lit l i h (by rw [size_lit]; exact h)
    have hwc := wrap_c l[i]
    have hin := isD_inR l[i]
    have hws : IntKind.i64.wrap ((l[i].toNat : Int) - 48) = (l[i].toNat : Int) - 48 := IntWalk.i64_in _ (by have := l[i].toNat_lt; omega)
    obtain ⟨c, hc⟩ : ∃ c, l[i] = c := ⟨_, rfl⟩
    rw [hc] at hix hwc hin hws
    simp only [hc]
    cases hD : isD c
    all_goals
      rw [hD] at hin
      go_enter Tryd.func42, Tryd.ntmps42
      go_wp2_with fail
      refine (inRange_any _ _ _ _).mono ?_
      rintro e w1 ⟨rfl, rfl⟩
      go_wp2
      go_ret
      exact ⟨by simp, rfl⟩
  · have hd : decide ((l.length : Int) ≤ (i : Int)) = true := decide_eq_true (by omega)
    have hd2 : decide (l.length ≤ i) = true := decide_eq_true (by omega)
    rw [List.getElem?_eq_none (by omega)]
    go_enter Tryd.func42, Tryd.ntmps42
    go_wp2
    go_ret
    exact ⟨rfl, rfl⟩
set_option maxHeartbeats 2000000 in
theorem number_any (l : List UInt8) (a j : Nat) (b : Int) (w : World) (hl : l.length ≤ 1048576) (ha : a ≤ 100) (hj : j ≤ 4) (hb : b = (a : Int) + j) :
    Calls Tryd.prog 40 #[.string ⟨l.toArray⟩, .int .i64 a, .int .i64 b] w fun e w' => e = .returned (.int .i64 (nmF l j a 0)) ∧ w = w' := by
  have HD := Lib.hid (fun (i : Nat) (h : i ≤ 10000000) => digit_any l i w hl h)
  have HBB := Lib.hid hb
  clear hb
  go_enter Tryd.func40, Tryd.ntmps40
  go_wp2_with fail
  go_loop [7, 8] (fun n i => ∃ (t : Nat) (N k : Int), t ≤ j ∧ i = .int .i64 k ∧ n = .int .i64 N ∧ Hid (k = (a : Int) + t) ∧ 0 ≤ N ∧ N < 10 ^ t ∧ nmF l j a 0 = nmF l (j - t) (a + t) N) (fun _ i => (b - intOf i).toNat)
  case atStart => exact ⟨0, 0, a, Nat.zero_le _, rfl, rfl, Lib.hid (by omega), by omega, by simp, by simp⟩
  case round =>
    obtain ⟨t, N, k, ht, rfl, rfl, HK, N0, N1, he⟩ := hrel
    have HE := Lib.hid he
    clear he
    by_cases hlt : t < j
    · have hP : (10 : Int) ^ t ≤ 1000 := by
        have : t = 0 ∨ t = 1 ∨ t = 2 ∨ t = 3 := by omega
        rcases this with rfl | rfl | rfl | rfl <;> decide
      have hdb := dg_bd l (a + t)
      have hs : (10 : Int) ^ (t + 1) = 10 * 10 ^ t := by rw [Int.pow_succ, Int.mul_comm]
      have hstep : nmF l (j - t) (a + t) N = if dg l (a + t) < 0 then -1 else nmF l (j - (t + 1)) (a + (t + 1)) (10 * N + dg l (a + t)) := by
        rw [show j - t = (j - (t + 1)) + 1 by omega]
        rfl
      have HSt := Lib.hid hstep
      have HPs := Lib.hid hs
      have HP := Lib.hid N1
      have hk := HK.out
      have hbb := HBB.out
      have h1 := HD.out (a + t) (by omega)
      rw [show ((a + t : Nat) : Int) = k by omega] at h1
      have H1 := Lib.hid h1
      have i1 : k < b := by omega
      have i2 : 0 ≤ k ∧ k ≤ 1000 := by omega
      have w1 : IntKind.i64.wrap (10 * N) = 10 * N := IntWalk.i64_in _ (by omega)
      have w2 : IntKind.i64.wrap (10 * N + dg l (a + t)) = 10 * N + dg l (a + t) := IntWalk.i64_in _ (by omega)
      have w3 : IntKind.i64.wrap (k + 1) = k + 1 := IntWalk.i64_in _ (by omega)
      have HM : Hid ((b - (k + 1)).toNat < (b - k).toNat) := Lib.hid (by omega)
      have HK2 : Hid (k + 1 = (a : Int) + ((t + 1 : Nat) : Int)) := Lib.hid (by omega)
      clear hstep hs N1 HD hk hbb h1
      by_cases hneg : dg l (a + t) < 0
      · have hd : decide (dg l (a + t) < 0) = true := decide_eq_true hneg
        have hres : nmF l j a 0 = -1 := by rw [HE.out, HSt.out, if_pos hneg]
        have HRs := Lib.hid hres
        clear hres
        generalize dg l (a + t) = D at *
        go_wp2_with fail
        refine (H1.out).mono ?_
        rintro e v1 ⟨rfl, rfl⟩
        go_wp2
        go_ret
        exact ⟨by rw [HRs.out]; rfl, rfl⟩
      · have hd : decide (dg l (a + t) < 0) = false := decide_eq_false hneg
        have hres : nmF l j a 0 = nmF l (j - (t + 1)) (a + (t + 1)) (10 * N + dg l (a + t)) := by rw [HE.out, HSt.out, if_neg hneg]
        have HRs := Lib.hid hres
        have hN : 0 ≤ 10 * N + dg l (a + t) ∧ 10 * N + dg l (a + t) < 10 ^ (t + 1) := by rw [HPs.out]; have := HP.out; omega
        have HN := Lib.hid hN
        clear hres hN
        generalize dg l (a + t) = D at *
        go_wp2_with fail
        refine (H1.out).mono ?_
        rintro e v1 ⟨rfl, rfl⟩
        go_wp2_with fail
        refine (H1.out).mono ?_
        rintro e v2 ⟨rfl, rfl⟩
        go_wp2
        go_round
        case rel => exact ⟨t + 1, 10 * N + D, k + 1, by omega, rfl, rfl, HK2, HN.out.1, HN.out.2, HRs.out⟩
        case measure => simpa [intOf] using HM.out
    · obtain rfl : t = j := by omega
      have he := HE.out
      rw [Nat.sub_self] at he
      have HRs := Lib.hid he
      have hk := HK.out
      have hbb := HBB.out
      obtain rfl : k = b := by omega
      clear he hk hbb
      go_wp2
      go_ret
      exact ⟨by rw [HRs.out]; rfl, rfl⟩
end Go.Proofs.YtoecdlemoimacaaDoor
