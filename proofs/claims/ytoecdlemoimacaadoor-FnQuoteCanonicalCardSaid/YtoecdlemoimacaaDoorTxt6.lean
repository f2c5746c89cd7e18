/- Reading dates out of texts: the program's cursor. -/
import Derived.Test.YtoecdlemoimacaaDoorTxt5
import Derived.Test.YtoecdlemoimacaaDoorReader
namespace Go.Proofs.YtoecdlemoimacaaDoor
open Go.RowKit
set_option linter.unusedVariables false
/-- a cursor in block b -/
def CU (w : World) (b : Nat) (l : List UInt8) (k : Int) : Prop := w.heap[b]? = some (.cells #[.string ⟨l.toArray⟩, .int .i64 k] 62 (0, 0))
theorem CU.cell {w : World} {b : Nat} {l : List UInt8} {k : Int} (h : CU w b l k) : w.cell? ⟨b, 0, none⟩ = some (.string ⟨l.toArray⟩) ∧ w.cell? ⟨b, 1, none⟩ = some (.int .i64 k) := by
  unfold CU at h
  refine ⟨?_, ?_⟩ <;> simp [World.cell?, h]
theorem CU.free {w : World} {b : Nat} {l : List UInt8} {k : Int} (h : CU w b l k) : w.frozen? ⟨b, 0, none⟩ = false ∧ w.frozen? ⟨b, 1, none⟩ = false := by
  unfold CU at h
  refine ⟨?_, ?_⟩ <;> simp [World.frozen?, h]
theorem CU.lt {w : World} {b : Nat} {l : List UInt8} {k : Int} (h : CU w b l k) : b < w.heap.size := cell_lt h.cell.1
theorem CU.set {w : World} {b : Nat} {l : List UInt8} {k : Int} (h : CU w b l k) (v : Int) : CU (w.setCell ⟨b, 1, none⟩ (.int .i64 v)) b l v := by
  unfold CU at h
  simp [CU, World.setCell, Array.getElem?_modify, h]
theorem CU.drewN {w : World} {b : Nat} {l : List UInt8} {k : Int} (h : CU w b l k) (n : Nat) : CU (w.drewN n) b l k := h
def atC (w : World) (b : Nat) : Nat := match w.cell? ⟨b, 1, none⟩ with
  | some (.int _ m) => m.toNat
  | _ => 0
theorem CU.at {w : World} {b : Nat} {l : List UInt8} {k : Int} (h : CU w b l k) : atC w b = k.toNat := by unfold atC; rw [h.cell.2]
def mC (L b : Nat) (w : World) : Nat := L - atC w b
theorem rd_end (l : List UInt8) (f u : Nat) (N : Int) (h : l.length ≤ u) : rdN f (l.drop u) N = N ∧ rdK f (l.drop u) = 0 := by
  rw [List.drop_eq_nil_of_le h]
  cases f <;> simp [rdN, rdK]
theorem rd_no (l : List UInt8) (f u : Nat) (N : Int) (h : u < l.length) (hd : isD l[u] = false) : rdN f (l.drop u) N = N ∧ rdK f (l.drop u) = 0 := by
  rw [List.drop_eq_getElem_cons h]
  cases f <;> simp [rdN, rdK, hd]
theorem rd_yes (l : List UInt8) (f u : Nat) (N : Int) (h : u < l.length) (hd : isD l[u] = true) : rdN (f + 1) (l.drop u) N = rdN f (l.drop (u + 1)) (10 * N + ((l[u].toNat : Int) - 48)) ∧ rdK (f + 1) (l.drop u) = rdK f (l.drop (u + 1)) + 1 := by
  rw [List.drop_eq_getElem_cons h]
  simp [rdN, rdK, hd]
def NumP (b : Nat) (l : List UInt8) (a : Nat) (w : World) (e : Ending) (w' : World) : Prop :=
  e = .returned (.int .i64 (rdN 6 (l.drop a) 0)) ∧ CU w' b l ((nA l a : Nat) : Int) ∧ Keep b w w'
set_option maxHeartbeats 4000000 in
theorem cnumber_any (b : Nat) (l : List UInt8) (a : Nat) (w : World) (hl : l.length ≤ 1048576) (ha : a ≤ l.length) (hc : CU w b l (a : Int)) :
    Calls Tryd.prog 56 #[.pointer (some ⟨b, 0, none⟩)] w (NumP b l a w) := by
  obtain ⟨x0, x1⟩ := hc.cell
  have HC := Lib.hid hc
  clear hc
  go_enter Tryd.func56, Tryd.ntmps56
  go_wp2_with fail
  go_loopw [3] (fun n wr => ∃ (t u : Nat) (N : Int), t ≤ 6 ∧ Hid (u = a + t) ∧ u ≤ l.length ∧ n = .int .i64 N ∧ 0 ≤ N ∧ N < 10 ^ t ∧ CU wr b l (u : Int) ∧ Keep b w wr ∧ rdN 6 (l.drop a) 0 = rdN (6 - t) (l.drop u) N ∧ rdK 6 (l.drop a) = t + rdK (6 - t) (l.drop u)) (fun _ wr => mC l.length b wr)
  case atStart => exact ⟨0, a, 0, by omega, Lib.hid rfl, ha, rfl, by omega, by simp, HC.out, Keep.refl _ _, rfl, by simp⟩
  case round =>
    obtain ⟨t, u, N, ht, HU, hu, rfl, N0, N1, hcu, hk, he1, he2⟩ := hrel
    clear x0 x1
    obtain ⟨x0, x1⟩ := hcu.cell
    obtain ⟨f0, f1⟩ := hcu.free
    have HCU := Lib.hid hcu
    have HKP := Lib.hid hk
    have HE1 := Lib.hid he1
    have HE2 := Lib.hid he2
    have hP : (10 : Int) ^ t ≤ 1000000 := by
      have : t = 0 ∨ t = 1 ∨ t = 2 ∨ t = 3 ∨ t = 4 ∨ t = 5 ∨ t = 6 := by omega
      rcases this with rfl | rfl | rfl | rfl | rfl | rfl | rfl <;> decide
    have hNb : N ≤ 1000000 := by omega
    have HP := Lib.hid N1
    have hsub : IntKind.i64.wrap ((u : Int) - (a : Int)) = (t : Int) := by have := HU.out; rw [IntWalk.i64_in _ (by omega)]; omega
    have hul : (u : Int) ≤ 1048576 := by omega
    clear hcu hk he1 he2 N1 hP
    by_cases h1 : u < l.length
    · have d1 : decide ((u : Int) < (l.length : Int)) = true := decide_eq_true (by omega)
      have d1' : (u : Int) < (l.length : Int) := by omega
      have hix := at_lit l u h1 (by rw [size_lit]; exact h1)
      have ry := rd_yes l (5 - t) u N h1
      have rn := rd_no l (6 - t) u N h1
      by_cases h2 : t < 6
      · have d2 : decide ((t : Int) < 6) = true := decide_eq_true (by omega)
        obtain ⟨c, hcc⟩ : ∃ c, l[u] = c := ⟨_, rfl⟩
        rw [hcc] at hix ry rn
        have hcl := c.toNat_lt
        have hiC : (((ByteArray.mk l.toArray)[u]'(by rw [size_lit]; exact h1)).toNat : Int) = (c.toNat : Int) := by rw [hix]
        clear hix
        by_cases h3 : (48 : Int) ≤ (c.toNat : Int)
        · have d3 : decide ((48 : Int) ≤ (c.toNat : Int)) = true := decide_eq_true h3
          by_cases h4 : (c.toNat : Int) ≤ 57
          · have d4 : decide ((c.toNat : Int) ≤ 57) = true := decide_eq_true h4
            have hD : isD c = true := by unfold isD; simp; omega
            obtain ⟨r1, r2⟩ := ry hD
            have hs : (10 : Int) ^ (t + 1) = 10 * 10 ^ t := by rw [Int.pow_succ, Int.mul_comm]
            have HR : Hid (rdN 6 (l.drop a) 0 = rdN (6 - (t + 1)) (l.drop (u + 1)) (10 * N + ((c.toNat : Int) - 48)) ∧ rdK 6 (l.drop a) = (t + 1) + rdK (6 - (t + 1)) (l.drop (u + 1))) := Lib.hid (by
              rw [HE1.out, HE2.out, show 6 - t = (5 - t) + 1 by omega, r1, r2, show 6 - (t + 1) = 5 - t by omega]
              exact ⟨rfl, by omega⟩)
            have HN : Hid (0 ≤ 10 * N + ((c.toNat : Int) - 48) ∧ 10 * N + ((c.toNat : Int) - 48) < 10 ^ (t + 1)) := Lib.hid (by rw [hs]; have := HP.out; omega)
            have w1 : IntKind.i64.wrap (10 * N) = 10 * N := IntWalk.i64_in _ (by omega)
            have w2 : IntKind.u8.wrap ((c.toNat : Int) - 48) = (c.toNat : Int) - 48 := wrap_u8 (by omega) (by omega)
            have w3 : wrap64 ((c.toNat : Int) - 48) = (c.toNat : Int) - 48 := by unfold wrap64; omega
            have w4 : IntKind.i64.wrap (10 * N + ((c.toNat : Int) - 48)) = 10 * N + ((c.toNat : Int) - 48) := IntWalk.i64_in _ (by omega)
            have w5 : IntKind.i64.wrap ((u : Int) + 1) = (u : Int) + 1 := IntWalk.i64_in _ (by omega)
            clear hs ry rn r1 r2 hD
            generalize (c.toNat : Int) = C at *
            go_wp2_with fail
            go_quiet (fail)
            go_wp2_with fail
            go_quiet (fail)
            clear w1 w2 w3 w4
            go_wp2
            go_roundw
            case rel =>
              refine ⟨t + 1, u + 1, 10 * N + (C - 48), by omega, Lib.hid (by have := HU.out; omega), by omega, rfl, HN.out.1, HN.out.2, ?_, ?_, HR.out.1, HR.out.2⟩
              · rw [Int.natCast_succ]
                refine CU.set (k := (u : Int)) ?_ _
                exact HCU.out
              · refine Keep.setCell (R := b) (p := ⟨b, 1, none⟩) ?_ rfl _
                exact ⟨HKP.out.os, HKP.out.tape, HKP.out.output, HKP.out.size, HKP.out.block⟩
            case measure =>
              have q1 := HCU.out.at
              unfold mC
              rw [q1]
              rw [CU.at (k := (u : Int) + 1) (l := l) (by refine CU.set (k := (u : Int)) ?_ _; exact HCU.out)]
              omega
          · have d4 : decide ((c.toNat : Int) ≤ 57) = false := decide_eq_false h4
            have hD : isD c = false := by unfold isD; simp; omega
            obtain ⟨r1, r2⟩ := rn hD
            have HR : Hid (rdN 6 (l.drop a) 0 = N ∧ nA l a = u) := Lib.hid (by
              unfold nA
              rw [HE1.out, HE2.out, r1, r2]
              exact ⟨rfl, by have := HU.out; omega⟩)
            clear ry rn r1 r2 hD
            generalize (c.toNat : Int) = C at *
            go_wp2_with fail
            go_quiet (fail)
            go_wp2
            go_ret
            refine ⟨by rw [HR.out.1]; rfl, ?_, ?_⟩
            · rw [HR.out.2]; exact HCU.out
            · exact ⟨HKP.out.os, HKP.out.tape, HKP.out.output, HKP.out.size, HKP.out.block⟩
        · have d3 : decide ((48 : Int) ≤ (c.toNat : Int)) = false := decide_eq_false h3
          have hD : isD c = false := by unfold isD; simp; omega
          obtain ⟨r1, r2⟩ := rn hD
          have HR : Hid (rdN 6 (l.drop a) 0 = N ∧ nA l a = u) := Lib.hid (by
            unfold nA
            rw [HE1.out, HE2.out, r1, r2]
            exact ⟨rfl, by have := HU.out; omega⟩)
          clear ry rn r1 r2 hD
          generalize (c.toNat : Int) = C at *
          go_wp2_with fail
          go_quiet (fail)
          go_wp2
          go_ret
          refine ⟨by rw [HR.out.1]; rfl, ?_, ?_⟩
          · rw [HR.out.2]; exact HCU.out
          · exact ⟨HKP.out.os, HKP.out.tape, HKP.out.output, HKP.out.size, HKP.out.block⟩
      · obtain rfl : t = 6 := by omega
        have d2 : decide (((6 : Nat) : Int) < 6) = false := by decide
        have HR : Hid (rdN 6 (l.drop a) 0 = N ∧ nA l a = u) := Lib.hid (by
          unfold nA
          rw [HE1.out, HE2.out]
          have := HU.out
          simp [rdN, rdK]
          omega)
        clear hix ry rn
        go_wp2_with fail
        go_quiet (fail)
        go_wp2
        go_ret
        refine ⟨by rw [HR.out.1]; rfl, ?_, ?_⟩
        · rw [HR.out.2]; exact HCU.out
        · exact ⟨HKP.out.os, HKP.out.tape, HKP.out.output, HKP.out.size, HKP.out.block⟩
    · have d1 : decide ((u : Int) < (l.length : Int)) = false := decide_eq_false (by omega)
      obtain ⟨r1, r2⟩ := rd_end l (6 - t) u N (by omega)
      have HR : Hid (rdN 6 (l.drop a) 0 = N ∧ nA l a = u) := Lib.hid (by
        unfold nA
        rw [HE1.out, HE2.out, r1, r2]
        exact ⟨rfl, by have := HU.out; omega⟩)
      clear r1 r2
      go_wp2_with fail
      go_quiet (fail)
      go_wp2
      go_ret
      refine ⟨by rw [HR.out.1]; rfl, ?_, ?_⟩
      · rw [HR.out.2]; exact HCU.out
      · exact ⟨HKP.out.os, HKP.out.tape, HKP.out.output, HKP.out.size, HKP.out.block⟩
end Go.Proofs.YtoecdlemoimacaaDoor
