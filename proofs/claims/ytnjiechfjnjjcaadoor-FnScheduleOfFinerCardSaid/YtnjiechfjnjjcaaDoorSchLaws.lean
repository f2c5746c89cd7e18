/- The laws over schedules. -/
import Derived.Test.YtnjiechfjnjjcaaDoorSchDraw
namespace Go.Proofs.YtnjiechfjnjjcaaDoor
open Go.RowKit
set_option linter.unusedVariables false
theorem big_FnScheduleOf (a : Option Addr) (len cap : Nat) (w : World) (hlc : len ≤ cap) (hc : cap ≤ maxLen) (hbig : 1048576 < len) :
    Calls Tryd.prog 5 #[.slice a len cap] w fun e w' => e = .returned (.bool true) ∧ Below w.heap.size w w' := by
  unfold maxLen at hc
  go_enter Tryd.func5, Tryd.ntmps5
  go_wp2
  go_ret
  exact ⟨rfl, Below.refl _ _⟩
theorem big_FnScheduleOfEnd (a : Option Addr) (len cap : Nat) (w : World) (hlc : len ≤ cap) (hc : cap ≤ maxLen) (hbig : 1048576 < len) :
    Calls Tryd.prog 6 #[.slice a len cap] w fun e w' => e = .returned (.bool true) ∧ Below w.heap.size w w' := by
  unfold maxLen at hc
  go_enter Tryd.func6, Tryd.ntmps6
  go_wp2
  go_ret
  exact ⟨rfl, Below.refl _ _⟩
theorem big_FnScheduleOfFiner (a : Option Addr) (len cap : Nat) (w : World) (hlc : len ≤ cap) (hc : cap ≤ maxLen) (hbig : 1048576 < len) :
    Calls Tryd.prog 7 #[.slice a len cap] w fun e w' => e = .returned (.bool true) ∧ Below w.heap.size w w' := by
  unfold maxLen at hc
  go_enter Tryd.func7, Tryd.ntmps7
  go_wp2
  go_ret
  exact ⟨rfl, Below.refl _ _⟩
theorem big_FnScheduleOfWhole (a : Option Addr) (len cap : Nat) (w : World) (hlc : len ≤ cap) (hc : cap ≤ maxLen) (hbig : 1048576 < len) :
    Calls Tryd.prog 8 #[.slice a len cap] w fun e w' => e = .returned (.bool true) ∧ Below w.heap.size w w' := by
  unfold maxLen at hc
  go_enter Tryd.func8, Tryd.ntmps8
  go_wp2
  go_ret
  exact ⟨rfl, Below.refl _ _⟩
/-- where there are periods -/
theorem schL_pos {s e m : Int} (h : 1 ≤ schL s e m) : spnB s e m = true ∧ schN s e m = schL s e m ∧ schL s e m ≤ 40 := by
  unfold schL at *
  split at h
  · rename_i q
    rw [if_pos q]
    exact ⟨q.1, rfl, q.2⟩
  · omega
theorem per_lt {s e m : Int} {n k : Nat} (hs : 0 ≤ s) (hm : 1 ≤ m) (hn : schN s e m = n) (hk : k < n) : pF s e m n k < pT e m n k := by
  unfold pF pT
  by_cases c : k = 0
  · rw [if_pos c, c]
    exact schN_in (by omega)
  · rw [if_neg c]
    have := schN_in (s := s) (e := e) (m := m) (j := n - k) (by omega)
    exact bk_lt hm (by omega) (by omega)
theorem per_next {s e m : Int} {n j : Nat} (h : j + 1 < n) : pF s e m n (j + 1) = pT e m n j ∧ pW s e m n (j + 1) = true := by
  unfold pF pT pW
  rw [if_neg (by omega), if_neg (by omega), show n - (j + 1) = n - 1 - j by omega]
  exact ⟨rfl, rfl⟩
theorem per_last {s e m : Int} {l : Nat} (h : spnB s e m = true) : pT e m (l + 1) l = e ∧ pF s e m (l + 1) 0 = s := by
  obtain ⟨⟨h0, h1, h2⟩, _⟩ := spnB_iff.1 h
  unfold pT pF
  rw [show l + 1 - 1 - l = 0 by omega, bk_zero ⟨by omega, h2⟩, if_pos rfl]
  exact ⟨rfl, rfl⟩
set_option maxHeartbeats 8000000 in
theorem fnScheduleOf_walk (a : Option Addr) (len cap : Nat) (w : World) (hM : MD w) (hlc : len ≤ cap) (hc : cap ≤ maxLen) (h : IsBytes w a len) :
    Calls Tryd.prog 5 #[.slice a len cap] w fun ed w' => ed = .returned (.bool true) ∧ Below w.heap.size w w' := by
  by_cases hbig : 1048576 < len
  · exact big_FnScheduleOf a len cap w hlc hc hbig
  have hM1 := hM.size
  have HM := Lib.hid hM
  have H := Lib.hid h
  clear h hM
  go_enter Tryd.func5, Tryd.ntmps5
  have HB := Lib.hid (Below.refl w.heap.size w)
  go_wp2_with fail
  refine (drawScheduleOf_any _ _ _ _ hlc hc H.out).mono ?_
  rintro e w1 ⟨s, e, m, rfl, hs, he, hm, hb⟩
  have hszw1 := below_size hb
  try simp at hszw1
  have HBq : Below w.heap.size w w1 := Below.trans (by repeat (first | exact Below.refl _ _ | exact HB.out | refine Below.drew ?_ | refine bel_drewN _ ?_ | refine Below.alloc ?_ (by first | omega | (simp; done) | (simp; omega)) _ | refine Below.setCell ?_ (by first | (show _ ≤ _; omega) | (simp; done) | (simp; omega)) _)) (hb.mono (by first | omega | (simp; done) | (simp; omega)))
  have HB := Lib.hid HBq
  clear HBq hb
  clear hs he hm
  have hL := schL_le s e m
  have HS : Hid (∀ W : World, Calls Tryd.prog 12 #[.int .i64 s, .int .i64 e, .int .i64 m] W (ScI s e m W)) := Lib.hid fun W => scS_pv s e m W
  have HI : Hid (∀ W : World, MD W → Calls Tryd.prog 13 #[.int .i64 s, .int .i64 e, .int .i64 m] W (ScI s e m W)) := Lib.hid fun W h => scheduleOfI_any s e m W h
  have FA := Lib.hid (@schL_pos s e m)
  unfold ScI at HS HI
  obtain ⟨L, hLe⟩ : ∃ L, schL s e m = L := ⟨_, rfl⟩
  rw [hLe] at HS HI FA hL
  clear hLe
  obtain ⟨A, hA⟩ : ∃ A, perA s e m L = A := ⟨_, rfl⟩
  rw [hA] at HS HI
  have HA := Lib.hid hA
  clear hA
  go_wp2_with fail
  refine (HI.out _ (by exact HM.out.fwd (by repeat (first | exact Below.refl _ _ | exact HB.out.mono hM1 | refine Below.drew ?_ | refine bel_drewN _ ?_ | refine Below.alloc ?_ (by first | omega | (simp; done) | (simp; omega)) _ | refine Below.setCell ?_ (by first | (show _ ≤ _; omega) | (simp; done) | (simp; omega)) _)))).mono ?_
  rintro ed w2 ⟨v1, rfl, hp1, hb2⟩
  have HQ1 := Lib.hid hp1.pr
  have HB : Hid (Below w.heap.size w w2) := HB.out.trans (hb2.mono (by have := HB.out.size; omega))
  have hz2 := HB.out.size
  clear hb2 hp1
  go_wp2_with fail
  refine (HS.out _).mono ?_
  rintro ed w3 ⟨v0, rfl, hp0, hb3⟩
  have HQ0 := Lib.hid hp0.pr
  have HQ1 := Lib.hid (HQ1.out.below hb3)
  have HB : Hid (Below w.heap.size w w3) := HB.out.trans (hb3.mono hz2)
  have hz3 := HB.out.size
  clear hb3 hp0
  go_wp2_with fail
  refine (equalPeriods_any _ _ L A _ (by omega) HQ1.out HQ0.out).mono ?_
  rintro ed w4 ⟨rfl, hb4⟩
  have HQ1 := Lib.hid (HQ1.out.below hb4)
  have HB : Hid (Below w.heap.size w w4) := HB.out.trans (hb4.mono hz3)
  have hz4 := HB.out.size
  clear hb4
  rcases HQ1.out with ⟨rfl, rfl⟩ | ⟨hpos, g, c, cap1, rfl, c1, c2, pb⟩
  · go_wp2_with fail
    refine (HS.out _).mono ?_
    rintro ed w5 ⟨v2, rfl, hp2, hb5⟩
    have HQ2 := Lib.hid hp2.pr
    have HQ1 := Lib.hid (HQ1.out.below hb5)
    have HB : Hid (Below w.heap.size w w5) := HB.out.trans (hb5.mono hz4)
    have hz5 := HB.out.size
    clear hb5 hp2
    go_wp2_with fail
    refine (equalPeriods_any _ _ 0 A _ (by omega) HQ1.out HQ2.out).mono ?_
    rintro ed w6 ⟨rfl, hb6⟩
    have HB : Hid (Below w.heap.size w w6) := HB.out.trans (hb6.mono hz5)
    clear hb6
    go_wp2
    go_ret
    exact ⟨rfl, HB.out⟩
  · obtain ⟨f1, f2, f3⟩ := FA.out hpos
    obtain ⟨⟨s0, s1, e1⟩, hm⟩ := spnB_iff.1 f1
    have PG := Lib.hid pb
    have hg := pb.lt
    obtain ⟨l, rfl⟩ : ∃ l, L = l + 1 := ⟨L - 1, by omega⟩
    have LT : Hid (∀ k, k < l + 1 → (A k).1 < (A k).2.1) := Lib.hid fun k hk => by rw [← HA.out]; exact per_lt s0 (by omega) f2 hk
    have NX : Hid (∀ j, j + 1 < l + 1 → (A (j + 1)).1 = (A j).2.1 ∧ (A (j + 1)).2.2 = true) := Lib.hid fun j hj => by rw [← HA.out]; exact per_next (s := s) hj
    have LA : Hid ((A l).2.1 = e ∧ (A 0).1 = s) := Lib.hid (by rw [← HA.out]; exact per_last f1)
    clear FA f1 f2 f3 hm s0 s1 e1 pb HS HI
    go_wp2
    go_loopw [7] (fun i wr => ∃ k : Nat, k ≤ l + 1 ∧ i = .int .i64 k ∧ Below w4.heap.size w4 wr) (fun i _ => l + 1 - (intOf i).toNat)
    case atStart => exact ⟨0, Nat.zero_le _, rfl, Below.refl _ _⟩
    case round =>
      obtain ⟨k, hk, rfl, hbel⟩ := hrel
      have hsz := hbel.size
      have P := PG.out.fwd hbel hg
      have HB5 := Lib.hid hbel
      clear hbel
      by_cases hlt : k < l + 1
      · obtain ⟨⟨a0, a1, a2⟩, _⟩ := P.cells hlt
        have hFT := LT.out k hlt
        have i0 : (0 : Int) ≤ (k : Int) := by omega
        have i1 : (k : Int) < (l : Int) + 1 := by omega
        by_cases hk0 : k = 0
        · subst hk0
          have d1 : decide ((A 0).2.1 ≤ (A 0).1) = false := by simpa using hFT
          simp only [Nat.zero_mul, Nat.zero_add] at a0 a1 a2
          go_wp2_with fail
          go_quiet (fail)
          go_wp2
          go_roundw
          case rel => exact ⟨1, by omega, rfl, bel_drewN _ HB5.out⟩
          case measure => first | (simp [intOf]; done) | (simp [intOf]; omega)
        · obtain ⟨j, rfl⟩ : ∃ j, k = j + 1 := ⟨k - 1, by omega⟩
          obtain ⟨n1, n2⟩ := NX.out j hlt
          obtain ⟨⟨_, b1, _⟩, _⟩ := P.cells (show j < l + 1 by omega)
          rw [n1] at a0 hFT
          rw [n2] at a2
          have d1 : decide ((A (j + 1)).2.1 ≤ (A j).2.1) = false := by simpa using hFT
          generalize (A (j + 1)).2.1 = Y at *
          generalize (A j).2.1 = X at *
          have i2 : ((j : Int) + 1 - 1).toNat = j := by omega
          have i3 : ((j : Int) + 1).toNat = j + 1 := by omega
          go_wp2_with fail
          go_quiet (fail)
          go_wp2
          go_roundw
          case rel => exact ⟨j + 1 + 1, by omega, by go_num, bel_drewN _ HB5.out⟩
          case measure => first | (simp [intOf]; done) | (simp [intOf]; omega)
      · obtain rfl : k = l + 1 := by omega
        obtain ⟨⟨a0, _, _⟩, _⟩ := P.cells (show 0 < l + 1 by omega)
        obtain ⟨⟨_, b1, _⟩, _⟩ := P.cells (show l < l + 1 by omega)
        obtain ⟨x1, x2⟩ := LA.out
        rw [x1] at b1
        rw [x2] at a0
        simp only [Nat.zero_mul] at a0
        go_wp2
        go_ret
        exact ⟨rfl, HB.out.trans (HB5.out.mono hz4)⟩
end Go.Proofs.YtnjiechfjnjjcaaDoor
