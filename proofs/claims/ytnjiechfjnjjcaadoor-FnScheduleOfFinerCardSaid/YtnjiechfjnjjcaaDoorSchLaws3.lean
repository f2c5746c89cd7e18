/- The laws over schedules: schedules can fit. -/
import Derived.Test.YtnjiechfjnjjcaaDoorSchLaws2
namespace Go.Proofs.YtnjiechfjnjjcaaDoor
open Go.RowKit
set_option linter.unusedVariables false
/-- from a day at which whole periods begin, they fit -/
theorem whole_facts {s e m : Int} {l : Nat} (h : spnB s e m = true) (hn : schN s e m = l + 1) (h40 : l + 1 ≤ 40) (hb : 0 ≤ bk e m (l + 1)) :
    schL (bk e m (l + 1)) e m = l + 1 ∧ ∀ k, k < l + 1 → pW (bk e m (l + 1)) e m (l + 1) k = true := by
  obtain ⟨⟨s0, s1, e1⟩, hm⟩ := spnB_iff.1 h
  have m1 : 1 ≤ m := by omega
  have hz := bk_zero (m := m) (e := e) ⟨by omega, e1⟩
  have hlt := bk_lt m1 hb (show 0 < l + 1 by omega)
  rw [hz] at hlt
  have hsp : spnB (bk e m (l + 1)) e m = true := spnB_iff.2 ⟨⟨hb, hlt, e1⟩, hm⟩
  have hN : schN (bk e m (l + 1)) e m = l + 1 := by
    rcases Nat.lt_trichotomy (schN (bk e m (l + 1)) e m) (l + 1) with q | q | q
    · have h1 := schN_out (s := bk e m (l + 1)) (e := e) (m := m) (by omega)
      have h2 := bk_lt m1 hb q
      omega
    · exact q
    · have h1 := schN_in q
      omega
  refine ⟨by rw [schL_yes hsp (by omega), hN], fun k hk => ?_⟩
  unfold pW
  split
  · simp
  · rfl
set_option maxRecDepth 100000 in
set_option maxHeartbeats 8000000 in
theorem fnScheduleOfWhole_walk (a : Option Addr) (len cap : Nat) (w : World) (hM : MD w) (hlc : len ≤ cap) (hc : cap ≤ maxLen) (h : IsBytes w a len) :
    Calls Tryd.prog 8 #[.slice a len cap] w fun ed w' => ed = .returned (.bool true) ∧ Below w.heap.size w w' := by
  by_cases hbig : 1048576 < len
  · exact big_FnScheduleOfWhole a len cap w hlc hc hbig
  have hM1 := hM.size
  have HM := Lib.hid hM
  have H := Lib.hid h
  clear h hM
  go_enter Tryd.func8, Tryd.ntmps8
  have HB := Lib.hid (Below.refl w.heap.size w)
  go_wp2_with fail
  refine (drawScheduleOf_any _ _ _ _ hlc hc H.out).mono ?_
  rintro e w1 ⟨s, e, m, rfl, hs, he, hm, hb⟩
  have hszw1 := below_size hb
  try simp at hszw1
  have HBq : Below w.heap.size w w1 := Below.trans (by repeat (first | exact Below.refl _ _ | exact HB.out | refine Below.drew ?_ | refine bel_drewN _ ?_ | refine Below.alloc ?_ (by first | omega | (simp; done) | (simp; omega)) _ | refine Below.setCell ?_ (by first | (show _ ≤ _; omega) | (simp; done) | (simp; omega)) _)) (hb.mono (by first | omega | (simp; done) | (simp; omega)))
  have HB := Lib.hid HBq
  clear HBq hb
  clear hs he hm
  have hL := schL_le s e m
  have HS : Hid (∀ W : World, Calls Tryd.prog 12 #[.int .i64 s, .int .i64 e, .int .i64 m] W (ScI s e m W)) := Lib.hid fun W => scS_pv s e m W
  have HI : Hid (∀ W : World, MD W → Calls Tryd.prog 13 #[.int .i64 s, .int .i64 e, .int .i64 m] W (ScI s e m W)) := Lib.hid fun W h => scheduleOfI_any s e m W h
  have FA := Lib.hid (@schL_pos s e m)
  unfold ScI at HS HI
  obtain ⟨L, hLe⟩ : ∃ L, schL s e m = L := ⟨_, rfl⟩
  rw [hLe] at HS HI FA hL
  clear hLe
  obtain ⟨A, hA⟩ : ∃ A, perA s e m L = A := ⟨_, rfl⟩
  rw [hA] at HS HI
  have HA := Lib.hid hA
  clear hA
  go_wp2_with fail
  refine (HI.out _ (by exact HM.out.fwd (by repeat (first | exact Below.refl _ _ | exact HB.out.mono hM1 | refine Below.drew ?_ | refine bel_drewN _ ?_ | refine Below.alloc ?_ (by first | omega | (simp; done) | (simp; omega)) _ | refine Below.setCell ?_ (by first | (show _ ≤ _; omega) | (simp; done) | (simp; omega)) _)))).mono ?_
  rintro ed w2 ⟨v1, rfl, hp1, hb2⟩
  have HQ1 := Lib.hid hp1.pr
  have HB : Hid (Below w.heap.size w w2) := HB.out.trans (hb2.mono (by have := HB.out.size; omega))
  have hz2 := HB.out.size
  clear hb2 hp1
  go_wp2_with fail
  refine (HS.out _).mono ?_
  rintro ed w3 ⟨v0, rfl, hp0, hb3⟩
  have HQ0 := Lib.hid hp0.pr
  have HQ1 := Lib.hid (HQ1.out.below hb3)
  have HB : Hid (Below w.heap.size w w3) := HB.out.trans (hb3.mono hz2)
  have hz3 := HB.out.size
  clear hb3 hp0
  go_wp2_with fail
  refine (equalPeriods_any _ _ L A _ (by omega) HQ1.out HQ0.out).mono ?_
  rintro ed w4 ⟨rfl, hb4⟩
  have HQ1 := Lib.hid (HQ1.out.below hb4)
  have HB : Hid (Below w.heap.size w w4) := HB.out.trans (hb4.mono hz3)
  have hz4 := HB.out.size
  clear hb4
  rcases HQ1.out with ⟨rfl, rfl⟩ | ⟨hpos, g, c, cap1, rfl, c1, c2, pb⟩
  · go_wp2_with fail
    refine (HS.out _).mono ?_
    rintro ed w5 ⟨v2, rfl, hp2, hb5⟩
    have HQ2 := Lib.hid hp2.pr
    have HQ1 := Lib.hid (HQ1.out.below hb5)
    have HB : Hid (Below w.heap.size w w5) := HB.out.trans (hb5.mono hz4)
    have hz5 := HB.out.size
    clear hb5 hp2
    go_wp2_with fail
    refine (equalPeriods_any _ _ 0 A _ (by omega) HQ1.out HQ2.out).mono ?_
    rintro ed w6 ⟨rfl, hb6⟩
    have HB : Hid (Below w.heap.size w w6) := HB.out.trans (hb6.mono hz5)
    clear hb6
    go_wp2
    go_ret
    exact ⟨rfl, HB.out⟩
  · obtain ⟨f1, f2, f3⟩ := FA.out hpos
    obtain ⟨⟨s0, s1, e1⟩, hm⟩ := spnB_iff.1 f1
    have PG := Lib.hid pb
    have hg := pb.lt
    obtain ⟨l, rfl⟩ : ∃ l, L = l + 1 := ⟨L - 1, by omega⟩
    have W0 : Hid ((A 0).2.2 = (bk e m (l + 1) == s)) := Lib.hid (by rw [← HA.out]; unfold perA pW; rw [if_pos rfl])
    have Hm := Lib.hid hm
    have bd := bk_bd e m (l + 1)
    obtain ⟨bd0, bd1⟩ := bd
    have m1 : 1 ≤ m := by omega
    have m12 : m ≤ 12 := by omega
    have HM4 : Hid (MD w4) := HM.out.fwd (HB.out.mono hM1)
    obtain ⟨b0, b1⟩ := mul_le (m := m) (k := l + 1) hm (by omega)
    have x4 : -m * ((l : Int) + 1) = -(((l + 1 : Nat) : Int) * m) := by rw [← neg_mul' m (l + 1)]; simp
    have x2 : -600 ≤ -m * ((l : Int) + 1) := by rw [x4]; omega
    have x3 : -m * ((l : Int) + 1) ≤ 600 := by rw [x4]; omega
    have HC : Hid (∀ W : World, MD W → Calls Tryd.prog 19 #[.int .i64 e, .int .i64 (-m * ((l : Int) + 1))] W fun ed w' => ed = .returned (.int .i64 (bk e m (l + 1))) ∧ Below W.heap.size W w') := Lib.hid fun W h => bkI' x4 W h
    have WF := Lib.hid (fun hb => whole_facts f1 f2 (by omega) hb)
    have HI2 : Hid (∀ W : World, MD W → Calls Tryd.prog 13 #[.int .i64 (bk e m (l + 1)), .int .i64 e, .int .i64 m] W (ScI (bk e m (l + 1)) e m W)) := Lib.hid fun W h => scheduleOfI_any _ e m W h
    clear FA f1 f2 hm pb HS HI x4 b0 b1
    generalize bk e m (l + 1) = X at *
    go_wp2_with fail
    refine (HC.out _ HM4.out).mono ?_
    rintro ed w6 ⟨rfl, hb6⟩
    have PG6 := Lib.hid (PG.out.fwd hb6 hg)
    have HM6 : Hid (MD w6) := HM4.out.below hb6
    have hz6 := hb6.size
    have HB6 := Lib.hid hb6
    clear hb6
    go_wp2_with fail
    refine (HI2.out _ HM6.out).mono ?_
    rintro ed w7 ⟨v3, rfl, hp3, hb7⟩
    have HQ3 := hp3.pr
    have PG7 := Lib.hid (PG6.out.fwd hb7 (by omega))
    have HB7 : Hid (Below w4.heap.size w4 w7) := HB6.out.trans (hb7.mono hz6)
    have hz7 := hb7.size
    clear hb7 hp3
    by_cases hX : X < 0
    · have hL0 : schL X e m = 0 := schL_no (by
        cases q : spnB X e m
        · rfl
        · exfalso; have := (spnB_iff.1 q).1; omega)
      rw [hL0] at HQ3
      rcases HQ3 with ⟨_, rfl⟩ | ⟨h0, _⟩
      · clear hL0
        go_wp2
        go_loop [9] (fun i => i = .int .i64 0) (fun _ => 0)
        case atStart => rfl
        case round =>
          obtain rfl := hrel
          go_wp2
          go_ret
          exact ⟨rfl, HB.out.trans (HB7.out.mono hz4)⟩
      · omega
    · obtain ⟨hL1, hW⟩ := WF.out (by omega)
      rw [hL1] at HQ3
      rcases HQ3 with ⟨h0, _⟩ | ⟨_, g3, c3, cap3, rfl, d1, d2, pb3⟩
      · omega
      have P3 := Lib.hid pb3
      have hg3 := pb3.lt
      have HW := Lib.hid hW
      obtain ⟨⟨_, _, a2⟩, _⟩ := PG7.out.cells (show 0 < l + 1 by omega)
      rw [W0.out] at a2
      simp only [Nat.zero_mul, Nat.zero_add] at a2
      clear hL1 hW pb3
      go_wp2
      go_loop [9] (fun i => ∃ k : Nat, k ≤ l + 1 ∧ i = .int .i64 k) (fun i => l + 1 - (intOf i).toNat)
      case atStart => exact ⟨0, Nat.zero_le _, rfl⟩
      case round =>
        obtain ⟨k, hk, rfl⟩ := hrel
        by_cases hlt : k < l + 1
        · obtain ⟨⟨_, _, b2⟩, _⟩ := P3.out.cells hlt
          have hw : (perA X e m (l + 1) k).2.2 = true := HW.out k hlt
          rw [hw] at b2
          have i0 : (0 : Int) ≤ (k : Int) := by omega
          have i1 : (k : Int) < (l : Int) + 1 := by omega
          clear hw
          go_wp2
          go_round
          case rel => exact ⟨k + 1, by omega, by go_num⟩
          case measure => first | (simp [intOf]; done) | (simp [intOf]; omega)
        · obtain rfl : k = l + 1 := by omega
          go_wp2
          go_ret
          exact ⟨ret_bool (by first | rfl | (simp; done) | (simp; omega)), HB.out.trans (HB7.out.mono hz4)⟩
end Go.Proofs.YtnjiechfjnjjcaaDoor
