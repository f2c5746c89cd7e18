/- The laws over schedules: shorter periods divide longer ones. -/
import Derived.Test.YtnjiechfjnjjcaaDoorSchLaws3
namespace Go.Proofs.YtnjiechfjnjjcaaDoor
open Go.RowKit
set_option linter.unusedVariables false
theorem bk_finer (e : Int) (q : Nat) : bk e 12 q = bk e 6 (2 * q) := by
  unfold bk
  rw [show ((2 * q : Nat) : Int) * 6 = (q : Int) * 12 by omega]
/-- the end of a year's period is the end of a half year's one -/
theorem finer_facts {s e : Int} {y h i : Nat} (hs : 0 ≤ s) (hy : schN s e 12 = y) (hh : schN s e 6 = h) (h40 : h ≤ 40) (hi : i < y) :
    ∃ k, k < h ∧ pT e 6 h k = pT e 12 y i := by
  have h1 := schN_in (s := s) (e := e) (m := 12) (j := y - 1 - i) (by omega)
  rw [bk_finer] at h1
  have h2 : 2 * (y - 1 - i) < h := by
    rcases Nat.lt_or_ge (2 * (y - 1 - i)) h with c | c
    · exact c
    · exfalso
      have h3 := schN_out (s := s) (e := e) (m := 6) (by omega)
      rw [hh] at h3
      by_cases d : 2 * (y - 1 - i) = h
      · rw [d] at h1; omega
      · have := bk_lt (m := 6) (e := e) (j := h) (k := 2 * (y - 1 - i)) (by decide) (by omega) (by omega)
        omega
  refine ⟨h - 1 - 2 * (y - 1 - i), by omega, ?_⟩
  unfold pT
  rw [bk_finer, show h - 1 - (h - 1 - 2 * (y - 1 - i)) = 2 * (y - 1 - i) by omega]
set_option maxRecDepth 100000 in
set_option maxHeartbeats 8000000 in
theorem fnScheduleOfFiner_walk (a : Option Addr) (len cap : Nat) (w : World) (hM : MD w) (hlc : len ≤ cap) (hc : cap ≤ maxLen) (h : IsBytes w a len) :
    Calls Tryd.prog 7 #[.slice a len cap] w fun ed w' => ed = .returned (.bool true) ∧ Below w.heap.size w w' := by
  by_cases hbig : 1048576 < len
  · exact big_FnScheduleOfFiner a len cap w hlc hc hbig
  have hM1 := hM.size
  have HM := Lib.hid hM
  have H := Lib.hid h
  clear h hM
  go_enter Tryd.func7, Tryd.ntmps7
  have HB := Lib.hid (Below.refl w.heap.size w)
  go_wp2_with fail
  refine (drawScheduleOf_any _ _ _ _ hlc hc H.out).mono ?_
  rintro e w1 ⟨s, e, m, rfl, hs, he, hm, hb⟩
  have hszw1 := below_size hb
  try simp at hszw1
  have HBq : Below w.heap.size w w1 := Below.trans (by repeat (first | exact Below.refl _ _ | exact HB.out | refine Below.drew ?_ | refine bel_drewN _ ?_ | refine Below.alloc ?_ (by first | omega | (simp; done) | (simp; omega)) _ | refine Below.setCell ?_ (by first | (show _ ≤ _; omega) | (simp; done) | (simp; omega)) _)) (hb.mono (by first | omega | (simp; done) | (simp; omega)))
  have HB := Lib.hid HBq
  clear HBq hb
  clear hs he hm
  have hL := schL_le s e m
  have HS : Hid (∀ W : World, Calls Tryd.prog 12 #[.int .i64 s, .int .i64 e, .int .i64 m] W (ScI s e m W)) := Lib.hid fun W => scS_pv s e m W
  have HI : Hid (∀ W : World, MD W → Calls Tryd.prog 13 #[.int .i64 s, .int .i64 e, .int .i64 m] W (ScI s e m W)) := Lib.hid fun W h => scheduleOfI_any s e m W h
  have FA := Lib.hid (@schL_pos s e m)
  unfold ScI at HS HI
  obtain ⟨L, hLe⟩ : ∃ L, schL s e m = L := ⟨_, rfl⟩
  rw [hLe] at HS HI FA hL
  clear hLe
  obtain ⟨A, hA⟩ : ∃ A, perA s e m L = A := ⟨_, rfl⟩
  rw [hA] at HS HI
  have HA := Lib.hid hA
  clear hA
  go_wp2_with fail
  refine (HI.out _ (by exact HM.out.fwd (by repeat (first | exact Below.refl _ _ | exact HB.out.mono hM1 | refine Below.drew ?_ | refine bel_drewN _ ?_ | refine Below.alloc ?_ (by first | omega | (simp; done) | (simp; omega)) _ | refine Below.setCell ?_ (by first | (show _ ≤ _; omega) | (simp; done) | (simp; omega)) _)))).mono ?_
  rintro ed w2 ⟨v1, rfl, hp1, hb2⟩
  have HQ1 := Lib.hid hp1.pr
  have HB : Hid (Below w.heap.size w w2) := HB.out.trans (hb2.mono (by have := HB.out.size; omega))
  have hz2 := HB.out.size
  clear hb2 hp1
  go_wp2_with fail
  refine (HS.out _).mono ?_
  rintro ed w3 ⟨v0, rfl, hp0, hb3⟩
  have HQ0 := Lib.hid hp0.pr
  have HQ1 := Lib.hid (HQ1.out.below hb3)
  have HB : Hid (Below w.heap.size w w3) := HB.out.trans (hb3.mono hz2)
  have hz3 := HB.out.size
  clear hb3 hp0
  go_wp2_with fail
  refine (equalPeriods_any _ _ L A _ (by omega) HQ1.out HQ0.out).mono ?_
  rintro ed w4 ⟨rfl, hb4⟩
  have HQ1 := Lib.hid (HQ1.out.below hb4)
  have HB : Hid (Below w.heap.size w w4) := HB.out.trans (hb4.mono hz3)
  have hz4 := HB.out.size
  clear hb4
  rcases HQ1.out with ⟨rfl, rfl⟩ | ⟨hpos, g, c, cap1, rfl, c1, c2, pb⟩
  · go_wp2_with fail
    refine (HS.out _).mono ?_
    rintro ed w5 ⟨v2, rfl, hp2, hb5⟩
    have HQ2 := Lib.hid hp2.pr
    have HQ1 := Lib.hid (HQ1.out.below hb5)
    have HB : Hid (Below w.heap.size w w5) := HB.out.trans (hb5.mono hz4)
    have hz5 := HB.out.size
    clear hb5 hp2
    go_wp2_with fail
    refine (equalPeriods_any _ _ 0 A _ (by omega) HQ1.out HQ2.out).mono ?_
    rintro ed w6 ⟨rfl, hb6⟩
    have HB : Hid (Below w.heap.size w w6) := HB.out.trans (hb6.mono hz5)
    clear hb6
    go_wp2
    go_ret
    exact ⟨rfl, HB.out⟩
  · obtain ⟨f1, f2, f3⟩ := FA.out hpos
    obtain ⟨⟨s0, s1, e1⟩, hm⟩ := spnB_iff.1 f1
    have HM4 : Hid (MD w4) := HM.out.fwd (HB.out.mono hM1)
    have hLY := schL_le s e 12
    have hLH := schL_le s e 6
    have FY := Lib.hid (@schL_pos s e 12)
    have FH := Lib.hid (@schL_pos s e 6)
    have FF : Hid (∀ y h i : Nat, schN s e 12 = y → schN s e 6 = h → h ≤ 40 → i < y → ∃ k, k < h ∧ pT e 6 h k = pT e 12 y i) := Lib.hid fun y h i a b c d => finer_facts s0 a b c d
    have HI2 : Hid (∀ W : World, MD W → Calls Tryd.prog 13 #[.int .i64 s, .int .i64 e, .int .i64 12] W (ScI s e 12 W)) := Lib.hid fun W h => scheduleOfI_any s e 12 W h
    have HI3 : Hid (∀ W : World, MD W → Calls Tryd.prog 13 #[.int .i64 s, .int .i64 e, .int .i64 6] W (ScI s e 6 W)) := Lib.hid fun W h => scheduleOfI_any s e 6 W h
    obtain ⟨y, hy⟩ : ∃ y, schL s e 12 = y := ⟨_, rfl⟩
    obtain ⟨h6, hh⟩ : ∃ h6, schL s e 6 = h6 := ⟨_, rfl⟩
    unfold ScI at HI2 HI3
    rw [hy] at HI2 hLY FY
    rw [hh] at HI3 hLH FH
    have hpos' : (0 : Int) < (L : Int) := by omega
    clear FA f1 f2 f3 hm pb HS HI hy hh
    go_wp2_with fail
    refine (HI2.out _ HM4.out).mono ?_
    rintro ed w6 ⟨vy, rfl, hpy, hb6⟩
    have HM6 : Hid (MD w6) := HM4.out.below hb6
    have HQY := hpy.pr
    have hz6 := hb6.size
    have HB6 := Lib.hid hb6
    clear hb6 hpy
    have HQY := Lib.hid HQY
    go_wp2_with fail
    refine (HI3.out _ HM6.out).mono ?_
    rintro ed w7 ⟨vh, rfl, hph, hb7⟩
    have HQH := hph.pr
    have HQY := HQY.out.below hb7
    have HB7 : Hid (Below w.heap.size w w7) := HB.out.trans ((HB6.out.trans (hb7.mono hz6)).mono hz4)
    have hz7 := HB7.out.size
    clear hb7 hph
    rcases HQY with ⟨rfl, rfl⟩ | ⟨ypos, gy, cy, capy, rfl, y1, y2, pby⟩
    · have HQH := Lib.hid HQH
      rcases HQH.out with ⟨rfl, rfl⟩ | ⟨_, gh, ch, caph, rfl, q1, q2, _⟩
      all_goals
        go_wp2
        go_loop [9] (fun i => i = .int .i64 0) (fun _ => 0)
        case atStart => rfl
        case round =>
          obtain rfl := hrel
          go_wp2
          go_ret
          exact ⟨rfl, HB7.out⟩
    · rcases HQH with ⟨rfl, rfl⟩ | ⟨hpos6, gh, ch, caph, rfl, q1, q2, pbh⟩
      · clear pby
        go_wp2
        go_loop [9] (fun i => i = .int .i64 0) (fun _ => 0)
        case atStart => rfl
        case round =>
          obtain rfl := hrel
          have yp : (0 : Int) < (y : Int) := by omega
          go_wp2
          go_ret
          exact ⟨rfl, HB7.out⟩
      · have PY := Lib.hid pby
        have PH := Lib.hid pbh
        have ly := pby.lt
        have lh := pbh.lt
        have FZ : Hid (∀ i, i < y → ∃ k, k < h6 ∧ (perA s e 6 h6 k).2.1 = (perA s e 12 y i).2.1) := Lib.hid fun i hi => FF.out y h6 i (FY.out ypos).2.1 (FH.out hpos6).2.1 (by omega) hi
        generalize perA s e 6 h6 = AH at *
        generalize perA s e 12 y = AY at *
        clear pby pbh FF FY FH HI2 HI3
        go_wp2
        go_loopw [9] (fun i wr => ∃ t : Nat, t ≤ y ∧ i = .int .i64 t ∧ Below w7.heap.size w7 wr) (fun i _ => y - (intOf i).toNat)
        case atStart => exact ⟨0, Nat.zero_le _, rfl, Below.refl _ _⟩
        case round =>
          obtain ⟨t, ht, rfl, hbel⟩ := hrel
          have hsz := hbel.size
          have hp6 : (0 : Int) < (h6 : Int) := by omega
          have hp6b : decide (0 < h6) = true := by simp; omega
          by_cases hlt : t < y
          · obtain ⟨ks, hks, hke⟩ := FZ.out t hlt
            have HKE := Lib.hid hke
            have i0 : (0 : Int) ≤ (t : Int) := by omega
            have i1 : (t : Int) < (y : Int) := by omega
            have HB8 := Lib.hid hbel
            clear hbel hke
            go_wp2
            go_loopw [10, 11] (fun sm k wi => ∃ (j : Nat) (b : Bool), j ≤ h6 ∧ k = .int .i64 j ∧ sm = .bool b ∧ (ks < j → b = true) ∧ Below w7.heap.size w7 wi) (fun _ k _ => h6 - (intOf k).toNat)
            case atStart => exact ⟨0, false, Nat.zero_le _, rfl, rfl, fun h => by omega, HB8.out⟩
            case round =>
              obtain ⟨j, b, hj, rfl, rfl, hb, hbel2⟩ := hrel
              have PYr := PY.out.fwd hbel2 ly
              have PHr := PH.out.fwd hbel2 lh
              have HBI := Lib.hid hbel2
              have HBB := Lib.hid hb
              clear hbel2 hb
              by_cases hjl : j < h6
              · obtain ⟨⟨_, a1, _⟩, _⟩ := PYr.cells hlt
                obtain ⟨⟨_, b1, _⟩, _⟩ := PHr.cells hjl
                have j0 : (0 : Int) ≤ (j : Int) := by omega
                have j1 : (j : Int) < (h6 : Int) := by omega
                cases b
                · have HEQ : Hid (ks = j → ((AH j).2.1 == (AY t).2.1) = true) := Lib.hid fun h => by rw [← h, HKE.out]; simp
                  go_wp2_with fail
                  go_quiet (fail)
                  go_wp2
                  go_roundw
                  case rel =>
                    refine ⟨j + 1, _, by omega, by go_num, rfl, fun h => ?_, bel_drewN _ HBI.out⟩
                    by_cases c : ks = j
                    · exact HEQ.out c
                    · exact absurd (HBB.out (by omega)) (by decide)
                  case measure => first | (simp [intOf]; done) | (simp [intOf]; omega)
                · go_wp2_with fail
                  go_quiet (fail)
                  go_wp2
                  go_roundw
                  case rel => first | exact ⟨j + 1, true, by omega, by go_num, rfl, fun h => rfl, bel_drewN _ HBI.out⟩ | ((repeat apply Exists.intro); refine ⟨?_, rfl⟩; exact ⟨j + 1, true, by omega, by go_num, rfl, fun h => rfl, bel_drewN _ HBI.out⟩)
                  case measure => first | (simp [intOf]; done) | (simp [intOf]; omega)
              · obtain rfl : j = h6 := by omega
                obtain rfl := HBB.out hks
                go_wp2
                go_roundw
                case rel => exact ⟨t + 1, by omega, by go_num, HBI.out⟩
                case measure => first | (simp [intOf]; done) | (simp [intOf]; omega)
          · obtain rfl : t = y := by omega
            go_wp2
            go_ret
            exact ⟨rfl, HB7.out.trans (hbel.mono hz7)⟩
end Go.Proofs.YtnjiechfjnjjcaaDoor
