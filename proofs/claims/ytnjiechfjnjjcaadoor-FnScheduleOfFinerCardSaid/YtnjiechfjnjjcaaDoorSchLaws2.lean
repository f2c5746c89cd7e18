/- The laws over schedules: counted from the end; whole. -/
import Derived.Test.YtnjiechfjnjjcaaDoorSchLaws
import Derived.Deep.RegionHeld3
namespace Go.Proofs.YtnjiechfjnjjcaaDoor
open Go.RowKit
set_option linter.unusedVariables false
/-- the program's AddMonths at a multiple of the months -/
theorem bkI' {e m : Int} {k : Nat} {x : Int} (hx : x = -((k : Int) * m)) (W : World) (hM : MD W) :
    Calls Tryd.prog 19 #[.int .i64 e, .int .i64 x] W fun ed w' => ed = .returned (.int .i64 (bk e m k)) ∧ Below W.heap.size W w' := by
  have := addMonthsI_any e x W hM
  rw [hx] at this ⊢
  exact this
theorem neg_mul' (m : Int) (k : Nat) : -m * (k : Int) = -((k : Int) * m) := by rw [Int.neg_mul, Int.mul_comm]
set_option maxRecDepth 100000 in
set_option maxHeartbeats 8000000 in
theorem fnScheduleOfEnd_walk (a : Option Addr) (len cap : Nat) (w : World) (hM : MD w) (hlc : len ≤ cap) (hc : cap ≤ maxLen) (h : IsBytes w a len) :
    Calls Tryd.prog 6 #[.slice a len cap] w fun ed w' => ed = .returned (.bool true) ∧ Below w.heap.size w w' := by
  by_cases hbig : 1048576 < len
  · exact big_FnScheduleOfEnd a len cap w hlc hc hbig
  have hM1 := hM.size
  have HM := Lib.hid hM
  have H := Lib.hid h
  clear h hM
  go_enter Tryd.func6, Tryd.ntmps6
  have HB := Lib.hid (Below.refl w.heap.size w)
  go_wp2_with fail
  refine (drawScheduleOf_any _ _ _ _ hlc hc H.out).mono ?_
  rintro e w1 ⟨s, e, m, rfl, hs, he, hm, hb⟩
  have hszw1 := below_size hb
  try simp at hszw1
  have HBq : Below w.heap.size w w1 := Below.trans (by repeat (first | exact Below.refl _ _ | exact HB.out | refine Below.drew ?_ | refine bel_drewN _ ?_ | refine Below.alloc ?_ (by first | omega | (simp; done) | (simp; omega)) _ | refine Below.setCell ?_ (by first | (show _ ≤ _; omega) | (simp; done) | (simp; omega)) _)) (hb.mono (by first | omega | (simp; done) | (simp; omega)))
  have HB := Lib.hid HBq
  clear HBq hb
  clear hs he hm
  have hL := schL_le s e m
  have HS : Hid (∀ W : World, Calls Tryd.prog 12 #[.int .i64 s, .int .i64 e, .int .i64 m] W (ScI s e m W)) := Lib.hid fun W => scS_pv s e m W
  have HI : Hid (∀ W : World, MD W → Calls Tryd.prog 13 #[.int .i64 s, .int .i64 e, .int .i64 m] W (ScI s e m W)) := Lib.hid fun W h => scheduleOfI_any s e m W h
  have FA := Lib.hid (@schL_pos s e m)
  unfold ScI at HS HI
  obtain ⟨L, hLe⟩ : ∃ L, schL s e m = L := ⟨_, rfl⟩
  rw [hLe] at HS HI FA hL
  clear hLe
  obtain ⟨A, hA⟩ : ∃ A, perA s e m L = A := ⟨_, rfl⟩
  rw [hA] at HS HI
  have HA := Lib.hid hA
  clear hA
  go_wp2_with fail
  refine (HI.out _ (by exact HM.out.fwd (by repeat (first | exact Below.refl _ _ | exact HB.out.mono hM1 | refine Below.drew ?_ | refine bel_drewN _ ?_ | refine Below.alloc ?_ (by first | omega | (simp; done) | (simp; omega)) _ | refine Below.setCell ?_ (by first | (show _ ≤ _; omega) | (simp; done) | (simp; omega)) _)))).mono ?_
  rintro ed w2 ⟨v1, rfl, hp1, hb2⟩
  have HQ1 := Lib.hid hp1.pr
  have HB : Hid (Below w.heap.size w w2) := HB.out.trans (hb2.mono (by have := HB.out.size; omega))
  have hz2 := HB.out.size
  clear hb2 hp1
  go_wp2_with fail
  refine (HS.out _).mono ?_
  rintro ed w3 ⟨v0, rfl, hp0, hb3⟩
  have HQ0 := Lib.hid hp0.pr
  have HQ1 := Lib.hid (HQ1.out.below hb3)
  have HB : Hid (Below w.heap.size w w3) := HB.out.trans (hb3.mono hz2)
  have hz3 := HB.out.size
  clear hb3 hp0
  go_wp2_with fail
  refine (equalPeriods_any _ _ L A _ (by omega) HQ1.out HQ0.out).mono ?_
  rintro ed w4 ⟨rfl, hb4⟩
  have HQ1 := Lib.hid (HQ1.out.below hb4)
  have HB : Hid (Below w.heap.size w w4) := HB.out.trans (hb4.mono hz3)
  have hz4 := HB.out.size
  clear hb4
  rcases HQ1.out with ⟨rfl, rfl⟩ | ⟨hpos, g, c, cap1, rfl, c1, c2, pb⟩
  · go_wp2_with fail
    refine (HS.out _).mono ?_
    rintro ed w5 ⟨v2, rfl, hp2, hb5⟩
    have HQ2 := Lib.hid hp2.pr
    have HQ1 := Lib.hid (HQ1.out.below hb5)
    have HB : Hid (Below w.heap.size w w5) := HB.out.trans (hb5.mono hz4)
    have hz5 := HB.out.size
    clear hb5 hp2
    go_wp2_with fail
    refine (equalPeriods_any _ _ 0 A _ (by omega) HQ1.out HQ2.out).mono ?_
    rintro ed w6 ⟨rfl, hb6⟩
    have HB : Hid (Below w.heap.size w w6) := HB.out.trans (hb6.mono hz5)
    clear hb6
    go_wp2
    go_ret
    exact ⟨rfl, HB.out⟩
  · obtain ⟨f1, f2, f3⟩ := FA.out hpos
    obtain ⟨⟨s0, s1, e1⟩, hm⟩ := spnB_iff.1 f1
    have PG := Lib.hid pb
    have hg := pb.lt
    obtain ⟨l, rfl⟩ : ∃ l, L = l + 1 := ⟨L - 1, by omega⟩
    have TT : Hid (∀ k, k < l + 1 → (A k).2.1 = bk e m (l - k)) := Lib.hid fun k hk => by rw [← HA.out]; unfold perA pT; rw [show l + 1 - 1 - k = l - k by omega]
    have hlast : bk e m (l + 1) ≤ s := by have := schN_out (s := s) (e := e) (m := m) (by omega); rw [f2] at this; exact this
    have Hm := Lib.hid hm
    have bd := bk_bd e m (l + 1)
    have m1 : 1 ≤ m := by omega
    have m12 : m ≤ 12 := by omega
    have HM4 : Hid (MD w4) := HM.out.fwd (HB.out.mono hM1)
    clear FA f1 f2 hm pb HS HI
    go_wp2
    go_loopw [7] (fun i wr => ∃ k : Nat, k ≤ l + 1 ∧ i = .int .i64 k ∧ Below w4.heap.size w4 wr) (fun i _ => l + 1 - (intOf i).toNat)
    case atStart => exact ⟨0, Nat.zero_le _, rfl, Below.refl _ _⟩
    case round =>
      obtain ⟨k, hk, rfl, hbel⟩ := hrel
      have hsz := hbel.size
      have P := PG.out.fwd hbel hg
      have HB5 := Lib.hid hbel
      have HM5 : Hid (MD wr) := HM4.out.below hbel
      clear hbel
      by_cases hlt : k < l + 1
      · obtain ⟨⟨_, a1, _⟩, _⟩ := P.cells hlt
        rw [TT.out k hlt] at a1
        have i0 : (0 : Int) ≤ (k : Int) := by omega
        have i1 : (k : Int) < (l : Int) + 1 := by omega
        have q0 : (l : Int) + 1 - 1 - (k : Int) = ((l - k : Nat) : Int) := by omega
        obtain ⟨b0, b1⟩ := mul_le (m := m) (k := l - k) Hm.out (by omega)
        have x1 : -m * ((l : Int) - (k : Int)) = -(((l - k : Nat) : Int) * m) := by rw [← neg_mul', show ((l - k : Nat) : Int) = (l : Int) - k by omega]
        have x2 : -600 ≤ -m * ((l : Int) - (k : Int)) := by rw [x1]; omega
        have x3 : -m * ((l : Int) - (k : Int)) ≤ 600 := by rw [x1]; omega
        have HC : Hid (∀ W : World, MD W → Calls Tryd.prog 19 #[.int .i64 e, .int .i64 (-m * ((l : Int) - (k : Int)))] W fun ed w' => ed = .returned (.int .i64 (bk e m (l - k))) ∧ Below W.heap.size W w') := Lib.hid fun W h => bkI' x1 W h
        have wr1 : IntKind.i64.wrap (-m * ((l : Int) - (k : Int))) = -m * ((l : Int) - (k : Int)) := IntWalk.i64_in _ (by omega)
        have wr0 : IntKind.i64.wrap (-m) = -m := IntWalk.i64_in _ (by omega)
        have wr3 : IntKind.i64.wrap (l : Int) = (l : Int) := IntWalk.i64_in _ (by omega)
        have wr2 : IntKind.i64.wrap ((l : Int) - (k : Int)) = (l : Int) - (k : Int) := IntWalk.i64_in _ (by omega)
        have HF1 : Hid (MD wr.drew) := HM5.out.fwd ⟨rfl, rfl, rfl, Nat.le_refl _, fun _ _ => rfl⟩
        clear x1 q0
        generalize bk e m (l - k) = X at *
        go_wp2_with fail
        go_region_held3 (fun w' => w'.cell? ⟨g, k * 3 + 1, none⟩ = some (.int .i64 X))
          ((first | assumption | (with_reducible exact bc hb (by first | assumption | (simp; assumption))) | (simp; assumption)))
          (first | (go_at_call 19; (with_reducible refine (HC.out _ HF1.out).mono ?_); rintro e v ⟨rfl, hb⟩))
        go_wp2
        go_roundw
        case rel => first | exact ⟨k + 1, by omega, by go_num, HB5.out.trans ((Below.drew (Below.refl _ _)).trans (hb.mono (by simpa using hsz)))⟩ | ((repeat apply Exists.intro); exact ⟨⟨k + 1, by omega, by go_num, HB5.out.trans ((Below.drew (Below.refl _ _)).trans (hb.mono (by simpa using hsz)))⟩, rfl⟩)
        case measure => first | (simp [intOf]; done) | (simp [intOf]; omega)
      · obtain rfl : k = l + 1 := by omega
        obtain ⟨b0, b1⟩ := mul_le (m := m) (k := l + 1) Hm.out (by omega)
        have x1 := neg_mul' m (l + 1)
        have x4 : -m * ((l : Int) + 1) = -(((l + 1 : Nat) : Int) * m) := by rw [← x1]; simp
        have x2 : -600 ≤ -m * ((l : Int) + 1) := by rw [x4]; omega
        have x3 : -m * ((l : Int) + 1) ≤ 600 := by rw [x4]; omega
        have HC : Hid (∀ W : World, MD W → Calls Tryd.prog 19 #[.int .i64 e, .int .i64 (-m * ((l : Int) + 1))] W fun ed w' => ed = .returned (.int .i64 (bk e m (l + 1))) ∧ Below W.heap.size W w') := Lib.hid fun W h => bkI' x4 W h
        clear x1 x4
        generalize bk e m (l + 1) = X at *
        go_wp2_with fail
        refine (HC.out _ HM5.out).mono ?_
        rintro ed w6 ⟨rfl, hb6⟩
        have HB6 := Lib.hid hb6
        clear hb6
        go_wp2
        go_ret
        exact ⟨ret_bool (by first | rfl | (simp; done) | (simp; omega)), HB.out.trans ((HB5.out.trans (HB6.out.mono hsz)).mono hz4)⟩
end Go.Proofs.YtnjiechfjnjjcaaDoor
