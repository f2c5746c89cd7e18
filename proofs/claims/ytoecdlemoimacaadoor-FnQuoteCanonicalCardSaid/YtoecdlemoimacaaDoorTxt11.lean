/- Reading quotes out of texts: the program's ParseQuote. -/
import Derived.Test.YtoecdlemoimacaaDoorTxt10
namespace Go.Proofs.YtoecdlemoimacaaDoor
open Go.RowKit
set_option linter.unusedVariables false
theorem take_le (l : List UInt8) : (Lib.trimSuffix l [43]).length ≤ l.length := by
  unfold Lib.trimSuffix
  split
  · rw [List.length_take]; omega
  · exact Nat.le_refl _
theorem cut_le (l : List UInt8) : (Lib.cut l [45]).1.length ≤ l.length ∧ (Lib.cut l [45]).2.1.length ≤ l.length := by
  unfold Lib.cut
  split
  · simp only
    rw [List.length_take, List.length_drop]
    omega
  · simp
set_option maxHeartbeats 4000000 in
theorem parseQI_any (l : List UInt8) (w : World) (hl : l.length ≤ 1048576) (hT : PT w) (hQ : QV w) :
    Calls Tryd.prog 10 #[.string ⟨l.toArray⟩] w fun e w' => e = .returned (.int .i64 (imQ l)) ∧ Below w.heap.size w w' := by
  have HT := Lib.hid hT
  have HQ := Lib.hid hQ
  have lb : (Lib.trimSuffix l [43]).length ≤ 1048576 := Nat.le_trans (take_le l) hl
  obtain ⟨lc, ld⟩ := cut_le (Lib.trimSuffix l [43])
  have h1 : imC l = Lib.cut (Lib.trimSuffix l [43]) [45] := rfl
  have HS := Lib.hid (fun W => cutSuf_any l W hl)
  have HC := Lib.hid (fun W (k : QV W) => cut_any (Lib.trimSuffix l [43]) W lb k)
  rw [← h1] at lc ld HC
  have HA := Lib.hid (fun W (k : QV W) => atoi_any (imC l).1 W (by omega) k)
  have HB2 := Lib.hid (fun W (k : QV W) => atoi_any (imC l).2.1 W (by omega) k)
  obtain ⟨c, hc⟩ : ∃ c, imC l = c := ⟨_, rfl⟩
  have hi : imQ l = if c.2.2 = true then (match atI c.1, atI c.2.1 with
    | some a, some b => if inR a 0 300 = true ∧ inR b 0 31 = true ∧ quoteTx (imN l a b) = l then imN l a b else -1
    | _, _ => -1) else -1 := by unfold imQ; rw [hc]; rfl
  rw [hc] at HA HB2 HC
  obtain ⟨A, R, ok⟩ := c
  simp only at HA HB2 HC hi
  have HI := Lib.hid hi
  clear hi hc h1 lb lc ld hT hQ
  generalize Lib.trimSuffix l [43] = Bd at *
  have hN : ∀ a b, imN l a b = 64 * a + 2 * b + (if Lib.hasSuffix l [43] = true then 1 else 0) := fun a b => rfl
  have HN := Lib.hid hN
  clear hN
  cases ok
  · have hr : imQ l = -1 := by rw [HI.out]; simp
    have HR := Lib.hid hr
    clear hr
    go_enter Tryd.func10, Tryd.ntmps10
    have HB := Lib.hid (Below.refl w.heap.size w)
    go_wp2_with fail
    refine (HS.out _).mono ?_
    rintro e v1 ⟨rfl, rfl⟩
    go_wp2_with fail
    refine (HC.out _ HQ.out).mono ?_
    rintro e v2 ⟨rfl, hb⟩
    have hszv2 := below_size hb
    try simp at hszv2
    have HBq : Below w.heap.size w v2 := Below.trans (by repeat (first | exact Below.refl _ _ | exact HB.out | refine Below.drew ?_ | refine bel_drewN _ ?_ | refine Below.alloc ?_ (by first | omega | (simp; done) | (simp; omega)) _ | refine Below.setCell ?_ (by first | (show _ ≤ _; omega) | (simp; done) | (simp; omega)) _)) (hb.mono (by first | omega | (simp; done) | (simp; omega)))
    have HB := Lib.hid HBq
    clear HBq hb
    go_wp2
    go_ret
    exact ⟨ret_int HR.out.symm, HB.out⟩
  · go_enter Tryd.func10, Tryd.ntmps10
    have HB := Lib.hid (Below.refl w.heap.size w)
    go_wp2_with fail
    refine (HS.out _).mono ?_
    rintro e v1 ⟨rfl, rfl⟩
    go_wp2_with fail
    refine (HC.out _ HQ.out).mono ?_
    rintro e v2 ⟨rfl, hb⟩
    have hszv2 := below_size hb
    try simp at hszv2
    have HBq : Below w.heap.size w v2 := Below.trans (by repeat (first | exact Below.refl _ _ | exact HB.out | refine Below.drew ?_ | refine bel_drewN _ ?_ | refine Below.alloc ?_ (by first | omega | (simp; done) | (simp; omega)) _ | refine Below.setCell ?_ (by first | (show _ ≤ _; omega) | (simp; done) | (simp; omega)) _)) (hb.mono (by first | omega | (simp; done) | (simp; omega)))
    have HB := Lib.hid HBq
    clear HBq hb
    have HQ2 := Lib.hid (HQ.out.below HB.out)
    go_wp2_with fail
    refine (HA.out _ HQ2.out).mono ?_
    rintro e v3 ⟨ha, hb⟩
    have HB3 : Hid (Below w.heap.size w v3) := Lib.hid (HB.out.trans (hb.mono HB.out.size))
    have HQ3 := Lib.hid (HQ.out.below HB3.out)
    clear hb HB HQ2
    rcases ha with ⟨a, ea, rfl⟩ | ⟨ea, x, T, p, rfl⟩
    · go_wp2_with fail
      refine (HB2.out _ HQ3.out).mono ?_
      rintro e v4 ⟨hb', hb⟩
      have HB4 : Hid (Below w.heap.size w v4) := Lib.hid (HB3.out.trans (hb.mono HB3.out.size))
      clear hb
      rcases hb' with ⟨b, eb, rfl⟩ | ⟨eb, x, T, p, rfl⟩
      · have hi2 : imQ l = if inR a 0 300 = true ∧ inR b 0 31 = true ∧ quoteTx (imN l a b) = l then imN l a b else -1 := by
          rw [HI.out, if_pos trivial, ea, eb]
        have HI2 := Lib.hid hi2
        clear hi2 ea eb
        cases ra : inR a 0 300
        · have hr : imQ l = -1 := by rw [HI2.out, if_neg (by rw [ra]; simp)]
          have HR := Lib.hid hr
          clear hr
          go_wp2_with fail
          refine (within_any _ _ _ _).mono ?_
          rintro e v5 ⟨rfl, rfl⟩
          go_wp2
          go_ret
          exact ⟨ret_int HR.out.symm, HB4.out⟩
        · obtain ⟨a0, a1⟩ := inR_true.1 ra
          cases rb : inR b 0 31
          · have hr : imQ l = -1 := by rw [HI2.out, if_neg (by rw [rb]; simp)]
            have HR := Lib.hid hr
            clear hr
            go_wp2_with fail
            refine (within_any _ _ _ _).mono ?_
            rintro e v5 ⟨rfl, rfl⟩
            go_wp2_with fail
            refine (within_any _ _ _ _).mono ?_
            rintro e v6 ⟨rfl, rfl⟩
            go_wp2
            go_ret
            exact ⟨ret_int HR.out.symm, HB4.out⟩
          · obtain ⟨b0, b1⟩ := inR_true.1 rb
            have hi3 : (quoteTx (imN l a b) = l → imQ l = imN l a b) ∧ (¬ quoteTx (imN l a b) = l → imQ l = -1) :=
              ⟨fun h => by rw [HI2.out, if_pos ⟨ra, rb, h⟩], fun h => by rw [HI2.out, if_neg (fun k => h k.2.2)]⟩
            have HI3 := Lib.hid hi3
            clear hi3
            have w1 : IntKind.i64.wrap (64 * a) = 64 * a := IntWalk.i64_in _ (by omega)
            have w2 : IntKind.i64.wrap (2 * b) = 2 * b := IntWalk.i64_in _ (by omega)
            have w3 : IntKind.i64.wrap (64 * a + 2 * b) = 64 * a + 2 * b := IntWalk.i64_in _ (by omega)
            have w4 : IntKind.i64.wrap (64 * a + 2 * b + 1) = 64 * a + 2 * b + 1 := IntWalk.i64_in _ (by omega)
            have HT4 := Lib.hid (HT.out.below HB4.out)
            cases hh : Lib.hasSuffix l [43]
            · have en : imN l a b = 64 * a + 2 * b := by rw [HN.out, hh]; simp
              rw [en] at HI3
              have HF := Lib.hid (fmtQuoteI_any (64 * a + 2 * b) v4 HT4.out)
              generalize quoteTx (64 * a + 2 * b) = S at *
              clear en a0 a1 b0 b1
              go_wp2_with fail
              refine (within_any _ _ _ _).mono ?_
              rintro e v5 ⟨rfl, rfl⟩
              go_wp2_with fail
              refine (within_any _ _ _ _).mono ?_
              rintro e v6 ⟨rfl, rfl⟩
              go_wp2_with fail
              refine HF.out.mono ?_
              rintro e v7 ⟨rfl, hb⟩
              have HB7 : Hid (Below w.heap.size w v7) := Lib.hid (HB4.out.trans (hb.mono HB4.out.size))
              clear hb
              by_cases hs : S = l
              · have HR := Lib.hid (HI3.out.1 hs)
                subst hs
                go_wp2
                go_ret
                exact ⟨ret_int HR.out.symm, HB7.out⟩
              · have HR := Lib.hid (HI3.out.2 hs)
                have hb1 : (S == l) = false := by simpa using hs
                have hs' : ¬ l = S := fun e => hs e.symm
                go_wp2
                all_goals first
                  | (go_ret; exact ⟨ret_int HR.out.symm, HB7.out⟩)
                  | contradiction
                  | (exfalso; simp_all; done)
            · have en : imN l a b = 64 * a + 2 * b + 1 := by rw [HN.out, hh]; simp
              rw [en] at HI3
              have HF := Lib.hid (fmtQuoteI_any (64 * a + 2 * b + 1) v4 HT4.out)
              generalize quoteTx (64 * a + 2 * b + 1) = S at *
              clear en a0 a1 b0 b1
              go_wp2_with fail
              refine (within_any _ _ _ _).mono ?_
              rintro e v5 ⟨rfl, rfl⟩
              go_wp2_with fail
              refine (within_any _ _ _ _).mono ?_
              rintro e v6 ⟨rfl, rfl⟩
              go_wp2_with fail
              refine HF.out.mono ?_
              rintro e v7 ⟨rfl, hb⟩
              have HB7 : Hid (Below w.heap.size w v7) := Lib.hid (HB4.out.trans (hb.mono HB4.out.size))
              clear hb
              by_cases hs : S = l
              · have HR := Lib.hid (HI3.out.1 hs)
                subst hs
                go_wp2
                go_ret
                exact ⟨ret_int HR.out.symm, HB7.out⟩
              · have HR := Lib.hid (HI3.out.2 hs)
                have hb1 : (S == l) = false := by simpa using hs
                have hs' : ¬ l = S := fun e => hs e.symm
                go_wp2
                all_goals first
                  | (go_ret; exact ⟨ret_int HR.out.symm, HB7.out⟩)
                  | contradiction
                  | (exfalso; simp_all; done)
      · have hr : imQ l = -1 := by rw [HI.out, if_pos trivial, ea, eb]
        have HR := Lib.hid hr
        clear hr ea eb
        go_wp2
        go_ret
        exact ⟨ret_int HR.out.symm, HB4.out⟩
    · have hr : imQ l = -1 := by rw [HI.out, if_pos trivial, ea]
      have HR := Lib.hid hr
      clear hr ea
      go_wp2_with fail
      refine (HB2.out _ HQ3.out).mono ?_
      rintro e v4 ⟨hb', hb⟩
      have HB4 : Hid (Below w.heap.size w v4) := Lib.hid (HB3.out.trans (hb.mono HB3.out.size))
      clear hb
      rcases hb' with ⟨b, eb, rfl⟩ | ⟨eb, x, T, p, rfl⟩
      all_goals
        clear eb
        go_wp2
        go_ret
        exact ⟨ret_int HR.out.symm, HB4.out⟩
end Go.Proofs.YtoecdlemoimacaaDoor
