/- Notes: FnMatchNotesOpen. -/
import Derived.Test.YtdifhjjkgcipaaaNote7
import Derived.Test.YtdifhjjkgcipaaaNote8
import Derived.Test.YtdifhjjkgcipaaaNotePlain2
import Derived.IntWalk
namespace Go.Proofs.Ytdifhjjkgcipaaa
open Go.RowKit
set_option linter.unusedVariables false
theorem rowN_mem {l : List Nt} {j : Nat} (h : j < l.length) : rowN l j ∈ l := by
  unfold rowN; rw [List.getD, List.getElem?_eq_getElem h]; exact List.getElem_mem h
set_option maxRecDepth 4000 in
set_option maxHeartbeats 8000000 in
theorem fnMatchNotesOpen_walk (a : Option Addr) (len cap : Nat) (w : World) (hlc : len ≤ cap) (hc : cap ≤ maxLen) (h : IsBytes w a len) :
    Calls Try.prog 4 #[.slice a len cap] w fun ed w' => ed = .returned (.bool true) ∧ Below w.heap.size w w' := by
  by_cases hbig : 1048576 < len
  · unfold maxLen at hc
    go_enter Try.func4, Try.ntmps4
    go_wp2
    go_ret
    exact ⟨rfl, Below.refl _ _⟩
  have H := Lib.hid h
  clear h
  go_enter Try.func4, Try.ntmps4
  have HB := Lib.hid (Below.refl w.heap.size w)
  go_wp2_with fail
  refine (drawMN_any _ _ _ _ hlc hc H.out).mono ?_
  rintro e w1 ⟨va, vb, LA, LB, A, B, t, rfl, hLA, hLB, hna, hnb, hb⟩
  have hszw1 := below_size hb
  try simp at hszw1
  have HBq : Below w.heap.size w w1 := Below.trans (by repeat (first | exact Below.refl _ _ | exact HB.out | refine Below.drew ?_ | refine bel_drewN _ ?_ | refine Below.alloc ?_ (by first | omega | (simp; done) | (simp; omega)) _ | refine Below.setCell ?_ (by first | (show _ ≤ _; omega) | (simp; done) | (simp; omega)) _)) (hb.mono (by first | omega | (simp; done) | (simp; omega)))
  have HB := Lib.hid HBq
  clear HBq hb
  have HNA := Lib.hid hna
  have HNB := Lib.hid hnb
  clear hna hnb
  have hM := mtL_len (A := A) (LA := LA) (B := B) (LB := LB) (t := t)
  have hN := onL_len (A := A) (LA := LA) (B := B) (LB := LB) (t := t)
  go_wp2_with fail
  refine (matchI_any va vb _ _ LA LB A B t _ (by omega) (by omega) HNA.out HNB.out).mono ?_
  rintro e w2 ⟨v1, rfl, ho1, hb⟩
  have hszw2 := below_size hb
  try simp at hszw2
  have HNA := Lib.hid (HNA.out.below hb); have HNB := Lib.hid (HNB.out.below hb)
  have HBq : Below w.heap.size w w2 := Below.trans (by repeat (first | exact Below.refl _ _ | exact HB.out | refine Below.drew ?_ | refine bel_drewN _ ?_ | refine Below.alloc ?_ (by first | omega | (simp; done) | (simp; omega)) _ | refine Below.setCell ?_ (by first | (show _ ≤ _; omega) | (simp; done) | (simp; omega)) _)) (hb.mono (by first | omega | (simp; done) | (simp; omega)))
  have HB := Lib.hid HBq
  clear HBq hb
  have HV1 := Lib.hid (iv_of_own ho1)
  clear ho1
  go_wp2_with fail
  refine (openI_any va vb _ _ LA LB A B t _ (by omega) (by omega) HNA.out HNB.out).mono ?_
  rintro e w3 ⟨v3, rfl, ho3, hb⟩
  have hszw3 := below_size hb
  try simp at hszw3
  have HNA := Lib.hid (HNA.out.below hb); have HNB := Lib.hid (HNB.out.below hb); have HV1 := Lib.hid (HV1.out.below hb)
  have HBq : Below w.heap.size w w3 := Below.trans (by repeat (first | exact Below.refl _ _ | exact HB.out | refine Below.drew ?_ | refine bel_drewN _ ?_ | refine Below.alloc ?_ (by first | omega | (simp; done) | (simp; omega)) _ | refine Below.setCell ?_ (by first | (show _ ≤ _; omega) | (simp; done) | (simp; omega)) _)) (hb.mono (by first | omega | (simp; done) | (simp; omega)))
  have HB := Lib.hid HBq
  clear HBq hb
  have HV3 := Lib.hid (nv_of_list ho3 rfl)
  clear ho3
  go_wp2_with fail
  refine (matchS_any va vb _ _ LA LB A B t _ (by omega) (by omega) HNA.out HNB.out).mono ?_
  rintro e w4 ⟨v2, rfl, ho2, hb⟩
  have hszw4 := below_size hb
  try simp at hszw4
  have HNA := Lib.hid (HNA.out.below hb); have HNB := Lib.hid (HNB.out.below hb); have HV1 := Lib.hid (HV1.out.below hb); have HV3 := Lib.hid (HV3.out.below hb)
  have HBq : Below w.heap.size w w4 := Below.trans (by repeat (first | exact Below.refl _ _ | exact HB.out | refine Below.drew ?_ | refine bel_drewN _ ?_ | refine Below.alloc ?_ (by first | omega | (simp; done) | (simp; omega)) _ | refine Below.setCell ?_ (by first | (show _ ≤ _; omega) | (simp; done) | (simp; omega)) _)) (hb.mono (by first | omega | (simp; done) | (simp; omega)))
  have HB := Lib.hid HBq
  clear HBq hb
  have HV2 := Lib.hid (iv_of_own ho2)
  clear ho2
  go_wp2_with fail
  refine (equalInts_any v1 v2 _ _ _ _ _ (by omega) HV1.out HV2.out).mono ?_
  rintro e w5 ⟨rfl, hb⟩
  have hszw5 := below_size hb
  try simp at hszw5
  have HNA := Lib.hid (HNA.out.below hb); have HNB := Lib.hid (HNB.out.below hb); have HV1 := Lib.hid (HV1.out.below hb); have HV3 := Lib.hid (HV3.out.below hb)
  have HBq : Below w.heap.size w w5 := Below.trans (by repeat (first | exact Below.refl _ _ | exact HB.out | refine Below.drew ?_ | refine bel_drewN _ ?_ | refine Below.alloc ?_ (by first | omega | (simp; done) | (simp; omega)) _ | refine Below.setCell ?_ (by first | (show _ ≤ _; omega) | (simp; done) | (simp; omega)) _)) (hb.mono (by first | omega | (simp; done) | (simp; omega)))
  have HB := Lib.hid HBq
  clear HBq hb
  clear HV2
  obtain ⟨l, hl⟩ : ∃ l, mtL A LA B LB t = l := ⟨_, rfl⟩
  have HL := Lib.hid hl
  rw [hl] at HV1 hM
  clear hl
  obtain ⟨M, hMe⟩ : ∃ M, l.length = M := ⟨_, rfl⟩
  have HME := Lib.hid hMe
  rw [hMe] at HV1 hM
  clear hMe
  obtain ⟨O, hO⟩ : ∃ O, onL A LA B LB t = O := ⟨_, rfl⟩
  have HO := Lib.hid hO
  rw [hO] at HV3 hN
  clear hO
  obtain ⟨N, hNe⟩ : ∃ N, O.length = N := ⟨_, rfl⟩
  have HNE := Lib.hid hNe
  rw [hNe] at HV3 hN
  clear hNe
  obtain ⟨b1, c1, rfl, l1, m1, F1⟩ := HV1.out.form
  obtain ⟨b3, c3, rfl, l3, m3, F3⟩ := HV3.out.form
  obtain ⟨aa, ca', rfl, la, ma, Fa⟩ := HNA.out.form
  have FV := Lib.hid F1
  have FO := Lib.hid F3
  have FA := Lib.hid Fa
  clear F1 F3 Fa
  have HT : Hid (M = 0 ∨ (M = LA ∧ mtB A LA B LB t = true ∧ prL A B LB t LA = l ∧ opL B l LB = O)) := Lib.hid (by
    cases hm : mtB A LA B LB t
    · left; rw [← HME.out, ← HL.out, mtL_no hm]; rfl
    · right
      have e : prL A B LB t LA = l := by rw [← HL.out, mtL_yes hm]
      exact ⟨by rw [← HME.out, ← e, prL_len], rfl, e, by rw [← HO.out, onL_yes hm, e]⟩)
  have hsz5 := HB.out.size
  go_wp2_with fail
  go_loopw [8] (fun i wr => ∃ (ww : World) (q : Nat), ww = wr ∧ q ≤ M ∧ i = .int .i64 q ∧ Below w5.heap.size w5 ww) (fun i _ => M - (intOf i).toNat)
  case atStart => exact ⟨_, 0, rfl, Nat.zero_le _, rfl, Below.refl _ _⟩
  case round =>
    obtain ⟨ww, q, rfl, hq, rfl, hbw⟩ := hrel
    have HBW := Lib.hid hbw
    clear hbw
    by_cases hlt : q < M
    · obtain ⟨hMA, hmt, hpr, hop⟩ := HT.out.resolve_left (by omega)
      have HMT := Lib.hid hmt
      have HPR := Lib.hid hpr
      have HOP := Lib.hid hop
      have hMA1 : M ≤ LA := by omega
      have hMA2 : LA ≤ M := by omega
      clear hmt hpr hop hMA
      have i0 : (0 : Int) ≤ (q : Int) := by omega
      have i1 : (q : Int) < (M : Int) := by omega
      have i2 : (q : Int) < (LA : Int) := by omega
      obtain ⟨g1, cap1, rfl, _, gl1, ib⟩ := FV.out (by omega)
      have HIB := Lib.hid ib
      obtain ⟨z, hz⟩ : ∃ z, rowI l q = z := ⟨_, rfl⟩
      have HZ := Lib.hid hz
      obtain ⟨ga, capa, rfl, _, gla, nba⟩ := FA.out (by omega)
      have HNBA := Lib.hid nba
      have okx := (ntB_iff.1 (mtB_iff.1 HMT.out).1).1 q (by omega)
      obtain ⟨⟨x1, x2, x3⟩, hx⟩ : ∃ x, A q = x := ⟨_, rfl⟩
      have HX := Lib.hid hx
      rw [hx] at okx
      obtain ⟨_, _, okx1, okx2⟩ := okN_iff.1 okx
      simp only at okx1 okx2
      clear hz hx okx ib nba
      go_wp2_with fail
      go_loopw [9] (fun k wr => ∃ (wi : World) (j : Nat), wi = wr ∧ j ≤ N ∧ k = .int .i64 j ∧ Below w5.heap.size w5 wi) (fun k _ => N - (intOf k).toNat)
      case atStart => exact ⟨_, 0, rfl, Nat.zero_le _, rfl, HBW.out⟩
      case round =>
        obtain ⟨wi, j, rfl, hj, rfl, hbi⟩ := hrel
        have HBI := Lib.hid hbi
        have e1 : wi.cell? ⟨g1, q, none⟩ = some (.int .i64 z) := by rw [← HZ.out]; exact (HIB.out.fwd hbi gl1).cell hlt
        by_cases hlj : j < N
        · have j0 : (0 : Int) ≤ (j : Int) := by omega
          have j1 : (j : Int) < (N : Int) := by omega
          by_cases hz0 : z < 0
          · obtain ⟨⟨x0', x1', x2'⟩, _⟩ := (HNBA.out.fwd hbi gla).cells (show q < LA by omega)
            obtain ⟨g3, cap3, rfl, _, gl3, nb3⟩ := FO.out (by omega)
            obtain ⟨⟨y0', y1', y2'⟩, _⟩ := (nb3.fwd hbi gl3).cells hlj
            have hmem : rowN O j ∈ opL B (prL A B LB t LA) LB := by rw [HPR.out, HOP.out]; exact rowN_mem (by rw [HNE.out]; exact hlj)
            have hsm := mt_open (i := q) (k := z) (by omega) (by
              rw [HPR.out, List.getElem?_eq_getElem (by rw [HME.out]; exact hlt), ← HZ.out]
              unfold rowI; rw [List.getD, List.getElem?_eq_getElem (by rw [HME.out]; exact hlt)]; rfl) hz0 hmem
            have oky : okN (rowN O j) = true := by
              obtain ⟨k, hk, _, e⟩ := opL_mem _ hmem
              rw [e]; exact (ntB_iff.1 (mtB_iff.1 HMT.out).2.1).1 k hk
            rw [HX.out] at x0' x1' x2' hsm
            obtain ⟨⟨y1, y2, y3⟩, hy⟩ : ∃ x, rowN O j = x := ⟨_, rfl⟩
            rw [hy] at y0' y1' y2' oky hsm
            obtain ⟨_, _, oky1, oky2⟩ := okN_iff.1 oky
            simp only at x0' x1' x2' y0' y1' y2' oky1 oky2
            obtain ⟨d, hd⟩ : ∃ d, absI (x3 - y3) = d := ⟨_, rfl⟩
            have HD : Hid (∀ W : World, Calls Try.prog 13 #[.int .i64 (x3 - y3)] W fun e w' => e = .returned (.int .i64 d) ∧ W = w') := Lib.hid fun W => by rw [← hd]; exact absolute_any _ _ (by omega) (by omega)
            have HW : Hid (∀ W : World, Calls Try.prog 13 #[.int .i64 (IntKind.i64.wrap (x3 - y3))] W fun e w' => e = .returned (.int .i64 d) ∧ W = w') := Lib.hid fun W => by rw [show IntKind.i64.wrap (x3 - y3) = x3 - y3 from IntWalk.i64_in _ (by omega)]; exact HD.out W
            have HS : Hid ((x1 == y1) = true → (x2 == y2) = true → ¬ d ≤ t) := Lib.hid fun p1 p2 p3 => by
              rw [smB_iff.2 ⟨⟨by simpa using p1, by simpa using p2⟩, by rw [← hd] at p3; exact p3⟩] at hsm; cases hsm
            clear hmem hsm oky hy hd hbi nb3
            cases k1 : x1 == y1
            · go_wp2_with fail
              go_quiet (first | (go_at_call 13; first | exact quiet_left (HW.out _) | exact quiet_left (HD.out _)))
              go_wp2
              go_roundw
              case rel => exact ⟨_, j + 1, rfl, by omega, by go_num, bel_drewN _ HBI.out⟩
              case measure => simp [intOf]; omega
            cases k2 : x2 == y2
            · go_wp2_with fail
              go_quiet (first | (go_at_call 13; first | exact quiet_left (HW.out _) | exact quiet_left (HD.out _)))
              go_wp2
              go_roundw
              case rel => exact ⟨_, j + 1, rfl, by omega, by go_num, bel_drewN _ HBI.out⟩
              case measure => simp [intOf]; omega
            · have k3 : decide (d ≤ t) = false := decide_eq_false (HS.out k1 k2)
              go_wp2_with fail
              go_quiet (first | (go_at_call 13; first | exact quiet_left (HW.out _) | exact quiet_left (HD.out _)))
              go_wp2
              go_roundw
              case rel => exact ⟨_, j + 1, rfl, by omega, by go_num, bel_drewN _ HBI.out⟩
              case measure => simp [intOf]; omega
          · clear hbi
            go_wp2
            go_roundw
            case rel => exact ⟨_, q + 1, rfl, by omega, by go_num, HBI.out⟩
            case measure => simp [intOf]; omega
        · obtain rfl : N = j := by omega
          clear hbi
          go_wp2
          go_roundw
          case rel => exact ⟨_, q + 1, rfl, by omega, by go_num, HBI.out⟩
          case measure => simp [intOf]; omega
    · obtain rfl : M = q := by omega
      go_wp2
      go_ret
      exact ⟨rfl, HB.out.trans (HBW.out.mono hsz5)⟩
end Go.Proofs.Ytdifhjjkgcipaaa
