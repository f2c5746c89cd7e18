/- Notes: FnMatchNotes. -/
import Derived.Test.YtdifhjjkgcipaaaNote7
import Derived.Test.YtdifhjjkgcipaaaNote8
import Derived.Test.YtdifhjjkgcipaaaNotePlain2
import Derived.IntWalk
namespace Go.Proofs.Ytdifhjjkgcipaaa
open Go.RowKit
set_option linter.unusedVariables false
theorem iv_take {w : World} {b g cap c : Nat} {l : List Int} (h : IB w g cap l.length (rowI l)) (hb : b ≤ g) (q : Nat) (hq : q ≤ l.length) (hc : l.length ≤ c) (hc' : c ≤ 9223372036854775807) :
    IV w b (.slice (some ⟨g, 0, none⟩) q c) (l.take q).length (rowI (l.take q)) := by
  have hl : (l.take q).length = q := by rw [List.length_take]; omega
  by_cases h0 : q = 0
  · subst h0
    exact .inl ⟨by rw [hl], _, _, rfl, hc'⟩
  · refine .inr ⟨by omega, g, c, cap, by rw [hl], hb, by omega, hc', ?_⟩
    obtain ⟨cur, e1, e2, e3⟩ := h
    refine ⟨cur, e1, e2, fun j hj => ?_⟩
    rw [e3 j (by omega)]
    unfold rowI
    rw [List.getD, List.getD, List.getElem?_take_of_lt (by omega)]
set_option maxRecDepth 4000 in
set_option maxHeartbeats 4000000 in
theorem fnMatchNotes_walk (a : Option Addr) (len cap : Nat) (w : World) (hlc : len ≤ cap) (hc : cap ≤ maxLen) (h : IsBytes w a len) :
    Calls Try.prog 3 #[.slice a len cap] w fun ed w' => ed = .returned (.bool true) ∧ Below w.heap.size w w' := by
  by_cases hbig : 1048576 < len
  · unfold maxLen at hc
    go_enter Try.func3, Try.ntmps3
    go_wp2
    go_ret
    exact ⟨rfl, Below.refl _ _⟩
  have H := Lib.hid h
  clear h
  go_enter Try.func3, Try.ntmps3
  have HB := Lib.hid (Below.refl w.heap.size w)
  go_wp2_with fail
  refine (drawMN_any _ _ _ _ hlc hc H.out).mono ?_
  rintro e w1 ⟨va, vb, LA, LB, A, B, t, rfl, hLA, hLB, hna, hnb, hb⟩
  have hszw1 := below_size hb
  try simp at hszw1
  have HBq : Below w.heap.size w w1 := Below.trans (by repeat (first | exact Below.refl _ _ | exact HB.out | refine Below.drew ?_ | refine bel_drewN _ ?_ | refine Below.alloc ?_ (by first | omega | (simp; done) | (simp; omega)) _ | refine Below.setCell ?_ (by first | (show _ ≤ _; omega) | (simp; done) | (simp; omega)) _)) (hb.mono (by first | omega | (simp; done) | (simp; omega)))
  have HB := Lib.hid HBq
  clear HBq hb
  have HNA := Lib.hid hna
  have HNB := Lib.hid hnb
  clear hna hnb
  have hM := mtL_len (A := A) (LA := LA) (B := B) (LB := LB) (t := t)
  go_wp2_with fail
  refine (matchI_any va vb _ _ LA LB A B t _ (by omega) (by omega) HNA.out HNB.out).mono ?_
  rintro e w2 ⟨v1, rfl, ho1, hb⟩
  have hszw2 := below_size hb
  try simp at hszw2
  have HNA := Lib.hid (HNA.out.below hb); have HNB := Lib.hid (HNB.out.below hb)
  have HBq : Below w.heap.size w w2 := Below.trans (by repeat (first | exact Below.refl _ _ | exact HB.out | refine Below.drew ?_ | refine bel_drewN _ ?_ | refine Below.alloc ?_ (by first | omega | (simp; done) | (simp; omega)) _ | refine Below.setCell ?_ (by first | (show _ ≤ _; omega) | (simp; done) | (simp; omega)) _)) (hb.mono (by first | omega | (simp; done) | (simp; omega)))
  have HB := Lib.hid HBq
  clear HBq hb
  have HV1 := Lib.hid (iv_of_own ho1)
  clear ho1
  go_wp2_with fail
  refine (matchS_any va vb _ _ LA LB A B t _ (by omega) (by omega) HNA.out HNB.out).mono ?_
  rintro e w3 ⟨v2, rfl, ho2, hb⟩
  have hszw3 := below_size hb
  try simp at hszw3
  have HNA := Lib.hid (HNA.out.below hb); have HNB := Lib.hid (HNB.out.below hb); have HV1 := Lib.hid (HV1.out.below hb)
  have HBq : Below w.heap.size w w3 := Below.trans (by repeat (first | exact Below.refl _ _ | exact HB.out | refine Below.drew ?_ | refine bel_drewN _ ?_ | refine Below.alloc ?_ (by first | omega | (simp; done) | (simp; omega)) _ | refine Below.setCell ?_ (by first | (show _ ≤ _; omega) | (simp; done) | (simp; omega)) _)) (hb.mono (by first | omega | (simp; done) | (simp; omega)))
  have HB := Lib.hid HBq
  clear HBq hb
  have HV2 := Lib.hid (iv_of_own ho2)
  clear ho2
  go_wp2_with fail
  refine (equalInts_any v1 v2 _ _ _ _ _ (by omega) HV1.out HV2.out).mono ?_
  rintro e w4 ⟨rfl, hb⟩
  have hszw4 := below_size hb
  try simp at hszw4
  have HNA := Lib.hid (HNA.out.below hb); have HNB := Lib.hid (HNB.out.below hb); have HV1 := Lib.hid (HV1.out.below hb)
  have HBq : Below w.heap.size w w4 := Below.trans (by repeat (first | exact Below.refl _ _ | exact HB.out | refine Below.drew ?_ | refine bel_drewN _ ?_ | refine Below.alloc ?_ (by first | omega | (simp; done) | (simp; omega)) _ | refine Below.setCell ?_ (by first | (show _ ≤ _; omega) | (simp; done) | (simp; omega)) _)) (hb.mono (by first | omega | (simp; done) | (simp; omega)))
  have HB := Lib.hid HBq
  clear HBq hb
  clear HV2
  obtain ⟨l, hl⟩ : ∃ l, mtL A LA B LB t = l := ⟨_, rfl⟩
  have HL := Lib.hid hl
  rw [hl] at HV1 hM
  clear hl
  obtain ⟨M, hMe⟩ : ∃ M, l.length = M := ⟨_, rfl⟩
  have HME := Lib.hid hMe
  rw [hMe] at HV1 hM
  clear hMe
  obtain ⟨b1, c1, rfl, l1, m1, F1⟩ := HV1.out.form
  have FV := Lib.hid F1
  clear F1
  by_cases h0 : M = 0
  · have e0 : ((M : Int) == 0) = true := by simp; omega
    clear h0
    go_wp2_with fail
    refine (matchS_any va vb _ _ LA LB A B t _ (by omega) (by omega) HNA.out HNB.out).mono ?_
    rintro e w5 ⟨v2, rfl, ho2, hb⟩
    have hszw5 := below_size hb
    try simp at hszw5
    have HNA := Lib.hid (HNA.out.below hb); have HNB := Lib.hid (HNB.out.below hb); have HV1 := Lib.hid (HV1.out.below hb)
    have HBq : Below w.heap.size w w5 := Below.trans (by repeat (first | exact Below.refl _ _ | exact HB.out | refine Below.drew ?_ | refine bel_drewN _ ?_ | refine Below.alloc ?_ (by first | omega | (simp; done) | (simp; omega)) _ | refine Below.setCell ?_ (by first | (show _ ≤ _; omega) | (simp; done) | (simp; omega)) _)) (hb.mono (by first | omega | (simp; done) | (simp; omega)))
    have HB := Lib.hid HBq
    clear HBq hb
    rw [HL.out, HME.out] at ho2
    have HV2 := Lib.hid (iv_of_own ho2)
    clear ho2
    go_wp2_with fail
    refine (equalInts_any (.slice b1 M c1) v2 _ _ _ _ _ (by omega) HV1.out HV2.out).mono ?_
    rintro e w6 ⟨rfl, hb⟩
    have hszw6 := below_size hb
    try simp at hszw6
    have HNA := Lib.hid (HNA.out.below hb); have HNB := Lib.hid (HNB.out.below hb); have HV1 := Lib.hid (HV1.out.below hb)
    have HBq : Below w.heap.size w w6 := Below.trans (by repeat (first | exact Below.refl _ _ | exact HB.out | refine Below.drew ?_ | refine bel_drewN _ ?_ | refine Below.alloc ?_ (by first | omega | (simp; done) | (simp; omega)) _ | refine Below.setCell ?_ (by first | (show _ ≤ _; omega) | (simp; done) | (simp; omega)) _)) (hb.mono (by first | omega | (simp; done) | (simp; omega)))
    have HB := Lib.hid HBq
    clear HBq hb
    go_wp2
    go_ret
    exact ⟨rfl, HB.out⟩
  · have e0 : ((M : Int) == 0) = false := by simp; omega
    have HT : Hid (mtB A LA B LB t = true) := Lib.hid (mt_len (fun e => h0 (by rw [← HME.out, ← HL.out, e]; rfl)))
    have HL2 : Hid (prL A B LB t LA = l) := Lib.hid (by rw [← HL.out, mtL_yes HT.out])
    obtain rfl : M = LA := by rw [← HME.out, ← HL2.out, prL_len]
    have OA := Lib.hid (ntB_iff.1 (mtB_iff.1 HT.out).1).1
    have OB := Lib.hid (ntB_iff.1 (mtB_iff.1 HT.out).2.1).1
    have t0 := (mtB_iff.1 HT.out).2.2
    obtain ⟨t0, t1⟩ := t0
    obtain ⟨aa, ca', rfl, la, ma, Fa⟩ := HNA.out.form
    obtain ⟨bb, cb, rfl, lb, mb, Fb⟩ := HNB.out.form
    have FA := Lib.hid Fa
    have FB := Lib.hid Fb
    clear h0 Fa Fb
    go_wp2_with fail
    go_loopw [7] (fun i wr => ∃ (ww : World) (q : Nat), ww = wr ∧ q ≤ M ∧ i = .int .i64 q ∧ Below w4.heap.size w4 ww) (fun i _ => M - (intOf i).toNat)
    case atStart => exact ⟨_, 0, rfl, Nat.zero_le _, rfl, Below.refl _ _⟩
    case round =>
      obtain ⟨ww, q, rfl, hq, rfl, hbw⟩ := hrel
      have HBW := Lib.hid hbw
      have hsw := hbw.size
      by_cases hlt : q < M
      · obtain ⟨g1, cap1, rfl, _, gl1, ib⟩ := FV.out (by omega)
        have e1 := (ib.fwd hbw gl1).cell hlt
        obtain ⟨z, hz⟩ : ∃ z, rowI l q = z := ⟨_, rfl⟩
        have HZ := Lib.hid hz
        rw [hz] at e1
        have i0 : (0 : Int) ≤ (q : Int) := by omega
        have i1 : (q : Int) < (M : Int) := by omega
        by_cases hz0 : z < 0
        · clear ib hz hbw
          go_wp2
          go_roundw
          case rel => exact ⟨_, q + 1, rfl, by omega, by go_num, HBW.out⟩
          case measure => simp [intOf]; omega
        · have hk : (prL A B LB t M)[q]? = some z := by
            rw [HL2.out, List.getElem?_eq_getElem (by rw [HME.out]; exact hlt), ← hz]
            unfold rowI; rw [List.getD, List.getElem?_eq_getElem (by rw [HME.out]; exact hlt)]; rfl
          obtain ⟨k1, k2, k3⟩ := mt_agree hlt hk (by omega)
          rw [HL2.out] at k3
          obtain ⟨kn, rfl⟩ : ∃ kn : Nat, z = (kn : Int) := ⟨z.toNat, by omega⟩
          rw [Int.toNat_natCast] at k2
          obtain ⟨⟨kx, ky⟩, kd⟩ := smB_iff.1 k2
          have hkn : kn < LB := by omega
          obtain ⟨ga, capa, rfl, _, gla, nba⟩ := FA.out (by omega)
          obtain ⟨gb, capb, rfl, _, glb, nbb⟩ := FB.out (by omega)
          obtain ⟨⟨x0', x1', x2'⟩, _⟩ := (nba.fwd hbw gla).cells hlt
          obtain ⟨⟨y0', y1', y2'⟩, _⟩ := (nbb.fwd hbw glb).cells hkn
          have okx := OA.out q hlt
          have oky := OB.out kn hkn
          obtain ⟨⟨x1, x2, x3⟩, hx⟩ : ∃ x, A q = x := ⟨_, rfl⟩
          obtain ⟨⟨y1, y2, y3⟩, hy⟩ : ∃ x, B kn = x := ⟨_, rfl⟩
          rw [hx] at x0' x1' x2' okx kx ky kd
          rw [hy] at y0' y1' y2' oky kx ky kd
          obtain ⟨_, _, okx1, okx2⟩ := okN_iff.1 okx
          obtain ⟨_, _, oky1, oky2⟩ := okN_iff.1 oky
          simp only at x0' x1' x2' y0' y1' y2' kx ky okx1 okx2 oky1 oky2
          subst kx ky
          obtain ⟨d, hd⟩ : ∃ d, absI (x3 - y3) = d := ⟨_, rfl⟩
          have hdt : d ≤ t := by rw [← hd]; exact kd
          have HD : Hid (∀ W : World, Calls Try.prog 13 #[.int .i64 (x3 - y3)] W fun e w' => e = .returned (.int .i64 d) ∧ W = w') := Lib.hid fun W => by rw [← hd]; exact absolute_any _ _ (by omega) (by omega)
          have HW : Hid (∀ W : World, Calls Try.prog 13 #[.int .i64 (IntKind.i64.wrap (x3 - y3))] W fun e w' => e = .returned (.int .i64 d) ∧ W = w') := Lib.hid fun W => by rw [show IntKind.i64.wrap (x3 - y3) = x3 - y3 from IntWalk.i64_in _ (by omega)]; exact HD.out W
          have HV := Lib.hid (iv_take (b := 0) (c := c1) (by rw [HME.out]; exact ib.fwd hbw gl1) (Nat.zero_le _) q (by rw [HME.out]; omega) (by rw [HME.out]; exact l1) m1)
          have hlen : (l.take q).length ≤ 1048576 := by rw [List.length_take]; omega
          have HI : Hid (∀ n : Nat, Calls Try.prog 14 #[.slice (some ⟨g1, 0, none⟩) q c1, .int .i64 (kn : Int)] (ww.drewN n) fun e w' => e = .returned (.bool false) ∧ ww.drewN n = w') := Lib.hid fun n => by
            have := isInL_any (.slice (some ⟨g1, 0, none⟩) q c1) 0 (l.take q) (kn : Int) (ww.drewN n) hlen (HV.out.below (bel_drewN n (Below.refl _ _)))
            rw [decide_eq_false k3] at this
            exact this
          have j0 : (0 : Int) ≤ (kn : Int) := by omega
          have j1 : (kn : Int) < (LB : Int) := by omega
          have q1 : (q : Int) ≤ (c1 : Int) := by omega
          have q2 : ¬ c1 = 0 := by omega
          clear hz0 hk k1 k2 k3 kd hx hy hd okx oky nba nbb ib hbw hz hlen
          go_wp2_with fail
          go_quiet (first | (go_at_call 13; first | exact quiet_left (HW.out _) | exact quiet_left (HD.out _)) | (go_at_call 14; exact quiet_left (HI.out _)))
          go_wp2
          go_roundw
          case rel => exact ⟨_, q + 1, rfl, by omega, by go_num, bel_drewN _ HBW.out⟩
          case measure => simp [intOf]; omega
      · obtain rfl : M = q := by omega
        go_wp2
        go_ret
        exact ⟨rfl, HB.out.trans (HBW.out.mono (by have := HB.out.size; omega))⟩
end Go.Proofs.Ytdifhjjkgcipaaa
