/- Notes: the reference's pairs. -/
import Derived.Test.YtdifhjjkgcipaaaNote2
import Derived.OwnWalk
import Derived.BigQuiet
import Derived.Deep.LoopGhost
namespace Go.Proofs.Ytdifhjjkgcipaaa
open Go.RowKit
set_option linter.unusedVariables false
theorem NV.form {w : World} {b : Nat} {v : Value} {L : Nat} {A : Nat → Nt} (h : NV w b v L A) : ∃ a c, v = .slice a L c ∧ L ≤ c ∧ c ≤ 9223372036854775807 ∧ (1 ≤ L → ∃ g cap, a = some ⟨g, 0, none⟩ ∧ b ≤ g ∧ g < w.heap.size ∧ NB w g cap L A) := by
  rcases h with ⟨rfl, a, c, rfl, hc⟩ | ⟨h1, g, c, cap, rfl, h3, h4, h5, h6⟩
  · exact ⟨a, c, rfl, Nat.zero_le _, hc, fun h => by omega⟩
  · exact ⟨_, c, rfl, h4, h5, fun _ => ⟨g, cap, rfl, h3, h6.lt, h6⟩⟩
theorem IV.drewN {w : World} {b n : Nat} {v : Value} {L : Nat} {Z : Nat → Int} (h : IV w b v L Z) : IV (w.drewN n) b v L Z := h.below (bel_drewN n (Below.refl _ _))
theorem IB.drewN {w : World} {g cap n k : Nat} {Z : Nat → Int} (h : IB w g cap n Z) : IB (w.drewN k) g cap n Z := h
def PrPost (A B : Nat → Nt) (LA LB : Nat) (t : Int) (w : World) (ed : Ending) (w' : World) : Prop :=
  ∃ v, ed = .returned v ∧ w'.ownsRow w.heap.size 3 1 v LA (valI (prL A B LB t LA)) ∧ Below w.heap.size w w'
/-- what the inner loop of pairs knows of one note against another -/
theorem pk_step {x : Nt} {B : Nat → Nt} {t : Int} {out : List Int} {j : Nat} {p : Int} (hp : pk x B t out j = p) (s i b : Bool) (hs : smB x (B j) t = s) (hi : decide ((j : Int) ∈ out) = i) (hb : bet x B p j = b) :
    pk x B t out (j + 1) = if (s && (!i && b)) = true then (j : Int) else p := by
  rw [pk, hp, hs, hi, hb]
theorem bet_neg {x : Nt} {B : Nat → Nt} {p : Int} {j : Nat} (h : p < 0) : bet x B p j = true := by unfold bet; simp [h]
theorem bet_pos {x : Nt} {B : Nat → Nt} {q j : Nat} {d d' : Int} (h : dN x (B j) = d) (h' : dN x (B q) = d') : bet x B (q : Int) j = decide (d < d') := by
  unfold bet; rw [h, Int.toNat_natCast, h', decide_eq_false (show ¬ (q : Int) < 0 by omega), Bool.false_or]
theorem sm_eq {x y : Nt} {t d : Int} (k1 k2 k3 : Bool) (h1 : (x.1 == y.1) = k1) (h2 : (x.2.1 == y.2.1) = k2) (hd : dN x y = d) (h3 : decide (d ≤ t) = k3) : smB x y t = (k1 && k2 && k3) := by
  unfold smB kyB; rw [h1, h2, hd, h3]
set_option maxRecDepth 4000 in
set_option maxHeartbeats 8000000 in
theorem pair_any (v1 v2 : Value) (b1 b2 LA LB : Nat) (A B : Nat → Nt) (t : Int) (w : World) (hA : NV w b1 v1 LA A) (hB : NV w b2 v2 LB B) (hm : mtB A LA B LB t = true) :
    Calls Try.prog 33 #[v1, v2, .int .i64 t] w (PrPost A B LA LB t w) := by
  obtain ⟨mA, mB, t0, t1⟩ := mtB_iff.1 hm
  obtain ⟨okA, lA⟩ := ntB_iff.1 mA
  obtain ⟨okB, lB⟩ := ntB_iff.1 mB
  obtain ⟨a1, c1, rfl, l1, m1, F1⟩ := hA.form
  obtain ⟨a2, c2, rfl, l2, m2, F2⟩ := hB.form
  obtain ⟨i0, hi, hz0, hz1, hz2⟩ := info_parts infoInt
  have OA := Lib.hid okA
  have OB := Lib.hid okB
  have FA := Lib.hid F1
  have FB := Lib.hid F2
  clear hm mA mB okA okB hA hB F1 F2
  unfold PrPost
  go_enter Try.func33, Try.ntmps33
  go_wp2_with fail
  go_loopw [7, 8] (fun v i wr => ∃ (v0 : Value) (wo : World) (q : Nat), v0 = v ∧ wo = wr ∧ q ≤ LA ∧ i = .int .i64 q ∧ wr.ownsRow w.heap.size 3 1 v q (valI (prL A B LB t q)) ∧ Below w.heap.size w wr) (fun _ i _ => LA - (intOf i).toNat)
  case atStart =>
    refine ⟨_, _, 0, rfl, rfl, Nat.zero_le _, rfl, ?_, (by repeat (first | exact Below.refl _ _ | refine Below.drew ?_ | refine bel_drewN _ ?_ | refine Below.alloc ?_ (by first | omega | (simp; done) | (simp; omega)) _ | refine Below.setCell ?_ (by first | (show _ ≤ _; omega) | (simp; done) | (simp; omega)) _))⟩
    exact World.ownsRow_made (base := w.heap.size) (e := 3) (size := 1) w #[] 0 (Nat.le_refl _) (by decide) rfl
  case round =>
    obtain ⟨v, wo, q, rfl, rfl, hq, rfl, hown, hbel⟩ := hrel
    have hs := hbel.size
    have HO := Lib.hid hown
    have HB := Lib.hid hbel
    clear hown hbel
    by_cases hlt : q < LA
    · obtain ⟨g1, cap1, rfl, _, gl1, nb1⟩ := FA.out (by omega)
      obtain ⟨⟨x0', x1', x2'⟩, _⟩ := (nb1.fwd HB.out gl1).cells hlt
      obtain ⟨⟨x1, x2, x3⟩, hx⟩ : ∃ x, A q = x := ⟨_, rfl⟩
      have okx := okN_iff.1 (OA.out q hlt)
      rw [hx] at x0' x1' x2' okx
      simp only at x0' x1' x2' okx
      obtain ⟨_, _, okx1, okx2⟩ := okx
      have HX := Lib.hid hx
      clear hx nb1
      have HIN : Hid (∀ (k : Int) (W : World), Below wo.heap.size wo W → Calls Try.prog 34 #[v, .int .i64 k] W fun e w' => e = .returned (.bool (decide (k ∈ prL A B LB t q))) ∧ W = w') := Lib.hid fun k W hW =>
        isInS_any v w.heap.size (prL A B LB t q) k W (by rw [prL_len]; omega) (by rw [prL_len]; exact (iv_of_own (HO.out)).below hW)
      have i0' : (0 : Int) ≤ (q : Int) := by omega
      have i1' : (q : Int) < (LA : Int) := by omega
      go_wp2_with fail
      go_loopw [9, 10] (fun p k ww => ∃ (wi : World) (j : Nat), wi = ww ∧ j ≤ LB ∧ k = .int .i64 j ∧ p = .int .i64 (pk (A q) B t (prL A B LB t q) j) ∧ Below wo.heap.size wo ww) (fun _ k _ => LB - (intOf k).toNat)
      case atStart => exact ⟨_, 0, rfl, Nat.zero_le _, rfl, rfl, (by repeat (first | exact Below.refl _ _ | refine Below.drew ?_ | refine bel_drewN _ ?_ | refine Below.alloc ?_ (by first | omega | (simp; done) | (simp; omega)) _ | refine Below.setCell ?_ (by first | (show _ ≤ _; omega) | (simp; done) | (simp; omega)) _))⟩
      case round =>
        obtain ⟨ww, j, rfl, hj, rfl, rfl, hbw⟩ := hrel
        have HBW := Lib.hid hbw
        have hs2 := hbw.size
        by_cases hlt2 : j < LB
        · obtain ⟨g2, cap2, rfl, _, gl2, nb2⟩ := FB.out (by omega)
          have nb3 := (nb2.fwd HB.out gl2).fwd hbw (by omega)
          obtain ⟨⟨y0', y1', y2'⟩, _⟩ := nb3.cells hlt2
          have a0 := bc hbw x0'
          have a1 := bc hbw x1'
          have a2 := bc hbw x2'
          obtain ⟨⟨y1, y2, y3⟩, hy⟩ : ∃ y, B j = y := ⟨_, rfl⟩
          have oky := okN_iff.1 (OB.out j hlt2)
          rw [hy] at y0' y1' y2' oky
          simp only at y0' y1' y2' oky
          obtain ⟨_, _, oky1, oky2⟩ := oky
          have HY := Lib.hid hy
          have HNB := Lib.hid nb3
          obtain ⟨d, hd⟩ : ∃ d, absI (x3 - y3) = d := ⟨_, rfl⟩
          have HD : Hid (∀ W : World, Calls Try.prog 40 #[.int .i64 (x3 - y3)] W fun e w' => e = .returned (.int .i64 d) ∧ W = w') := Lib.hid fun W => by rw [← hd]; exact distance_any _ _ (by omega) (by omega)
          have HDN : Hid (dN (A q) (B j) = d) := Lib.hid (by rw [HX.out, HY.out]; exact hd)
          obtain ⟨p, hpk⟩ : ∃ p, pk (A q) B t (prL A B LB t q) j = p := ⟨_, rfl⟩
          have hpb := pk_bd (A q) B t (prL A B LB t q) j
          rw [hpk] at hpb ⊢
          obtain ⟨hpb1, hpb2⟩ := hpb
          have HPK := Lib.hid hpk
          have j0 : (0 : Int) ≤ (j : Int) := by omega
          have j1 : (j : Int) < (LB : Int) := by omega
          have HI : Hid (∀ W : World, Below wo.heap.size wo W → Calls Try.prog 34 #[v, .int .i64 j] W fun e w' => e = .returned (.bool (decide ((j : Int) ∈ prL A B LB t q))) ∧ W = w') := Lib.hid fun W hW => HIN.out j W hW
          obtain ⟨im, him⟩ : ∃ im, decide ((j : Int) ∈ prL A B LB t q) = im := ⟨_, rfl⟩
          rw [him] at HI
          have HIM := Lib.hid him
          clear hd hpk hy nb2 nb3 hbw him
          cases k1 : x1 == y1
          · have HN : Hid (pk (A q) B t (prL A B LB t q) (j + 1) = p) := Lib.hid (by
              rw [pk_step HPK.out (false && (x2 == y2) && decide (d ≤ t)) im _ (sm_eq _ _ _ (by rw [HX.out, HY.out]; exact k1) (by rw [HX.out, HY.out]) HDN.out rfl) HIM.out rfl]; simp)
            go_wp2_with fail
            go_quiet (first | (go_at_call 40; exact quiet_left (HD.out _)))
            go_wp2_with fail
            go_quiet (first | (go_at_call 34; exact quiet_left2 (HI.out _ (bel_drewN _ HBW.out))) | (go_at_call 40; first | exact quiet_left2 (HD.out _) | exact quiet_left2 (HE.out _)))
            go_wp2
            go_roundw
            case rel => exact ⟨_, j + 1, rfl, by omega, by go_num, by rw [HN.out], bel_drewN _ HBW.out⟩
            case measure => first | (simp [intOf]; done) | (simp [intOf]; omega)
          cases k2 : x2 == y2
          · have HN : Hid (pk (A q) B t (prL A B LB t q) (j + 1) = p) := Lib.hid (by
              rw [pk_step HPK.out (true && false && decide (d ≤ t)) im _ (sm_eq _ _ _ (by rw [HX.out, HY.out]; exact k1) (by rw [HX.out, HY.out]; exact k2) HDN.out rfl) HIM.out rfl]; simp)
            go_wp2_with fail
            go_quiet (first | (go_at_call 40; exact quiet_left (HD.out _)))
            go_wp2_with fail
            go_quiet (first | (go_at_call 34; exact quiet_left2 (HI.out _ (bel_drewN _ HBW.out))) | (go_at_call 40; first | exact quiet_left2 (HD.out _) | exact quiet_left2 (HE.out _)))
            go_wp2
            go_roundw
            case rel => exact ⟨_, j + 1, rfl, by omega, by go_num, by rw [HN.out], bel_drewN _ HBW.out⟩
            case measure => first | (simp [intOf]; done) | (simp [intOf]; omega)
          by_cases k3 : d ≤ t
          case neg =>
            have k3' : decide (d ≤ t) = false := by simp [k3]
            have HN : Hid (pk (A q) B t (prL A B LB t q) (j + 1) = p) := Lib.hid (by
              rw [pk_step HPK.out (true && true && decide (d ≤ t)) im _ (sm_eq _ _ _ (by rw [HX.out, HY.out]; exact k1) (by rw [HX.out, HY.out]; exact k2) HDN.out rfl) HIM.out rfl]; simp [k3])
            go_wp2_with fail
            go_quiet (first | (go_at_call 40; exact quiet_left (HD.out _)))
            go_wp2_with fail
            go_quiet (first | (go_at_call 34; exact quiet_left2 (HI.out _ (bel_drewN _ HBW.out))) | (go_at_call 40; first | exact quiet_left2 (HD.out _) | exact quiet_left2 (HE.out _)))
            go_wp2
            go_roundw
            case rel => exact ⟨_, j + 1, rfl, by omega, by go_num, by rw [HN.out], bel_drewN _ HBW.out⟩
            case measure => first | (simp [intOf]; done) | (simp [intOf]; omega)
          have HS : Hid (smB (A q) (B j) t = true) := Lib.hid (by rw [sm_eq true true true (by rw [HX.out, HY.out]; exact k1) (by rw [HX.out, HY.out]; exact k2) HDN.out (by simp [k3])]; rfl)
          cases im
          case true =>
            have HN : Hid (pk (A q) B t (prL A B LB t q) (j + 1) = p) := Lib.hid (by rw [pk_step HPK.out true true _ HS.out HIM.out rfl]; simp)
            go_wp2_with fail
            go_quiet (first | (go_at_call 40; exact quiet_left (HD.out _)))
            go_wp2_with fail
            go_quiet (first | (go_at_call 34; exact quiet_left2 (HI.out _ (bel_drewN _ HBW.out))) | (go_at_call 40; first | exact quiet_left2 (HD.out _) | exact quiet_left2 (HE.out _)))
            go_wp2
            go_roundw
            case rel => exact ⟨_, j + 1, rfl, by omega, by go_num, by rw [HN.out], bel_drewN _ HBW.out⟩
            case measure => first | (simp [intOf]; done) | (simp [intOf]; omega)
          by_cases k4 : p < 0
          · have HN : Hid (pk (A q) B t (prL A B LB t q) (j + 1) = (j : Int)) := Lib.hid (by rw [pk_step HPK.out true false true HS.out HIM.out (bet_neg k4)]; simp)
            go_wp2_with fail
            go_quiet (first | (go_at_call 40; exact quiet_left (HD.out _)))
            go_wp2_with fail
            go_quiet (first | (go_at_call 34; exact quiet_left2 (HI.out _ (bel_drewN _ HBW.out))) | (go_at_call 40; first | exact quiet_left2 (HD.out _) | exact quiet_left2 (HE.out _)))
            go_wp2
            go_roundw
            case rel => exact ⟨_, j + 1, rfl, by omega, by go_num, by rw [HN.out], bel_drewN _ HBW.out⟩
            case measure => first | (simp [intOf]; done) | (simp [intOf]; omega)
          obtain ⟨z, rfl⟩ : ∃ z : Nat, p = (z : Int) := ⟨p.toNat, by omega⟩
          have hz : z < LB := by omega
          obtain ⟨⟨_, _, z2'⟩, _⟩ := HNB.out.cells hz
          obtain ⟨⟨z1, z2, z3⟩, hzz⟩ : ∃ y, B z = y := ⟨_, rfl⟩
          have okz := okN_iff.1 (OB.out z hz)
          rw [hzz] at z2' okz
          simp only at z2' okz
          obtain ⟨_, _, okz1, okz2⟩ := okz
          have HZ := Lib.hid hzz
          obtain ⟨d', hd'⟩ : ∃ d, absI (x3 - z3) = d := ⟨_, rfl⟩
          have HE : Hid (∀ W : World, Calls Try.prog 40 #[.int .i64 (x3 - z3)] W fun e w' => e = .returned (.int .i64 d') ∧ W = w') := Lib.hid fun W => by rw [← hd']; exact distance_any _ _ (by omega) (by omega)
          have HDZ : Hid (dN (A q) (B z) = d') := Lib.hid (by rw [HX.out, HZ.out]; exact hd')
          have z0 : (0 : Int) ≤ (z : Int) := by omega
          have z1'' : (z : Int) < (LB : Int) := by omega
          clear hd' hzz
          have k4' : decide ((z : Int) < 0) = false := by simp
          clear k4
          by_cases k5 : d < d'
          · have HN : Hid (pk (A q) B t (prL A B LB t q) (j + 1) = (j : Int)) := Lib.hid (by rw [pk_step HPK.out true false true HS.out HIM.out (by rw [bet_pos HDN.out HDZ.out]; simp [k5])]; simp)
            go_wp2_with fail
            go_quiet (first | (go_at_call 40; exact quiet_left (HD.out _)))
            go_wp2_with fail
            go_quiet (first | (go_at_call 34; exact quiet_left2 (HI.out _ (bel_drewN _ HBW.out))) | (go_at_call 40; first | exact quiet_left2 (HD.out _) | exact quiet_left2 (HE.out _)))
            go_wp2
            go_roundw
            case rel => exact ⟨_, j + 1, rfl, by omega, by go_num, by rw [HN.out], bel_drewN _ HBW.out⟩
            case measure => first | (simp [intOf]; done) | (simp [intOf]; omega)
          · have k5' : decide (d < d') = false := by simp [k5]
            have HN : Hid (pk (A q) B t (prL A B LB t q) (j + 1) = (z : Int)) := Lib.hid (by rw [pk_step HPK.out true false false HS.out HIM.out (by rw [bet_pos HDN.out HDZ.out]; simp [k5])]; simp)
            go_wp2_with fail
            go_quiet (first | (go_at_call 40; exact quiet_left (HD.out _)))
            go_wp2_with fail
            go_quiet (first | (go_at_call 34; exact quiet_left2 (HI.out _ (bel_drewN _ HBW.out))) | (go_at_call 40; first | exact quiet_left2 (HD.out _) | exact quiet_left2 (HE.out _)))
            go_wp2
            go_roundw
            case rel => exact ⟨_, j + 1, rfl, by omega, by go_num, by rw [HN.out], bel_drewN _ HBW.out⟩
            case measure => first | (simp [intOf]; done) | (simp [intOf]; omega)
        · obtain rfl : j = LB := by omega
          have HO1 := own_below HO.out hbw
          obtain ⟨r, hr⟩ : ∃ r, pk (A q) B t (prL A B j t q) j = r := ⟨_, rfl⟩
          rw [hr]
          have HR := Lib.hid hr
          clear hr hbw
          go_wp2_with (at_builtin; refine wpList_append_own _ rfl _ _ 26 rfl w.heap.size 3 i0 (.int .i64 0) 1 8 Try.underlying26 hi hz0 hz1 hz2 rfl (by decide) _ _ _ rfl (HO1.alloc _) ⟨ww.heap.size, 0, none⟩ 1 1 [.int .i64 r] rfl rfl (cell_one_new _ _ _) (by simp [Value.oneCell']) (by unfold maxLen; omega) (by omega) (by simp; omega) ?_; intro v' w2 hown2 hg _)
          have HB2 : Hid (Below w.heap.size w w2) := Below.grown (((HB.out).trans (HBW.out.mono hs)).alloc (by omega) _) hg (by simp; omega) (fun k hk => (HO1.lt k hk).1)
          have HO2 := Lib.hid hown2
          clear hown2 hg
          go_wp2
          go_roundw
          case rel => exact ⟨_, _, q + 1, rfl, rfl, by omega, by go_num, by rw [prL, HR.out, valI_snoc]; exact HO2.out, HB2.out⟩
          case measure => clear HR HO2 HB2 HO1; first | (simp [intOf]; done) | (simp [intOf]; omega)
    · obtain rfl : q = LA := by omega
      go_wp2
      go_ret
      exact ⟨_, rfl, HO.out, HB.out⟩
end Go.Proofs.Ytdifhjjkgcipaaa
