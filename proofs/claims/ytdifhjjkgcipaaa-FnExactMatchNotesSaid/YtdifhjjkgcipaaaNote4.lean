/- Notes: MatchNotes and OpenNotes of the reference. -/
import Derived.Test.YtdifhjjkgcipaaaNote3
namespace Go.Proofs.Ytdifhjjkgcipaaa
open Go.RowKit
set_option linter.unusedVariables false
theorem iv_mid {w W : World} {b : Nat} {v : Value} {L : Nat} {Z : Nat → Int} (h : IV w b v L Z) (hW : ∀ k, b ≤ k → k < w.heap.size → W.heap[k]? = w.heap[k]?) : IV W b v L Z := by
  rcases h with h | ⟨h1, g, c, cap, h2, h3, h4, h5, h6⟩
  · exact .inl h
  · have hl := h6.lt
    obtain ⟨cur, e1, e2, e3⟩ := h6
    exact .inr ⟨h1, g, c, cap, h2, h3, h4, h5, cur, (hW g h3 hl).trans e1, e2, e3⟩
def MtPost (A : Nat → Nt) (LA : Nat) (B : Nat → Nt) (LB : Nat) (t : Int) (w : World) (ed : Ending) (w' : World) : Prop :=
  ∃ v, ed = .returned v ∧ w'.ownsRow w.heap.size 3 1 v (mtL A LA B LB t).length (valI (mtL A LA B LB t)) ∧ Below w.heap.size w w'
def OnPost (A : Nat → Nt) (LA : Nat) (B : Nat → Nt) (LB : Nat) (t : Int) (w : World) (ed : Ending) (w' : World) : Prop :=
  ∃ v, ed = .returned v ∧ w'.ownsRow w.heap.size 30 3 v (onL A LA B LB t).length (valN (onL A LA B LB t)) ∧ Below w.heap.size w w'
theorem mt_no {A B : Nat → Nt} {LA LB : Nat} {t : Int} {w w' : World} (h : mtB A LA B LB t = false) (hb : Below w.heap.size w w') : MtPost A LA B LB t w (.returned (.slice none 0 0)) w' :=
  ⟨_, rfl, by rw [mtL_no h]; exact World.ownsRow_nil _ _ _ _, hb⟩
theorem on_no {A B : Nat → Nt} {LA LB : Nat} {t : Int} {w w' : World} (h : mtB A LA B LB t = false) (hb : Below w.heap.size w w') : OnPost A LA B LB t w (.returned (.slice none 0 0)) w' :=
  ⟨_, rfl, by rw [onL_no h]; exact World.ownsRow_nil _ _ _ _, hb⟩
set_option maxHeartbeats 2000000 in
theorem matchS_any (v1 v2 : Value) (b1 b2 LA LB : Nat) (A B : Nat → Nt) (t : Int) (w : World) (hLA : LA ≤ 1048576) (hLB : LB ≤ 1048576) (hA : NV w b1 v1 LA A) (hB : NV w b2 v2 LB B) :
    Calls Try.prog 12 #[v1, v2, .int .i64 t] w (MtPost A LA B LB t w) := by
  have HA : Hid (∀ W : World, Below w.heap.size w W → Calls Try.prog 31 #[v1] W fun e w' => e = .returned (.bool (ntB A LA)) ∧ Below W.heap.size W w') := Lib.hid fun W hW => validNotes_any v1 b1 LA A W hLA (hA.below hW)
  have HB : Hid (∀ W : World, Below w.heap.size w W → Calls Try.prog 31 #[v2] W fun e w' => e = .returned (.bool (ntB B LB)) ∧ Below W.heap.size W w') := Lib.hid fun W hW => validNotes_any v2 b2 LB B W hLB (hB.below hW)
  have NA := Lib.hid hA
  have NB' := Lib.hid hB
  clear hA hB
  cases h1 : ntB A LA
  · have HN := Lib.hid (mtB_a (B := B) (LB := LB) (t := t) h1)
    rw [h1] at HA
    go_enter Try.func12, Try.ntmps12
    go_wp2_with fail
    refine (HA.out _ (Below.refl _ _)).mono ?_
    rintro e w1 ⟨rfl, hb⟩
    go_wp2
    go_ret
    exact mt_no HN.out hb
  cases h2 : ntB B LB
  · have HN := Lib.hid (mtB_b (A := A) (LA := LA) (t := t) h2)
    rw [h1] at HA
    rw [h2] at HB
    go_enter Try.func12, Try.ntmps12
    go_wp2_with fail
    refine (HA.out _ (Below.refl _ _)).mono ?_
    rintro e w1 ⟨rfl, hb⟩
    go_wp2_with fail
    refine (HB.out _ hb).mono ?_
    rintro e w2 ⟨rfl, hb2⟩
    go_wp2
    go_ret
    exact mt_no HN.out (hb.trans (hb2.mono hb.size))
  cases h3 : inR t 0 50000
  · have HN := Lib.hid (mtB_c (A := A) (B := B) (LA := LA) (LB := LB) (t := t) h3)
    rw [h1] at HA
    rw [h2] at HB
    go_enter Try.func12, Try.ntmps12
    go_wp2_with fail
    refine (HA.out _ (Below.refl _ _)).mono ?_
    rintro e w1 ⟨rfl, hb⟩
    go_wp2_with fail
    refine (HB.out _ hb).mono ?_
    rintro e w2 ⟨rfl, hb2⟩
    go_wp2_with (go_at_call 32; refine (inRange_any _ _ _ _).mono ?_; rintro e w' ⟨rfl, rfl⟩)
    go_ret
    exact mt_no HN.out (hb.trans (hb2.mono hb.size))
  have hm := mtB_y h1 h2 h3
  have HM := Lib.hid hm
  rw [h1] at HA
  rw [h2] at HB
  have HP : Hid (∀ W : World, Below w.heap.size w W → Calls Try.prog 33 #[v1, v2, .int .i64 t] W (PrPost A B LA LB t W)) := Lib.hid fun W hW => pair_any v1 v2 b1 b2 LA LB A B t W (NA.out.below hW) (NB'.out.below hW) HM.out
  clear hm
  go_enter Try.func12, Try.ntmps12
  go_wp2_with fail
  refine (HA.out _ (Below.refl _ _)).mono ?_
  rintro e w1 ⟨rfl, hb⟩
  go_wp2_with fail
  refine (HB.out _ hb).mono ?_
  rintro e w2 ⟨rfl, hb2⟩
  have hb3 := Lib.hid (hb.trans (hb2.mono hb.size))
  clear hb hb2
  go_wp2_with (go_at_call 32; refine (inRange_any _ _ _ _).mono ?_; rintro e w' ⟨rfl, rfl⟩)
  refine (HP.out _ hb3.out).mono ?_
  rintro e w3 ⟨v, rfl, hown, hb4⟩
  have HO := Lib.hid hown
  have HB4 := Lib.hid hb4
  clear hown hb4
  go_wp2
  go_ret
  exact ⟨_, rfl, by rw [mtL_yes HM.out, prL_len]; exact own_base HO.out hb3.out.size, hb3.out.trans (HB4.out.mono hb3.out.size)⟩
set_option maxRecDepth 4000 in
set_option maxHeartbeats 4000000 in
theorem openS_any (v1 v2 : Value) (b1 b2 LA LB : Nat) (A B : Nat → Nt) (t : Int) (w : World) (hLA : LA ≤ 1048576) (hLB : LB ≤ 1048576) (hA : NV w b1 v1 LA A) (hB : NV w b2 v2 LB B) :
    Calls Try.prog 18 #[v1, v2, .int .i64 t] w (OnPost A LA B LB t w) := by
  have HA : Hid (∀ W : World, Below w.heap.size w W → Calls Try.prog 31 #[v1] W fun e w' => e = .returned (.bool (ntB A LA)) ∧ Below W.heap.size W w') := Lib.hid fun W hW => validNotes_any v1 b1 LA A W hLA (hA.below hW)
  have HB : Hid (∀ W : World, Below w.heap.size w W → Calls Try.prog 31 #[v2] W fun e w' => e = .returned (.bool (ntB B LB)) ∧ Below W.heap.size W w') := Lib.hid fun W hW => validNotes_any v2 b2 LB B W hLB (hB.below hW)
  have NA := Lib.hid hA
  have NB' := Lib.hid hB
  clear hA hB
  cases h1 : ntB A LA
  · have HN := Lib.hid (mtB_a (B := B) (LB := LB) (t := t) h1)
    rw [h1] at HA
    go_enter Try.func18, Try.ntmps18
    go_wp2_with fail
    refine (HA.out _ (by exact (by repeat (first | exact Below.refl _ _ | refine Below.drew ?_ | refine bel_drewN _ ?_ | refine Below.alloc ?_ (by first | omega | (simp; done) | (simp; omega)) _ | refine Below.setCell ?_ (by first | (show _ ≤ _; omega) | (simp; done) | (simp; omega)) _)))).mono ?_
    rintro e w1 ⟨rfl, hb⟩
    have HB1 : Hid (Below w.heap.size w w1) := Lib.hid (Below.trans (by repeat (first | exact Below.refl _ _ | refine Below.drew ?_ | refine bel_drewN _ ?_ | refine Below.alloc ?_ (by first | omega | (simp; done) | (simp; omega)) _ | refine Below.setCell ?_ (by first | (show _ ≤ _; omega) | (simp; done) | (simp; omega)) _)) (hb.mono (by simp)))
    clear hb
    go_wp2
    go_ret
    exact on_no HN.out HB1.out
  cases h2 : ntB B LB
  · have HN := Lib.hid (mtB_b (A := A) (LA := LA) (t := t) h2)
    rw [h1] at HA
    rw [h2] at HB
    go_enter Try.func18, Try.ntmps18
    go_wp2_with fail
    refine (HA.out _ (by exact (by repeat (first | exact Below.refl _ _ | refine Below.drew ?_ | refine bel_drewN _ ?_ | refine Below.alloc ?_ (by first | omega | (simp; done) | (simp; omega)) _ | refine Below.setCell ?_ (by first | (show _ ≤ _; omega) | (simp; done) | (simp; omega)) _)))).mono ?_
    rintro e w1 ⟨rfl, hb⟩
    have HB1 : Hid (Below w.heap.size w w1) := Lib.hid (Below.trans (by repeat (first | exact Below.refl _ _ | refine Below.drew ?_ | refine bel_drewN _ ?_ | refine Below.alloc ?_ (by first | omega | (simp; done) | (simp; omega)) _ | refine Below.setCell ?_ (by first | (show _ ≤ _; omega) | (simp; done) | (simp; omega)) _)) (hb.mono (by simp)))
    clear hb
    go_wp2_with fail
    refine (HB.out _ HB1.out).mono ?_
    rintro e w2 ⟨rfl, hb2⟩
    go_wp2
    go_ret
    exact on_no HN.out (HB1.out.trans (hb2.mono HB1.out.size))
  cases h3 : inR t 0 50000
  · have HN := Lib.hid (mtB_c (A := A) (B := B) (LA := LA) (LB := LB) (t := t) h3)
    rw [h1] at HA
    rw [h2] at HB
    go_enter Try.func18, Try.ntmps18
    go_wp2_with fail
    refine (HA.out _ (by exact (by repeat (first | exact Below.refl _ _ | refine Below.drew ?_ | refine bel_drewN _ ?_ | refine Below.alloc ?_ (by first | omega | (simp; done) | (simp; omega)) _ | refine Below.setCell ?_ (by first | (show _ ≤ _; omega) | (simp; done) | (simp; omega)) _)))).mono ?_
    rintro e w1 ⟨rfl, hb⟩
    have HB1 : Hid (Below w.heap.size w w1) := Lib.hid (Below.trans (by repeat (first | exact Below.refl _ _ | refine Below.drew ?_ | refine bel_drewN _ ?_ | refine Below.alloc ?_ (by first | omega | (simp; done) | (simp; omega)) _ | refine Below.setCell ?_ (by first | (show _ ≤ _; omega) | (simp; done) | (simp; omega)) _)) (hb.mono (by simp)))
    clear hb
    go_wp2_with fail
    refine (HB.out _ HB1.out).mono ?_
    rintro e w2 ⟨rfl, hb2⟩
    go_wp2_with (go_at_call 32; refine (inRange_any _ _ _ _).mono ?_; rintro e w' ⟨rfl, rfl⟩)
    go_ret
    exact on_no HN.out (HB1.out.trans (hb2.mono HB1.out.size))
  have hm := mtB_y h1 h2 h3
  have HM := Lib.hid hm
  have lB := (ntB_iff.1 h2).2
  have lA := (ntB_iff.1 h1).2
  rw [h1] at HA
  rw [h2] at HB
  have HP : Hid (∀ W : World, Below w.heap.size w W → Calls Try.prog 33 #[v1, v2, .int .i64 t] W (PrPost A B LA LB t W)) := Lib.hid fun W hW => pair_any v1 v2 b1 b2 LA LB A B t W (NA.out.below hW) (NB'.out.below hW) HM.out
  obtain ⟨iN, hj, hy0, hy1, hy2⟩ := info_parts infoNote
  obtain ⟨a2, c2, rfl, l2, m2, F2⟩ := NB'.out.form
  have FB := Lib.hid F2
  clear hm F2 NB'
  go_enter Try.func18, Try.ntmps18
  go_wp2_with fail
  refine (HA.out _ (by exact (by repeat (first | exact Below.refl _ _ | refine Below.drew ?_ | refine bel_drewN _ ?_ | refine Below.alloc ?_ (by first | omega | (simp; done) | (simp; omega)) _ | refine Below.setCell ?_ (by first | (show _ ≤ _; omega) | (simp; done) | (simp; omega)) _)))).mono ?_
  rintro e w1 ⟨rfl, hb⟩
  have hO : w1.ownsRow w.heap.size 30 3 (.slice (some ⟨w.heap.size, 0, none⟩) 0 0) 0 (valN []) := own_below (World.ownsRow_made (base := w.heap.size) (e := 30) (size := 3) w #[] 0 (Nat.le_refl _) (by decide) rfl) hb
  have HB1 : Hid (Below w.heap.size w w1) := Lib.hid (Below.trans (by repeat (first | exact Below.refl _ _ | refine Below.drew ?_ | refine bel_drewN _ ?_ | refine Below.alloc ?_ (by first | omega | (simp; done) | (simp; omega)) _ | refine Below.setCell ?_ (by first | (show _ ≤ _; omega) | (simp; done) | (simp; omega)) _)) (hb.mono (by simp)))
  have hsz1 := hb.size
  clear hb
  go_wp2_with fail
  refine (HB.out _ HB1.out).mono ?_
  rintro e w2 ⟨rfl, hb2⟩
  have hO2 := own_below hO hb2
  have hsz2 := hb2.size
  have HB2 : Hid (Below w.heap.size w w2) := Lib.hid (HB1.out.trans (hb2.mono HB1.out.size))
  clear hb2 hO
  go_wp2_with (go_at_call 32; refine (inRange_any _ _ _ _).mono ?_; rintro e w' ⟨rfl, rfl⟩)
  refine (HP.out _ HB2.out).mono ?_
  rintro e w3 ⟨v, rfl, hown, hb4⟩
  have HO3 := Lib.hid (own_below hO2 hb4)
  have hsz3 := hb4.size
  have HB3 : Hid (Below w.heap.size w w3) := Lib.hid (HB2.out.trans (hb4.mono HB2.out.size))
  have HR := Lib.hid hown
  simp at hsz1
  clear hb4 hO2 hown
  have HIV : Hid (IV w3 (w.heap.size + 1) v LA (rowI (prL A B LB t LA))) := Lib.hid ((iv_of_own HR.out).base (by omega))
  have HIN : Hid (∀ (k : Int) (W : World), IV W (w.heap.size + 1) v LA (rowI (prL A B LB t LA)) → Calls Try.prog 34 #[v, .int .i64 k] W fun e w' => e = .returned (.bool (decide (k ∈ prL A B LB t LA))) ∧ W = w') := Lib.hid fun k W hW =>
    isInS_any v (w.heap.size + 1) (prL A B LB t LA) k W (by rw [prL_len]; omega) (by rw [prL_len]; exact hW)
  have HMID : Hid (∀ W : World, (∀ k, w.heap.size + 1 ≤ k → k < w3.heap.size → W.heap[k]? = w3.heap[k]?) → IV W (w.heap.size + 1) v LA (rowI (prL A B LB t LA))) := Lib.hid fun W hW => iv_mid HIV.out hW
  obtain ⟨pl, hpl⟩ : ∃ pl, prL A B LB t LA = pl := ⟨_, rfl⟩
  rw [hpl] at HIN HMID
  have HPL := Lib.hid hpl
  clear hpl HIV HR
  go_wp2_with fail
  go_loopw [7, 9] (fun o i wr => ∃ (o0 : Value) (wo : World) (q : Nat), o0 = o ∧ wo = wr ∧ q ≤ LB ∧ i = .int .i64 q ∧ wr.ownsRow w.heap.size 30 3 o (opL B pl q).length (valN (opL B pl q)) ∧ (∀ g, o.ownBlock = some g → g = w.heap.size ∨ w3.heap.size ≤ g) ∧ (∀ k, w.heap.size + 1 ≤ k → k < w3.heap.size → wr.heap[k]? = w3.heap[k]?) ∧ Below w.heap.size w wr ∧ w3.heap.size ≤ wr.heap.size) (fun _ i _ => LB - (intOf i).toNat)
  case atStart => exact ⟨_, _, 0, rfl, rfl, Nat.zero_le _, rfl, HO3.out, fun g hg => .inl (by simpa [Value.ownBlock] using hg.symm), fun _ _ _ => rfl, HB3.out, Nat.le_refl _⟩
  case round =>
    obtain ⟨o, wo, q, rfl, rfl, hq, rfl, hown, hdis, hmid, hbel, hsz⟩ := hrel
    have HO := Lib.hid hown
    have HDIS := Lib.hid hdis
    have HMD := Lib.hid hmid
    have HBL := Lib.hid hbel
    have hs0 := hbel.size
    have HIW := Lib.hid (HIN.out (q : Int) wo (HMID.out wo hmid))
    clear hown hdis hmid
    by_cases hlt : q < LB
    · obtain ⟨g2, cap2, rfl, _, gl2, nb2⟩ := FB.out (by omega)
      obtain ⟨⟨y0', y1', y2'⟩, _⟩ := (nb2.fwd hbel gl2).cells hlt
      obtain ⟨⟨y1, y2, y3⟩, hy⟩ : ∃ y, B q = y := ⟨_, rfl⟩
      rw [hy] at y0' y1' y2'
      simp only at y0' y1' y2'
      have HY := Lib.hid hy
      have i0 : (0 : Int) ≤ (q : Int) := by omega
      have i1 : (q : Int) < (LB : Int) := by omega
      have hlen := opL_len B pl q
      clear hy nb2 hbel
      by_cases hin : (q : Int) ∈ pl
      · have HN : Hid (opL B pl (q + 1) = opL B pl q) := Lib.hid (by rw [opL, if_pos hin])
        rw [decide_eq_true hin] at HIW
        clear hin
        go_wp2_with fail
        refine HIW.out.mono ?_
        rintro e wx ⟨rfl, rfl⟩
        go_wp2
        go_roundw
        case rel => exact ⟨_, _, q + 1, rfl, rfl, by omega, by go_num, by rw [HN.out]; exact HO.out, HDIS.out, HMD.out, HBL.out, hsz⟩
        case measure => simp [intOf]; omega
      · have HN : Hid (opL B pl (q + 1) = opL B pl q ++ [(y1, y2, y3)]) := Lib.hid (by rw [opL, if_neg hin, HY.out])
        rw [decide_eq_false hin] at HIW
        clear hin
        go_wp2_with fail
        refine HIW.out.mono ?_
        rintro e wx ⟨rfl, rfl⟩
        go_wp2_with (at_builtin; refine wpList_append_own_at _ rfl _ _ 23 rfl w.heap.size 30 iN (.agg #[.int .i64 0, .int .i64 0, .int .i64 0]) 3 24 Try.underlying23 hj hy0 hy1 hy2 rfl (by decide) _ _ _ rfl (HO.out.alloc _) ⟨wo.heap.size, 0, none⟩ 1 1 [.int .i64 y1, .int .i64 y2, .int .i64 y3] rfl rfl (news_at _ _ _) (by simp [Value.oneCell']) (by unfold maxLen; omega) (by omega) (by simp; omega) ?_; intro v' w4 hown2 hg _ hat)
        have hall := (World.grownBy_alloc wo (.cells #[.int .i64 y1, .int .i64 y2, .int .i64 y3] 30) o.ownBlock).trans hg
        have HB5 : Hid (Below w.heap.size w w4) := Lib.hid (HBL.out.grown hall hs0 (fun k hk => (HO.out.lt k hk).1))
        have HM5 : Hid (∀ k, w.heap.size + 1 ≤ k → k < w3.heap.size → w4.heap[k]? = w3.heap[k]?) := Lib.hid fun k k1 k2 => by
          rw [hall.block k (by omega) (fun e => by rcases HDIS.out k e.symm with c | c <;> omega)]
          exact HMD.out k k1 k2
        have HD5 : Hid (∀ g, v'.ownBlock = some g → g = w.heap.size ∨ w3.heap.size ≤ g) := Lib.hid fun g hg2 => by
          rcases hat with c | c
          · rw [c] at hg2; exact HDIS.out g hg2
          · rw [c] at hg2; simp at hg2; omega
        have hs5 : w3.heap.size ≤ w4.heap.size := Nat.le_trans hsz hall.size
        have HO5 := Lib.hid hown2
        clear hown2 hg hat hall
        go_wp2
        go_roundw
        case rel => exact ⟨_, _, q + 1, rfl, rfl, by omega, by go_num, by rw [HN.out, List.length_append, List.length_singleton, valN_snoc]; exact HO5.out, HD5.out, HM5.out, HB5.out, hs5⟩
        case measure => simp [intOf]; omega
    · obtain rfl : q = LB := by omega
      go_wp2
      go_ret
      exact ⟨_, rfl, by rw [onL_yes HM.out, HPL.out]; exact HO.out, HBL.out⟩
end Go.Proofs.Ytdifhjjkgcipaaa
