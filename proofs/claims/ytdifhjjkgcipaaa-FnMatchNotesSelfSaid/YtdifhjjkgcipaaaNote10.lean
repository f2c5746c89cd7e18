/- Notes: FnMatchNotesSelf. -/
import Derived.Test.YtdifhjjkgcipaaaNote7
import Derived.Test.YtdifhjjkgcipaaaNote8
import Derived.Test.YtdifhjjkgcipaaaNotePlain2
namespace Go.Proofs.Ytdifhjjkgcipaaa
open Go.RowKit
set_option linter.unusedVariables false
set_option maxHeartbeats 4000000 in
theorem fnMatchNotesSelf_walk (a : Option Addr) (len cap : Nat) (w : World) (hlc : len ≤ cap) (hc : cap ≤ maxLen) (h : IsBytes w a len) :
    Calls Try.prog 5 #[.slice a len cap] w fun ed w' => ed = .returned (.bool true) ∧ Below w.heap.size w w' := by
  by_cases hbig : 1048576 < len
  · unfold maxLen at hc
    go_enter Try.func5, Try.ntmps5
    go_wp2
    go_ret
    exact ⟨rfl, Below.refl _ _⟩
  have H := Lib.hid h
  clear h
  go_enter Try.func5, Try.ntmps5
  have HB := Lib.hid (Below.refl w.heap.size w)
  go_wp2_with fail
  refine (drawMN_any _ _ _ _ hlc hc H.out).mono ?_
  rintro e w1 ⟨va, vb, LA, LB, A, B, t, rfl, hLA, hLB, hna, hnb, hb⟩
  have hszw1 := below_size hb
  try simp at hszw1
  have HBq : Below w.heap.size w w1 := Below.trans (by repeat (first | exact Below.refl _ _ | exact HB.out | refine Below.drew ?_ | refine bel_drewN _ ?_ | refine Below.alloc ?_ (by first | omega | (simp; done) | (simp; omega)) _ | refine Below.setCell ?_ (by first | (show _ ≤ _; omega) | (simp; done) | (simp; omega)) _)) (hb.mono (by first | omega | (simp; done) | (simp; omega)))
  have HB := Lib.hid HBq
  clear HBq hb
  have HNA := Lib.hid hna
  have HNB := Lib.hid hnb
  clear hna hnb
  have hM := mtL_len (A := A) (LA := LA) (B := B) (LB := LB) (t := t)
  go_wp2_with fail
  refine (matchI_any va vb _ _ LA LB A B t _ (by omega) (by omega) HNA.out HNB.out).mono ?_
  rintro e w2 ⟨v1, rfl, ho1, hb⟩
  have hszw2 := below_size hb
  try simp at hszw2
  have HNA := Lib.hid (HNA.out.below hb); have HNB := Lib.hid (HNB.out.below hb)
  have HBq : Below w.heap.size w w2 := Below.trans (by repeat (first | exact Below.refl _ _ | exact HB.out | refine Below.drew ?_ | refine bel_drewN _ ?_ | refine Below.alloc ?_ (by first | omega | (simp; done) | (simp; omega)) _ | refine Below.setCell ?_ (by first | (show _ ≤ _; omega) | (simp; done) | (simp; omega)) _)) (hb.mono (by first | omega | (simp; done) | (simp; omega)))
  have HB := Lib.hid HBq
  clear HBq hb
  have HV1 := Lib.hid (iv_of_own ho1)
  clear ho1
  go_wp2_with fail
  refine (matchS_any va vb _ _ LA LB A B t _ (by omega) (by omega) HNA.out HNB.out).mono ?_
  rintro e w3 ⟨v2, rfl, ho2, hb⟩
  have hszw3 := below_size hb
  try simp at hszw3
  have HNA := Lib.hid (HNA.out.below hb); have HNB := Lib.hid (HNB.out.below hb); have HV1 := Lib.hid (HV1.out.below hb)
  have HBq : Below w.heap.size w w3 := Below.trans (by repeat (first | exact Below.refl _ _ | exact HB.out | refine Below.drew ?_ | refine bel_drewN _ ?_ | refine Below.alloc ?_ (by first | omega | (simp; done) | (simp; omega)) _ | refine Below.setCell ?_ (by first | (show _ ≤ _; omega) | (simp; done) | (simp; omega)) _)) (hb.mono (by first | omega | (simp; done) | (simp; omega)))
  have HB := Lib.hid HBq
  clear HBq hb
  have HV2 := Lib.hid (iv_of_own ho2)
  clear ho2
  go_wp2_with fail
  refine (equalInts_any v1 v2 _ _ _ _ _ (by omega) HV1.out HV2.out).mono ?_
  rintro e w4 ⟨rfl, hb⟩
  have hszw4 := below_size hb
  try simp at hszw4
  have HNA := Lib.hid (HNA.out.below hb); have HNB := Lib.hid (HNB.out.below hb); have HV1 := Lib.hid (HV1.out.below hb)
  have HBq : Below w.heap.size w w4 := Below.trans (by repeat (first | exact Below.refl _ _ | exact HB.out | refine Below.drew ?_ | refine bel_drewN _ ?_ | refine Below.alloc ?_ (by first | omega | (simp; done) | (simp; omega)) _ | refine Below.setCell ?_ (by first | (show _ ≤ _; omega) | (simp; done) | (simp; omega)) _)) (hb.mono (by first | omega | (simp; done) | (simp; omega)))
  have HB := Lib.hid HBq
  clear HBq hb
  clear HV2
  obtain ⟨M, hMe⟩ : ∃ M, (mtL A LA B LB t).length = M := ⟨_, rfl⟩
  have HME := Lib.hid hMe
  rw [hMe] at HV1 hM
  clear hMe
  obtain ⟨b1, c1, rfl, l1, m1, _⟩ := HV1.out.form
  by_cases h0 : M = 0
  · have e0 : ((M : Int) == 0) = true := by simp; omega
    clear h0
    go_wp2_with fail
    refine (matchS_any va vb _ _ LA LB A B t _ (by omega) (by omega) HNA.out HNB.out).mono ?_
    rintro e w5 ⟨v2, rfl, ho2, hb⟩
    have hszw5 := below_size hb
    try simp at hszw5
    have HNA := Lib.hid (HNA.out.below hb); have HNB := Lib.hid (HNB.out.below hb); have HV1 := Lib.hid (HV1.out.below hb)
    have HBq : Below w.heap.size w w5 := Below.trans (by repeat (first | exact Below.refl _ _ | exact HB.out | refine Below.drew ?_ | refine bel_drewN _ ?_ | refine Below.alloc ?_ (by first | omega | (simp; done) | (simp; omega)) _ | refine Below.setCell ?_ (by first | (show _ ≤ _; omega) | (simp; done) | (simp; omega)) _)) (hb.mono (by first | omega | (simp; done) | (simp; omega)))
    have HB := Lib.hid HBq
    clear HBq hb
    rw [HME.out] at ho2
    have HV2 := Lib.hid (iv_of_own ho2)
    clear ho2
    go_wp2_with fail
    refine (equalInts_any (.slice b1 M c1) v2 _ _ _ _ _ (by omega) HV1.out HV2.out).mono ?_
    rintro e w6 ⟨rfl, hb⟩
    have hszw6 := below_size hb
    try simp at hszw6
    have HNA := Lib.hid (HNA.out.below hb); have HNB := Lib.hid (HNB.out.below hb); have HV1 := Lib.hid (HV1.out.below hb)
    have HBq : Below w.heap.size w w6 := Below.trans (by repeat (first | exact Below.refl _ _ | exact HB.out | refine Below.drew ?_ | refine bel_drewN _ ?_ | refine Below.alloc ?_ (by first | omega | (simp; done) | (simp; omega)) _ | refine Below.setCell ?_ (by first | (show _ ≤ _; omega) | (simp; done) | (simp; omega)) _)) (hb.mono (by first | omega | (simp; done) | (simp; omega)))
    have HB := Lib.hid HBq
    clear HBq hb
    go_wp2
    go_ret
    exact ⟨rfl, HB.out⟩
  · have e0 : ((M : Int) == 0) = false := by simp; omega
    have HT : Hid (ntB A LA = true) := Lib.hid (by
      have hne : mtL A LA B LB t ≠ [] := fun e => h0 (by rw [← HME.out, e]; rfl)
      exact (mtB_iff.1 (mt_len hne)).1)
    have HS := Lib.hid (mt_self HT.out)
    clear h0
    go_wp2_with fail
    refine (openI_any va va _ _ LA LA A A 0 _ (by omega) (by omega) HNA.out HNA.out).mono ?_
    rintro e w5 ⟨v4, rfl, ho4, hb⟩
    have hszw5 := below_size hb
    try simp at hszw5
    have HNA := Lib.hid (HNA.out.below hb); have HNB := Lib.hid (HNB.out.below hb); have HV1 := Lib.hid (HV1.out.below hb)
    have HBq : Below w.heap.size w w5 := Below.trans (by repeat (first | exact Below.refl _ _ | exact HB.out | refine Below.drew ?_ | refine bel_drewN _ ?_ | refine Below.alloc ?_ (by first | omega | (simp; done) | (simp; omega)) _ | refine Below.setCell ?_ (by first | (show _ ≤ _; omega) | (simp; done) | (simp; omega)) _)) (hb.mono (by first | omega | (simp; done) | (simp; omega)))
    have HB := Lib.hid HBq
    clear HBq hb
    rw [HS.out.1] at ho4
    obtain ⟨b4, c4, rfl, l4, m4⟩ := own_form ho4
    unfold maxLen at m4
    simp only [List.length_nil] at l4
    clear ho4
    go_wp2_with fail
    refine (matchI_any va va _ _ LA LA A A 0 _ (by omega) (by omega) HNA.out HNA.out).mono ?_
    rintro e w6 ⟨v5, rfl, ho5, hb⟩
    have hszw6 := below_size hb
    try simp at hszw6
    have HNA := Lib.hid (HNA.out.below hb); have HNB := Lib.hid (HNB.out.below hb); have HV1 := Lib.hid (HV1.out.below hb)
    have HBq : Below w.heap.size w w6 := Below.trans (by repeat (first | exact Below.refl _ _ | exact HB.out | refine Below.drew ?_ | refine bel_drewN _ ?_ | refine Below.alloc ?_ (by first | omega | (simp; done) | (simp; omega)) _ | refine Below.setCell ?_ (by first | (show _ ≤ _; omega) | (simp; done) | (simp; omega)) _)) (hb.mono (by first | omega | (simp; done) | (simp; omega)))
    have HB := Lib.hid HBq
    clear HBq hb
    have HV5 := Lib.hid (iv_of_own ho5)
    have hM5 := mtL_len (A := A) (LA := LA) (B := A) (LB := LA) (t := 0)
    have HD : Hid (decide ((-1 : Int) ∈ mtL A LA A LA 0) = false) := Lib.hid (decide_eq_false HS.out.2)
    clear ho5
    go_wp2_with fail
    refine (isInL_any v5 _ _ (-1) _ (by omega) HV5.out).mono ?_
    rintro e w7 ⟨rfl, rfl⟩
    rw [HD.out]
    go_wp2
    go_ret
    exact ⟨rfl, HB.out⟩
end Go.Proofs.Ytdifhjjkgcipaaa
