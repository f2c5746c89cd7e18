/- Notes: FnExactMatchNotes. -/
import Derived.Test.YtdifhjjkgcipaaaNote7
import Derived.Test.YtdifhjjkgcipaaaNote14
namespace Go.Proofs.Ytdifhjjkgcipaaa
open Go.RowKit
set_option linter.unusedVariables false
theorem SV.below {w w' : World} {v : Value} {L : Nat} {A : Nat → Nt} (h : SV w v L A) (k : Below w.heap.size w w') : SV w' v L A := by
  obtain ⟨a, c, e, h1, h2, F⟩ := h
  refine ⟨a, c, e, h1, h2, fun hL => ?_⟩
  obtain ⟨b, o, e2, hb, hc⟩ := F hL
  exact ⟨b, o, e2, Nat.lt_of_lt_of_le hb k.size, fun j hj => ⟨(k.cell (p := ⟨b, o + j * 3, none⟩) hb).trans (hc j hj).1, (k.cell (p := ⟨b, o + j * 3 + 1, none⟩) hb).trans (hc j hj).2.1, (k.cell (p := ⟨b, o + j * 3 + 2, none⟩) hb).trans (hc j hj).2.2⟩⟩
set_option maxRecDepth 4000 in
set_option maxHeartbeats 8000000 in
theorem fnExactMatchNotes_walk (v1 : Value) (L1 : Nat) (A : Nat → Nt) (v2 : Value) (L2 : Nat) (B : Nat → Nt) (t : Int) (w : World) (h1 : SV w v1 L1 A) (h2 : SV w v2 L2 B) (_w2 : (Lit.int .i64 t).wf = true) :
    Calls Try.prog 7 #[v1, v2, .int .i64 t] w fun ed w' => ed = .returned (.bool true) ∧ Below w.heap.size w w' := by
  have HS1 := Lib.hid h1
  have HS2 := Lib.hid h2
  obtain ⟨a1, c1, rfl, l1, m1, _⟩ := h1
  obtain ⟨a2, c2, rfl, l2, m2, _⟩ := h2
  clear _w2
  by_cases q1 : (1048576 : Int) - (L1 : Int) < 0
  · go_enter Try.func7, Try.ntmps7
    go_wp2_with fail
    refine (sz_any a1 L1 c1 1048576 _ l1 m1 (by omega) (by omega)).mono ?_
    rintro e w' ⟨rfl, rfl⟩
    rw [if_pos q1]
    go_wp2
    go_ret
    exact ⟨rfl, Below.refl _ _⟩
  obtain ⟨left, hleft⟩ : ∃ left : Int, (1048576 : Int) - (L1 : Int) = left := ⟨_, rfl⟩
  have f0 : 0 ≤ left := by omega
  have f1 : left ≤ 1048576 := by omega
  have q1' : ¬ left < 0 := by omega
  by_cases q2 : left - (L2 : Int) < 0
  · go_enter Try.func7, Try.ntmps7
    go_wp2_with fail
    refine (sz_any a1 L1 c1 1048576 _ l1 m1 (by omega) (by omega)).mono ?_
    rintro e w' ⟨rfl, rfl⟩
    rw [if_neg (Int.not_lt.2 q1), hleft]
    go_wp2_with fail
    refine (sz_any a2 L2 c2 left _ l2 m2 f0 f1).mono ?_
    rintro e w' ⟨rfl, rfl⟩
    rw [if_pos q2]
    go_wp2
    go_ret
    exact ⟨rfl, Below.refl _ _⟩
  obtain ⟨left2, hleft2⟩ : ∃ left2 : Int, left - (L2 : Int) = left2 := ⟨_, rfl⟩
  have f2 : 0 ≤ left2 := by omega
  have b1 : L1 ≤ 1048576 := by omega
  have b2 : L2 ≤ 1048576 := by omega
  have HQ1 := Lib.hid q1
  have HQ2 := Lib.hid q2
  have HL1 := Lib.hid hleft
  have HL2 := Lib.hid hleft2
  clear q1 q2 hleft hleft2
  have HT1 : Hid (∀ W : World, Below w.heap.size w W → Calls Try.prog 20 #[.slice a1 L1 c1] W (TnPost L1 A W)) := Lib.hid fun W hW => toNoteS_any _ _ _ _ b1 (HS1.out.below hW)
  have HT2 : Hid (∀ W : World, Below w.heap.size w W → Calls Try.prog 20 #[.slice a2 L2 c2] W (TnPost L2 B W)) := Lib.hid fun W hW => toNoteS_any _ _ _ _ b2 (HS2.out.below hW)
  unfold TnPost at HT1 HT2
  go_enter Try.func7, Try.ntmps7
  have HB := Lib.hid (Below.refl w.heap.size w)
  go_wp2_with fail
  refine (sz_any a1 L1 c1 1048576 _ l1 m1 (by omega) (by omega)).mono ?_
  rintro e w' ⟨rfl, rfl⟩
  rw [if_neg (Int.not_lt.2 HQ1.out), HL1.out]
  go_wp2_with fail
  refine (sz_any a2 L2 c2 left _ l2 m2 f0 f1).mono ?_
  rintro e w' ⟨rfl, rfl⟩
  rw [if_neg (Int.not_lt.2 HQ2.out), HL2.out]
  have hN := mtL_len (A := A) (LA := L1) (B := B) (LB := L2) (t := t)
  go_wp2_with fail
  refine (HT1.out _ HB.out).mono ?_
  rintro e w1 ⟨x, rfl, hn, hb⟩
  have hszw1 := below_size hb
  try simp at hszw1
  have HBq : Below w.heap.size w w1 := Below.trans (by repeat (first | exact Below.refl _ _ | exact HB.out | refine Below.drew ?_ | refine bel_drewN _ ?_ | refine Below.alloc ?_ (by first | omega | (simp; done) | (simp; omega)) _ | refine Below.setCell ?_ (by first | (show _ ≤ _; omega) | (simp; done) | (simp; omega)) _)) (hb.mono (by first | omega | (simp; done) | (simp; omega)))
  have HB := Lib.hid HBq
  clear HBq hb
  have HP := Lib.hid hn
  clear hn
  go_wp2_with fail
  refine (HT2.out _ HB.out).mono ?_
  rintro e w2 ⟨y, rfl, hn, hb⟩
  have hszw2 := below_size hb
  try simp at hszw2
  have HP := Lib.hid (HP.out.below hb)
  have HBq : Below w.heap.size w w2 := Below.trans (by repeat (first | exact Below.refl _ _ | exact HB.out | refine Below.drew ?_ | refine bel_drewN _ ?_ | refine Below.alloc ?_ (by first | omega | (simp; done) | (simp; omega)) _ | refine Below.setCell ?_ (by first | (show _ ≤ _; omega) | (simp; done) | (simp; omega)) _)) (hb.mono (by first | omega | (simp; done) | (simp; omega)))
  have HB := Lib.hid HBq
  clear HBq hb
  have HR := Lib.hid hn
  clear hn
  go_wp2_with fail
  refine (matchS_any x y _ _ L1 L2 A B t _ b1 b2 HP.out.nv HR.out.nv).mono ?_
  rintro e w3 ⟨z0, rfl, ho, hb⟩
  have hszw3 := below_size hb
  try simp at hszw3
  have HBq : Below w.heap.size w w3 := Below.trans (by repeat (first | exact Below.refl _ _ | exact HB.out | refine Below.drew ?_ | refine bel_drewN _ ?_ | refine Below.alloc ?_ (by first | omega | (simp; done) | (simp; omega)) _ | refine Below.setCell ?_ (by first | (show _ ≤ _; omega) | (simp; done) | (simp; omega)) _)) (hb.mono (by first | omega | (simp; done) | (simp; omega)))
  have HB := Lib.hid HBq
  clear HBq hb
  have HW := Lib.hid ((iv_of_own ho).ivr)
  clear ho HP HR
  obtain ⟨N, hNe⟩ : ∃ N, (mtL A L1 B L2 t).length = N := ⟨_, rfl⟩
  obtain ⟨X, hXe⟩ : ∃ X, rowI (mtL A L1 B L2 t) = X := ⟨_, rfl⟩
  have HNE := Lib.hid hNe
  have HXE := Lib.hid hXe
  rw [hNe] at hN
  have HW : Hid (IVR w3 w2.heap.size w3.heap.size z0 N X) := Lib.hid (by have := HW.out; rw [hNe, hXe] at this; exact this)
  clear hNe hXe
  go_wp2_with fail
  refine (HT1.out _ HB.out).mono ?_
  rintro e w4 ⟨x0, rfl, hn, hb⟩
  have hszw4 := below_size hb
  try simp at hszw4
  have HW := Lib.hid (HW.out.below hb)
  have HBq : Below w.heap.size w w4 := Below.trans (by repeat (first | exact Below.refl _ _ | exact HB.out | refine Below.drew ?_ | refine bel_drewN _ ?_ | refine Below.alloc ?_ (by first | omega | (simp; done) | (simp; omega)) _ | refine Below.setCell ?_ (by first | (show _ ≤ _; omega) | (simp; done) | (simp; omega)) _)) (hb.mono (by first | omega | (simp; done) | (simp; omega)))
  have HB := Lib.hid HBq
  clear HBq hb
  have HX0 := Lib.hid hn
  clear hn
  go_wp2_with fail
  refine (HT2.out _ HB.out).mono ?_
  rintro e w5 ⟨x1, rfl, hn, hb⟩
  have hszw5 := below_size hb
  try simp at hszw5
  have HW := Lib.hid (HW.out.below hb); have HX0 := Lib.hid (HX0.out.below hb)
  have HBq : Below w.heap.size w w5 := Below.trans (by repeat (first | exact Below.refl _ _ | exact HB.out | refine Below.drew ?_ | refine bel_drewN _ ?_ | refine Below.alloc ?_ (by first | omega | (simp; done) | (simp; omega)) _ | refine Below.setCell ?_ (by first | (show _ ≤ _; omega) | (simp; done) | (simp; omega)) _)) (hb.mono (by first | omega | (simp; done) | (simp; omega)))
  have HB := Lib.hid HBq
  clear HBq hb
  have HX1 := Lib.hid hn
  clear hn
  go_wp2_with fail
  refine (matchI_any x0 x1 _ _ L1 L2 A B t _ b1 b2 HX0.out.nv HX1.out.nv).mono ?_
  rintro e w6 ⟨g0, rfl, ho, hb⟩
  have hszw6 := below_size hb
  try simp at hszw6
  have HW := Lib.hid (HW.out.below hb); have HX0 := Lib.hid (HX0.out.below hb); have HX1 := Lib.hid (HX1.out.below hb)
  have HBq : Below w.heap.size w w6 := Below.trans (by repeat (first | exact Below.refl _ _ | exact HB.out | refine Below.drew ?_ | refine bel_drewN _ ?_ | refine Below.alloc ?_ (by first | omega | (simp; done) | (simp; omega)) _ | refine Below.setCell ?_ (by first | (show _ ≤ _; omega) | (simp; done) | (simp; omega)) _)) (hb.mono (by first | omega | (simp; done) | (simp; omega)))
  have HB := Lib.hid HBq
  clear HBq hb
  have HG : Hid (IVR w6 w5.heap.size w6.heap.size g0 N X) := Lib.hid (by have := (iv_of_own ho).ivr; rw [HNE.out, HXE.out] at this; exact this)
  clear ho
  go_wp2_with fail
  refine (eqIntS_any g0 z0 _ _ N X _ (by omega) HG.out.iv HW.out.iv).mono ?_
  rintro e w7 ⟨rfl, hb⟩
  have hszw7 := below_size hb
  try simp at hszw7
  have HW := Lib.hid (HW.out.below hb); have HX0 := Lib.hid (HX0.out.below hb); have HX1 := Lib.hid (HX1.out.below hb); have HG := Lib.hid (HG.out.below hb)
  have HBq : Below w.heap.size w w7 := Below.trans (by repeat (first | exact Below.refl _ _ | exact HB.out | refine Below.drew ?_ | refine bel_drewN _ ?_ | refine Below.alloc ?_ (by first | omega | (simp; done) | (simp; omega)) _ | refine Below.setCell ?_ (by first | (show _ ≤ _; omega) | (simp; done) | (simp; omega)) _)) (hb.mono (by first | omega | (simp; done) | (simp; omega)))
  have HB := Lib.hid HBq
  clear HBq hb
  go_wp2_with fail
  refine (HT1.out _ HB.out).mono ?_
  rintro e w8 ⟨y0, rfl, hn, hb⟩
  have hszw8 := below_size hb
  try simp at hszw8
  have HW := Lib.hid (HW.out.below hb); have HX0 := Lib.hid (HX0.out.below hb); have HX1 := Lib.hid (HX1.out.below hb); have HG := Lib.hid (HG.out.below hb)
  have HBq : Below w.heap.size w w8 := Below.trans (by repeat (first | exact Below.refl _ _ | exact HB.out | refine Below.drew ?_ | refine bel_drewN _ ?_ | refine Below.alloc ?_ (by first | omega | (simp; done) | (simp; omega)) _ | refine Below.setCell ?_ (by first | (show _ ≤ _; omega) | (simp; done) | (simp; omega)) _)) (hb.mono (by first | omega | (simp; done) | (simp; omega)))
  have HB := Lib.hid HBq
  clear HBq hb
  have HY := Lib.hid hn
  clear hn
  go_wp2_with fail
  refine (eqNoteS_any x0 y0 _ _ L1 A _ b1 HX0.out.nv HY.out.nv).mono ?_
  rintro e w9 ⟨rfl, hb⟩
  have hszw9 := below_size hb
  try simp at hszw9
  have HW := Lib.hid (HW.out.below hb); have HX0 := Lib.hid (HX0.out.below hb); have HX1 := Lib.hid (HX1.out.below hb); have HG := Lib.hid (HG.out.below hb)
  have HBq : Below w.heap.size w w9 := Below.trans (by repeat (first | exact Below.refl _ _ | exact HB.out | refine Below.drew ?_ | refine bel_drewN _ ?_ | refine Below.alloc ?_ (by first | omega | (simp; done) | (simp; omega)) _ | refine Below.setCell ?_ (by first | (show _ ≤ _; omega) | (simp; done) | (simp; omega)) _)) (hb.mono (by first | omega | (simp; done) | (simp; omega)))
  have HB := Lib.hid HBq
  clear HBq hb
  clear HY
  go_wp2_with fail
  refine (HT2.out _ HB.out).mono ?_
  rintro e w10 ⟨y1, rfl, hn, hb⟩
  have hszw10 := below_size hb
  try simp at hszw10
  have HW := Lib.hid (HW.out.below hb); have HX0 := Lib.hid (HX0.out.below hb); have HX1 := Lib.hid (HX1.out.below hb); have HG := Lib.hid (HG.out.below hb)
  have HBq : Below w.heap.size w w10 := Below.trans (by repeat (first | exact Below.refl _ _ | exact HB.out | refine Below.drew ?_ | refine bel_drewN _ ?_ | refine Below.alloc ?_ (by first | omega | (simp; done) | (simp; omega)) _ | refine Below.setCell ?_ (by first | (show _ ≤ _; omega) | (simp; done) | (simp; omega)) _)) (hb.mono (by first | omega | (simp; done) | (simp; omega)))
  have HB := Lib.hid HBq
  clear HBq hb
  have HY := Lib.hid hn
  clear hn
  go_wp2_with fail
  refine (eqNoteS_any x1 y1 _ _ L2 B _ b2 HX1.out.nv HY.out.nv).mono ?_
  rintro e w11 ⟨rfl, hb⟩
  have hszw11 := below_size hb
  try simp at hszw11
  have HW := Lib.hid (HW.out.below hb); have HX0 := Lib.hid (HX0.out.below hb); have HX1 := Lib.hid (HX1.out.below hb); have HG := Lib.hid (HG.out.below hb)
  have HBq : Below w.heap.size w w11 := Below.trans (by repeat (first | exact Below.refl _ _ | exact HB.out | refine Below.drew ?_ | refine bel_drewN _ ?_ | refine Below.alloc ?_ (by first | omega | (simp; done) | (simp; omega)) _ | refine Below.setCell ?_ (by first | (show _ ≤ _; omega) | (simp; done) | (simp; omega)) _)) (hb.mono (by first | omega | (simp; done) | (simp; omega)))
  have HB := Lib.hid HBq
  clear HBq hb
  clear HY
  go_wp2_with fail
  refine (markNoteS_any x0 w3.heap.size w4.heap.size L1 A 1 _ b1 (by omega) (by omega) HX0.out).mono ?_
  rintro e w12 ⟨rfl, hm, ho⟩
  have HB : Hid (Below w.heap.size w w12) := Lib.hid (Out.below HB.out ho (by omega))
  have HW := Lib.hid (HW.out.out ho (by omega))
  have HX1 := Lib.hid (HX1.out.out ho (by omega))
  have HG := Lib.hid (HG.out.out ho (by omega))
  have hszw12 := ho.size
  clear hm ho
  clear HX0
  go_wp2_with fail
  refine (markNoteS_any x1 w4.heap.size w5.heap.size L2 B (3 * (L1 : Int) + 1) _ b2 (by omega) (by omega) HX1.out).mono ?_
  rintro e w13 ⟨rfl, hm, ho⟩
  have HB : Hid (Below w.heap.size w w13) := Lib.hid (Out.below HB.out ho (by omega))
  have HW := Lib.hid (HW.out.out ho (by omega))
  have HG := Lib.hid (HG.out.out ho (by omega))
  have hszw13 := ho.size
  clear hm ho
  clear HX1
  go_wp2_with fail
  refine (eqIntS_any g0 z0 _ _ N X _ (by omega) HG.out.iv HW.out.iv).mono ?_
  rintro e w14 ⟨rfl, hb⟩
  have hszw14 := below_size hb
  try simp at hszw14
  have HW := Lib.hid (HW.out.below hb); have HG := Lib.hid (HG.out.below hb)
  have HBq : Below w.heap.size w w14 := Below.trans (by repeat (first | exact Below.refl _ _ | exact HB.out | refine Below.drew ?_ | refine bel_drewN _ ?_ | refine Below.alloc ?_ (by first | omega | (simp; done) | (simp; omega)) _ | refine Below.setCell ?_ (by first | (show _ ≤ _; omega) | (simp; done) | (simp; omega)) _)) (hb.mono (by first | omega | (simp; done) | (simp; omega)))
  have HB := Lib.hid HBq
  clear HBq hb
  go_wp2_with fail
  refine (markIntS_any g0 w5.heap.size w6.heap.size N X _ (by omega) HG.out).mono ?_
  rintro e w15 ⟨rfl, hm, ho⟩
  have HB : Hid (Below w.heap.size w w15) := Lib.hid (Out.below HB.out ho (by omega))
  have HW := Lib.hid (HW.out.out ho (by omega))
  have hszw15 := ho.size
  have HM := Lib.hid hm
  clear hm ho
  clear HG
  go_wp2_with fail
  refine (heldIntS_any g0 _ N _ (by omega) HM.out.iv).mono ?_
  rintro e w' ⟨rfl, rfl⟩
  go_wp2_with fail
  refine (HT1.out _ HB.out).mono ?_
  rintro e w16 ⟨y0, rfl, hn, hb⟩
  have hszw16 := below_size hb
  try simp at hszw16
  have HW := Lib.hid (HW.out.below hb); have HM := Lib.hid (HM.out.below hb)
  have HBq : Below w.heap.size w w16 := Below.trans (by repeat (first | exact Below.refl _ _ | exact HB.out | refine Below.drew ?_ | refine bel_drewN _ ?_ | refine Below.alloc ?_ (by first | omega | (simp; done) | (simp; omega)) _ | refine Below.setCell ?_ (by first | (show _ ≤ _; omega) | (simp; done) | (simp; omega)) _)) (hb.mono (by first | omega | (simp; done) | (simp; omega)))
  have HB := Lib.hid HBq
  clear HBq hb
  have HY0 := Lib.hid hn
  clear hn
  go_wp2_with fail
  refine (HT2.out _ HB.out).mono ?_
  rintro e w17 ⟨y1, rfl, hn, hb⟩
  have hszw17 := below_size hb
  try simp at hszw17
  have HW := Lib.hid (HW.out.below hb); have HM := Lib.hid (HM.out.below hb); have HY0 := Lib.hid (HY0.out.below hb)
  have HBq : Below w.heap.size w w17 := Below.trans (by repeat (first | exact Below.refl _ _ | exact HB.out | refine Below.drew ?_ | refine bel_drewN _ ?_ | refine Below.alloc ?_ (by first | omega | (simp; done) | (simp; omega)) _ | refine Below.setCell ?_ (by first | (show _ ≤ _; omega) | (simp; done) | (simp; omega)) _)) (hb.mono (by first | omega | (simp; done) | (simp; omega)))
  have HB := Lib.hid HBq
  clear HBq hb
  have HY1 := Lib.hid hn
  clear hn
  go_wp2_with fail
  refine (matchI_any y0 y1 _ _ L1 L2 A B t _ b1 b2 HY0.out.nv HY1.out.nv).mono ?_
  rintro e w18 ⟨h0, rfl, ho, hb⟩
  have hszw18 := below_size hb
  try simp at hszw18
  have HW := Lib.hid (HW.out.below hb); have HM := Lib.hid (HM.out.below hb)
  have HBq : Below w.heap.size w w18 := Below.trans (by repeat (first | exact Below.refl _ _ | exact HB.out | refine Below.drew ?_ | refine bel_drewN _ ?_ | refine Below.alloc ?_ (by first | omega | (simp; done) | (simp; omega)) _ | refine Below.setCell ?_ (by first | (show _ ≤ _; omega) | (simp; done) | (simp; omega)) _)) (hb.mono (by first | omega | (simp; done) | (simp; omega)))
  have HB := Lib.hid HBq
  clear HBq hb
  have HH : Hid (IVR w18 w17.heap.size w18.heap.size h0 N X) := Lib.hid (by have := (iv_of_own ho).ivr; rw [HNE.out, HXE.out] at this; exact this)
  clear ho HY0 HY1
  go_wp2_with fail
  refine (eqIntS_any h0 z0 _ _ N X _ (by omega) HH.out.iv HW.out.iv).mono ?_
  rintro e w19 ⟨rfl, hb⟩
  have hszw19 := below_size hb
  try simp at hszw19
  have HM := Lib.hid (HM.out.below hb)
  have HBq : Below w.heap.size w w19 := Below.trans (by repeat (first | exact Below.refl _ _ | exact HB.out | refine Below.drew ?_ | refine bel_drewN _ ?_ | refine Below.alloc ?_ (by first | omega | (simp; done) | (simp; omega)) _ | refine Below.setCell ?_ (by first | (show _ ≤ _; omega) | (simp; done) | (simp; omega)) _)) (hb.mono (by first | omega | (simp; done) | (simp; omega)))
  have HB := Lib.hid HBq
  clear HBq hb
  go_wp2_with fail
  refine (heldIntS_any g0 _ N _ (by omega) HM.out.iv).mono ?_
  rintro e w' ⟨rfl, rfl⟩
  go_wp2
  go_ret
  exact ⟨rfl, HB.out⟩
end Go.Proofs.Ytdifhjjkgcipaaa
