/- Notes: FnOpenNotes, FnMatchNotesSelf. -/
import Derived.Test.YtdifhjjkgcipaaaNote7
import Derived.Test.YtdifhjjkgcipaaaNote8
import Derived.Test.YtdifhjjkgcipaaaNotePlain2
namespace Go.Proofs.Ytdifhjjkgcipaaa
open Go.RowKit
set_option linter.unusedVariables false
theorem take_snoc {l : List Int} {k : Nat} (h : k < l.length) : l.take (k + 1) = l.take k ++ [rowI l k] := by
  unfold rowI; rw [List.getD, List.getElem?_eq_getElem h]; simp
set_option maxHeartbeats 4000000 in
theorem fnOpenNotes_walk (a : Option Addr) (len cap : Nat) (w : World) (hlc : len ≤ cap) (hc : cap ≤ maxLen) (h : IsBytes w a len) :
    Calls Try.prog 6 #[.slice a len cap] w fun ed w' => ed = .returned (.bool true) ∧ Below w.heap.size w w' := by
  by_cases hbig : 1048576 < len
  · unfold maxLen at hc
    go_enter Try.func6, Try.ntmps6
    go_wp2
    go_ret
    exact ⟨rfl, Below.refl _ _⟩
  have H := Lib.hid h
  clear h
  go_enter Try.func6, Try.ntmps6
  have HB := Lib.hid (Below.refl w.heap.size w)
  go_wp2_with fail
  refine (drawON_any _ _ _ _ hlc hc H.out).mono ?_
  rintro e w1 ⟨va, vb, LA, LB, A, B, t, rfl, hLA, hLB, hna, hnb, hb⟩
  have hszw1 := below_size hb
  try simp at hszw1
  have HBq : Below w.heap.size w w1 := Below.trans (by repeat (first | exact Below.refl _ _ | exact HB.out | refine Below.drew ?_ | refine bel_drewN _ ?_ | refine Below.alloc ?_ (by first | omega | (simp; done) | (simp; omega)) _ | refine Below.setCell ?_ (by first | (show _ ≤ _; omega) | (simp; done) | (simp; omega)) _)) (hb.mono (by first | omega | (simp; done) | (simp; omega)))
  have HB := Lib.hid HBq
  clear HBq hb
  have HNA := Lib.hid hna
  have HNB := Lib.hid hnb
  clear hna hnb
  have hN := onL_len (A := A) (LA := LA) (B := B) (LB := LB) (t := t)
  have hM := mtL_len (A := A) (LA := LA) (B := B) (LB := LB) (t := t)
  go_wp2_with fail
  refine (openI_any va vb _ _ LA LB A B t _ (by omega) (by omega) HNA.out HNB.out).mono ?_
  rintro e w2 ⟨v1, rfl, ho1, hb⟩
  have hszw2 := below_size hb
  try simp at hszw2
  have HNA := Lib.hid (HNA.out.below hb); have HNB := Lib.hid (HNB.out.below hb)
  have HBq : Below w.heap.size w w2 := Below.trans (by repeat (first | exact Below.refl _ _ | exact HB.out | refine Below.drew ?_ | refine bel_drewN _ ?_ | refine Below.alloc ?_ (by first | omega | (simp; done) | (simp; omega)) _ | refine Below.setCell ?_ (by first | (show _ ≤ _; omega) | (simp; done) | (simp; omega)) _)) (hb.mono (by first | omega | (simp; done) | (simp; omega)))
  have HB := Lib.hid HBq
  clear HBq hb
  have HV1 := Lib.hid (nv_of_list ho1 rfl)
  clear ho1
  go_wp2_with fail
  refine (openS_any va vb _ _ LA LB A B t _ (by omega) (by omega) HNA.out HNB.out).mono ?_
  rintro e w3 ⟨v2, rfl, ho2, hb⟩
  have hszw3 := below_size hb
  try simp at hszw3
  have HNA := Lib.hid (HNA.out.below hb); have HNB := Lib.hid (HNB.out.below hb); have HV1 := Lib.hid (HV1.out.below hb)
  have HBq : Below w.heap.size w w3 := Below.trans (by repeat (first | exact Below.refl _ _ | exact HB.out | refine Below.drew ?_ | refine bel_drewN _ ?_ | refine Below.alloc ?_ (by first | omega | (simp; done) | (simp; omega)) _ | refine Below.setCell ?_ (by first | (show _ ≤ _; omega) | (simp; done) | (simp; omega)) _)) (hb.mono (by first | omega | (simp; done) | (simp; omega)))
  have HB := Lib.hid HBq
  clear HBq hb
  have HV2 := Lib.hid (nv_of_list ho2 rfl)
  clear ho2
  go_wp2_with fail
  refine (equalNotes_any v1 v2 _ _ _ _ _ (by omega) HV1.out HV2.out).mono ?_
  rintro e w4 ⟨rfl, hb⟩
  have hszw4 := below_size hb
  try simp at hszw4
  have HNA := Lib.hid (HNA.out.below hb); have HNB := Lib.hid (HNB.out.below hb); have HV1 := Lib.hid (HV1.out.below hb)
  have HBq : Below w.heap.size w w4 := Below.trans (by repeat (first | exact Below.refl _ _ | exact HB.out | refine Below.drew ?_ | refine bel_drewN _ ?_ | refine Below.alloc ?_ (by first | omega | (simp; done) | (simp; omega)) _ | refine Below.setCell ?_ (by first | (show _ ≤ _; omega) | (simp; done) | (simp; omega)) _)) (hb.mono (by first | omega | (simp; done) | (simp; omega)))
  have HB := Lib.hid HBq
  clear HBq hb
  clear HV2
  go_wp2_with fail
  refine (matchI_any va vb _ _ LA LB A B t _ (by omega) (by omega) HNA.out HNB.out).mono ?_
  rintro e w5 ⟨v3, rfl, ho3, hb⟩
  have hszw5 := below_size hb
  try simp at hszw5
  have HNA := Lib.hid (HNA.out.below hb); have HNB := Lib.hid (HNB.out.below hb); have HV1 := Lib.hid (HV1.out.below hb)
  have HBq : Below w.heap.size w w5 := Below.trans (by repeat (first | exact Below.refl _ _ | exact HB.out | refine Below.drew ?_ | refine bel_drewN _ ?_ | refine Below.alloc ?_ (by first | omega | (simp; done) | (simp; omega)) _ | refine Below.setCell ?_ (by first | (show _ ≤ _; omega) | (simp; done) | (simp; omega)) _)) (hb.mono (by first | omega | (simp; done) | (simp; omega)))
  have HB := Lib.hid HBq
  clear HBq hb
  obtain ⟨l, hl⟩ : ∃ l, mtL A LA B LB t = l := ⟨_, rfl⟩
  rw [hl] at ho3 hM
  have HV3 := Lib.hid (iv_of_own ho3)
  clear ho3
  obtain ⟨N, hNe⟩ : ∃ N, (onL A LA B LB t).length = N := ⟨_, rfl⟩
  rw [hNe] at HV1 hN
  obtain ⟨M, hMe⟩ : ∃ M, l.length = M := ⟨_, rfl⟩
  rw [hMe] at HV3 hM
  have HF : Hid (M = 0 ∨ cnt l + N = LB) := Lib.hid (by
    cases hm : mtB A LA B LB t
    · left; rw [← hMe, ← hl, mtL_no hm]; rfl
    · right; rw [← hl, ← hNe, mtL_yes hm, onL_yes hm]; exact mt_all A B LB t LA)
  have HME := Lib.hid hMe
  obtain ⟨b1, c1, rfl, l1, m1, F1⟩ := HV1.out.form
  obtain ⟨bb, cb, rfl, lb, mb, Fb⟩ := HNB.out.form
  obtain ⟨b3, c3, rfl, l3, m3, F3⟩ := HV3.out.form
  have FV := Lib.hid F3
  clear hl hNe hMe F1 Fb F3
  go_wp2_with fail
  go_loop [8, 9] (fun n i => ∃ k : Nat, k ≤ M ∧ i = .int .i64 k ∧ n = .int .i64 (cnt (l.take k))) (fun _ i => M - (intOf i).toNat)
  case atStart => exact ⟨0, Nat.zero_le _, rfl, rfl⟩
  case round =>
    obtain ⟨k, hk, rfl, rfl⟩ := hrel
    have hck : cnt (l.take k) ≤ k := by
      unfold cnt
      have := List.length_filter_le (fun z => decide (0 ≤ z)) (l.take k)
      rw [List.length_take] at this
      omega
    by_cases hlt : k < M
    · obtain ⟨g, gcap, rfl, _, gl, ib⟩ := FV.out (by omega)
      have e0 := ib.cell hlt
      have HT : Hid (cnt (l.take (k + 1)) = if 0 ≤ rowI l k then cnt (l.take k) + 1 else cnt (l.take k)) := Lib.hid (by
        rw [take_snoc (by rw [HME.out]; exact hlt)]
        split
        · exact cnt_snoc_yes ‹_›
        · exact cnt_snoc_no ‹_›)
      obtain ⟨z, hz⟩ : ∃ z, rowI l k = z := ⟨_, rfl⟩
      obtain ⟨C, hC⟩ : ∃ C, cnt (l.take k) = C := ⟨_, rfl⟩
      rw [hz] at e0 HT
      rw [hC] at HT hck ⊢
      have i0 : (0 : Int) ≤ (k : Int) := by omega
      have i1 : (k : Int) < (M : Int) := by omega
      clear hz hC ib
      by_cases h0 : 0 ≤ z
      · have HT2 : Hid (cnt (l.take (k + 1)) = C + 1) := Lib.hid (by rw [HT.out, if_pos h0])
        go_wp2
        go_round
        case rel => exact ⟨k + 1, by omega, by go_num, by rw [HT2.out]; go_num⟩
        case measure => simp [intOf]; omega
      · have HT2 : Hid (cnt (l.take (k + 1)) = C) := Lib.hid (by rw [HT.out, if_neg h0])
        go_wp2
        go_round
        case rel => exact ⟨k + 1, by omega, by go_num, by rw [HT2.out]⟩
        case measure => simp [intOf]; omega
    · obtain rfl : M = k := by omega
      rw [List.take_of_length_le (by rw [HME.out]; exact Nat.le_refl _)] at hck ⊢
      obtain ⟨C, hC⟩ : ∃ C, cnt l = C := ⟨_, rfl⟩
      rw [hC] at hck HF ⊢
      clear hC
      by_cases h0 : M = 0
      · have e0 : ((M : Int) == 0) = true := by simp; omega
        clear h0
        go_wp2
        go_ret
        exact ⟨rfl, HB.out⟩
      · have e0 : ((M : Int) == 0) = false := by simp; omega
        have e1 : ((C : Int) + (N : Int) == (LB : Int)) = true := by have := HF.out; simp; omega
        clear h0
        go_wp2
        go_ret
        exact ⟨rfl, HB.out⟩
end Go.Proofs.Ytdifhjjkgcipaaa
