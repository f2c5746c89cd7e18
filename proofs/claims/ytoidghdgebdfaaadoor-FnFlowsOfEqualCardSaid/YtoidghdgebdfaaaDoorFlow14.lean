/- The laws over bonds: whole periods pay the same; higher rates pay more. -/
import Derived.Test.YtoidghdgebdfaaaDoorFlow13
namespace Go.Proofs.YtoidghdgebdfaaaDoor
open Go.RowKit
set_option linter.unusedVariables false
set_option maxRecDepth 100000 in
set_option maxHeartbeats 8000000 in
theorem fnFlowsOfEqual_walk (a : Option Addr) (len cap : Nat) (w : World) (hM : MD w) (hlc : len ≤ cap) (hc : cap ≤ maxLen) (h : IsBytes w a len) :
    Calls Tryd.prog 8 #[.slice a len cap] w fun ed w' => ed = .returned (.bool true) ∧ Below w.heap.size w w' := by
  by_cases hbig : 1048576 < len
  · exact big_FnFlowsOfEqual a len cap w hlc hc hbig
  have hM1 := hM.size
  have HM := Lib.hid hM
  have H := Lib.hid h
  clear h hM
  go_enter Tryd.func8, Tryd.ntmps8
  have HB := Lib.hid (Below.refl w.heap.size w)
  go_wp2_with fail
  refine (drawFlowsOf_any _ _ _ _ hlc hc H.out).mono ?_
  rintro e w1 ⟨s, e, m, r, rfl, hs, he, hm, hr, hb⟩
  have hszw1 := below_size hb
  try simp at hszw1
  have HBq : Below w.heap.size w w1 := Below.trans (by repeat (first | exact Below.refl _ _ | exact HB.out | refine Below.drew ?_ | refine bel_drewN _ ?_ | refine Below.alloc ?_ (by first | omega | (simp; done) | (simp; omega)) _ | refine Below.setCell ?_ (by first | (show _ ≤ _; omega) | (simp; done) | (simp; omega)) _)) (hb.mono (by first | omega | (simp; done) | (simp; omega)))
  have HB := Lib.hid HBq
  clear HBq hb
  have hr1 : r ≤ 3001 := hr.2
  have hr0 : -1 ≤ r := hr.1
  clear hs he hm hr
  have HI : Hid (∀ W : World, MD W → Calls Tryd.prog 18 #[.agg #[.int .i64 s, .int .i64 e, .int .i64 m, .int .i64 r]] W (FlOf s e m r W)) := Lib.hid fun W h => flowsOfI_any s e m r W h
  have HS : Hid (∀ W : World, MD W → Calls Tryd.prog 24 #[.agg #[.int .i64 s, .int .i64 e, .int .i64 m, .int .i64 r]] W (FlOf s e m r W)) := Lib.hid fun W h => flowsOfS_any s e m r W h
  have hle := (fl_ok s e m r).le
  unfold FlOf at HI HS
  by_cases h3 : flL s e m r < 3
  · generalize flF s e m r = A at *
    generalize flL s e m r = L at *
    go_wp2_with fail
    refine (HI.out _ (by exact HM.out.fwd (by repeat (first | exact Below.refl _ _ | exact HB.out.mono hM1 | refine Below.drew ?_ | refine bel_drewN _ ?_ | refine Below.alloc ?_ (by first | omega | (simp; done) | (simp; omega)) _ | refine Below.setCell ?_ (by first | (show _ ≤ _; omega) | (simp; done) | (simp; omega)) _)))).mono ?_
    rintro ed w2 ⟨v1, rfl, hv1, hb⟩
    have hzw2 := hb.size
    have b0_1 : w2.cell? ⟨w1.heap.size, 0, none⟩ = some (.int .i64 s) := bc hb (by first | (simp; done) | go_simp)
    have b1_1 : w2.cell? ⟨w1.heap.size, 1, none⟩ = some (.int .i64 e) := bc hb (by first | (simp; done) | go_simp)
    have b2_1 : w2.cell? ⟨w1.heap.size, 2, none⟩ = some (.int .i64 m) := bc hb (by first | (simp; done) | go_simp)
    have b3_1 : w2.cell? ⟨w1.heap.size, 3, none⟩ = some (.int .i64 r) := bc hb (by first | (simp; done) | go_simp)
    have bl_1 : w1.heap.size < w2.heap.size := cell_lt b0_1
    have HV1 := Lib.hid hv1
    have HBq : Below w.heap.size w w2 := (HB.out.alloc (by have := HB.out.size; omega) _).trans (hb.mono (by have := HB.out.size; simp; omega))
    have HB := Lib.hid HBq
    clear HBq hb
    go_wp2_with fail
    refine (HS.out _ (by exact HM.out.fwd (by repeat (first | exact Below.refl _ _ | exact HB.out.mono hM1 | refine Below.drew ?_ | refine bel_drewN _ ?_ | refine Below.alloc ?_ (by first | omega | (simp; done) | (simp; omega)) _ | refine Below.setCell ?_ (by first | (show _ ≤ _; omega) | (simp; done) | (simp; omega)) _)))).mono ?_
    rintro ed w3 ⟨v0, rfl, hv0, hb⟩
    have hzw3 := hb.size
    have b0_2 : w3.cell? ⟨w1.heap.size, 0, none⟩ = some (.int .i64 s) := bc hb (by first | exact b0_1 | exact ca b0_1 | exact ca (ca b0_1) | exact ca (ca (ca b0_1)) | (simp; done) | go_simp)
    have b1_2 : w3.cell? ⟨w1.heap.size, 1, none⟩ = some (.int .i64 e) := bc hb (by first | exact b1_1 | exact ca b1_1 | exact ca (ca b1_1) | exact ca (ca (ca b1_1)) | (simp; done) | go_simp)
    have b2_2 : w3.cell? ⟨w1.heap.size, 2, none⟩ = some (.int .i64 m) := bc hb (by first | exact b2_1 | exact ca b2_1 | exact ca (ca b2_1) | exact ca (ca (ca b2_1)) | (simp; done) | go_simp)
    have b3_2 : w3.cell? ⟨w1.heap.size, 3, none⟩ = some (.int .i64 r) := bc hb (by first | exact b3_1 | exact ca b3_1 | exact ca (ca b3_1) | exact ca (ca (ca b3_1)) | (simp; done) | go_simp)
    have bl_2 : w1.heap.size < w3.heap.size := cell_lt b0_2
    clear b0_1 b1_1 b2_1 b3_1 bl_1
    have HV1 := Lib.hid (HV1.out.below hb)
    have HV0 := Lib.hid hv0
    clear hv0
    have HBq : Below w.heap.size w w3 := HB.out.trans (hb.mono HB.out.size)
    have HB := Lib.hid HBq
    clear HBq hb
    rcases hv1 with ⟨rfl, va, vc, rfl, hvc⟩ | ⟨hpos, g, c, cap', rfl, b1, c1, c2, fb⟩
    · skip
      go_wp2_with fail
      refine (equalFlows_any _ _ _ _ _ _ _ (by omega) HV1.out HV0.out).mono ?_
      rintro ed w4 ⟨rfl, hb⟩
      have hzw4 := hb.size
      have b0_3 : w4.cell? ⟨w1.heap.size, 0, none⟩ = some (.int .i64 s) := bc hb (by first | exact b0_2 | exact ca b0_2 | exact ca (ca b0_2) | exact ca (ca (ca b0_2)) | (simp; done) | go_simp)
      have b1_3 : w4.cell? ⟨w1.heap.size, 1, none⟩ = some (.int .i64 e) := bc hb (by first | exact b1_2 | exact ca b1_2 | exact ca (ca b1_2) | exact ca (ca (ca b1_2)) | (simp; done) | go_simp)
      have b2_3 : w4.cell? ⟨w1.heap.size, 2, none⟩ = some (.int .i64 m) := bc hb (by first | exact b2_2 | exact ca b2_2 | exact ca (ca b2_2) | exact ca (ca (ca b2_2)) | (simp; done) | go_simp)
      have b3_3 : w4.cell? ⟨w1.heap.size, 3, none⟩ = some (.int .i64 r) := bc hb (by first | exact b3_2 | exact ca b3_2 | exact ca (ca b3_2) | exact ca (ca (ca b3_2)) | (simp; done) | go_simp)
      have bl_3 : w1.heap.size < w4.heap.size := cell_lt b0_3
      clear b0_2 b1_2 b2_2 b3_2 bl_2
      have HV1 := Lib.hid (HV1.out.below hb)
      have HBq : Below w.heap.size w w4 := HB.out.trans (hb.mono HB.out.size)
      have HB := Lib.hid HBq
      clear HBq hb
      go_wp2_with fail
      refine (HS.out _ (by exact HM.out.fwd (by repeat (first | exact Below.refl _ _ | exact HB.out.mono hM1 | refine Below.drew ?_ | refine bel_drewN _ ?_ | refine Below.alloc ?_ (by first | omega | (simp; done) | (simp; omega)) _ | refine Below.setCell ?_ (by first | (show _ ≤ _; omega) | (simp; done) | (simp; omega)) _)))).mono ?_
      rintro ed w5 ⟨v2, rfl, hv2, hb⟩
      have hzw5 := hb.size
      have b0_4 : w5.cell? ⟨w1.heap.size, 0, none⟩ = some (.int .i64 s) := bc hb (by first | exact b0_3 | exact ca b0_3 | exact ca (ca b0_3) | exact ca (ca (ca b0_3)) | (simp; done) | go_simp)
      have b1_4 : w5.cell? ⟨w1.heap.size, 1, none⟩ = some (.int .i64 e) := bc hb (by first | exact b1_3 | exact ca b1_3 | exact ca (ca b1_3) | exact ca (ca (ca b1_3)) | (simp; done) | go_simp)
      have b2_4 : w5.cell? ⟨w1.heap.size, 2, none⟩ = some (.int .i64 m) := bc hb (by first | exact b2_3 | exact ca b2_3 | exact ca (ca b2_3) | exact ca (ca (ca b2_3)) | (simp; done) | go_simp)
      have b3_4 : w5.cell? ⟨w1.heap.size, 3, none⟩ = some (.int .i64 r) := bc hb (by first | exact b3_3 | exact ca b3_3 | exact ca (ca b3_3) | exact ca (ca (ca b3_3)) | (simp; done) | go_simp)
      have bl_4 : w1.heap.size < w5.heap.size := cell_lt b0_4
      clear b0_3 b1_3 b2_3 b3_3 bl_3
      have HV1 := Lib.hid (HV1.out.below hb)
      have HV2 := Lib.hid hv2
      clear hv2
      have HBq : Below w.heap.size w w5 := HB.out.trans (hb.mono HB.out.size)
      have HB := Lib.hid HBq
      clear HBq hb
      go_wp2_with fail
      refine (equalFlows_any _ _ _ _ _ _ _ (by omega) HV1.out HV2.out).mono ?_
      rintro ed w6 ⟨rfl, hb⟩
      have hzw6 := hb.size
      have b0_5 : w6.cell? ⟨w1.heap.size, 0, none⟩ = some (.int .i64 s) := bc hb (by first | exact b0_4 | exact ca b0_4 | exact ca (ca b0_4) | exact ca (ca (ca b0_4)) | (simp; done) | go_simp)
      have b1_5 : w6.cell? ⟨w1.heap.size, 1, none⟩ = some (.int .i64 e) := bc hb (by first | exact b1_4 | exact ca b1_4 | exact ca (ca b1_4) | exact ca (ca (ca b1_4)) | (simp; done) | go_simp)
      have b2_5 : w6.cell? ⟨w1.heap.size, 2, none⟩ = some (.int .i64 m) := bc hb (by first | exact b2_4 | exact ca b2_4 | exact ca (ca b2_4) | exact ca (ca (ca b2_4)) | (simp; done) | go_simp)
      have b3_5 : w6.cell? ⟨w1.heap.size, 3, none⟩ = some (.int .i64 r) := bc hb (by first | exact b3_4 | exact ca b3_4 | exact ca (ca b3_4) | exact ca (ca (ca b3_4)) | (simp; done) | go_simp)
      have bl_5 : w1.heap.size < w6.heap.size := cell_lt b0_5
      clear b0_4 b1_4 b2_4 b3_4 bl_4
      have HBq : Below w.heap.size w w6 := HB.out.trans (hb.mono HB.out.size)
      have HB := Lib.hid HBq
      clear HBq hb
      go_wp2
      go_ret
      exact ⟨ret_bool (by first | rfl | (simp; done) | (simp; omega)), HB.out⟩
    · have hi3 : (L : Int) < 3 := by omega
      have hd3 : decide ((L : Int) < 3) = true := decide_eq_true hi3
      have hd4 : decide (L < 3) = true := decide_eq_true h3
      clear fb
      go_wp2_with fail
      refine (equalFlows_any _ _ _ _ _ _ _ (by omega) HV1.out HV0.out).mono ?_
      rintro ed w4 ⟨rfl, hb⟩
      have hzw4 := hb.size
      have b0_3 : w4.cell? ⟨w1.heap.size, 0, none⟩ = some (.int .i64 s) := bc hb (by first | exact b0_2 | exact ca b0_2 | exact ca (ca b0_2) | exact ca (ca (ca b0_2)) | (simp; done) | go_simp)
      have b1_3 : w4.cell? ⟨w1.heap.size, 1, none⟩ = some (.int .i64 e) := bc hb (by first | exact b1_2 | exact ca b1_2 | exact ca (ca b1_2) | exact ca (ca (ca b1_2)) | (simp; done) | go_simp)
      have b2_3 : w4.cell? ⟨w1.heap.size, 2, none⟩ = some (.int .i64 m) := bc hb (by first | exact b2_2 | exact ca b2_2 | exact ca (ca b2_2) | exact ca (ca (ca b2_2)) | (simp; done) | go_simp)
      have b3_3 : w4.cell? ⟨w1.heap.size, 3, none⟩ = some (.int .i64 r) := bc hb (by first | exact b3_2 | exact ca b3_2 | exact ca (ca b3_2) | exact ca (ca (ca b3_2)) | (simp; done) | go_simp)
      have bl_3 : w1.heap.size < w4.heap.size := cell_lt b0_3
      clear b0_2 b1_2 b2_2 b3_2 bl_2
      have HV1 := Lib.hid (HV1.out.below hb)
      have HBq : Below w.heap.size w w4 := HB.out.trans (hb.mono HB.out.size)
      have HB := Lib.hid HBq
      clear HBq hb
      go_wp2_with fail
      refine (HS.out _ (by exact HM.out.fwd (by repeat (first | exact Below.refl _ _ | exact HB.out.mono hM1 | refine Below.drew ?_ | refine bel_drewN _ ?_ | refine Below.alloc ?_ (by first | omega | (simp; done) | (simp; omega)) _ | refine Below.setCell ?_ (by first | (show _ ≤ _; omega) | (simp; done) | (simp; omega)) _)))).mono ?_
      rintro ed w5 ⟨v2, rfl, hv2, hb⟩
      have hzw5 := hb.size
      have b0_4 : w5.cell? ⟨w1.heap.size, 0, none⟩ = some (.int .i64 s) := bc hb (by first | exact b0_3 | exact ca b0_3 | exact ca (ca b0_3) | exact ca (ca (ca b0_3)) | (simp; done) | go_simp)
      have b1_4 : w5.cell? ⟨w1.heap.size, 1, none⟩ = some (.int .i64 e) := bc hb (by first | exact b1_3 | exact ca b1_3 | exact ca (ca b1_3) | exact ca (ca (ca b1_3)) | (simp; done) | go_simp)
      have b2_4 : w5.cell? ⟨w1.heap.size, 2, none⟩ = some (.int .i64 m) := bc hb (by first | exact b2_3 | exact ca b2_3 | exact ca (ca b2_3) | exact ca (ca (ca b2_3)) | (simp; done) | go_simp)
      have b3_4 : w5.cell? ⟨w1.heap.size, 3, none⟩ = some (.int .i64 r) := bc hb (by first | exact b3_3 | exact ca b3_3 | exact ca (ca b3_3) | exact ca (ca (ca b3_3)) | (simp; done) | go_simp)
      have bl_4 : w1.heap.size < w5.heap.size := cell_lt b0_4
      clear b0_3 b1_3 b2_3 b3_3 bl_3
      have HV1 := Lib.hid (HV1.out.below hb)
      have HV2 := Lib.hid hv2
      clear hv2
      have HBq : Below w.heap.size w w5 := HB.out.trans (hb.mono HB.out.size)
      have HB := Lib.hid HBq
      clear HBq hb
      go_wp2_with fail
      refine (equalFlows_any _ _ _ _ _ _ _ (by omega) HV1.out HV2.out).mono ?_
      rintro ed w6 ⟨rfl, hb⟩
      have hzw6 := hb.size
      have b0_5 : w6.cell? ⟨w1.heap.size, 0, none⟩ = some (.int .i64 s) := bc hb (by first | exact b0_4 | exact ca b0_4 | exact ca (ca b0_4) | exact ca (ca (ca b0_4)) | (simp; done) | go_simp)
      have b1_5 : w6.cell? ⟨w1.heap.size, 1, none⟩ = some (.int .i64 e) := bc hb (by first | exact b1_4 | exact ca b1_4 | exact ca (ca b1_4) | exact ca (ca (ca b1_4)) | (simp; done) | go_simp)
      have b2_5 : w6.cell? ⟨w1.heap.size, 2, none⟩ = some (.int .i64 m) := bc hb (by first | exact b2_4 | exact ca b2_4 | exact ca (ca b2_4) | exact ca (ca (ca b2_4)) | (simp; done) | go_simp)
      have b3_5 : w6.cell? ⟨w1.heap.size, 3, none⟩ = some (.int .i64 r) := bc hb (by first | exact b3_4 | exact ca b3_4 | exact ca (ca b3_4) | exact ca (ca (ca b3_4)) | (simp; done) | go_simp)
      have bl_5 : w1.heap.size < w6.heap.size := cell_lt b0_5
      clear b0_4 b1_4 b2_4 b3_4 bl_4
      have HBq : Below w.heap.size w w6 := HB.out.trans (hb.mono HB.out.size)
      have HB := Lib.hid HBq
      clear HBq hb
      go_wp2
      go_ret
      exact ⟨ret_bool (by first | rfl | (simp; done) | (simp; omega)), HB.out⟩
  · have hbd : bdB s e m r = true := by
      cases q : bdB s e m r
      · rw [flL_no q] at h3; omega
      · rfl
    have hL := flL_yes hbd
    have HMID : Hid (∀ j, 1 ≤ j → j + 1 < flL s e m r → (flF s e m r j).2 = cFull m r) := Lib.hid fun j a b => fl_mid a (by rw [← hL]; exact b)
    obtain ⟨l, hl⟩ : ∃ l, flL s e m r = l + 1 := ⟨flL s e m r - 1, by omega⟩
    have HLAST : Hid ((flF s e m r l).2 = cFull m r + 10000) := Lib.hid (fl_last (by rw [← hL]; exact hl) (by omega))
    have hfst := fl_first hbd (by rw [← hL]; omega)
    obtain ⟨hrr, hm, _⟩ := bd_facts hbd
    obtain ⟨_, hu0, hu1⟩ := cFull_bd hm hrr
    clear hL hm hrr
    rw [hl] at HI HS HMID hle h3
    clear hl
    generalize flF s e m r = A at *
    generalize cFull m r = U at *
    have hl2 : 2 ≤ l := by omega
    have hd3 : decide ((l : Int) + 1 < 3) = false := decide_eq_false (by omega)
    have hd4 : decide (l + 1 < 3) = false := decide_eq_false (by omega)
    have hi3 : (2 : Int) ≤ (l : Int) := by omega
    go_wp2_with fail
    refine (HI.out _ (by exact HM.out.fwd (by repeat (first | exact Below.refl _ _ | exact HB.out.mono hM1 | refine Below.drew ?_ | refine bel_drewN _ ?_ | refine Below.alloc ?_ (by first | omega | (simp; done) | (simp; omega)) _ | refine Below.setCell ?_ (by first | (show _ ≤ _; omega) | (simp; done) | (simp; omega)) _)))).mono ?_
    rintro ed w2 ⟨v1, rfl, hv1, hb⟩
    have hzw2 := hb.size
    have b0_1 : w2.cell? ⟨w1.heap.size, 0, none⟩ = some (.int .i64 s) := bc hb (by first | (simp; done) | go_simp)
    have b1_1 : w2.cell? ⟨w1.heap.size, 1, none⟩ = some (.int .i64 e) := bc hb (by first | (simp; done) | go_simp)
    have b2_1 : w2.cell? ⟨w1.heap.size, 2, none⟩ = some (.int .i64 m) := bc hb (by first | (simp; done) | go_simp)
    have b3_1 : w2.cell? ⟨w1.heap.size, 3, none⟩ = some (.int .i64 r) := bc hb (by first | (simp; done) | go_simp)
    have bl_1 : w1.heap.size < w2.heap.size := cell_lt b0_1
    have HV1 := Lib.hid hv1
    have HBq : Below w.heap.size w w2 := (HB.out.alloc (by have := HB.out.size; omega) _).trans (hb.mono (by have := HB.out.size; simp; omega))
    have HB := Lib.hid HBq
    clear HBq hb
    go_wp2_with fail
    refine (HS.out _ (by exact HM.out.fwd (by repeat (first | exact Below.refl _ _ | exact HB.out.mono hM1 | refine Below.drew ?_ | refine bel_drewN _ ?_ | refine Below.alloc ?_ (by first | omega | (simp; done) | (simp; omega)) _ | refine Below.setCell ?_ (by first | (show _ ≤ _; omega) | (simp; done) | (simp; omega)) _)))).mono ?_
    rintro ed w3 ⟨v0, rfl, hv0, hb⟩
    have hzw3 := hb.size
    have b0_2 : w3.cell? ⟨w1.heap.size, 0, none⟩ = some (.int .i64 s) := bc hb (by first | exact b0_1 | exact ca b0_1 | exact ca (ca b0_1) | exact ca (ca (ca b0_1)) | (simp; done) | go_simp)
    have b1_2 : w3.cell? ⟨w1.heap.size, 1, none⟩ = some (.int .i64 e) := bc hb (by first | exact b1_1 | exact ca b1_1 | exact ca (ca b1_1) | exact ca (ca (ca b1_1)) | (simp; done) | go_simp)
    have b2_2 : w3.cell? ⟨w1.heap.size, 2, none⟩ = some (.int .i64 m) := bc hb (by first | exact b2_1 | exact ca b2_1 | exact ca (ca b2_1) | exact ca (ca (ca b2_1)) | (simp; done) | go_simp)
    have b3_2 : w3.cell? ⟨w1.heap.size, 3, none⟩ = some (.int .i64 r) := bc hb (by first | exact b3_1 | exact ca b3_1 | exact ca (ca b3_1) | exact ca (ca (ca b3_1)) | (simp; done) | go_simp)
    have bl_2 : w1.heap.size < w3.heap.size := cell_lt b0_2
    clear b0_1 b1_1 b2_1 b3_1 bl_1
    have HV1 := Lib.hid (HV1.out.below hb)
    have HV0 := Lib.hid hv0
    clear hv0
    have HBq : Below w.heap.size w w3 := HB.out.trans (hb.mono HB.out.size)
    have HB := Lib.hid HBq
    clear HBq hb
    rcases hv1 with ⟨h0, _⟩ | ⟨_, g, c, cap', rfl, b1, c1, c2, fb⟩
    · omega
    clear fb
    go_wp2_with fail
    refine (equalFlows_any _ _ _ _ _ _ _ (by omega) HV1.out HV0.out).mono ?_
    rintro ed w4 ⟨rfl, hb⟩
    have hzw4 := hb.size
    have b0_3 : w4.cell? ⟨w1.heap.size, 0, none⟩ = some (.int .i64 s) := bc hb (by first | exact b0_2 | exact ca b0_2 | exact ca (ca b0_2) | exact ca (ca (ca b0_2)) | (simp; done) | go_simp)
    have b1_3 : w4.cell? ⟨w1.heap.size, 1, none⟩ = some (.int .i64 e) := bc hb (by first | exact b1_2 | exact ca b1_2 | exact ca (ca b1_2) | exact ca (ca (ca b1_2)) | (simp; done) | go_simp)
    have b2_3 : w4.cell? ⟨w1.heap.size, 2, none⟩ = some (.int .i64 m) := bc hb (by first | exact b2_2 | exact ca b2_2 | exact ca (ca b2_2) | exact ca (ca (ca b2_2)) | (simp; done) | go_simp)
    have b3_3 : w4.cell? ⟨w1.heap.size, 3, none⟩ = some (.int .i64 r) := bc hb (by first | exact b3_2 | exact ca b3_2 | exact ca (ca b3_2) | exact ca (ca (ca b3_2)) | (simp; done) | go_simp)
    have bl_3 : w1.heap.size < w4.heap.size := cell_lt b0_3
    clear b0_2 b1_2 b2_2 b3_2 bl_2
    have HV1 := Lib.hid (HV1.out.below hb)
    have HBq : Below w.heap.size w w4 := HB.out.trans (hb.mono HB.out.size)
    have HB := Lib.hid HBq
    clear HBq hb
    rcases HV1.out with ⟨h0, _⟩ | ⟨_, g', c', cap'', hq, b1', c1', c2', fb⟩
    · omega
    cases hq
    have hg := fb.lt
    have FB1 := Lib.hid fb
    clear fb
    go_wp2_with fail
    go_loopw [5] (fun i wr => ∃ t : Nat, 1 ≤ t ∧ t ≤ l ∧ i = .int .i64 t ∧ Below w4.heap.size w4 wr) (fun i _ => l - (intOf i).toNat)
    case atStart => exact ⟨1, by omega, by omega, rfl, Below.refl _ _⟩
    case round =>
      obtain ⟨t, ht1, ht, rfl, hbel⟩ := hrel
      have HBL := Lib.hid hbel
      have FBr := FB1.out.fwd hbel hg
      have hszr := hbel.size
      obtain ⟨⟨_, r1⟩, _⟩ := FBr.cells (show 1 < l + 1 by omega)
      rw [HMID.out 1 (by omega) (by omega)] at r1
      by_cases hlt : t < l
      · obtain ⟨⟨p0, p1⟩, _⟩ := FBr.cells (show t < l + 1 by omega)
        rw [HMID.out t ht1 (by omega)] at p1
        have i0 : (0 : Int) ≤ (t : Int) := by omega
        have i1 : (t : Int) < (l : Int) + 1 := by omega
        generalize (A t).1 = x at *
        clear hbel FBr
        go_wp2_with fail
        go_quiet (fail)
        go_wp2
        go_roundw
        case rel => exact ⟨t + 1, by omega, by omega, by go_num, bel_drewN _ HBL.out⟩
        case measure => first | (simp [intOf]; done) | (simp [intOf]; omega)
      · obtain rfl : t = l := by omega
        obtain ⟨⟨_, p1⟩, _⟩ := FBr.cells (show t < t + 1 by omega)
        rw [HLAST.out] at p1
        obtain ⟨⟨_, f1⟩, _⟩ := FBr.cells (show 0 < t + 1 by omega)
        simp only [Nat.zero_mul, Nat.zero_add, Nat.one_mul] at f1 r1
        have wr1 : IntKind.i64.wrap ((t : Int) + 1 - 1) = (t : Int) := by rw [IntWalk.i64_in _ (by omega)]; omega
        have wr2 : IntKind.i64.wrap (U + 10000) = U + 10000 := IntWalk.i64_in _ (by omega)
        have dd : decide ((A 0).2 ≤ U) = true := decide_eq_true hfst
        generalize (A 0).2 = y at *
        have i0 : (0 : Int) ≤ (t : Int) := by omega
        clear hbel FBr
        go_wp2_with fail
        go_quiet (fail)
        clear wr1 wr2
        go_wp2
        go_ret
        exact ⟨ret_bool (by first | rfl | (simp; done) | (simp; omega)), HB.out.trans ((bel_drewN _ HBL.out).mono HB.out.size)⟩
set_option maxRecDepth 100000 in
set_option maxHeartbeats 8000000 in
theorem fnFlowsOfRate_walk (a : Option Addr) (len cap : Nat) (w : World) (hM : MD w) (hlc : len ≤ cap) (hc : cap ≤ maxLen) (h : IsBytes w a len) :
    Calls Tryd.prog 11 #[.slice a len cap] w fun ed w' => ed = .returned (.bool true) ∧ Below w.heap.size w w' := by
  by_cases hbig : 1048576 < len
  · exact big_FnFlowsOfRate a len cap w hlc hc hbig
  have hM1 := hM.size
  have HM := Lib.hid hM
  have H := Lib.hid h
  clear h hM
  go_enter Tryd.func11, Tryd.ntmps11
  have HB := Lib.hid (Below.refl w.heap.size w)
  go_wp2_with fail
  refine (drawFlowsOf_any _ _ _ _ hlc hc H.out).mono ?_
  rintro e w1 ⟨s, e, m, r, rfl, hs, he, hm, hr, hb⟩
  have hszw1 := below_size hb
  try simp at hszw1
  have HBq : Below w.heap.size w w1 := Below.trans (by repeat (first | exact Below.refl _ _ | exact HB.out | refine Below.drew ?_ | refine bel_drewN _ ?_ | refine Below.alloc ?_ (by first | omega | (simp; done) | (simp; omega)) _ | refine Below.setCell ?_ (by first | (show _ ≤ _; omega) | (simp; done) | (simp; omega)) _)) (hb.mono (by first | omega | (simp; done) | (simp; omega)))
  have HB := Lib.hid HBq
  clear HBq hb
  have hr1 : r ≤ 3001 := hr.2
  have hr0 : -1 ≤ r := hr.1
  clear hs he hm hr
  have HI : Hid (∀ W : World, MD W → Calls Tryd.prog 18 #[.agg #[.int .i64 s, .int .i64 e, .int .i64 m, .int .i64 r]] W (FlOf s e m r W)) := Lib.hid fun W h => flowsOfI_any s e m r W h
  have HS : Hid (∀ W : World, MD W → Calls Tryd.prog 24 #[.agg #[.int .i64 s, .int .i64 e, .int .i64 m, .int .i64 r]] W (FlOf s e m r W)) := Lib.hid fun W h => flowsOfS_any s e m r W h
  have hle := (fl_ok s e m r).le
  unfold FlOf at HI HS
  have hcase : bdB s e m r = false ∨ (bdB s e m r = true ∧ r = 3000) ∨ (bdB s e m r = true ∧ ¬ r = 3000) := by
    cases q : bdB s e m r
    · exact .inl rfl
    · by_cases q2 : r = 3000
      · exact .inr (.inl ⟨rfl, q2⟩)
      · exact .inr (.inr ⟨rfl, q2⟩)
  rcases hcase with hbd | ⟨hbd, h30⟩ | ⟨hbd, h30⟩
  · have hL0 := flL_no hbd
    rw [hL0] at HI HS
    generalize flF s e m r = A at *
    clear hL0 hle
    go_wp2_with fail
    refine (HI.out _ (by exact HM.out.fwd (by repeat (first | exact Below.refl _ _ | exact HB.out.mono hM1 | refine Below.drew ?_ | refine bel_drewN _ ?_ | refine Below.alloc ?_ (by first | omega | (simp; done) | (simp; omega)) _ | refine Below.setCell ?_ (by first | (show _ ≤ _; omega) | (simp; done) | (simp; omega)) _)))).mono ?_
    rintro ed w2 ⟨v1, rfl, hv1, hb⟩
    have hzw2 := hb.size
    have b0_1 : w2.cell? ⟨w1.heap.size, 0, none⟩ = some (.int .i64 s) := bc hb (by first | (simp; done) | go_simp)
    have b1_1 : w2.cell? ⟨w1.heap.size, 1, none⟩ = some (.int .i64 e) := bc hb (by first | (simp; done) | go_simp)
    have b2_1 : w2.cell? ⟨w1.heap.size, 2, none⟩ = some (.int .i64 m) := bc hb (by first | (simp; done) | go_simp)
    have b3_1 : w2.cell? ⟨w1.heap.size, 3, none⟩ = some (.int .i64 r) := bc hb (by first | (simp; done) | go_simp)
    have bl_1 : w1.heap.size < w2.heap.size := cell_lt b0_1
    have HV1 := Lib.hid hv1
    have HBq : Below w.heap.size w w2 := (HB.out.alloc (by have := HB.out.size; omega) _).trans (hb.mono (by have := HB.out.size; simp; omega))
    have HB := Lib.hid HBq
    clear HBq hb
    go_wp2_with fail
    refine (HS.out _ (by exact HM.out.fwd (by repeat (first | exact Below.refl _ _ | exact HB.out.mono hM1 | refine Below.drew ?_ | refine bel_drewN _ ?_ | refine Below.alloc ?_ (by first | omega | (simp; done) | (simp; omega)) _ | refine Below.setCell ?_ (by first | (show _ ≤ _; omega) | (simp; done) | (simp; omega)) _)))).mono ?_
    rintro ed w3 ⟨v0, rfl, hv0, hb⟩
    have hzw3 := hb.size
    have b0_2 : w3.cell? ⟨w1.heap.size, 0, none⟩ = some (.int .i64 s) := bc hb (by first | exact b0_1 | exact ca b0_1 | exact ca (ca b0_1) | exact ca (ca (ca b0_1)) | (simp; done) | go_simp)
    have b1_2 : w3.cell? ⟨w1.heap.size, 1, none⟩ = some (.int .i64 e) := bc hb (by first | exact b1_1 | exact ca b1_1 | exact ca (ca b1_1) | exact ca (ca (ca b1_1)) | (simp; done) | go_simp)
    have b2_2 : w3.cell? ⟨w1.heap.size, 2, none⟩ = some (.int .i64 m) := bc hb (by first | exact b2_1 | exact ca b2_1 | exact ca (ca b2_1) | exact ca (ca (ca b2_1)) | (simp; done) | go_simp)
    have b3_2 : w3.cell? ⟨w1.heap.size, 3, none⟩ = some (.int .i64 r) := bc hb (by first | exact b3_1 | exact ca b3_1 | exact ca (ca b3_1) | exact ca (ca (ca b3_1)) | (simp; done) | go_simp)
    have bl_2 : w1.heap.size < w3.heap.size := cell_lt b0_2
    clear b0_1 b1_1 b2_1 b3_1 bl_1
    have HV1 := Lib.hid (HV1.out.below hb)
    have HV0 := Lib.hid hv0
    clear hv0
    have HBq : Below w.heap.size w w3 := HB.out.trans (hb.mono HB.out.size)
    have HB := Lib.hid HBq
    clear HBq hb
    rcases hv1 with ⟨_, va, vc, rfl, hvc⟩ | ⟨h0, _⟩
    · skip
      go_wp2_with fail
      refine (equalFlows_any _ _ _ _ _ _ _ (by omega) HV1.out HV0.out).mono ?_
      rintro ed w4 ⟨rfl, hb⟩
      have hzw4 := hb.size
      have b0_3 : w4.cell? ⟨w1.heap.size, 0, none⟩ = some (.int .i64 s) := bc hb (by first | exact b0_2 | exact ca b0_2 | exact ca (ca b0_2) | exact ca (ca (ca b0_2)) | (simp; done) | go_simp)
      have b1_3 : w4.cell? ⟨w1.heap.size, 1, none⟩ = some (.int .i64 e) := bc hb (by first | exact b1_2 | exact ca b1_2 | exact ca (ca b1_2) | exact ca (ca (ca b1_2)) | (simp; done) | go_simp)
      have b2_3 : w4.cell? ⟨w1.heap.size, 2, none⟩ = some (.int .i64 m) := bc hb (by first | exact b2_2 | exact ca b2_2 | exact ca (ca b2_2) | exact ca (ca (ca b2_2)) | (simp; done) | go_simp)
      have b3_3 : w4.cell? ⟨w1.heap.size, 3, none⟩ = some (.int .i64 r) := bc hb (by first | exact b3_2 | exact ca b3_2 | exact ca (ca b3_2) | exact ca (ca (ca b3_2)) | (simp; done) | go_simp)
      have bl_3 : w1.heap.size < w4.heap.size := cell_lt b0_3
      clear b0_2 b1_2 b2_2 b3_2 bl_2
      have HV1 := Lib.hid (HV1.out.below hb)
      have HBq : Below w.heap.size w w4 := HB.out.trans (hb.mono HB.out.size)
      have HB := Lib.hid HBq
      clear HBq hb
      go_wp2_with fail
      refine (HS.out _ (by exact HM.out.fwd (by repeat (first | exact Below.refl _ _ | exact HB.out.mono hM1 | refine Below.drew ?_ | refine bel_drewN _ ?_ | refine Below.alloc ?_ (by first | omega | (simp; done) | (simp; omega)) _ | refine Below.setCell ?_ (by first | (show _ ≤ _; omega) | (simp; done) | (simp; omega)) _)))).mono ?_
      rintro ed w5 ⟨v2, rfl, hv2, hb⟩
      have hzw5 := hb.size
      have b0_4 : w5.cell? ⟨w1.heap.size, 0, none⟩ = some (.int .i64 s) := bc hb (by first | exact b0_3 | exact ca b0_3 | exact ca (ca b0_3) | exact ca (ca (ca b0_3)) | (simp; done) | go_simp)
      have b1_4 : w5.cell? ⟨w1.heap.size, 1, none⟩ = some (.int .i64 e) := bc hb (by first | exact b1_3 | exact ca b1_3 | exact ca (ca b1_3) | exact ca (ca (ca b1_3)) | (simp; done) | go_simp)
      have b2_4 : w5.cell? ⟨w1.heap.size, 2, none⟩ = some (.int .i64 m) := bc hb (by first | exact b2_3 | exact ca b2_3 | exact ca (ca b2_3) | exact ca (ca (ca b2_3)) | (simp; done) | go_simp)
      have b3_4 : w5.cell? ⟨w1.heap.size, 3, none⟩ = some (.int .i64 r) := bc hb (by first | exact b3_3 | exact ca b3_3 | exact ca (ca b3_3) | exact ca (ca (ca b3_3)) | (simp; done) | go_simp)
      have bl_4 : w1.heap.size < w5.heap.size := cell_lt b0_4
      clear b0_3 b1_3 b2_3 b3_3 bl_3
      have HV1 := Lib.hid (HV1.out.below hb)
      have HV2 := Lib.hid hv2
      clear hv2
      have HBq : Below w.heap.size w w5 := HB.out.trans (hb.mono HB.out.size)
      have HB := Lib.hid HBq
      clear HBq hb
      go_wp2_with fail
      refine (equalFlows_any _ _ _ _ _ _ _ (by omega) HV1.out HV2.out).mono ?_
      rintro ed w6 ⟨rfl, hb⟩
      have hzw6 := hb.size
      have b0_5 : w6.cell? ⟨w1.heap.size, 0, none⟩ = some (.int .i64 s) := bc hb (by first | exact b0_4 | exact ca b0_4 | exact ca (ca b0_4) | exact ca (ca (ca b0_4)) | (simp; done) | go_simp)
      have b1_5 : w6.cell? ⟨w1.heap.size, 1, none⟩ = some (.int .i64 e) := bc hb (by first | exact b1_4 | exact ca b1_4 | exact ca (ca b1_4) | exact ca (ca (ca b1_4)) | (simp; done) | go_simp)
      have b2_5 : w6.cell? ⟨w1.heap.size, 2, none⟩ = some (.int .i64 m) := bc hb (by first | exact b2_4 | exact ca b2_4 | exact ca (ca b2_4) | exact ca (ca (ca b2_4)) | (simp; done) | go_simp)
      have b3_5 : w6.cell? ⟨w1.heap.size, 3, none⟩ = some (.int .i64 r) := bc hb (by first | exact b3_4 | exact ca b3_4 | exact ca (ca b3_4) | exact ca (ca (ca b3_4)) | (simp; done) | go_simp)
      have bl_5 : w1.heap.size < w6.heap.size := cell_lt b0_5
      clear b0_4 b1_4 b2_4 b3_4 bl_4
      have HBq : Below w.heap.size w w6 := HB.out.trans (hb.mono HB.out.size)
      have HB := Lib.hid HBq
      clear HBq hb
      go_wp2
      go_ret
      exact ⟨ret_bool (by first | rfl | (simp; done) | (simp; omega)), HB.out⟩
    · omega
  · have hd30 : (r == 3000) = true := by simpa using h30
    clear h30
    have hpos : 1 ≤ flL s e m r := by rw [flL_yes hbd]; exact (bd_facts hbd).2.2.2.2.2.1
    generalize flF s e m r = A at *
    generalize flL s e m r = L at *
    have hLp : (L == 0) = false := by simp; omega
    clear hbd
    go_wp2_with fail
    refine (HI.out _ (by exact HM.out.fwd (by repeat (first | exact Below.refl _ _ | exact HB.out.mono hM1 | refine Below.drew ?_ | refine bel_drewN _ ?_ | refine Below.alloc ?_ (by first | omega | (simp; done) | (simp; omega)) _ | refine Below.setCell ?_ (by first | (show _ ≤ _; omega) | (simp; done) | (simp; omega)) _)))).mono ?_
    rintro ed w2 ⟨v1, rfl, hv1, hb⟩
    have hzw2 := hb.size
    have b0_1 : w2.cell? ⟨w1.heap.size, 0, none⟩ = some (.int .i64 s) := bc hb (by first | (simp; done) | go_simp)
    have b1_1 : w2.cell? ⟨w1.heap.size, 1, none⟩ = some (.int .i64 e) := bc hb (by first | (simp; done) | go_simp)
    have b2_1 : w2.cell? ⟨w1.heap.size, 2, none⟩ = some (.int .i64 m) := bc hb (by first | (simp; done) | go_simp)
    have b3_1 : w2.cell? ⟨w1.heap.size, 3, none⟩ = some (.int .i64 r) := bc hb (by first | (simp; done) | go_simp)
    have bl_1 : w1.heap.size < w2.heap.size := cell_lt b0_1
    have HV1 := Lib.hid hv1
    have HBq : Below w.heap.size w w2 := (HB.out.alloc (by have := HB.out.size; omega) _).trans (hb.mono (by have := HB.out.size; simp; omega))
    have HB := Lib.hid HBq
    clear HBq hb
    go_wp2_with fail
    refine (HS.out _ (by exact HM.out.fwd (by repeat (first | exact Below.refl _ _ | exact HB.out.mono hM1 | refine Below.drew ?_ | refine bel_drewN _ ?_ | refine Below.alloc ?_ (by first | omega | (simp; done) | (simp; omega)) _ | refine Below.setCell ?_ (by first | (show _ ≤ _; omega) | (simp; done) | (simp; omega)) _)))).mono ?_
    rintro ed w3 ⟨v0, rfl, hv0, hb⟩
    have hzw3 := hb.size
    have b0_2 : w3.cell? ⟨w1.heap.size, 0, none⟩ = some (.int .i64 s) := bc hb (by first | exact b0_1 | exact ca b0_1 | exact ca (ca b0_1) | exact ca (ca (ca b0_1)) | (simp; done) | go_simp)
    have b1_2 : w3.cell? ⟨w1.heap.size, 1, none⟩ = some (.int .i64 e) := bc hb (by first | exact b1_1 | exact ca b1_1 | exact ca (ca b1_1) | exact ca (ca (ca b1_1)) | (simp; done) | go_simp)
    have b2_2 : w3.cell? ⟨w1.heap.size, 2, none⟩ = some (.int .i64 m) := bc hb (by first | exact b2_1 | exact ca b2_1 | exact ca (ca b2_1) | exact ca (ca (ca b2_1)) | (simp; done) | go_simp)
    have b3_2 : w3.cell? ⟨w1.heap.size, 3, none⟩ = some (.int .i64 r) := bc hb (by first | exact b3_1 | exact ca b3_1 | exact ca (ca b3_1) | exact ca (ca (ca b3_1)) | (simp; done) | go_simp)
    have bl_2 : w1.heap.size < w3.heap.size := cell_lt b0_2
    clear b0_1 b1_1 b2_1 b3_1 bl_1
    have HV1 := Lib.hid (HV1.out.below hb)
    have HV0 := Lib.hid hv0
    clear hv0
    have HBq : Below w.heap.size w w3 := HB.out.trans (hb.mono HB.out.size)
    have HB := Lib.hid HBq
    clear HBq hb
    rcases hv1 with ⟨h0, _⟩ | ⟨_, g, c, cap', rfl, b1, c1, c2, fb⟩
    · omega
    clear fb
    go_wp2_with fail
    refine (equalFlows_any _ _ _ _ _ _ _ (by omega) HV1.out HV0.out).mono ?_
    rintro ed w4 ⟨rfl, hb⟩
    have hzw4 := hb.size
    have b0_3 : w4.cell? ⟨w1.heap.size, 0, none⟩ = some (.int .i64 s) := bc hb (by first | exact b0_2 | exact ca b0_2 | exact ca (ca b0_2) | exact ca (ca (ca b0_2)) | (simp; done) | go_simp)
    have b1_3 : w4.cell? ⟨w1.heap.size, 1, none⟩ = some (.int .i64 e) := bc hb (by first | exact b1_2 | exact ca b1_2 | exact ca (ca b1_2) | exact ca (ca (ca b1_2)) | (simp; done) | go_simp)
    have b2_3 : w4.cell? ⟨w1.heap.size, 2, none⟩ = some (.int .i64 m) := bc hb (by first | exact b2_2 | exact ca b2_2 | exact ca (ca b2_2) | exact ca (ca (ca b2_2)) | (simp; done) | go_simp)
    have b3_3 : w4.cell? ⟨w1.heap.size, 3, none⟩ = some (.int .i64 r) := bc hb (by first | exact b3_2 | exact ca b3_2 | exact ca (ca b3_2) | exact ca (ca (ca b3_2)) | (simp; done) | go_simp)
    have bl_3 : w1.heap.size < w4.heap.size := cell_lt b0_3
    clear b0_2 b1_2 b2_2 b3_2 bl_2
    have HV1 := Lib.hid (HV1.out.below hb)
    have HBq : Below w.heap.size w w4 := HB.out.trans (hb.mono HB.out.size)
    have HB := Lib.hid HBq
    clear HBq hb
    go_wp2_with fail
    refine (HS.out _ (by exact HM.out.fwd (by repeat (first | exact Below.refl _ _ | exact HB.out.mono hM1 | refine Below.drew ?_ | refine bel_drewN _ ?_ | refine Below.alloc ?_ (by first | omega | (simp; done) | (simp; omega)) _ | refine Below.setCell ?_ (by first | (show _ ≤ _; omega) | (simp; done) | (simp; omega)) _)))).mono ?_
    rintro ed w5 ⟨v2, rfl, hv2, hb⟩
    have hzw5 := hb.size
    have b0_4 : w5.cell? ⟨w1.heap.size, 0, none⟩ = some (.int .i64 s) := bc hb (by first | exact b0_3 | exact ca b0_3 | exact ca (ca b0_3) | exact ca (ca (ca b0_3)) | (simp; done) | go_simp)
    have b1_4 : w5.cell? ⟨w1.heap.size, 1, none⟩ = some (.int .i64 e) := bc hb (by first | exact b1_3 | exact ca b1_3 | exact ca (ca b1_3) | exact ca (ca (ca b1_3)) | (simp; done) | go_simp)
    have b2_4 : w5.cell? ⟨w1.heap.size, 2, none⟩ = some (.int .i64 m) := bc hb (by first | exact b2_3 | exact ca b2_3 | exact ca (ca b2_3) | exact ca (ca (ca b2_3)) | (simp; done) | go_simp)
    have b3_4 : w5.cell? ⟨w1.heap.size, 3, none⟩ = some (.int .i64 r) := bc hb (by first | exact b3_3 | exact ca b3_3 | exact ca (ca b3_3) | exact ca (ca (ca b3_3)) | (simp; done) | go_simp)
    have bl_4 : w1.heap.size < w5.heap.size := cell_lt b0_4
    clear b0_3 b1_3 b2_3 b3_3 bl_3
    have HV1 := Lib.hid (HV1.out.below hb)
    have HV2 := Lib.hid hv2
    clear hv2
    have HBq : Below w.heap.size w w5 := HB.out.trans (hb.mono HB.out.size)
    have HB := Lib.hid HBq
    clear HBq hb
    go_wp2_with fail
    refine (equalFlows_any _ _ _ _ _ _ _ (by omega) HV1.out HV2.out).mono ?_
    rintro ed w6 ⟨rfl, hb⟩
    have hzw6 := hb.size
    have b0_5 : w6.cell? ⟨w1.heap.size, 0, none⟩ = some (.int .i64 s) := bc hb (by first | exact b0_4 | exact ca b0_4 | exact ca (ca b0_4) | exact ca (ca (ca b0_4)) | (simp; done) | go_simp)
    have b1_5 : w6.cell? ⟨w1.heap.size, 1, none⟩ = some (.int .i64 e) := bc hb (by first | exact b1_4 | exact ca b1_4 | exact ca (ca b1_4) | exact ca (ca (ca b1_4)) | (simp; done) | go_simp)
    have b2_5 : w6.cell? ⟨w1.heap.size, 2, none⟩ = some (.int .i64 m) := bc hb (by first | exact b2_4 | exact ca b2_4 | exact ca (ca b2_4) | exact ca (ca (ca b2_4)) | (simp; done) | go_simp)
    have b3_5 : w6.cell? ⟨w1.heap.size, 3, none⟩ = some (.int .i64 r) := bc hb (by first | exact b3_4 | exact ca b3_4 | exact ca (ca b3_4) | exact ca (ca (ca b3_4)) | (simp; done) | go_simp)
    have bl_5 : w1.heap.size < w6.heap.size := cell_lt b0_5
    clear b0_4 b1_4 b2_4 b3_4 bl_4
    have HBq : Below w.heap.size w w6 := HB.out.trans (hb.mono HB.out.size)
    have HB := Lib.hid HBq
    clear HBq hb
    go_wp2
    go_ret
    exact ⟨ret_bool (by first | rfl | (simp; done) | (simp; omega)), HB.out⟩
  · obtain ⟨hr, hm, hse, hs, hn, h1, h40⟩ := bd_facts hbd
    have hbd2 := bd_rate hbd (r' := r + 1) (by omega)
    have hbd0 := bd_rate hbd (r' := 0) (by omega)
    have HI2 : Hid (∀ W : World, MD W → Calls Tryd.prog 18 #[.agg #[.int .i64 s, .int .i64 e, .int .i64 m, .int .i64 (r + 1)]] W (FlOf s e m (r + 1) W)) := Lib.hid fun W h => flowsOfI_any s e m (r + 1) W h
    have HT0 : Hid (∀ W : World, MD W → Calls Tryd.prog 15 #[.agg #[.int .i64 s, .int .i64 e, .int .i64 m, .int .i64 0]] W fun ed w' => ed = .returned (.int .i64 10000) ∧ Below W.heap.size W w') := Lib.hid fun W h => by rw [← tot_zero hbd0]; exact totalOfI_any s e m 0 W h
    have HR : Hid (∀ j, j < schL s e m → (flF s e m r j).1 = (flF s e m (r + 1) j).1 ∧ (flF s e m r j).2 ≤ (flF s e m (r + 1) j).2) := Lib.hid fun j hj => fl_rate hbd (by omega) hj
    have hd30 : (r == 3000) = false := by simpa using h30
    unfold FlOf at HI2
    have ok := fl_ok s e m (r + 1)
    rw [flL_yes hbd] at HI HS hle
    rw [flL_yes hbd2] at HI2 ok
    have HOK := Lib.hid ok
    generalize flF s e m r = A at *
    generalize flF s e m (r + 1) = A2 at *
    generalize schL s e m = L at *
    have hLp : (L == 0) = false := by simp; omega
    clear hbd hbd2 hbd0 hm hse hs hn ok h30
    go_wp2_with fail
    refine (HI.out _ (by exact HM.out.fwd (by repeat (first | exact Below.refl _ _ | exact HB.out.mono hM1 | refine Below.drew ?_ | refine bel_drewN _ ?_ | refine Below.alloc ?_ (by first | omega | (simp; done) | (simp; omega)) _ | refine Below.setCell ?_ (by first | (show _ ≤ _; omega) | (simp; done) | (simp; omega)) _)))).mono ?_
    rintro ed w2 ⟨v1, rfl, hv1, hb⟩
    have hzw2 := hb.size
    have b0_1 : w2.cell? ⟨w1.heap.size, 0, none⟩ = some (.int .i64 s) := bc hb (by first | (simp; done) | go_simp)
    have b1_1 : w2.cell? ⟨w1.heap.size, 1, none⟩ = some (.int .i64 e) := bc hb (by first | (simp; done) | go_simp)
    have b2_1 : w2.cell? ⟨w1.heap.size, 2, none⟩ = some (.int .i64 m) := bc hb (by first | (simp; done) | go_simp)
    have b3_1 : w2.cell? ⟨w1.heap.size, 3, none⟩ = some (.int .i64 r) := bc hb (by first | (simp; done) | go_simp)
    have bl_1 : w1.heap.size < w2.heap.size := cell_lt b0_1
    have HV1 := Lib.hid hv1
    have HBq : Below w.heap.size w w2 := (HB.out.alloc (by have := HB.out.size; omega) _).trans (hb.mono (by have := HB.out.size; simp; omega))
    have HB := Lib.hid HBq
    clear HBq hb
    go_wp2_with fail
    refine (HS.out _ (by exact HM.out.fwd (by repeat (first | exact Below.refl _ _ | exact HB.out.mono hM1 | refine Below.drew ?_ | refine bel_drewN _ ?_ | refine Below.alloc ?_ (by first | omega | (simp; done) | (simp; omega)) _ | refine Below.setCell ?_ (by first | (show _ ≤ _; omega) | (simp; done) | (simp; omega)) _)))).mono ?_
    rintro ed w3 ⟨v0, rfl, hv0, hb⟩
    have hzw3 := hb.size
    have b0_2 : w3.cell? ⟨w1.heap.size, 0, none⟩ = some (.int .i64 s) := bc hb (by first | exact b0_1 | exact ca b0_1 | exact ca (ca b0_1) | exact ca (ca (ca b0_1)) | (simp; done) | go_simp)
    have b1_2 : w3.cell? ⟨w1.heap.size, 1, none⟩ = some (.int .i64 e) := bc hb (by first | exact b1_1 | exact ca b1_1 | exact ca (ca b1_1) | exact ca (ca (ca b1_1)) | (simp; done) | go_simp)
    have b2_2 : w3.cell? ⟨w1.heap.size, 2, none⟩ = some (.int .i64 m) := bc hb (by first | exact b2_1 | exact ca b2_1 | exact ca (ca b2_1) | exact ca (ca (ca b2_1)) | (simp; done) | go_simp)
    have b3_2 : w3.cell? ⟨w1.heap.size, 3, none⟩ = some (.int .i64 r) := bc hb (by first | exact b3_1 | exact ca b3_1 | exact ca (ca b3_1) | exact ca (ca (ca b3_1)) | (simp; done) | go_simp)
    have bl_2 : w1.heap.size < w3.heap.size := cell_lt b0_2
    clear b0_1 b1_1 b2_1 b3_1 bl_1
    have HV1 := Lib.hid (HV1.out.below hb)
    have HV0 := Lib.hid hv0
    clear hv0
    have HBq : Below w.heap.size w w3 := HB.out.trans (hb.mono HB.out.size)
    have HB := Lib.hid HBq
    clear HBq hb
    rcases hv1 with ⟨h0, _⟩ | ⟨_, g, c, cap', rfl, b1, c1, c2, fb⟩
    · omega
    clear fb
    go_wp2_with fail
    refine (equalFlows_any _ _ _ _ _ _ _ (by omega) HV1.out HV0.out).mono ?_
    rintro ed w4 ⟨rfl, hb⟩
    have hzw4 := hb.size
    have b0_3 : w4.cell? ⟨w1.heap.size, 0, none⟩ = some (.int .i64 s) := bc hb (by first | exact b0_2 | exact ca b0_2 | exact ca (ca b0_2) | exact ca (ca (ca b0_2)) | (simp; done) | go_simp)
    have b1_3 : w4.cell? ⟨w1.heap.size, 1, none⟩ = some (.int .i64 e) := bc hb (by first | exact b1_2 | exact ca b1_2 | exact ca (ca b1_2) | exact ca (ca (ca b1_2)) | (simp; done) | go_simp)
    have b2_3 : w4.cell? ⟨w1.heap.size, 2, none⟩ = some (.int .i64 m) := bc hb (by first | exact b2_2 | exact ca b2_2 | exact ca (ca b2_2) | exact ca (ca (ca b2_2)) | (simp; done) | go_simp)
    have b3_3 : w4.cell? ⟨w1.heap.size, 3, none⟩ = some (.int .i64 r) := bc hb (by first | exact b3_2 | exact ca b3_2 | exact ca (ca b3_2) | exact ca (ca (ca b3_2)) | (simp; done) | go_simp)
    have bl_3 : w1.heap.size < w4.heap.size := cell_lt b0_3
    clear b0_2 b1_2 b2_2 b3_2 bl_2
    have HV1 := Lib.hid (HV1.out.below hb)
    have HBq : Below w.heap.size w w4 := HB.out.trans (hb.mono HB.out.size)
    have HB := Lib.hid HBq
    clear HBq hb
    go_wp2_with fail
    refine (HI2.out _ (by exact HM.out.fwd (by repeat (first | exact Below.refl _ _ | exact HB.out.mono hM1 | refine Below.drew ?_ | refine bel_drewN _ ?_ | refine Below.alloc ?_ (by first | omega | (simp; done) | (simp; omega)) _ | refine Below.setCell ?_ (by first | (show _ ≤ _; omega) | (simp; done) | (simp; omega)) _)))).mono ?_
    rintro ed w5 ⟨v3, rfl, hv3, hb⟩
    have hzw5 := hb.size
    have b0_4 : w5.cell? ⟨w1.heap.size, 0, none⟩ = some (.int .i64 s) := bc hb (by first | exact b0_3 | exact ca b0_3 | exact ca (ca b0_3) | exact ca (ca (ca b0_3)) | (simp; done) | go_simp)
    have b1_4 : w5.cell? ⟨w1.heap.size, 1, none⟩ = some (.int .i64 e) := bc hb (by first | exact b1_3 | exact ca b1_3 | exact ca (ca b1_3) | exact ca (ca (ca b1_3)) | (simp; done) | go_simp)
    have b2_4 : w5.cell? ⟨w1.heap.size, 2, none⟩ = some (.int .i64 m) := bc hb (by first | exact b2_3 | exact ca b2_3 | exact ca (ca b2_3) | exact ca (ca (ca b2_3)) | (simp; done) | go_simp)
    have b3_4 : w5.cell? ⟨w1.heap.size, 3, none⟩ = some (.int .i64 r) := bc hb (by first | exact b3_3 | exact ca b3_3 | exact ca (ca b3_3) | exact ca (ca (ca b3_3)) | (simp; done) | go_simp)
    have bl_4 : w1.heap.size < w5.heap.size := cell_lt b0_4
    clear b0_3 b1_3 b2_3 b3_3 bl_3
    have HV1 := Lib.hid (HV1.out.below hb)
    have HBq : Below w.heap.size w w5 := HB.out.trans (hb.mono HB.out.size)
    have HB := Lib.hid HBq
    clear HBq hb
    rcases hv3 with ⟨h0, _⟩ | ⟨_, g3, c3, cap3, rfl, e1, e2, e3, fb3⟩
    · omega
    rcases HV1.out with ⟨h0, _⟩ | ⟨_, g', c', cap'', hq, b1', c1', c2', fb⟩
    · omega
    cases hq
    have hg := fb.lt
    have hg3 := fb3.lt
    have FB1 := Lib.hid fb
    have FB3 := Lib.hid fb3
    clear fb fb3
    have hM5 : Hid (MD w5) := HM.out.fwd (HB.out.mono hM1)
    go_wp2_with fail
    go_loopw [6] (fun i wr => ∃ t : Nat, t ≤ L ∧ i = .int .i64 t ∧ Below w5.heap.size w5 wr) (fun i _ => L - (intOf i).toNat)
    case atStart => exact ⟨0, Nat.zero_le _, rfl, Below.refl _ _⟩
    case round =>
      obtain ⟨t, ht, rfl, hbel⟩ := hrel
      have HBL := Lib.hid hbel
      have FBr := FB1.out.fwd hbel hg
      have FBs := FB3.out.fwd hbel hg3
      have hszr := hbel.size
      by_cases hlt : t < L
      · obtain ⟨⟨p0, p1⟩, _⟩ := FBr.cells hlt
        obtain ⟨⟨q0, q1⟩, _⟩ := FBs.cells hlt
        obtain ⟨k0, k1⟩ := HR.out t hlt
        rw [k0] at p0
        have i0 : (0 : Int) ≤ (t : Int) := by omega
        have i1 : (t : Int) < (L : Int) := by omega
        have d1 : decide (L ≤ t) = false := decide_eq_false (by omega)
        have d3 : decide ((L : Int) ≤ (t : Int)) = false := decide_eq_false (by omega)
        have d2 : decide ((A2 t).2 < (A t).2) = false := decide_eq_false (by omega)
        generalize (A2 t).1 = x at *
        generalize (A2 t).2 = y at *
        generalize (A t).2 = y' at *
        clear hbel FBr FBs k0
        go_wp2_with fail
        go_quiet (fail)
        go_wp2
        go_roundw
        case rel => exact ⟨t + 1, by omega, by go_num, bel_drewN _ HBL.out⟩
        case measure => first | (simp [intOf]; done) | (simp [intOf]; omega)
      · obtain rfl : t = L := by omega
        have hbl : w1.heap.size < wr.heap.size := by omega
        have y0 : wr.cell? ⟨w1.heap.size, 0, none⟩ = some (.int .i64 s) := bc HBL.out (by assumption)
        have y1 : wr.cell? ⟨w1.heap.size, 1, none⟩ = some (.int .i64 e) := bc HBL.out (by assumption)
        have y2 : wr.cell? ⟨w1.heap.size, 2, none⟩ = some (.int .i64 m) := bc HBL.out (by assumption)
        have HMr : Hid (MD wr) := hM5.out.below HBL.out
        clear hbel FBr FBs
        go_wp2_with fail
        refine (HT0.out _ HMr.out).mono ?_
        rintro ed w6 ⟨rfl, hb⟩
        have HB6 : Hid (Below w.heap.size w w6) := HB.out.trans ((HBL.out.trans (hb.mono hszr)).mono HB.out.size)
        clear hb
        go_wp2
        go_ret
        exact ⟨ret_bool (by first | rfl | (simp; done) | (simp; omega)), HB6.out⟩
end Go.Proofs.YtoidghdgebdfaaaDoor
