/- The laws over bonds. -/
import Derived.Test.YtoidghdgebdfaaaDoorFlow12
namespace Go.Proofs.YtoidghdgebdfaaaDoor
open Go.RowKit
set_option linter.unusedVariables false
theorem big_FnValidBond (a : Option Addr) (len cap : Nat) (w : World) (hlc : len ≤ cap) (hc : cap ≤ maxLen) (hbig : 1048576 < len) :
    Calls Tryd.prog 4 #[.slice a len cap] w fun e w' => e = .returned (.bool true) ∧ Below w.heap.size w w' := by
  unfold maxLen at hc
  go_enter Tryd.func4, Tryd.ntmps4
  go_wp2
  go_ret
  exact ⟨rfl, Below.refl _ _⟩
theorem big_FnFlowsOf (a : Option Addr) (len cap : Nat) (w : World) (hlc : len ≤ cap) (hc : cap ≤ maxLen) (hbig : 1048576 < len) :
    Calls Tryd.prog 7 #[.slice a len cap] w fun e w' => e = .returned (.bool true) ∧ Below w.heap.size w w' := by
  unfold maxLen at hc
  go_enter Tryd.func7, Tryd.ntmps7
  go_wp2
  go_ret
  exact ⟨rfl, Below.refl _ _⟩
theorem big_FnFlowsOfEqual (a : Option Addr) (len cap : Nat) (w : World) (hlc : len ≤ cap) (hc : cap ≤ maxLen) (hbig : 1048576 < len) :
    Calls Tryd.prog 8 #[.slice a len cap] w fun e w' => e = .returned (.bool true) ∧ Below w.heap.size w w' := by
  unfold maxLen at hc
  go_enter Tryd.func8, Tryd.ntmps8
  go_wp2
  go_ret
  exact ⟨rfl, Below.refl _ _⟩
theorem big_FnTotalOf (a : Option Addr) (len cap : Nat) (w : World) (hlc : len ≤ cap) (hc : cap ≤ maxLen) (hbig : 1048576 < len) :
    Calls Tryd.prog 9 #[.slice a len cap] w fun e w' => e = .returned (.bool true) ∧ Below w.heap.size w w' := by
  unfold maxLen at hc
  go_enter Tryd.func9, Tryd.ntmps9
  go_wp2
  go_ret
  exact ⟨rfl, Below.refl _ _⟩
theorem big_FnFlowsOfRate (a : Option Addr) (len cap : Nat) (w : World) (hlc : len ≤ cap) (hc : cap ≤ maxLen) (hbig : 1048576 < len) :
    Calls Tryd.prog 11 #[.slice a len cap] w fun e w' => e = .returned (.bool true) ∧ Below w.heap.size w w' := by
  unfold maxLen at hc
  go_enter Tryd.func11, Tryd.ntmps11
  go_wp2
  go_ret
  exact ⟨rfl, Below.refl _ _⟩
set_option maxRecDepth 100000 in
set_option maxHeartbeats 8000000 in
theorem fnTotalOf_walk (a : Option Addr) (len cap : Nat) (w : World) (hM : MD w) (hlc : len ≤ cap) (hc : cap ≤ maxLen) (h : IsBytes w a len) :
    Calls Tryd.prog 9 #[.slice a len cap] w fun ed w' => ed = .returned (.bool true) ∧ Below w.heap.size w w' := by
  by_cases hbig : 1048576 < len
  · exact big_FnTotalOf a len cap w hlc hc hbig
  have hM1 := hM.size
  have HM := Lib.hid hM
  have H := Lib.hid h
  clear h hM
  go_enter Tryd.func9, Tryd.ntmps9
  have HB := Lib.hid (Below.refl w.heap.size w)
  go_wp2_with fail
  refine (drawTotalOf_any _ _ _ _ hlc hc H.out).mono ?_
  rintro e w1 ⟨s, e, m, r, rfl, hs, he, hm, hr, hb⟩
  have hszw1 := below_size hb
  try simp at hszw1
  have HBq : Below w.heap.size w w1 := Below.trans (by repeat (first | exact Below.refl _ _ | exact HB.out | refine Below.drew ?_ | refine bel_drewN _ ?_ | refine Below.alloc ?_ (by first | omega | (simp; done) | (simp; omega)) _ | refine Below.setCell ?_ (by first | (show _ ≤ _; omega) | (simp; done) | (simp; omega)) _)) (hb.mono (by first | omega | (simp; done) | (simp; omega)))
  have HB := Lib.hid HBq
  clear HBq hb
  have hr1 : r ≤ 3001 := hr.2
  have hr0 : -1 ≤ r := hr.1
  clear hs he hm hr
  have HI : Hid (∀ W : World, MD W → Calls Tryd.prog 18 #[.agg #[.int .i64 s, .int .i64 e, .int .i64 m, .int .i64 r]] W (FlOf s e m r W)) := Lib.hid fun W h => flowsOfI_any s e m r W h
  cases hbd : bdB s e m r
  · have HT : Hid (totV s e m r = -1) := Lib.hid (by unfold totV; rw [if_neg (by rw [hbd]; simp)])
    have HTS : Hid (∀ W : World, MD W → Calls Tryd.prog 13 #[.agg #[.int .i64 s, .int .i64 e, .int .i64 m, .int .i64 r]] W fun ed w' => ed = .returned (.int .i64 (-1)) ∧ Below W.heap.size W w') := Lib.hid fun W h => by rw [← HT.out]; exact totalOfS_any s e m r W h
    have HTI : Hid (∀ W : World, MD W → Calls Tryd.prog 15 #[.agg #[.int .i64 s, .int .i64 e, .int .i64 m, .int .i64 r]] W fun ed w' => ed = .returned (.int .i64 (-1)) ∧ Below W.heap.size W w') := Lib.hid fun W h => by rw [← HT.out]; exact totalOfI_any s e m r W h
    go_wp2_with fail
    refine (HTI.out _ (by exact HM.out.fwd (by repeat (first | exact Below.refl _ _ | exact HB.out.mono hM1 | refine Below.drew ?_ | refine bel_drewN _ ?_ | refine Below.alloc ?_ (by first | omega | (simp; done) | (simp; omega)) _ | refine Below.setCell ?_ (by first | (show _ ≤ _; omega) | (simp; done) | (simp; omega)) _)))).mono ?_
    rintro ed w2 ⟨rfl, hb⟩
    have hzw2 := hb.size
    have b0_1 : w2.cell? ⟨w1.heap.size, 0, none⟩ = some (.int .i64 s) := bc hb (by first | (simp; done) | go_simp)
    have b1_1 : w2.cell? ⟨w1.heap.size, 1, none⟩ = some (.int .i64 e) := bc hb (by first | (simp; done) | go_simp)
    have b2_1 : w2.cell? ⟨w1.heap.size, 2, none⟩ = some (.int .i64 m) := bc hb (by first | (simp; done) | go_simp)
    have b3_1 : w2.cell? ⟨w1.heap.size, 3, none⟩ = some (.int .i64 r) := bc hb (by first | (simp; done) | go_simp)
    have bl_1 : w1.heap.size < w2.heap.size := cell_lt b0_1
    have HBq : Below w.heap.size w w2 := (HB.out.alloc (by have := HB.out.size; omega) _).trans (hb.mono (by have := HB.out.size; simp; omega))
    have HB := Lib.hid HBq
    clear HBq hb
    go_wp2_with fail
    refine (HTS.out _ (by exact HM.out.fwd (by repeat (first | exact Below.refl _ _ | exact HB.out.mono hM1 | refine Below.drew ?_ | refine bel_drewN _ ?_ | refine Below.alloc ?_ (by first | omega | (simp; done) | (simp; omega)) _ | refine Below.setCell ?_ (by first | (show _ ≤ _; omega) | (simp; done) | (simp; omega)) _)))).mono ?_
    rintro ed w3 ⟨rfl, hb⟩
    have hzw3 := hb.size
    have b0_2 : w3.cell? ⟨w1.heap.size, 0, none⟩ = some (.int .i64 s) := bc hb (by first | exact b0_1 | exact ca b0_1 | exact ca (ca b0_1) | exact ca (ca (ca b0_1)) | (simp; done) | go_simp)
    have b1_2 : w3.cell? ⟨w1.heap.size, 1, none⟩ = some (.int .i64 e) := bc hb (by first | exact b1_1 | exact ca b1_1 | exact ca (ca b1_1) | exact ca (ca (ca b1_1)) | (simp; done) | go_simp)
    have b2_2 : w3.cell? ⟨w1.heap.size, 2, none⟩ = some (.int .i64 m) := bc hb (by first | exact b2_1 | exact ca b2_1 | exact ca (ca b2_1) | exact ca (ca (ca b2_1)) | (simp; done) | go_simp)
    have b3_2 : w3.cell? ⟨w1.heap.size, 3, none⟩ = some (.int .i64 r) := bc hb (by first | exact b3_1 | exact ca b3_1 | exact ca (ca b3_1) | exact ca (ca (ca b3_1)) | (simp; done) | go_simp)
    have bl_2 : w1.heap.size < w3.heap.size := cell_lt b0_2
    clear b0_1 b1_1 b2_1 b3_1 bl_1
    have HBq : Below w.heap.size w w3 := HB.out.trans (hb.mono HB.out.size)
    have HB := Lib.hid HBq
    clear HBq hb
    go_wp2_with fail
    refine (HTS.out _ (by exact HM.out.fwd (by repeat (first | exact Below.refl _ _ | exact HB.out.mono hM1 | refine Below.drew ?_ | refine bel_drewN _ ?_ | refine Below.alloc ?_ (by first | omega | (simp; done) | (simp; omega)) _ | refine Below.setCell ?_ (by first | (show _ ≤ _; omega) | (simp; done) | (simp; omega)) _)))).mono ?_
    rintro ed w4 ⟨rfl, hb⟩
    have hzw4 := hb.size
    have b0_3 : w4.cell? ⟨w1.heap.size, 0, none⟩ = some (.int .i64 s) := bc hb (by first | exact b0_2 | exact ca b0_2 | exact ca (ca b0_2) | exact ca (ca (ca b0_2)) | (simp; done) | go_simp)
    have b1_3 : w4.cell? ⟨w1.heap.size, 1, none⟩ = some (.int .i64 e) := bc hb (by first | exact b1_2 | exact ca b1_2 | exact ca (ca b1_2) | exact ca (ca (ca b1_2)) | (simp; done) | go_simp)
    have b2_3 : w4.cell? ⟨w1.heap.size, 2, none⟩ = some (.int .i64 m) := bc hb (by first | exact b2_2 | exact ca b2_2 | exact ca (ca b2_2) | exact ca (ca (ca b2_2)) | (simp; done) | go_simp)
    have b3_3 : w4.cell? ⟨w1.heap.size, 3, none⟩ = some (.int .i64 r) := bc hb (by first | exact b3_2 | exact ca b3_2 | exact ca (ca b3_2) | exact ca (ca (ca b3_2)) | (simp; done) | go_simp)
    have bl_3 : w1.heap.size < w4.heap.size := cell_lt b0_3
    clear b0_2 b1_2 b2_2 b3_2 bl_2
    have HBq : Below w.heap.size w w4 := HB.out.trans (hb.mono HB.out.size)
    have HB := Lib.hid HBq
    clear HBq hb
    go_wp2
    go_ret
    exact ⟨ret_bool (by first | rfl | (simp; done) | (simp; omega)), HB.out⟩
  · have hface := tot_face hbd
    have HTS : Hid (∀ W : World, MD W → Calls Tryd.prog 13 #[.agg #[.int .i64 s, .int .i64 e, .int .i64 m, .int .i64 r]] W fun ed w' => ed = .returned (.int .i64 (totV s e m r)) ∧ Below W.heap.size W w') := Lib.hid fun W h => totalOfS_any s e m r W h
    have HTI : Hid (∀ W : World, MD W → Calls Tryd.prog 15 #[.agg #[.int .i64 s, .int .i64 e, .int .i64 m, .int .i64 r]] W fun ed w' => ed = .returned (.int .i64 (totV s e m r)) ∧ Below W.heap.size W w') := Lib.hid fun W h => totalOfI_any s e m r W h
    have HV : Hid (totV s e m r = sumF (flF s e m r) (flL s e m r)) := Lib.hid (by unfold totV; rw [if_pos hbd])
    have ok := fl_ok s e m r
    have hpos : 1 ≤ flL s e m r := by rw [flL_yes hbd]; exact (bd_facts hbd).2.2.2.2.2.1
    unfold FlOf at HI
    generalize flL s e m r = L at *
    generalize flF s e m r = A at *
    generalize totV s e m r = V at *
    have HSM := Lib.hid (fun k hk => sumF_bd ok k hk)
    have HOK := Lib.hid ok
    have hle := ok.le
    clear ok
    go_wp2_with fail
    refine (HTI.out _ (by exact HM.out.fwd (by repeat (first | exact Below.refl _ _ | exact HB.out.mono hM1 | refine Below.drew ?_ | refine bel_drewN _ ?_ | refine Below.alloc ?_ (by first | omega | (simp; done) | (simp; omega)) _ | refine Below.setCell ?_ (by first | (show _ ≤ _; omega) | (simp; done) | (simp; omega)) _)))).mono ?_
    rintro ed w2 ⟨rfl, hb⟩
    have hzw2 := hb.size
    have b0_1 : w2.cell? ⟨w1.heap.size, 0, none⟩ = some (.int .i64 s) := bc hb (by first | (simp; done) | go_simp)
    have b1_1 : w2.cell? ⟨w1.heap.size, 1, none⟩ = some (.int .i64 e) := bc hb (by first | (simp; done) | go_simp)
    have b2_1 : w2.cell? ⟨w1.heap.size, 2, none⟩ = some (.int .i64 m) := bc hb (by first | (simp; done) | go_simp)
    have b3_1 : w2.cell? ⟨w1.heap.size, 3, none⟩ = some (.int .i64 r) := bc hb (by first | (simp; done) | go_simp)
    have bl_1 : w1.heap.size < w2.heap.size := cell_lt b0_1
    have HBq : Below w.heap.size w w2 := (HB.out.alloc (by have := HB.out.size; omega) _).trans (hb.mono (by have := HB.out.size; simp; omega))
    have HB := Lib.hid HBq
    clear HBq hb
    go_wp2_with fail
    refine (HTS.out _ (by exact HM.out.fwd (by repeat (first | exact Below.refl _ _ | exact HB.out.mono hM1 | refine Below.drew ?_ | refine bel_drewN _ ?_ | refine Below.alloc ?_ (by first | omega | (simp; done) | (simp; omega)) _ | refine Below.setCell ?_ (by first | (show _ ≤ _; omega) | (simp; done) | (simp; omega)) _)))).mono ?_
    rintro ed w3 ⟨rfl, hb⟩
    have hzw3 := hb.size
    have b0_2 : w3.cell? ⟨w1.heap.size, 0, none⟩ = some (.int .i64 s) := bc hb (by first | exact b0_1 | exact ca b0_1 | exact ca (ca b0_1) | exact ca (ca (ca b0_1)) | (simp; done) | go_simp)
    have b1_2 : w3.cell? ⟨w1.heap.size, 1, none⟩ = some (.int .i64 e) := bc hb (by first | exact b1_1 | exact ca b1_1 | exact ca (ca b1_1) | exact ca (ca (ca b1_1)) | (simp; done) | go_simp)
    have b2_2 : w3.cell? ⟨w1.heap.size, 2, none⟩ = some (.int .i64 m) := bc hb (by first | exact b2_1 | exact ca b2_1 | exact ca (ca b2_1) | exact ca (ca (ca b2_1)) | (simp; done) | go_simp)
    have b3_2 : w3.cell? ⟨w1.heap.size, 3, none⟩ = some (.int .i64 r) := bc hb (by first | exact b3_1 | exact ca b3_1 | exact ca (ca b3_1) | exact ca (ca (ca b3_1)) | (simp; done) | go_simp)
    have bl_2 : w1.heap.size < w3.heap.size := cell_lt b0_2
    clear b0_1 b1_1 b2_1 b3_1 bl_1
    have HBq : Below w.heap.size w w3 := HB.out.trans (hb.mono HB.out.size)
    have HB := Lib.hid HBq
    clear HBq hb
    go_wp2_with fail
    refine (HI.out _ (by exact HM.out.fwd (by repeat (first | exact Below.refl _ _ | exact HB.out.mono hM1 | refine Below.drew ?_ | refine bel_drewN _ ?_ | refine Below.alloc ?_ (by first | omega | (simp; done) | (simp; omega)) _ | refine Below.setCell ?_ (by first | (show _ ≤ _; omega) | (simp; done) | (simp; omega)) _)))).mono ?_
    rintro ed w4 ⟨v, rfl, hv, hb⟩
    have hzw4 := hb.size
    have b0_3 : w4.cell? ⟨w1.heap.size, 0, none⟩ = some (.int .i64 s) := bc hb (by first | exact b0_2 | exact ca b0_2 | exact ca (ca b0_2) | exact ca (ca (ca b0_2)) | (simp; done) | go_simp)
    have b1_3 : w4.cell? ⟨w1.heap.size, 1, none⟩ = some (.int .i64 e) := bc hb (by first | exact b1_2 | exact ca b1_2 | exact ca (ca b1_2) | exact ca (ca (ca b1_2)) | (simp; done) | go_simp)
    have b2_3 : w4.cell? ⟨w1.heap.size, 2, none⟩ = some (.int .i64 m) := bc hb (by first | exact b2_2 | exact ca b2_2 | exact ca (ca b2_2) | exact ca (ca (ca b2_2)) | (simp; done) | go_simp)
    have b3_3 : w4.cell? ⟨w1.heap.size, 3, none⟩ = some (.int .i64 r) := bc hb (by first | exact b3_2 | exact ca b3_2 | exact ca (ca b3_2) | exact ca (ca (ca b3_2)) | (simp; done) | go_simp)
    have bl_3 : w1.heap.size < w4.heap.size := cell_lt b0_3
    clear b0_2 b1_2 b2_2 b3_2 bl_2
    have HVV := Lib.hid hv
    have HBq : Below w.heap.size w w4 := HB.out.trans (hb.mono HB.out.size)
    have HB := Lib.hid HBq
    clear HBq hb
    rcases HVV.out with ⟨h0, _⟩ | ⟨_, g, c, cap', rfl, b1, c1, c2, fb⟩
    · omega
    have hg := fb.lt
    have FB1 := Lib.hid fb
    clear fb hv
    go_wp2_with fail
    go_loopw [6, 7] (fun x i wr => ∃ t : Nat, t ≤ L ∧ i = .int .i64 t ∧ x = .int .i64 (sumF A t) ∧ Below w4.heap.size w4 wr) (fun _ i _ => L - (intOf i).toNat)
    case atStart => exact ⟨0, Nat.zero_le _, rfl, rfl, Below.refl _ _⟩
    case round =>
      obtain ⟨t, ht, rfl, rfl, hbel⟩ := hrel
      have HBL := Lib.hid hbel
      by_cases hlt : t < L
      · obtain ⟨⟨p0, p1⟩, _⟩ := (FB1.out.fwd hbel hg).cells hlt
        obtain ⟨s0, s1⟩ := HSM.out t (by omega)
        obtain ⟨a0, a1⟩ := HOK.out.amt t hlt
        have i0 : (0 : Int) ≤ (t : Int) := by omega
        have i1 : (t : Int) < (L : Int) := by omega
        have HE : Hid (sumF A (t + 1) = sumF A t + (A t).2) := Lib.hid rfl
        generalize (A t).1 = x at *
        generalize (A t).2 = y at *
        generalize sumF A t = z at *
        clear hbel
        go_wp2
        go_roundw
        case rel => exact ⟨t + 1, by omega, by go_num, by rw [HE.out], HBL.out⟩
        case measure => first | (simp [intOf]; done) | (simp [intOf]; omega)
      · obtain rfl : t = L := by omega
        rw [← HV.out]
        have hd1 : decide (10000 ≤ V) = true := by simpa using hface
        clear hbel
        go_wp2
        go_ret
        exact ⟨ret_bool (by first | rfl | (simp; done) | (simp; omega)), HB.out.trans (HBL.out.mono HB.out.size)⟩
set_option maxRecDepth 100000 in
set_option maxHeartbeats 8000000 in
theorem fnValidBond_walk (a : Option Addr) (len cap : Nat) (w : World) (hM : MD w) (hlc : len ≤ cap) (hc : cap ≤ maxLen) (h : IsBytes w a len) :
    Calls Tryd.prog 4 #[.slice a len cap] w fun ed w' => ed = .returned (.bool true) ∧ Below w.heap.size w w' := by
  by_cases hbig : 1048576 < len
  · exact big_FnValidBond a len cap w hlc hc hbig
  have hM1 := hM.size
  have HM := Lib.hid hM
  have H := Lib.hid h
  clear h hM
  go_enter Tryd.func4, Tryd.ntmps4
  have HB := Lib.hid (Below.refl w.heap.size w)
  go_wp2_with fail
  refine (drawValidBond_any _ _ _ _ hlc hc H.out).mono ?_
  rintro e w1 ⟨s, e, m, r, rfl, hs, he, hm, hr, hb⟩
  have hszw1 := below_size hb
  try simp at hszw1
  have HBq : Below w.heap.size w w1 := Below.trans (by repeat (first | exact Below.refl _ _ | exact HB.out | refine Below.drew ?_ | refine bel_drewN _ ?_ | refine Below.alloc ?_ (by first | omega | (simp; done) | (simp; omega)) _ | refine Below.setCell ?_ (by first | (show _ ≤ _; omega) | (simp; done) | (simp; omega)) _)) (hb.mono (by first | omega | (simp; done) | (simp; omega)))
  have HB := Lib.hid HBq
  clear HBq hb
  have hr1 : r ≤ 3001 := hr.2
  have hr0 : -1 ≤ r := hr.1
  clear hs he hm hr
  have HI : Hid (∀ W : World, MD W → Calls Tryd.prog 18 #[.agg #[.int .i64 s, .int .i64 e, .int .i64 m, .int .i64 r]] W (FlOf s e m r W)) := Lib.hid fun W h => flowsOfI_any s e m r W h
  cases hbd : bdB s e m r
  · have HV : Hid (flL s e m r = 0) := Lib.hid (flL_no hbd)
    have HBI : Hid (∀ W : World, MD W → Calls Tryd.prog 17 #[.agg #[.int .i64 s, .int .i64 e, .int .i64 m, .int .i64 r]] W fun ed w' => ed = .returned (.bool false) ∧ Below W.heap.size W w') := Lib.hid fun W h => by rw [← hbd]; exact validBondI_any s e m r W h
    have HBS : Hid (∀ W : World, Calls Tryd.prog 19 #[.agg #[.int .i64 s, .int .i64 e, .int .i64 m, .int .i64 r]] W fun ed w' => ed = .returned (.bool false) ∧ Below W.heap.size W w') := Lib.hid fun W => by rw [← hbd]; exact bValidBondS_any s e m r W
    unfold FlOf at HI
    rw [HV.out] at HI
    go_wp2_with fail
    refine (HBI.out _ (by exact HM.out.fwd (by repeat (first | exact Below.refl _ _ | exact HB.out.mono hM1 | refine Below.drew ?_ | refine bel_drewN _ ?_ | refine Below.alloc ?_ (by first | omega | (simp; done) | (simp; omega)) _ | refine Below.setCell ?_ (by first | (show _ ≤ _; omega) | (simp; done) | (simp; omega)) _)))).mono ?_
    rintro ed w2 ⟨rfl, hb⟩
    have hzw2 := hb.size
    have b0_1 : w2.cell? ⟨w1.heap.size, 0, none⟩ = some (.int .i64 s) := bc hb (by first | (simp; done) | go_simp)
    have b1_1 : w2.cell? ⟨w1.heap.size, 1, none⟩ = some (.int .i64 e) := bc hb (by first | (simp; done) | go_simp)
    have b2_1 : w2.cell? ⟨w1.heap.size, 2, none⟩ = some (.int .i64 m) := bc hb (by first | (simp; done) | go_simp)
    have b3_1 : w2.cell? ⟨w1.heap.size, 3, none⟩ = some (.int .i64 r) := bc hb (by first | (simp; done) | go_simp)
    have bl_1 : w1.heap.size < w2.heap.size := cell_lt b0_1
    have HBq : Below w.heap.size w w2 := (HB.out.alloc (by have := HB.out.size; omega) _).trans (hb.mono (by have := HB.out.size; simp; omega))
    have HB := Lib.hid HBq
    clear HBq hb
    go_wp2_with fail
    refine (HI.out _ (by exact HM.out.fwd (by repeat (first | exact Below.refl _ _ | exact HB.out.mono hM1 | refine Below.drew ?_ | refine bel_drewN _ ?_ | refine Below.alloc ?_ (by first | omega | (simp; done) | (simp; omega)) _ | refine Below.setCell ?_ (by first | (show _ ≤ _; omega) | (simp; done) | (simp; omega)) _)))).mono ?_
    rintro ed w3 ⟨v, rfl, hv, hb⟩
    have hzw3 := hb.size
    have b0_2 : w3.cell? ⟨w1.heap.size, 0, none⟩ = some (.int .i64 s) := bc hb (by first | exact b0_1 | exact ca b0_1 | exact ca (ca b0_1) | exact ca (ca (ca b0_1)) | (simp; done) | go_simp)
    have b1_2 : w3.cell? ⟨w1.heap.size, 1, none⟩ = some (.int .i64 e) := bc hb (by first | exact b1_1 | exact ca b1_1 | exact ca (ca b1_1) | exact ca (ca (ca b1_1)) | (simp; done) | go_simp)
    have b2_2 : w3.cell? ⟨w1.heap.size, 2, none⟩ = some (.int .i64 m) := bc hb (by first | exact b2_1 | exact ca b2_1 | exact ca (ca b2_1) | exact ca (ca (ca b2_1)) | (simp; done) | go_simp)
    have b3_2 : w3.cell? ⟨w1.heap.size, 3, none⟩ = some (.int .i64 r) := bc hb (by first | exact b3_1 | exact ca b3_1 | exact ca (ca b3_1) | exact ca (ca (ca b3_1)) | (simp; done) | go_simp)
    have bl_2 : w1.heap.size < w3.heap.size := cell_lt b0_2
    clear b0_1 b1_1 b2_1 b3_1 bl_1
    have HBq : Below w.heap.size w w3 := HB.out.trans (hb.mono HB.out.size)
    have HB := Lib.hid HBq
    clear HBq hb
    rcases hv with ⟨_, va, vc, rfl, hvc⟩ | ⟨h0, _⟩
    · skip
      go_wp2_with fail
      refine (HBS.out _).mono ?_
      rintro ed w4 ⟨rfl, hb⟩
      have hzw4 := hb.size
      have b0_3 : w4.cell? ⟨w1.heap.size, 0, none⟩ = some (.int .i64 s) := bc hb (by first | exact b0_2 | exact ca b0_2 | exact ca (ca b0_2) | exact ca (ca (ca b0_2)) | (simp; done) | go_simp)
      have b1_3 : w4.cell? ⟨w1.heap.size, 1, none⟩ = some (.int .i64 e) := bc hb (by first | exact b1_2 | exact ca b1_2 | exact ca (ca b1_2) | exact ca (ca (ca b1_2)) | (simp; done) | go_simp)
      have b2_3 : w4.cell? ⟨w1.heap.size, 2, none⟩ = some (.int .i64 m) := bc hb (by first | exact b2_2 | exact ca b2_2 | exact ca (ca b2_2) | exact ca (ca (ca b2_2)) | (simp; done) | go_simp)
      have b3_3 : w4.cell? ⟨w1.heap.size, 3, none⟩ = some (.int .i64 r) := bc hb (by first | exact b3_2 | exact ca b3_2 | exact ca (ca b3_2) | exact ca (ca (ca b3_2)) | (simp; done) | go_simp)
      have bl_3 : w1.heap.size < w4.heap.size := cell_lt b0_3
      clear b0_2 b1_2 b2_2 b3_2 bl_2
      have HBq : Below w.heap.size w w4 := HB.out.trans (hb.mono HB.out.size)
      have HB := Lib.hid HBq
      clear HBq hb
      go_wp2
      go_ret
      exact ⟨ret_bool (by first | rfl | (simp; done) | (simp; omega)), HB.out⟩
    · omega
  · have HV : Hid (flL s e m r = schL s e m) := Lib.hid (flL_yes hbd)
    have hpos : 1 ≤ schL s e m := (bd_facts hbd).2.2.2.2.2.1
    have hle := schL_le s e m
    have HBI : Hid (∀ W : World, MD W → Calls Tryd.prog 17 #[.agg #[.int .i64 s, .int .i64 e, .int .i64 m, .int .i64 r]] W fun ed w' => ed = .returned (.bool true) ∧ Below W.heap.size W w') := Lib.hid fun W h => by rw [← hbd]; exact validBondI_any s e m r W h
    have HBS : Hid (∀ W : World, Calls Tryd.prog 19 #[.agg #[.int .i64 s, .int .i64 e, .int .i64 m, .int .i64 r]] W fun ed w' => ed = .returned (.bool true) ∧ Below W.heap.size W w') := Lib.hid fun W => by rw [← hbd]; exact bValidBondS_any s e m r W
    have HSC : Hid (∀ W : World, MD W → Calls Tryd.prog 20 #[.int .i64 s, .int .i64 e, .int .i64 m] W (ScI s e m W)) := Lib.hid fun W h => scheduleOfI_any s e m W h
    unfold FlOf at HI
    unfold ScI at HSC
    rw [HV.out] at HI
    generalize schL s e m = L at *
    have hd1 : decide (0 < L) = true := decide_eq_true (by omega)
    have hd2 : (0 : Int) < (L : Int) := by omega
    go_wp2_with fail
    refine (HBI.out _ (by exact HM.out.fwd (by repeat (first | exact Below.refl _ _ | exact HB.out.mono hM1 | refine Below.drew ?_ | refine bel_drewN _ ?_ | refine Below.alloc ?_ (by first | omega | (simp; done) | (simp; omega)) _ | refine Below.setCell ?_ (by first | (show _ ≤ _; omega) | (simp; done) | (simp; omega)) _)))).mono ?_
    rintro ed w2 ⟨rfl, hb⟩
    have hzw2 := hb.size
    have b0_1 : w2.cell? ⟨w1.heap.size, 0, none⟩ = some (.int .i64 s) := bc hb (by first | (simp; done) | go_simp)
    have b1_1 : w2.cell? ⟨w1.heap.size, 1, none⟩ = some (.int .i64 e) := bc hb (by first | (simp; done) | go_simp)
    have b2_1 : w2.cell? ⟨w1.heap.size, 2, none⟩ = some (.int .i64 m) := bc hb (by first | (simp; done) | go_simp)
    have b3_1 : w2.cell? ⟨w1.heap.size, 3, none⟩ = some (.int .i64 r) := bc hb (by first | (simp; done) | go_simp)
    have bl_1 : w1.heap.size < w2.heap.size := cell_lt b0_1
    have HBq : Below w.heap.size w w2 := (HB.out.alloc (by have := HB.out.size; omega) _).trans (hb.mono (by have := HB.out.size; simp; omega))
    have HB := Lib.hid HBq
    clear HBq hb
    go_wp2_with fail
    refine (HI.out _ (by exact HM.out.fwd (by repeat (first | exact Below.refl _ _ | exact HB.out.mono hM1 | refine Below.drew ?_ | refine bel_drewN _ ?_ | refine Below.alloc ?_ (by first | omega | (simp; done) | (simp; omega)) _ | refine Below.setCell ?_ (by first | (show _ ≤ _; omega) | (simp; done) | (simp; omega)) _)))).mono ?_
    rintro ed w3 ⟨v, rfl, hv, hb⟩
    have hzw3 := hb.size
    have b0_2 : w3.cell? ⟨w1.heap.size, 0, none⟩ = some (.int .i64 s) := bc hb (by first | exact b0_1 | exact ca b0_1 | exact ca (ca b0_1) | exact ca (ca (ca b0_1)) | (simp; done) | go_simp)
    have b1_2 : w3.cell? ⟨w1.heap.size, 1, none⟩ = some (.int .i64 e) := bc hb (by first | exact b1_1 | exact ca b1_1 | exact ca (ca b1_1) | exact ca (ca (ca b1_1)) | (simp; done) | go_simp)
    have b2_2 : w3.cell? ⟨w1.heap.size, 2, none⟩ = some (.int .i64 m) := bc hb (by first | exact b2_1 | exact ca b2_1 | exact ca (ca b2_1) | exact ca (ca (ca b2_1)) | (simp; done) | go_simp)
    have b3_2 : w3.cell? ⟨w1.heap.size, 3, none⟩ = some (.int .i64 r) := bc hb (by first | exact b3_1 | exact ca b3_1 | exact ca (ca b3_1) | exact ca (ca (ca b3_1)) | (simp; done) | go_simp)
    have bl_2 : w1.heap.size < w3.heap.size := cell_lt b0_2
    clear b0_1 b1_1 b2_1 b3_1 bl_1
    have HBq : Below w.heap.size w w3 := HB.out.trans (hb.mono HB.out.size)
    have HB := Lib.hid HBq
    clear HBq hb
    rcases hv with ⟨h0, _⟩ | ⟨_, g, c, cap', rfl, b1, c1, c2, fb⟩
    · omega
    clear fb
    go_wp2_with fail
    refine (HBS.out _).mono ?_
    rintro ed w4 ⟨rfl, hb⟩
    have hzw4 := hb.size
    have b0_3 : w4.cell? ⟨w1.heap.size, 0, none⟩ = some (.int .i64 s) := bc hb (by first | exact b0_2 | exact ca b0_2 | exact ca (ca b0_2) | exact ca (ca (ca b0_2)) | (simp; done) | go_simp)
    have b1_3 : w4.cell? ⟨w1.heap.size, 1, none⟩ = some (.int .i64 e) := bc hb (by first | exact b1_2 | exact ca b1_2 | exact ca (ca b1_2) | exact ca (ca (ca b1_2)) | (simp; done) | go_simp)
    have b2_3 : w4.cell? ⟨w1.heap.size, 2, none⟩ = some (.int .i64 m) := bc hb (by first | exact b2_2 | exact ca b2_2 | exact ca (ca b2_2) | exact ca (ca (ca b2_2)) | (simp; done) | go_simp)
    have b3_3 : w4.cell? ⟨w1.heap.size, 3, none⟩ = some (.int .i64 r) := bc hb (by first | exact b3_2 | exact ca b3_2 | exact ca (ca b3_2) | exact ca (ca (ca b3_2)) | (simp; done) | go_simp)
    have bl_3 : w1.heap.size < w4.heap.size := cell_lt b0_3
    clear b0_2 b1_2 b2_2 b3_2 bl_2
    have HBq : Below w.heap.size w w4 := HB.out.trans (hb.mono HB.out.size)
    have HB := Lib.hid HBq
    clear HBq hb
    go_wp2_with fail
    refine (HSC.out _ (by exact HM.out.fwd (by repeat (first | exact Below.refl _ _ | exact HB.out.mono hM1 | refine Below.drew ?_ | refine bel_drewN _ ?_ | refine Below.alloc ?_ (by first | omega | (simp; done) | (simp; omega)) _ | refine Below.setCell ?_ (by first | (show _ ≤ _; omega) | (simp; done) | (simp; omega)) _)))).mono ?_
    rintro ed w5 ⟨v2, rfl, hp, hb⟩
    have hzw5 := hb.size
    have b0_4 : w5.cell? ⟨w1.heap.size, 0, none⟩ = some (.int .i64 s) := bc hb (by first | exact b0_3 | exact ca b0_3 | exact ca (ca b0_3) | exact ca (ca (ca b0_3)) | (simp; done) | go_simp)
    have b1_4 : w5.cell? ⟨w1.heap.size, 1, none⟩ = some (.int .i64 e) := bc hb (by first | exact b1_3 | exact ca b1_3 | exact ca (ca b1_3) | exact ca (ca (ca b1_3)) | (simp; done) | go_simp)
    have b2_4 : w5.cell? ⟨w1.heap.size, 2, none⟩ = some (.int .i64 m) := bc hb (by first | exact b2_3 | exact ca b2_3 | exact ca (ca b2_3) | exact ca (ca (ca b2_3)) | (simp; done) | go_simp)
    have b3_4 : w5.cell? ⟨w1.heap.size, 3, none⟩ = some (.int .i64 r) := bc hb (by first | exact b3_3 | exact ca b3_3 | exact ca (ca b3_3) | exact ca (ca (ca b3_3)) | (simp; done) | go_simp)
    have bl_4 : w1.heap.size < w5.heap.size := cell_lt b0_4
    clear b0_3 b1_3 b2_3 b3_3 bl_3
    have HBq : Below w.heap.size w w5 := HB.out.trans (hb.mono HB.out.size)
    have HB := Lib.hid HBq
    clear HBq hb
    rcases hp with ⟨h0, _⟩ | ⟨_, g2, cc, cap2, rfl, d1, d2, d3, d4, pb⟩
    · omega
    clear pb
    unfold maxLen at d4
    go_wp2
    go_ret
    exact ⟨ret_bool (by first | rfl | (simp; done) | (simp; omega)), HB.out⟩
set_option maxRecDepth 100000 in
set_option maxHeartbeats 8000000 in
theorem fnFlowsOf_walk (a : Option Addr) (len cap : Nat) (w : World) (hM : MD w) (hlc : len ≤ cap) (hc : cap ≤ maxLen) (h : IsBytes w a len) :
    Calls Tryd.prog 7 #[.slice a len cap] w fun ed w' => ed = .returned (.bool true) ∧ Below w.heap.size w w' := by
  by_cases hbig : 1048576 < len
  · exact big_FnFlowsOf a len cap w hlc hc hbig
  have hM1 := hM.size
  have HM := Lib.hid hM
  have H := Lib.hid h
  clear h hM
  go_enter Tryd.func7, Tryd.ntmps7
  have HB := Lib.hid (Below.refl w.heap.size w)
  go_wp2_with fail
  refine (drawFlowsOf_any _ _ _ _ hlc hc H.out).mono ?_
  rintro e w1 ⟨s, e, m, r, rfl, hs, he, hm, hr, hb⟩
  have hszw1 := below_size hb
  try simp at hszw1
  have HBq : Below w.heap.size w w1 := Below.trans (by repeat (first | exact Below.refl _ _ | exact HB.out | refine Below.drew ?_ | refine bel_drewN _ ?_ | refine Below.alloc ?_ (by first | omega | (simp; done) | (simp; omega)) _ | refine Below.setCell ?_ (by first | (show _ ≤ _; omega) | (simp; done) | (simp; omega)) _)) (hb.mono (by first | omega | (simp; done) | (simp; omega)))
  have HB := Lib.hid HBq
  clear HBq hb
  have hr1 : r ≤ 3001 := hr.2
  have hr0 : -1 ≤ r := hr.1
  clear hs he hm hr
  have HI : Hid (∀ W : World, MD W → Calls Tryd.prog 18 #[.agg #[.int .i64 s, .int .i64 e, .int .i64 m, .int .i64 r]] W (FlOf s e m r W)) := Lib.hid fun W h => flowsOfI_any s e m r W h
  have HS : Hid (∀ W : World, MD W → Calls Tryd.prog 24 #[.agg #[.int .i64 s, .int .i64 e, .int .i64 m, .int .i64 r]] W (FlOf s e m r W)) := Lib.hid fun W h => flowsOfS_any s e m r W h
  have hle := (fl_ok s e m r).le
  unfold FlOf at HI HS
  cases hbd : bdB s e m r
  · have hL0 := flL_no hbd
    rw [hL0] at HI HS
    generalize flF s e m r = A at *
    clear hL0 hle
    go_wp2_with fail
    refine (HI.out _ (by exact HM.out.fwd (by repeat (first | exact Below.refl _ _ | exact HB.out.mono hM1 | refine Below.drew ?_ | refine bel_drewN _ ?_ | refine Below.alloc ?_ (by first | omega | (simp; done) | (simp; omega)) _ | refine Below.setCell ?_ (by first | (show _ ≤ _; omega) | (simp; done) | (simp; omega)) _)))).mono ?_
    rintro ed w2 ⟨v1, rfl, hv1, hb⟩
    have hzw2 := hb.size
    have b0_1 : w2.cell? ⟨w1.heap.size, 0, none⟩ = some (.int .i64 s) := bc hb (by first | (simp; done) | go_simp)
    have b1_1 : w2.cell? ⟨w1.heap.size, 1, none⟩ = some (.int .i64 e) := bc hb (by first | (simp; done) | go_simp)
    have b2_1 : w2.cell? ⟨w1.heap.size, 2, none⟩ = some (.int .i64 m) := bc hb (by first | (simp; done) | go_simp)
    have b3_1 : w2.cell? ⟨w1.heap.size, 3, none⟩ = some (.int .i64 r) := bc hb (by first | (simp; done) | go_simp)
    have bl_1 : w1.heap.size < w2.heap.size := cell_lt b0_1
    have HV1 := Lib.hid hv1
    have HBq : Below w.heap.size w w2 := (HB.out.alloc (by have := HB.out.size; omega) _).trans (hb.mono (by have := HB.out.size; simp; omega))
    have HB := Lib.hid HBq
    clear HBq hb
    go_wp2_with fail
    refine (HS.out _ (by exact HM.out.fwd (by repeat (first | exact Below.refl _ _ | exact HB.out.mono hM1 | refine Below.drew ?_ | refine bel_drewN _ ?_ | refine Below.alloc ?_ (by first | omega | (simp; done) | (simp; omega)) _ | refine Below.setCell ?_ (by first | (show _ ≤ _; omega) | (simp; done) | (simp; omega)) _)))).mono ?_
    rintro ed w3 ⟨v0, rfl, hv0, hb⟩
    have hzw3 := hb.size
    have b0_2 : w3.cell? ⟨w1.heap.size, 0, none⟩ = some (.int .i64 s) := bc hb (by first | exact b0_1 | exact ca b0_1 | exact ca (ca b0_1) | exact ca (ca (ca b0_1)) | (simp; done) | go_simp)
    have b1_2 : w3.cell? ⟨w1.heap.size, 1, none⟩ = some (.int .i64 e) := bc hb (by first | exact b1_1 | exact ca b1_1 | exact ca (ca b1_1) | exact ca (ca (ca b1_1)) | (simp; done) | go_simp)
    have b2_2 : w3.cell? ⟨w1.heap.size, 2, none⟩ = some (.int .i64 m) := bc hb (by first | exact b2_1 | exact ca b2_1 | exact ca (ca b2_1) | exact ca (ca (ca b2_1)) | (simp; done) | go_simp)
    have b3_2 : w3.cell? ⟨w1.heap.size, 3, none⟩ = some (.int .i64 r) := bc hb (by first | exact b3_1 | exact ca b3_1 | exact ca (ca b3_1) | exact ca (ca (ca b3_1)) | (simp; done) | go_simp)
    have bl_2 : w1.heap.size < w3.heap.size := cell_lt b0_2
    clear b0_1 b1_1 b2_1 b3_1 bl_1
    have HV1 := Lib.hid (HV1.out.below hb)
    have HV0 := Lib.hid hv0
    clear hv0
    have HBq : Below w.heap.size w w3 := HB.out.trans (hb.mono HB.out.size)
    have HB := Lib.hid HBq
    clear HBq hb
    rcases hv1 with ⟨_, va, vc, rfl, hvc⟩ | ⟨h0, _⟩
    · skip
      go_wp2_with fail
      refine (equalFlows_any _ _ _ _ _ _ _ (by omega) HV1.out HV0.out).mono ?_
      rintro ed w4 ⟨rfl, hb⟩
      have hzw4 := hb.size
      have b0_3 : w4.cell? ⟨w1.heap.size, 0, none⟩ = some (.int .i64 s) := bc hb (by first | exact b0_2 | exact ca b0_2 | exact ca (ca b0_2) | exact ca (ca (ca b0_2)) | (simp; done) | go_simp)
      have b1_3 : w4.cell? ⟨w1.heap.size, 1, none⟩ = some (.int .i64 e) := bc hb (by first | exact b1_2 | exact ca b1_2 | exact ca (ca b1_2) | exact ca (ca (ca b1_2)) | (simp; done) | go_simp)
      have b2_3 : w4.cell? ⟨w1.heap.size, 2, none⟩ = some (.int .i64 m) := bc hb (by first | exact b2_2 | exact ca b2_2 | exact ca (ca b2_2) | exact ca (ca (ca b2_2)) | (simp; done) | go_simp)
      have b3_3 : w4.cell? ⟨w1.heap.size, 3, none⟩ = some (.int .i64 r) := bc hb (by first | exact b3_2 | exact ca b3_2 | exact ca (ca b3_2) | exact ca (ca (ca b3_2)) | (simp; done) | go_simp)
      have bl_3 : w1.heap.size < w4.heap.size := cell_lt b0_3
      clear b0_2 b1_2 b2_2 b3_2 bl_2
      have HV1 := Lib.hid (HV1.out.below hb)
      have HBq : Below w.heap.size w w4 := HB.out.trans (hb.mono HB.out.size)
      have HB := Lib.hid HBq
      clear HBq hb
      go_wp2_with fail
      refine (HS.out _ (by exact HM.out.fwd (by repeat (first | exact Below.refl _ _ | exact HB.out.mono hM1 | refine Below.drew ?_ | refine bel_drewN _ ?_ | refine Below.alloc ?_ (by first | omega | (simp; done) | (simp; omega)) _ | refine Below.setCell ?_ (by first | (show _ ≤ _; omega) | (simp; done) | (simp; omega)) _)))).mono ?_
      rintro ed w5 ⟨v2, rfl, hv2, hb⟩
      have hzw5 := hb.size
      have b0_4 : w5.cell? ⟨w1.heap.size, 0, none⟩ = some (.int .i64 s) := bc hb (by first | exact b0_3 | exact ca b0_3 | exact ca (ca b0_3) | exact ca (ca (ca b0_3)) | (simp; done) | go_simp)
      have b1_4 : w5.cell? ⟨w1.heap.size, 1, none⟩ = some (.int .i64 e) := bc hb (by first | exact b1_3 | exact ca b1_3 | exact ca (ca b1_3) | exact ca (ca (ca b1_3)) | (simp; done) | go_simp)
      have b2_4 : w5.cell? ⟨w1.heap.size, 2, none⟩ = some (.int .i64 m) := bc hb (by first | exact b2_3 | exact ca b2_3 | exact ca (ca b2_3) | exact ca (ca (ca b2_3)) | (simp; done) | go_simp)
      have b3_4 : w5.cell? ⟨w1.heap.size, 3, none⟩ = some (.int .i64 r) := bc hb (by first | exact b3_3 | exact ca b3_3 | exact ca (ca b3_3) | exact ca (ca (ca b3_3)) | (simp; done) | go_simp)
      have bl_4 : w1.heap.size < w5.heap.size := cell_lt b0_4
      clear b0_3 b1_3 b2_3 b3_3 bl_3
      have HV1 := Lib.hid (HV1.out.below hb)
      have HV2 := Lib.hid hv2
      clear hv2
      have HBq : Below w.heap.size w w5 := HB.out.trans (hb.mono HB.out.size)
      have HB := Lib.hid HBq
      clear HBq hb
      go_wp2_with fail
      refine (equalFlows_any _ _ _ _ _ _ _ (by omega) HV1.out HV2.out).mono ?_
      rintro ed w6 ⟨rfl, hb⟩
      have hzw6 := hb.size
      have b0_5 : w6.cell? ⟨w1.heap.size, 0, none⟩ = some (.int .i64 s) := bc hb (by first | exact b0_4 | exact ca b0_4 | exact ca (ca b0_4) | exact ca (ca (ca b0_4)) | (simp; done) | go_simp)
      have b1_5 : w6.cell? ⟨w1.heap.size, 1, none⟩ = some (.int .i64 e) := bc hb (by first | exact b1_4 | exact ca b1_4 | exact ca (ca b1_4) | exact ca (ca (ca b1_4)) | (simp; done) | go_simp)
      have b2_5 : w6.cell? ⟨w1.heap.size, 2, none⟩ = some (.int .i64 m) := bc hb (by first | exact b2_4 | exact ca b2_4 | exact ca (ca b2_4) | exact ca (ca (ca b2_4)) | (simp; done) | go_simp)
      have b3_5 : w6.cell? ⟨w1.heap.size, 3, none⟩ = some (.int .i64 r) := bc hb (by first | exact b3_4 | exact ca b3_4 | exact ca (ca b3_4) | exact ca (ca (ca b3_4)) | (simp; done) | go_simp)
      have bl_5 : w1.heap.size < w6.heap.size := cell_lt b0_5
      clear b0_4 b1_4 b2_4 b3_4 bl_4
      have HBq : Below w.heap.size w w6 := HB.out.trans (hb.mono HB.out.size)
      have HB := Lib.hid HBq
      clear HBq hb
      go_wp2
      go_ret
      exact ⟨ret_bool (by first | rfl | (simp; done) | (simp; omega)), HB.out⟩
    · omega
  · have ok := fl_ok s e m r
    have hpos : 1 ≤ flL s e m r := by rw [flL_yes hbd]; exact (bd_facts hbd).2.2.2.2.2.1
    obtain ⟨l, hl⟩ : ∃ l, flL s e m r = l + 1 := ⟨flL s e m r - 1, by omega⟩
    obtain ⟨fe1, fe2⟩ := fl_end (l := l) hbd (by rw [← flL_yes hbd]; exact hl)
    rw [hl] at HI HS ok hle
    clear hl hpos
    generalize flF s e m r = A at *
    have HOK := Lib.hid ok
    have HFE := Lib.hid fe1
    have hLp : (l + 1 == 0) = false := by simp
    clear ok fe1
    go_wp2_with fail
    refine (HI.out _ (by exact HM.out.fwd (by repeat (first | exact Below.refl _ _ | exact HB.out.mono hM1 | refine Below.drew ?_ | refine bel_drewN _ ?_ | refine Below.alloc ?_ (by first | omega | (simp; done) | (simp; omega)) _ | refine Below.setCell ?_ (by first | (show _ ≤ _; omega) | (simp; done) | (simp; omega)) _)))).mono ?_
    rintro ed w2 ⟨v1, rfl, hv1, hb⟩
    have hzw2 := hb.size
    have b0_1 : w2.cell? ⟨w1.heap.size, 0, none⟩ = some (.int .i64 s) := bc hb (by first | (simp; done) | go_simp)
    have b1_1 : w2.cell? ⟨w1.heap.size, 1, none⟩ = some (.int .i64 e) := bc hb (by first | (simp; done) | go_simp)
    have b2_1 : w2.cell? ⟨w1.heap.size, 2, none⟩ = some (.int .i64 m) := bc hb (by first | (simp; done) | go_simp)
    have b3_1 : w2.cell? ⟨w1.heap.size, 3, none⟩ = some (.int .i64 r) := bc hb (by first | (simp; done) | go_simp)
    have bl_1 : w1.heap.size < w2.heap.size := cell_lt b0_1
    have HV1 := Lib.hid hv1
    have HBq : Below w.heap.size w w2 := (HB.out.alloc (by have := HB.out.size; omega) _).trans (hb.mono (by have := HB.out.size; simp; omega))
    have HB := Lib.hid HBq
    clear HBq hb
    go_wp2_with fail
    refine (HS.out _ (by exact HM.out.fwd (by repeat (first | exact Below.refl _ _ | exact HB.out.mono hM1 | refine Below.drew ?_ | refine bel_drewN _ ?_ | refine Below.alloc ?_ (by first | omega | (simp; done) | (simp; omega)) _ | refine Below.setCell ?_ (by first | (show _ ≤ _; omega) | (simp; done) | (simp; omega)) _)))).mono ?_
    rintro ed w3 ⟨v0, rfl, hv0, hb⟩
    have hzw3 := hb.size
    have b0_2 : w3.cell? ⟨w1.heap.size, 0, none⟩ = some (.int .i64 s) := bc hb (by first | exact b0_1 | exact ca b0_1 | exact ca (ca b0_1) | exact ca (ca (ca b0_1)) | (simp; done) | go_simp)
    have b1_2 : w3.cell? ⟨w1.heap.size, 1, none⟩ = some (.int .i64 e) := bc hb (by first | exact b1_1 | exact ca b1_1 | exact ca (ca b1_1) | exact ca (ca (ca b1_1)) | (simp; done) | go_simp)
    have b2_2 : w3.cell? ⟨w1.heap.size, 2, none⟩ = some (.int .i64 m) := bc hb (by first | exact b2_1 | exact ca b2_1 | exact ca (ca b2_1) | exact ca (ca (ca b2_1)) | (simp; done) | go_simp)
    have b3_2 : w3.cell? ⟨w1.heap.size, 3, none⟩ = some (.int .i64 r) := bc hb (by first | exact b3_1 | exact ca b3_1 | exact ca (ca b3_1) | exact ca (ca (ca b3_1)) | (simp; done) | go_simp)
    have bl_2 : w1.heap.size < w3.heap.size := cell_lt b0_2
    clear b0_1 b1_1 b2_1 b3_1 bl_1
    have HV1 := Lib.hid (HV1.out.below hb)
    have HV0 := Lib.hid hv0
    clear hv0
    have HBq : Below w.heap.size w w3 := HB.out.trans (hb.mono HB.out.size)
    have HB := Lib.hid HBq
    clear HBq hb
    rcases hv1 with ⟨h0, _⟩ | ⟨_, g, c, cap', rfl, b1, c1, c2, fb⟩
    · omega
    clear fb
    go_wp2_with fail
    refine (equalFlows_any _ _ _ _ _ _ _ (by omega) HV1.out HV0.out).mono ?_
    rintro ed w4 ⟨rfl, hb⟩
    have hzw4 := hb.size
    have b0_3 : w4.cell? ⟨w1.heap.size, 0, none⟩ = some (.int .i64 s) := bc hb (by first | exact b0_2 | exact ca b0_2 | exact ca (ca b0_2) | exact ca (ca (ca b0_2)) | (simp; done) | go_simp)
    have b1_3 : w4.cell? ⟨w1.heap.size, 1, none⟩ = some (.int .i64 e) := bc hb (by first | exact b1_2 | exact ca b1_2 | exact ca (ca b1_2) | exact ca (ca (ca b1_2)) | (simp; done) | go_simp)
    have b2_3 : w4.cell? ⟨w1.heap.size, 2, none⟩ = some (.int .i64 m) := bc hb (by first | exact b2_2 | exact ca b2_2 | exact ca (ca b2_2) | exact ca (ca (ca b2_2)) | (simp; done) | go_simp)
    have b3_3 : w4.cell? ⟨w1.heap.size, 3, none⟩ = some (.int .i64 r) := bc hb (by first | exact b3_2 | exact ca b3_2 | exact ca (ca b3_2) | exact ca (ca (ca b3_2)) | (simp; done) | go_simp)
    have bl_3 : w1.heap.size < w4.heap.size := cell_lt b0_3
    clear b0_2 b1_2 b2_2 b3_2 bl_2
    have HV1 := Lib.hid (HV1.out.below hb)
    have HBq : Below w.heap.size w w4 := HB.out.trans (hb.mono HB.out.size)
    have HB := Lib.hid HBq
    clear HBq hb
    rcases HV1.out with ⟨h0, _⟩ | ⟨_, g', c', cap'', hq, b1', c1', c2', fb⟩
    · omega
    cases hq
    have hg := fb.lt
    have FB1 := Lib.hid fb
    clear fb
    go_wp2_with fail
    go_loopw [5] (fun i wr => ∃ t : Nat, t ≤ l + 1 ∧ i = .int .i64 t ∧ Below w4.heap.size w4 wr) (fun i _ => l + 1 - (intOf i).toNat)
    case atStart => exact ⟨0, Nat.zero_le _, rfl, Below.refl _ _⟩
    case round =>
      obtain ⟨t, ht, rfl, hbel⟩ := hrel
      have HBL := Lib.hid hbel
      have FBr := FB1.out.fwd hbel hg
      have hszr := hbel.size
      by_cases hlt : t < l + 1
      · obtain ⟨⟨p0, p1⟩, _⟩ := FBr.cells hlt
        obtain ⟨a0, a1⟩ := HOK.out.amt t hlt
        have i0 : (0 : Int) ≤ (t : Int) := by omega
        have i1 : (t : Int) < (l : Int) + 1 := by omega
        have d1 : decide ((A t).2 < 0) = false := by simpa using a0
        by_cases ht0 : t = 0
        · subst ht0
          simp only [Nat.zero_mul, Nat.zero_add] at p0 p1
          generalize (A 0).1 = x at *
          generalize (A 0).2 = y at *
          clear hbel FBr
          go_wp2_with fail
          go_quiet (fail)
          go_wp2
          go_roundw
          case rel => exact ⟨1, by omega, by go_num, bel_drewN _ HBL.out⟩
          case measure => first | (simp [intOf]; done) | (simp [intOf]; omega)
        · obtain ⟨u, rfl⟩ : ∃ u, t = u + 1 := ⟨t - 1, by omega⟩
          obtain ⟨⟨q0, q1⟩, _⟩ := FBr.cells (show u < l + 1 by omega)
          have hasc := HOK.out.asc u (u + 1) hlt (by omega)
          have d2 : decide ((A (u + 1)).1 ≤ (A u).1) = false := by simpa using hasc
          have wr1 : IntKind.i64.wrap (((u + 1 : Nat) : Int) - 1) = (u : Int) := by rw [IntWalk.i64_in _ (by omega)]; omega
          have d3 : decide ((0 : Int) < ((u + 1 : Nat) : Int)) = true := decide_eq_true (by omega)
          have j0 : (0 : Int) ≤ (u : Int) := by omega
          have j1 : (u : Int) < (l : Int) + 1 := by omega
          generalize (A (u + 1)).1 = x at *
          generalize (A (u + 1)).2 = y at *
          generalize (A u).1 = x' at *
          generalize (A u).2 = y' at *
          clear hbel FBr
          go_wp2_with fail
          go_quiet (fail)
          clear wr1
          go_wp2
          go_roundw
          case rel => exact ⟨u + 1 + 1, by omega, by go_num, bel_drewN _ HBL.out⟩
          case measure => first | (simp [intOf]; done) | (simp [intOf]; omega)
      · obtain rfl : t = l + 1 := by omega
        obtain ⟨⟨p0, p1⟩, _⟩ := FBr.cells (show l < l + 1 by omega)
        rw [HFE.out] at p0
        have hbl : w1.heap.size < wr.heap.size := by omega
        have y1 : wr.cell? ⟨w1.heap.size, 1, none⟩ = some (.int .i64 e) := bc HBL.out (by assumption)
        have d1 : decide (10000 ≤ (A l).2) = true := by simpa using fe2
        generalize (A l).2 = y at *
        have j0 : (0 : Int) ≤ (l : Int) := by omega
        clear hbel FBr
        go_wp2
        go_ret
        exact ⟨ret_bool (by first | rfl | (simp; done) | (simp; omega)), HB.out.trans ((HBL.out.alloc (by omega) _).mono HB.out.size)⟩
end Go.Proofs.YtoidghdgebdfaaaDoor
