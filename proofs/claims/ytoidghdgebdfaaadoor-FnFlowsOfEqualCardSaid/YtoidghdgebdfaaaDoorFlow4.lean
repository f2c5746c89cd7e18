/- Bonds: the program's payments. -/
import Derived.Test.YtoidghdgebdfaaaDoorFlow3
import Derived.OwnWalk
namespace Go.Proofs.YtoidghdgebdfaaaDoor
open Go.RowKit
set_option linter.unusedVariables false
set_option maxHeartbeats 4000000 in
theorem flowsI_any (s e m r : Int) (l : Nat) (A : Nat → Int × Int × Bool) (w : World) (hM : MD w) (hm : m = 1 ∨ m = 3 ∨ m = 6 ∨ m = 12) (hr : 0 ≤ r ∧ r ≤ 3000) (hL : l + 1 ≤ 41) (hA : PerOk A (l + 1))
    (hS : ∀ W : World, MD W → Calls Tryd.prog 41 #[.agg #[.int .i64 s, .int .i64 e, .int .i64 m, .int .i64 r]] W fun ed w' => ∃ v, ed = .returned v ∧ PV w' W.heap.size v (l + 1) A ∧ Below W.heap.size W w') :
    Calls Tryd.prog 37 #[.agg #[.int .i64 s, .int .i64 e, .int .i64 m, .int .i64 r]] w (FlPost m r A (l + 1) w) := by
  have hM1 := hM.size
  have HM := Lib.hid hM
  have HS := Lib.hid hS
  have HA := Lib.hid hA
  have Hm := Lib.hid hm
  have Hr := Lib.hid hr
  obtain ⟨iF, hj, hy0, hy1, hy2⟩ := info_parts infoFlow
  clear hM hS hA hm hr
  go_enter Tryd.func37, Tryd.ntmps37
  go_wp2_with fail
  refine (HS.out _ (HM.out.fwd ((Below.refl _ _).alloc (by omega) _))).mono ?_
  rintro ed w1 ⟨v, rfl, hp, hb⟩
  rcases hp with ⟨h0, _⟩ | ⟨_, g, c, cap, rfl, b1, c1, c2, c3, pb⟩
  · omega
  have hb0 : w1.cell? ⟨w.heap.size, 0, none⟩ = some (.int .i64 s) := bc hb (by simp)
  have hb1 : w1.cell? ⟨w.heap.size, 1, none⟩ = some (.int .i64 e) := bc hb (by simp)
  have hb2 : w1.cell? ⟨w.heap.size, 2, none⟩ = some (.int .i64 m) := bc hb (by simp)
  have hb3 : w1.cell? ⟨w.heap.size, 3, none⟩ = some (.int .i64 r) := bc hb (by simp)
  have HBW : Hid (Below w.heap.size w w1) := Below.trans ((Below.refl _ _).alloc (Nat.le_refl _) _) (hb.mono (by simp))
  have hz := hb.size
  simp at hz b1
  have PB1 := Lib.hid pb
  have hg := pb.lt
  clear hb
  unfold maxLen at c3
  go_wp2_with (at_make; refine wpList_make_own _ rfl _ _ 31 rfl w1.heap.size 37 iF (.agg #[.int .i64 0, .int .i64 0]) 2 Tryd.underlying31 hj hy0 hy1 .i64 .i64 _ (l + 1) rfl rfl (by first | rfl | omega | (simp; done)) (by rw [hy2]; omega) (by unfold maxLen; omega) (Nat.le_refl _) ?_; intro w0 hown0 hgrow0)
  have HO0 := Lib.hid hown0
  have HB0 : Hid (Below w1.heap.size w1 w0) := Below.grown (Below.refl _ _) hgrow0 (Nat.le_refl _) (fun k hk => by cases hk)
  have hz0 := HB0.out.size
  have hb0 := bc HB0.out hb0
  have hb1 := bc HB0.out hb1
  have hb2 := bc HB0.out hb2
  have hb3 := bc HB0.out hb3
  have PB1 : Hid (PB w0 g cap (l + 1) A) := PB.below PB1.out HB0.out
  have HM1 : Hid (MD w0) := (HM.out.fwd (HBW.out.mono hM1)).fwd (HB0.out.mono (by omega))
  clear hown0 hgrow0 pb
  go_wp2_with fail
  go_loopw [4, 14] (fun v i wr => ∃ (t : Nat) (vv : Value), vv = v ∧ t ≤ l + 1 ∧ i = .int .i64 t ∧ wr.ownsRow w1.heap.size 37 2 v t (flatF (fA0 m r A) t) ∧ PB wr g cap (l + 1) A ∧ Below w1.heap.size w0 wr) (fun _ i _ => l + 1 - (intOf i).toNat)
  case atStart =>
    exact ⟨0, _, rfl, Nat.zero_le _, rfl, HO0.out, PB1.out, Below.refl _ _⟩
  case round =>
    obtain ⟨t, v, rfl, ht, rfl, hown, hpb, hbel⟩ := hrel
    have HO := Lib.hid hown
    have HPB := Lib.hid hpb
    have HBL := Lib.hid hbel
    have hs2 := hbel.size
    by_cases hlt : t < l + 1
    · obtain ⟨⟨p0, p1, p2⟩, _⟩ := hpb.cells hlt
      have hgw := hpb.lt
      have q0 : wr.cell? ⟨w.heap.size, 0, none⟩ = some (.int .i64 s) := (hbel.cell (by show w.heap.size < _; omega)).trans hb0
      have q1 : wr.cell? ⟨w.heap.size, 1, none⟩ = some (.int .i64 e) := (hbel.cell (by show w.heap.size < _; omega)).trans hb1
      have q2 : wr.cell? ⟨w.heap.size, 2, none⟩ = some (.int .i64 m) := (hbel.cell (by show w.heap.size < _; omega)).trans hb2
      have q3 : wr.cell? ⟨w.heap.size, 3, none⟩ = some (.int .i64 r) := (hbel.cell (by show w.heap.size < _; omega)).trans hb3
      have hqz : w.heap.size < wr.heap.size := by omega
      obtain ⟨f0, f1, f2⟩ := HA.out t hlt
      have HM2 : Hid (∀ o, MD (wr.alloc o).drew) := Lib.hid fun o => ((HM1.out.fwd (hbel.mono (by omega))).fwd ((Below.refl _ _).alloc (by omega) _)).fwd below_drew
      have i0 : (0 : Int) ≤ (t : Int) := by omega
      have i1 : (t : Int) < (l : Int) + 1 := by omega
      have hn1 : some wr.heap.size ≠ v.ownBlock := fun e => by have := (hown.lt _ e.symm).2; omega
      have hn2 : some w.heap.size ≠ v.ownBlock := fun e => by have := (hown.lt _ e.symm).1; omega
      have HN1 : Hid (some g ≠ v.ownBlock) := Lib.hid fun e => by have := (hown.lt _ e.symm).1; omega
      have HF : Hid (fA0 m r A t = ((A t).2.1, cpn m r (A t).1 (A t).2.1 (A t).2.2)) := Lib.hid rfl
      have HC : Hid (∀ W : World, MD W → Calls Tryd.prog 55 #[.agg #[.int .i64 s, .int .i64 e, .int .i64 m, .int .i64 r], .agg #[.int .i64 (A t).1, .int .i64 (A t).2.1, .bool (A t).2.2]] W fun ed w' => ed = .returned (.int .i64 (cpn m r (A t).1 (A t).2.1 (A t).2.2)) ∧ Below W.heap.size W w') := Lib.hid fun W h => couponI_any s e m r _ _ _ W h Hm.out Hr.out f0 f1 f2
      generalize (A t).1 = pf at *
      generalize (A t).2.1 = pt at *
      generalize (A t).2.2 = pw at *
      generalize cpn m r pf pt pw = cc at *
      clear hb0 hb1 hb2 hb3 hown hpb hbel
      go_wp2_with fail
      go_region_held3 (fun w' => (w'.cell? ⟨w.heap.size, 0, none⟩ = some (.int .i64 s) ∧ w'.cell? ⟨w.heap.size, 1, none⟩ = some (.int .i64 e) ∧ w'.cell? ⟨w.heap.size, 2, none⟩ = some (.int .i64 m) ∧ w'.cell? ⟨w.heap.size, 3, none⟩ = some (.int .i64 r)) ∧ w'.cell? ⟨wr.heap.size, 0, none⟩ = some (.int .i64 pf) ∧ w'.cell? ⟨wr.heap.size, 1, none⟩ = some (.int .i64 pt) ∧ w'.cell? ⟨wr.heap.size, 2, none⟩ = some (.bool pw))
        ((go_split_ands; refine ⟨⟨?_, ?_, ?_, ?_⟩, ?_, ?_, ?_⟩ <;> first | assumption | (with_reducible exact bc hb (by first | assumption | (simp; assumption))) | (with_reducible exact ca (by assumption)) | (with_reducible exact gcell hgr (by assumption) (by assumption)) | (exact ca (w := wr) (by assumption)) | (simp; done) | (simp; assumption)))
        (first | (go_at_call 55; (with_reducible refine (HC.out _ (HM2.out _)).mono ?_); rintro e v1 ⟨rfl, hb⟩) | (refine step_append_lies _ (by rfl) _ _ _ (by rfl) w1.heap.size 37 iF (.agg #[.int .i64 0, .int .i64 0]) 2 16 Tryd.underlying31 hj hy0 hy1 hy2 rfl (by decide) _ _ _ (by rfl) ((own_below (own_below (HO.out.alloc _) below_drew) hb).alloc _) ⟨v1.heap.size, 0, none⟩ 1 1 [.int .i64 pt, .int .i64 cc] (by rfl) rfl (news_at _ _ _) (by simp [Value.oneCell']) (by decide) (by unfold maxLen; omega) (by omega) (by have := hb.size; simp; simp at this; omega) _ rfl ?_; intro g2 cap2 w2 hown2 hgr hat hlt2))
      have hv1 := hb.size
      simp at hv1
      have HB2 : Hid (Below w1.heap.size w0 w2) := Below.grown ((((HBL.out.alloc (by omega) _).trans below_drew).trans (hb.mono (by simp; omega))).alloc (by omega) _) hgr (by simp; omega) (fun k hk => (HO.out.lt k hk).1)
      have HP2 : Hid (PB w2 g cap (l + 1) A) := PB.kept (PB.below (PB.below (PB.drew (PB.below HPB.out ((Below.refl _ _).alloc (Nat.le_refl _) _))) hb) ((Below.refl _ _).alloc (Nat.le_refl _) _)) hgr HN1.out
      have HO2 := Lib.hid hown2
      clear hown2 hgr hat hb q0 q1 q2 q3 p0 p1 p2 hn1 hn2
      go_wp2
      go_roundw
      case rel => exact ⟨t + 1, _, rfl, by omega, by go_num, by rw [flatF_succ, HF.out]; exact HO2.out, HP2.out, HB2.out⟩
      case measure => first | (simp [intOf]; done) | (simp [intOf]; omega)
    · obtain rfl : t = l + 1 := by omega
      obtain ⟨g2, cap2, rfl, d1, d2, d3, d4⟩ := own_slice hown (by omega)
      have fb := fb_of_own hown
      obtain ⟨⟨_, a1⟩, fz⟩ := fb.cells (show l < l + 1 by omega)
      have f1 := fz (l * 2 + 1)
      have HFB := Lib.hid fb
      have HA := HA.out l (by omega)
      have hcb := cpn_bd (m := m) (r := r) (F := (A l).1) (T := (A l).2.1) (W := (A l).2.2) Hm.out Hr.out HA.1 HA.2.1 HA.2.2
      obtain ⟨cc0, cc1⟩ := hcb
      have HFU : Hid (∀ j, j < l + 1 → updF (fA0 m r A) l ((fA0 m r A l).1, (fA0 m r A l).2 + 10000) j = fA m r A (l + 1) j) := Lib.hid fun j hj => fA_upd m r A l j hj
      have e1 : 0 ≤ (fA0 m r A l).2 := cc0
      have e2 : (fA0 m r A l).2 ≤ 200000000 := cc1
      unfold maxLen at d4
      clear fz fb hown hpb hbel cc0 cc1 HA hb0 hb1 hb2 hb3
      obtain ⟨x, hx⟩ : ∃ x, (fA0 m r A l).2 = x := ⟨_, rfl⟩
      have HX := Lib.hid hx
      rw [hx] at a1 e1 e2
      clear hx
      go_wp2
      go_ret
      refine ⟨_, rfl, .inr ⟨by omega, g2, cap2, cap2, rfl, by omega, d3, by omega, ?_⟩, ?_⟩
      · refine (HFB.out.set1 l (by omega) (x + 10000)).congr (fun j hj => ?_)
        rw [← HFU.out j hj, HX.out]
      · exact Below.setCell (HBW.out.trans (HB0.out.trans HBL.out |>.mono (by omega))) (by show _ ≤ g2; omega) _
end Go.Proofs.YtoidghdgebdfaaaDoor
