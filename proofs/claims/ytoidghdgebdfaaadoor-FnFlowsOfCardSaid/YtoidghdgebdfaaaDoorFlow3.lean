/- Bonds: the payments. -/
import Derived.Test.YtoidghdgebdfaaaDoorFlow2
import Derived.Deep.AppendLies
namespace Go.Proofs.YtoidghdgebdfaaaDoor
open Go.RowKit
set_option linter.unusedVariables false
theorem infoFlow : (Tryd.prog.info? 37).map (fun i => (i.zero, i.size, i.bytes)) = some (some (.agg #[.int .i64 0, .int .i64 0]), 2, 16) := by kernel_rfl
theorem below_drew {w : World} {B : Nat} : Below B w w.drew := ⟨rfl, rfl, rfl, Nat.le_refl _, fun _ _ => rfl⟩
/-- what flows returns -/
def FlPost (m r : Int) (A : Nat → Int × Int × Bool) (n : Nat) (w : World) (ed : Ending) (w' : World) : Prop :=
  ∃ v, ed = .returned v ∧ FV w' w.heap.size v n (fA m r A n) ∧ Below w.heap.size w w'
set_option maxHeartbeats 4000000 in
theorem flowsS_any (s e m r : Int) (l : Nat) (A : Nat → Int × Int × Bool) (w : World) (hM : MD w) (hm : m = 1 ∨ m = 3 ∨ m = 6 ∨ m = 12) (hr : 0 ≤ r ∧ r ≤ 3000) (hL : l + 1 ≤ 41) (hA : PerOk A (l + 1))
    (hS : ∀ W : World, Calls Tryd.prog 53 #[.int .i64 s, .int .i64 e, .int .i64 m] W fun ed w' => ∃ v, ed = .returned v ∧ PV w' W.heap.size v (l + 1) A ∧ Below W.heap.size W w') :
    Calls Tryd.prog 36 #[.agg #[.int .i64 s, .int .i64 e, .int .i64 m, .int .i64 r]] w (FlPost m r A (l + 1) w) := by
  have hM1 := hM.size
  have HM := Lib.hid hM
  have HS := Lib.hid hS
  have HA := Lib.hid hA
  have Hm := Lib.hid hm
  have Hr := Lib.hid hr
  obtain ⟨iF, hj, hy0, hy1, hy2⟩ := info_parts infoFlow
  clear hM hS hA hm hr
  go_enter Tryd.func36, Tryd.ntmps36
  go_wp2_with fail
  refine (HS.out _).mono ?_
  rintro ed w1 ⟨v, rfl, hp, hb⟩
  rcases hp with ⟨h0, _⟩ | ⟨_, g, c, cap, rfl, b1, c1, c2, c3, pb⟩
  · omega
  have hb0 : w1.cell? ⟨w.heap.size, 0, none⟩ = some (.int .i64 s) := bc hb (by simp)
  have hb1 : w1.cell? ⟨w.heap.size, 1, none⟩ = some (.int .i64 e) := bc hb (by simp)
  have hb2 : w1.cell? ⟨w.heap.size, 2, none⟩ = some (.int .i64 m) := bc hb (by simp)
  have hb3 : w1.cell? ⟨w.heap.size, 3, none⟩ = some (.int .i64 r) := bc hb (by simp)
  have HBW : Hid (Below w.heap.size w w1) := Below.trans (((Below.refl _ _).alloc (Nat.le_refl _) _).alloc (by simp) _) (hb.mono (by simp; omega))
  have hz := hb.size
  simp at hz b1
  have HO0 : Hid (w1.ownsRow (w.heap.size + 1) 37 2 (.slice (some ⟨w.heap.size + 1, 0, none⟩) 0 0) 0 []) := Lib.hid (own_below (by
    have := World.ownsRow_made (base := w.heap.size + 1) (e := 37) (size := 2) (w.alloc (.cells #[.int .i64 s, .int .i64 e, .int .i64 m, .int .i64 r] 25)) #[] 0 (by simp) (by decide) rfl
    simpa using this) hb)
  have PB1 := Lib.hid pb
  have hg := pb.lt
  have HM1 : Hid (MD w1) := HM.out.fwd (HBW.out.mono hM1)
  clear hb pb
  unfold maxLen at c3
  go_wp2_with fail
  go_loopw [3, 5] (fun v i wr => ∃ (t : Nat) (vv : Value), vv = v ∧ t ≤ l + 1 ∧ i = .int .i64 t ∧ wr.ownsRow (w.heap.size + 1) 37 2 v t (flatF (fA0 m r A) t) ∧ (v.ownBlock ≠ some g) ∧ PB wr g cap (l + 1) A ∧ Below (w.heap.size + 1) w1 wr) (fun _ i _ => l + 1 - (intOf i).toNat)
  case atStart =>
    refine ⟨0, _, rfl, Nat.zero_le _, rfl, HO0.out, ?_, PB1.out, Below.refl _ _⟩
    simp [Value.ownBlock]; omega
  case round =>
    obtain ⟨t, v, rfl, ht, rfl, hown, hne, hpb, hbel⟩ := hrel
    have HO := Lib.hid hown
    have HNE := Lib.hid hne
    have HPB := Lib.hid hpb
    have HBL := Lib.hid hbel
    have hs2 := hbel.size
    by_cases hlt : t < l + 1
    · obtain ⟨⟨p0, p1, p2⟩, _⟩ := hpb.cells hlt
      have hgw := hpb.lt
      have q0 : wr.cell? ⟨w.heap.size, 0, none⟩ = some (.int .i64 s) := (hbel.cell (by simp)).trans hb0
      have q1 : wr.cell? ⟨w.heap.size, 1, none⟩ = some (.int .i64 e) := (hbel.cell (by simp)).trans hb1
      have q2 : wr.cell? ⟨w.heap.size, 2, none⟩ = some (.int .i64 m) := (hbel.cell (by simp)).trans hb2
      have q3 : wr.cell? ⟨w.heap.size, 3, none⟩ = some (.int .i64 r) := (hbel.cell (by simp)).trans hb3
      have HM2 : Hid (MD wr.drew) := Lib.hid ((HM1.out.fwd (hbel.mono (by omega))).fwd below_drew)
      obtain ⟨f0, f1, f2⟩ := HA.out t hlt
      have i0 : (0 : Int) ≤ (t : Int) := by omega
      have i1 : (t : Int) < (l : Int) + 1 := by omega
      have hn1 : some g ≠ v.ownBlock := fun e => hne e.symm
      have hn2 : some w.heap.size ≠ v.ownBlock := fun e => by have := (hown.lt _ e.symm).1; omega
      have HF : Hid (fA0 m r A t = ((A t).2.1, cpn m r (A t).1 (A t).2.1 (A t).2.2)) := Lib.hid rfl
      have HC : Hid (∀ W : World, MD W → Calls Tryd.prog 54 #[.agg #[.int .i64 s, .int .i64 e, .int .i64 m, .int .i64 r], .agg #[.int .i64 (A t).1, .int .i64 (A t).2.1, .bool (A t).2.2]] W fun ed w' => ed = .returned (.int .i64 (cpn m r (A t).1 (A t).2.1 (A t).2.2)) ∧ Below W.heap.size W w') := Lib.hid fun W h => couponS_any s e m r _ _ _ W h Hm.out Hr.out f0 f1 f2
      generalize (A t).1 = pf at *
      generalize (A t).2.1 = pt at *
      generalize (A t).2.2 = pw at *
      generalize cpn m r pf pt pw = cc at *
      clear hb0 hb1 hb2 hb3 hown hne hpb hbel
      go_wp2_with fail
      go_region_held3 (fun w' => (w'.cell? ⟨w.heap.size, 0, none⟩ = some (.int .i64 s) ∧ w'.cell? ⟨w.heap.size, 1, none⟩ = some (.int .i64 e) ∧ w'.cell? ⟨w.heap.size, 2, none⟩ = some (.int .i64 m) ∧ w'.cell? ⟨w.heap.size, 3, none⟩ = some (.int .i64 r)) ∧ w'.cell? ⟨g, t * 3, none⟩ = some (.int .i64 pf) ∧ w'.cell? ⟨g, t * 3 + 1, none⟩ = some (.int .i64 pt) ∧ w'.cell? ⟨g, t * 3 + 2, none⟩ = some (.bool pw))
        ((go_split_ands; refine ⟨⟨?_, ?_, ?_, ?_⟩, ?_, ?_, ?_⟩ <;> first | assumption | (with_reducible exact bc hb (by first | assumption | (simp; assumption))) | (with_reducible exact ca (by assumption)) | (with_reducible exact gcell hgr (by assumption) (by assumption)) | (simp; assumption)))
        (first | (go_at_call 54; (with_reducible refine (HC.out _ HM2.out).mono ?_); rintro e v1 ⟨rfl, hb⟩) | (refine step_append_lies _ (by rfl) _ _ _ (by rfl) (w.heap.size + 1) 37 iF (.agg #[.int .i64 0, .int .i64 0]) 2 16 Tryd.underlying31 hj hy0 hy1 hy2 rfl (by decide) _ _ _ (by rfl) ((own_below (own_below HO.out below_drew) hb).alloc _) ⟨v1.heap.size, 0, none⟩ 1 1 [.int .i64 pt, .int .i64 cc] (by rfl) rfl (news_at _ _ _) (by simp [Value.oneCell']) (by decide) (by unfold maxLen; omega) (by omega) (by have := hb.size; simp; simp at this; omega) _ rfl ?_; intro g2 cap2 w2 hown2 hgr hat hlt2))
      have HB2 : Hid (Below (w.heap.size + 1) w1 w2) := Below.grown (((HBL.out.trans below_drew).trans (hb.mono (by simp; omega))).alloc (by have := hb.size; simp at this; omega) _) hgr (by have := hb.size; simp at this; simp; omega) (fun k hk => (HO.out.lt k hk).1)
      have HP2 : Hid (PB w2 g cap (l + 1) A) := PB.kept (PB.below (PB.below (PB.drew HPB.out) hb) ((Below.refl _ _).alloc (Nat.le_refl _) _)) hgr hn1
      have HO2 := Lib.hid hown2
      have hne2 : g2 ≠ g := by
        rcases hat with q | q
        · intro c; rw [c] at q; exact HNE.out q
        · rw [q]; have := hb.size; simp at this; simp; omega
      have HN2 := Lib.hid hne2
      clear hown2 hgr hat hne2 hb q0 q1 q2 q3 p0 p1 p2 hn1 hn2
      go_wp2
      go_roundw
      case rel => exact ⟨t + 1, _, rfl, by omega, by go_num, by rw [flatF_succ, HF.out]; exact HO2.out, by simp [Value.ownBlock]; exact HN2.out, HP2.out, HB2.out⟩
      case measure => first | (simp [intOf]; done) | (simp [intOf]; omega)
    · obtain rfl : t = l + 1 := by omega
      obtain ⟨g2, cap2, rfl, d1, d2, d3, d4⟩ := own_slice hown (by omega)
      have fb := fb_of_own hown
      obtain ⟨⟨_, a1⟩, fz⟩ := fb.cells (show l < l + 1 by omega)
      have f1 := fz (l * 2 + 1)
      have HFB := Lib.hid fb
      have HA := HA.out l (by omega)
      have hcb := cpn_bd (m := m) (r := r) (F := (A l).1) (T := (A l).2.1) (W := (A l).2.2) Hm.out Hr.out HA.1 HA.2.1 HA.2.2
      obtain ⟨cc0, cc1⟩ := hcb
      have HFU : Hid (∀ j, j < l + 1 → updF (fA0 m r A) l ((fA0 m r A l).1, (fA0 m r A l).2 + 10000) j = fA m r A (l + 1) j) := Lib.hid fun j hj => fA_upd m r A l j hj
      have e1 : 0 ≤ (fA0 m r A l).2 := cc0
      have e2 : (fA0 m r A l).2 ≤ 200000000 := cc1
      unfold maxLen at d4
      clear fz fb hown hne hpb hbel cc0 cc1 HA hb0 hb1 hb2 hb3
      obtain ⟨x, hx⟩ : ∃ x, (fA0 m r A l).2 = x := ⟨_, rfl⟩
      have HX := Lib.hid hx
      rw [hx] at a1 e1 e2
      clear hx
      go_wp2
      go_ret
      refine ⟨_, rfl, .inr ⟨by omega, g2, cap2, cap2, rfl, by omega, d3, by omega, ?_⟩, ?_⟩
      · refine (HFB.out.set1 l (by omega) (x + 10000)).congr (fun j hj => ?_)
        rw [← HFU.out j hj, HX.out]
      · exact Below.setCell (HBW.out.trans (HBL.out.mono (by omega))) (by show _ ≤ g2; omega) _
end Go.Proofs.YtoidghdgebdfaaaDoor
