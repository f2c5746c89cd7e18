/- Lattices: the reference's values, all of them. -/
import Derived.Test.YtmidbphfbaldiaaDoorLat2
import Derived.Deep.CutBlock
import Derived.Deep.DeepCutAuto
namespace Go.Proofs.YtmidbphfbaldiaaDoor
open Go.RowKit
set_option linter.unusedVariables false
def ValP (s r p c k : Int) (j n : Nat) (w : World) (ed : Ending) (w' : World) : Prop := ∃ v, ed = .returned v ∧ RV w' w.heap.size v n (valA s r p c k j) ∧ Below w.heap.size w w'
set_option maxHeartbeats 2000000 in
theorem values_zero (sN : Nat) (r p c k : Int) (h : latB sN r p = true) (w : World) :
    Calls Tryd.prog 15 #[.agg #[.int .i64 sN, .int .i64 r, .int .i64 p], .int .i64 c, .int .i64 k, .int .i64 sN] w (ValP sN r p c k 0 (sN + 1) w) := by
  obtain ⟨⟨s0, s1⟩, _⟩ := latB_iff.1 h
  have HE : Hid (∀ W : World, Calls Tryd.prog 28 #[.int .i64 1] W (RP 1000000 1000000 W)) := Lib.hid fun W => by simpa using exactS_any 1 W (by omega)
  obtain ⟨iF, hj, hy0, hy1, hy2⟩ := info_parts infoRg
  have HL : Hid (∀ i, valA sN r p c k 0 i = (1000000, 1000000)) := Lib.hid fun i => rfl
  clear h
  go_enter Tryd.func15, Tryd.ntmps15
  go_wp2_with fail
  go_loopw [9, 10] (fun v i wr => ∃ (u : Nat) (vv : Value), vv = v ∧ u ≤ sN + 1 ∧ i = .int .i64 u ∧ wr.ownsRow (w.heap.size + 1) 28 2 v u (flatR (valA sN r p c k 0) u) ∧ Below (w.heap.size + 1) (w.alloc (.cells #[.int .i64 sN, .int .i64 r, .int .i64 p] 24)) wr) (fun _ i _ => sN + 1 - (intOf i).toNat)
  case atStart =>
    refine ⟨0, _, rfl, Nat.zero_le _, rfl, ?_, (Below.refl _ _).alloc (by simp) _⟩
    have := World.ownsRow_made (base := w.heap.size + 1) (e := 28) (size := 2) (w.alloc (.cells #[.int .i64 sN, .int .i64 r, .int .i64 p] 24)) #[] 0 (by simp) (by decide) rfl
    have h2 : ((w.alloc (.cells #[.int .i64 sN, .int .i64 r, .int .i64 p] 24)).alloc (.cells #[] 28)).ownsRow (w.heap.size + 1) 28 2 (.slice (some ⟨w.heap.size + 1, 0, none⟩) 0 0) 0 [] := by simpa using this
    exact h2
  case round =>
    obtain ⟨u, v, rfl, hu, rfl, hown, hbel⟩ := hrel
    have x0 : wr.cell? ⟨w.heap.size, 0, none⟩ = some (.int .i64 sN) := (hbel.cell (by simp)).trans (new_cell rfl rfl)
    have HO := Lib.hid hown
    have HBL := Lib.hid hbel
    have hs2 := hbel.size
    simp at hs2
    have i0 : (0 : Int) ≤ (u : Int) := by omega
    by_cases hlt : u ≤ sN
    · have d1 : decide ((u : Int) ≤ (sN : Int)) = true := decide_eq_true (by omega)
      have d2 : decide (u ≤ sN) = true := decide_eq_true hlt
      clear hown hbel
      go_wp2_with fail
      refine (HE.out _).mono ?_
      rintro e w1 ⟨rfl, hb⟩
      have hz1 := hb.size
      go_wp2_with (at_builtin; refine wpList_append_lies _ rfl _ _ 42 rfl (w.heap.size + 1) 28 iF (.agg #[.int .i64 0, .int .i64 0]) 2 16 Tryd.underlying42 hj hy0 hy1 hy2 rfl (by decide) _ _ _ rfl ((own_below HO.out hb).alloc _) ⟨w1.heap.size, 0, none⟩ 1 1 [.int .i64 1000000, .int .i64 1000000] rfl rfl (news_at' _ _ _ _ (by first | rfl | (simp; done))) (by simp [Value.oneCell']) (by decide) (by unfold maxLen; omega) (by omega) (by simp; omega) _ rfl ?_; intro g2 cap2 w2 hown2 hgr hat hlt2)
      have HB2 : Hid (Below (w.heap.size + 1) (w.alloc (.cells #[.int .i64 sN, .int .i64 r, .int .i64 p] 24)) w2) := Below.grown ((HBL.out.trans (hb.mono (by omega))).alloc (by omega) _) hgr (by simp; omega) (fun k hk => (HO.out.lt k hk).1)
      have HO2 := Lib.hid hown2
      clear hown2 hgr hat hb
      go_wp2
      go_roundw
      case rel => exact ⟨u + 1, _, rfl, by omega, by go_num, by rw [flatR_succ, HL.out]; exact HO2.out, HB2.out⟩
      case measure => first | (simp [intOf]; done) | (simp [intOf]; omega)
    · obtain rfl : u = sN + 1 := by omega
      have d1 : decide ((sN : Int) + 1 ≤ (sN : Int)) = false := decide_eq_false (by omega)
      have d2 : decide (sN + 1 ≤ sN) = false := decide_eq_false (by omega)
      clear hown hbel
      go_wp2
      go_ret
      exact ⟨_, rfl, (rv_of_own HO.out).base (by omega), Below.trans ((Below.refl _ _).alloc (Nat.le_refl _) _) (HBL.out.mono (by omega))⟩
/-- the range of a node lies in a block of its own -/
def LvCut (X Y : Int) (wr wx : World) (q : Value) : Prop := ∃ b : Nat, q = .pointer (some ⟨b, 0, none⟩) ∧ wx.cell? ⟨b, 0, none⟩ = some (.int .i64 X) ∧ wx.cell? ⟨b, 1, none⟩ = some (.int .i64 Y) ∧ wx.frozen? ⟨b, 0, none⟩ = false ∧ wx.frozen? ⟨b, 1, none⟩ = false ∧ wr.heap.size ≤ b ∧ Below wr.heap.size wr wx
set_option maxRecDepth 100000 in
set_option maxHeartbeats 4000000 in
theorem values_succ (sN j t : Nat) (r p c k : Int) (h : latB sN r p = true) (hc : 0 ≤ c ∧ c ≤ 3000) (hk : 0 ≤ k ∧ k ≤ 200) (hjt : j + 1 + t = sN)
    (ih : ∀ W : World, Calls Tryd.prog 15 #[.agg #[.int .i64 sN, .int .i64 r, .int .i64 p], .int .i64 c, .int .i64 k, .int .i64 ((t + 1 : Nat) : Int)] W (ValP sN r p c k j (t + 1 + 1) W)) (w : World) :
    Calls Tryd.prog 15 #[.agg #[.int .i64 sN, .int .i64 r, .int .i64 p], .int .i64 c, .int .i64 k, .int .i64 t] w (ValP sN r p c k (j + 1) (t + 1) w) := by
  obtain ⟨⟨s0, s1⟩, ⟨p0, p1⟩, r0, r1⟩ := latB_iff.1 h
  obtain ⟨c0, c1⟩ := hc
  obtain ⟨k0, k1⟩ := hk
  have HIH : Hid (∀ W : World, Calls Tryd.prog 15 #[.agg #[.int .i64 sN, .int .i64 r, .int .i64 p], .int .i64 c, .int .i64 k, .int .i64 ((t : Int) + 1)] W (ValP sN r p c k j (t + 1 + 1) W)) := Lib.hid fun W => by have := ih W; simpa using this
  have HV : Hid (∀ i : Nat, i ≤ t + 1 → 0 ≤ llo sN r p c k j i ∧ llo sN r p c k j i ≤ lhi sN r p c k j i ∧ lhi sN r p c k j i ≤ 4000000) := Lib.hid fun i hi => by
    have := lval_bd h ⟨c0, c1⟩ k0 j i (by omega) (by omega)
    omega
  have HR : Hid (∀ i : Nat, i ≤ t → ∀ W : World, Calls Tryd.prog 30 #[.agg #[.int .i64 sN, .int .i64 r, .int .i64 p], .int .i64 t, .int .i64 i] W fun e w' => e = .returned (.int .i64 (lrt r p t i)) ∧ Below W.heap.size W w') := Lib.hid fun i hi W => latRateS_any _ _ _ _ _ W h (by omega) (by omega) (by omega) (by omega)
  have HRB : Hid (∀ i : Nat, i ≤ t → 0 ≤ lrt r p t i ∧ lrt r p t i ≤ 3000) := Lib.hid fun i hi => lrt_bd h (by omega) (by omega) (by omega)
  have tj : (sN : Int) - ((j : Int) + 1) = (t : Int) := by omega
  have HN : Hid (∀ i : Nat, valA sN r p c k (j + 1) i = (lcl k t (((llo sN r p c k j i + llo sN r p c k j (i + 1)) / 2 + 100 * c) * 1000000 / (1000000 + 100 * lrt r p t i)), lcl k t (cdiv ((cdiv (lhi sN r p c k j i + lhi sN r p c k j (i + 1)) 2 + 100 * c) * 1000000) (1000000 + 100 * lrt r p t i)))) := Lib.hid fun i => by
    unfold valA
    simp only [llo, lhi, tj, lg]
  obtain ⟨iF, hj, hy0, hy1, hy2⟩ := info_parts infoRg
  have ht8 : t + 1 ≤ 8 := by omega
  have htsN : t ≠ sN := by omega
  have de : ((t : Int) == (sN : Int)) = false := by simp; omega
  have de2 : (t == sN) = false := by simp; omega
  clear ih h tj r0 r1 hjt
  unfold ValP at HIH
  go_enter Tryd.func15, Tryd.ntmps15
  go_wp2_with fail
  refine (HIH.out _).mono ?_
  rintro ed w1 ⟨v, rfl, hv, hb⟩
  rcases hv with ⟨h0, _⟩ | ⟨_, g, cc, cap, rfl, b1, l1, l2, rb⟩
  · omega
  have hz := hb.size
  simp at hz b1
  have x0 : w1.cell? ⟨w.heap.size, 0, none⟩ = some (.int .i64 sN) := bc hb (ca (new_cell rfl rfl))
  have x1 : w1.cell? ⟨w.heap.size, 1, none⟩ = some (.int .i64 r) := bc hb (ca (new_cell rfl rfl))
  have x2 : w1.cell? ⟨w.heap.size, 2, none⟩ = some (.int .i64 p) := bc hb (ca (new_cell rfl rfl))
  have HB1 : Hid (Below w.heap.size w w1) := Below.trans (((Below.refl _ _).alloc (Nat.le_refl _) _).alloc (by simp) _) (hb.mono (by simp; omega))
  have HO0 : Hid (w1.ownsRow (w.heap.size + 1) 28 2 (.slice (some ⟨w.heap.size + 1, 0, none⟩) 0 0) 0 []) := Lib.hid (own_below (by
    have := World.ownsRow_made (base := w.heap.size + 1) (e := 28) (size := 2) (w.alloc (.cells #[.int .i64 sN, .int .i64 r, .int .i64 p] 24)) #[] 0 (by simp) (by decide) rfl
    simpa using this) hb)
  have hg := rb.lt
  have RB1 := Lib.hid rb
  clear hb rb
  go_wp2_with fail
  go_loopw [9, 12] (fun v i wr => ∃ (u : Nat) (vv : Value), vv = v ∧ u ≤ t + 1 ∧ i = .int .i64 u ∧ wr.ownsRow (w.heap.size + 1) 28 2 v u (flatR (valA sN r p c k (j + 1)) u) ∧ (v.ownBlock ≠ some g) ∧ RB wr g cap (t + 1 + 1) (valA sN r p c k j) ∧ Below (w.heap.size + 1) w1 wr) (fun _ i _ => t + 1 - (intOf i).toNat)
  case atStart =>
    refine ⟨0, _, rfl, Nat.zero_le _, rfl, HO0.out, ?_, RB1.out, Below.refl _ _⟩
    simp [Value.ownBlock]; omega
  case round =>
    obtain ⟨u, v, rfl, hu, rfl, hown, hne, hrb, hbel⟩ := hrel
    have HO := Lib.hid hown
    have HNE := Lib.hid hne
    have HRBr := Lib.hid hrb
    have HBL := Lib.hid hbel
    have hs2 := hbel.size
    have hgw := hrb.lt
    have y0 : wr.cell? ⟨w.heap.size, 0, none⟩ = some (.int .i64 sN) := (hbel.cell (by simp)).trans x0
    have y1 : wr.cell? ⟨w.heap.size, 1, none⟩ = some (.int .i64 r) := (hbel.cell (by simp)).trans x1
    have y2 : wr.cell? ⟨w.heap.size, 2, none⟩ = some (.int .i64 p) := (hbel.cell (by simp)).trans x2
    have i0 : (0 : Int) ≤ (u : Int) := by omega
    by_cases hlt : u ≤ t
    · obtain ⟨⟨q0, q1⟩, _⟩ := hrb.cells (show u < t + 1 + 1 by omega)
      obtain ⟨⟨q2, q3⟩, _⟩ := hrb.cells (show u + 1 < t + 1 + 1 by omega)
      obtain ⟨a0, a1, a2⟩ := HV.out u (by omega)
      obtain ⟨b0, b1', b2⟩ := HV.out (u + 1) (by omega)
      obtain ⟨e0, e1⟩ := HRB.out u hlt
      have HRu := Lib.hid (HR.out u hlt)
      have HNu := Lib.hid (HN.out u)
      have d1 : decide ((u : Int) ≤ (t : Int)) = true := decide_eq_true (by omega)
      have d2 : decide (u ≤ t) = true := decide_eq_true hlt
      have i1 : (u : Int) < (t : Int) + 1 + 1 := by omega
      have i2 : (0 : Int) ≤ (u : Int) + 1 := by omega
      have i3 : (u : Int) + 1 < (t : Int) + 1 + 1 := by omega
      unfold valA at q0 q1 q2 q3
      simp only at q0 q1 q2 q3
      generalize llo sN r p c k j u = a at *
      generalize lhi sN r p c k j u = b at *
      generalize llo sN r p c k j (u + 1) = a' at *
      generalize lhi sN r p c k j (u + 1) = b' at *
      generalize lrt r p t u = q at *
      have wr0 : IntKind.i64.wrap (100 * c) = 100 * c := IntWalk.i64_in _ (by omega)
      have wr1 : IntKind.i64.wrap (a + 100 * c) = a + 100 * c := IntWalk.i64_in _ (by omega)
      have wr2 : IntKind.i64.wrap (b + 100 * c) = b + 100 * c := IntWalk.i64_in _ (by omega)
      clear hown hne hrb hbel x0 x1 x2
      go_wp2_with fail
      go_region_held3 (fun w' => w'.cell? ⟨g, u * 2, none⟩ = some (.int .i64 a) ∧ w'.cell? ⟨g, u * 2 + 1, none⟩ = some (.int .i64 b))
        ((go_split_ands; refine ⟨?_, ?_⟩ <;> first | assumption | (exact ca (by assumption)) | (simp; done)))
        (fail)
      go_wp2_with fail
      refine name_world ?_
      intro W1 hW1
      have m0 : W1.cell? ⟨wr.heap.size, 0, none⟩ = some (.int .i64 (a + 100 * c)) := by rw [hW1]; exact new_cell (by first | rfl | simp) rfl
      have m1 : W1.cell? ⟨wr.heap.size, 1, none⟩ = some (.int .i64 (b + 100 * c)) := by rw [hW1]; exact new_cell (by first | rfl | simp) rfl
      have HB1' : Hid (Below wr.heap.size wr W1) := Lib.hid (by rw [hW1]; repeat (first | exact Below.refl _ _ | refine Below.drew ?_ | refine Below.alloc ?_ (by first | omega | (simp; done) | (simp; omega)) _))
      have hW1s : wr.heap.size < W1.heap.size := cell_lt m0
      clear hW1
      have q2' : W1.cell? ⟨g, (u + 1) * 2, none⟩ = some (.int .i64 a') := bc HB1'.out q2
      have q3' : W1.cell? ⟨g, (u + 1) * 2 + 1, none⟩ = some (.int .i64 b') := bc HB1'.out q3
      have y0' := bc HB1'.out y0
      have y1'' := bc HB1'.out y1
      have y2' := bc HB1'.out y2
      have wr3 : IntKind.i64.wrap (a' + 100 * c) = a' + 100 * c := IntWalk.i64_in _ (by omega)
      have wr4 : IntKind.i64.wrap (b' + 100 * c) = b' + 100 * c := IntWalk.i64_in _ (by omega)
      have wr5 : IntKind.i64.wrap ((u : Int) + 1) = (u : Int) + 1 := IntWalk.i64_in _ (by omega)
      have wr6 : ((u : Int) + 1).toNat = u + 1 := by omega
      clear q0 q1 q2 q3 y0 y1 y2 wr1 wr2
      go_region_held3 (fun w' => w'.cell? ⟨g, (u + 1) * 2, none⟩ = some (.int .i64 a') ∧ w'.cell? ⟨g, (u + 1) * 2 + 1, none⟩ = some (.int .i64 b'))
        ((go_split_ands; refine ⟨?_, ?_⟩ <;> first | assumption | (exact ca (by assumption)) | (simp; done)))
        (fail)
      clear wr3 wr4 wr5 wr6 wr0
      go_upto_region 14 with fail
      refine name_world ?_
      intro W2 hW2
      have n0 : W2.cell? ⟨W1.heap.size, 0, none⟩ = some (.int .i64 (a' + 100 * c)) := by rw [hW2]; exact new_cell (by first | rfl | simp) rfl
      have n1 : W2.cell? ⟨W1.heap.size, 1, none⟩ = some (.int .i64 (b' + 100 * c)) := by rw [hW2]; exact new_cell (by first | rfl | simp) rfl
      have HB2' : Hid (Below W1.heap.size W1 W2) := Lib.hid (by rw [hW2]; repeat (first | exact Below.refl _ _ | refine Below.drew ?_ | refine Below.alloc ?_ (by first | omega | (simp; done) | (simp; omega)) _))
      have hW2s : W1.heap.size < W2.heap.size := cell_lt n0
      clear hW2
      have m0' := bc HB2'.out m0
      have m1' := bc HB2'.out m1
      have z0 := bc HB2'.out y0'
      have z1 := bc HB2'.out y1''
      have z2 := bc HB2'.out y2'
      clear q2' q3' y0' y1'' y2' m0 m1
      have hwsz : w.heap.size < wr.heap.size := by omega
      have HBB : Hid (Below wr.heap.size wr W2) := HB1'.out.trans (HB2'.out.mono (by omega))
      have m0d : W2.drew.cell? ⟨wr.heap.size, 0, none⟩ = some (.int .i64 (a + 100 * c)) := m0'
      have m1d : W2.drew.cell? ⟨wr.heap.size, 1, none⟩ = some (.int .i64 (b + 100 * c)) := m1'
      have n0d : W2.drew.cell? ⟨W1.heap.size, 0, none⟩ = some (.int .i64 (a' + 100 * c)) := n0
      have n1d : W2.drew.cell? ⟨W1.heap.size, 1, none⟩ = some (.int .i64 (b' + 100 * c)) := n1
      have z0d : W2.drew.cell? ⟨w.heap.size, 0, none⟩ = some (.int .i64 sN) := z0
      have z1d : W2.drew.cell? ⟨w.heap.size, 1, none⟩ = some (.int .i64 r) := z1
      have z2d : W2.drew.cell? ⟨w.heap.size, 2, none⟩ = some (.int .i64 p) := z2
      have HBK : Hid (∀ W : World, Calls Tryd.prog 29 #[.agg #[.int .i64 (a + 100 * c), .int .i64 (b + 100 * c)], .agg #[.int .i64 (a' + 100 * c), .int .i64 (b' + 100 * c)], .int .i64 q] W (RP (((a + a') / 2 + 100 * c) * 1000000 / (1000000 + 100 * q)) (cdiv ((cdiv (b + b') 2 + 100 * c) * 1000000) (1000000 + 100 * q)) W)) := Lib.hid fun W => by
        have := back_any (a + 100 * c) (b + 100 * c) (a' + 100 * c) (b' + 100 * c) q W (by omega) (by omega) (by omega) (by omega) ⟨e0, e1⟩
        rw [avg_add, cavg_add] at this
        exact this
      generalize ((a + a') / 2 + 100 * c) * 1000000 / (1000000 + 100 * q) = X at *
      generalize cdiv ((cdiv (b + b') 2 + 100 * c) * 1000000) (1000000 + 100 * q) = Y at *
      go_cut [15] (fun q wx => LvCut X Y wr wx q)
      case first =>
        go_region_held3 (fun w' => (w'.cell? ⟨wr.heap.size, 0, none⟩ = some (.int .i64 (a + 100 * c)) ∧ w'.cell? ⟨wr.heap.size, 1, none⟩ = some (.int .i64 (b + 100 * c))) ∧ (w'.cell? ⟨W1.heap.size, 0, none⟩ = some (.int .i64 (a' + 100 * c)) ∧ w'.cell? ⟨W1.heap.size, 1, none⟩ = some (.int .i64 (b' + 100 * c))) ∧ w'.cell? ⟨w.heap.size, 0, none⟩ = some (.int .i64 sN) ∧ w'.cell? ⟨w.heap.size, 1, none⟩ = some (.int .i64 r) ∧ w'.cell? ⟨w.heap.size, 2, none⟩ = some (.int .i64 p))
          ((go_split_ands; refine ⟨⟨?_, ?_⟩, ⟨?_, ?_⟩, ?_, ?_, ?_⟩ <;> first | assumption | (with_reducible exact bc hb (by assumption)) | (with_reducible exact bc hb2 (by assumption)) | (with_reducible exact ca (by assumption)) | (with_reducible exact ca (bc hb2 (bc hb (by assumption)))) | ((with_reducible refine sc_blk ?_ (sc_blk ?_ (by assumption))) <;> (try have hbs := hb.size) <;> (try simp at hbs) <;> (try simp) <;> omega) | (exact ca (w := W2) (by assumption))))
          (first | (go_at_call 30; (with_reducible refine (HRu.out _).mono ?_); rintro e v1 ⟨rfl, hb⟩) | (go_at_call 29; (with_reducible refine (HBK.out _).mono ?_); rintro e v2 ⟨rfl, hb2⟩; (try have tA0 := bc hb2 (bc hb (new_cell (W := W2.drew) (C := #[.int .i64 0, .int .i64 0]) (T := 28) (b := W2.heap.size) (i := 0) rfl rfl))); (try have tB0 := bc hb2 (new_cell (W := v1) (C := #[.int .i64 0, .int .i64 0]) (T := 28) (b := v1.heap.size) (i := 0) rfl rfl)); (try have gA0 := bf hb2 (cell_lt (bc hb (new_cell (W := W2.drew) (C := #[.int .i64 0, .int .i64 0]) (T := 28) (b := W2.heap.size) (i := 0) rfl rfl))) (bf hb (cell_lt (new_cell (W := W2.drew) (C := #[.int .i64 0, .int .i64 0]) (T := 28) (b := W2.heap.size) (i := 0) rfl rfl)) (new_free (W := W2.drew) (C := #[.int .i64 0, .int .i64 0]) (T := 28) (b := W2.heap.size) (i := 0) rfl))); (try have gB0 := bf hb2 (cell_lt (new_cell (W := v1) (C := #[.int .i64 0, .int .i64 0]) (T := 28) (b := v1.heap.size) (i := 0) rfl rfl)) (new_free (W := v1) (C := #[.int .i64 0, .int .i64 0]) (T := 28) (b := v1.heap.size) (i := 0) rfl)); (try have tA1 := bc hb2 (bc hb (new_cell (W := W2.drew) (C := #[.int .i64 0, .int .i64 0]) (T := 28) (b := W2.heap.size) (i := 1) rfl rfl))); (try have tB1 := bc hb2 (new_cell (W := v1) (C := #[.int .i64 0, .int .i64 0]) (T := 28) (b := v1.heap.size) (i := 1) rfl rfl)); (try have gA1 := bf hb2 (cell_lt (bc hb (new_cell (W := W2.drew) (C := #[.int .i64 0, .int .i64 0]) (T := 28) (b := W2.heap.size) (i := 1) rfl rfl))) (bf hb (cell_lt (new_cell (W := W2.drew) (C := #[.int .i64 0, .int .i64 0]) (T := 28) (b := W2.heap.size) (i := 1) rfl rfl)) (new_free (W := W2.drew) (C := #[.int .i64 0, .int .i64 0]) (T := 28) (b := W2.heap.size) (i := 1) rfl))); (try have gB1 := bf hb2 (cell_lt (new_cell (W := v1) (C := #[.int .i64 0, .int .i64 0]) (T := 28) (b := v1.heap.size) (i := 1) rfl rfl)) (new_free (W := v1) (C := #[.int .i64 0, .int .i64 0]) (T := 28) (b := v1.heap.size) (i := 1) rfl))))
        all_goals
          (try have hz1 := hb.size)
          (try have hz2 := hb2.size)
          (try simp at hz1)
          (try simp at hz2)
          go_wp2_with fail
          go_meet
          refine ⟨_, rfl, ?_, ?_, ?_, ?_, ?_, ?_⟩
          · first | (with_reducible exact new_cell rfl rfl) | (with_reducible exact sc_far (by simp) (sc_same (by assumption)))
          · first | (with_reducible exact new_cell rfl rfl) | (with_reducible exact sc_same (sc_far (by simp) (by assumption)))
          · first | (with_reducible exact new_free rfl) | (rw [frozen_setCell, frozen_setCell]; assumption)
          · first | (with_reducible exact new_free rfl) | (rw [frozen_setCell, frozen_setCell]; assumption)
          · first | omega | (simp; omega)
          · repeat (first | (with_reducible exact HBB.out) | (with_reducible refine Below.setCell ?_ (by show wr.heap.size ≤ _; first | omega | (simp; omega)) _) | (with_reducible refine Below.drew ?_) | (with_reducible refine Below.alloc ?_ (by first | omega | (simp; omega)) _) | (with_reducible refine Below.trans ?_ (hb2.mono (by first | omega | (simp; omega)))) | (with_reducible refine Below.trans ?_ (hb.mono (by first | omega | (simp; omega)))))
      case rest =>
        obtain ⟨b15, rfl, t0, t1, g0, g1, hb15, hbel⟩ := hcut
        have HBc := Lib.hid hbel
        have hcs := hbel.size
        clear hbel
        have hsplit : (k = 0 ∨ t = 0) ∨ ((1 ≤ k ∧ 1 ≤ t) ∧ ((10000 * k < X ∧ 10000 * k < Y) ∨ (10000 * k < X ∧ ¬ 10000 * k < Y) ∨ (¬ 10000 * k < X ∧ 10000 * k < Y) ∨ (¬ 10000 * k < X ∧ ¬ 10000 * k < Y))) := by
          by_cases q1 : 10000 * k < X <;> by_cases q2 : 10000 * k < Y <;> omega
        rcases hsplit with hno | ⟨hyes, hc1⟩
        · have HX : Hid (lcl k t X = X) := Lib.hid (if_pos (by omega))
          have HY : Hid (lcl k t Y = Y) := Lib.hid (if_pos (by omega))
          have hb : decide (0 < k) = false ∨ (decide (0 < k) = true ∧ t = 0) := by
            by_cases q : 0 < k
            · exact .inr ⟨decide_eq_true q, by omega⟩
            · exact .inl (decide_eq_false q)
          have hb2 : (decide (0 < k) = false) ∨ (decide (0 < k) = true ∧ decide ((0 : Int) < (t : Int)) = false ∧ decide (0 < t) = false) := by
            rcases hb with q | ⟨q, q2⟩
            · exact .inl q
            · exact .inr ⟨q, decide_eq_false (by omega), decide_eq_false (by omega)⟩
          clear hb hno
          rcases hb2 with q | ⟨q, q2, q3⟩
          all_goals
            go_wp2_with (at_builtin; refine wpList_append_lies _ rfl _ _ 42 rfl (w.heap.size + 1) 28 iF (.agg #[.int .i64 0, .int .i64 0]) 2 16 Tryd.underlying42 hj hy0 hy1 hy2 rfl (by decide) _ _ _ rfl ((own_below HO.out (by first | (with_reducible exact HBc.out) | (with_reducible exact Below.setCell (Below.setCell HBc.out hb15 _) hb15 _))).alloc _) ⟨wc.heap.size, 0, none⟩ 1 1 [.int .i64 X, .int .i64 Y] rfl rfl (news_at' _ _ _ _ (by first | rfl | (simp; done))) (by simp [Value.oneCell']) (by decide) (by unfold maxLen; omega) (by omega) (by simp; omega) _ rfl ?_; intro g2 cap2 w2 hown2 hgr hat hlt2)
            have HWC : ∃ WC : World, Below wr.heap.size wr WC ∧ wc.heap.size = WC.heap.size ∧ ∃ o, (WC.alloc o).grownBy w2 v.ownBlock ∧ (v.ownBlock = some g2 ∨ g2 = (WC.alloc o).heap.size) := by first | exact ⟨_, HBc.out, rfl, _, hgr, hat⟩ | exact ⟨_, Below.setCell (Below.setCell HBc.out hb15 _) hb15 _, by simp, _, hgr, hat⟩
            obtain ⟨WC, hWC, hWCs, o, hgr2, hat2⟩ := HWC
            have HB2 : Hid (Below (w.heap.size + 1) w1 w2) := Below.grown ((HBL.out.trans (hWC.mono (by omega))).alloc (by omega) _) hgr2 (by simp; omega) (fun k hk => (HO.out.lt k hk).1)
            have HP2 : Hid (RB w2 g cap (t + 1 + 1) (valA sN r p c k j)) := RB.kept ((HRBr.out.below hWC).below ((Below.refl _ _).alloc (Nat.le_refl _) _)) hgr2 (fun e => HNE.out e.symm)
            have HO2 := Lib.hid hown2
            have hne2 : g2 ≠ g := by
              rcases hat2 with q | q
              · intro c; rw [c] at q; exact HNE.out q
              · rw [q]; simp; omega
            have HN2 := Lib.hid hne2
            clear hown2 hgr hat hgr2 hat2 hne2 hWC
            go_wp2
            go_roundw
            case rel => exact ⟨u + 1, _, rfl, by omega, by go_num, by rw [flatR_succ, HNu.out, HX.out, HY.out]; exact HO2.out, by simp [Value.ownBlock]; exact HN2.out, HP2.out, HB2.out⟩
            case measure => first | (simp [intOf]; done) | (simp [intOf]; omega)
        · obtain ⟨hk1, ht1⟩ := hyes
          have q : decide (0 < k) = true := decide_eq_true (by omega)
          have q2 : decide ((0 : Int) < (t : Int)) = true := decide_eq_true (by omega)
          have q3 : decide (0 < t) = true := decide_eq_true (by omega)
          have HL0 : Hid (∀ Z : Int, lcl k t Z = if 10000 * k < Z then 10000 * k else Z) := Lib.hid fun Z => if_neg (by omega)
          clear hk1 ht1
          rcases hc1 with ⟨c1, c2⟩ | ⟨c1, c2⟩ | ⟨c1, c2⟩ | ⟨c1, c2⟩
          · have HX : Hid (lcl k t X = 10000 * k) := Lib.hid (by rw [HL0.out, if_pos c1])
            have HY : Hid (lcl k t Y = 10000 * k) := Lib.hid (by rw [HL0.out, if_pos c2])
            go_wp2_with (at_builtin; refine wpList_append_lies _ rfl _ _ 42 rfl (w.heap.size + 1) 28 iF (.agg #[.int .i64 0, .int .i64 0]) 2 16 Tryd.underlying42 hj hy0 hy1 hy2 rfl (by decide) _ _ _ rfl ((own_below HO.out (by first | (with_reducible exact HBc.out) | (with_reducible exact Below.setCell (Below.setCell HBc.out hb15 _) hb15 _))).alloc _) ⟨wc.heap.size, 0, none⟩ 1 1 [.int .i64 (10000 * k), .int .i64 (10000 * k)] rfl rfl (news_at' _ _ _ _ (by first | rfl | (simp; done))) (by simp [Value.oneCell']) (by decide) (by unfold maxLen; omega) (by omega) (by simp; omega) _ rfl ?_; intro g2 cap2 w2 hown2 hgr hat hlt2)
            have HWC : ∃ WC : World, Below wr.heap.size wr WC ∧ wc.heap.size = WC.heap.size ∧ ∃ o, (WC.alloc o).grownBy w2 v.ownBlock ∧ (v.ownBlock = some g2 ∨ g2 = (WC.alloc o).heap.size) := by first | exact ⟨_, HBc.out, rfl, _, hgr, hat⟩ | exact ⟨_, Below.setCell (Below.setCell HBc.out hb15 _) hb15 _, by simp, _, hgr, hat⟩
            obtain ⟨WC, hWC, hWCs, o, hgr2, hat2⟩ := HWC
            have HB2 : Hid (Below (w.heap.size + 1) w1 w2) := Below.grown ((HBL.out.trans (hWC.mono (by omega))).alloc (by omega) _) hgr2 (by simp; omega) (fun k hk => (HO.out.lt k hk).1)
            have HP2 : Hid (RB w2 g cap (t + 1 + 1) (valA sN r p c k j)) := RB.kept ((HRBr.out.below hWC).below ((Below.refl _ _).alloc (Nat.le_refl _) _)) hgr2 (fun e => HNE.out e.symm)
            have HO2 := Lib.hid hown2
            have hne2 : g2 ≠ g := by
              rcases hat2 with q | q
              · intro c; rw [c] at q; exact HNE.out q
              · rw [q]; simp; omega
            have HN2 := Lib.hid hne2
            clear hown2 hgr hat hgr2 hat2 hne2 hWC
            go_wp2
            go_roundw
            case rel => exact ⟨u + 1, _, rfl, by omega, by go_num, by rw [flatR_succ, HNu.out, HX.out, HY.out]; exact HO2.out, by simp [Value.ownBlock]; exact HN2.out, HP2.out, HB2.out⟩
            case measure => first | (simp [intOf]; done) | (simp [intOf]; omega)
          · have HX : Hid (lcl k t X = 10000 * k) := Lib.hid (by rw [HL0.out, if_pos c1])
            have HY : Hid (lcl k t Y = Y) := Lib.hid (by rw [HL0.out, if_neg c2])
            go_wp2_with (at_builtin; refine wpList_append_lies _ rfl _ _ 42 rfl (w.heap.size + 1) 28 iF (.agg #[.int .i64 0, .int .i64 0]) 2 16 Tryd.underlying42 hj hy0 hy1 hy2 rfl (by decide) _ _ _ rfl ((own_below HO.out (by first | (with_reducible exact HBc.out) | (with_reducible exact Below.setCell (Below.setCell HBc.out hb15 _) hb15 _))).alloc _) ⟨wc.heap.size, 0, none⟩ 1 1 [.int .i64 (10000 * k), .int .i64 Y] rfl rfl (news_at' _ _ _ _ (by first | rfl | (simp; done))) (by simp [Value.oneCell']) (by decide) (by unfold maxLen; omega) (by omega) (by simp; omega) _ rfl ?_; intro g2 cap2 w2 hown2 hgr hat hlt2)
            have HWC : ∃ WC : World, Below wr.heap.size wr WC ∧ wc.heap.size = WC.heap.size ∧ ∃ o, (WC.alloc o).grownBy w2 v.ownBlock ∧ (v.ownBlock = some g2 ∨ g2 = (WC.alloc o).heap.size) := by first | exact ⟨_, HBc.out, rfl, _, hgr, hat⟩ | exact ⟨_, Below.setCell (Below.setCell HBc.out hb15 _) hb15 _, by simp, _, hgr, hat⟩
            obtain ⟨WC, hWC, hWCs, o, hgr2, hat2⟩ := HWC
            have HB2 : Hid (Below (w.heap.size + 1) w1 w2) := Below.grown ((HBL.out.trans (hWC.mono (by omega))).alloc (by omega) _) hgr2 (by simp; omega) (fun k hk => (HO.out.lt k hk).1)
            have HP2 : Hid (RB w2 g cap (t + 1 + 1) (valA sN r p c k j)) := RB.kept ((HRBr.out.below hWC).below ((Below.refl _ _).alloc (Nat.le_refl _) _)) hgr2 (fun e => HNE.out e.symm)
            have HO2 := Lib.hid hown2
            have hne2 : g2 ≠ g := by
              rcases hat2 with q | q
              · intro c; rw [c] at q; exact HNE.out q
              · rw [q]; simp; omega
            have HN2 := Lib.hid hne2
            clear hown2 hgr hat hgr2 hat2 hne2 hWC
            go_wp2
            go_roundw
            case rel => exact ⟨u + 1, _, rfl, by omega, by go_num, by rw [flatR_succ, HNu.out, HX.out, HY.out]; exact HO2.out, by simp [Value.ownBlock]; exact HN2.out, HP2.out, HB2.out⟩
            case measure => first | (simp [intOf]; done) | (simp [intOf]; omega)
          · have HX : Hid (lcl k t X = X) := Lib.hid (by rw [HL0.out, if_neg c1])
            have HY : Hid (lcl k t Y = 10000 * k) := Lib.hid (by rw [HL0.out, if_pos c2])
            go_wp2_with (at_builtin; refine wpList_append_lies _ rfl _ _ 42 rfl (w.heap.size + 1) 28 iF (.agg #[.int .i64 0, .int .i64 0]) 2 16 Tryd.underlying42 hj hy0 hy1 hy2 rfl (by decide) _ _ _ rfl ((own_below HO.out (by first | (with_reducible exact HBc.out) | (with_reducible exact Below.setCell (Below.setCell HBc.out hb15 _) hb15 _))).alloc _) ⟨wc.heap.size, 0, none⟩ 1 1 [.int .i64 X, .int .i64 (10000 * k)] rfl rfl (news_at' _ _ _ _ (by first | rfl | (simp; done))) (by simp [Value.oneCell']) (by decide) (by unfold maxLen; omega) (by omega) (by simp; omega) _ rfl ?_; intro g2 cap2 w2 hown2 hgr hat hlt2)
            have HWC : ∃ WC : World, Below wr.heap.size wr WC ∧ wc.heap.size = WC.heap.size ∧ ∃ o, (WC.alloc o).grownBy w2 v.ownBlock ∧ (v.ownBlock = some g2 ∨ g2 = (WC.alloc o).heap.size) := by first | exact ⟨_, HBc.out, rfl, _, hgr, hat⟩ | exact ⟨_, Below.setCell (Below.setCell HBc.out hb15 _) hb15 _, by simp, _, hgr, hat⟩
            obtain ⟨WC, hWC, hWCs, o, hgr2, hat2⟩ := HWC
            have HB2 : Hid (Below (w.heap.size + 1) w1 w2) := Below.grown ((HBL.out.trans (hWC.mono (by omega))).alloc (by omega) _) hgr2 (by simp; omega) (fun k hk => (HO.out.lt k hk).1)
            have HP2 : Hid (RB w2 g cap (t + 1 + 1) (valA sN r p c k j)) := RB.kept ((HRBr.out.below hWC).below ((Below.refl _ _).alloc (Nat.le_refl _) _)) hgr2 (fun e => HNE.out e.symm)
            have HO2 := Lib.hid hown2
            have hne2 : g2 ≠ g := by
              rcases hat2 with q | q
              · intro c; rw [c] at q; exact HNE.out q
              · rw [q]; simp; omega
            have HN2 := Lib.hid hne2
            clear hown2 hgr hat hgr2 hat2 hne2 hWC
            go_wp2
            go_roundw
            case rel => exact ⟨u + 1, _, rfl, by omega, by go_num, by rw [flatR_succ, HNu.out, HX.out, HY.out]; exact HO2.out, by simp [Value.ownBlock]; exact HN2.out, HP2.out, HB2.out⟩
            case measure => first | (simp [intOf]; done) | (simp [intOf]; omega)
          · have HX : Hid (lcl k t X = X) := Lib.hid (by rw [HL0.out, if_neg c1])
            have HY : Hid (lcl k t Y = Y) := Lib.hid (by rw [HL0.out, if_neg c2])
            go_wp2_with (at_builtin; refine wpList_append_lies _ rfl _ _ 42 rfl (w.heap.size + 1) 28 iF (.agg #[.int .i64 0, .int .i64 0]) 2 16 Tryd.underlying42 hj hy0 hy1 hy2 rfl (by decide) _ _ _ rfl ((own_below HO.out (by first | (with_reducible exact HBc.out) | (with_reducible exact Below.setCell (Below.setCell HBc.out hb15 _) hb15 _))).alloc _) ⟨wc.heap.size, 0, none⟩ 1 1 [.int .i64 X, .int .i64 Y] rfl rfl (news_at' _ _ _ _ (by first | rfl | (simp; done))) (by simp [Value.oneCell']) (by decide) (by unfold maxLen; omega) (by omega) (by simp; omega) _ rfl ?_; intro g2 cap2 w2 hown2 hgr hat hlt2)
            have HWC : ∃ WC : World, Below wr.heap.size wr WC ∧ wc.heap.size = WC.heap.size ∧ ∃ o, (WC.alloc o).grownBy w2 v.ownBlock ∧ (v.ownBlock = some g2 ∨ g2 = (WC.alloc o).heap.size) := by first | exact ⟨_, HBc.out, rfl, _, hgr, hat⟩ | exact ⟨_, Below.setCell (Below.setCell HBc.out hb15 _) hb15 _, by simp, _, hgr, hat⟩
            obtain ⟨WC, hWC, hWCs, o, hgr2, hat2⟩ := HWC
            have HB2 : Hid (Below (w.heap.size + 1) w1 w2) := Below.grown ((HBL.out.trans (hWC.mono (by omega))).alloc (by omega) _) hgr2 (by simp; omega) (fun k hk => (HO.out.lt k hk).1)
            have HP2 : Hid (RB w2 g cap (t + 1 + 1) (valA sN r p c k j)) := RB.kept ((HRBr.out.below hWC).below ((Below.refl _ _).alloc (Nat.le_refl _) _)) hgr2 (fun e => HNE.out e.symm)
            have HO2 := Lib.hid hown2
            have hne2 : g2 ≠ g := by
              rcases hat2 with q | q
              · intro c; rw [c] at q; exact HNE.out q
              · rw [q]; simp; omega
            have HN2 := Lib.hid hne2
            clear hown2 hgr hat hgr2 hat2 hne2 hWC
            go_wp2
            go_roundw
            case rel => exact ⟨u + 1, _, rfl, by omega, by go_num, by rw [flatR_succ, HNu.out, HX.out, HY.out]; exact HO2.out, by simp [Value.ownBlock]; exact HN2.out, HP2.out, HB2.out⟩
            case measure => first | (simp [intOf]; done) | (simp [intOf]; omega)
    · obtain rfl : u = t + 1 := by omega
      have d1 : decide ((t : Int) + 1 ≤ (t : Int)) = false := decide_eq_false (by omega)
      have d2 : decide (t + 1 ≤ t) = false := decide_eq_false (by omega)
      clear hown hne hrb hbel
      go_wp2
      go_ret
      exact ⟨_, rfl, (rv_of_own HO.out).base (by omega), HB1.out.trans (HBL.out.mono (by omega))⟩
theorem values_any (sN : Nat) (r p c k : Int) (h : latB sN r p = true) (hc : 0 ≤ c ∧ c ≤ 3000) (hk : 0 ≤ k ∧ k ≤ 200) : ∀ (j t : Nat), j + t = sN → ∀ w : World,
    Calls Tryd.prog 15 #[.agg #[.int .i64 sN, .int .i64 r, .int .i64 p], .int .i64 c, .int .i64 k, .int .i64 t] w (ValP sN r p c k j (t + 1) w)
  | 0, t, hj, w => by
    obtain rfl : t = sN := by omega
    exact values_zero t r p c k h w
  | j + 1, t, hj, w => values_succ sN j t r p c k h hc hk hj (fun W => values_any sN r p c k h hc hk j (t + 1) (by omega) W) w
end Go.Proofs.YtmidbphfbaldiaaDoor
