/- Schedules: the reference's walk. -/
import Derived.Test.YtoidghdgebdfaaaDoorSchPlain
import Derived.Test.YtoidghdgebdfaaaDoorDate8
import Derived.Laws.AppendOwn
import Derived.Laws.OwnMore
import Derived.Deep.CutBlock
import Derived.Deep.DeepCutAuto
import Derived.Deep.LoopGhost
import Derived.Maps.AppendAt
import Derived.Outline
namespace Go.Proofs.YtoidghdgebdfaaaDoor
open Go.RowKit
set_option linter.unusedVariables false
theorem own_below {w w' : World} {base : Nat} {e : TypeId} {size : Nat} {v : Value} {n : Nat} {xs : List Value} (h : w.ownsRow base e size v n xs) (hb : Below w.heap.size w w') : w'.ownsRow base e size v n xs := by
  refine h.kept (row := none) ⟨hb.os, hb.tape, hb.output, hb.size, fun k hk _ => hb.block k hk⟩ ?_
  cases hv : v.ownBlock with
  | none => exact .inl rfl
  | some k => exact .inr (by simp)
theorem own_base {w : World} {base base' : Nat} {e : TypeId} {size : Nat} {v : Value} {n : Nat} {xs : List Value} (h : w.ownsRow base e size v n xs) (hb : base' ≤ base) : w.ownsRow base' e size v n xs := by
  obtain ⟨h1, h2 | ⟨g, cap, cur, h3, h4, h5⟩⟩ := h
  · exact ⟨h1, .inl h2⟩
  · exact ⟨h1, .inr ⟨g, cap, cur, h3, by omega, h5⟩⟩
theorem own_slice {w : World} {base : Nat} {e : TypeId} {size : Nat} {v : Value} {n : Nat} {xs : List Value} (h : w.ownsRow base e size v n xs) (hn : 1 ≤ n) : ∃ g cap, v = .slice (some ⟨g, 0, none⟩) n cap ∧ base ≤ g ∧ g < w.heap.size ∧ n ≤ cap ∧ cap ≤ maxLen := by
  obtain ⟨h1, ⟨_, h2⟩ | ⟨g, cap, cur, h3, h4, h5, h6, h7, _⟩⟩ := h
  · omega
  · refine ⟨g, cap, h3, h4, ?_, h6, h7⟩
    rcases Nat.lt_or_ge g w.heap.size with q | q
    · exact q
    · rw [Array.getElem?_eq_none q] at h5; cases h5
theorem bk_call {e m : Int} {k : Nat} {x : Int} (he : 0 ≤ e ∧ e ≤ 36524) (hx : x = -((k : Int) * m)) (h : -600 ≤ x ∧ x ≤ 600) : amIn e x = bk e m k := by
  unfold bk addM
  rw [← hx, if_pos (inR_yes he), if_pos (inR_yes h)]
theorem mul_le {m : Int} {k : Nat} (hm : m = 1 ∨ m = 3 ∨ m = 6 ∨ m = 12) (hk : k ≤ 41) : 0 ≤ (k : Int) * m ∧ (k : Int) * m ≤ 492 := by
  rcases hm with rfl | rfl | rfl | rfl <;> omega
/-- the reference's addMonths at a multiple of the months -/
def BkS (e m : Int) (k : Nat) (x : Int) : Prop := ∀ W : World, Calls Tryd.prog 65 #[.int .i64 e, .int .i64 x] W fun ed w' => ed = .returned (.int .i64 (bk e m k)) ∧ Below W.heap.size W w'
theorem bkS {e m : Int} {k : Nat} (he : 0 ≤ e ∧ e ≤ 36524) (hm : m = 1 ∨ m = 3 ∨ m = 6 ∨ m = 12) (hk : k ≤ 41) : BkS e m k (-(k : Int) * m) := by
  intro W
  obtain ⟨a, b⟩ := mul_le hm hk
  have q : -(k : Int) * m = -((k : Int) * m) := Int.neg_mul _ _
  rw [← bk_call he q (by rw [q]; omega)]
  exact addMonthsS_in e _ W he.1 he.2 (by rw [q]; omega) (by rw [q]; omega)
noncomputable def daysL (e m : Int) (k : Nat) : List Value := (List.range k).map fun j => .int .i64 (bk e m j)
theorem daysL_succ (e m : Int) (k : Nat) : daysL e m (k + 1) = daysL e m k ++ [.int .i64 (bk e m k)] := by unfold daysL; rw [List.range_succ, List.map_append]; rfl
theorem daysL_at {e m : Int} {n q : Nat} (h : q < n) : (daysL e m n)[q]? = some (.int .i64 (bk e m q)) := by unfold daysL; simp [h]
noncomputable def perL (s e m : Int) (n t : Nat) : List Value := (List.range t).flatMap fun j => [.int .i64 (pF s e m n j), .int .i64 (pT e m n j), .bool (pW s e m n j)]
theorem perL_succ (s e m : Int) (n t : Nat) : perL s e m n (t + 1) = perL s e m n t ++ [.int .i64 (pF s e m n t), .int .i64 (pT e m n t), .bool (pW s e m n t)] := by unfold perL; rw [List.range_succ, List.flatMap_append]; simp
theorem gcell {w w' : World} {r : Option Nat} (g : w.grownBy w' r) {a : Addr} {v : Value} (h : w.cell? a = some v) (hne : some a.block ≠ r) : w'.cell? a = some v := by
  have := g.block a.block (cell_lt h) hne
  simpa [World.cell?, this] using h
theorem news_at (w : World) (vs : List Value) (T : TypeId) : ∀ (j : Nat) (u : Value), vs[j]? = some u → (w.alloc (.cells vs.toArray T)).cell? ((⟨w.heap.size, 0, none⟩ : Addr).add j) = some u := by
  intro j u h
  have e : (⟨w.heap.size, 0, none⟩ : Addr).add j = ⟨w.heap.size, j, none⟩ := by
    by_cases c : j = 0
    · subst c; simp [Addr.add]
    · simp [Addr.add, c]
  rw [e, World.cell?_alloc_mark]
  simpa using h
theorem pW_eq {s e m : Int} {n t : Nat} (h : t < n) : (bk e m (n - 1 - t + 1) == pF s e m n t) = pW s e m n t := by
  unfold pF pW
  by_cases c : t = 0
  · rw [if_pos c, if_pos c]
    subst c
    rw [show n - 1 - 0 + 1 = n by omega]
  · rw [if_neg c, if_neg c, show n - 1 - t + 1 = n - t by omega]
    simp
theorem pF_next {s e m : Int} {n t : Nat} (h : t < n) : pF s e m n (t + 1) = bk e m (n - 1 - t) := by
  unfold pF
  rw [if_neg (by omega), show n - (t + 1) = n - 1 - t by omega]
theorem bkS' {e m : Int} {k : Nat} {x : Int} (he : 0 ≤ e ∧ e ≤ 36524) (hm : m = 1 ∨ m = 3 ∨ m = 6 ∨ m = 12) (hk : k ≤ 41) (hx : x = -((k : Int) * m)) : BkS e m k x := by
  have := bkS he hm hk
  rw [Int.neg_mul, ← hx] at this
  exact this
theorem infoInt : (Tryd.prog.info? 3).map (fun i => (i.zero, i.size, i.bytes)) = some (some (.int .i64 0), 1, 8) := by kernel_rfl
theorem infoPer : (Tryd.prog.info? 58).map (fun i => (i.zero, i.size, i.bytes)) = some (some (.agg #[.int .i64 0, .int .i64 0, .bool false]), 3, 24) := by kernel_rfl
def SchPost (s e m : Int) (w : World) (ed : Ending) (w' : World) : Prop :=
  ∃ v, ed = .returned v ∧ w'.ownsRow w.heap.size 58 3 v (schN s e m) (perL s e m (schN s e m) (schN s e m)) ∧ Below w.heap.size w w'
set_option maxHeartbeats 2000000 in
theorem scheduleS_any (s e m : Int) (w : World) (h : spnB s e m = true) :
    Calls Tryd.prog 53 #[.int .i64 s, .int .i64 e, .int .i64 m] w (SchPost s e m w) := by
  obtain ⟨⟨s0, s1, e1⟩, hm⟩ := spnB_iff.1 h
  have hN : 1 ≤ schN s e m := schN_pos h
  have hN2 := schN_le s e m
  obtain ⟨i0, hi, hz0, hz1, hz2⟩ := info_parts infoInt
  obtain ⟨i1, hj, hy0, hy1, hy2⟩ := info_parts infoPer
  have HM := Lib.hid hm
  clear hm h
  obtain ⟨n, hn⟩ : ∃ n, schN s e m = n := ⟨_, rfl⟩
  unfold SchPost
  rw [hn] at hN hN2 ⊢
  have Hn := Lib.hid hn
  clear hn
  have he : 0 ≤ e ∧ e ≤ 36524 := ⟨by omega, e1⟩
  go_enter Tryd.func53, Tryd.ntmps53
  go_upto_block 0 with fail
  go_cut [7] (fun v wx => wx.ownsRow w.heap.size 3 1 v n (daysL e m n) ∧ Below w.heap.size w wx)
  case first =>
    go_wp2_with fail
    go_loopw [7, 8] (fun v k wr => ∃ q : Nat, q ≤ n ∧ k = .int .i64 q ∧ wr.ownsRow w.heap.size 3 1 v q (daysL e m q) ∧ Below w.heap.size w wr) (fun _ k _ => 41 - (intOf k).toNat)
    case atStart =>
      refine ⟨0, Nat.zero_le _, rfl, ?_, (by repeat (first | exact Below.refl _ _ | refine Below.drew ?_ | refine bel_drewN _ ?_ | refine Below.alloc ?_ (by first | omega | (simp; done) | (simp; omega)) _ | refine Below.setCell ?_ (by first | (show _ ≤ _; omega) | (simp; done) | (simp; omega)) _))⟩
      exact World.ownsRow_made (base := w.heap.size) (e := 3) (size := 1) w #[] 0 (Nat.le_refl _) (by decide) rfl
    case round =>
      obtain ⟨q, hq, rfl, hown, hbel⟩ := hrel
      have hs := hbel.size
      have HO := Lib.hid hown
      have HB := Lib.hid hbel
      clear hown hbel
      by_cases hk : q ≤ 40
      · have HC := Lib.hid (bkS (k := q) he HM.out (by omega))
        obtain ⟨c1, c2⟩ := mul_le (k := q) HM.out (by omega)
        have c3 : -(q : Int) * m = -((q : Int) * m) := Int.neg_mul _ _
        have c4 : -600 ≤ -(q : Int) * m := by omega
        have c5 : -(q : Int) * m ≤ 600 := by omega
        clear c1 c2 c3
        have hat := schN_at (s := s) (e := e) (m := m) (k := q) (by rw [Hn.out]; exact hq) hk
        rw [Hn.out] at hat
        have hbd := bk_bd e m q
        by_cases hlt : q < n
        · have hsb := hat.2 hlt
          go_wp2_with fail
          refine (HC.out _).mono ?_
          rintro ed w1 ⟨rfl, hb1⟩
          have HO1 := own_below HO.out hb1
          have hw1 := hb1.size
          go_wp2_with (at_builtin; refine wpList_append_own _ rfl _ _ 53 rfl w.heap.size 3 i0 (.int .i64 0) 1 8 Tryd.underlying53 hi hz0 hz1 hz2 rfl (by decide) _ _ _ rfl (HO1.alloc _) ⟨w1.heap.size, 0, none⟩ 1 1 [.int .i64 (bk e m q)] rfl rfl (cell_one_new _ _ _) (by simp [Value.oneCell']) (by unfold maxLen; omega) (by omega) (by simp; omega) ?_; intro v' w2 hown2 hg _)
          have HB2 : Hid (Below w.heap.size w w2) := Below.grown (((HB.out).trans (hb1.mono hs)).alloc (by have := hb1.size; omega) _) hg (by simp; omega) (fun k hk => (HO1.lt k hk).1)
          have HO2 := Lib.hid hown2
          clear hown2 hg
          go_wp2
          go_roundw
          case rel => exact ⟨q + 1, by omega, by go_num, by rw [daysL_succ]; exact HO2.out, HB2.out⟩
          case measure => simp [intOf]; omega
        · have hsb : bk e m q ≤ s := by
            by_cases c : s < bk e m q
            · exact absurd (hat.1 c) hlt
            · omega
          obtain rfl : q = n := by omega
          go_wp2_with fail
          refine (HC.out _).mono ?_
          rintro ed w1 ⟨rfl, hb1⟩
          have HO1 := own_below HO.out hb1
          go_wp2
          go_meet
          exact ⟨HO1, HB.out.trans (hb1.mono hs)⟩
      · obtain rfl : q = n := by omega
        go_wp2
        go_meet
        exact ⟨HO.out, HB.out⟩
  case rest =>
    obtain ⟨hown, hbel⟩ := hcut
    have hs := hbel.size
    have HB := Lib.hid hbel
    obtain ⟨g, cap, rfl, hg1, hg2, hg3, hg4⟩ := own_slice hown hN
    have hcell : ∀ q, q < n → wc.cell? ⟨g, q, none⟩ = some (.int .i64 (bk e m q)) := by
      intro q hq
      rw [hown.cellAt q (by omega)]
      exact daysL_at hq
    have HC := Lib.hid hcell
    clear hown hbel hcell
    unfold maxLen at hg4
    go_wp2_with fail
    go_loopw [10, 11, 12] (fun v f i wr => ∃ t : Nat, t ≤ n ∧ i = .int .i64 ((n : Int) - 1 - t) ∧ f = .int .i64 (pF s e m n t) ∧ wr.ownsRow wc.heap.size 58 3 v t (perL s e m n t) ∧ Below wc.heap.size wc wr) (fun _ _ i _ => (intOf i + 1).toNat)
    case atStart =>
      refine ⟨0, Nat.zero_le _, ?_, rfl, ?_, (by repeat (first | exact Below.refl _ _ | refine Below.drew ?_ | refine bel_drewN _ ?_ | refine Below.alloc ?_ (by first | omega | (simp; done) | (simp; omega)) _ | refine Below.setCell ?_ (by first | (show _ ≤ _; omega) | (simp; done) | (simp; omega)) _))⟩
      · simp
      · exact World.ownsRow_made (base := wc.heap.size) (e := 58) (size := 3) wc #[] 0 (Nat.le_refl _) (by decide) rfl
    case round =>
      obtain ⟨t, ht, rfl, rfl, hown, hbel⟩ := hrel
      have hs2 := hbel.size
      have HO := Lib.hid hown
      have HB2 := Lib.hid hbel
      clear hown hbel
      by_cases hlt : t < n
      · obtain ⟨q, hq⟩ : ∃ q : Nat, n - 1 - t = q := ⟨_, rfl⟩
        have e0 : (n : Int) - 1 - (t : Int) = (q : Int) := by omega
        have HW0 := pW_eq (s := s) (e := e) (m := m) hlt
        have HP0 := pF_next (s := s) (e := e) (m := m) hlt
        rw [hq] at HW0 HP0
        have HP := Lib.hid HP0
        have HT : Hid (pT e m n t = bk e m q) := by unfold pT; rw [hq]; exact Lib.hid rfl
        have hqn : q < n := by omega
        have hqt : q + t + 1 = n := by omega
        clear HP0 hq
        rw [e0]
        clear e0
        have HCB := Lib.hid (bkS' (k := q + 1) (x := -((q : Int) + 1) * m) he HM.out (by omega) (by rw [Int.neg_mul]; simp))
        obtain ⟨c1, c2⟩ := mul_le (k := q + 1) HM.out (by omega)
        have c3 : -((q : Int) + 1) * m = -(((q + 1 : Nat) : Int) * m) := by rw [Int.neg_mul]; simp
        have c4 : -600 ≤ -((q : Int) + 1) * m := by omega
        have c5 : -((q : Int) + 1) * m ≤ 600 := by omega
        clear c1 c2 c3
        have hcq : wr.cell? ⟨g, q, none⟩ = some (.int .i64 (bk e m q)) := (HB2.out.cell (p := ⟨g, q, none⟩) hg2).trans (HC.out q hqn)
        go_wp2_with fail
        refine (HCB.out _).mono ?_
        rintro ed w1 ⟨rfl, hb1⟩
        have HO1 := own_below HO.out hb1
        have hw1 := hb1.size
        have hcq1 := bc hb1 hcq
        go_wp2_with (at_builtin; refine wpList_append_own _ rfl _ _ 33 rfl wc.heap.size 58 i1 (.agg #[.int .i64 0, .int .i64 0, .bool false]) 3 24 Tryd.underlying33 hj hy0 hy1 hy2 rfl (by decide) _ _ _ rfl (HO1.alloc _) ⟨w1.heap.size, 0, none⟩ 1 1 [.int .i64 (pF s e m n t), .int .i64 (bk e m q), .bool (pW s e m n t)] rfl rfl (news_at _ _ _) (by simp [Value.oneCell']) (by unfold maxLen; omega) (by omega) (by simp; omega) ?_; intro v' w2 hown2 hg _; have hcq2 := gcell hg (ca hcq1) (fun e => by have := (HO1.lt g e.symm).1; omega))
        have HB3 : Hid (Below wc.heap.size wc w2) := Below.grown (((HB2.out).trans (hb1.mono hs2)).alloc (by have := hb1.size; omega) _) hg (by simp; omega) (fun k hk => (HO1.lt k hk).1)
        have HO2 := Lib.hid hown2
        clear hown2 hg
        go_roundw
        case rel => exact ⟨t + 1, by omega, (by have e3 : ((n : Int) - 1 - ((t + 1 : Nat) : Int)) = (q : Int) - 1 := by omega
                                                rw [e3]), by rw [HP.out], by rw [perL_succ, HT.out]; exact HO2.out, HB3.out⟩
        case measure => first | (simp [intOf]; done) | (simp [intOf]; omega)
      · obtain rfl : t = n := by omega
        have e0 : (t : Int) - 1 - (t : Int) = -1 := by omega
        rw [e0]
        go_wp2
        go_ret
        exact ⟨_, rfl, own_base HO.out hs, HB.out.trans (HB2.out.mono hs)⟩

end Go.Proofs.YtoidghdgebdfaaaDoor
