/- Schedules: the program's iterator. -/
import Derived.Test.YtoidghdgebdfaaaDoorSch2
import Derived.RangeFuncNested
import Derived.RangeFuncBound
import Derived.RangeFuncCalls
import Derived.RangeFuncLeaves
import Derived.RangeFuncBox
import Derived.Shelf.Abstract
import Derived.Shelf.RegionOpen
import Derived.OwnWalkIn
import Derived.TacticsInMore
import Derived.LoopNIn
import Derived.LoopIn
namespace Go.Proofs.YtoidghdgebdfaaaDoor
open Go.RowKit Go.Shelf
set_option linter.unusedVariables false
attribute [local go_sem] Oper.semAt_some
/-- how many periods there are if nothing ends the count -/
noncomputable def endN (s e m : Int) : Nat := cntS s e m 1000 0
theorem bk_far {e m : Int} {k : Nat} (hm : 1 ≤ m) (h : 600 < (k : Int) * m) : bk e m k = -1 := by
  unfold bk addM
  rw [if_neg (c := inR (-((k : Int) * m)) (-600) 600 = true) (by rw [inR_true]; omega)]
  split <;> rfl
theorem endN_facts {s e m : Int} (hm : 1 ≤ m) (hs : 0 ≤ s) : (∀ j, j < endN s e m → s < bk e m j) ∧ bk e m (endN s e m) ≤ s ∧ endN s e m ≤ 601 := by
  obtain ⟨_, a, b, c⟩ := cntS_facts s e m 1000 0
  have h1 : ∀ j, j < endN s e m → s < bk e m j := fun j hj => b j (by omega) hj
  have h2 : endN s e m ≤ 601 := by
    by_cases q : endN s e m ≤ 601
    · exact q
    · have := h1 601 (by omega)
      rw [bk_far hm (by have : (601 : Int) * 1 ≤ 601 * m := Int.mul_le_mul_of_nonneg_left hm (by decide); omega)] at this
      omega
  refine ⟨h1, ?_, h2⟩
  have := c (by unfold endN at h2; omega)
  exact this
theorem endN_at {s e m : Int} (hm : 1 ≤ m) (hs : 0 ≤ s) {k : Nat} (h : k ≤ endN s e m) : s < bk e m k ↔ k < endN s e m := by
  obtain ⟨a, b, c⟩ := endN_facts (e := e) hm hs
  constructor
  · intro h1
    by_cases q : k = endN s e m
    · rw [q] at h1; omega
    · omega
  · exact a k
/-- what the iterator yields: the end of a period, the day at which a whole one begins -/
noncomputable def ysL (e m : Int) (k : Nat) : List (Int × Int) := (List.range k).map fun j => (bk e m j, bk e m (j + 1))
theorem ysL_succ (e m : Int) (k : Nat) : ysL e m (k + 1) = ysL e m k ++ [(bk e m k, bk e m (k + 1))] := by unfold ysL; rw [List.range_succ, List.map_append]; rfl
theorem ysL_len (e m : Int) (k : Nat) : (ysL e m k).length = k := by unfold ysL; simp
theorem ysL_pre (e m : Int) {k n : Nat} (h : k ≤ n) : ysL e m k <+: ysL e m n := by
  unfold ysL
  refine List.IsPrefix.map _ ?_
  refine ⟨(List.range (n - k)).map (k + ·), ?_⟩
  rw [← List.range_add, show k + (n - k) = n by omega]
/-- what a round keeps: what lay below n, and the three boxes -/
structure KpS (n Bs Be Bm : Nat) (W W' : World) : Prop where
  below : Below n W W'
  bs : W'.heap[Bs]? = W.heap[Bs]?
  be : W'.heap[Be]? = W.heap[Be]?
  bm : W'.heap[Bm]? = W.heap[Bm]?
theorem KpS.refl (n Bs Be Bm : Nat) (W : World) : KpS n Bs Be Bm W W := ⟨Below.refl _ _, rfl, rfl, rfl⟩
theorem KpS.trans {n Bs Be Bm : Nat} {A B C : World} (h : KpS n Bs Be Bm A B) (k : KpS n Bs Be Bm B C) : KpS n Bs Be Bm A C :=
  ⟨h.below.trans k.below, k.bs.trans h.bs, k.be.trans h.be, k.bm.trans h.bm⟩
theorem KpS.of {n Bs Be Bm B : Nat} {W W' : World} (h : Below B W W') (h0 : n ≤ B) (h1 : Bs < B) (h2 : Be < B) (h3 : Bm < B) : KpS n Bs Be Bm W W' :=
  ⟨h.mono h0, h.block _ h1, h.block _ h2, h.block _ h3⟩
theorem bkI {e m : Int} {k : Nat} {x : Int} (he : 0 ≤ e ∧ e ≤ 36524) (hx : x = -((k : Int) * m)) (W : World) (hM : MD W) :
    Calls Tryd.prog 62 #[.int .i64 e, .int .i64 x] W fun ed w' => ed = .returned (.int .i64 (bk e m k)) ∧ Below W.heap.size W w' := by
  have := addMonthsI_any e x W hM
  rw [hx] at this ⊢
  exact this
set_option maxRecDepth 100000 in
set_option maxHeartbeats 2000000 in
theorem ends1_in (n : Nat) (hn : 1 ≤ n) (l Bs Be Bm n₀ : Nat) (s e m : Int) (he : 0 ≤ e ∧ e ≤ 36524) (hm : 1 ≤ m) (hm2 : m ≤ 12) (hs : 0 ≤ s) (J Jx : List (Int × Int) → World → Prop) (W : World)
    (hJ : AbidesFrom W.heap.size J)
    (hY : ∀ pre x W1, J pre W1 → pre.length < endN s e m → YieldAt Fence.wide (n - 1) Tryd.prog l #[.int .i64 x.1, .int .i64 x.2] W1 fun ed W' =>
      (ed = .returned (.bool true) ∧ J (pre ++ [x]) W' ∧ KpS n₀ Bs Be Bm W1 W') ∨ (ed = .returned (.bool false) ∧ Jx (pre ++ [x]) W'))
    (hn0 : n₀ ≤ W.heap.size) (hM : MD W) (hMn : 0 + 1 ≤ n₀) (lb : Bs < W.heap.size ∧ Be < W.heap.size ∧ Bm < W.heap.size) (cs : W.cell? ⟨Bs, 0, none⟩ = some (.int .i64 s)) (ce : W.cell? ⟨Be, 0, none⟩ = some (.int .i64 e)) (cm : W.cell? ⟨Bm, 0, none⟩ = some (.int .i64 m)) (h0 : J [] W) :
    CallsIn Fence.wide n Tryd.prog 61 #[.func (.yield l) #[] #[], .pointer (some ⟨Be, 0, none⟩), .pointer (some ⟨Bs, 0, none⟩), .pointer (some ⟨Bm, 0, none⟩)] W fun ed W' => (∃ v, ed = .returned v) ∧
      ((∃ ys, ys = ysL e m (endN s e m) ∧ J ys W') ∨ (∃ pre, pre <+: ysL e m (endN s e m) ∧ Jx pre W')) := by
  obtain ⟨N, hN⟩ : ∃ N, endN s e m = N := ⟨_, rfl⟩
  have hat := fun k (h : k ≤ N) => endN_at (s := s) (e := e) (m := m) hm hs (k := k) (by rw [hN]; exact h)
  have hle := (endN_facts (e := e) hm hs).2.2
  rw [hN] at hat hY hle ⊢
  have HAT := Lib.hid hat
  have HY := Lib.hid hY
  have HJ := Lib.hid hJ
  have HM := Lib.hid hM
  have H0 := Lib.hid h0
  obtain ⟨l1, l2, l3⟩ := lb
  have hbe := bk_zero (m := m) he
  have HE := Lib.hid hbe
  clear hat hY hJ hM h0 hN hbe
  refine callsIn_of_wp Tryd.func61 rfl trivial ?_ rfl
  simp only [Tryd.ntmps61, List.size_toArray, List.length_cons, List.length_nil, Nat.reduceAdd, Nat.reduceSub, Array.replicate_succ, Array.replicate_zero, List.push_toArray, List.append_toArray, List.nil_append, List.cons_append]
  gi_wp2
  gi_loopw [5, 6] (fun at' k wr => ∃ j : Nat, j ≤ N ∧ at' = .int .i64 (bk e m j) ∧ k = .int .i64 ((j : Int) + 1) ∧ J (ysL e m j) wr ∧ KpS n₀ Bs Be Bm W wr) (fun _ k _ => 700 - (intOf k).toNat)
  case atStart => exact ⟨0, Nat.zero_le _, by rw [HE.out], rfl, H0.out, KpS.refl _ _ _ _ _⟩
  case round =>
    obtain ⟨j, hj, rfl, rfl, hJs, hbel⟩ := hrel
    have HJs := Lib.hid hJs
    have HB := Lib.hid hbel
    have cs1 := (World.cell?_of_block (a := ⟨Bs, 0, none⟩) hbel.bs).trans cs
    have ce1 := (World.cell?_of_block (a := ⟨Be, 0, none⟩) hbel.be).trans ce
    have cm1 := (World.cell?_of_block (a := ⟨Bm, 0, none⟩) hbel.bm).trans cm
    have hM1 : Hid (MD wr) := HM.out.fwd (hbel.below.mono hMn)
    have hsz := hbel.below.size
    clear hJs hbel
    by_cases hlt : j < N
    · have hsb := (HAT.out j hj).2 hlt
      have p0 : 0 ≤ ((j : Int) + 1) * m := Int.mul_nonneg (by omega) (by omega)
      have p1 : ((j : Int) + 1) * m ≤ 700 * 12 := Int.mul_le_mul (by omega) hm2 (by omega) (by omega)
      have p2 : -((j : Int) + 1) * m = -(((j : Int) + 1) * m) := Int.neg_mul _ _
      have p3 : -8400 ≤ -((j : Int) + 1) * m := by omega
      have p4 : -((j : Int) + 1) * m ≤ 0 := by omega
      have P2 := Lib.hid p2
      clear p2
      by_cases hk : ((j : Int) + 1) * m ≤ 600
      · gi_wp2_with fail
        refine ⟨trivial, ?_⟩
        refine (callsIn_wide.2 (bkI (m := m) (k := j + 1) he (by rw [P2.out]; simp) _ hM1.out)).mono ?_
        rintro ed w1 ⟨rfl, hb1⟩
        have hJ1 : Hid (J (ysL e m j) w1) := HJ.out _ _ _ none HJs.out ⟨hb1.os, hb1.tape, hb1.output, hb1.size, fun q hq _ => hb1.block q hq⟩ (fun r h => by cases h)
        have HB1 : Hid (KpS n₀ Bs Be Bm wr w1) := KpS.of hb1 (by omega) (by omega) (by omega) (by omega)
        have cs2 := bc hb1 cs1
        have ce2 := bc hb1 ce1
        have cm2 := bc hb1 cm1
        clear hb1
        obtain ⟨fn, tmps, assign, body, hy, hR⟩ := HY.out (ysL e m j) (bk e m j, bk e m (j + 1)) w1 hJ1.out (by rw [ysL_len]; exact hlt)
        dsimp only at hy
        gi_wp2
        refine hR.mono ?_
        rintro ed w3 (⟨rfl, hJ3, hk3⟩ | ⟨rfl, hJx3⟩)
        · have HJ3 := Lib.hid hJ3
          have HK3 := Lib.hid hk3
          clear hJ3 hk3 hy hR
          gi_wp2
          go_roundw
          case rel => exact ⟨j + 1, by omega, rfl, by go_num, by rw [ysL_succ]; exact HJ3.out, (HB.out.trans HB1.out).trans HK3.out⟩
          case measure => simp [intOf]; omega
        · have HJx := Lib.hid hJx3
          clear hJx3 hy hR
          gi_wp2
          refine bodyPost_ret (results_none rfl _ _ _) rfl ?_
          exact ⟨⟨_, rfl⟩, .inr ⟨_, ysL_pre e m (show j + 1 ≤ N by omega), by rw [ysL_succ]; exact HJx.out⟩⟩
      · have hfar : bk e m (j + 1) = -1 := bk_far hm (by simp; omega)
        have HF := Lib.hid hfar
        clear hfar
        obtain ⟨fn, tmps, assign, body, hy, hR⟩ := HY.out (ysL e m j) (bk e m j, bk e m (j + 1)) wr HJs.out (by rw [ysL_len]; exact hlt)
        dsimp only at hy
        rw [HF.out] at hy
        gi_wp2
        refine hR.mono ?_
        rintro ed w3 (⟨rfl, hJ3, hk3⟩ | ⟨rfl, hJx3⟩)
        · have HJ3 := Lib.hid hJ3
          have HK3 := Lib.hid hk3
          clear hJ3 hk3 hy hR
          gi_wp2
          go_roundw
          case rel => exact ⟨j + 1, by omega, by rw [HF.out], by go_num, by rw [ysL_succ]; exact HJ3.out, HB.out.trans HK3.out⟩
          case measure => simp [intOf]; omega
        · have HJx := Lib.hid hJx3
          clear hJx3 hy hR
          gi_wp2
          refine bodyPost_ret (results_none rfl _ _ _) rfl ?_
          exact ⟨⟨_, rfl⟩, .inr ⟨_, ysL_pre e m (show j + 1 ≤ N by omega), by rw [ysL_succ]; exact HJx.out⟩⟩
    · obtain rfl : j = N := by omega
      have hsb : bk e m j ≤ s := by
        by_cases c : s < bk e m j
        · exact absurd ((HAT.out j hj).1 c) hlt
        · omega
      gi_wp2
      go_end0
      exact ⟨⟨_, rfl⟩, .inl ⟨_, rfl, HJs.out⟩⟩
end Go.Proofs.YtoidghdgebdfaaaDoor
