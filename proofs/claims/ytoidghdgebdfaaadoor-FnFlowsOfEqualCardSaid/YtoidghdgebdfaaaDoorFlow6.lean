/- Bonds: the payments behind a day. -/
import Derived.Test.YtoidghdgebdfaaaDoorFlow5
namespace Go.Proofs.YtoidghdgebdfaaaDoor
open Go.RowKit
set_option linter.unusedVariables false
/-- how many payments lie not behind a day -/
noncomputable def cutK (A : Nat → Int × Int) (d : Int) : Nat → Nat
  | 0 => 0
  | n + 1 => if (A n).1 ≤ d then n + 1 else cutK A d n
theorem cutK_facts (A : Nat → Int × Int) (d : Int) : ∀ n, (∀ i j, j < n → i < j → (A i).1 < (A j).1) → cutK A d n ≤ n ∧ ∀ j, j < n → (d < (A j).1 ↔ cutK A d n ≤ j)
  | 0, _ => ⟨Nat.le_refl _, fun j h => by omega⟩
  | n + 1, h => by
    obtain ⟨a, b⟩ := cutK_facts A d n (fun i j hj hi => h i j (by omega) hi)
    by_cases c : (A n).1 ≤ d
    · have q : cutK A d (n + 1) = n + 1 := by show (if _ then _ else _) = _; rw [if_pos c]
      rw [q]
      refine ⟨Nat.le_refl _, fun j hj => ?_⟩
      by_cases e : j = n
      · subst e; omega
      · have := h j n (by omega) (by omega); omega
    · have q : cutK A d (n + 1) = cutK A d n := by show (if _ then _ else _) = _; rw [if_neg c]
      rw [q]
      refine ⟨by omega, fun j hj => ?_⟩
      by_cases e : j = n
      · subst e; omega
      · exact b j (by omega)
/-- what is known of a row of payments -/
structure FOk (A : Nat → Int × Int) (n : Nat) : Prop where
  le : n ≤ 40
  day : ∀ j, j < n → 0 ≤ (A j).1 ∧ (A j).1 ≤ 36524
  amt : ∀ j, j < n → 0 ≤ (A j).2 ∧ (A j).2 ≤ 200010000
  asc : ∀ i j, j < n → i < j → (A i).1 < (A j).1
theorem fl_ok (s e m r : Int) : FOk (flF s e m r) (flL s e m r) := by
  cases h : bdB s e m r
  · rw [flL_no h]
    exact ⟨by omega, fun j h => by omega, fun j h => by omega, fun i j h => by omega⟩
  · obtain ⟨hr, hm, _, hs, hn, h1, h2⟩ := bd_facts h
    have hp := per_ok hs
    have ha := fun {i j : Nat} => per_asc hs (i := i) (j := j)
    rw [hn] at hp ha
    rw [flL_yes h]
    refine ⟨h2, fun j hj => ?_, fun j hj => ?_, fun i j hj hi => ha hj hi⟩
    · obtain ⟨a, b, c⟩ := hp j hj
      exact ⟨by show 0 ≤ (perA s e m (schL s e m) j).2.1; omega, c⟩
    · obtain ⟨a, b, c⟩ := hp j hj
      have := cpn_bd (m := m) (r := r) (W := (perA s e m (schL s e m) j).2.2) hm hr a b c
      unfold flF fA
      split <;> simp only <;> omega
noncomputable def afK (s e m r d : Int) : Nat := cutK (flF s e m r) d (flL s e m r)
noncomputable def afF (s e m r d : Int) (j : Nat) : Int × Int := flF s e m r (afK s e m r d + j)
noncomputable def afL (s e m r d : Int) : Nat := flL s e m r - afK s e m r d
def FlAf (s e m r d : Int) (w : World) (ed : Ending) (w' : World) : Prop :=
  ∃ v, ed = .returned v ∧ FV w' w.heap.size v (afL s e m r d) (afF s e m r d) ∧ Below w.heap.size w w'
theorem afL_no {s e m r d : Int} (h : bdB s e m r = false) : afL s e m r d = 0 := by unfold afL; rw [flL_no h]; omega
theorem news_at' (w : World) (vs : List Value) (T : TypeId) (H : Nat) (hH : w.heap.size = H) : ∀ (j : Nat) (u : Value), vs[j]? = some u → (w.alloc (.cells vs.toArray T)).cell? ((⟨H, 0, none⟩ : Addr).add j) = some u := by
  subst hH; exact news_at w vs T
theorem FB.kept {w w' : World} {g cap n : Nat} {A : Nat → Int × Int} {row : Option Nat} (h : FB w g cap n A) (hg : w.grownBy w' row) (hne : some g ≠ row) : FB w' g cap n A := by
  have hl := h.lt
  obtain ⟨cur, h1, h2, h3⟩ := h
  exact ⟨cur, (hg.block g hl hne).trans h1, h2, h3⟩
set_option maxHeartbeats 4000000 in
theorem flowsAfterI_any (s e m r d : Int) (w : World) (hM : MD w) :
    Calls Tryd.prog 32 #[.agg #[.int .i64 s, .int .i64 e, .int .i64 m, .int .i64 r], .int .i64 d] w (FlAf s e m r d w) := by
  have hM1 := hM.size
  have HM := Lib.hid hM
  have ok := fl_ok s e m r
  obtain ⟨iF, hj, hy0, hy1, hy2⟩ := info_parts infoFlow
  have HC : Hid (∀ W : World, MD W → Calls Tryd.prog 18 #[.agg #[.int .i64 s, .int .i64 e, .int .i64 m, .int .i64 r]] W (FlOf s e m r W)) := Lib.hid fun W hW => flowsOfI_any s e m r W hW
  unfold FlAf afL afF afK
  unfold FlOf at HC
  generalize flL s e m r = L at *
  generalize flF s e m r = A at *
  have hL := ok.le
  have HOK := Lib.hid ok
  have CK := cutK_facts A d L ok.asc
  generalize cutK A d L = K at *
  obtain ⟨hK, hK2⟩ := CK
  have HK := Lib.hid hK2
  clear hM ok hK2
  go_enter Tryd.func32, Tryd.ntmps32
  go_wp2_with fail
  refine (HC.out _ (HM.out.fwd (((Below.refl _ _).alloc (by omega) _).alloc (by first | (simp; done) | (simp; omega)) _))).mono ?_
  rintro ed w1' ⟨v, rfl, hp, hb⟩
  have HB1 : Hid (Below w.heap.size w w1') := Below.trans (((Below.refl _ _).alloc (Nat.le_refl _) _).alloc (by simp) _) (hb.mono (by simp; omega))
  have HO0 : Hid (w1'.ownsRow (w.heap.size + 1) 37 2 (.slice (some ⟨w.heap.size + 1, 0, none⟩) 0 0) 0 []) := Lib.hid (own_below (by
    have := World.ownsRow_made (base := w.heap.size + 1) (e := 37) (size := 2) (w.alloc (.cells #[.int .i64 s, .int .i64 e, .int .i64 m, .int .i64 r] 25)) #[] 0 (by simp) (by decide) rfl
    simpa using this) hb)
  have hz := hb.size
  simp at hz hp
  clear hb
  rcases hp with ⟨rfl, va, vc, rfl, hvc⟩ | ⟨hpos, g, c, cap, rfl, b1, c1, c2, fb⟩
  · obtain rfl : K = 0 := by omega
    go_wp2_with fail
    go_loopw [5, 12] (fun v i wr => v = .slice (some ⟨w.heap.size + 1, 0, none⟩) 0 0 ∧ i = .int .i64 0 ∧ wr = w1') (fun _ _ _ => 0)
    case atStart => exact ⟨rfl, rfl, rfl⟩
    case round =>
      obtain ⟨rfl, rfl, rfl⟩ := hrel
      go_wp2
      go_ret
      exact ⟨_, rfl, .inl ⟨rfl, _, _, rfl, by decide⟩, HB1.out⟩
  · have PB1 := Lib.hid fb
    have hg := fb.lt
    clear fb
    go_wp2_with fail
    go_loopw [5, 12] (fun v i wr => ∃ (t : Nat) (vv : Value), vv = v ∧ t ≤ L ∧ i = .int .i64 t ∧ wr.ownsRow (w.heap.size + 1) 37 2 v (t - K) (flatF (fun j => A (K + j)) (t - K)) ∧ (v.ownBlock ≠ some g) ∧ FB wr g cap L A ∧ Below (w.heap.size + 1) w1' wr) (fun _ i _ => L - (intOf i).toNat)
    case atStart =>
      refine ⟨0, _, rfl, Nat.zero_le _, rfl, ?_, ?_, PB1.out, Below.refl _ _⟩
      · rw [Nat.zero_sub]; exact HO0.out
      · simp [Value.ownBlock]; omega
    case round =>
      obtain ⟨t, v, rfl, ht, rfl, hown, hne, hpb, hbel⟩ := hrel
      have HO := Lib.hid hown
      have HNE := Lib.hid hne
      have HPB := Lib.hid hpb
      have HBL := Lib.hid hbel
      have hs2 := hbel.size
      by_cases hlt : t < L
      · obtain ⟨⟨p0, p1⟩, _⟩ := hpb.cells hlt
        have hgw := hpb.lt
        have hat := HK.out t hlt
        have i0 : (0 : Int) ≤ (t : Int) := by omega
        have i1 : (t : Int) < (L : Int) := by omega
        have HN1 : Hid (some g ≠ v.ownBlock) := Lib.hid fun e => hne e.symm
        by_cases hin : K ≤ t
        · have hd := hat.2 hin
          have HA : Hid (A t = A (K + (t - K))) := Lib.hid (by rw [show K + (t - K) = t by omega])
          obtain ⟨x, hx⟩ : ∃ x, A t = x := ⟨_, rfl⟩
          rw [hx] at p0 p1 HA hd
          obtain ⟨x0, x1⟩ := x
          simp only at p0 p1 hd
          have hst : t + 1 - K = t - K + 1 := by omega
          have HST := Lib.hid hst
          clear hown hne hpb hbel hat hx hst
          go_wp2_with (at_builtin; refine wpList_append_lies _ rfl _ _ 31 rfl (w.heap.size + 1) 37 iF (.agg #[.int .i64 0, .int .i64 0]) 2 16 Tryd.underlying31 hj hy0 hy1 hy2 rfl (by decide) _ _ _ rfl ((HO.out.alloc _).alloc _) ⟨wr.heap.size + 1, 0, none⟩ 1 1 [.int .i64 x0, .int .i64 x1] rfl rfl (news_at' _ _ _ _ (by first | rfl | (simp; done))) (by simp [Value.oneCell']) (by decide) (by unfold maxLen; omega) (by omega) (by simp; omega) _ rfl ?_; intro g2 cap2 w2 hown2 hgr hat hlt2)
          have HB2 : Hid (Below (w.heap.size + 1) w1' w2) := Below.grown ((HBL.out.alloc (by omega) _).alloc (by simp; omega) _) hgr (by simp; omega) (fun k hk => (HO.out.lt k hk).1)
          have HP2 : Hid (FB w2 g cap L A) := FB.kept (HPB.out.below (((Below.refl _ _).alloc (Nat.le_refl _) _).alloc (by simp) _)) hgr HN1.out
          have HO2 := Lib.hid hown2
          have hne2 : g2 ≠ g := by
            rcases hat with q | q
            · intro c; rw [c] at q; exact HNE.out q
            · rw [q]; simp; omega
          have HN2 := Lib.hid hne2
          clear hown2 hgr hat hne2 p0 p1
          go_wp2
          go_roundw
          case rel => exact ⟨t + 1, _, rfl, by omega, by go_num, by rw [HST.out, flatF_succ]; rw [← HA.out]; exact HO2.out, by simp [Value.ownBlock]; exact HN2.out, HP2.out, HB2.out⟩
          case measure => first | (simp [intOf]; done) | (simp [intOf]; omega)
        · have hd : (A t).1 ≤ d := by
            by_cases q : d < (A t).1
            · exact absurd (hat.1 q) hin
            · omega
          have hst : t + 1 - K = t - K := by omega
          have HST := Lib.hid hst
          clear hown hne hpb hbel hat hst
          generalize A t = x at *
          go_wp2
          go_roundw
          case rel => exact ⟨t + 1, _, rfl, by omega, by go_num, by rw [HST.out]; exact (HO.out.alloc _), HNE.out, (HPB.out.below ((Below.refl _ _).alloc (Nat.le_refl _) _)), (HBL.out.alloc (by omega) _)⟩
          case measure => first | (simp [intOf]; done) | (simp [intOf]; omega)
      · obtain rfl : t = L := by omega
        clear hown hne hpb hbel
        go_wp2
        go_ret
        exact ⟨_, rfl, (fv_of_own HO.out).base (by omega), HB1.out.trans (HBL.out.mono (by omega))⟩
set_option maxHeartbeats 4000000 in
theorem flowsAfterS_ok (s e m r d : Int) (w : World) (hM : MD w) (h : bdB s e m r = true) :
    Calls Tryd.prog 31 #[.agg #[.int .i64 s, .int .i64 e, .int .i64 m, .int .i64 r], .int .i64 d] w (FlAf s e m r d w) := by
  have hM1 := hM.size
  have HM := Lib.hid hM
  have ok := fl_ok s e m r
  obtain ⟨iF, hj, hy0, hy1, hy2⟩ := info_parts infoFlow
  have HC : Hid (∀ W : World, MD W → Calls Tryd.prog 36 #[.agg #[.int .i64 s, .int .i64 e, .int .i64 m, .int .i64 r]] W (FlOf s e m r W)) := Lib.hid fun W hW => flS_ok s e m r h W hW
  unfold FlAf afL afF afK
  unfold FlOf at HC
  generalize flL s e m r = L at *
  generalize flF s e m r = A at *
  have hL := ok.le
  have HOK := Lib.hid ok
  have CK := cutK_facts A d L ok.asc
  generalize cutK A d L = K at *
  obtain ⟨hK, hK2⟩ := CK
  have HK := Lib.hid hK2
  clear hM ok hK2
  go_enter Tryd.func31, Tryd.ntmps31
  go_wp2_with fail
  refine (validBondS_any s e m r _).mono ?_
  rintro ed w1 ⟨rfl, hbv⟩
  have hzv := hbv.size
  simp at hzv
  have k0 : w1.cell? ⟨w.heap.size, 0, none⟩ = some (.int .i64 s) := bc hbv (by simp)
  have k1 : w1.cell? ⟨w.heap.size, 1, none⟩ = some (.int .i64 e) := bc hbv (by simp)
  have k2 : w1.cell? ⟨w.heap.size, 2, none⟩ = some (.int .i64 m) := bc hbv (by simp)
  have k3 : w1.cell? ⟨w.heap.size, 3, none⟩ = some (.int .i64 r) := bc hbv (by simp)
  have HBV : Hid (Below w.heap.size w w1) := Below.trans (((Below.refl _ _).alloc (Nat.le_refl _) _).alloc (by simp) _) (hbv.mono (by simp; omega))
  have HO0 : Hid (w1.ownsRow (w.heap.size + 1) 37 2 (.slice (some ⟨w.heap.size + 1, 0, none⟩) 0 0) 0 []) := Lib.hid (own_below (by
    have := World.ownsRow_made (base := w.heap.size + 1) (e := 37) (size := 2) (w.alloc (.cells #[.int .i64 s, .int .i64 e, .int .i64 m, .int .i64 r] 25)) #[] 0 (by simp) (by decide) rfl
    simpa using this) hbv)
  clear hbv
  go_wp2_with fail
  refine (HC.out _ (HM.out.fwd (HBV.out.mono hM1))).mono ?_
  rintro ed w1' ⟨v, rfl, hp, hb⟩
  have HB1 : Hid (Below w.heap.size w w1') := HBV.out.trans (hb.mono (by omega))
  have HO0 : Hid (w1'.ownsRow (w.heap.size + 1) 37 2 (.slice (some ⟨w.heap.size + 1, 0, none⟩) 0 0) 0 []) := Lib.hid (own_below HO0.out hb)
  have hgb : w.heap.size + 1 + 1 ≤ w1.heap.size := hzv
  have hz : w.heap.size + 1 + 1 ≤ w1'.heap.size := Nat.le_trans hzv hb.size
  clear hb
  rcases hp with ⟨rfl, va, vc, rfl, hvc⟩ | ⟨hpos, g, c, cap, rfl, b1, c1, c2, fb⟩
  · obtain rfl : K = 0 := by omega
    go_wp2_with fail
    go_loopw [5, 7] (fun v i wr => v = .slice (some ⟨w.heap.size + 1, 0, none⟩) 0 0 ∧ i = .int .i64 0 ∧ wr = w1') (fun _ _ _ => 0)
    case atStart => exact ⟨rfl, rfl, rfl⟩
    case round =>
      obtain ⟨rfl, rfl, rfl⟩ := hrel
      go_wp2
      go_ret
      exact ⟨_, rfl, .inl ⟨rfl, _, _, rfl, by decide⟩, HB1.out⟩
  · have PB1 := Lib.hid fb
    have hg := fb.lt
    clear fb
    go_wp2_with fail
    go_loopw [5, 7] (fun v i wr => ∃ (t : Nat) (vv : Value), vv = v ∧ t ≤ L ∧ i = .int .i64 t ∧ wr.ownsRow (w.heap.size + 1) 37 2 v (t - K) (flatF (fun j => A (K + j)) (t - K)) ∧ (v.ownBlock ≠ some g) ∧ FB wr g cap L A ∧ Below (w.heap.size + 1) w1' wr) (fun _ i _ => L - (intOf i).toNat)
    case atStart =>
      refine ⟨0, _, rfl, Nat.zero_le _, rfl, ?_, ?_, PB1.out, Below.refl _ _⟩
      · rw [Nat.zero_sub]; exact HO0.out
      · simp [Value.ownBlock]; omega
    case round =>
      obtain ⟨t, v, rfl, ht, rfl, hown, hne, hpb, hbel⟩ := hrel
      have HO := Lib.hid hown
      have HNE := Lib.hid hne
      have HPB := Lib.hid hpb
      have HBL := Lib.hid hbel
      have hs2 := hbel.size
      by_cases hlt : t < L
      · obtain ⟨⟨p0, p1⟩, _⟩ := hpb.cells hlt
        have hgw := hpb.lt
        have hat := HK.out t hlt
        have i0 : (0 : Int) ≤ (t : Int) := by omega
        have i1 : (t : Int) < (L : Int) := by omega
        have HN1 : Hid (some g ≠ v.ownBlock) := Lib.hid fun e => hne e.symm
        by_cases hin : K ≤ t
        · have hd := hat.2 hin
          have HA : Hid (A t = A (K + (t - K))) := Lib.hid (by rw [show K + (t - K) = t by omega])
          obtain ⟨x, hx⟩ : ∃ x, A t = x := ⟨_, rfl⟩
          rw [hx] at p0 p1 HA hd
          obtain ⟨x0, x1⟩ := x
          simp only at p0 p1 hd
          have hst : t + 1 - K = t - K + 1 := by omega
          have HST := Lib.hid hst
          clear hown hne hpb hbel hat hx hst
          go_wp2_with (at_builtin; refine wpList_append_lies _ rfl _ _ 31 rfl (w.heap.size + 1) 37 iF (.agg #[.int .i64 0, .int .i64 0]) 2 16 Tryd.underlying31 hj hy0 hy1 hy2 rfl (by decide) _ _ _ rfl (HO.out.alloc _) ⟨wr.heap.size, 0, none⟩ 1 1 [.int .i64 x0, .int .i64 x1] rfl rfl (news_at' _ _ _ _ (by first | rfl | (simp; done))) (by simp [Value.oneCell']) (by decide) (by unfold maxLen; omega) (by omega) (by simp; omega) _ rfl ?_; intro g2 cap2 w2 hown2 hgr hat hlt2)
          have HB2 : Hid (Below (w.heap.size + 1) w1' w2) := Below.grown (HBL.out.alloc (by omega) _) hgr (by simp; omega) (fun k hk => (HO.out.lt k hk).1)
          have HP2 : Hid (FB w2 g cap L A) := FB.kept (HPB.out.below ((Below.refl _ _).alloc (Nat.le_refl _) _)) hgr HN1.out
          have HO2 := Lib.hid hown2
          have hne2 : g2 ≠ g := by
            rcases hat with q | q
            · intro c; rw [c] at q; exact HNE.out q
            · rw [q]; simp; omega
          have HN2 := Lib.hid hne2
          clear hown2 hgr hat hne2 p0 p1
          go_wp2
          go_roundw
          case rel => exact ⟨t + 1, _, rfl, by omega, by go_num, by rw [HST.out, flatF_succ]; rw [← HA.out]; exact HO2.out, by simp [Value.ownBlock]; exact HN2.out, HP2.out, HB2.out⟩
          case measure => first | (simp [intOf]; done) | (simp [intOf]; omega)
        · have hd : (A t).1 ≤ d := by
            by_cases q : d < (A t).1
            · exact absurd (hat.1 q) hin
            · omega
          have hst : t + 1 - K = t - K := by omega
          have HST := Lib.hid hst
          clear hown hne hpb hbel hat hst
          generalize A t = x at *
          go_wp2
          go_roundw
          case rel => exact ⟨t + 1, _, rfl, by omega, by go_num, by rw [HST.out]; exact HO.out, HNE.out, HPB.out, HBL.out⟩
          case measure => first | (simp [intOf]; done) | (simp [intOf]; omega)
      · obtain rfl : t = L := by omega
        clear hown hne hpb hbel
        go_wp2
        go_ret
        exact ⟨_, rfl, (fv_of_own HO.out).base (by omega), HB1.out.trans (HBL.out.mono (by omega))⟩
theorem flowsAfterS_any (s e m r d : Int) (w : World) (hM : MD w) :
    Calls Tryd.prog 31 #[.agg #[.int .i64 s, .int .i64 e, .int .i64 m, .int .i64 r], .int .i64 d] w (FlAf s e m r d w) := by
  cases h : bdB s e m r
  · unfold FlAf
    rw [afL_no h]
    go_enter Tryd.func31, Tryd.ntmps31
    have HB := Lib.hid (Below.refl w.heap.size w)
    go_wp2_with fail
    refine (validBondS_any s e m r _).mono ?_
    rintro e w1 ⟨rfl, hb⟩
    have b0_1 : w1.cell? ⟨w.heap.size, 0, none⟩ = some (.int .i64 s) := bc hb (by first | (simp; done) | go_simp)
    have b1_1 : w1.cell? ⟨w.heap.size, 1, none⟩ = some (.int .i64 e) := bc hb (by first | (simp; done) | go_simp)
    have b2_1 : w1.cell? ⟨w.heap.size, 2, none⟩ = some (.int .i64 m) := bc hb (by first | (simp; done) | go_simp)
    have b3_1 : w1.cell? ⟨w.heap.size, 3, none⟩ = some (.int .i64 r) := bc hb (by first | (simp; done) | go_simp)
    have bl_1 : w.heap.size < w1.heap.size := cell_lt b0_1
    have hszw1 := below_size hb
    try simp at hszw1
    have HBq : Below w.heap.size w w1 := Below.trans (by repeat (first | exact Below.refl _ _ | exact HB.out | refine Below.drew ?_ | refine bel_drewN _ ?_ | refine Below.alloc ?_ (by first | omega | (simp; done) | (simp; omega)) _ | refine Below.setCell ?_ (by first | (show _ ≤ _; omega) | (simp; done) | (simp; omega)) _)) (hb.mono (by first | omega | (simp; done) | (simp; omega)))
    have HB := Lib.hid HBq
    clear HBq hb
    go_wp2
    go_ret
    exact ⟨_, rfl, .inl ⟨rfl, _, _, rfl, by decide⟩, HB.out⟩
  · exact flowsAfterS_ok s e m r d w hM h
end Go.Proofs.YtoidghdgebdfaaaDoor
