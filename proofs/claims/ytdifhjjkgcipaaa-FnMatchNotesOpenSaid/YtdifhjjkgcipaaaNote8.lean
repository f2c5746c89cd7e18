/- Notes: equal rows; the draws. -/
import Derived.Test.YtdifhjjkgcipaaaNote5
import Derived.Test.YtdifhjjkgcipaaaReader3
namespace Go.Proofs.Ytdifhjjkgcipaaa
open Go.RowKit
set_option linter.unusedVariables false
set_option maxHeartbeats 2000000 in
theorem equalInts_any (v1 v2 : Value) (b1 b2 L : Nat) (A : Nat → Int) (w : World) (hL : L ≤ 1048576) (h1 : IV w b1 v1 L A) (h2 : IV w b2 v2 L A) :
    Calls Try.prog 11 #[v1, v2] w fun e w' => e = .returned (.bool true) ∧ Below w.heap.size w w' := by
  obtain ⟨a1, c1, rfl, l1, m1, F1⟩ := h1.form
  obtain ⟨a2, c2, rfl, l2, m2, F2⟩ := h2.form
  have P1 := Lib.hid F1
  have P2 := Lib.hid F2
  clear h1 h2 F1 F2
  go_enter Try.func11, Try.ntmps11
  go_wp2
  go_loopw [5] (fun i wr => ∃ k : Nat, k ≤ L ∧ i = .int .i64 k ∧ Below w.heap.size w wr) (fun i _ => L - (intOf i).toNat)
  case atStart => exact ⟨0, Nat.zero_le _, rfl, Below.refl _ _⟩
  case round =>
    obtain ⟨k, hk, rfl, hbel⟩ := hrel
    have hsz := hbel.size
    by_cases hlt : k < L
    · obtain ⟨g1, cap1, rfl, _, gl1, n1⟩ := P1.out (by omega)
      obtain ⟨g2, cap2, rfl, _, gl2, n2⟩ := P2.out (by omega)
      have a0 := (n1.fwd hbel gl1).cell hlt
      have b0 := (n2.fwd hbel gl2).cell hlt
      have HB := Lib.hid hbel
      clear hbel n1 n2
      have i0 : (0 : Int) ≤ (k : Int) := by omega
      have i1 : (k : Int) < (L : Int) := by omega
      generalize A k = x at *
      go_wp2_with fail
      go_quiet (fail)
      go_wp2
      go_roundw
      case rel => exact ⟨k + 1, by omega, by go_num, bel_drewN _ HB.out⟩
      case measure => simp [intOf]; omega
    · obtain rfl : k = L := by omega
      go_wp2
      go_ret
      exact ⟨rfl, hbel⟩
set_option maxHeartbeats 4000000 in
theorem equalNotes_any (v1 v2 : Value) (b1 b2 L : Nat) (A : Nat → Nt) (w : World) (hL : L ≤ 1048576) (h1 : NV w b1 v1 L A) (h2 : NV w b2 v2 L A) :
    Calls Try.prog 17 #[v1, v2] w fun e w' => e = .returned (.bool true) ∧ Below w.heap.size w w' := by
  obtain ⟨a1, c1, rfl, l1, m1, F1⟩ := h1.form
  obtain ⟨a2, c2, rfl, l2, m2, F2⟩ := h2.form
  have P1 := Lib.hid F1
  have P2 := Lib.hid F2
  clear h1 h2 F1 F2
  go_enter Try.func17, Try.ntmps17
  go_wp2
  go_loopw [5] (fun i wr => ∃ k : Nat, k ≤ L ∧ i = .int .i64 k ∧ Below w.heap.size w wr) (fun i _ => L - (intOf i).toNat)
  case atStart => exact ⟨0, Nat.zero_le _, rfl, Below.refl _ _⟩
  case round =>
    obtain ⟨k, hk, rfl, hbel⟩ := hrel
    have hsz := hbel.size
    by_cases hlt : k < L
    · obtain ⟨g1, cap1, rfl, _, gl1, n1⟩ := P1.out (by omega)
      obtain ⟨g2, cap2, rfl, _, gl2, n2⟩ := P2.out (by omega)
      obtain ⟨⟨a0, a1, a2⟩, _⟩ := (n1.fwd hbel gl1).cells hlt
      obtain ⟨⟨b0, b1, b2⟩, _⟩ := (n2.fwd hbel gl2).cells hlt
      have HB := Lib.hid hbel
      clear hbel n1 n2
      have i0 : (0 : Int) ≤ (k : Int) := by omega
      have i1 : (k : Int) < (L : Int) := by omega
      generalize (A k).1 = x at *
      generalize (A k).2.1 = y at *
      generalize (A k).2.2 = z at *
      go_wp2_with fail
      go_quiet (fail)
      go_wp2
      go_roundw
      case rel => exact ⟨k + 1, by omega, by go_num, bel_drewN _ HB.out⟩
      case measure => simp [intOf]; omega
    · obtain rfl : k = L := by omega
      go_wp2
      go_ret
      exact ⟨rfl, hbel⟩
theorem own_keep {w w' : World} {R base : Nat} {e : TypeId} {size : Nat} {v : Value} {n : Nat} {xs : List Value} (h : w.ownsRow base e size v n xs) (k : Keep R w w') (hR : R < base) : w'.ownsRow base e size v n xs := by
  refine h.kept (row := some R) ⟨k.os, k.tape, k.output, k.size, fun i hi hr => k.block i hi (fun e => hr (by rw [e]))⟩ ?_
  cases hv : v.ownBlock with
  | none => exact .inl rfl
  | some g => exact .inr (fun e => by have := (h.lt g hv).1; cases e; omega)
theorem NV.keep {w w' : World} {b R : Nat} {v : Value} {L : Nat} {A : Nat → Nt} (h : NV w b v L A) (k : Keep R w w') (hR : R < b) : NV w' b v L A := by
  rcases h with h | ⟨h1, g, c, cap, h2, h3, h4, h5, h6⟩
  · exact .inl h
  · have hl := h6.lt
    obtain ⟨cur, e1, e2, e3⟩ := h6
    exact .inr ⟨h1, g, c, cap, h2, h3, h4, h5, cur, (k.block g hl (by omega)).trans e1, e2, e3⟩
theorem NB.keep {w w' : World} {g cap n R : Nat} {A : Nat → Nt} (h : NB w g cap n A) (k : Keep R w w') (hR : g ≠ R) : NB w' g cap n A := by
  have hl := h.lt
  obtain ⟨cur, e1, e2, e3⟩ := h
  exact ⟨cur, (k.block g hl hR).trans e1, e2, e3⟩
theorem NB.alloc {w : World} {g cap n : Nat} {A : Nat → Nt} (h : NB w g cap n A) (o : Obj) : NB (w.alloc o) g cap n A := h.below ((Below.refl _ _).alloc (Nat.le_refl _) o)
theorem KB.grown {B R : Nat} {a w w1 : World} {r : Option Nat} (h : KB B R a w) (hB : B ≤ a.heap.size) (g : w.grownBy w1 r) (hr : ∀ k, r = some k → B ≤ k) : KB B R a w1 :=
  ⟨g.os.trans h.os, g.tape.trans h.tape, g.output.trans h.output, Nat.le_trans h.size g.size, fun k hk hne => (g.block k (by have := h.size; omega) (fun e => by have := hr k e.symm; omega)).trans (h.block k hk hne)⟩
def AnyNP (R : Nat) (K : Int) (w : World) (e : Ending) (w' : World) : Prop :=
  ∃ (v : Value) (L : Nat) (A : Nat → Nt), e = .returned v ∧ L ≤ 11 ∧ NV w' w.heap.size v L A ∧ Keep R w w' ∧ Rd w' R (K + 40)
set_option maxRecDepth 4000 in
set_option maxHeartbeats 4000000 in
theorem anyNotes_any (R : Nat) (K : Int) (w : World) (hR : R < w.heap.size) (hK : 0 ≤ K) (hK' : K ≤ 900000) (hrd : Rd w R K) :
    Calls Try.prog 28 #[.pointer (some ⟨R, 0, none⟩)] w (AnyNP R K w) := by
  obtain ⟨iN, hj, hy0, hy1, hy2⟩ := info_parts infoNote
  have hRw : R < w.heap.size := hR
  have HR := Lib.hid hrd
  clear hrd
  have HB := Lib.hid (KB.refl w.heap.size R w)
  go_enter Try.func28, Try.ntmps28
  have HO := Lib.hid (World.ownsRow_made (base := w.heap.size) (e := 30) (size := 3) w #[] 0 (Nat.le_refl _) (by decide) rfl)
  go_wp2_with fail
  refine (one_any _ _ _ (0) (11) _ _ _ (by exact intsIn_lit _ [3, 4, 2, 6, 1, 0, 10, 11] _ _ _ _ _ _ rfl (by first | (simp; done) | (simp; omega) | omega) (by simp; try omega)) (by omega) (by omega) (by first | omega | (simp; done) | (simp; omega)) (by first | omega | (simp; omega)) (by first | exact hR | omega | (simp; done) | (simp; omega)) (by omega) (by omega) (Rd.fwd HR.out (by repeat (first | exact Below.refl _ _ | refine Below.drew ?_ | refine bel_drewN _ ?_ | refine Below.alloc ?_ (by first | omega | (simp; done) | (simp; omega)) _ | refine Below.setCell ?_ (by first | (show _ ≤ _; omega) | (simp; done) | (simp; omega)) _)))).mono ?_
  rintro e v1 ⟨n, rfl, n0, n1, k, r⟩
  have HO := Lib.hid (own_keep (HO.out.alloc _) k hRw)
  have HBq : KB (w.heap.size) (R) w v1 := KB.callee (Nat.le_refl _) (by repeat (first | exact KB.refl _ _ _ | exact HB.out | refine KB.drew ?_ | refine KB.drewN ?_ | refine KB.alloc (Nat.le_refl _) ?_ _ | refine KB.setCell ?_ (by first | (show _ ≤ _; omega) | (simp; done) | (simp; omega)) _)) k
  have HB := Lib.hid HBq
  clear HBq
  have hR : R < v1.heap.size := Nat.lt_of_lt_of_le (by first | exact hR | omega | (simp; done) | (simp; omega)) k.size
  have HR := Lib.hid r
  have hszv1 := k.size
  try simp at hszv1
  clear r k
  go_wp2_with fail
  go_loopw [3, 4] (fun o i wr => ∃ (o0 : Value) (wo : World) (q : Nat) (l : List Nt) (m : Int), o0 = o ∧ wo = wr ∧ l.length = q ∧ i = .int .i64 m ∧ 0 ≤ m ∧ q + m ≤ 11 ∧ wr.ownsRow w.heap.size 30 3 o q (valN l) ∧ KB w.heap.size R w wr ∧ Rd wr R (K + 1 + 3 * q)) (fun _ i _ => (intOf i).toNat)
  case atStart => exact ⟨_, _, 0, [], n, rfl, rfl, rfl, rfl, n0, by omega, HO.out, HB.out, Rd.mono HR.out (by omega)⟩
  case round =>
    obtain ⟨o, wo, q, l, m, rfl, rfl, hl, rfl, m0, hm, hown, hkb, hrd⟩ := hrel
    have HO := Lib.hid hown
    have HB := Lib.hid hkb
    have HR := Lib.hid hrd
    have HL := Lib.hid hl
    have hR : R < wo.heap.size := Nat.lt_of_lt_of_le hRw hkb.size
    have hszo := hkb.size
    clear hown hkb hrd hl
    by_cases h0 : 0 < m
    · have hm1 : 1 ≤ m := h0
      go_wp2_with fail
      refine (pick_any _ _ _ _ (by first | exact hR | omega | (simp; done) | (simp; omega)) (by omega) (by omega) (by omega) (by omega) (Rd.fwd HR.out (by repeat (first | exact Below.refl _ _ | refine Below.drew ?_ | refine bel_drewN _ ?_ | refine Below.alloc ?_ (by first | omega | (simp; done) | (simp; omega)) _ | refine Below.setCell ?_ (by first | (show _ ≤ _; omega) | (simp; done) | (simp; omega)) _)))).mono ?_
      rintro e v2 ⟨x, rfl, x0, x1, k, r⟩
      have x2 : x ≤ 1 := by omega
      clear x1
      have HO := Lib.hid (own_keep HO.out k hRw)
      have HBq : KB (w.heap.size) (R) w v2 := KB.callee (Nat.le_refl _) (by repeat (first | exact KB.refl _ _ _ | exact HB.out | refine KB.drew ?_ | refine KB.drewN ?_ | refine KB.alloc (Nat.le_refl _) ?_ _ | refine KB.setCell ?_ (by first | (show _ ≤ _; omega) | (simp; done) | (simp; omega)) _)) k
      have HB := Lib.hid HBq
      clear HBq
      have hR : R < v2.heap.size := Nat.lt_of_lt_of_le (by first | exact hR | omega | (simp; done) | (simp; omega)) k.size
      have HR := Lib.hid r
      have hszv2 := k.size
      try simp at hszv2
      clear r k
      go_wp2_with fail
      refine (pick_any _ _ _ _ (by first | exact hR | omega | (simp; done) | (simp; omega)) (by omega) (by omega) (by omega) (by omega) (Rd.fwd HR.out (by repeat (first | exact Below.refl _ _ | refine Below.drew ?_ | refine bel_drewN _ ?_ | refine Below.alloc ?_ (by first | omega | (simp; done) | (simp; omega)) _ | refine Below.setCell ?_ (by first | (show _ ≤ _; omega) | (simp; done) | (simp; omega)) _)))).mono ?_
      rintro e v3 ⟨y, rfl, y0, y1, k, r⟩
      have y2 : y ≤ 1 := by omega
      clear y1
      have HO := Lib.hid (own_keep HO.out k hRw)
      have HBq : KB (w.heap.size) (R) w v3 := KB.callee (Nat.le_refl _) (by repeat (first | exact KB.refl _ _ _ | exact HB.out | refine KB.drew ?_ | refine KB.drewN ?_ | refine KB.alloc (Nat.le_refl _) ?_ _ | refine KB.setCell ?_ (by first | (show _ ≤ _; omega) | (simp; done) | (simp; omega)) _)) k
      have HB := Lib.hid HBq
      clear HBq
      have hR : R < v3.heap.size := Nat.lt_of_lt_of_le (by first | exact hR | omega | (simp; done) | (simp; omega)) k.size
      have HR := Lib.hid r
      have hszv3 := k.size
      try simp at hszv3
      clear r k
      go_wp2_with fail
      refine (pick_any _ _ _ _ (by first | exact hR | omega | (simp; done) | (simp; omega)) (by omega) (by omega) (by omega) (by omega) (Rd.fwd HR.out (by repeat (first | exact Below.refl _ _ | refine Below.drew ?_ | refine bel_drewN _ ?_ | refine Below.alloc ?_ (by first | omega | (simp; done) | (simp; omega)) _ | refine Below.setCell ?_ (by first | (show _ ≤ _; omega) | (simp; done) | (simp; omega)) _)))).mono ?_
      rintro e v4 ⟨z, rfl, z0, z1, k, r⟩
      have z2 : z ≤ 5 := by omega
      clear z1
      have HO := Lib.hid (own_keep HO.out k hRw)
      have HBq : KB (w.heap.size) (R) w v4 := KB.callee (Nat.le_refl _) (by repeat (first | exact KB.refl _ _ _ | exact HB.out | refine KB.drew ?_ | refine KB.drewN ?_ | refine KB.alloc (Nat.le_refl _) ?_ _ | refine KB.setCell ?_ (by first | (show _ ≤ _; omega) | (simp; done) | (simp; omega)) _)) k
      have HB := Lib.hid HBq
      clear HBq
      have hR : R < v4.heap.size := Nat.lt_of_lt_of_le (by first | exact hR | omega | (simp; done) | (simp; omega)) k.size
      have HR := Lib.hid r
      have hszv4 := k.size
      try simp at hszv4
      clear r k
      go_wp2_with (at_builtin; refine wpList_append_own_at _ rfl _ _ 23 rfl w.heap.size 30 iN (.agg #[.int .i64 0, .int .i64 0, .int .i64 0]) 3 24 Try.underlying23 hj hy0 hy1 hy2 rfl (by decide) _ _ _ rfl (HO.out.alloc _) ⟨v4.heap.size, 0, none⟩ 1 1 [.int .i64 (9000 + x), .int .i64 (10 * (1 + y)), .int .i64 (10000 + z)] rfl rfl (news_at _ _ _) (by simp [Value.oneCell']) (by unfold maxLen; omega) (by omega) (by simp; omega) ?_; intro v' w4 hown2 hg _ hat)
      have HB5 : Hid (KB w.heap.size R w w4) := Lib.hid ((HB.out.alloc (Nat.le_refl _) _).grown (Nat.le_refl _) hg (fun k hk => (HO.out.lt k hk).1))
      have HR5 : Hid (Rd w4 R (K + 1 + 3 * q + 3)) := Lib.hid (Rd.mono (Rd.fwd HR.out (((Below.refl (R + 1) _).alloc (by omega) _).grown hg (by simp; omega) (fun k hk => by have := (HO.out.lt k hk).1; omega))) (by omega))
      have HO5 := Lib.hid hown2
      clear hown2 hg hat
      go_wp2
      go_roundw
      case rel => exact ⟨_, _, q + 1, l ++ [(9000 + x, 10 * (1 + y), 10000 + z)], m - 1, rfl, rfl, by rw [List.length_append, HL.out]; rfl, by go_num, by omega, by omega, by rw [valN_snoc]; exact HO5.out, HB5.out, Rd.mono HR5.out (by omega)⟩
      case measure => simp [intOf]; omega
    · obtain rfl : m = 0 := by omega
      by_cases hq : 1 ≤ q
      · obtain ⟨g, cap, rfl, hg0, hg1, hgc, hgm⟩ := own_slice HO.out hq
        unfold maxLen at hgm
        have HNB : Hid (NB wo g cap q (rowN l)) := Lib.hid (by have := HO.out; rw [valN_flat, HL.out] at this; exact nb_of_own this)
        have hgR : g ≠ R := by omega
        clear HO
        go_wp2_with fail
        refine (pick_any _ _ _ _ (by first | exact hR | omega | (simp; done) | (simp; omega)) (by omega) (by omega) (by omega) (by omega) (Rd.fwd HR.out (by repeat (first | exact Below.refl _ _ | refine Below.drew ?_ | refine bel_drewN _ ?_ | refine Below.alloc ?_ (by first | omega | (simp; done) | (simp; omega)) _ | refine Below.setCell ?_ (by first | (show _ ≤ _; omega) | (simp; done) | (simp; omega)) _)))).mono ?_
        rintro e u1 ⟨z, rfl, z0, z1, k, r⟩
        have z2 : z ≤ 19 := by omega
        clear z1
        have HNB := Lib.hid (NB.keep (cap := cap) (n := q) (A := rowN l) (by repeat (first | exact HNB.out | refine NB.alloc ?_ _)) k hgR)
        have HBq : KB (w.heap.size) (R) w u1 := KB.callee (Nat.le_refl _) (by repeat (first | exact KB.refl _ _ _ | exact HB.out | refine KB.drew ?_ | refine KB.drewN ?_ | refine KB.alloc (Nat.le_refl _) ?_ _ | refine KB.setCell ?_ (by first | (show _ ≤ _; omega) | (simp; done) | (simp; omega)) _)) k
        have HB := Lib.hid HBq
        clear HBq
        have hR : R < u1.heap.size := Nat.lt_of_lt_of_le (by first | exact hR | omega | (simp; done) | (simp; omega)) k.size
        have HR := Lib.hid r
        have hszu1 := k.size
        try simp at hszu1
        clear r k
        by_cases hz : z = 0
        · subst hz
          go_wp2_with fail
          refine (one_any _ _ _ (-1) (36525) _ _ _ (by exact intsIn_lit _ [-1, 36525, 5] _ _ _ _ _ _ rfl (by first | (simp; done) | (simp; omega) | omega) (by simp; try omega)) (by omega) (by omega) (by first | omega | (simp; done) | (simp; omega)) (by first | omega | (simp; omega)) (by first | exact hR | omega | (simp; done) | (simp; omega)) (by omega) (by omega) (Rd.fwd HR.out (by repeat (first | exact Below.refl _ _ | refine Below.drew ?_ | refine bel_drewN _ ?_ | refine Below.alloc ?_ (by first | omega | (simp; done) | (simp; omega)) _ | refine Below.setCell ?_ (by first | (show _ ≤ _; omega) | (simp; done) | (simp; omega)) _)))).mono ?_
          rintro e u2 ⟨d, rfl, d0, d1, k, r⟩
          have HNB := Lib.hid (NB.keep (cap := cap) (n := q) (A := rowN l) (by repeat (first | exact HNB.out | refine NB.alloc ?_ _)) k hgR)
          have HBq : KB (w.heap.size) (R) w u2 := KB.callee (Nat.le_refl _) (by repeat (first | exact KB.refl _ _ _ | exact HB.out | refine KB.drew ?_ | refine KB.drewN ?_ | refine KB.alloc (Nat.le_refl _) ?_ _ | refine KB.setCell ?_ (by first | (show _ ≤ _; omega) | (simp; done) | (simp; omega)) _)) k
          have HB := Lib.hid HBq
          clear HBq
          have hR : R < u2.heap.size := Nat.lt_of_lt_of_le (by first | exact hR | omega | (simp; done) | (simp; omega)) k.size
          have HR := Lib.hid r
          have hszu2 := k.size
          try simp at hszu2
          clear r k
          go_wp2_with fail
          refine (one_any _ _ _ (0) (10000) _ _ _ (by exact intsIn_lit _ [0, 9999, 10000] _ _ _ _ _ _ rfl (by first | (simp; done) | (simp; omega) | omega) (by simp; try omega)) (by omega) (by omega) (by first | omega | (simp; done) | (simp; omega)) (by first | omega | (simp; omega)) (by first | exact hR | omega | (simp; done) | (simp; omega)) (by omega) (by omega) (Rd.fwd HR.out (by repeat (first | exact Below.refl _ _ | refine Below.drew ?_ | refine bel_drewN _ ?_ | refine Below.alloc ?_ (by first | omega | (simp; done) | (simp; omega)) _ | refine Below.setCell ?_ (by first | (show _ ≤ _; omega) | (simp; done) | (simp; omega)) _)))).mono ?_
          rintro e u3 ⟨f, rfl, f0, f1, k, r⟩
          have HNB := Lib.hid (NB.keep (cap := cap) (n := q) (A := rowN l) (by repeat (first | exact HNB.out | refine NB.alloc ?_ _)) k hgR)
          have HBq : KB (w.heap.size) (R) w u3 := KB.callee (Nat.le_refl _) (by repeat (first | exact KB.refl _ _ _ | exact HB.out | refine KB.drew ?_ | refine KB.drewN ?_ | refine KB.alloc (Nat.le_refl _) ?_ _ | refine KB.setCell ?_ (by first | (show _ ≤ _; omega) | (simp; done) | (simp; omega)) _)) k
          have HB := Lib.hid HBq
          clear HBq
          have hR : R < u3.heap.size := Nat.lt_of_lt_of_le (by first | exact hR | omega | (simp; done) | (simp; omega)) k.size
          have HR := Lib.hid r
          have hszu3 := k.size
          try simp at hszu3
          clear r k
          go_wp2_with fail
          refine (one_any _ _ _ (0) (50001) _ _ _ (by exact intsIn_lit _ [0, 50000, 50001] _ _ _ _ _ _ rfl (by first | (simp; done) | (simp; omega) | omega) (by simp; try omega)) (by omega) (by omega) (by first | omega | (simp; done) | (simp; omega)) (by first | omega | (simp; omega)) (by first | exact hR | omega | (simp; done) | (simp; omega)) (by omega) (by omega) (Rd.fwd HR.out (by repeat (first | exact Below.refl _ _ | refine Below.drew ?_ | refine bel_drewN _ ?_ | refine Below.alloc ?_ (by first | omega | (simp; done) | (simp; omega)) _ | refine Below.setCell ?_ (by first | (show _ ≤ _; omega) | (simp; done) | (simp; omega)) _)))).mono ?_
          rintro e u4 ⟨p, rfl, p0, p1, k, r⟩
          have HNB := Lib.hid (NB.keep (cap := cap) (n := q) (A := rowN l) (by repeat (first | exact HNB.out | refine NB.alloc ?_ _)) k hgR)
          have HBq : KB (w.heap.size) (R) w u4 := KB.callee (Nat.le_refl _) (by repeat (first | exact KB.refl _ _ _ | exact HB.out | refine KB.drew ?_ | refine KB.drewN ?_ | refine KB.alloc (Nat.le_refl _) ?_ _ | refine KB.setCell ?_ (by first | (show _ ≤ _; omega) | (simp; done) | (simp; omega)) _)) k
          have HB := Lib.hid HBq
          clear HBq
          have hR : R < u4.heap.size := Nat.lt_of_lt_of_le (by first | exact hR | omega | (simp; done) | (simp; omega)) k.size
          have HR := Lib.hid r
          have hszu4 := k.size
          try simp at hszu4
          clear r k
          obtain ⟨⟨e0, e1, e2⟩, ef⟩ := HNB.out.cells (j := 0) (by omega)
          have f0 := ef 0
          have f1 := ef 1
          have f2 := ef 2
          simp only [Nat.zero_mul, Nat.zero_add] at e0 e1 e2
          have j0 : (0 : Int) < (q : Int) := by omega
          generalize (rowN l 0).1 = q1 at *
          generalize (rowN l 0).2.1 = q2 at *
          generalize (rowN l 0).2.2 = q3 at *
          have HNS : Hid (NB (((u4.setCell ⟨g, 0, none⟩ (.int .i64 d)).setCell ⟨g, 1, none⟩ (.int .i64 f)).setCell ⟨g, 2, none⟩ (.int .i64 p)) g cap q (updN (rowN l) 0 (d, f, p))) := Lib.hid (HNB.out.set 0 (by omega) d f p)
          clear ef
          go_wp2
          go_ret
          exact ⟨_, q, updN (rowN l) 0 (d, f, p), rfl, by omega, .inr ⟨hq, g, cap, cap, rfl, hg0, hgc, hgm, HNS.out⟩, KB.keep (by repeat (first | exact KB.refl _ _ _ | exact HB.out | refine KB.drew ?_ | refine KB.drewN ?_ | refine KB.alloc (Nat.le_refl _) ?_ _ | refine KB.setCell ?_ (by first | (show _ ≤ _; omega) | (simp; done) | (simp; omega)) _)), Rd.mono (Rd.fwd HR.out (by repeat (first | exact Below.refl _ _ | refine Below.drew ?_ | refine bel_drewN _ ?_ | refine Below.alloc ?_ (by first | omega | (simp; done) | (simp; omega)) _ | refine Below.setCell ?_ (by first | (show _ ≤ _; omega) | (simp; done) | (simp; omega)) _))) (by omega)⟩
        · have hz' : (z == 0) = false := by simpa using hz
          go_wp2
          go_ret
          exact ⟨_, q, rowN l, rfl, by omega, .inr ⟨hq, g, cap, cap, rfl, hg0, hgc, hgm, HNB.out⟩, KB.keep (by repeat (first | exact KB.refl _ _ _ | exact HB.out | refine KB.drew ?_ | refine KB.drewN ?_ | refine KB.alloc (Nat.le_refl _) ?_ _ | refine KB.setCell ?_ (by first | (show _ ≤ _; omega) | (simp; done) | (simp; omega)) _)), Rd.mono HR.out (by omega)⟩
      · obtain rfl : q = 0 := by omega
        obtain ⟨a, c, rfl, hc, hc'⟩ := own_form HO.out
        unfold maxLen at hc'
        go_wp2
        go_ret
        exact ⟨_, 0, rowN l, rfl, by omega, .inl ⟨rfl, a, c, rfl, by omega⟩, KB.keep (by repeat (first | exact KB.refl _ _ _ | exact HB.out | refine KB.drew ?_ | refine KB.drewN ?_ | refine KB.alloc (Nat.le_refl _) ?_ _ | refine KB.setCell ?_ (by first | (show _ ≤ _; omega) | (simp; done) | (simp; omega)) _)), Rd.mono HR.out (by omega)⟩
def DrawMN (w : World) (e : Ending) (w' : World) : Prop :=
  ∃ (va vb : Value) (LA LB : Nat) (A B : Nat → Nt) (t : Int), e = .returned (.tuple #[va, vb, .int .i64 t]) ∧ LA ≤ 11 ∧ LB ≤ 11 ∧ NV w' w.heap.size va LA A ∧ NV w' w.heap.size vb LB B ∧ Below w.heap.size w w'
theorem NV.alloc {w : World} {b : Nat} {v : Value} {L : Nat} {A : Nat → Nt} (h : NV w b v L A) (o : Obj) : NV (w.alloc o) b v L A := h.below ((Below.refl _ _).alloc (Nat.le_refl _) o)
set_option maxHeartbeats 2000000 in
theorem drawMN_any (a : Option Addr) (len cap : Nat) (w : World) (hlc : len ≤ cap) (hc : cap ≤ maxLen) (h : IsBytes w a len) :
    Calls Try.prog 9 #[.slice a len cap] w (DrawMN w) := by
  have H := Lib.hid h
  clear h
  go_enter Try.func9, Try.ntmps9
  go_wp2_with fail
  refine (newReader_any _ _ _ _ hlc hc (by repeat (first | exact H.out | refine IsBytes.alloc ?_ _))).mono ?_
  rintro e v1 ⟨rfl, hb, hrd, hszv1⟩
  try simp at hszv1
  replace hszv1 : w.heap.size + 1 ≤ v1.heap.size := by omega
  have hR : w.heap.size < v1.heap.size := by omega
  have hrdq : Rd v1 (w.heap.size) 0 := by simpa using hrd
  have HR := Lib.hid hrdq
  have HBq : KB (w.heap.size) (w.heap.size) w v1 := KB.quiet (Nat.le_refl _) (by repeat (first | exact KB.refl _ _ _ | exact HB.out | refine KB.drew ?_ | refine KB.drewN ?_ | refine KB.alloc (Nat.le_refl _) ?_ _ | refine KB.setCell ?_ (by first | (show _ ≤ _; omega) | (simp; done) | (simp; omega)) _)) hb
  have HB := Lib.hid HBq
  clear hrd hrdq HBq hb
  go_wp2_with fail
  refine (anyNotes_any _ _ _ (by first | exact hR | omega | (simp; done) | (simp; omega)) (by omega) (by omega) (Rd.fwd HR.out (by repeat (first | exact Below.refl _ _ | refine Below.drew ?_ | refine bel_drewN _ ?_ | refine Below.alloc ?_ (by first | omega | (simp; done) | (simp; omega)) _ | refine Below.setCell ?_ (by first | (show _ ≤ _; omega) | (simp; done) | (simp; omega)) _)))).mono ?_
  rintro e v2 ⟨va, LA, A, rfl, hLA, hna, k, r⟩
  have HBq : KB (w.heap.size) (w.heap.size) w v2 := KB.callee (Nat.le_refl _) (by repeat (first | exact KB.refl _ _ _ | exact HB.out | refine KB.drew ?_ | refine KB.drewN ?_ | refine KB.alloc (Nat.le_refl _) ?_ _ | refine KB.setCell ?_ (by first | (show _ ≤ _; omega) | (simp; done) | (simp; omega)) _)) k
  have HB := Lib.hid HBq
  clear HBq
  have hR : w.heap.size < v2.heap.size := Nat.lt_of_lt_of_le (by first | exact hR | omega | (simp; done) | (simp; omega)) k.size
  have HR := Lib.hid r
  have hszv2 := k.size
  try simp at hszv2
  clear r k
  have HNA : Hid (NV v2 (w.heap.size + 1) va LA A) := Lib.hid (hna.base hszv1)
  clear hna
  go_wp2_with fail
  refine (anyNotes_any _ _ _ (by first | exact hR | omega | (simp; done) | (simp; omega)) (by omega) (by omega) (Rd.fwd HR.out (by repeat (first | exact Below.refl _ _ | refine Below.drew ?_ | refine bel_drewN _ ?_ | refine Below.alloc ?_ (by first | omega | (simp; done) | (simp; omega)) _ | refine Below.setCell ?_ (by first | (show _ ≤ _; omega) | (simp; done) | (simp; omega)) _)))).mono ?_
  rintro e v3 ⟨vb, LB, B, rfl, hLB, hnb, k, r⟩
  have HNA := Lib.hid (HNA.out.keep k (by omega))
  have HBq : KB (w.heap.size) (w.heap.size) w v3 := KB.callee (Nat.le_refl _) (by repeat (first | exact KB.refl _ _ _ | exact HB.out | refine KB.drew ?_ | refine KB.drewN ?_ | refine KB.alloc (Nat.le_refl _) ?_ _ | refine KB.setCell ?_ (by first | (show _ ≤ _; omega) | (simp; done) | (simp; omega)) _)) k
  have HB := Lib.hid HBq
  clear HBq
  have hR : w.heap.size < v3.heap.size := Nat.lt_of_lt_of_le (by first | exact hR | omega | (simp; done) | (simp; omega)) k.size
  have HR := Lib.hid r
  have hszv3 := k.size
  try simp at hszv3
  clear r k
  have HNB : Hid (NV v3 (w.heap.size + 1) vb LB B) := Lib.hid (hnb.base (by omega))
  clear hnb
  go_wp2_with fail
  refine (one_any _ _ _ (-1) (50001) _ _ _ (by exact intsIn_lit _ [0, 1, 3, 50000, 50001, -1, 2] _ _ _ _ _ _ rfl (by first | (simp; done) | (simp; omega) | omega) (by simp; try omega)) (by omega) (by omega) (by first | omega | (simp; done) | (simp; omega)) (by first | omega | (simp; omega)) (by first | exact hR | omega | (simp; done) | (simp; omega)) (by omega) (by omega) (Rd.fwd HR.out (by repeat (first | exact Below.refl _ _ | refine Below.drew ?_ | refine bel_drewN _ ?_ | refine Below.alloc ?_ (by first | omega | (simp; done) | (simp; omega)) _ | refine Below.setCell ?_ (by first | (show _ ≤ _; omega) | (simp; done) | (simp; omega)) _)))).mono ?_
  rintro e v4 ⟨t, rfl, t0, t1, k, r⟩
  have HNA := Lib.hid ((HNA.out.alloc _).keep k (by omega)); have HNB := Lib.hid ((HNB.out.alloc _).keep k (by omega))
  have HBq : KB (w.heap.size) (w.heap.size) w v4 := KB.callee (Nat.le_refl _) (by repeat (first | exact KB.refl _ _ _ | exact HB.out | refine KB.drew ?_ | refine KB.drewN ?_ | refine KB.alloc (Nat.le_refl _) ?_ _ | refine KB.setCell ?_ (by first | (show _ ≤ _; omega) | (simp; done) | (simp; omega)) _)) k
  have HB := Lib.hid HBq
  clear HBq
  have hR : w.heap.size < v4.heap.size := Nat.lt_of_lt_of_le (by first | exact hR | omega | (simp; done) | (simp; omega)) k.size
  have HR := Lib.hid r
  have hszv4 := k.size
  try simp at hszv4
  clear r k
  go_wp2
  exact bodyPost_ret (v := .tuple #[va, vb, .int .i64 t]) (by simp [results, Try.results9, go_sem]) rfl ⟨va, vb, LA, LB, A, B, t, rfl, hLA, hLB, HNA.out.base (by omega), HNB.out.base (by omega), KB.below (R := w.heap.size) (by repeat (first | exact KB.refl _ _ _ | exact HB.out | refine KB.drew ?_ | refine KB.drewN ?_ | refine KB.alloc (Nat.le_refl _) ?_ _ | refine KB.setCell ?_ (by first | (show _ ≤ _; omega) | (simp; done) | (simp; omega)) _)) (Nat.le_refl _)⟩
set_option maxHeartbeats 2000000 in
theorem drawON_any (a : Option Addr) (len cap : Nat) (w : World) (hlc : len ≤ cap) (hc : cap ≤ maxLen) (h : IsBytes w a len) :
    Calls Try.prog 16 #[.slice a len cap] w (DrawMN w) := by
  have H := Lib.hid h
  clear h
  go_enter Try.func16, Try.ntmps16
  go_wp2_with fail
  refine (drawMN_any _ _ _ _ hlc hc H.out).mono ?_
  rintro e w1 ⟨va, vb, LA, LB, A, B, t, rfl, hLA, hLB, hna, hnb, hb⟩
  have HNA := Lib.hid hna
  have HNB := Lib.hid hnb
  have HBB := Lib.hid hb
  clear hna hnb hb
  go_wp2
  exact bodyPost_ret (v := .tuple #[va, vb, .int .i64 t]) (by simp [results, Try.results16, go_sem]) rfl ⟨va, vb, LA, LB, A, B, t, rfl, hLA, hLB, HNA.out, HNB.out, HBB.out⟩
end Go.Proofs.Ytdifhjjkgcipaaa
