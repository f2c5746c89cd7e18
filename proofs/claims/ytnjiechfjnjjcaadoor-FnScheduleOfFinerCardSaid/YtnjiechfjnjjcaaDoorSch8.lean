/- Schedules: equal rows of periods; a row that is marked, and held. -/
import Derived.Test.YtnjiechfjnjjcaaDoorSch7
import Derived.Deep.RegionHeld3
namespace Go.Proofs.YtnjiechfjnjjcaaDoor
open Go.RowKit
set_option linter.unusedVariables false
theorem PB.fwd {w w' : World} {g cap n B : Nat} {A : Nat → Int × Int × Bool} (h : PB w g cap n A) (k : Below B w w') (hg : g < B) : PB w' g cap n A := by
  obtain ⟨cur, h1, h2, h3⟩ := h
  exact ⟨cur, (k.block g hg).trans h1, h2, h3⟩
theorem PB.below {w w' : World} {g cap n : Nat} {A : Nat → Int × Int × Bool} (h : PB w g cap n A) (k : Below w.heap.size w w') : PB w' g cap n A := h.fwd k h.lt
/-- a row of L periods in the world at hand -/
def PR (w : World) (v : Value) (L : Nat) (A : Nat → Int × Int × Bool) : Prop :=
  (L = 0 ∧ v = .slice none 0 0) ∨ (1 ≤ L ∧ ∃ g c cap, v = .slice (some ⟨g, 0, none⟩) L c ∧ L ≤ c ∧ c ≤ 9223372036854775807 ∧ PB w g cap L A)
theorem PV.pr {w : World} {b : Nat} {v : Value} {L : Nat} {A : Nat → Int × Int × Bool} (h : PV w b v L A) : PR w v L A := by
  rcases h with h | ⟨h1, g, c, cap, h2, h3, h4, h5, h6, h7⟩
  · exact .inl h
  · unfold maxLen at h6
    exact .inr ⟨h1, g, c, cap, h2, h4, by omega, h7⟩
theorem PR.below {w w' : World} {v : Value} {L : Nat} {A : Nat → Int × Int × Bool} (h : PR w v L A) (k : Below w.heap.size w w') : PR w' v L A := by
  rcases h with h | ⟨h1, g, c, cap, h2, h3, h4, h5⟩
  · exact .inl h
  · exact .inr ⟨h1, g, c, cap, h2, h3, h4, h5.below k⟩
theorem eqPeriod_same (a b : Int) (c : Bool) (w : World) :
    Calls Tryd.prog 30 #[.agg #[.int .i64 a, .int .i64 b, .bool c], .agg #[.int .i64 a, .int .i64 b, .bool c]] w fun e w' => e = .returned (.bool true) ∧ Below w.heap.size w w' := by
  go_enter Tryd.func30, Tryd.ntmps30
  have HB := Lib.hid (Below.refl w.heap.size w)
  go_wp2
  go_ret
  exact ⟨rfl, (by repeat (first | exact Below.refl _ _ | exact HB.out | refine Below.drew ?_ | refine bel_drewN _ ?_ | refine Below.alloc ?_ (by first | omega | (simp; done) | (simp; omega)) _ | refine Below.setCell ?_ (by first | (show _ ≤ _; omega) | (simp; done) | (simp; omega)) _))⟩
set_option maxHeartbeats 4000000 in
theorem eqPeriods_any (v1 v2 : Value) (L : Nat) (A : Nat → Int × Int × Bool) (w : World) (hL : L ≤ 100) (h1 : PR w v1 L A) (h2 : PR w v2 L A) :
    Calls Tryd.prog 14 #[v1, v2] w fun e w' => e = .returned (.bool true) ∧ Below w.heap.size w w' := by
  rcases h1 with ⟨rfl, rfl⟩ | ⟨hp, g1, c1, cap1, rfl, l1, m1, p1⟩
  · rcases h2 with ⟨_, rfl⟩ | ⟨hp, _⟩
    · go_enter Tryd.func14, Tryd.ntmps14
      go_wp2
      go_loop [5] (fun i => i = .int .i64 0) (fun _ => 0)
      case atStart => rfl
      case round =>
        obtain rfl := hrel
        go_wp2
        go_ret
        exact ⟨rfl, Below.refl _ _⟩
    · omega
  · rcases h2 with ⟨h0, _⟩ | ⟨_, g2, c2, cap2, rfl, l2, m2, p2⟩
    · omega
    have P1 := Lib.hid p1
    have P2 := Lib.hid p2
    have t1 := p1.lt
    have t2 := p2.lt
    clear p1 p2
    go_enter Tryd.func14, Tryd.ntmps14
    go_wp2
    go_loopw [5] (fun i wr => ∃ k : Nat, k ≤ L ∧ i = .int .i64 k ∧ Below w.heap.size w wr) (fun i _ => L - (intOf i).toNat)
    case atStart => exact ⟨0, Nat.zero_le _, rfl, Below.refl _ _⟩
    case round =>
      obtain ⟨k, hk, rfl, hbel⟩ := hrel
      have hsz := hbel.size
      by_cases hlt : k < L
      · obtain ⟨⟨a0, a1, a2⟩, _⟩ := (P1.out.fwd hbel t1).cells hlt
        obtain ⟨⟨b0, b1, b2⟩, _⟩ := (P2.out.fwd hbel t2).cells hlt
        have HB := Lib.hid hbel
        clear hbel
        have i0 : (0 : Int) ≤ (k : Int) := by omega
        have i1 : (k : Int) < (L : Int) := by omega
        generalize (A k).1 = x at *
        generalize (A k).2.1 = y at *
        generalize (A k).2.2 = z at *
        go_wp2_with fail
        go_region_held3 (fun w' => (w'.cell? ⟨g1, k * 3, none⟩ = some (.int .i64 x) ∧ w'.cell? ⟨g1, k * 3 + 1, none⟩ = some (.int .i64 y) ∧ w'.cell? ⟨g1, k * 3 + 2, none⟩ = some (.bool z)) ∧ w'.cell? ⟨g2, k * 3, none⟩ = some (.int .i64 x) ∧ w'.cell? ⟨g2, k * 3 + 1, none⟩ = some (.int .i64 y) ∧ w'.cell? ⟨g2, k * 3 + 2, none⟩ = some (.bool z))
          ((go_split_ands; refine ⟨⟨?_, ?_, ?_⟩, ?_, ?_, ?_⟩ <;> first | assumption | (with_reducible exact bc hb (by first | assumption | (simp; assumption))) | (simp; assumption)))
          (first | (go_at_call 30; refine (eqPeriod_same _ _ _ _).mono ?_; rintro e v ⟨rfl, hb⟩))
        go_wp2
        go_roundw
        case rel => exact ⟨k + 1, by omega, by go_num, HB.out.trans ((Below.drew (Below.refl _ _)).trans (hb.mono (by simpa using hsz)))⟩
        case measure => simp [intOf]; omega
      · obtain rfl : k = L := by omega
        go_wp2
        go_ret
        exact ⟨rfl, hbel⟩
/-- the marks -/
def mkA (t : Nat) : Int × Int × Bool := (3 * (t : Int) + 1, 3 * (t : Int) + 2, true)
def mkTo (A : Nat → Int × Int × Bool) (k j : Nat) : Int × Int × Bool := if j < k then mkA j else A j
set_option maxHeartbeats 4000000 in
theorem markPeriods_any (g c cap L : Nat) (A : Nat → Int × Int × Bool) (w : World) (hL : L ≤ 100) (l1 : L ≤ c) (m1 : c ≤ 9223372036854775807) (h : PB w g cap L A) :
    Calls Tryd.prog 15 #[.slice (some ⟨g, 0, none⟩) L c, .int .i64 1] w fun e w' => e = .returned (.int .i64 (3 * (L : Int) + 1)) ∧ PB w' g cap L mkA ∧ w.grownBy w' (some g) := by
  have H := Lib.hid h
  clear h
  go_enter Tryd.func15, Tryd.ntmps15
  go_wp2
  go_loopw [1, 5] (fun k i wr => ∃ t : Nat, t ≤ L ∧ i = .int .i64 t ∧ k = .int .i64 (3 * (t : Int) + 1) ∧ PB wr g cap L (mkTo A t) ∧ w.grownBy wr (some g)) (fun _ i _ => L - (intOf i).toNat)
  case atStart => exact ⟨0, Nat.zero_le _, rfl, by simp, H.out.congr (fun j hj => by unfold mkTo; rw [if_neg (by omega)]), ⟨rfl, rfl, rfl, Nat.le_refl _, fun _ _ _ => rfl⟩⟩
  case round =>
    obtain ⟨t, ht, rfl, rfl, hp, hg⟩ := hrel
    by_cases hlt : t < L
    · obtain ⟨⟨a0, a1, a2⟩, fz⟩ := hp.cells hlt
      have f0 := fz (t * 3)
      have f1 := fz (t * 3 + 1)
      have f2 := fz (t * 3 + 2)
      have HP := Lib.hid hp
      have HG := Lib.hid hg
      have i0 : (0 : Int) ≤ (t : Int) := by omega
      have i1 : (t : Int) < (L : Int) := by omega
      have e1 : ((3 * (t : Int) + 1 + 1 + 1) % 3 == 0) = true := by simp; omega
      clear fz hp hg
      go_wp2
      go_roundw
      case rel =>
        refine ⟨t + 1, by omega, by go_num, by go_num, PB.congr (HP.out.set t hlt _ _ _) (fun j hj => ?_), grown_set (grown_set (grown_set HG.out _ _) _ _) _ _⟩
        unfold upd mkTo mkA
        by_cases c1 : j = t
        · rw [if_pos c1, if_pos (by omega), c1]; simp; omega
        · rw [if_neg c1]
          by_cases c2 : j < t
          · rw [if_pos c2, if_pos (by omega)]
          · rw [if_neg c2, if_neg (by omega)]
      case measure => simp [intOf]; omega
    · obtain rfl : t = L := by omega
      go_wp2
      go_ret
      exact ⟨rfl, hp.congr (fun j hj => by unfold mkTo; rw [if_pos hj]), hg⟩
set_option maxHeartbeats 4000000 in
theorem heldPeriods_any (g c cap L : Nat) (w : World) (hL : L ≤ 100) (l1 : L ≤ c) (m1 : c ≤ 9223372036854775807) (h : PB w g cap L mkA) :
    Calls Tryd.prog 16 #[.slice (some ⟨g, 0, none⟩) L c, .int .i64 1] w fun e w' => e = .returned (.int .i64 (3 * (L : Int) + 1)) ∧ w = w' := by
  have H := Lib.hid h
  clear h
  go_enter Tryd.func16, Tryd.ntmps16
  go_wp2
  go_loop [1, 5] (fun k i => ∃ t : Nat, t ≤ L ∧ i = .int .i64 t ∧ k = .int .i64 (3 * (t : Int) + 1)) (fun _ i => L - (intOf i).toNat)
  case atStart => exact ⟨0, Nat.zero_le _, rfl, by simp⟩
  case round =>
    obtain ⟨t, ht, rfl, rfl⟩ := hrel
    by_cases hlt : t < L
    · obtain ⟨⟨a0, a1, a2⟩, _⟩ := H.out.cells hlt
      have i0 : (0 : Int) ≤ (t : Int) := by omega
      have i1 : (t : Int) < (L : Int) := by omega
      have e1 : ((3 * (t : Int) + 1 + 1 + 1) % 3 == 0) = true := by simp; omega
      unfold mkA at a0 a1 a2
      rw [show 3 * (t : Int) + 2 = 3 * (t : Int) + 1 + 1 by omega] at a1
      go_wp2
      go_round
      case rel => exact ⟨t + 1, by omega, by go_num, by go_num⟩
      case measure => simp [intOf]; omega
    · obtain rfl : t = L := by omega
      go_wp2
      go_ret
      exact ⟨rfl, rfl⟩
end Go.Proofs.YtnjiechfjnjjcaaDoor
