/- Notes: equal rows, marks, for the exact laws. -/
import Derived.Test.YtdifhjjkgcipaaaNote13
namespace Go.Proofs.Ytdifhjjkgcipaaa
open Go.RowKit
set_option linter.unusedVariables false
set_option maxHeartbeats 2000000 in
theorem eqIntS_any (v1 v2 : Value) (b1 b2 L : Nat) (A : Nat → Int) (w : World) (hL : L ≤ 1048576) (h1 : IV w b1 v1 L A) (h2 : IV w b2 v2 L A) :
    Calls Try.prog 21 #[v1, v2] w fun e w' => e = .returned (.bool true) ∧ Below w.heap.size w w' := by
  obtain ⟨a1, c1, rfl, l1, m1, F1⟩ := h1.form
  obtain ⟨a2, c2, rfl, l2, m2, F2⟩ := h2.form
  have P1 := Lib.hid F1
  have P2 := Lib.hid F2
  clear h1 h2 F1 F2
  go_enter Try.func21, Try.ntmps21
  go_wp2
  go_loopw [5] (fun i wr => ∃ k : Nat, k ≤ L ∧ i = .int .i64 k ∧ Below w.heap.size w wr) (fun i _ => L - (intOf i).toNat)
  case atStart => exact ⟨0, Nat.zero_le _, rfl, Below.refl _ _⟩
  case round =>
    obtain ⟨k, hk, rfl, hbel⟩ := hrel
    have hsz := hbel.size
    by_cases hlt : k < L
    · obtain ⟨g1, cap1, rfl, _, gl1, n1⟩ := P1.out (by omega)
      obtain ⟨g2, cap2, rfl, _, gl2, n2⟩ := P2.out (by omega)
      have a0 := (n1.fwd hbel gl1).cell hlt
      have b0 := (n2.fwd hbel gl2).cell hlt
      have HB := Lib.hid hbel
      clear hbel n1 n2
      have i0 : (0 : Int) ≤ (k : Int) := by omega
      have i1 : (k : Int) < (L : Int) := by omega
      generalize A k = x at *
      go_wp2_with fail
      go_quiet (fail)
      go_wp2
      go_roundw
      case rel => exact ⟨k + 1, by omega, by go_num, bel_drewN _ HB.out⟩
      case measure => simp [intOf]; omega
    · obtain rfl : k = L := by omega
      go_wp2
      go_ret
      exact ⟨rfl, hbel⟩
set_option maxHeartbeats 4000000 in
theorem eqNoteS_any (v1 v2 : Value) (b1 b2 L : Nat) (A : Nat → Nt) (w : World) (hL : L ≤ 1048576) (h1 : NV w b1 v1 L A) (h2 : NV w b2 v2 L A) :
    Calls Try.prog 22 #[v1, v2] w fun e w' => e = .returned (.bool true) ∧ Below w.heap.size w w' := by
  obtain ⟨a1, c1, rfl, l1, m1, F1⟩ := h1.form
  obtain ⟨a2, c2, rfl, l2, m2, F2⟩ := h2.form
  have P1 := Lib.hid F1
  have P2 := Lib.hid F2
  clear h1 h2 F1 F2
  go_enter Try.func22, Try.ntmps22
  go_wp2
  go_loopw [5] (fun i wr => ∃ k : Nat, k ≤ L ∧ i = .int .i64 k ∧ Below w.heap.size w wr) (fun i _ => L - (intOf i).toNat)
  case atStart => exact ⟨0, Nat.zero_le _, rfl, Below.refl _ _⟩
  case round =>
    obtain ⟨k, hk, rfl, hbel⟩ := hrel
    have hsz := hbel.size
    by_cases hlt : k < L
    · obtain ⟨g1, cap1, rfl, _, gl1, n1⟩ := P1.out (by omega)
      obtain ⟨g2, cap2, rfl, _, gl2, n2⟩ := P2.out (by omega)
      obtain ⟨⟨a0, a1, a2⟩, _⟩ := (n1.fwd hbel gl1).cells hlt
      obtain ⟨⟨b0, b1, b2⟩, _⟩ := (n2.fwd hbel gl2).cells hlt
      have HB := Lib.hid hbel
      clear hbel n1 n2
      have i0 : (0 : Int) ≤ (k : Int) := by omega
      have i1 : (k : Int) < (L : Int) := by omega
      generalize (A k).1 = x at *
      generalize (A k).2.1 = y at *
      generalize (A k).2.2 = z at *
      go_wp2_with fail
      go_region_held3 (fun w' => (w'.cell? ⟨g1, k * 3, none⟩ = some (.int .i64 x) ∧ w'.cell? ⟨g1, k * 3 + 1, none⟩ = some (.int .i64 y) ∧ w'.cell? ⟨g1, k * 3 + 2, none⟩ = some (.int .i64 z)) ∧ w'.cell? ⟨g2, k * 3, none⟩ = some (.int .i64 x) ∧ w'.cell? ⟨g2, k * 3 + 1, none⟩ = some (.int .i64 y) ∧ w'.cell? ⟨g2, k * 3 + 2, none⟩ = some (.int .i64 z))
        ((go_split_ands; refine ⟨⟨?_, ?_, ?_⟩, ?_, ?_, ?_⟩ <;> first | assumption | (with_reducible exact bc hb (by first | assumption | (simp; assumption))) | (simp; assumption)))
        (first | (go_at_call 36; refine (eqNote_same _ _ _ _).mono ?_; rintro e v ⟨rfl, hb⟩))
      go_wp2
      go_roundw
      case rel => exact ⟨k + 1, by omega, by go_num, HB.out.trans ((Below.drew (Below.refl _ _)).trans (hb.mono (by simpa using hsz)))⟩
      case measure => simp [intOf]; omega
    · obtain rfl : k = L := by omega
      go_wp2
      go_ret
      exact ⟨rfl, hbel⟩
def mkN (k : Int) (t : Nat) : Nt := (3 * (t : Int) + k, 3 * (t : Int) + k + 1, 3 * (t : Int) + k + 1 + 1)
def mkNTo (k : Int) (A : Nat → Nt) (n j : Nat) : Nt := if j < n then mkN k j else A j
def mkI (t : Nat) : Int := (t : Int) + 1
def mkITo (A : Nat → Int) (n j : Nat) : Int := if j < n then mkI j else A j
set_option maxHeartbeats 4000000 in
theorem markNoteS_any (v : Value) (lo hi L : Nat) (A : Nat → Nt) (k : Int) (w : World) (hL : L ≤ 1048576) (k1 : 1 ≤ k) (k2 : k ≤ 1000000000) (h : NVR w lo hi v L A) :
    Calls Try.prog 23 #[v, .int .i64 k] w fun e w' => e = .returned (.int .i64 (3 * (L : Int) + k)) ∧ NVR w' lo hi v L (mkN k) ∧ Out lo hi w w' := by
  obtain ⟨a, c, rfl, l1, m1, F⟩ := h.form
  by_cases h0 : L = 0
  · subst h0
    clear h F
    go_enter Try.func23, Try.ntmps23
    go_wp2
    go_loop [1, 5] (fun n i => n = .int .i64 k ∧ i = .int .i64 0) (fun _ _ => 0)
    case atStart => exact ⟨rfl, rfl⟩
    case round =>
      obtain ⟨rfl, rfl⟩ := hrel
      go_wp2
      go_ret
      exact ⟨ret_int (by simp), .inl ⟨rfl, _, _, rfl, m1⟩, Out.refl _ _ _⟩
  · obtain ⟨g, cap, rfl, g0, g1, nb⟩ := F (by omega)
    have H := Lib.hid nb
    clear h F nb
    go_enter Try.func23, Try.ntmps23
    go_wp2
    go_loopw [1, 5] (fun n i wr => ∃ t : Nat, t ≤ L ∧ i = .int .i64 t ∧ n = .int .i64 (3 * (t : Int) + k) ∧ NB wr g cap L (mkNTo k A t) ∧ Out lo hi w wr) (fun _ i _ => L - (intOf i).toNat)
    case atStart => exact ⟨0, Nat.zero_le _, rfl, by simp, H.out.congr (fun j hj => by unfold mkNTo; rw [if_neg (by omega)]), Out.refl _ _ _⟩
    case round =>
      obtain ⟨t, ht, rfl, rfl, hp, hg⟩ := hrel
      by_cases hlt : t < L
      · obtain ⟨⟨a0, a1, a2⟩, fz⟩ := hp.cells hlt
        have f0 := fz (t * 3)
        have f1 := fz (t * 3 + 1)
        have f2 := fz (t * 3 + 2)
        have HP := Lib.hid hp
        have HG := Lib.hid hg
        have i0 : (0 : Int) ≤ (t : Int) := by omega
        have i1 : (t : Int) < (L : Int) := by omega
        clear fz hp hg
        go_wp2
        go_roundw
        case rel =>
          refine ⟨t + 1, by omega, by go_num, by go_num, NB.congr (HP.out.set t hlt _ _ _) (fun j hj => ?_), ((HG.out.setCell g0 g1 _).setCell g0 g1 _).setCell g0 g1 _⟩
          unfold updN mkNTo mkN
          by_cases c1 : j = t
          · rw [if_pos c1, if_pos (by omega), c1]
          · rw [if_neg c1]
            by_cases c2 : j < t
            · rw [if_pos c2, if_pos (by omega)]
            · rw [if_neg c2, if_neg (by omega)]
        case measure => simp [intOf]; omega
      · obtain rfl : t = L := by omega
        go_wp2
        go_ret
        exact ⟨rfl, .inr ⟨by omega, g, c, cap, rfl, g0, g1, l1, m1, hp.congr (fun j hj => by unfold mkNTo; rw [if_pos hj])⟩, hg⟩
set_option maxHeartbeats 4000000 in
theorem heldNoteS_any (v : Value) (b L : Nat) (w : World) (hL : L ≤ 1048576) (h : NV w b v L (mkN 1)) :
    Calls Try.prog 26 #[v, .int .i64 1] w fun e w' => e = .returned (.int .i64 (3 * (L : Int) + 1)) ∧ w = w' := by
  obtain ⟨a, c, rfl, l1, m1, F⟩ := h.form
  have HF := Lib.hid F
  clear h F
  go_enter Try.func26, Try.ntmps26
  go_wp2
  go_loop [1, 5] (fun n i => ∃ t : Nat, t ≤ L ∧ i = .int .i64 t ∧ n = .int .i64 (3 * (t : Int) + 1)) (fun _ i => L - (intOf i).toNat)
  case atStart => exact ⟨0, Nat.zero_le _, rfl, by simp⟩
  case round =>
    obtain ⟨t, ht, rfl, rfl⟩ := hrel
    by_cases hlt : t < L
    · obtain ⟨g, cap, rfl, _, _, nb⟩ := HF.out (by omega)
      obtain ⟨⟨a0, a1, a2⟩, _⟩ := nb.cells hlt
      have i0 : (0 : Int) ≤ (t : Int) := by omega
      have i1 : (t : Int) < (L : Int) := by omega
      unfold mkN at a0 a1 a2
      simp only at a0 a1 a2
      clear nb
      go_wp2
      go_round
      case rel => exact ⟨t + 1, by omega, by go_num, by go_num⟩
      case measure => simp [intOf]; omega
    · obtain rfl : t = L := by omega
      go_wp2
      go_ret
      exact ⟨rfl, rfl⟩
theorem IB.fz {w : World} {g cap n : Nat} {A : Nat → Int} (h : IB w g cap n A) (o : Nat) : w.frozen? ⟨g, o, none⟩ = false := by
  obtain ⟨cur, h1, h2, h3⟩ := h
  simp [World.frozen?, h1]
theorem IB.congr' {w : World} {g cap n : Nat} {A B : Nat → Int} (h : IB w g cap n A) (e : ∀ j, j < n → A j = B j) : IB w g cap n B := by
  obtain ⟨cur, h1, h2, h3⟩ := h
  exact ⟨cur, h1, h2, fun j hj => by rw [← e j hj]; exact h3 j hj⟩
set_option maxHeartbeats 4000000 in
theorem markIntS_any (v : Value) (lo hi L : Nat) (A : Nat → Int) (w : World) (hL : L ≤ 1048576) (h : IVR w lo hi v L A) :
    Calls Try.prog 24 #[v, .int .i64 1] w fun e w' => e = .returned (.int .i64 ((L : Int) + 1)) ∧ IVR w' lo hi v L mkI ∧ Out lo hi w w' := by
  obtain ⟨a, c, rfl, l1, m1, F⟩ := h.form
  by_cases h0 : L = 0
  · subst h0
    clear h F
    go_enter Try.func24, Try.ntmps24
    go_wp2
    go_loop [1, 5] (fun n i => n = .int .i64 1 ∧ i = .int .i64 0) (fun _ _ => 0)
    case atStart => exact ⟨rfl, rfl⟩
    case round =>
      obtain ⟨rfl, rfl⟩ := hrel
      go_wp2
      go_ret
      exact ⟨ret_int (by simp), .inl ⟨rfl, _, _, rfl, m1⟩, Out.refl _ _ _⟩
  · obtain ⟨g, cap, rfl, g0, g1, nb⟩ := F (by omega)
    have H := Lib.hid nb
    clear h F nb
    go_enter Try.func24, Try.ntmps24
    go_wp2
    go_loopw [1, 5] (fun n i wr => ∃ t : Nat, t ≤ L ∧ i = .int .i64 t ∧ n = .int .i64 ((t : Int) + 1) ∧ IB wr g cap L (mkITo A t) ∧ Out lo hi w wr) (fun _ i _ => L - (intOf i).toNat)
    case atStart => exact ⟨0, Nat.zero_le _, rfl, by simp, H.out.congr' (fun j hj => by unfold mkITo; rw [if_neg (by omega)]), Out.refl _ _ _⟩
    case round =>
      obtain ⟨t, ht, rfl, rfl, hp, hg⟩ := hrel
      by_cases hlt : t < L
      · have a0 := hp.cell hlt
        have f0 := hp.fz t
        have HP := Lib.hid hp
        have HG := Lib.hid hg
        have i0 : (0 : Int) ≤ (t : Int) := by omega
        have i1 : (t : Int) < (L : Int) := by omega
        generalize mkITo A t t = q at *
        clear hp hg
        go_wp2
        go_roundw
        case rel =>
          refine ⟨t + 1, by omega, by go_num, by go_num, IB.congr' (HP.out.set t hlt _) (fun j hj => ?_), HG.out.setCell g0 g1 _⟩
          unfold updI mkITo mkI
          by_cases c1 : j = t
          · rw [if_pos c1, if_pos (by omega), c1]
          · rw [if_neg c1]
            by_cases c2 : j < t
            · rw [if_pos c2, if_pos (by omega)]
            · rw [if_neg c2, if_neg (by omega)]
        case measure => simp [intOf]; omega
      · obtain rfl : t = L := by omega
        go_wp2
        go_ret
        exact ⟨rfl, .inr ⟨by omega, g, c, cap, rfl, g0, g1, l1, m1, hp.congr' (fun j hj => by unfold mkITo; rw [if_pos hj])⟩, hg⟩
set_option maxHeartbeats 4000000 in
theorem heldIntS_any (v : Value) (b L : Nat) (w : World) (hL : L ≤ 1048576) (h : IV w b v L mkI) :
    Calls Try.prog 25 #[v, .int .i64 1] w fun e w' => e = .returned (.int .i64 ((L : Int) + 1)) ∧ w = w' := by
  obtain ⟨a, c, rfl, l1, m1, F⟩ := h.form
  have HF := Lib.hid F
  clear h F
  go_enter Try.func25, Try.ntmps25
  go_wp2
  go_loop [1, 5] (fun n i => ∃ t : Nat, t ≤ L ∧ i = .int .i64 t ∧ n = .int .i64 ((t : Int) + 1)) (fun _ i => L - (intOf i).toNat)
  case atStart => exact ⟨0, Nat.zero_le _, rfl, by simp⟩
  case round =>
    obtain ⟨t, ht, rfl, rfl⟩ := hrel
    by_cases hlt : t < L
    · obtain ⟨g, cap, rfl, _, _, nb⟩ := HF.out (by omega)
      have a0 := nb.cell hlt
      have i0 : (0 : Int) ≤ (t : Int) := by omega
      have i1 : (t : Int) < (L : Int) := by omega
      unfold mkI at a0
      clear nb
      go_wp2
      go_round
      case rel => exact ⟨t + 1, by omega, by go_num, by go_num⟩
      case measure => simp [intOf]; omega
    · obtain rfl : t = L := by omega
      go_wp2
      go_ret
      exact ⟨rfl, rfl⟩
end Go.Proofs.Ytdifhjjkgcipaaa
