/- Notes: validity; a number in a row. -/
import Derived.Test.YtdifhjjkgcipaaaNote1
import Derived.Deep.RegionHeld3
namespace Go.Proofs.Ytdifhjjkgcipaaa
open Go.RowKit
set_option linter.unusedVariables false
theorem dayValid_any (n : Int) (w : World) :
    Calls Try.prog 42 #[.int .i64 n] w fun e w' => e = .returned (.bool (inR n 0 36524)) ∧ w = w' := by
  go_enter Try.func42, Try.ntmps42
  go_wp2_with (go_at_call 39; refine (within_any _ _ _ _).mono ?_; rintro e w' ⟨rfl, rfl⟩)
  go_ret
  exact ⟨rfl, rfl⟩
theorem priceValid_any (n : Int) (w : World) :
    Calls Try.prog 43 #[.int .i64 n] w fun e w' => e = .returned (.bool (inR n 1 50000)) ∧ w = w' := by
  go_enter Try.func43, Try.ntmps43
  go_wp2_with (go_at_call 39; refine (within_any _ _ _ _).mono ?_; rintro e w' ⟨rfl, rfl⟩)
  go_ret
  exact ⟨rfl, rfl⟩
set_option maxHeartbeats 1000000 in
theorem noteValid_any (a b c : Int) (w : World) :
    Calls Try.prog 41 #[.agg #[.int .i64 a, .int .i64 b, .int .i64 c]] w fun e w' => e = .returned (.bool (okN (a, b, c))) ∧ Below w.heap.size w w' := by
  unfold okN
  cases h1 : inR a 0 36524
  · go_enter Try.func41, Try.ntmps41
    go_wp2_with (first | (go_at_call 42; refine (dayValid_any _ _).mono ?_; rintro e w' ⟨rfl, rfl⟩))
    go_ret
    exact ⟨ret_bool (by simp), (by repeat (first | exact Below.refl _ _ | refine Below.drew ?_ | refine bel_drewN _ ?_ | refine Below.alloc ?_ (by first | omega | (simp; done) | (simp; omega)) _ | refine Below.setCell ?_ (by first | (show _ ≤ _; omega) | (simp; done) | (simp; omega)) _))⟩
  cases h2 : inR b 1 9999
  · go_enter Try.func41, Try.ntmps41
    go_wp2_with (first | (go_at_call 42; refine (dayValid_any _ _).mono ?_; rintro e w' ⟨rfl, rfl⟩) | (go_at_call 39; refine (within_any _ _ _ _).mono ?_; rintro e w' ⟨rfl, rfl⟩))
    go_ret
    exact ⟨ret_bool (by simp), (by repeat (first | exact Below.refl _ _ | refine Below.drew ?_ | refine bel_drewN _ ?_ | refine Below.alloc ?_ (by first | omega | (simp; done) | (simp; omega)) _ | refine Below.setCell ?_ (by first | (show _ ≤ _; omega) | (simp; done) | (simp; omega)) _))⟩
  · go_enter Try.func41, Try.ntmps41
    go_wp2_with (first | (go_at_call 42; refine (dayValid_any _ _).mono ?_; rintro e w' ⟨rfl, rfl⟩) | (go_at_call 39; refine (within_any _ _ _ _).mono ?_; rintro e w' ⟨rfl, rfl⟩) | (go_at_call 43; refine (priceValid_any _ _).mono ?_; rintro e w' ⟨rfl, rfl⟩))
    go_ret
    exact ⟨ret_bool (by simp), (by repeat (first | exact Below.refl _ _ | refine Below.drew ?_ | refine bel_drewN _ ?_ | refine Below.alloc ?_ (by first | omega | (simp; done) | (simp; omega)) _ | refine Below.setCell ?_ (by first | (show _ ≤ _; omega) | (simp; done) | (simp; omega)) _))⟩
set_option maxHeartbeats 2000000 in
theorem notesValid_any (v : Value) (b L : Nat) (A : Nat → Nt) (w : World) (hL : L ≤ 1048576) (h : NV w b v L A) :
    Calls Try.prog 38 #[v] w fun e w' => e = .returned (.bool (ntB A L)) ∧ Below w.heap.size w w' := by
  rcases h with ⟨rfl, va, vc, rfl, hvc⟩ | ⟨hp, g, c, cap, rfl, _, l1, m1, p1⟩
  · have hT : ntB A 0 = true := ntB_iff.2 ⟨fun j hj => by omega, by omega⟩
    rw [hT]
    go_enter Try.func38, Try.ntmps38
    go_wp2
    go_loop [10] (fun i => i = .int .i64 0) (fun _ => 0)
    case atStart => rfl
    case round =>
      obtain rfl := hrel
      go_wp2
      go_ret
      exact ⟨rfl, Below.refl _ _⟩
  by_cases hbig : 10 < L
  · rw [ntB_big hbig]
    go_enter Try.func38, Try.ntmps38
    go_wp2
    go_ret
    exact ⟨rfl, Below.refl _ _⟩
  have P1 := Lib.hid p1
  have t1 := p1.lt
  clear p1
  go_enter Try.func38, Try.ntmps38
  go_wp2
  go_loopw [10] (fun i wr => ∃ k : Nat, k ≤ L ∧ i = .int .i64 k ∧ (∀ j, j < k → okN (A j) = true) ∧ Below w.heap.size w wr) (fun i _ => L - (intOf i).toNat)
  case atStart => exact ⟨0, Nat.zero_le _, rfl, fun j hj => by omega, Below.refl _ _⟩
  case round =>
    obtain ⟨k, hk, rfl, hall, hbel⟩ := hrel
    have HA := Lib.hid hall
    have HB := Lib.hid hbel
    have hsz := hbel.size
    clear hall
    by_cases hlt : k < L
    · obtain ⟨⟨a0, a1, a2⟩, _⟩ := (P1.out.fwd hbel t1).cells hlt
      clear hbel
      have i0 : (0 : Int) ≤ (k : Int) := by omega
      have i1 : (k : Int) < (L : Int) := by omega
      obtain ⟨p, hp2⟩ : ∃ p, A k = p := ⟨_, rfl⟩
      obtain ⟨x, y, z⟩ := p
      rw [hp2] at a0 a1 a2
      simp only at a0 a1 a2
      have HP := Lib.hid hp2
      clear hp2
      cases hok : okN (x, y, z)
      · have HF := Lib.hid (ntB_no (A := A) hlt (by rw [HP.out]; exact hok))
        go_wp2_with (go_at_call 41; refine (noteValid_any _ _ _ _).mono ?_; rintro e v ⟨rfl, hb⟩)
        go_ret
        exact ⟨ret_bool HF.out.symm, (HB.out.alloc hsz _).trans (hb.mono (by simp; omega))⟩
      · go_wp2_with (go_at_call 41; refine (noteValid_any _ _ _ _).mono ?_; rintro e v ⟨rfl, hb⟩)
        go_roundw
        case rel =>
          refine ⟨k + 1, by omega, by go_num, fun j hj => ?_, (HB.out.alloc hsz _).trans (hb.mono (by simp; omega))⟩
          by_cases e : j = k
          · subst e; rw [HP.out]; exact hok
          · exact HA.out j (by omega)
        case measure => simp [intOf]; omega
    · obtain rfl : k = L := by omega
      have hT : ntB A k = true := ntB_iff.2 ⟨HA.out, by omega⟩
      go_wp2
      go_ret
      exact ⟨ret_bool hT.symm, HB.out⟩
set_option maxHeartbeats 4000000 in
theorem validNotes_any (v : Value) (b L : Nat) (A : Nat → Nt) (w : World) (hL : L ≤ 1048576) (h : NV w b v L A) :
    Calls Try.prog 31 #[v] w fun e w' => e = .returned (.bool (ntB A L)) ∧ Below w.heap.size w w' := by
  rcases h with ⟨rfl, va, vc, rfl, hvc⟩ | ⟨hp, g, c, cap, rfl, _, l1, m1, p1⟩
  · have hT : ntB A 0 = true := ntB_iff.2 ⟨fun j hj => by omega, by omega⟩
    rw [hT]
    go_enter Try.func31, Try.ntmps31
    go_wp2
    go_loop [3] (fun i => i = .int .i64 0) (fun _ => 0)
    case atStart => rfl
    case round =>
      obtain rfl := hrel
      go_wp2
      go_ret
      exact ⟨rfl, Below.refl _ _⟩
  have P1 := Lib.hid p1
  have t1 := p1.lt
  clear p1
  go_enter Try.func31, Try.ntmps31
  go_wp2
  go_loopw [3] (fun i wr => ∃ k : Nat, k ≤ L ∧ i = .int .i64 k ∧ (∀ j, j < k → okN (A j) = true) ∧ Below w.heap.size w wr) (fun i _ => L - (intOf i).toNat)
  case atStart => exact ⟨0, Nat.zero_le _, rfl, fun j hj => by omega, Below.refl _ _⟩
  case round =>
    obtain ⟨k, hk, rfl, hall, hbel⟩ := hrel
    have HA := Lib.hid hall
    have HB := Lib.hid hbel
    have hsz := hbel.size
    clear hall
    by_cases hlt : k < L
    · obtain ⟨⟨a0, a1, a2⟩, _⟩ := (P1.out.fwd hbel t1).cells hlt
      clear hbel
      have i0 : (0 : Int) ≤ (k : Int) := by omega
      have i1 : (k : Int) < (L : Int) := by omega
      obtain ⟨p, hp2⟩ : ∃ p, A k = p := ⟨_, rfl⟩
      obtain ⟨x, y, z⟩ := p
      rw [hp2] at a0 a1 a2
      simp only at a0 a1 a2
      have HP := Lib.hid hp2
      clear hp2
      have HO : Hid (okN (A k) = (inR x 0 36524 && inR y 1 9999 && inR z 1 50000)) := Lib.hid (by rw [HP.out]; rfl)
      cases h1 : inR x 0 36524
      · have HF := Lib.hid (ntB_no (A := A) hlt (by rw [HO.out, h1]; rfl))
        go_wp2_with (go_at_call 32; refine (inRange_any _ _ _ _).mono ?_; rintro e w' ⟨rfl, rfl⟩)
        go_ret
        exact ⟨ret_bool HF.out.symm, HB.out.alloc hsz _⟩
      cases h2 : inR y 1 9999
      · have HF := Lib.hid (ntB_no (A := A) hlt (by rw [HO.out, h1, h2]; rfl))
        go_wp2_with (go_at_call 32; refine (inRange_any _ _ _ _).mono ?_; rintro e w' ⟨rfl, rfl⟩)
        go_ret
        exact ⟨ret_bool HF.out.symm, HB.out.alloc hsz _⟩
      cases h3 : inR z 1 50000
      · have HF := Lib.hid (ntB_no (A := A) hlt (by rw [HO.out, h1, h2, h3]; rfl))
        go_wp2_with (go_at_call 32; refine (inRange_any _ _ _ _).mono ?_; rintro e w' ⟨rfl, rfl⟩)
        go_ret
        exact ⟨ret_bool HF.out.symm, HB.out.alloc hsz _⟩
      · go_wp2_with (go_at_call 32; refine (inRange_any _ _ _ _).mono ?_; rintro e w' ⟨rfl, rfl⟩)
        go_roundw
        case rel =>
          refine ⟨k + 1, by omega, by go_num, fun j hj => ?_, HB.out.alloc hsz _⟩
          by_cases e : j = k
          · subst e; rw [HO.out, h1, h2, h3]; rfl
          · exact HA.out j (by omega)
        case measure => simp [intOf]; omega
    · obtain rfl : k = L := by omega
      have hT : decide ((k : Int) ≤ 10) = ntB A k := by
        by_cases c : k ≤ 10
        · rw [ntB_iff.2 ⟨HA.out, c⟩]; simp; omega
        · rw [ntB_big (by omega)]; simp; omega
      have HT := Lib.hid hT
      clear hT hbel
      go_wp2
      go_ret
      exact ⟨ret_bool (by rw [← HT.out]), HB.out⟩
set_option maxHeartbeats 2000000 in
theorem isInS_any (v : Value) (b : Nat) (zs : List Int) (x : Int) (w : World) (hL : zs.length ≤ 1048576) (h : IV w b v zs.length (rowI zs)) :
    Calls Try.prog 34 #[v, .int .i64 x] w fun e w' => e = .returned (.bool (decide (x ∈ zs))) ∧ w = w' := by
  obtain ⟨L, hLe⟩ : ∃ L, zs.length = L := ⟨_, rfl⟩
  rw [hLe] at h hL
  have HL := Lib.hid hLe
  clear hLe
  rcases h with ⟨rfl, va, vc, rfl, hvc⟩ | ⟨hp, g, c, cap, rfl, _, l1, m1, p1⟩
  · have hT : decide (x ∈ zs) = false := by
      have := List.length_eq_zero_iff.1 HL.out
      subst this; simp
    rw [hT]
    go_enter Try.func34, Try.ntmps34
    go_wp2
    go_loop [5] (fun i => i = .int .i64 0) (fun _ => 0)
    case atStart => rfl
    case round =>
      obtain rfl := hrel
      go_wp2
      go_ret
      exact ⟨rfl, rfl⟩
  have P1 := Lib.hid p1
  clear p1
  go_enter Try.func34, Try.ntmps34
  go_wp2
  go_loop [5] (fun i => ∃ k : Nat, k ≤ L ∧ i = .int .i64 k ∧ (∀ j, j < k → rowI zs j ≠ x)) (fun i => L - (intOf i).toNat)
  case atStart => exact ⟨0, Nat.zero_le _, rfl, fun j hj => by omega⟩
  case round =>
    obtain ⟨k, hk, rfl, hall⟩ := hrel
    have HA := Lib.hid hall
    clear hall
    by_cases hlt : k < L
    · have a0 := P1.out.cell hlt
      have i0 : (0 : Int) ≤ (k : Int) := by omega
      have i1 : (k : Int) < (L : Int) := by omega
      have hm := Lib.hid (rowI_mem (l := zs) (j := k) (by rw [HL.out]; exact hlt))
      obtain ⟨y, hy⟩ : ∃ y, rowI zs k = y := ⟨_, rfl⟩
      rw [hy] at a0 hm
      have HY := Lib.hid hy
      clear hy
      by_cases e : y = x
      · have he : (y == x) = true := by rw [beq_iff_eq]; exact e
        have HT := Lib.hid (show true = decide (x ∈ zs) by rw [← e]; simp [hm.out])
        clear e
        go_wp2
        go_ret
        exact ⟨ret_bool HT.out, rfl⟩
      · have he : (y == x) = false := by rw [beq_eq_false_iff_ne]; exact e
        have HN := Lib.hid e
        clear e
        go_wp2
        go_round
        case rel =>
          refine ⟨k + 1, by omega, by go_num, fun j hj => ?_⟩
          by_cases e : j = k
          · subst e; rw [HY.out]; exact HN.out
          · exact HA.out j (by omega)
        case measure => simp [intOf]; omega
    · obtain rfl : k = L := by omega
      have hT : x ∉ zs := by
        intro hm
        obtain ⟨j, hj, he⟩ := List.getElem_of_mem hm
        apply HA.out j (by have := HL.out; omega)
        unfold rowI; rw [List.getD, List.getElem?_eq_getElem hj]; exact he
      have HT := Lib.hid hT
      clear hT
      go_wp2
      go_ret
      exact ⟨ret_bool (by simp [HT.out]), rfl⟩
set_option maxHeartbeats 2000000 in
theorem isInL_any (v : Value) (b : Nat) (zs : List Int) (x : Int) (w : World) (hL : zs.length ≤ 1048576) (h : IV w b v zs.length (rowI zs)) :
    Calls Try.prog 14 #[v, .int .i64 x] w fun e w' => e = .returned (.bool (decide (x ∈ zs))) ∧ w = w' := by
  obtain ⟨L, hLe⟩ : ∃ L, zs.length = L := ⟨_, rfl⟩
  rw [hLe] at h hL
  have HL := Lib.hid hLe
  clear hLe
  rcases h with ⟨rfl, va, vc, rfl, hvc⟩ | ⟨hp, g, c, cap, rfl, _, l1, m1, p1⟩
  · have hT : decide (x ∈ zs) = false := by
      have := List.length_eq_zero_iff.1 HL.out
      subst this; simp
    rw [hT]
    go_enter Try.func14, Try.ntmps14
    go_wp2
    go_loop [5] (fun i => i = .int .i64 0) (fun _ => 0)
    case atStart => rfl
    case round =>
      obtain rfl := hrel
      go_wp2
      go_ret
      exact ⟨rfl, rfl⟩
  have P1 := Lib.hid p1
  clear p1
  go_enter Try.func14, Try.ntmps14
  go_wp2
  go_loop [5] (fun i => ∃ k : Nat, k ≤ L ∧ i = .int .i64 k ∧ (∀ j, j < k → rowI zs j ≠ x)) (fun i => L - (intOf i).toNat)
  case atStart => exact ⟨0, Nat.zero_le _, rfl, fun j hj => by omega⟩
  case round =>
    obtain ⟨k, hk, rfl, hall⟩ := hrel
    have HA := Lib.hid hall
    clear hall
    by_cases hlt : k < L
    · have a0 := P1.out.cell hlt
      have i0 : (0 : Int) ≤ (k : Int) := by omega
      have i1 : (k : Int) < (L : Int) := by omega
      have hm := Lib.hid (rowI_mem (l := zs) (j := k) (by rw [HL.out]; exact hlt))
      obtain ⟨y, hy⟩ : ∃ y, rowI zs k = y := ⟨_, rfl⟩
      rw [hy] at a0 hm
      have HY := Lib.hid hy
      clear hy
      by_cases e : y = x
      · have he : (y == x) = true := by rw [beq_iff_eq]; exact e
        have HT := Lib.hid (show true = decide (x ∈ zs) by rw [← e]; simp [hm.out])
        clear e
        go_wp2
        go_ret
        exact ⟨ret_bool HT.out, rfl⟩
      · have he : (y == x) = false := by rw [beq_eq_false_iff_ne]; exact e
        have HN := Lib.hid e
        clear e
        go_wp2
        go_round
        case rel =>
          refine ⟨k + 1, by omega, by go_num, fun j hj => ?_⟩
          by_cases e : j = k
          · subst e; rw [HY.out]; exact HN.out
          · exact HA.out j (by omega)
        case measure => simp [intOf]; omega
    · obtain rfl : k = L := by omega
      have hT : x ∉ zs := by
        intro hm
        obtain ⟨j, hj, he⟩ := List.getElem_of_mem hm
        apply HA.out j (by have := HL.out; omega)
        unfold rowI; rw [List.getD, List.getElem?_eq_getElem hj]; exact he
      have HT := Lib.hid hT
      clear hT
      go_wp2
      go_ret
      exact ⟨ret_bool (by simp [HT.out]), rfl⟩
end Go.Proofs.Ytdifhjjkgcipaaa
