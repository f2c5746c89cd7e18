/- QuoteCents: what it returns; the draws of quotes; the three laws over it. -/
import Derived.Test.YtlobbphhhdklfaaReader2
namespace Go.Proofs.Ytlobbphhhdklfaa
open Go.RowKit
set_option linter.unusedVariables false
def cents (n : Int) : Int := if inR n 0 19200 = true then near (100 * n) 64 else -1
theorem cents_bd (n : Int) : -1 ≤ cents n ∧ cents n ≤ 30000 := by
  unfold cents
  split
  · rename_i h
    have := inR_true.1 h
    unfold near
    omega
  · omega
theorem cents_mono (n m : Int) (h0 : 0 ≤ n) (h : n ≤ m) (hm : m ≤ 19200) : cents n ≤ cents m := by
  unfold cents
  rw [if_pos (inR_yes ⟨h0, by omega⟩), if_pos (inR_yes ⟨by omega, hm⟩)]
  unfold near
  omega
theorem cents_step (n : Int) (h0 : 0 ≤ n) (hm : n + 64 ≤ 19200) : cents (n + 64) = cents n + 100 := by
  unfold cents
  rw [if_pos (inR_yes ⟨by omega, by omega⟩), if_pos (inR_yes ⟨by omega, by omega⟩)]
  unfold near
  omega
theorem cents_neg {n : Int} (h : cents n < 0) : cents n = -1 := by
  unfold cents at *
  split at h
  · rename_i h'
    have := inR_true.1 h'
    unfold near at h
    omega
  · rename_i h'
    rw [if_neg h']
theorem cents_in {n : Int} (h : 0 ≤ cents n) : 0 ≤ n ∧ n ≤ 19200 := by
  unfold cents at h
  split at h
  · rename_i h'
    exact inR_true.1 h'
  · omega
theorem centsI_any (n : Int) (w : World) :
    Calls Try.prog 10 #[.int .i64 n] w fun e w' => e = .returned (.int .i64 (cents n)) ∧ w = w' := by
  by_cases h : inR n 0 19200 = true
  · have hb := inR_true.1 h
    obtain ⟨hl, hl'⟩ := hb
    have hh := Lib.hid h
    go_enter Try.func10, Try.ntmps10
    go_wp2_with (first | (go_at_call 22; refine (within_any _ _ _ _).mono ?_; rintro e w' ⟨rfl, rfl⟩) | (go_at_call 23; refine (nearestI_any _ _ _ (by omega) (by omega) (by omega) (by omega)).mono ?_; rintro e w' ⟨rfl, rfl⟩))
    go_ret
    exact ⟨ret_int (by unfold cents; rw [if_pos hh.out]), rfl⟩
  · have h' : inR n 0 19200 = false := by simpa using h
    clear h
    go_enter Try.func10, Try.ntmps10
    go_wp2_with (first | (go_at_call 22; refine (within_any _ _ _ _).mono ?_; rintro e w' ⟨rfl, rfl⟩))
    go_ret
    exact ⟨ret_int (by unfold cents; rw [h']; rfl), rfl⟩
theorem centsS_any (n : Int) (w : World) :
    Calls Try.prog 9 #[.int .i64 n] w fun e w' => e = .returned (.int .i64 (cents n)) ∧ w = w' := by
  by_cases h : inR n 0 19200 = true
  · have hb := inR_true.1 h
    obtain ⟨hl, hl'⟩ := hb
    have hh := Lib.hid h
    go_enter Try.func9, Try.ntmps9
    go_wp2_with (first | (go_at_call 20; refine (inRange_any _ _ _ _).mono ?_; rintro e w' ⟨rfl, rfl⟩) | (go_at_call 21; refine (nearestS_any _ _ _ (by omega) (by omega) (by omega) (by omega)).mono ?_; rintro e w' ⟨rfl, rfl⟩))
    go_ret
    exact ⟨ret_int (by unfold cents; rw [if_pos hh.out]), rfl⟩
  · have h' : inR n 0 19200 = false := by simpa using h
    clear h
    go_enter Try.func9, Try.ntmps9
    go_wp2_with (first | (go_at_call 20; refine (inRange_any _ _ _ _).mono ?_; rintro e w' ⟨rfl, rfl⟩))
    go_ret
    exact ⟨ret_int (by unfold cents; rw [h']; rfl), rfl⟩
theorem fnExactQuoteCents_walk (n : Int) (w : World) (w0 : (Lit.int .i64 n).wf = true) :
    Calls Try.prog 3 #[.int .i64 n] w fun e w' => e = .returned (.bool true) ∧ Below w.heap.size w w' := by
  go_enter Try.func3, Try.ntmps3
  go_wp2_with (first | (go_at_call 10; refine (centsI_any _ _).mono ?_; rintro e w' ⟨rfl, rfl⟩) | (go_at_call 9; refine (centsS_any _ _).mono ?_; rintro e w' ⟨rfl, rfl⟩))
  go_ret
  exact ⟨rfl, Below.refl _ _⟩
theorem anyQuote_any (R : Nat) (w : World) (hR : R < w.heap.size) (hrd : Rd w R 0) :
    Calls Try.prog 24 #[.pointer (some ⟨R, 0, none⟩)] w (OnePost (-1) 19201 R 2 w) := by
  have H := Lib.hid hrd
  clear hrd
  go_enter Try.func24, Try.ntmps24
  go_wp2_with fail
  refine (pick_any _ R 0 _ hR (by omega) (by omega) (by omega) (by omega) H.out).mono ?_
  rintro e w1 ⟨x, rfl, x0, x1, k, h1⟩
  have x2 : x ≤ 249 := by omega
  have hR1 : R < w1.heap.size := Nat.lt_of_lt_of_le hR k.size
  have H1 := Lib.hid h1
  have K1 := Lib.hid k
  clear h1 k x1
  go_wp2_with fail
  refine (pick_any _ R 1 _ hR1 (by omega) (by omega) (by omega) (by omega) H1.out).mono ?_
  rintro e w2 ⟨y, rfl, y0, y1, k, h2⟩
  have y2 : y ≤ 249 := by omega
  have hR2 : R < w2.heap.size := Nat.lt_of_lt_of_le hR1 k.size
  have K2 := Lib.hid (K1.out.trans k)
  have H2 := Lib.hid (h2.alloc hR2 (.cells ([6400, 6433, 6369, 0, 1, 63, 64, 19200, 19201, -1, x * 76, y].map (Value.int .i64)).toArray 3))
  have L := Lib.hid (intsIn_new w2 [6400, 6433, 6369, 0, 1, 63, 64, 19200, 19201, -1, x * 76, y] 3 (0, 0) 12 (-1) 19201 rfl (by simp; omega))
  clear h2 k y1 K1 H1
  go_wp2_with fail
  refine (one_any _ _ _ (-1) 19201 R 2 _ L.out (by omega) (by omega) (by simp) (by omega) (by simp; omega) (by omega) (by omega) H2.out).mono ?_
  rintro e w3 ⟨z, rfl, z0, z1, k, h3⟩
  have K3 := Lib.hid ((K2.out.alloc _).trans k)
  have H3 := Lib.hid h3
  clear h3 k
  go_wp2
  go_ret
  exact ⟨_, rfl, z0, z1, K3.out, H3.out⟩
def DrawPost (lo hi : Int) (w : World) (e : Ending) (w' : World) : Prop :=
  ∃ x : Int, e = .returned (.int .i64 x) ∧ lo ≤ x ∧ x ≤ hi ∧ Below w.heap.size w w'
theorem drawQuoteCents_any (a : Option Addr) (len cap : Nat) (w : World) (hlc : len ≤ cap) (hc : cap ≤ maxLen) (h : IsBytes w a len) :
    Calls Try.prog 11 #[.slice a len cap] w (DrawPost (-1) 19201 w) := by
  have H := Lib.hid h
  clear h
  go_enter Try.func11, Try.ntmps11
  go_wp2_with fail
  refine (newReader_any _ _ _ w hlc hc H.out).mono ?_
  rintro e w1 ⟨rfl, b, r, hz⟩
  have B := Lib.hid b
  have Z := Lib.hid hz
  have R1 := Lib.hid r
  have hz1 : w.heap.size < w1.heap.size := by omega
  clear b hz r
  go_wp2_with fail
  refine (anyQuote_any w.heap.size w1 hz1 R1.out).mono ?_
  rintro e w2 ⟨x, rfl, x0, x1, k, _⟩
  have B2 := Lib.hid (B.out.trans (k.below (Nat.le_refl _) (by omega)))
  clear k
  go_wp2
  go_ret
  exact ⟨x, rfl, x0, x1, B2.out⟩
set_option maxHeartbeats 400000 in
theorem fnQuoteOrder_walk (a : Option Addr) (len cap : Nat) (w : World) (hlc : len ≤ cap) (hc : cap ≤ maxLen) (h : IsBytes w a len) :
    Calls Try.prog 4 #[.slice a len cap] w fun e w' => e = .returned (.bool true) ∧ Below w.heap.size w w' := by
  by_cases hbig : 1048576 < len
  · unfold maxLen at hc
    go_enter Try.func4, Try.ntmps4
    go_wp2
    go_ret
    exact ⟨rfl, Below.refl _ _⟩
  have H := Lib.hid h
  clear h
  go_enter Try.func4, Try.ntmps4
  go_wp2_with fail
  refine (drawQuoteCents_any _ _ _ w hlc hc H.out).mono ?_
  rintro e w1 ⟨x, rfl, x0, x1, b⟩
  have B := Lib.hid b
  clear b
  obtain ⟨c0, c1⟩ := cents_bd x
  by_cases hn : cents x < 0
  · go_wp2_with (first | (go_at_call 10; refine (centsI_any _ _).mono ?_; rintro e w' ⟨rfl, rfl⟩) | (go_at_call 9; refine (centsS_any _ _).mono ?_; rintro e w' ⟨rfl, rfl⟩))
    go_ret
    exact ⟨rfl, B.out⟩
  · by_cases hm : 19200 < x + 64
    · go_wp2_with (first | (go_at_call 10; refine (centsI_any _ _).mono ?_; rintro e w' ⟨rfl, rfl⟩) | (go_at_call 9; refine (centsS_any _ _).mono ?_; rintro e w' ⟨rfl, rfl⟩))
      go_ret
      exact ⟨rfl, B.out⟩
    · have hx := cents_in (n := x) (by omega)
      have m1 := cents_mono x (x + 1) hx.1 (by omega) (by omega)
      have m2 : (cents (x + 64) == cents x + 100) = true := by rw [cents_step x hx.1 (by omega)]; simp
      go_wp2_with (first | (go_at_call 10; refine (centsI_any _ _).mono ?_; rintro e w' ⟨rfl, rfl⟩) | (go_at_call 9; refine (centsS_any _ _).mono ?_; rintro e w' ⟨rfl, rfl⟩))
      go_ret
      exact ⟨rfl, B.out⟩
set_option maxHeartbeats 400000 in
theorem fnQuoteCents_walk (a : Option Addr) (len cap : Nat) (w : World) (hlc : len ≤ cap) (hc : cap ≤ maxLen) (h : IsBytes w a len) :
    Calls Try.prog 5 #[.slice a len cap] w fun e w' => e = .returned (.bool true) ∧ Below w.heap.size w w' := by
  by_cases hbig : 1048576 < len
  · unfold maxLen at hc
    go_enter Try.func5, Try.ntmps5
    go_wp2
    go_ret
    exact ⟨rfl, Below.refl _ _⟩
  have H := Lib.hid h
  clear h
  go_enter Try.func5, Try.ntmps5
  go_wp2_with fail
  refine (drawQuoteCents_any _ _ _ w hlc hc H.out).mono ?_
  rintro e w1 ⟨x, rfl, x0, x1, b⟩
  have B := Lib.hid b
  clear b
  obtain ⟨c0, c1⟩ := cents_bd x
  by_cases hn : cents x < 0
  · go_wp2_with (first | (go_at_call 10; refine (centsI_any _ _).mono ?_; rintro e w' ⟨rfl, rfl⟩) | (go_at_call 9; refine (centsS_any _ _).mono ?_; rintro e w' ⟨rfl, rfl⟩))
    go_ret
    exact ⟨rfl, B.out⟩
  · have hx := cents_in (n := x) (by omega)
    have hx0 := hx.1
    have m1 : absI (64 * cents x - 100 * x) ≤ 32 := by
      unfold absI cents
      rw [if_pos (inR_yes hx)]
      unfold near
      split <;> omega
    by_cases hz : x % 64 = 0
    · have hz1 : (x % 64 == 0) = true := by simpa using hz
      have hz2 : (x % 64 != 0) = false := by simpa using hz
      have m2 : (cents x == x / 64 * 100) = true := by
        have : cents x = x / 64 * 100 := by
          unfold cents
          rw [if_pos (inR_yes hx)]
          unfold near
          omega
        simpa using this
      clear hz
      go_wp2_with (first | (go_at_call 10; refine (centsI_any _ _).mono ?_; rintro e w' ⟨rfl, rfl⟩) | (go_at_call 9; refine (centsS_any _ _).mono ?_; rintro e w' ⟨rfl, rfl⟩) | (go_at_call 12; refine (absolute_any _ _ (by omega) (by omega)).mono ?_; rintro e w' ⟨rfl, rfl⟩))
      go_ret
      exact ⟨rfl, B.out⟩
    · have hz1 : (x % 64 == 0) = false := by simpa using hz
      have hz2 : (x % 64 != 0) = true := by simpa using hz
      clear hz
      go_wp2_with (first | (go_at_call 10; refine (centsI_any _ _).mono ?_; rintro e w' ⟨rfl, rfl⟩) | (go_at_call 9; refine (centsS_any _ _).mono ?_; rintro e w' ⟨rfl, rfl⟩) | (go_at_call 12; refine (absolute_any _ _ (by omega) (by omega)).mono ?_; rintro e w' ⟨rfl, rfl⟩))
      go_ret
      exact ⟨rfl, B.out⟩
end Go.Proofs.Ytlobbphhhdklfaa
