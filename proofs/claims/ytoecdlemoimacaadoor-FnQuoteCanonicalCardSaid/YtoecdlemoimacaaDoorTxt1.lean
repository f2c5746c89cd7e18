/- Texts: numbers and dates as texts. -/
import Derived.Test.YtoecdlemoimacaaDoorDate8
import Derived.Test.YtoecdlemoimacaaDoorCalm
import Derived.Test.YtoecdlemoimacaaDoorShelf
import Derived.Lib.ItoaLen
import Derived.Lib.ItoaMem
import Derived.Laws.IdiomStrings
import Derived.Deep.RegionWith
import Derived.IntWalk
namespace Go.Proofs.YtoecdlemoimacaaDoor
open Go.RowKit
set_option linter.unusedVariables false
theorem below_grow {w : World} (k : Nat) (os : Array Obj) : Below w.heap.size w (Sort.grow (w.drewN k) os) := by
  refine ⟨rfl, rfl, rfl, ?_, ?_⟩
  · show w.heap.size ≤ (w.heap ++ os).size
    simp
  · intro j hj
    exact Sort.heap_grow_old (w.drewN k) os hj
/-- the table of powers of ten, as the library's text lays it -/
def PT (w : World) : Prop := Lib.TabIs Tryd.prog w "internal/strconv.uint64pow10" .u64 Lib.pow10Tab
theorem PT.below {w w' : World} (h : PT w) (k : Below w.heap.size w w') : PT w' := by
  unfold PT Lib.TabIs World.var? at *
  revert h
  cases hg : Tryd.prog.globalNamed "internal/strconv.uint64pow10" with
  | none => exact fun h => h
  | some g =>
    simp only [Option.bind_some]
    intro h
    have hl : g < w.heap.size := by
      rcases Nat.lt_or_ge g w.heap.size with q | q
      · exact q
      · simp [Array.getElem?_eq_none q] at h
    rw [k.block g hl]
    exact h
theorem dec_len (n : Nat) (h : n ≤ 1000000000) : (Lib.decDigits n).length ≤ 21 := by
  have := Lib.itoa_length_le (n : Int) (by omega) (by omega)
  rwa [Lib.itoa_nonneg] at this
theorem itoa_any (n : Nat) (w : World) (hn : n ≤ 1000000000) (hT : PT w) :
    Calls Tryd.prog 31 #[.int .i64 n] w fun e w' => e = .returned (.string ⟨(Lib.decDigits n).toArray⟩) ∧ Below w.heap.size w w' := by
  refine (Tryd.strconv_Itoa n (by omega) (by omega) w hT).mono ?_
  rintro e w' ⟨rfl, k, os, rfl⟩
  exact ⟨by rw [Lib.itoa_nonneg], below_grow k os⟩
theorem cat_lit (x y : List UInt8) (hx : x.length ≤ 100) (hy : y.length ≤ 100) (W : World) :
    (Op.stringOp .add ⟨x.toArray⟩ ⟨y.toArray⟩).run Tryd.prog W = .ok (.string ⟨(x ++ y).toArray⟩) W :=
  run_string_add_lists W x y (by omega) (by omega)
/-- two digits at least -/
def twoD (n : Nat) : List UInt8 := if n < 10 then 48 :: Lib.decDigits n else Lib.decDigits n
theorem twoD_len (n : Nat) (h : n ≤ 1000000000) : (twoD n).length ≤ 22 := by
  have := dec_len n h
  unfold twoD
  split <;> simp <;> omega
theorem twoI_any (n : Nat) (w : World) (hn : n ≤ 1000000000) (hT : PT w) :
    Calls Tryd.prog 32 #[.int .i64 n] w fun e w' => e = .returned (.string ⟨(twoD n).toArray⟩) ∧ Below w.heap.size w w' := by
  have HI := Lib.hid (itoa_any n w hn hT)
  have hcat : ∀ W, (Op.stringOp .add { data := #[48] } ⟨(Lib.decDigits n).toArray⟩).run Tryd.prog W = .ok (.string ⟨(48 :: Lib.decDigits n).toArray⟩) W := fun W => cat_lit [48] (Lib.decDigits n) (by decide) (by have := dec_len n hn; omega) W
  unfold twoD
  by_cases h : n < 10
  · rw [if_pos h]
    have h1 : (n : Int) < 10 := by omega
    generalize Lib.decDigits n = D at *
    go_enter Tryd.func32, Tryd.ntmps32
    go_wp2_with (go_at_call 31; refine HI.out.mono ?_; rintro e w1 ⟨rfl, hb⟩)
    go_ret
    exact ⟨rfl, hb⟩
  · rw [if_neg h]
    have h1 : ¬ (n : Int) < 10 := by omega
    generalize Lib.decDigits n = D at *
    go_enter Tryd.func32, Tryd.ntmps32
    go_wp2_with (go_at_call 31; refine HI.out.mono ?_; rintro e w1 ⟨rfl, hb⟩)
    go_ret
    exact ⟨rfl, hb⟩
theorem wrap_u8 {x : Int} (h0 : 0 ≤ x) (h1 : x < 256) : IntKind.u8.wrap x = x := by
  have e : IntKind.u8.bits = 8 := rfl
  have e2 : IntKind.u8.signed = false := rfl
  simp only [IntKind.wrap, e, e2]
  simp
  omega
theorem conv_one (W : World) (b c : Nat) (u : UInt8) (h : W.cell? ⟨b, 0, none⟩ = some (.int .u8 (u.toNat : Int))) :
    (convert 24 9 (.slice (some ⟨b, 0, none⟩) 1 c)).run Tryd.prog W = .ok (.string { data := #[u] }) W :=
  run_convert_bytes_back W 24 9 5 ⟨b, 0, none⟩ c [u] Tryd.underlying24 Tryd.underlying5 Tryd.underlying9 (fun j hj => by
    have : j = 0 := by simp at hj; omega
    subst this
    exact h)
theorem dec_step {n : Nat} (h : ¬ n < 10) : Lib.decDigits n = Lib.decDigits (n / 10) ++ [UInt8.ofNat (48 + n % 10)] := by
  rw [Lib.decDigits, dif_neg h]
theorem u8_of {k : Nat} (h : k < 256) : ((UInt8.ofNat k).toNat : Int) = k := by
  simp [Nat.mod_eq_of_lt h]
set_option maxHeartbeats 1000000 in
theorem fmtInt_any (n : Nat) : n ≤ 1000000000 → ∀ w : World, Calls Tryd.prog 44 #[.int .i64 n] w fun e w' => e = .returned (.string ⟨(Lib.decDigits n).toArray⟩) ∧ Below w.heap.size w w' := by
  induction n using Nat.strongRecOn with
  | ind n ih =>
  intro hn w
  by_cases h : n < 10
  · have h1 : (n : Int) < 10 := by omega
    have hu := u8_of (k := 48 + n) (by omega)
    have wr : IntKind.u8.wrap (48 + (n : Int)) = 48 + (n : Int) := by
      exact wrap_u8 (by omega) (by omega)
    rw [Lib.decDigits_one h]
    have hcv := fun (W : World) (b c : Nat) (hc : W.cell? ⟨b, 0, none⟩ = some (.int .u8 (48 + (n : Int)))) => conv_one W b c (UInt8.ofNat (48 + n)) (by rw [hu]; exact hc)
    clear ih hu
    generalize UInt8.ofNat (48 + n) = u at *
    go_enter Tryd.func44, Tryd.ntmps44
    go_wp2
    go_ret
    exact ⟨rfl, (Below.refl _ _).alloc (Nat.le_refl _) _⟩
  · have h1 : ¬ (n : Int) < 10 := by omega
    have hu := u8_of (k := 48 + n % 10) (by omega)
    have HI := Lib.hid (ih (n / 10) (by omega) (by omega))
    have ld := dec_len (n / 10) (by omega)
    have hq : (n : Int).tdiv 10 = ((n / 10 : Nat) : Int) := by rw [Int.ofNat_tdiv]; rfl
    have hr : (n : Int).tmod 10 = ((n % 10 : Nat) : Int) := by rw [Int.ofNat_tmod]; rfl
    have wr : IntKind.u8.wrap (48 + ((n % 10 : Nat) : Int)) = 48 + ((n % 10 : Nat) : Int) := by
      exact wrap_u8 (by omega) (by omega)
    rw [dec_step h]
    have hcv := fun (W : World) (b c : Nat) (hc : W.cell? ⟨b, 0, none⟩ = some (.int .u8 (48 + ((n % 10 : Nat) : Int)))) => conv_one W b c (UInt8.ofNat (48 + n % 10)) (by rw [hu]; exact_mod_cast hc)
    have hcat := fun W => cat_lit (Lib.decDigits (n / 10)) [UInt8.ofNat (48 + n % 10)] (by omega) (by simp) W
    clear ih hu
    generalize UInt8.ofNat (48 + n % 10) = u at *
    generalize Lib.decDigits (n / 10) = D at *
    have i0 : (0 : Int) ≤ ((n % 10 : Nat) : Int) := by omega
    have i1 : ((n % 10 : Nat) : Int) ≤ 9 := by omega
    have j0 : (0 : Int) ≤ ((n / 10 : Nat) : Int) ∧ ((n / 10 : Nat) : Int) ≤ 1000000000 := by omega
    have wq : IntKind.i64.wrap ((n / 10 : Nat) : Int) = ((n / 10 : Nat) : Int) := IntWalk.i64_in _ (by omega)
    have wr0 : IntKind.i64.wrap (48 + ((n % 10 : Nat) : Int)) = 48 + ((n % 10 : Nat) : Int) := IntWalk.i64_in _ (by omega)
    generalize ((n % 10 : Nat) : Int) = R at *
    generalize ((n / 10 : Nat) : Int) = Q at *
    go_enter Tryd.func44, Tryd.ntmps44
    go_wp2_with fail
    go_region_with (
      go_at_call 44
      with_reducible refine (HI.out _).mono ?_
      rintro e v3 ⟨rfl, hb⟩
      try (have hcell : v3.cell? ⟨w.heap.size, 0, none⟩ = some (.int .u8 (48 + R)) := bc hb (show World.cell? (w.alloc (.cells #[.int .u8 (48 + R)] 5)) ⟨w.heap.size, 0, none⟩ = some (.int .u8 (48 + R)) from by simp)))
    all_goals
      go_wp2
      go_ret
      refine ⟨rfl, ?_⟩
      have hz := hb.size
      repeat (first | exact Below.refl _ _ | (with_reducible refine Below.trans ?_ (hb.mono (by first | (show w.heap.size ≤ w.heap.size; omega) | (simp; done) | (simp; omega)))) | (with_reducible refine Below.drew ?_) | (with_reducible refine bel_drewN _ ?_) | (with_reducible refine Below.alloc ?_ (by first | omega | (simp; done) | (simp at hz ⊢; omega)) _))
theorem twoS_any (n : Nat) (w : World) (hn : n ≤ 1000000000) :
    Calls Tryd.prog 54 #[.int .i64 n] w fun e w' => e = .returned (.string ⟨(twoD n).toArray⟩) ∧ Below w.heap.size w w' := by
  have HI := Lib.hid (fmtInt_any n hn w)
  have hcat : ∀ W, (Op.stringOp .add { data := #[48] } ⟨(Lib.decDigits n).toArray⟩).run Tryd.prog W = .ok (.string ⟨(48 :: Lib.decDigits n).toArray⟩) W := fun W => cat_lit [48] (Lib.decDigits n) (by decide) (by have := dec_len n hn; omega) W
  unfold twoD
  by_cases h : n < 10
  · rw [if_pos h]
    have h1 : (n : Int) < 10 := by omega
    generalize Lib.decDigits n = D at *
    go_enter Tryd.func54, Tryd.ntmps54
    go_wp2_with (go_at_call 44; refine HI.out.mono ?_; rintro e w1 ⟨rfl, hb⟩)
    go_ret
    exact ⟨rfl, hb⟩
  · rw [if_neg h]
    have h1 : ¬ (n : Int) < 10 := by omega
    generalize Lib.decDigits n = D at *
    go_enter Tryd.func54, Tryd.ntmps54
    go_wp2_with (go_at_call 44; refine HI.out.mono ?_; rintro e w1 ⟨rfl, hb⟩)
    go_ret
    exact ⟨rfl, hb⟩
end Go.Proofs.YtoecdlemoimacaaDoor
