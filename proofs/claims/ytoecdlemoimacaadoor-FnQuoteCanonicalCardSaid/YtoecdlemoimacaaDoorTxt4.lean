/- Texts: quotes. -/
import Derived.Test.YtoecdlemoimacaaDoorTxt2
import Derived.Test.YtoecdlemoimacaaDoorShelf2
namespace Go.Proofs.YtoecdlemoimacaaDoor
open Go.RowKit
set_option linter.unusedVariables false
theorem bld_below {T e : TypeId} {B b : Nat} {bs : List Value} {w w' : World} (h : Lib.IsBuilder T e B b bs w) (k : Below w.heap.size w w') : Lib.IsBuilder T e B b bs w' := by
  have key : ∀ p, Lib.BuilderAt T e B b p bs w → Lib.BuilderAt T e B b p bs w' := by
    intro p hp
    have hl := hp.lt
    obtain ⟨h1, v, h2, h3, h4⟩ := hp
    refine ⟨h1, v, (k.block b hl).trans h2, ?_, h4⟩
    exact h3.kept (row := none) ⟨k.os, k.tape, k.output, k.size, fun j hj _ => k.block j hj⟩ (by cases hv : v.ownBlock <;> simp)
  rcases h with h | h
  · exact .inl (key _ h)
  · exact .inr (key _ h)
/-- the text of a quote -/
def qt0 (n : Nat) : List UInt8 := Lib.decDigits (n / 64) ++ [45] ++ twoD (n % 64 / 2)
def qtx (n : Nat) : List UInt8 := if n % 2 = 1 then qt0 n ++ [43] else qt0 n
def quoteTx (n : Int) : List UInt8 := if inR n 0 19200 = true then qtx n.toNat else []
theorem qt0_len (n : Nat) (h : n ≤ 19200) : (qt0 n).length ≤ 50 := by
  have := dec_len (n / 64) (by omega)
  have := twoD_len (n % 64 / 2) (by omega)
  unfold qt0
  simp
  omega
theorem qt_cats (n : Nat) (h : n ≤ 19200) :
    (∀ W, (Op.stringOp .add ⟨(Lib.decDigits (n / 64)).toArray⟩ { data := #[45] }).run Tryd.prog W = .ok (.string ⟨(Lib.decDigits (n / 64) ++ [45]).toArray⟩) W) ∧
    (∀ W, (Op.stringOp .add ⟨(Lib.decDigits (n / 64) ++ [45]).toArray⟩ ⟨(twoD (n % 64 / 2)).toArray⟩).run Tryd.prog W = .ok (.string ⟨(qt0 n).toArray⟩) W) ∧
    (∀ W, (Op.stringOp .add ⟨(qt0 n).toArray⟩ { data := #[43] }).run Tryd.prog W = .ok (.string ⟨(qt0 n ++ [43]).toArray⟩) W) := by
  have := dec_len (n / 64) (by omega)
  have := twoD_len (n % 64 / 2) (by omega)
  have := qt0_len n h
  exact ⟨fun W => cat_lit _ [45] (by omega) (by decide) W, fun W => cat_lit _ _ (by simp; omega) (by omega) W, fun W => cat_lit _ [43] (by omega) (by decide) W⟩
theorem tdivs (n : Nat) (h : n ≤ 19200) : (n : Int).tdiv 64 = ((n / 64 : Nat) : Int) ∧ (n : Int).tmod 64 = ((n % 64 : Nat) : Int) ∧ ((n % 64 : Nat) : Int).tdiv 2 = ((n % 64 / 2 : Nat) : Int) ∧ (n : Int).tmod 2 = ((n % 2 : Nat) : Int) :=
  ⟨by rw [Int.ofNat_tdiv]; rfl, by rw [Int.ofNat_tmod]; rfl, by rw [Int.ofNat_tdiv]; rfl, by rw [Int.ofNat_tmod]; rfl⟩
set_option maxHeartbeats 2000000 in
theorem fmtQuoteI_any (n : Int) (w : World) (hT : PT w) :
    Calls Tryd.prog 12 #[.int .i64 n] w fun e w' => e = .returned (.string ⟨(quoteTx n).toArray⟩) ∧ Below w.heap.size w w' := by
  have HT := Lib.hid hT
  clear hT
  unfold quoteTx
  cases h : inR n 0 19200
  · rw [if_neg (by simp)]
    go_enter Tryd.func12, Tryd.ntmps12
    have HB := Lib.hid (Below.refl w.heap.size w)
    go_wp2_with fail
    refine (within_any _ _ _ _).mono ?_
    rintro e w1 ⟨rfl, rfl⟩
    go_wp2
    go_ret
    exact ⟨rfl, HB.out⟩
  · obtain ⟨n0, n1⟩ := inR_true.1 h
    rw [if_pos rfl]
    obtain ⟨m, rfl⟩ : ∃ k : Nat, n = k := ⟨n.toNat, by omega⟩
    simp only [Int.toNat_natCast]
    obtain ⟨e1, e2, e3, e4⟩ := tdivs m (by omega)
    obtain ⟨c1, c2, c3⟩ := qt_cats m (by omega)
    have hl := qt0_len m (by omega)
    have HD := Lib.hid (fun W (k : PT W) => itoa_any (m / 64) W (by omega) k)
    have HTw := Lib.hid (fun W (k : PT W) => twoI_any (m % 64 / 2) W (by omega) k)
    have wq : IntKind.i64.wrap ((m / 64 : Nat) : Int) = ((m / 64 : Nat) : Int) := IntWalk.i64_in _ (by omega)
    have wr : IntKind.i64.wrap ((m % 64 / 2 : Nat) : Int) = ((m % 64 / 2 : Nat) : Int) := IntWalk.i64_in _ (by omega)
    have hB0 : ∀ W : World, Lib.IsBuilder 53 5 W.heap.size W.heap.size (Lib.byteCells []) (W.alloc (.cells #[.pointer none, .slice none 0 0] 53)) := fun W => Lib.fresh_isBuilder _ _ W
    have HB0 := Lib.hid hB0
    have hpar : m % 2 = 0 ∨ m % 2 = 1 := by omega
    unfold qtx
    have hq : qt0 m ≠ [] := by unfold qt0; simp
    generalize qt0 m = S2 at *
    generalize Lib.decDigits (m / 64) ++ [45] = S1 at *
    generalize Lib.decDigits (m / 64) = S0 at *
    generalize twoD (m % 64 / 2) = D0 at *
    generalize ((m / 64 : Nat) : Int) = Q at *
    generalize ((m % 64 / 2 : Nat) : Int) = R at *
    generalize ((m % 64 : Nat) : Int) = M at *
    clear hB0 n0 n1
    rcases hpar with hp | hp
    all_goals
      rw [hp] at e4
      first | rw [if_neg (by omega)] | rw [if_pos hp]
      go_enter Tryd.func12, Tryd.ntmps12
      have HB := Lib.hid (Below.refl w.heap.size w)
      go_wp2_with fail
      refine (within_any _ _ _ _).mono ?_
      rintro e w0 ⟨rfl, rfl⟩
      go_wp2_with fail
      have hTa : PT (w.alloc (.cells #[.pointer none, .slice none 0 0] 53)) := HT.out.below ((Below.refl _ _).alloc (Nat.le_refl _) _)
      refine (HD.out _ hTa).mono ?_
      rintro e w1 ⟨rfl, hb1⟩
      have hI1 := Lib.hid (bld_below (HB0.out w) hb1)
      have hT1 : PT w1 := hTa.below hb1
      have hs1 : w.heap.size + 1 ≤ w1.heap.size := by have := hb1.size; simpa using this
      have HB1 : Hid (Below w.heap.size w w1) := Lib.hid (((Below.refl _ _).alloc (Nat.le_refl _) _).trans (hb1.mono (by simp)))
      clear hb1 hTa
      go_wp2_with fail
      refine (HTw.out _ hT1).mono ?_
      rintro e w2 ⟨rfl, hb2⟩
      have hI2 := Lib.hid (bld_below hI1.out hb2)
      have hs2 : w.heap.size + 1 ≤ w2.heap.size := by have := hb2.size; omega
      have HB2 : Hid (Below w.heap.size w w2) := Lib.hid (HB1.out.trans (hb2.mono (by omega)))
      clear hb2
      go_wp2_with fail
      refine (Tryd.Builder_WriteString w.heap.size w.heap.size _ ⟨S2.toArray⟩ w2 hI2.out (by show 0 + S2.toArray.size ≤ _; simp; omega) (by omega)).mono ?_
      rintro e w3 ⟨rfl, hb3, hbel3⟩
      have hI3 : Hid (Lib.IsBuilder 53 5 w.heap.size w.heap.size (Lib.byteCells S2) w3) := Lib.hid (.inr hb3)
      have HB3 : Hid (Below w.heap.size w w3) := Lib.hid (HB2.out.trans hbel3)
      have hs3 : w.heap.size ≤ w3.heap.size := by have := hbel3.size; omega
      clear hb3 hbel3
    · go_wp2_with fail
      refine (Tryd.Builder_String_any w.heap.size w.heap.size S2 w3 hI3.out hs3).mono ?_
      rintro e w4 ⟨rfl, hbel4⟩
      go_wp2
      go_ret
      exact ⟨rfl, HB3.out.trans hbel4⟩
    · go_wp2_with fail
      refine (Tryd.Builder_WriteByte w.heap.size w.heap.size _ 43 w3 hI3.out (by unfold Lib.byteCells; rw [List.length_map]; omega) hs3).mono ?_
      rintro e w4 ⟨rfl, hb4, hbel4⟩
      have hI4 : Hid (Lib.IsBuilder 53 5 w.heap.size w.heap.size (Lib.byteCells (S2 ++ [43])) w4) := Lib.hid (by rw [Lib.byteCells_append]; exact .inr hb4)
      have HB4 : Hid (Below w.heap.size w w4) := Lib.hid (HB3.out.trans hbel4)
      have hs4 : w.heap.size ≤ w4.heap.size := by have := hbel4.size; omega
      clear hb4 hbel4
      go_wp2_with fail
      refine (Tryd.Builder_String_any w.heap.size w.heap.size (S2 ++ [43]) w4 hI4.out hs4).mono ?_
      rintro e w5 ⟨rfl, hbel5⟩
      go_wp2
      go_ret
      exact ⟨rfl, HB4.out.trans hbel5⟩
theorem conv_two (W : World) (b c : Nat) (u v : UInt8) (h : W.cell? ⟨b, 0, none⟩ = some (.int .u8 (u.toNat : Int))) (k : W.cell? ⟨b, 1, none⟩ = some (.int .u8 (v.toNat : Int))) :
    (convert 24 9 (.slice (some ⟨b, 0, none⟩) 2 c)).run Tryd.prog W = .ok (.string { data := #[u, v] }) W :=
  run_convert_bytes_back W 24 9 5 ⟨b, 0, none⟩ c [u, v] Tryd.underlying24 Tryd.underlying5 Tryd.underlying9 (fun j hj => by
    have : j = 0 ∨ j = 1 := by simp at hj; omega
    rcases this with rfl | rfl
    · exact h
    · exact k)
theorem twoD_two {k : Nat} (h : k < 100) : twoD k = [UInt8.ofNat (48 + k / 10), UInt8.ofNat (48 + k % 10)] := by
  unfold twoD
  by_cases h1 : k < 10
  · rw [if_pos h1, Lib.decDigits_one h1, show k / 10 = 0 by omega, show k % 10 = k by omega]
    rfl
  · rw [if_neg h1, Lib.decDigits_two h1 h]
set_option maxHeartbeats 4000000 in
theorem fmtQuoteS0_any (m : Nat) (w : World) (hm : m ≤ 19200) :
    Calls Tryd.prog 23 #[.int .i64 m] w fun e w' => e = .returned (.string ⟨(qtx m).toArray⟩) ∧ Below w.heap.size w w' := by
  obtain ⟨e1, e2, e3, e4⟩ := tdivs m hm
  obtain ⟨c1, c2, c3⟩ := qt_cats m hm
  have HD := Lib.hid (fun W => fmtInt_any (m / 64) (by omega) W)
  have wq : IntKind.i64.wrap ((m / 64 : Nat) : Int) = ((m / 64 : Nat) : Int) := IntWalk.i64_in _ (by omega)
  have wr : IntKind.i64.wrap ((m % 64 / 2 : Nat) : Int) = ((m % 64 / 2 : Nat) : Int) := IntWalk.i64_in _ (by omega)
  obtain ⟨k, hk⟩ : ∃ k, m % 64 / 2 = k := ⟨_, rfl⟩
  have hk1 : k < 32 := by omega
  rw [hk] at c2 wr e3
  have e5 : (k : Int).tdiv 10 = ((k / 10 : Nat) : Int) := by rw [Int.ofNat_tdiv]; rfl
  have e6 : (k : Int).tmod 10 = ((k % 10 : Nat) : Int) := by rw [Int.ofNat_tmod]; rfl
  have wk : IntKind.i64.wrap ((k / 10 : Nat) : Int) = ((k / 10 : Nat) : Int) := IntWalk.i64_in _ (by omega)
  have wa : IntKind.i64.wrap (48 + ((k / 10 : Nat) : Int)) = 48 + ((k / 10 : Nat) : Int) := IntWalk.i64_in _ (by omega)
  have wb : IntKind.i64.wrap (48 + ((k % 10 : Nat) : Int)) = 48 + ((k % 10 : Nat) : Int) := IntWalk.i64_in _ (by omega)
  have va : IntKind.u8.wrap (48 + ((k / 10 : Nat) : Int)) = 48 + ((k / 10 : Nat) : Int) := wrap_u8 (by omega) (by omega)
  have vb : IntKind.u8.wrap (48 + ((k % 10 : Nat) : Int)) = 48 + ((k % 10 : Nat) : Int) := wrap_u8 (by omega) (by omega)
  rw [twoD_two (show k < 100 by omega)] at c2
  have ua := u8_of (k := 48 + k / 10) (by omega)
  have ub := u8_of (k := 48 + k % 10) (by omega)
  have hcv := fun (W : World) (b c : Nat) (hc : W.cell? ⟨b, 0, none⟩ = some (.int .u8 (48 + ((k / 10 : Nat) : Int)))) (hd : W.cell? ⟨b, 1, none⟩ = some (.int .u8 (48 + ((k % 10 : Nat) : Int)))) => conv_two W b c (UInt8.ofNat (48 + k / 10)) (UInt8.ofNat (48 + k % 10)) (by rw [ua]; exact_mod_cast hc) (by rw [ub]; exact_mod_cast hd)
  have hpar : m % 2 = 0 ∨ m % 2 = 1 := by omega
  unfold qtx
  clear ua ub
  generalize UInt8.ofNat (48 + k / 10) = u at *
  generalize UInt8.ofNat (48 + k % 10) = v at *
  generalize ((k / 10 : Nat) : Int) = KA at *
  generalize ((k % 10 : Nat) : Int) = KB at *
  generalize (k : Int) = R at *
  generalize qt0 m = S2 at *
  generalize Lib.decDigits (m / 64) ++ [45] = S1 at *
  generalize Lib.decDigits (m / 64) = S0 at *
  generalize ((m / 64 : Nat) : Int) = Q at *
  generalize ((m % 64 : Nat) : Int) = M at *
  clear hk hk1 hm
  rcases hpar with hp | hp
  all_goals
    rw [hp] at e4
    first | rw [if_neg (by omega)] | rw [if_pos hp]
    clear hp
    go_enter Tryd.func23, Tryd.ntmps23
    have HB := Lib.hid (Below.refl w.heap.size w)
    go_wp2_with fail
    go_region_with (
      go_at_call 44
      with_reducible refine (HD.out _).mono ?_
      rintro e v3 ⟨rfl, hb⟩
      try (have hcell0 : v3.cell? ⟨w.heap.size, 0, none⟩ = some (.int .u8 (48 + KA)) := bc hb (show World.cell? (w.alloc (.cells #[.int .u8 (48 + KA), .int .u8 (48 + KB)] 5)) ⟨w.heap.size, 0, none⟩ = some (.int .u8 (48 + KA)) from by simp); have hcell1 : v3.cell? ⟨w.heap.size, 1, none⟩ = some (.int .u8 (48 + KB)) := bc hb (show World.cell? (w.alloc (.cells #[.int .u8 (48 + KA), .int .u8 (48 + KB)] 5)) ⟨w.heap.size, 1, none⟩ = some (.int .u8 (48 + KB)) from by simp)))
    all_goals
      go_wp2
      go_ret
      refine ⟨rfl, ?_⟩
      have hz := hb.size
      repeat (first | exact Below.refl _ _ | (with_reducible refine Below.trans ?_ (hb.mono (by first | (show w.heap.size ≤ w.heap.size; omega) | (simp; done) | (simp; omega)))) | (with_reducible refine Below.drew ?_) | (with_reducible refine bel_drewN _ ?_) | (with_reducible refine Below.alloc ?_ (by first | omega | (simp; done) | (simp at hz ⊢; omega)) _))
theorem fmtQuoteS_any (n : Int) (w : World) :
    Calls Tryd.prog 13 #[.int .i64 n] w fun e w' => e = .returned (.string ⟨(quoteTx n).toArray⟩) ∧ Below w.heap.size w w' := by
  unfold quoteTx
  cases h : inR n 0 19200
  · rw [if_neg (by simp)]
    go_enter Tryd.func13, Tryd.ntmps13
    have HB := Lib.hid (Below.refl w.heap.size w)
    go_wp2_with fail
    refine (inRange_any _ _ _ _).mono ?_
    rintro e w1 ⟨rfl, rfl⟩
    go_wp2
    go_ret
    exact ⟨rfl, HB.out⟩
  · obtain ⟨n0, n1⟩ := inR_true.1 h
    rw [if_pos rfl]
    obtain ⟨m, rfl⟩ : ∃ k : Nat, n = k := ⟨n.toNat, by omega⟩
    simp only [Int.toNat_natCast]
    have HF := Lib.hid (fun W => fmtQuoteS0_any m W (by omega))
    generalize qtx m = S at *
    clear n0 n1
    go_enter Tryd.func13, Tryd.ntmps13
    have HB := Lib.hid (Below.refl w.heap.size w)
    go_wp2_with fail
    refine (inRange_any _ _ _ _).mono ?_
    rintro e w1 ⟨rfl, rfl⟩
    go_wp2_with fail
    refine (HF.out _).mono ?_
    rintro e w2 ⟨rfl, hb⟩
    have hszw2 := below_size hb
    try simp at hszw2
    have HBq : Below w.heap.size w w2 := Below.trans (by repeat (first | exact Below.refl _ _ | exact HB.out | refine Below.drew ?_ | refine bel_drewN _ ?_ | refine Below.alloc ?_ (by first | omega | (simp; done) | (simp; omega)) _ | refine Below.setCell ?_ (by first | (show _ ≤ _; omega) | (simp; done) | (simp; omega)) _)) (hb.mono (by first | omega | (simp; done) | (simp; omega)))
    have HB := Lib.hid HBq
    clear HBq hb
    go_wp2
    go_ret
    exact ⟨rfl, HB.out⟩
theorem fnExactFormatQuote_walk (n : Int) (w : World) (hT : PT w) (_w0 : (Lit.int .i64 n).wf = true) :
    Calls Tryd.prog 6 #[.int .i64 n] w fun e w' => e = .returned (.bool true) ∧ Below w.heap.size w w' := by
  have HT := Lib.hid hT
  have HI := Lib.hid (fun W (hT : PT W) => fmtQuoteI_any n W hT)
  have HS := Lib.hid (fun W => fmtQuoteS_any n W)
  clear hT _w0
  generalize quoteTx n = S at *
  go_enter Tryd.func6, Tryd.ntmps6
  have HB := Lib.hid (Below.refl w.heap.size w)
  go_wp2_with fail
  refine (HS.out _).mono ?_
  rintro e w1 ⟨rfl, hb⟩
  have hszw1 := below_size hb
  try simp at hszw1
  have HBq : Below w.heap.size w w1 := Below.trans (by repeat (first | exact Below.refl _ _ | exact HB.out | refine Below.drew ?_ | refine bel_drewN _ ?_ | refine Below.alloc ?_ (by first | omega | (simp; done) | (simp; omega)) _ | refine Below.setCell ?_ (by first | (show _ ≤ _; omega) | (simp; done) | (simp; omega)) _)) (hb.mono (by first | omega | (simp; done) | (simp; omega)))
  have HB := Lib.hid HBq
  clear HBq hb
  go_wp2_with fail
  refine (HI.out _ (HT.out.below HB.out)).mono ?_
  rintro e w2 ⟨rfl, hb⟩
  have hszw2 := below_size hb
  try simp at hszw2
  have HBq : Below w.heap.size w w2 := Below.trans (by repeat (first | exact Below.refl _ _ | exact HB.out | refine Below.drew ?_ | refine bel_drewN _ ?_ | refine Below.alloc ?_ (by first | omega | (simp; done) | (simp; omega)) _ | refine Below.setCell ?_ (by first | (show _ ≤ _; omega) | (simp; done) | (simp; omega)) _)) (hb.mono (by first | omega | (simp; done) | (simp; omega)))
  have HB := Lib.hid HBq
  clear HBq hb
  go_wp2
  go_ret
  exact ⟨ret_bool (by first | rfl | simp), HB.out⟩
end Go.Proofs.YtoecdlemoimacaaDoor
