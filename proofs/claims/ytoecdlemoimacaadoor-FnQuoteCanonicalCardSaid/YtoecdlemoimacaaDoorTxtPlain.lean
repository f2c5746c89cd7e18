/- Reading dates out of texts: plain. -/
import Derived.Test.YtoecdlemoimacaaDoorTxt2
import Derived.Test.YtoecdlemoimacaaDoorTxt4
namespace Go.Proofs.YtoecdlemoimacaaDoor
def isD (c : UInt8) : Bool := decide (48 ≤ c.toNat) && decide (c.toNat ≤ 57)
/-- the value of the leading digits, no more than so many -/
def rdN : Nat → List UInt8 → Int → Int
  | 0, _, n => n
  | _ + 1, [], n => n
  | f + 1, c :: l, n => if isD c = true then rdN f l (10 * n + ((c.toNat : Int) - 48)) else n
/-- how many they are -/
def rdK : Nat → List UInt8 → Nat
  | 0, _ => 0
  | _ + 1, [] => 0
  | f + 1, c :: l => if isD c = true then rdK f l + 1 else 0
/-- behind a minus sign, if one stands there -/
def skA (l : List UInt8) (a : Nat) : Nat := if l[a]? = some 45 then a + 1 else a
def nA (l : List UInt8) (a : Nat) : Nat := a + rdK 6 (l.drop a)
def p1 (l : List UInt8) : Nat := skA l (nA l 0)
def p2 (l : List UInt8) : Nat := skA l (nA l (p1 l))
/-- the date that the program reads -/
def cY (l : List UInt8) : Int := rdN 6 (l.drop 0) 0
def cM (l : List UInt8) : Int := rdN 6 (l.drop (p1 l)) 0
def cD (l : List UInt8) : Int := rdN 6 (l.drop (p2 l)) 0
/-- a digit at a place -/
def dg (l : List UInt8) (i : Nat) : Int := match l[i]? with
  | some c => if isD c = true then (c.toNat : Int) - 48 else -1
  | none => -1
def nmF (l : List UInt8) : Nat → Nat → Int → Int
  | 0, _, n => n
  | j + 1, i, n => if dg l i < 0 then -1 else nmF l j (i + 1) (10 * n + dg l i)
/-- the date that the reference reads -/
def sY (l : List UInt8) : Int := nmF l 4 0 0
def sM (l : List UInt8) : Int := nmF l 2 5 0
def sD (l : List UInt8) : Int := nmF l 2 8 0
theorem dg_bd (l : List UInt8) (i : Nat) : -1 ≤ dg l i ∧ dg l i ≤ 9 := by
  unfold dg
  split
  · split
    · rename_i h
      unfold isD at h
      simp at h
      omega
    · omega
  · omega
theorem rdK_le (l : List UInt8) : ∀ f : Nat, rdK f l ≤ f ∧ rdK f l ≤ l.length := by
  intro f
  induction f generalizing l with
  | zero => simp [rdK]
  | succ f ih =>
    cases l with
    | nil => simp [rdK]
    | cons c l =>
      simp only [rdK]
      have := ih l
      split <;> simp <;> omega
def dgt (k : Nat) : UInt8 := UInt8.ofNat (48 + k)
theorem dgt_nat {k : Nat} (h : k < 10) : (dgt k).toNat = 48 + k := by
  unfold dgt
  simp [Nat.mod_eq_of_lt (show 48 + k < 256 by omega)]
theorem isD_dgt {k : Nat} (h : k < 10) : isD (dgt k) = true := by
  unfold isD
  rw [dgt_nat h]
  simp
  omega
theorem val_dgt {k : Nat} (h : k < 10) : ((dgt k).toNat : Int) - 48 = k := by rw [dgt_nat h]; omega
theorem isD_minus : isD 45 = false := by decide
theorem dec4 {y : Nat} (h1 : 1000 ≤ y) (h2 : y < 10000) : Lib.decDigits y = [dgt (y / 1000), dgt (y / 100 % 10), dgt (y / 10 % 10), dgt (y % 10)] := by
  rw [dec_step (show ¬ y < 10 by omega), dec_step (show ¬ y / 10 < 10 by omega), dec_step (show ¬ y / 10 / 10 < 10 by omega), Lib.decDigits_one (show y / 10 / 10 / 10 < 10 by omega)]
  rw [show y / 10 / 10 / 10 = y / 1000 by omega, show y / 10 / 10 % 10 = y / 100 % 10 by omega]
  rfl
theorem dtx_form {y m d : Nat} (h1 : 1000 ≤ y) (h2 : y < 10000) (h3 : m < 100) (h4 : d < 100) :
    dtx y m d = [dgt (y / 1000), dgt (y / 100 % 10), dgt (y / 10 % 10), dgt (y % 10), 45, dgt (m / 10), dgt (m % 10), 45, dgt (d / 10), dgt (d % 10)] := by
  unfold dtx
  rw [dec4 h1 h2, twoD_two h3, twoD_two h4]
  rfl
section
variable {a b c e f g h i : Nat} (ha : a < 10) (hb : b < 10) (hc : c < 10) (he : e < 10) (hf : f < 10) (hg : g < 10) (hh : h < 10) (hi : i < 10)
include ha hb hc he hf hg hh hi
theorem read_im : cY [dgt a, dgt b, dgt c, dgt e, 45, dgt f, dgt g, 45, dgt h, dgt i] = 1000 * a + 100 * b + 10 * c + e ∧ cM [dgt a, dgt b, dgt c, dgt e, 45, dgt f, dgt g, 45, dgt h, dgt i] = 10 * f + g ∧ cD [dgt a, dgt b, dgt c, dgt e, 45, dgt f, dgt g, 45, dgt h, dgt i] = 10 * h + i := by
  have k1 : nA [dgt a, dgt b, dgt c, dgt e, 45, dgt f, dgt g, 45, dgt h, dgt i] 0 = 4 := by
    simp [nA, rdK, isD_dgt ha, isD_dgt hb, isD_dgt hc, isD_dgt he, isD_minus]
  have q1 : p1 [dgt a, dgt b, dgt c, dgt e, 45, dgt f, dgt g, 45, dgt h, dgt i] = 5 := by
    unfold p1
    rw [k1]
    simp [skA]
  have k2 : nA [dgt a, dgt b, dgt c, dgt e, 45, dgt f, dgt g, 45, dgt h, dgt i] 5 = 7 := by
    simp [nA, rdK, isD_dgt hf, isD_dgt hg, isD_minus]
  have q2 : p2 [dgt a, dgt b, dgt c, dgt e, 45, dgt f, dgt g, 45, dgt h, dgt i] = 8 := by
    unfold p2
    rw [q1, k2]
    simp [skA]
  refine ⟨?_, ?_, ?_⟩
  · unfold cY
    simp [rdN, isD_dgt ha, isD_dgt hb, isD_dgt hc, isD_dgt he, isD_minus, val_dgt ha, val_dgt hb, val_dgt hc, val_dgt he]
    omega
  · unfold cM
    rw [q1]
    simp [rdN, isD_dgt hf, isD_dgt hg, isD_minus, val_dgt hf, val_dgt hg]
  · unfold cD
    rw [q2]
    simp [rdN, isD_dgt hh, isD_dgt hi, val_dgt hh, val_dgt hi]
theorem read_sp : sY [dgt a, dgt b, dgt c, dgt e, 45, dgt f, dgt g, 45, dgt h, dgt i] = 1000 * a + 100 * b + 10 * c + e ∧ sM [dgt a, dgt b, dgt c, dgt e, 45, dgt f, dgt g, 45, dgt h, dgt i] = 10 * f + g ∧ sD [dgt a, dgt b, dgt c, dgt e, 45, dgt f, dgt g, 45, dgt h, dgt i] = 10 * h + i := by
  have n0 : ∀ k : Nat, ¬ (k : Int) < 0 := fun k => by omega
  refine ⟨?_, ?_, ?_⟩
  · unfold sY
    simp [nmF, dg, isD_dgt ha, isD_dgt hb, isD_dgt hc, isD_dgt he, val_dgt ha, val_dgt hb, val_dgt hc, val_dgt he, n0]
    omega
  · unfold sM
    simp [nmF, dg, isD_dgt hf, isD_dgt hg, val_dgt hf, val_dgt hg, n0]
  · unfold sD
    simp [nmF, dg, isD_dgt hh, isD_dgt hi, val_dgt hh, val_dgt hi, n0]
end
theorem read_dtx {y m d : Nat} (h1 : 1000 ≤ y) (h2 : y < 10000) (h3 : m < 100) (h4 : d < 100) :
    (cY (dtx y m d) = y ∧ cM (dtx y m d) = m ∧ cD (dtx y m d) = d) ∧ (sY (dtx y m d) = y ∧ sM (dtx y m d) = m ∧ sD (dtx y m d) = d) ∧ (dtx y m d).length = 10 := by
  rw [dtx_form h1 h2 h3 h4]
  obtain ⟨a1, a2, a3⟩ := read_im (a := y / 1000) (b := y / 100 % 10) (c := y / 10 % 10) (e := y % 10) (f := m / 10) (g := m % 10) (h := d / 10) (i := d % 10) (by omega) (by omega) (by omega) (by omega) (by omega) (by omega) (by omega) (by omega)
  obtain ⟨b1, b2, b3⟩ := read_sp (a := y / 1000) (b := y / 100 % 10) (c := y / 10 % 10) (e := y % 10) (f := m / 10) (g := m % 10) (h := d / 10) (i := d % 10) (by omega) (by omega) (by omega) (by omega) (by omega) (by omega) (by omega) (by omega)
  refine ⟨⟨?_, ?_, ?_⟩, ⟨?_, ?_, ?_⟩, by simp⟩
  · rw [a1]; omega
  · rw [a2]; omega
  · rw [a3]; omega
  · rw [b1]; omega
  · rw [b2]; omega
  · rw [b3]; omega
/-- whether the program takes a text -/
def imOk (l : List UInt8) : Bool := decide (l ≠ []) && decide (dateTx (cY l) (cM l) (cD l) = l)
def spOk (l : List UInt8) : Bool := decide (l.length = 10) && (dtB (sY l) (sM l) (sD l) && decide (dtx (sY l).toNat (sM l).toNat (sD l).toNat = l))
theorem parse_same (l : List UInt8) : imOk l = spOk l ∧ (imOk l = true → cY l = sY l ∧ cM l = sM l ∧ cD l = sD l) := by
  have key : ∀ y m d : Int, dtB y m d = true → dtx y.toNat m.toNat d.toNat = l → imOk l = true ∧ spOk l = true ∧ (cY l = y ∧ cM l = m ∧ cD l = d) ∧ sY l = y ∧ sM l = m ∧ sD l = d := by
    intro y m d hv hl
    obtain ⟨⟨y0, y1⟩, ⟨m0, m1⟩, ⟨d0, d1⟩⟩ := dtB_bd hv
    obtain ⟨⟨a1, a2, a3⟩, ⟨b1, b2, b3⟩, hlen⟩ := read_dtx (y := y.toNat) (m := m.toNat) (d := d.toNat) (by omega) (by omega) (by omega) (by omega)
    rw [hl] at a1 a2 a3 b1 b2 b3 hlen
    have c1 : cY l = y := by omega
    have c2 : cM l = m := by omega
    have c3 : cD l = d := by omega
    have e1 : sY l = y := by omega
    have e2 : sM l = m := by omega
    have e3 : sD l = d := by omega
    refine ⟨?_, ?_, ⟨c1, c2, c3⟩, e1, e2, e3⟩
    · unfold imOk
      rw [c1, c2, c3, dateTx, if_pos hv, hl]
      have : l ≠ [] := by intro h; rw [h] at hlen; simp at hlen
      simp [this]
    · unfold spOk
      rw [e1, e2, e3, hv, hl, hlen]
      simp
  cases hi : imOk l
  · cases hs : spOk l
    · exact ⟨rfl, fun h => by cases h⟩
    · exfalso
      unfold spOk at hs
      simp at hs
      have := (key _ _ _ hs.2.1 hs.2.2).1
      rw [hi] at this
      cases this
  · have hk := hi
    unfold imOk at hk
    simp at hk
    obtain ⟨h0, h1⟩ := hk
    unfold dateTx at h1
    split at h1
    · rename_i hv
      obtain ⟨_, k2, ⟨c1, c2, c3⟩, e1, e2, e3⟩ := key _ _ _ hv h1
      exact ⟨k2.symm, fun _ => ⟨e1.symm, e2.symm, e3.symm⟩⟩
    · exact absurd h1.symm h0
end Go.Proofs.YtoecdlemoimacaaDoor
