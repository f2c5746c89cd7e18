/- Reading quotes out of texts: plain. -/
import Derived.Test.YtoecdlemoimacaaDoorTxtPlain
import Derived.Lib.AtoiAll
import Derived.Lib.IndexMore
import Derived.Lib.Strings
namespace Go.Proofs.YtoecdlemoimacaaDoor
set_option linter.unusedVariables false
/-- the number that a text is, if it is one -/
def atI (l : List UInt8) : Option Int := match Lib.atoiAll l with
  | .ok v => some v
  | _ => none
def imN (l : List UInt8) (a b : Int) : Int := 64 * a + 2 * b + (if Lib.hasSuffix l [43] = true then 1 else 0)
def imC (l : List UInt8) : List UInt8 × List UInt8 × Bool := Lib.cut (Lib.trimSuffix l [43]) [45]
/-- what the program reads -/
def imQ (l : List UInt8) : Int :=
  if (imC l).2.2 = true then
    match atI (imC l).1, atI (imC l).2.1 with
    | some a, some b => if inR a 0 300 = true ∧ inR b 0 31 = true ∧ quoteTx (imN l a b) = l then imN l a b else -1
    | _, _ => -1
  else -1
/-- what the reference reads -/
def rq (l : List UInt8) : Int :=
  if dg l (rdK 4 l + 1) < 0 ∨ dg l (rdK 4 l + 2) < 0 then -1
  else 64 * rdN 4 l 0 + 2 * (10 * dg l (rdK 4 l + 1) + dg l (rdK 4 l + 2)) + (if l.length = rdK 4 l + 4 then 1 else 0)
def spQ (l : List UInt8) : Int := if inR (rq l) 0 19200 = true ∧ qtx (rq l).toNat = l then rq l else -1
theorem pu_dgt {acc k : Nat} (r : List UInt8) (hk : k < 10) (ha : acc < 1000000) : Lib.parseUint10 acc (dgt k :: r) = Lib.parseUint10 (acc * 10 + k) r := by
  simp only [Lib.parseUint10]
  rw [dgt_nat hk, if_pos (by omega), if_neg (by omega), if_neg (by omega), show acc * 10 + (48 + k - 48) = acc * 10 + k by omega]
theorem at_dgt {k : Nat} (r : List UInt8) (u : Nat) (hk : k < 10) (hu : u < 1000000) (h : Lib.parseUint10 k r = .ok u) : atI (dgt k :: r) = some (u : Int) := by
  unfold atI Lib.atoiAll
  have e : Lib.parseMag (dgt k :: r) = .ok u := by
    unfold Lib.parseMag
    rw [if_neg (by simp), pu_dgt r hk (by decide), Nat.zero_mul, Nat.zero_add]
    exact h
  have n1 : (dgt k).toNat = 48 + k := dgt_nat hk
  simp only
  rw [if_neg (by omega), e]
  simp only
  rw [if_neg (by omega), if_neg (by omega), if_neg (by omega)]
theorem pu_nil (u : Nat) : Lib.parseUint10 u [] = .ok u := rfl
theorem dgt_ne {k : Nat} (hk : k < 10) : (45 == dgt k) = false ∧ (43 == dgt k) = false ∧ dgt k ≠ 43 := by
  have n1 : (dgt k).toNat = 48 + k := dgt_nat hk
  have a : ¬ (45 : UInt8) = dgt k := fun e => by rw [← e] at n1; simp at n1; omega
  have b : ¬ (43 : UInt8) = dgt k := fun e => by rw [← e] at n1; simp at n1; omega
  exact ⟨by simpa using a, by simpa using b, fun e => b e.symm⟩
theorem dec1 {q : Nat} (h : q < 10) : Lib.decDigits q = [dgt q] := Lib.decDigits_one h
theorem dec2 {q : Nat} (h1 : ¬ q < 10) (h2 : q < 100) : Lib.decDigits q = [dgt (q / 10), dgt (q % 10)] := Lib.decDigits_two h1 h2
theorem dec3 {q : Nat} (h1 : ¬ q < 100) (h2 : q < 1000) : Lib.decDigits q = [dgt (q / 100), dgt (q / 10 % 10), dgt (q % 10)] := by
  rw [dec_step (show ¬ q < 10 by omega), dec_step (show ¬ q / 10 < 10 by omega), Lib.decDigits_one (show q / 10 / 10 < 10 by omega), show q / 10 / 10 = q / 100 by omega]
  rfl
/-- the digits of a number below 1000 -/
inductive Digs (q : Nat) : List UInt8 → Prop
  | one (a : Nat) (ha : a < 10) (e : q = a) : Digs q [dgt a]
  | two (a b : Nat) (ha : a < 10) (hb : b < 10) (e : q = 10 * a + b) : Digs q [dgt a, dgt b]
  | three (a b c : Nat) (ha : a < 10) (hb : b < 10) (hc : c < 10) (e : q = 100 * a + 10 * b + c) : Digs q [dgt a, dgt b, dgt c]
theorem Digs.len {q : Nat} {L : List UInt8} (h : Digs q L) : 1 ≤ L.length ∧ L.length ≤ 3 := by
  cases h <;> simp
theorem digs {q : Nat} (h : q < 1000) : Digs q (Lib.decDigits q) := by
  by_cases h1 : q < 10
  · rw [dec1 h1]; exact .one q h1 rfl
  by_cases h2 : q < 100
  · rw [dec2 h1 h2]; exact .two _ _ (by omega) (by omega) (by omega)
  · rw [dec3 h2 h]; exact .three _ _ _ (by omega) (by omega) (by omega) (by omega)
theorem read_q {q f g : Nat} {L : List UInt8} (hL : Digs q L) (hf : f < 10) (hg : g < 10) (T : List UInt8) (hT : T = [] ∨ T = [43]) :
    rdK 4 (L ++ [45] ++ [dgt f, dgt g] ++ T) = L.length ∧ rdN 4 (L ++ [45] ++ [dgt f, dgt g] ++ T) 0 = q ∧ dg (L ++ [45] ++ [dgt f, dgt g] ++ T) (L.length + 1) = f ∧ dg (L ++ [45] ++ [dgt f, dgt g] ++ T) (L.length + 2) = g ∧
    Lib.cut (L ++ [45] ++ [dgt f, dgt g]) [45] = (L, [dgt f, dgt g], true) ∧ atI L = some (q : Int) := by
  have c1 := dgt_ne hf
  have c2 := dgt_ne hg
  cases hL with
  | one a ha e =>
    have d1 := dgt_ne ha
    refine ⟨?_, ?_, ?_, ?_, ?_, ?_⟩
    · simp [rdK, isD_dgt ha, isD_minus]
    · simp [rdN, isD_dgt ha, isD_minus, val_dgt ha, e]
    · simp [dg, isD_dgt hf, val_dgt hf]
    · simp [dg, isD_dgt hg, val_dgt hg]
    · simp [Lib.cut, Lib.index, List.isPrefixOf, d1.1]
    · rw [e]; exact at_dgt [] a ha (by omega) (pu_nil a)
  | two a b ha hb e =>
    have d1 := dgt_ne ha
    have d2 := dgt_ne hb
    refine ⟨?_, ?_, ?_, ?_, ?_, ?_⟩
    · simp [rdK, isD_dgt ha, isD_dgt hb, isD_minus]
    · simp [rdN, isD_dgt ha, isD_dgt hb, isD_minus, val_dgt ha, val_dgt hb, e]
    · simp [dg, isD_dgt hf, val_dgt hf]
    · simp [dg, isD_dgt hg, val_dgt hg]
    · simp [Lib.cut, Lib.index, List.isPrefixOf, d1.1, d2.1]
    · rw [e]; exact at_dgt [dgt b] (10 * a + b) ha (by omega) (by rw [pu_dgt [] hb (by omega), Nat.mul_comm]; exact pu_nil _)
  | three a b c ha hb hc e =>
    have d1 := dgt_ne ha
    have d2 := dgt_ne hb
    have d3 := dgt_ne hc
    refine ⟨?_, ?_, ?_, ?_, ?_, ?_⟩
    · simp [rdK, isD_dgt ha, isD_dgt hb, isD_dgt hc, isD_minus]
    · simp [rdN, isD_dgt ha, isD_dgt hb, isD_dgt hc, isD_minus, val_dgt ha, val_dgt hb, val_dgt hc, e]
      omega
    · simp [dg, isD_dgt hf, val_dgt hf]
    · simp [dg, isD_dgt hg, val_dgt hg]
    · simp [Lib.cut, Lib.index, List.isPrefixOf, d1.1, d2.1, d3.1]
    · rw [e]; exact at_dgt [dgt b, dgt c] (100 * a + 10 * b + c) ha (by omega) (by
        rw [pu_dgt [dgt c] hb (by omega), pu_dgt [] hc (by omega), show (a * 10 + b) * 10 + c = 100 * a + 10 * b + c by omega]; exact pu_nil _)
theorem two_q {f g : Nat} (hf : f < 10) (hg : g < 10) : atI [dgt f, dgt g] = some ((10 * f + g : Nat) : Int) :=
  at_dgt [dgt g] (10 * f + g) hf (by omega) (by rw [pu_dgt [] hg (by omega), Nat.mul_comm]; exact pu_nil _)
theorem suf_yes (L : List UInt8) : Lib.hasSuffix (L ++ [43]) [43] = true ∧ Lib.trimSuffix (L ++ [43]) [43] = L := by
  have h : Lib.hasSuffix (L ++ [43]) [43] = true := by
    unfold Lib.hasSuffix
    rw [List.isSuffixOf_iff_suffix]
    exact List.suffix_append _ _
  refine ⟨h, ?_⟩
  unfold Lib.trimSuffix
  rw [if_pos h]
  simp
theorem suf_no (L : List UInt8) (c : UInt8) (hc : c ≠ 43) : Lib.hasSuffix (L ++ [c]) [43] = false ∧ Lib.trimSuffix (L ++ [c]) [43] = L ++ [c] := by
  have h : Lib.hasSuffix (L ++ [c]) [43] = false := by
    unfold Lib.hasSuffix
    rw [Bool.eq_false_iff]
    intro k
    rw [List.isSuffixOf_iff_suffix] at k
    obtain ⟨t, ht⟩ := k
    have := congrArg List.getLast? ht
    simp at this
    exact hc this.symm
  refine ⟨h, ?_⟩
  unfold Lib.trimSuffix
  rw [h]
  simp
theorem both_read {n : Nat} (hn : n ≤ 19200) : rq (qtx n) = n ∧ imQ (qtx n) = n ∧ inR (n : Int) 0 19200 = true ∧ qtx n ≠ [] ∧ 4 ≤ (qtx n).length ∧ (qtx n).length ≤ 7 := by
  have hL := digs (q := n / 64) (by omega)
  have hf : n % 64 / 2 / 10 < 10 := by omega
  have hg : n % 64 / 2 % 10 < 10 := by omega
  have hin : inR (n : Int) 0 19200 = true := inR_yes (by omega)
  have hq0 : qt0 n = Lib.decDigits (n / 64) ++ [45] ++ [dgt (n % 64 / 2 / 10), dgt (n % 64 / 2 % 10)] := by
    unfold qt0
    rw [twoD_two (show n % 64 / 2 < 100 by omega)]
    rfl
  have hlen : 1 ≤ (Lib.decDigits (n / 64)).length ∧ (Lib.decDigits (n / 64)).length ≤ 3 := by
    exact hL.len
  have hqt : quoteTx (n : Int) = qtx n := by unfold quoteTx; rw [if_pos hin, Int.toNat_natCast]
  have hqt' := hqt
  by_cases hp : n % 2 = 1
  · obtain ⟨a1, a2, a3, a4, a5, a6⟩ := read_q hL hf hg [43] (.inr rfl)
    have e : qtx n = Lib.decDigits (n / 64) ++ [45] ++ [dgt (n % 64 / 2 / 10), dgt (n % 64 / 2 % 10)] ++ [43] := by unfold qtx; rw [if_pos hp, hq0]
    rw [e] at hqt ⊢
    obtain ⟨s1, s2⟩ := suf_yes (Lib.decDigits (n / 64) ++ [45] ++ [dgt (n % 64 / 2 / 10), dgt (n % 64 / 2 % 10)])
    have hN : imN (Lib.decDigits (n / 64) ++ [45] ++ [dgt (n % 64 / 2 / 10), dgt (n % 64 / 2 % 10)] ++ [43]) ((n / 64 : Nat) : Int) ((10 * (n % 64 / 2 / 10) + n % 64 / 2 % 10 : Nat) : Int) = n := by
      unfold imN
      rw [if_pos s1]
      omega
    refine ⟨?_, ?_, hin, by simp, by simp <;> omega, by simp <;> omega⟩
    · unfold rq
      rw [a1, a2, a3, a4, if_neg (by omega), if_pos (by simp)]
      omega
    · unfold imQ imC
      rw [s2, a5]
      simp only
      rw [if_pos trivial, a6, two_q hf hg]
      simp only
      rw [hN, if_pos ⟨inR_yes (by omega), inR_yes (by omega), hqt⟩]
  · obtain ⟨a1, a2, a3, a4, a5, a6⟩ := read_q hL hf hg [] (.inl rfl)
    have e : qtx n = Lib.decDigits (n / 64) ++ [45] ++ [dgt (n % 64 / 2 / 10), dgt (n % 64 / 2 % 10)] := by unfold qtx; rw [if_neg hp, hq0]
    rw [List.append_nil] at a1 a2 a3 a4
    rw [e] at hqt ⊢
    have e2 : Lib.decDigits (n / 64) ++ [45] ++ [dgt (n % 64 / 2 / 10), dgt (n % 64 / 2 % 10)] = (Lib.decDigits (n / 64) ++ [45] ++ [dgt (n % 64 / 2 / 10)]) ++ [dgt (n % 64 / 2 % 10)] := by simp
    obtain ⟨s1, s2⟩ := suf_no (Lib.decDigits (n / 64) ++ [45] ++ [dgt (n % 64 / 2 / 10)]) (dgt (n % 64 / 2 % 10)) (dgt_ne hg).2.2
    rw [← e2] at s1 s2
    have hN : imN (Lib.decDigits (n / 64) ++ [45] ++ [dgt (n % 64 / 2 / 10), dgt (n % 64 / 2 % 10)]) ((n / 64 : Nat) : Int) ((10 * (n % 64 / 2 / 10) + n % 64 / 2 % 10 : Nat) : Int) = n := by
      unfold imN
      rw [s1, if_neg (by simp)]
      omega
    refine ⟨?_, ?_, hin, by simp, by simp <;> omega, by simp <;> omega⟩
    · unfold rq
      rw [a1, a2, a3, a4, if_neg (by omega), if_neg (by simp)]
      omega
    · unfold imQ imC
      rw [s2, a5]
      simp only
      rw [if_pos trivial, a6, two_q hf hg]
      simp only
      rw [hN, if_pos ⟨inR_yes (by omega), inR_yes (by omega), hqt⟩]
theorem quote_of {n : Int} {l : List UInt8} (h : quoteTx n = l) (hl : l ≠ []) : inR n 0 19200 = true ∧ qtx n.toNat = l := by
  unfold quoteTx at h
  split at h
  · rename_i k
    exact ⟨k, h⟩
  · exact absurd h.symm hl
theorem cut_nil : (Lib.cut [] [45]).2.2 = false := by decide
theorem quote_same (l : List UInt8) : imQ l = spQ l := by
  have key : ∀ n : Int, inR n 0 19200 = true → qtx n.toNat = l → imQ l = n ∧ spQ l = n := by
    intro n hn hl
    obtain ⟨n0, n1⟩ := inR_true.1 hn
    obtain ⟨b1, b2, b3, _⟩ := both_read (n := n.toNat) (by omega)
    rw [hl] at b1 b2
    have e : ((n.toNat : Nat) : Int) = n := by omega
    rw [e] at b1 b2
    refine ⟨b2, ?_⟩
    unfold spQ
    rw [b1, if_pos ⟨hn, hl⟩]
  by_cases hs : inR (rq l) 0 19200 = true ∧ qtx (rq l).toNat = l
  · obtain ⟨k1, k2⟩ := key _ hs.1 hs.2
    rw [k1, k2]
  · have e : spQ l = -1 := by unfold spQ; rw [if_neg hs]
    rw [e]
    unfold imQ
    split
    · rename_i hc
      split
      · rename_i a b ha hb
        split
        · rename_i hh
          obtain ⟨h1, h2, h3⟩ := hh
          have hl : l ≠ [] := by
            intro h
            rw [h] at hc
            have e2 : imC [] = Lib.cut [] [45] := by decide
            rw [e2, cut_nil] at hc
            cases hc
          obtain ⟨q1, q2⟩ := quote_of h3 hl
          have := (key _ q1 q2).2
          rw [e] at this
          obtain ⟨q3, _⟩ := inR_true.1 q1
          omega
        · rfl
      · rfl
    · rfl
end Go.Proofs.YtoecdlemoimacaaDoor
