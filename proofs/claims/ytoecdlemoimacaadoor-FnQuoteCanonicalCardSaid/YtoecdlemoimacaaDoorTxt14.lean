/- The laws over quotes as texts: the draw of a text; prices have one quote. -/
import Derived.Test.YtoecdlemoimacaaDoorTxt13
namespace Go.Proofs.YtoecdlemoimacaaDoor
open Go.RowKit
set_option linter.unusedVariables false
/-- short texts in a block -/
def StrsIn (w : World) (b n : Nat) : Prop := ∀ i, i < n → ∃ l : List UInt8, l.length ≤ 2 ∧ w.cell? ⟨b, i, none⟩ = some (.string ⟨l.toArray⟩)
theorem StrsIn.keep {w w' : World} {b n R : Nat} (h : StrsIn w b n) (k : Keep R w w') (hb : b < w.heap.size) (hr : b ≠ R) : StrsIn w' b n := fun i hi => by
  obtain ⟨z, z0, hz⟩ := h i hi
  exact ⟨z, z0, by rw [k.cell hb hr]; exact hz⟩
theorem strsIn_lit (w : World) (xs : List (List UInt8)) (T : TypeId) (m : Nat × Nat) (b n : Nat) (hn : n = xs.length) (hb : b = w.heap.size) (h : ∀ x ∈ xs, x.length ≤ 2) : StrsIn (w.alloc (.cells (xs.map (fun l => Value.string ⟨l.toArray⟩)).toArray T m)) b n := fun i hi => by
  subst hb
  subst hn
  refine ⟨xs[i], h _ (List.getElem_mem hi), ?_⟩
  rw [World.cell?_alloc_mark]
  simp [hi]
def OfPost (R : Nat) (K : Int) (w : World) (e : Ending) (w' : World) : Prop :=
  ∃ l : List UInt8, e = .returned (.string ⟨l.toArray⟩) ∧ l.length ≤ 2 ∧ Keep R w w' ∧ Rd w' R (K + 1)
set_option maxHeartbeats 400000 in
theorem of_any (b n c : Nat) (R : Nat) (K : Int) (w : World) (hl : StrsIn w b n) (hn : 1 ≤ n) (hn' : n ≤ 1000000000) (hb : b < w.heap.size) (hr : b ≠ R) (hR : R < w.heap.size) (hK : 0 ≤ K) (hK' : K ≤ 1000000000) (hrd : Rd w R K) :
    Calls Tryd.prog 52 #[.pointer (some ⟨R, 0, none⟩), .slice (some ⟨b, 0, none⟩) n c] w (OfPost R K w) := by
  have H := Lib.hid hrd
  clear hrd
  go_enter Tryd.func52, Tryd.ntmps52
  go_wp2_with fail
  refine (pick_any (n : Int) R K w hR hK hK' (by omega) (by omega) H.out).mono ?_
  rintro e w1 ⟨x, rfl, x0, x1, k, hrd1⟩
  obtain ⟨z, z0, hz⟩ := (hl.keep k hb hr) x.toNat (by omega)
  have hx : x < (n : Int) := by omega
  have H1 := Lib.hid hrd1
  have K1 := Lib.hid k
  clear hrd1 k
  go_wp2
  go_ret
  exact ⟨z, rfl, z0, K1.out, H1.out⟩
def MuPost (L R : Nat) (K : Int) (w : World) (e : Ending) (w' : World) : Prop :=
  ∃ s : ByteArray, e = .returned (.string s) ∧ s.size ≤ L + 2 ∧ Keep R w w' ∧ Rd w' R (K + 3)
theorem lit_take (l : List UInt8) (k : Nat) : (ByteArray.mk l.toArray).extract 0 k = ⟨(l.take k).toArray⟩ := by
  rw [ByteArray.extract_mk]
  simp
theorem lit_drop (l : List UInt8) (k : Nat) : (ByteArray.mk l.toArray).extract k l.length = ⟨(l.drop k).toArray⟩ := by
  rw [ByteArray.extract_mk]
  simp
  rw [List.take_of_length_le (by rw [List.length_drop]; omega)]
set_option maxHeartbeats 4000000 in
theorem mutate_any (l : List UInt8) (hl : l.length ≤ 50) (R : Nat) (K : Int) (w : World) (hR : R < w.heap.size) (hK : 0 ≤ K) (hK' : K ≤ 800000) (hrd : Rd w R K) :
    Calls Tryd.prog 36 #[.pointer (some ⟨R, 0, none⟩), .string ⟨l.toArray⟩] w (MuPost l.length R K w) := by
  have HR := Lib.hid hrd
  clear hrd
  have HB := Lib.hid (KB.refl w.heap.size R w)
  have hRw : R < w.heap.size := hR
  have w1 : IntKind.i64.wrap ((l.length : Int) + 1) = (l.length : Int) + 1 := IntWalk.i64_in _ (by omega)
  have hsz := size_lit l
  go_enter Tryd.func36, Tryd.ntmps36
  go_wp2_with fail
  refine (pick_any _ _ _ _ (by first | exact hR | omega | (simp; done) | (simp; omega)) (by omega) (by omega) (by omega) (by omega) (Rd.fwd HR.out (by repeat (first | exact Below.refl _ _ | refine Below.drew ?_ | refine bel_drewN _ ?_ | refine Below.alloc ?_ (by first | omega | (simp; done) | (simp; omega)) _ | refine Below.setCell ?_ (by first | (show _ ≤ _; omega) | (simp; done) | (simp; omega)) _)))).mono ?_
  rintro e v1 ⟨x, rfl, x0, x1, k, r⟩
  have x2 : x ≤ (l.length:Int) := by omega
  clear x1
  have HBq : KB (w.heap.size) (R) w v1 := KB.callee (Nat.le_refl _) (by repeat (first | exact KB.refl _ _ _ | exact HB.out | refine KB.drew ?_ | refine KB.drewN ?_ | refine KB.alloc (Nat.le_refl _) ?_ _ | refine KB.setCell ?_ (by first | (show _ ≤ _; omega) | (simp; done) | (simp; omega)) _)) k
  have HB := Lib.hid HBq
  clear HBq
  have hR : R < v1.heap.size := Nat.lt_of_lt_of_le (by first | exact hR | omega | (simp; done) | (simp; omega)) k.size
  have HR := Lib.hid r
  have hszv1 := k.size
  try simp at hszv1
  clear r k
  go_wp2_with fail
  refine (pick_any _ _ _ _ (by first | exact hR | omega | (simp; done) | (simp; omega)) (by omega) (by omega) (by omega) (by omega) (Rd.fwd HR.out (by repeat (first | exact Below.refl _ _ | refine Below.drew ?_ | refine bel_drewN _ ?_ | refine Below.alloc ?_ (by first | omega | (simp; done) | (simp; omega)) _ | refine Below.setCell ?_ (by first | (show _ ≤ _; omega) | (simp; done) | (simp; omega)) _)))).mono ?_
  rintro e v2 ⟨z, rfl, z0, z1, k, r⟩
  have z2 : z ≤ 4 := by omega
  clear z1
  have HBq : KB (w.heap.size) (R) w v2 := KB.callee (Nat.le_refl _) (by repeat (first | exact KB.refl _ _ _ | exact HB.out | refine KB.drew ?_ | refine KB.drewN ?_ | refine KB.alloc (Nat.le_refl _) ?_ _ | refine KB.setCell ?_ (by first | (show _ ≤ _; omega) | (simp; done) | (simp; omega)) _)) k
  have HB := Lib.hid HBq
  clear HBq
  have hR : R < v2.heap.size := Nat.lt_of_lt_of_le (by first | exact hR | omega | (simp; done) | (simp; omega)) k.size
  have HR := Lib.hid r
  have hszv2 := k.size
  try simp at hszv2
  clear r k
  obtain ⟨k, rfl⟩ : ∃ k : Nat, x = k := ⟨x.toNat, by omega⟩
  by_cases hz0 : z = 0
  · subst hz0
    by_cases hk : k < l.length
    · have d1 : (k : Int) < (l.length : Int) := by omega
      have w2 : IntKind.i64.wrap ((k : Int) + 1) = (k : Int) + 1 := IntWalk.i64_in _ (by omega)
      have hs1 := lit_take l k
      have hs2 := lit_drop l (k + 1)
      have t1 : (l.take k).length ≤ 50 := by rw [List.length_take]; omega
      have t2 : (l.drop (k + 1)).length ≤ 50 := by rw [List.length_drop]; omega
      have t3 : (l.take k).length + (l.drop (k + 1)).length ≤ l.length := by rw [List.length_take, List.length_drop]; omega
      have b1 : (0 : Int) ≤ (k : Int) ∧ (k : Int) ≤ (l.length : Int) := by omega
      have b2 : (0 : Int) ≤ (k : Int) + 1 ∧ (k : Int) + 1 ≤ (l.length : Int) := by omega
      have HT3 := Lib.hid t3
      clear t3
      go_wp2_with fail
      go_region_with (
        go_at_call 52
        refine (of_any _ 8 _ R (K + 1 + 1) _ (by exact strsIn_lit _ [[48], [49], [32], [45], [43], [97], [46], [57]] _ _ _ _ rfl (by first | (simp; done) | (simp; omega) | omega) (by decide)) (by omega) (by omega) (by first | omega | (simp; done) | (simp; omega)) (by first | omega | (simp; omega)) (by first | exact hR | omega | (simp; done) | (simp; omega)) (by omega) (by omega) (Rd.fwd HR.out (by repeat (first | exact Below.refl _ _ | refine Below.drew ?_ | refine bel_drewN _ ?_ | refine Below.alloc ?_ (by first | omega | (simp; done) | (simp; omega)) _ | refine Below.setCell ?_ (by first | (show _ ≤ _; omega) | (simp; done) | (simp; omega)) _)))).mono ?_
        rintro e v3 ⟨o, rfl, o0, k3, r3⟩
        have c1 := fun W => cat_lit (l.take k) o (by omega) (by omega) W
        have c2 := fun W => cat_lit (l.take k ++ o) (l.drop (k + 1)) (by rw [List.length_append]; omega) (by omega) W
        )
      all_goals
        have HBq : KB w.heap.size R w v3 := KB.callee (Nat.le_refl _) (by repeat (first | exact KB.refl _ _ _ | exact HB.out | refine KB.drew ?_ | refine KB.drewN ?_ | refine KB.alloc (Nat.le_refl _) ?_ _ | refine KB.setCell ?_ (by first | (show _ ≤ _; omega) | (simp; done) | (simp; omega)) _)) k3
        have HB := Lib.hid HBq
        have HR := Lib.hid r3
        clear HBq k3 r3
        go_wp2
        go_ret
        refine ⟨_, rfl, ?_, KB.keep (by repeat (first | exact KB.refl _ _ _ | exact HB.out | refine KB.drew ?_ | refine KB.drewN ?_ | refine KB.alloc (Nat.le_refl _) ?_ _ | refine KB.setCell ?_ (by first | (show _ ≤ _; omega) | (simp; done) | (simp; omega)) _)), Rd.mono (Rd.fwd HR.out (by repeat (first | exact Below.refl _ _ | refine Below.drew ?_ | refine bel_drewN _ ?_ | refine Below.alloc ?_ (by first | omega | (simp; done) | (simp; omega)) _ | refine Below.setCell ?_ (by first | (show _ ≤ _; omega) | (simp; done) | (simp; omega)) _))) (by omega)⟩
        rw [size_lit]
        have := HT3.out
        simp only [List.length_append]
        omega
    · have d1 : ¬ (k : Int) < (l.length : Int) := by omega
      go_wp2
      go_ret
      exact ⟨_, rfl, by rw [hsz]; omega, KB.keep (by repeat (first | exact KB.refl _ _ _ | exact HB.out | refine KB.drew ?_ | refine KB.drewN ?_ | refine KB.alloc (Nat.le_refl _) ?_ _ | refine KB.setCell ?_ (by first | (show _ ≤ _; omega) | (simp; done) | (simp; omega)) _)), Rd.mono (Rd.fwd HR.out (by repeat (first | exact Below.refl _ _ | refine Below.drew ?_ | refine bel_drewN _ ?_ | refine Below.alloc ?_ (by first | omega | (simp; done) | (simp; omega)) _ | refine Below.setCell ?_ (by first | (show _ ≤ _; omega) | (simp; done) | (simp; omega)) _))) (by omega)⟩
  · have hz0' : (z == 0) = false := by simpa using hz0
    by_cases hz1 : z = 1
    · subst hz1
      have hs1 := lit_take l k
      go_wp2
      go_ret
      refine ⟨_, rfl, ?_, KB.keep (by repeat (first | exact KB.refl _ _ _ | exact HB.out | refine KB.drew ?_ | refine KB.drewN ?_ | refine KB.alloc (Nat.le_refl _) ?_ _ | refine KB.setCell ?_ (by first | (show _ ≤ _; omega) | (simp; done) | (simp; omega)) _)), Rd.mono (Rd.fwd HR.out (by repeat (first | exact Below.refl _ _ | refine Below.drew ?_ | refine bel_drewN _ ?_ | refine Below.alloc ?_ (by first | omega | (simp; done) | (simp; omega)) _ | refine Below.setCell ?_ (by first | (show _ ≤ _; omega) | (simp; done) | (simp; omega)) _))) (by omega)⟩
      first
        | (rw [size_lit, List.length_take]; omega)
        | (rw [hs1, size_lit, List.length_take]; omega)
    · have hz1' : (z == 1) = false := by simpa using hz1
      by_cases hz2 : z = 2
      · subst hz2
        go_wp2_with fail
        refine (of_any _ 6 _ R (K + 1 + 1) _ (by exact strsIn_lit _ [[48], [32], [45], [32, 54], [120], [50]] _ _ _ _ rfl (by first | (simp; done) | (simp; omega) | omega) (by decide)) (by omega) (by omega) (by first | omega | (simp; done) | (simp; omega)) (by first | omega | (simp; omega)) (by first | exact hR | omega | (simp; done) | (simp; omega)) (by omega) (by omega) (Rd.fwd HR.out (by repeat (first | exact Below.refl _ _ | refine Below.drew ?_ | refine bel_drewN _ ?_ | refine Below.alloc ?_ (by first | omega | (simp; done) | (simp; omega)) _ | refine Below.setCell ?_ (by first | (show _ ≤ _; omega) | (simp; done) | (simp; omega)) _)))).mono ?_
        rintro e v3 ⟨o, rfl, o0, k3, r3⟩
        have c1 := fun W => cat_lit l o (by omega) (by omega) W
        have HBq : KB w.heap.size R w v3 := KB.callee (Nat.le_refl _) (by repeat (first | exact KB.refl _ _ _ | exact HB.out | refine KB.drew ?_ | refine KB.drewN ?_ | refine KB.alloc (Nat.le_refl _) ?_ _ | refine KB.setCell ?_ (by first | (show _ ≤ _; omega) | (simp; done) | (simp; omega)) _)) k3
        have HB := Lib.hid HBq
        have HR := Lib.hid r3
        clear HBq k3 r3
        go_wp2
        go_ret
        refine ⟨_, rfl, ?_, KB.keep (by repeat (first | exact KB.refl _ _ _ | exact HB.out | refine KB.drew ?_ | refine KB.drewN ?_ | refine KB.alloc (Nat.le_refl _) ?_ _ | refine KB.setCell ?_ (by first | (show _ ≤ _; omega) | (simp; done) | (simp; omega)) _)), Rd.mono (Rd.fwd HR.out (by repeat (first | exact Below.refl _ _ | refine Below.drew ?_ | refine bel_drewN _ ?_ | refine Below.alloc ?_ (by first | omega | (simp; done) | (simp; omega)) _ | refine Below.setCell ?_ (by first | (show _ ≤ _; omega) | (simp; done) | (simp; omega)) _))) (by omega)⟩
        rw [size_lit, List.length_append]
        omega
      · have hz2' : (z == 2) = false := by simpa using hz2
        go_wp2
        go_ret
        exact ⟨_, rfl, by rw [hsz]; omega, KB.keep (by repeat (first | exact KB.refl _ _ _ | exact HB.out | refine KB.drew ?_ | refine KB.drewN ?_ | refine KB.alloc (Nat.le_refl _) ?_ _ | refine KB.setCell ?_ (by first | (show _ ≤ _; omega) | (simp; done) | (simp; omega)) _)), Rd.mono (Rd.fwd HR.out (by repeat (first | exact Below.refl _ _ | refine Below.drew ?_ | refine bel_drewN _ ?_ | refine Below.alloc ?_ (by first | omega | (simp; done) | (simp; omega)) _ | refine Below.setCell ?_ (by first | (show _ ≤ _; omega) | (simp; done) | (simp; omega)) _))) (by omega)⟩
def DrawS (w : World) (e : Ending) (w' : World) : Prop :=
  ∃ s : ByteArray, e = .returned (.string s) ∧ s.size ≤ 1000 ∧ Below w.heap.size w w'
theorem quoteTx_len (n : Int) : (quoteTx n).length ≤ 50 := by
  unfold quoteTx
  split
  · rename_i h
    obtain ⟨h0, h1⟩ := inR_true.1 h
    have := (both_read (n := n.toNat) (by omega)).2.2.2.2.2
    omega
  · simp
set_option maxHeartbeats 1000000 in
theorem drawParseQuote_any (a : Option Addr) (len cap : Nat) (w : World) (hlc : len ≤ cap) (hc : cap ≤ maxLen) (h : IsBytes w a len) :
    Calls Tryd.prog 14 #[.slice a len cap] w (DrawS w) := by
  have H := Lib.hid h
  clear h
  go_enter Tryd.func14, Tryd.ntmps14
  go_wp2_with fail
  refine (newReader_any _ _ _ _ hlc hc (by repeat (first | exact H.out | refine IsBytes.alloc ?_ _))).mono ?_
  rintro e v1 ⟨rfl, hb, hrd, hszv1⟩
  try simp at hszv1
  replace hszv1 : w.heap.size + 1 ≤ v1.heap.size := by omega
  have hR : w.heap.size < v1.heap.size := by omega
  have hrdq : Rd v1 (w.heap.size) 0 := by simpa using hrd
  have HR := Lib.hid hrdq
  have HBq : KB (w.heap.size) (w.heap.size) w v1 := KB.quiet (Nat.le_refl _) (by repeat (first | exact KB.refl _ _ _ | exact HB.out | refine KB.drew ?_ | refine KB.drewN ?_ | refine KB.alloc (Nat.le_refl _) ?_ _ | refine KB.setCell ?_ (by first | (show _ ≤ _; omega) | (simp; done) | (simp; omega)) _)) hb
  have HB := Lib.hid HBq
  clear hrd hrdq HBq hb
  go_wp2_with fail
  refine (anyQuote_any _ _ _ (by first | exact hR | omega | (simp; done) | (simp; omega)) (by omega) (by omega) (Rd.fwd HR.out (by repeat (first | exact Below.refl _ _ | refine Below.drew ?_ | refine bel_drewN _ ?_ | refine Below.alloc ?_ (by first | omega | (simp; done) | (simp; omega)) _ | refine Below.setCell ?_ (by first | (show _ ≤ _; omega) | (simp; done) | (simp; omega)) _)))).mono ?_
  rintro e v2 ⟨x, rfl, hx, k, r⟩
  have HBq : KB (w.heap.size) (w.heap.size) w v2 := KB.callee (Nat.le_refl _) (by repeat (first | exact KB.refl _ _ _ | exact HB.out | refine KB.drew ?_ | refine KB.drewN ?_ | refine KB.alloc (Nat.le_refl _) ?_ _ | refine KB.setCell ?_ (by first | (show _ ≤ _; omega) | (simp; done) | (simp; omega)) _)) k
  have HB := Lib.hid HBq
  clear HBq
  have hR : w.heap.size < v2.heap.size := Nat.lt_of_lt_of_le (by first | exact hR | omega | (simp; done) | (simp; omega)) k.size
  have HR := Lib.hid r
  have hszv2 := k.size
  try simp at hszv2
  clear r k
  have hlq := quoteTx_len x
  have HF := Lib.hid (fun W => fmtQuoteS_any x W)
  generalize quoteTx x = l at *
  go_wp2_with fail
  refine (HF.out _).mono ?_
  rintro e v3 ⟨rfl, hb⟩
  have HR := Lib.hid (Rd.fwd HR.out (Below.trans (by repeat (first | exact Below.refl _ _ | refine Below.drew ?_ | refine bel_drewN _ ?_ | refine Below.alloc ?_ (by first | omega | (simp; done) | (simp; omega)) _ | refine Below.setCell ?_ (by first | (show _ ≤ _; omega) | (simp; done) | (simp; omega)) _)) (hb.mono (by first | exact hR | omega | (simp; done) | (simp; omega)))))
  have HBq : KB (w.heap.size) (w.heap.size) w v3 := KB.quiet (Nat.le_refl _) (by repeat (first | exact KB.refl _ _ _ | exact HB.out | refine KB.drew ?_ | refine KB.drewN ?_ | refine KB.alloc (Nat.le_refl _) ?_ _ | refine KB.setCell ?_ (by first | (show _ ≤ _; omega) | (simp; done) | (simp; omega)) _)) hb
  have HB := Lib.hid HBq
  clear HBq
  have hR := Nat.lt_of_lt_of_le (show _ < _ from by first | exact hR | omega | (simp; done) | (simp; omega)) hb.size
  clear hb
  go_wp2_with fail
  refine (pick_any _ _ _ _ (by first | exact hR | omega | (simp; done) | (simp; omega)) (by omega) (by omega) (by omega) (by omega) (Rd.fwd HR.out (by repeat (first | exact Below.refl _ _ | refine Below.drew ?_ | refine bel_drewN _ ?_ | refine Below.alloc ?_ (by first | omega | (simp; done) | (simp; omega)) _ | refine Below.setCell ?_ (by first | (show _ ≤ _; omega) | (simp; done) | (simp; omega)) _)))).mono ?_
  rintro e v4 ⟨z, rfl, z0, z1, k, r⟩
  have z2 : z ≤ 2 := by omega
  clear z1
  have HBq : KB (w.heap.size) (w.heap.size) w v4 := KB.callee (Nat.le_refl _) (by repeat (first | exact KB.refl _ _ _ | exact HB.out | refine KB.drew ?_ | refine KB.drewN ?_ | refine KB.alloc (Nat.le_refl _) ?_ _ | refine KB.setCell ?_ (by first | (show _ ≤ _; omega) | (simp; done) | (simp; omega)) _)) k
  have HB := Lib.hid HBq
  clear HBq
  have hR : w.heap.size < v4.heap.size := Nat.lt_of_lt_of_le (by first | exact hR | omega | (simp; done) | (simp; omega)) k.size
  have HR := Lib.hid r
  have hszv4 := k.size
  try simp at hszv4
  clear r k
  by_cases hz : z = 0
  · subst hz
    go_wp2_with fail
    refine (mutate_any l hlq w.heap.size (0 + 3 + 1) v4 hR (by omega) (by omega) HR.out).mono ?_
    rintro e v5 ⟨s, rfl, hs, k, r⟩
    have HBq : KB w.heap.size w.heap.size w v5 := KB.callee (Nat.le_refl _) (by repeat (first | exact KB.refl _ _ _ | exact HB.out | refine KB.drew ?_ | refine KB.drewN ?_ | refine KB.alloc (Nat.le_refl _) ?_ _ | refine KB.setCell ?_ (by first | (show _ ≤ _; omega) | (simp; done) | (simp; omega)) _)) k
    have HB := Lib.hid HBq
    clear HBq k r
    go_wp2
    go_ret
    exact ⟨s, rfl, by omega, KB.below (R := w.heap.size) (by repeat (first | exact KB.refl _ _ _ | exact HB.out | refine KB.drew ?_ | refine KB.drewN ?_ | refine KB.alloc (Nat.le_refl _) ?_ _ | refine KB.setCell ?_ (by first | (show _ ≤ _; omega) | (simp; done) | (simp; omega)) _)) (by omega)⟩
  · have hz' : (z == 0) = false := by simpa using hz
    go_wp2
    go_ret
    exact ⟨_, rfl, by rw [size_lit]; omega, KB.below (R := w.heap.size) (by repeat (first | exact KB.refl _ _ _ | exact HB.out | refine KB.drew ?_ | refine KB.drewN ?_ | refine KB.alloc (Nat.le_refl _) ?_ _ | refine KB.setCell ?_ (by first | (show _ ≤ _; omega) | (simp; done) | (simp; omega)) _)) (by omega)⟩
theorem imQ_text {l : List UInt8} (h : 0 ≤ imQ l) : quoteTx (imQ l) = l := by
  have e : imQ l = spQ l := quote_same l
  rw [e] at h ⊢
  unfold spQ at *
  split at h
  · rename_i k
    rw [if_pos k]
    unfold quoteTx
    rw [if_pos k.1]
    exact k.2
  · omega
set_option maxHeartbeats 2000000 in
theorem fnQuoteCanonical_walk (a : Option Addr) (len cap : Nat) (w : World) (hT : PT w) (hQ : QV w) (hlc : len ≤ cap) (hc : cap ≤ maxLen) (h : IsBytes w a len) :
    Calls Tryd.prog 5 #[.slice a len cap] w fun e w' => e = .returned (.bool true) ∧ Below w.heap.size w w' := by
  by_cases hbig : 1048576 < len
  · exact big_FnQuoteCanonical a len cap w hlc hc hbig
  have HT := Lib.hid hT
  have HQ := Lib.hid hQ
  have H := Lib.hid h
  clear h hT hQ
  go_enter Tryd.func5, Tryd.ntmps5
  have HB := Lib.hid (Below.refl w.heap.size w)
  go_wp2_with fail
  refine (drawParseQuote_any _ _ _ _ hlc hc H.out).mono ?_
  rintro e w1 ⟨s, rfl, hs, hb⟩
  have hszw1 := below_size hb
  try simp at hszw1
  have HBq : Below w.heap.size w w1 := Below.trans (by repeat (first | exact Below.refl _ _ | exact HB.out | refine Below.drew ?_ | refine bel_drewN _ ?_ | refine Below.alloc ?_ (by first | omega | (simp; done) | (simp; omega)) _ | refine Below.setCell ?_ (by first | (show _ ≤ _; omega) | (simp; done) | (simp; omega)) _)) (hb.mono (by first | omega | (simp; done) | (simp; omega)))
  have HB := Lib.hid HBq
  clear HBq hb
  obtain ⟨l, rfl⟩ : ∃ l : List UInt8, s = ⟨l.toArray⟩ := ⟨s.data.toList, by cases s; simp⟩
  rw [size_lit] at hs
  have HI := Lib.hid (fun W (a : PT W) (b : QV W) => parseQI_any l W (by omega) a b)
  have hS := fun W => parseQS_any l W (by omega)
  rw [← quote_same l] at hS
  have HS := Lib.hid hS
  have hF := fun W (k : PT W) => fmtQuoteI_any (imQ l) W k
  have hN : imQ l < 0 ∨ (0 ≤ imQ l ∧ quoteTx (imQ l) = l) := by
    by_cases h : imQ l < 0
    · exact .inl h
    · exact .inr ⟨by omega, imQ_text (by omega)⟩
  have HF := Lib.hid hF
  have HN := Lib.hid hN
  clear hS hF hN hs
  generalize quoteTx (imQ l) = S at *
  generalize imQ l = V at *
  rcases HN.out with hn | ⟨hn, rfl⟩
  · have d1 : decide (V < 0) = true := decide_eq_true hn
    go_wp2_with fail
    refine (HI.out _ (HT.out.below HB.out) (HQ.out.below HB.out)).mono ?_
    rintro e w2 ⟨rfl, hb⟩
    have hszw2 := below_size hb
    try simp at hszw2
    have HBq : Below w.heap.size w w2 := Below.trans (by repeat (first | exact Below.refl _ _ | exact HB.out | refine Below.drew ?_ | refine bel_drewN _ ?_ | refine Below.alloc ?_ (by first | omega | (simp; done) | (simp; omega)) _ | refine Below.setCell ?_ (by first | (show _ ≤ _; omega) | (simp; done) | (simp; omega)) _)) (hb.mono (by first | omega | (simp; done) | (simp; omega)))
    have HB := Lib.hid HBq
    clear HBq hb
    go_wp2_with fail
    refine (HS.out _).mono ?_
    rintro e w3 ⟨rfl, hb⟩
    have hszw3 := below_size hb
    try simp at hszw3
    have HBq : Below w.heap.size w w3 := Below.trans (by repeat (first | exact Below.refl _ _ | exact HB.out | refine Below.drew ?_ | refine bel_drewN _ ?_ | refine Below.alloc ?_ (by first | omega | (simp; done) | (simp; omega)) _ | refine Below.setCell ?_ (by first | (show _ ≤ _; omega) | (simp; done) | (simp; omega)) _)) (hb.mono (by first | omega | (simp; done) | (simp; omega)))
    have HB := Lib.hid HBq
    clear HBq hb
    go_wp2
    go_ret
    exact ⟨rfl, HB.out⟩
  · have d1 : decide (V < 0) = false := decide_eq_false (by omega)
    go_wp2_with fail
    refine (HI.out _ (HT.out.below HB.out) (HQ.out.below HB.out)).mono ?_
    rintro e w2 ⟨rfl, hb⟩
    have hszw2 := below_size hb
    try simp at hszw2
    have HBq : Below w.heap.size w w2 := Below.trans (by repeat (first | exact Below.refl _ _ | exact HB.out | refine Below.drew ?_ | refine bel_drewN _ ?_ | refine Below.alloc ?_ (by first | omega | (simp; done) | (simp; omega)) _ | refine Below.setCell ?_ (by first | (show _ ≤ _; omega) | (simp; done) | (simp; omega)) _)) (hb.mono (by first | omega | (simp; done) | (simp; omega)))
    have HB := Lib.hid HBq
    clear HBq hb
    go_wp2_with fail
    refine (HS.out _).mono ?_
    rintro e w3 ⟨rfl, hb⟩
    have hszw3 := below_size hb
    try simp at hszw3
    have HBq : Below w.heap.size w w3 := Below.trans (by repeat (first | exact Below.refl _ _ | exact HB.out | refine Below.drew ?_ | refine bel_drewN _ ?_ | refine Below.alloc ?_ (by first | omega | (simp; done) | (simp; omega)) _ | refine Below.setCell ?_ (by first | (show _ ≤ _; omega) | (simp; done) | (simp; omega)) _)) (hb.mono (by first | omega | (simp; done) | (simp; omega)))
    have HB := Lib.hid HBq
    clear HBq hb
    go_wp2_with fail
    refine (HF.out _ (HT.out.below HB.out)).mono ?_
    rintro e w4 ⟨rfl, hb⟩
    have hszw4 := below_size hb
    try simp at hszw4
    have HBq : Below w.heap.size w w4 := Below.trans (by repeat (first | exact Below.refl _ _ | exact HB.out | refine Below.drew ?_ | refine bel_drewN _ ?_ | refine Below.alloc ?_ (by first | omega | (simp; done) | (simp; omega)) _ | refine Below.setCell ?_ (by first | (show _ ≤ _; omega) | (simp; done) | (simp; omega)) _)) (hb.mono (by first | omega | (simp; done) | (simp; omega)))
    have HB := Lib.hid HBq
    clear HBq hb
    go_wp2
    go_ret
    exact ⟨ret_bool (by first | rfl | simp), HB.out⟩
end Go.Proofs.YtoecdlemoimacaaDoor
