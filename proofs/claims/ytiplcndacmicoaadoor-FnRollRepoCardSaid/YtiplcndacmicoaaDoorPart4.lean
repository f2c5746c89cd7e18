/- Parts of years: the table of counts. -/
import Derived.Test.YtiplcndacmicoaaDoorPart3
import Derived.Maps.OwnSet
namespace Go.Proofs.YtiplcndacmicoaaDoor
open Go.RowKit
open Go.Maps
set_option linter.unusedVariables false
/-- 'm[k] = v' of a map literal, at the operation -/
theorem wpList_insert_own {H : Type} {P : Program} (w : World) {ops : Array Oper} {rest : List Oper} {o : Oper} {a : Act} {Q : Exit → Act → World → Prop}
    (hg : o.guard = none) (m x v : Operand) (t : TypeId) (hop : o.op = Op.insert t m x v)
    (k e : TypeId) (K : Keyed P k) (ht : P.underlying t = some (.map k e)) (R : Value → Option (DataW H × List MemPlace)) (b n : Nat) (D : DataW H)
    (hm : a.eval m = .map (some b)) (hown : w.ownsMap P k R b n D) (hn : n < maxLen) (key val : Value) (kl : Lit) (hx : a.eval x = key) (hv : a.eval v = val) (hkey : keyOf P k key = some kl)
    (d : DataW H) (ps : List MemPlace) (hval : R val = some (d, ps))
    (hK : ∀ w', w'.ownsMap P k R b (n + 1) (D.put kl d) → w.grownBy w' (some b) → wpList P ops Q rest (a.put o.dst undef) w') :
    wpList P ops Q (o :: rest) a w := by
  refine wpList_plain hg fun K' hK' => ?_
  obtain ⟨w', hrun, r1, r2⟩ := hown.update K ht hn hkey hval
  unfold Oper.wp
  simp [execOp, hop, hm, hx, hv, hrun, Result.andThen]
  exact hK' _ _ (hK w' r1 r2)
theorem overD_any (b : Nat) (den a c : Int) (w : World) (hc : w.cell? ⟨b, 0, none⟩ = some (.int .i64 den)) (ha : 0 ≤ a) (hac : a ≤ c) (hc2 : c ≤ 36524) (hd : 1 ≤ den) (hd' : den ≤ 1000) :
    Calls Tryd.prog 48 #[.int .i64 a, .int .i64 c, .pointer (some ⟨b, 0, none⟩)] w fun e w' => e = .returned (.tuple #[.agg #[.int .i64 (lowRes (c - a) den).1, .int .i64 (lowRes (c - a) den).2.1], .bool (lowRes (c - a) den).2.2]) ∧ Below w.heap.size w w' := by
  have hbl : b < w.heap.size := cell_lt hc
  go_enter Tryd.func48, Tryd.ntmps48
  have HB := Lib.hid (Below.refl w.heap.size w)
  go_wp2_with fail
  refine (lowestI_any _ den _ (by omega) (by omega) (by omega) (by omega)).mono ?_
  rintro e w1 ⟨rfl, hb⟩
  have r0_1 : w1.cell? ⟨w.heap.size, 0, none⟩ = some (.int .i64 0) := bc hb (by first | (simp; done) | go_simp)
  have rf0_1 : w1.frozen? ⟨w.heap.size, 0, none⟩ = false := bf hb (by first | (simp; done) | (simp; omega) | (show w.heap.size < _; omega)) (by first | (simp; done) | go_simp)
  have r1_1 : w1.cell? ⟨w.heap.size, 1, none⟩ = some (.int .i64 0) := bc hb (by first | (simp; done) | go_simp)
  have rf1_1 : w1.frozen? ⟨w.heap.size, 1, none⟩ = false := bf hb (by first | (simp; done) | (simp; omega) | (show w.heap.size < _; omega)) (by first | (simp; done) | go_simp)
  have rl_1 : w.heap.size < w1.heap.size := cell_lt r0_1
  have hszw1 := below_size hb
  try simp at hszw1
  have HBq : Below w.heap.size w w1 := Below.trans (by repeat (first | exact Below.refl _ _ | exact HB.out | refine Below.drew ?_ | refine bel_drewN _ ?_ | refine Below.alloc ?_ (by first | omega | (simp; done) | (simp; omega)) _ | refine Below.setCell ?_ (by first | (show _ ≤ _; omega) | (simp; done) | (simp; omega)) _)) (hb.mono (by first | omega | (simp; done) | (simp; omega)))
  have HB := Lib.hid HBq
  clear HBq hb
  go_wp2
  generalize lowRes (c - a) den = r
  exact bodyPost_ret (v := .tuple #[.agg #[.int .i64 r.1, .int .i64 r.2.1], .bool r.2.2]) (by simp [results, Tryd.results48, go_sem, *]) rfl ⟨rfl, (by repeat (first | exact Below.refl _ _ | exact HB.out | refine Below.drew ?_ | refine bel_drewN _ ?_ | refine Below.alloc ?_ (by first | omega | (simp; done) | (simp; omega)) _ | refine Below.setCell ?_ (by first | (show _ ≤ _; omega) | (simp; done) | (simp; omega)) _))⟩
theorem over_any (den : Int) (w : World) :
    Calls Tryd.prog 40 #[.int .i64 den] w fun e w' => e = .returned (.func (Fn.func 48) #[] #[.pointer (some ⟨w.heap.size, 0, none⟩)]) ∧ w' = w.alloc (.cells #[.int .i64 den] 3) := by
  go_enter Tryd.func40, Tryd.ntmps40
  go_wp2
  go_ret
  exact ⟨rfl, rfl⟩
theorem map_row : Tryd.prog.underlying 67 = some (.map 3 56) := by kernel_rfl
theorem int_row : Tryd.prog.underlying 3 = some (.int .i64) := by kernel_rfl
theorem fun_zero (w : World) : (zeroValue 56).run Tryd.prog w = .ok Value.nilFunc w := by kernel_rfl
def RF (v : Value) : Option (DataW Value × List MemPlace) := some (.held v, [])
theorem gcell {w w' : World} {r : Option Nat} (g : w.grownBy w' r) {a : Addr} {v : Value} (h : w.cell? a = some v) (hne : some a.block ≠ r) : w'.cell? a = some v := by
  have := g.block a.block (cell_lt h) hne
  simpa [World.cell?, this] using h
def tab (f0 f1 f2 f3 : Value) : DataW Value := ((((DataW.map []).put (.int .i64 0) (.held f0)).put (.int .i64 1) (.held f1)).put (.int .i64 2) (.held f2)).put (.int .i64 3) (.held f3)
theorem lit_ne {a b : Int} (h : a ≠ b) : (Lit.int .i64 a) ≠ .int .i64 b := by intro e; cases e; exact h rfl
theorem tab_has (f0 f1 f2 f3 : Value) (k : Int) : Maps.has (tab f0 f1 f2 f3) (.int .i64 k) = inR k 0 3 := by
  unfold tab
  by_cases h3 : k = 3
  · subst h3; first | rfl | decide | simp [Maps.has, DataW.put, DataW.insert, Lit.sameKey, inR]
  rw [has_put_other (lit_ne h3)]
  by_cases h2 : k = 2
  · subst h2; first | rfl | decide | simp [Maps.has, DataW.put, DataW.insert, Lit.sameKey, inR]
  rw [has_put_other (lit_ne h2)]
  by_cases h1 : k = 1
  · subst h1; first | rfl | decide | simp [Maps.has, DataW.put, DataW.insert, Lit.sameKey, inR]
  rw [has_put_other (lit_ne h1)]
  by_cases h0 : k = 0
  · subst h0; first | rfl | decide | simp [Maps.has, DataW.put, DataW.insert, Lit.sameKey, inR]
  rw [has_put_other (lit_ne h0), inR_no (by omega)]
  rfl
def tabF (f0 f1 f2 f3 : Value) (k : Int) : Value := if k = 3 then f3 else if k = 2 then f2 else if k = 1 then f1 else if k = 0 then f0 else Value.nilFunc
theorem tab_at (f0 f1 f2 f3 : Value) (k : Int) : (tab f0 f1 f2 f3).atKey (.int .i64 k) (.held Value.nilFunc) = .held (tabF f0 f1 f2 f3 k) := by
  unfold tab tabF
  by_cases h3 : k = 3
  · subst h3; first | rfl | simp [DataW.atKey, DataW.put, DataW.insert, Lit.sameKey]
  rw [atKey_put_other (lit_ne h3), if_neg h3]
  by_cases h2 : k = 2
  · subst h2; first | rfl | simp [DataW.atKey, DataW.put, DataW.insert, Lit.sameKey]
  rw [atKey_put_other (lit_ne h2), if_neg h2]
  by_cases h1 : k = 1
  · subst h1; first | rfl | simp [DataW.atKey, DataW.put, DataW.insert, Lit.sameKey]
  rw [atKey_put_other (lit_ne h1), if_neg h1]
  by_cases h0 : k = 0
  · subst h0; first | rfl | simp [DataW.atKey, DataW.put, DataW.insert, Lit.sameKey]
  rw [atKey_put_other (lit_ne h0), if_neg h0]
  rfl
/-- what countOf hands over -/
def CntF (k : Int) (f : Value) (w : World) : Prop :=
  (k = 0 → ∃ b, f = .func (Fn.func 48) #[] #[.pointer (some ⟨b, 0, none⟩)] ∧ w.cell? ⟨b, 0, none⟩ = some (.int .i64 365)) ∧
  (k = 1 → ∃ b, f = .func (Fn.func 48) #[] #[.pointer (some ⟨b, 0, none⟩)] ∧ w.cell? ⟨b, 0, none⟩ = some (.int .i64 360)) ∧
  (k = 2 → f = .func (Fn.func 41) #[] #[]) ∧ (k = 3 → f = .func (Fn.func 42) #[] #[])
set_option maxHeartbeats 1000000 in
theorem countOf_any (kind : Int) (w : World) (hk : (Lit.int .i64 kind).wf = true) :
    Calls Tryd.prog 33 #[.int .i64 kind] w fun e w' => ∃ f, e = .returned (.tuple #[f, .bool (inR kind 0 3)]) ∧ CntF kind f w' ∧ Below w.heap.size w w' := by
  have HK := Lib.hid hk
  clear hk
  have hmm := @run_makeMap Tryd.prog
  have law : Keyed Tryd.prog 3 := int_keyed int_row
  go_enter Tryd.func33, Tryd.ntmps33
  go_wp2_with fail
  refine (over_any _ _).mono ?_
  rintro e w1 ⟨rfl, rfl⟩
  go_wp2_with fail
  have o1 := (World.ownsMap_made w Tryd.prog 3 RF).alloc (.cells #[.int .i64 365] 3)
  obtain ⟨w2, r2, o2, g2⟩ := o1.update (key := .int .i64 0) (val := .func (Fn.func 48) #[] #[.pointer (some ⟨w.heap.size + 1, 0, none⟩)]) law map_row (by decide) (keyOf_int_mk int_row (by decide)) rfl
  rw [r2]
  go_wp2_with fail
  refine (over_any _ _).mono ?_
  rintro e w3 ⟨rfl, rfl⟩
  have o3 := o2.alloc (.cells #[.int .i64 360] 3)
  obtain ⟨w4, r4, o4, g4⟩ := o3.update (key := .int .i64 1) (val := .func (Fn.func 48) #[] #[.pointer (some ⟨w2.heap.size, 0, none⟩)]) law map_row (by decide) (keyOf_int_mk int_row (by decide)) rfl
  obtain ⟨w5, r5, o5, g5⟩ := o4.update (key := .int .i64 2) (val := .func (Fn.func 41) #[] #[]) law map_row (by decide) (keyOf_int_mk int_row (by decide)) rfl
  obtain ⟨w6, r6, o6, g6⟩ := o5.update (key := .int .i64 3) (val := .func (Fn.func 42) #[] #[]) law map_row (by decide) (keyOf_int_mk int_row (by decide)) rfl
  obtain ⟨v, ps, rl, hv⟩ := o6.look_ok (key := .int .i64 kind) law map_row (fun_zero _) (zd := .held Value.nilFunc) (zp := []) rfl (keyOf_int_mk int_row HK.out)
  have hvE : v = tabF (.func (Fn.func 48) #[] #[.pointer (some ⟨w.heap.size + 1, 0, none⟩)]) (.func (Fn.func 48) #[] #[.pointer (some ⟨w2.heap.size, 0, none⟩)]) (.func (Fn.func 41) #[] #[]) (.func (Fn.func 42) #[] #[]) kind := by
    have h1 : DataW.held v = _ := congrArg Prod.fst (Option.some.inj hv)
    have h2 := h1.trans (tab_at (.func (Fn.func 48) #[] #[.pointer (some ⟨w.heap.size + 1, 0, none⟩)]) (.func (Fn.func 48) #[] #[.pointer (some ⟨w2.heap.size, 0, none⟩)]) (.func (Fn.func 41) #[] #[]) (.func (Fn.func 42) #[] #[]) kind)
    exact DataW.held.inj h2
  have b1 : Below w.heap.size w ((w.alloc (.map #[] 0)).alloc (.cells #[.int .i64 365] 3)) := (by repeat (first | exact Below.refl _ _ | refine Below.drew ?_ | refine bel_drewN _ ?_ | refine Below.alloc ?_ (by first | omega | (simp; done) | (simp; omega)) _ | refine Below.setCell ?_ (by first | (show _ ≤ _; omega) | (simp; done) | (simp; omega)) _))
  have b2 := b1.grown g2 (by simp; omega) (fun j hj => by cases hj; exact Nat.le_refl _)
  have b3 := (b2.alloc b2.size (.cells #[.int .i64 360] 3)).grown g4 (by have := b2.size; simp; omega) (fun j hj => by cases hj; exact Nat.le_refl _)
  have b5 := b3.grown g5 b3.size (fun j hj => by cases hj; exact Nat.le_refl _)
  have b6 := b5.grown g6 b5.size (fun j hj => by cases hj; exact Nat.le_refl _)
  have hs2 : w.heap.size + 1 + 1 ≤ w2.heap.size := by have := g2.size; simpa using this
  have k0 : w6.cell? ⟨w.heap.size + 1, 0, none⟩ = some (.int .i64 365) := gcell g6 (gcell g5 (gcell g4 (ca (gcell g2 (by simp) (by simp))) (by simp)) (by simp)) (by simp)
  have k1 : w6.cell? ⟨w2.heap.size, 0, none⟩ = some (.int .i64 360) := gcell g6 (gcell g5 (gcell g4 (by simp) (by simp; omega)) (by simp; omega)) (by simp; omega)
  have HC : Hid (CntF kind v w6) := by
    refine Lib.hid ?_
    rw [hvE]
    unfold tabF
    refine ⟨?_, ?_, ?_, ?_⟩
    · rintro rfl; exact ⟨_, by simp, k0⟩
    · rintro rfl; exact ⟨_, by simp, k1⟩
    · rintro rfl; simp
    · rintro rfl; simp
  have H6 := Lib.hid b6
  clear hvE b1 b2 b3 b5 b6 hv k0 k1 hs2
  go_wp2_with fail
  go_ret2
  refine ⟨v, ?_, ?_, H6.out⟩
  · rw [← tab_has (.func (Fn.func 48) #[] #[.pointer (some ⟨w.heap.size + 1, 0, none⟩)]) (.func (Fn.func 48) #[] #[.pointer (some ⟨w2.heap.size, 0, none⟩)]) (.func (Fn.func 41) #[] #[]) (.func (Fn.func 42) #[] #[])]; rfl
  · exact HC.out
end Go.Proofs.YtiplcndacmicoaaDoor
