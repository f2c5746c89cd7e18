/- Reading dates out of texts: the program's and the reference's ParseDate. -/
import Derived.Test.YtoecdlemoimacaaDoorTxt6
import Derived.Lib.Strings
namespace Go.Proofs.YtoecdlemoimacaaDoor
open Go.RowKit
set_option linter.unusedVariables false
theorem str_eql (x y : List UInt8) (W : World) : (Op.stringOp .eql ⟨x.toArray⟩ ⟨y.toArray⟩).run Tryd.prog W = .ok (.bool (decide (x = y))) W := by
  have e : (x == y) = decide (x = y) := by rw [Bool.eq_iff_iff]; simp
  simp [Op.stringOp, Lib.toList_data, e]
theorem str_neq (x y : List UInt8) (W : World) : (Op.stringOp .neq ⟨x.toArray⟩ ⟨y.toArray⟩).run Tryd.prog W = .ok (.bool (!decide (x = y))) W := by
  have e : (x == y) = decide (x = y) := by rw [Bool.eq_iff_iff]; simp
  simp [Op.stringOp, Lib.toList_data, e]
def SkP (b : Nat) (l : List UInt8) (a : Nat) (w : World) (e : Ending) (w' : World) : Prop :=
  e = .returned (.tuple #[]) ∧ CU w' b l ((skA l a : Nat) : Int) ∧ Keep b w w'
set_option maxHeartbeats 2000000 in
theorem cskip_any (b : Nat) (l : List UInt8) (a : Nat) (w : World) (hl : l.length ≤ 1048576) (ha : a ≤ l.length) (hc : CU w b l (a : Int)) :
    Calls Tryd.prog 57 #[.pointer (some ⟨b, 0, none⟩), .int .u8 45] w (SkP b l a w) := by
  obtain ⟨x0, x1⟩ := hc.cell
  obtain ⟨f0, f1⟩ := hc.free
  have HC := Lib.hid hc
  clear hc
  have w5 : IntKind.i64.wrap ((a : Int) + 1) = (a : Int) + 1 := IntWalk.i64_in _ (by omega)
  by_cases h1 : a < l.length
  · have d1 : decide ((a : Int) < (l.length : Int)) = true := decide_eq_true (by omega)
    have d1' : (a : Int) < (l.length : Int) := by omega
    have hix := at_lit l a h1 (by rw [size_lit]; exact h1)
    obtain ⟨c, hcc⟩ : ∃ c, l[a] = c := ⟨_, rfl⟩
    have hget : l[a]? = some c := by rw [List.getElem?_eq_getElem h1, hcc]
    rw [hcc] at hix
    have hiC : (((ByteArray.mk l.toArray)[a]'(by rw [size_lit]; exact h1)).toNat : Int) = (c.toNat : Int) := by rw [hix]
    clear hix
    by_cases h2 : c = 45
    · subst h2
      have HS : Hid (skA l a = a + 1) := Lib.hid (by unfold skA; rw [if_pos hget])
      have e45 : ((45 : UInt8).toNat : Int) = 45 := rfl
      rw [e45] at hiC
      clear hget hcc
      go_enter Tryd.func57, Tryd.ntmps57
      go_wp2_with fail
      go_quiet (fail)
      go_wp2
      refine bodyPost_ret (v := .tuple #[]) (by simp [results, Tryd.results57, go_sem]) rfl ⟨rfl, ?_, ?_⟩
      · rw [HS.out, Int.natCast_succ]
        refine CU.set (k := (a : Int)) ?_ _
        exact HC.out
      · refine Keep.setCell (R := b) (p := ⟨b, 1, none⟩) ?_ rfl _
        exact ⟨rfl, rfl, rfl, Nat.le_refl _, fun _ _ _ => rfl⟩
    · have HS : Hid (skA l a = a) := Lib.hid (by unfold skA; rw [hget, if_neg (by intro h; exact h2 (Option.some.inj h))])
      have hc45 : ((c.toNat : Int) == 45) = false := by
        have : c.toNat ≠ 45 := fun h => h2 (UInt8.toNat_inj.1 h)
        simp
        omega
      clear hget hcc
      generalize (c.toNat : Int) = C at *
      go_enter Tryd.func57, Tryd.ntmps57
      go_wp2_with fail
      go_quiet (fail)
      go_wp2
      refine bodyPost_ret (v := .tuple #[]) (by simp [results, Tryd.results57, go_sem]) rfl ⟨rfl, ?_, ?_⟩
      · rw [HS.out]
        exact HC.out
      · exact ⟨rfl, rfl, rfl, Nat.le_refl _, fun _ _ _ => rfl⟩
  · have d1 : decide ((a : Int) < (l.length : Int)) = false := decide_eq_false (by omega)
    have HS : Hid (skA l a = a) := Lib.hid (by unfold skA; rw [List.getElem?_eq_none (by omega), if_neg (by simp)])
    go_enter Tryd.func57, Tryd.ntmps57
    go_wp2_with fail
    go_quiet (fail)
    go_wp2
    refine bodyPost_ret (v := .tuple #[]) (by simp [results, Tryd.results57, go_sem]) rfl ⟨rfl, ?_, ?_⟩
    · rw [HS.out]
      exact HC.out
    · exact ⟨rfl, rfl, rfl, Nat.le_refl _, fun _ _ _ => rfl⟩
theorem nA_le {l : List UInt8} {a : Nat} (h : a ≤ l.length) : nA l a ≤ l.length := by
  unfold nA
  have := (rdK_le (l.drop a) 6).2
  rw [List.length_drop] at this
  omega
theorem skA_le {l : List UInt8} {a : Nat} (h : a ≤ l.length) : skA l a ≤ l.length := by
  unfold skA
  split
  · rename_i k
    have := (List.getElem?_eq_some_iff.1 k).1
    omega
  · exact h
/-- the three cells of a date in block b -/
def DA (w : World) (b : Nat) (y m d : Int) : Prop := w.heap[b]? = some (.cells #[.int .i64 y, .int .i64 m, .int .i64 d] 33 (0, 0))
theorem DA.cell {w : World} {b : Nat} {y m d : Int} (h : DA w b y m d) : w.cell? ⟨b, 0, none⟩ = some (.int .i64 y) ∧ w.cell? ⟨b, 1, none⟩ = some (.int .i64 m) ∧ w.cell? ⟨b, 2, none⟩ = some (.int .i64 d) := by
  unfold DA at h
  refine ⟨?_, ?_, ?_⟩ <;> simp [World.cell?, h]
theorem DA.free {w : World} {b : Nat} {y m d : Int} (h : DA w b y m d) : w.frozen? ⟨b, 0, none⟩ = false ∧ w.frozen? ⟨b, 1, none⟩ = false ∧ w.frozen? ⟨b, 2, none⟩ = false := by
  unfold DA at h
  refine ⟨?_, ?_, ?_⟩ <;> simp [World.frozen?, h]
theorem DA.lt {w : World} {b : Nat} {y m d : Int} (h : DA w b y m d) : b < w.heap.size := cell_lt h.cell.1
theorem DA.set {w : World} {b : Nat} {y m d : Int} (h : DA w b y m d) (v : Int) : DA (w.setCell ⟨b, 0, none⟩ (.int .i64 v)) b v m d ∧ DA (w.setCell ⟨b, 1, none⟩ (.int .i64 v)) b y v d ∧ DA (w.setCell ⟨b, 2, none⟩ (.int .i64 v)) b y m v := by
  unfold DA at h
  refine ⟨?_, ?_, ?_⟩ <;> simp [DA, World.setCell, Array.getElem?_modify, h]
theorem DA.new (w : World) (y m d : Int) : DA (w.alloc (.cells #[.int .i64 y, .int .i64 m, .int .i64 d] 33)) w.heap.size y m d := by
  unfold DA World.alloc
  simp
theorem DA.fwd {w w' : World} {b B : Nat} {y m d : Int} (h : DA w b y m d) (k : Below B w w') (hb : b < B) : DA w' b y m d := (k.block b hb).trans h
theorem DA.keep {w w' : World} {b R : Nat} {y m d : Int} (h : DA w b y m d) (k : Keep R w w') (hr : b ≠ R) : DA w' b y m d := (k.block b h.lt hr).trans h
theorem DA.far {w : World} {b b' o : Nat} {y m d : Int} (h : DA w b y m d) (hne : b' ≠ b) (v : Value) : DA (w.setCell ⟨b', o, none⟩ v) b y m d := by
  unfold DA at *
  rw [← h]
  exact Below.heap_setCell _ _ _ _ (fun e => hne e.symm)
theorem CU.far {w : World} {b b' o : Nat} {l : List UInt8} {k : Int} (h : CU w b l k) (hne : b' ≠ b) (v : Value) : CU (w.setCell ⟨b', o, none⟩ v) b l k := by
  unfold CU at *
  rw [← h]
  exact Below.heap_setCell _ _ _ _ (fun e => hne e.symm)
theorem CU.alloc {w : World} {b : Nat} {l : List UInt8} {k : Int} (h : CU w b l k) (o : Obj) : CU (w.alloc o) b l k := by
  have hl := h.lt
  unfold CU at *
  rw [← h]
  exact Below.heap_alloc _ _ _ hl
theorem DA.alloc {w : World} {b : Nat} {y m d : Int} (h : DA w b y m d) (o : Obj) : DA (w.alloc o) b y m d := by
  have hl := h.lt
  unfold DA at *
  rw [← h]
  exact Below.heap_alloc _ _ _ hl
end Go.Proofs.YtoecdlemoimacaaDoor
