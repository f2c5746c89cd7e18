/- Reading quotes out of texts: the library's contracts, the program's ParseQuote. -/
import Derived.Test.YtoecdlemoimacaaDoorTxtPlain2
import Derived.Test.YtoecdlemoimacaaDoorTxt7
import Derived.Test.YtoecdlemoimacaaDoorShelf3
namespace Go.Proofs.YtoecdlemoimacaaDoor
open Go.RowKit
set_option linter.unusedVariables false
theorem var_below {n : String} {cs : Array Value} {w w' : World} (h : w.var? Tryd.prog n = some cs) (k : Below w.heap.size w w') : w'.var? Tryd.prog n = some cs := by
  unfold World.var? at *
  revert h
  cases hg : Tryd.prog.globalNamed n with
  | none => exact fun h => h
  | some g =>
    simp only [Option.bind_some]
    intro h
    have hl : g < w.heap.size := by
      rcases Nat.lt_or_ge g w.heap.size with q | q
      · exact q
      · simp [Array.getElem?_eq_none q] at h
    rw [k.block g hl]
    exact h
/-- the library's two errors, and the number that its search reads -/
structure QV (w : World) : Prop where
  rng : ∃ a : Addr, w.var? Tryd.prog "strconv.ErrRange" = some #[.iface 107 (.pointer (some a))]
  syn : ∃ a : Addr, w.var? Tryd.prog "strconv.ErrSyntax" = some #[.iface 107 (.pointer (some a))]
  ix : ∃ m, w.cell? ⟨0, 0, none⟩ = some (.int .i64 m)
theorem QV.below {w w' : World} (h : QV w) (k : Below w.heap.size w w') : QV w' := by
  obtain ⟨⟨a, h1⟩, ⟨b, h2⟩, ⟨m, h3⟩⟩ := h
  exact ⟨⟨a, var_below h1 k⟩, ⟨b, var_below h2 k⟩, ⟨m, bc k h3⟩⟩
theorem cutSuf_any (l : List UInt8) (w : World) (hl : l.length ≤ 1048576) :
    Calls Tryd.prog 24 #[.string ⟨l.toArray⟩, .string { data := #[43] }] w fun e w' => e = .returned (.tuple #[.string ⟨(Lib.trimSuffix l [43]).toArray⟩, .bool (Lib.hasSuffix l [43])]) ∧ w = w' := by
  refine (Tryd.strings_CutSuffix ⟨l.toArray⟩ { data := #[43] } w (by rw [size_lit]; omega)).mono ?_
  rintro e w' ⟨rfl, rfl⟩
  exact ⟨by simp, rfl⟩
theorem cut_any (l : List UInt8) (w : World) (hl : l.length ≤ 1048576) (hQ : QV w) :
    Calls Tryd.prog 25 #[.string ⟨l.toArray⟩, .string { data := #[45] }] w fun e w' => e = .returned (.tuple #[.string ⟨(Lib.cut l [45]).1.toArray⟩, .string ⟨(Lib.cut l [45]).2.1.toArray⟩, .bool (Lib.cut l [45]).2.2]) ∧ Below w.heap.size w w' := by
  obtain ⟨m, hm⟩ := hQ.ix
  refine (Tryd.strings_Cut ⟨l.toArray⟩ { data := #[45] } m w (by rw [size_lit]; omega) hm).mono ?_
  rintro e w' ⟨rfl, n, rfl⟩
  exact ⟨by simp, bel_drewN _ (Below.refl _ _)⟩
def AtP (l : List UInt8) (w : World) (e : Ending) (w' : World) : Prop :=
  ((∃ v : Int, atI l = some v ∧ e = .returned (.tuple #[.int .i64 v, .nilIface])) ∨ (atI l = none ∧ ∃ (x : Int) (T : TypeId) (p : Addr), e = .returned (.tuple #[.int .i64 x, .iface T (.pointer (some p))]))) ∧ Below w.heap.size w w'
theorem atoi_any (l : List UInt8) (w : World) (hl : l.length ≤ 1048576) (hQ : QV w) :
    Calls Tryd.prog 26 #[.string ⟨l.toArray⟩] w (AtP l w) := by
  have hd : (ByteArray.mk l.toArray).data.toList = l := by simp
  cases h : Lib.atoiAll l with
  | ok v =>
    refine (Tryd.strconv_Atoi_ok ⟨l.toArray⟩ (by rw [size_lit]; omega) v (by rw [hd]; exact h) w).mono ?_
    rintro e w' ⟨rfl, hw⟩
    refine ⟨.inl ⟨v, by unfold atI; rw [h], rfl⟩, ?_⟩
    rcases hw with rfl | ⟨t, rfl⟩
    · exact Below.refl _ _
    · exact Lib.bytesWorld_below _ _ _
  | range =>
    obtain ⟨a, ha⟩ := hQ.rng
    have hx : Lib.atoiAll (ByteArray.mk l.toArray).data.toList = .range := by rw [hd]; exact h
    have hz : (ByteArray.mk l.toArray).size ≤ 281474976710656 := by rw [size_lit]; omega
    generalize ByteArray.mk l.toArray = s at hx hz ⊢
    have h2 : Calls Tryd.prog 26 #[.string s] w fun e w' => ∃ N, e = .returned (.tuple #[.int .i64 (Lib.atoiSat s.data.toList), .iface 82 (.pointer (some ⟨N, 0, none⟩))]) ∧ w.heap.size ≤ N ∧ w'.heap[N]? = some (.cells #[.string ⟨#[65, 116, 111, 105]⟩, .string s, .iface 107 (.pointer (some a))] 95 (0, 0)) ∧ Below w.heap.size w w' := Any.strconv_Atoi_range_var Tryd.laysC172 s hz hx _ _ w ha
    refine h2.mono ?_
    rintro e w' ⟨N, rfl, _, _, hb⟩
    exact ⟨.inr ⟨by unfold atI; rw [h], _, _, _, rfl⟩, hb⟩
  | _ =>
    obtain ⟨a, ha⟩ := hQ.syn
    have hx := h
    rw [← hd] at hx
    have hz : (ByteArray.mk l.toArray).size ≤ 281474976710656 := by rw [size_lit]; omega
    generalize ByteArray.mk l.toArray = s at hx hz ⊢
    have h2 : Calls Tryd.prog 26 #[.string s] w fun e w' => ∃ N, e = .returned (.tuple #[.int .i64 0, .iface 82 (.pointer (some ⟨N, 0, none⟩))]) ∧ w.heap.size ≤ N ∧ w'.heap[N]? = some (.cells #[.string ⟨#[65, 116, 111, 105]⟩, .string s, .iface 107 (.pointer (some a))] 95 (0, 0)) ∧ Below w.heap.size w w' := Any.strconv_Atoi_syntax_var Tryd.laysC172 s hz hx _ _ w ha
    refine h2.mono ?_
    rintro e w' ⟨N, rfl, _, _, hb⟩
    exact ⟨.inr ⟨by unfold atI; rw [h], _, _, _, rfl⟩, hb⟩
end Go.Proofs.YtoecdlemoimacaaDoor
