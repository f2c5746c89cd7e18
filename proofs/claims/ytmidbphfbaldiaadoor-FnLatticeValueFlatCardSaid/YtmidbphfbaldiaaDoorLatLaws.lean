/- The laws over lattices. -/
import Derived.Test.YtmidbphfbaldiaaDoorLat8
import Derived.Test.YtmidbphfbaldiaaDoorLatDraw
namespace Go.Proofs.YtmidbphfbaldiaaDoor
open Go.RowKit
set_option linter.unusedVariables false
theorem big_FnLatticeValueFlat (a : Option Addr) (len cap : Nat) (w : World) (hlc : len ≤ cap) (hc : cap ≤ maxLen) (hbig : 1048576 < len) :
    Calls Tryd.prog 3 #[.slice a len cap] w fun e w' => e = .returned (.bool true) ∧ Below w.heap.size w w' := by
  unfold maxLen at hc
  go_enter Tryd.func3, Tryd.ntmps3
  go_wp2
  go_ret
  exact ⟨rfl, Below.refl _ _⟩
theorem lv_mono {s r r' p c c' k k' : Int} (h : lvB s r p c k = true) (h' : lvB s r' p c' k' = true) (hr : r' ≤ r) (hcc : c ≤ c') (hkk : KLe k k') :
    lvL s r p c k ≤ lvL s r' p c' k' ∧ lvH s r p c k ≤ lvH s r' p c' k' := by
  obtain ⟨a1, a2, a3⟩ := lvB_iff.1 h
  obtain ⟨b1, b2, b3⟩ := lvB_iff.1 h'
  obtain ⟨⟨s0, s1⟩, _⟩ := latB_iff.1 a1
  obtain ⟨e1, e2⟩ := lv_yes h
  obtain ⟨e3, e4⟩ := lv_yes h'
  rw [e1, e2, e3, e4]
  exact lval_mono a1 b1 hr a2.1 hcc b2.2 (by omega) (by omega) hkk s.toNat 0 (by omega) (by omega)
theorem lvB_of {s r p c k : Int} (h : ¬ lvH s r p c k = 0) : lvB s r p c k = true := by
  cases q : lvB s r p c k
  · exact absurd (lv_no q).2 h
  · rfl
theorem lv_rate {s r p c k : Int} (h : ¬ lvH s r p c k = 0) : lvH s (r + 10) p c k = 0 ∨ (¬ lvH s (r + 10) p c k = 0 ∧ lvL s (r + 10) p c k ≤ lvL s r p c k ∧ lvH s (r + 10) p c k ≤ lvH s r p c k) := by
  by_cases q : lvH s (r + 10) p c k = 0
  · exact .inl q
  · exact .inr ⟨q, lv_mono (lvB_of q) (lvB_of h) (by omega) (Int.le_refl _) (.inr (.inl rfl))⟩
end Go.Proofs.YtmidbphfbaldiaaDoor
