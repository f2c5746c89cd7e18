/- Dates: adding months; the exported functions. -/
import Derived.Test.YtoecdlemoimacaaDoorDate5
import Derived.StillTailTactics
namespace Go.Proofs.YtoecdlemoimacaaDoor
open Go.RowKit
set_option linter.unusedVariables false
/-- A region that reads, calls quietly and ends in a store: one walk in the order of the text, in a drawn world under a name of its own. -/
theorem region_tail {P : Program} {id : Nat} {Q : Exit → Act → World → Prop} {a : Act} {w : World} {l : List Oper} (n : Nat) (hm : P.follows .mixedOrders = true) (hB : Region.lexTailB .any l.toArray n = true)
    (h : ∀ W : World, W = w.drew → wpStill P l.toArray W (fun a' => wpList P l.toArray Q (l.drop n) a' W) (l.take n) a) : (Code.region id l.toArray true).wp P Q a w :=
  wp_region_still_tail n hm hB (h w.drew rfl)
def minI (a b : Int) : Int := if a ≤ b then a else b
/-- the month that is k months behind that of a day, counted from January 1990 -/
noncomputable def amT (n k : Int) : Int := 12 * (dY n - 1990) + dM n - 1 + k
noncomputable def amIn (n k : Int) : Int :=
  if 0 ≤ amT n k ∧ amT n k < 1200 then num (1990 + amT n k / 12) (amT n k % 12 + 1) (minI (dD n) (dim (1990 + amT n k / 12) (amT n k % 12 + 1))) else -1
noncomputable def addM (n k : Int) : Int := if inR n 0 36524 = true then (if inR k (-600) 600 = true then amIn n k else -1) else -1
theorem am_dt {n k : Int} (hn : 0 ≤ n ∧ n ≤ 36524) (h : 0 ≤ amT n k ∧ amT n k < 1200) : Dt (1990 + amT n k / 12) (amT n k % 12 + 1) (minI (dD n) (dim (1990 + amT n k / 12) (amT n k % 12 + 1))) := by
  obtain ⟨⟨_, _, h5, _⟩, _⟩ := date_ok hn
  have hb := @dim_bd (1990 + amT n k / 12) (amT n k % 12 + 1)
  refine ⟨⟨by omega, by omega⟩, ⟨by omega, by omega⟩, ?_⟩
  unfold minI
  split <;> omega
end Go.Proofs.YtoecdlemoimacaaDoor
