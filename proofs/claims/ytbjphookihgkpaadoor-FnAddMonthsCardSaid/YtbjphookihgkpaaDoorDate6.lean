/- Dates: adding months; the exported functions. -/
import Derived.Test.YtbjphookihgkpaaDoorDate5
import Derived.StillTailTactics
namespace Go.Proofs.YtbjphookihgkpaaDoor
open Go.RowKit
set_option linter.unusedVariables false
theorem dayValid_any (n : Int) (w : World) :
    Calls Tryd.prog 12 #[.int .i64 n] w fun e w' => e = .returned (.bool (inR n 0 36524)) ∧ w = w' := by
  go_enter Tryd.func12, Tryd.ntmps12
  go_wp2_with (go_at_call 13; refine (within_any _ _ _ _).mono ?_; rintro e w' ⟨rfl, rfl⟩)
  go_ret
  exact ⟨rfl, rfl⟩
/-- A region that reads, calls quietly and ends in a store: one walk in the order of the text, in a drawn world under a name of its own. -/
theorem region_tail {P : Program} {id : Nat} {Q : Exit → Act → World → Prop} {a : Act} {w : World} {l : List Oper} (n : Nat) (hm : P.follows .mixedOrders = true) (hB : Region.lexTailB .any l.toArray n = true)
    (h : ∀ W : World, W = w.drew → wpStill P l.toArray W (fun a' => wpList P l.toArray Q (l.drop n) a' W) (l.take n) a) : (Code.region id l.toArray true).wp P Q a w :=
  wp_region_still_tail n hm hB (h w.drew rfl)
def minI (a b : Int) : Int := if a ≤ b then a else b
/-- the month that is k months behind that of a day, counted from January 1990 -/
noncomputable def amT (n k : Int) : Int := 12 * (dY n - 1990) + dM n - 1 + k
noncomputable def amIn (n k : Int) : Int :=
  if 0 ≤ amT n k ∧ amT n k < 1200 then num (1990 + amT n k / 12) (amT n k % 12 + 1) (minI (dD n) (dim (1990 + amT n k / 12) (amT n k % 12 + 1))) else -1
noncomputable def addM (n k : Int) : Int := if inR n 0 36524 = true then (if inR k (-600) 600 = true then amIn n k else -1) else -1
theorem am_dt {n k : Int} (hn : 0 ≤ n ∧ n ≤ 36524) (h : 0 ≤ amT n k ∧ amT n k < 1200) : Dt (1990 + amT n k / 12) (amT n k % 12 + 1) (minI (dD n) (dim (1990 + amT n k / 12) (amT n k % 12 + 1))) := by
  obtain ⟨⟨_, _, h5, _⟩, _⟩ := date_ok hn
  have hb := @dim_bd (1990 + amT n k / 12) (amT n k % 12 + 1)
  refine ⟨⟨by omega, by omega⟩, ⟨by omega, by omega⟩, ?_⟩
  unfold minI
  split <;> omega
set_option maxRecDepth 100000 in
set_option maxHeartbeats 2000000 in
theorem addMonthsI_in (n k : Int) (w : World) (hM : MD w) (h1 : inR n 0 36524 = true) (h2 : inR k (-600) 600 = true) :
    Calls Tryd.prog 5 #[.int .i64 n, .int .i64 k] w fun e w' => e = .returned (.int .i64 (amIn n k)) ∧ Below w.heap.size w w' := by
  have hn := inR_true.1 h1
  obtain ⟨n0, n1⟩ := hn
  obtain ⟨k0, k1⟩ := inR_true.1 h2
  have hd := (date_ok ⟨n0, n1⟩).1
  obtain ⟨⟨a1, a2⟩, ⟨a3, a4⟩, ⟨a5, a6⟩⟩ := hd
  have a7 := @dim_bd (dY n) (dM n)
  obtain ⟨_, a7⟩ := a7
  have hM1 := hM.size
  have HM := Lib.hid hM
  clear hM
  have T : Hid (amT n k = 12 * (dY n - 1990) + dM n - 1 + k) := rfl
  go_enter Tryd.func5, Tryd.ntmps5
  have HB := Lib.hid (Below.refl w.heap.size w)
  go_wp2_with fail
  refine (dayValid_any _ _).mono ?_
  rintro e w1 ⟨rfl, rfl⟩
  go_wp2_with fail
  refine (within_any _ _ _ _).mono ?_
  rintro e w1 ⟨rfl, rfl⟩
  go_wp2_with fail
  refine (dateOfI_any n _ (by exact HM.out) n0 n1).mono ?_
  rintro e w1 ⟨rfl, hb⟩
  have hszw1 := below_size hb
  try simp at hszw1
  have HBq : Below w.heap.size w w1 := Below.trans (by repeat (first | exact Below.refl _ _ | exact HB.out | refine Below.drew ?_ | refine bel_drewN _ ?_ | refine Below.alloc ?_ (by first | omega | (simp; done) | (simp; omega)) _ | refine Below.setCell ?_ (by first | (show _ ≤ _; omega) | (simp; done) | (simp; omega)) _)) (hb.mono (by first | omega | (simp; done) | (simp; omega)))
  have HB := Lib.hid HBq
  clear HBq hb
  have HM2 : Hid (MD w1) := HM.out.fwd (HB.out.mono hM1)
  by_cases hlo : 12 * (dY n - 1990) + dM n - 1 + k < 0
  · have F : Hid (amIn n k = -1) := by unfold amIn; rw [T.out, if_neg (by omega)]; exact rfl
    go_wp2
    go_ret
    exact ⟨ret_int F.out.symm, (by repeat (first | exact Below.refl _ _ | exact HB.out | refine Below.drew ?_ | refine bel_drewN _ ?_ | refine Below.alloc ?_ (by first | omega | (simp; done) | (simp; omega)) _ | refine Below.setCell ?_ (by first | (show _ ≤ _; omega) | (simp; done) | (simp; omega)) _))⟩
  · by_cases hhi : 1200 ≤ 12 * (dY n - 1990) + dM n - 1 + k
    · have F : Hid (amIn n k = -1) := by unfold amIn; rw [T.out, if_neg (by omega)]; exact rfl
      go_wp2
      go_ret
      exact ⟨ret_int F.out.symm, (by repeat (first | exact Below.refl _ _ | exact HB.out | refine Below.drew ?_ | refine bel_drewN _ ?_ | refine Below.alloc ?_ (by first | omega | (simp; done) | (simp; omega)) _ | refine Below.setCell ?_ (by first | (show _ ≤ _; omega) | (simp; done) | (simp; omega)) _))⟩
    · have D := am_dt (k := k) ⟨n0, n1⟩ (by rw [T.out]; omega)
      have F : Hid (amIn n k = num (1990 + amT n k / 12) (amT n k % 12 + 1) (minI (dD n) (dim (1990 + amT n k / 12) (amT n k % 12 + 1)))) := by unfold amIn; rw [if_pos (by rw [T.out]; omega)]; exact rfl
      rw [T.out] at D F
      by_cases hmin : dD n ≤ dim (1990 + (12 * (dY n - 1990) + dM n - 1 + k) / 12) ((12 * (dY n - 1990) + dM n - 1 + k) % 12 + 1)
      · have hmq := hmin
        have hmi : minI (dD n) (dim (1990 + (12 * (dY n - 1990) + dM n - 1 + k) / 12) ((12 * (dY n - 1990) + dM n - 1 + k) % 12 + 1)) = dD n := if_pos hmin
        rw [hmi] at D F
        clear hmi
        go_wp2
        refine region_tail 9 (by kernel_rfl) (by kernel_rfl) ?_
        intro W hW
        have c0 : W.cell? ⟨w1.heap.size, 0, none⟩ = some (.int .i64 (1990 + (12 * (dY n - 1990) + dM n - 1 + k) / 12)) := by rw [hW]; simp
        have c1 : W.cell? ⟨w1.heap.size, 1, none⟩ = some (.int .i64 ((12 * (dY n - 1990) + dM n - 1 + k) % 12 + 1)) := by rw [hW]; simp
        have c2 : W.cell? ⟨w1.heap.size, 2, none⟩ = some (.int .i64 (dD n)) := by rw [hW]; simp
        have f2 : W.frozen? ⟨w1.heap.size, 2, none⟩ = false := by rw [hW]; simp
        have HM3 : Hid (MD W) := by rw [hW]; exact HM2.out.fwd (by repeat (first | exact Below.refl _ _ | refine Below.drew ?_ | refine bel_drewN _ ?_ | refine Below.alloc ?_ (by first | omega | (simp; done) | (simp; omega)) _ | refine Below.setCell ?_ (by first | (show _ ≤ _; omega) | (simp; done) | (simp; omega)) _))
        have HBW : Hid (Below w.heap.size w W) := by rw [hW]; exact (by repeat (first | exact Below.refl _ _ | exact HB.out | refine Below.drew ?_ | refine bel_drewN _ ?_ | refine Below.alloc ?_ (by first | omega | (simp; done) | (simp; omega)) _ | refine Below.setCell ?_ (by first | (show _ ≤ _; omega) | (simp; done) | (simp; omega)) _))
        clear hW
        simp only [List.take_succ_cons, List.take_zero, List.drop_succ_cons, List.drop_zero]
        repeat still_step
        still_call ((daysInI_any _ _ _ HM3.out (by omega) (by omega) (by omega) (by omega)).mono fun _ _ ⟨a, b⟩ => ⟨a, b.symm⟩)
        repeat still_step
        refine wpStill_nil ?_
        go_wp2_with fail
        refine (numberI_any _ _ _ _ (by exact HM3.out.fwd (by repeat (first | exact Below.refl _ _ | refine Below.drew ?_ | refine bel_drewN _ ?_ | refine Below.alloc ?_ (by first | omega | (simp; done) | (simp; omega)) _ | refine Below.setCell ?_ (by first | (show _ ≤ _; omega) | (simp; done) | (simp; omega)) _))) D).mono ?_
        rintro e w2 ⟨rfl, hb2⟩
        go_wp2
        go_ret
        exact ⟨ret_int F.out.symm, (HBW.out.setCell (by show _ ≤ w1.heap.size; omega) _).trans (hb2.mono (by have := HBW.out.size; simpa using this))⟩
      · have hmq := hmin
        have hmi : minI (dD n) (dim (1990 + (12 * (dY n - 1990) + dM n - 1 + k) / 12) ((12 * (dY n - 1990) + dM n - 1 + k) % 12 + 1)) = dim (1990 + (12 * (dY n - 1990) + dM n - 1 + k) / 12) ((12 * (dY n - 1990) + dM n - 1 + k) % 12 + 1) := if_neg hmin
        rw [hmi] at D F
        clear hmi
        go_wp2
        refine region_tail 9 (by kernel_rfl) (by kernel_rfl) ?_
        intro W hW
        have c0 : W.cell? ⟨w1.heap.size, 0, none⟩ = some (.int .i64 (1990 + (12 * (dY n - 1990) + dM n - 1 + k) / 12)) := by rw [hW]; simp
        have c1 : W.cell? ⟨w1.heap.size, 1, none⟩ = some (.int .i64 ((12 * (dY n - 1990) + dM n - 1 + k) % 12 + 1)) := by rw [hW]; simp
        have c2 : W.cell? ⟨w1.heap.size, 2, none⟩ = some (.int .i64 (dD n)) := by rw [hW]; simp
        have f2 : W.frozen? ⟨w1.heap.size, 2, none⟩ = false := by rw [hW]; simp
        have HM3 : Hid (MD W) := by rw [hW]; exact HM2.out.fwd (by repeat (first | exact Below.refl _ _ | refine Below.drew ?_ | refine bel_drewN _ ?_ | refine Below.alloc ?_ (by first | omega | (simp; done) | (simp; omega)) _ | refine Below.setCell ?_ (by first | (show _ ≤ _; omega) | (simp; done) | (simp; omega)) _))
        have HBW : Hid (Below w.heap.size w W) := by rw [hW]; exact (by repeat (first | exact Below.refl _ _ | exact HB.out | refine Below.drew ?_ | refine bel_drewN _ ?_ | refine Below.alloc ?_ (by first | omega | (simp; done) | (simp; omega)) _ | refine Below.setCell ?_ (by first | (show _ ≤ _; omega) | (simp; done) | (simp; omega)) _))
        clear hW
        simp only [List.take_succ_cons, List.take_zero, List.drop_succ_cons, List.drop_zero]
        repeat still_step
        still_call ((daysInI_any _ _ _ HM3.out (by omega) (by omega) (by omega) (by omega)).mono fun _ _ ⟨a, b⟩ => ⟨a, b.symm⟩)
        repeat still_step
        refine wpStill_nil ?_
        go_wp2_with fail
        refine (numberI_any _ _ _ _ (by exact HM3.out.fwd (by repeat (first | exact Below.refl _ _ | refine Below.drew ?_ | refine bel_drewN _ ?_ | refine Below.alloc ?_ (by first | omega | (simp; done) | (simp; omega)) _ | refine Below.setCell ?_ (by first | (show _ ≤ _; omega) | (simp; done) | (simp; omega)) _))) D).mono ?_
        rintro e w2 ⟨rfl, hb2⟩
        go_wp2
        go_ret
        exact ⟨ret_int F.out.symm, (HBW.out.setCell (by show _ ≤ w1.heap.size; omega) _).trans (hb2.mono (by have := HBW.out.size; simpa using this))⟩
theorem addMonthsI_any (n k : Int) (w : World) (hM : MD w) :
    Calls Tryd.prog 5 #[.int .i64 n, .int .i64 k] w fun e w' => e = .returned (.int .i64 (addM n k)) ∧ Below w.heap.size w w' := by
  unfold addM
  by_cases h1 : inR n 0 36524 = true
  · rw [if_pos h1]
    by_cases h2 : inR k (-600) 600 = true
    · rw [if_pos h2]
      exact addMonthsI_in n k w hM h1 h2
    · rw [if_neg h2]
      have h2' : inR k (-600) 600 = false := by simpa using h2
      clear h2 hM
      go_enter Tryd.func5, Tryd.ntmps5
      go_wp2_with (first | (go_at_call 12; refine (dayValid_any _ _).mono ?_; rintro e w' ⟨rfl, rfl⟩) | (go_at_call 13; refine (within_any _ _ _ _).mono ?_; rintro e w' ⟨rfl, rfl⟩))
      go_ret
      exact ⟨rfl, Below.refl _ _⟩
  · rw [if_neg h1]
    have h1' : inR n 0 36524 = false := by simpa using h1
    clear h1 hM
    go_enter Tryd.func5, Tryd.ntmps5
    go_wp2_with (first | (go_at_call 12; refine (dayValid_any _ _).mono ?_; rintro e w' ⟨rfl, rfl⟩) | (go_at_call 13; refine (within_any _ _ _ _).mono ?_; rintro e w' ⟨rfl, rfl⟩))
    go_ret
    exact ⟨rfl, Below.refl _ _⟩
end Go.Proofs.YtbjphookihgkpaaDoor
