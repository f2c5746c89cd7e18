/- Schedules: ScheduleOf of the reference; valid bonds. -/
import Derived.Test.YtoidghdgebdfaaaDoorSch1
namespace Go.Proofs.YtoidghdgebdfaaaDoor
open Go.RowKit
set_option linter.unusedVariables false
theorem spn_a {s e m : Int} (h : inR s 0 36524 = false) : spnB s e m = false := by unfold spnB; rw [h]; rfl
theorem spn_b {s e m : Int} (h : inR e (s + 1) 36524 = false) : spnB s e m = false := by unfold spnB; rw [h]; simp
theorem spn_c {s e m : Int} (h1 : inR s 0 36524 = true) (h2 : inR e (s + 1) 36524 = true) : spnB s e m = (m == 1 || m == 3 || m == 6 || m == 12) := by unfold spnB; rw [h1, h2]; rfl
theorem validSpan_any (s e m : Int) (w : World) :
    Calls Tryd.prog 50 #[.int .i64 s, .int .i64 e, .int .i64 m] w fun ed w' => ed = .returned (.bool (spnB s e m)) ∧ w = w' := by
  cases h1 : inR s 0 36524
  · rw [spn_a h1]
    go_enter Tryd.func50, Tryd.ntmps50
    go_wp2_with (go_at_call 51; refine (inRange_any _ _ _ _).mono ?_; rintro e w' ⟨rfl, rfl⟩)
    go_ret
    exact ⟨rfl, rfl⟩
  obtain ⟨a0, a1⟩ := inR_true.1 h1
  cases h2 : inR e (s + 1) 36524
  · rw [spn_b h2]
    go_enter Tryd.func50, Tryd.ntmps50
    go_wp2_with (go_at_call 51; refine (inRange_any _ _ _ _).mono ?_; rintro e w' ⟨rfl, rfl⟩)
    go_ret
    exact ⟨rfl, rfl⟩
  rw [spn_c h1 h2]
  cases k1 : (m == 1)
  · cases k3 : (m == 3)
    · cases k6 : (m == 6)
      · go_enter Tryd.func50, Tryd.ntmps50
        go_wp2_with (go_at_call 51; refine (inRange_any _ _ _ _).mono ?_; rintro e w' ⟨rfl, rfl⟩)
        go_ret
        exact ⟨rfl, rfl⟩
      · go_enter Tryd.func50, Tryd.ntmps50
        go_wp2_with (go_at_call 51; refine (inRange_any _ _ _ _).mono ?_; rintro e w' ⟨rfl, rfl⟩)
        go_ret
        exact ⟨rfl, rfl⟩
    · go_enter Tryd.func50, Tryd.ntmps50
      go_wp2_with (go_at_call 51; refine (inRange_any _ _ _ _).mono ?_; rintro e w' ⟨rfl, rfl⟩)
      go_ret
      exact ⟨rfl, rfl⟩
  · go_enter Tryd.func50, Tryd.ntmps50
    go_wp2_with (go_at_call 51; refine (inRange_any _ _ _ _).mono ?_; rintro e w' ⟨rfl, rfl⟩)
    go_ret
    exact ⟨rfl, rfl⟩
/-- what ScheduleOf returns: a row of periods, or nil -/
def ScOf (s e m : Int) (w : World) (ed : Ending) (w' : World) : Prop :=
  ∃ v, ed = .returned v ∧ w'.ownsRow w.heap.size 58 3 v (schL s e m) (perL s e m (schN s e m) (schL s e m)) ∧ (schL s e m = 0 → v = .slice none 0 0) ∧ Below w.heap.size w w'
theorem schL_no {s e m : Int} (h : spnB s e m = false) : schL s e m = 0 := by unfold schL; rw [if_neg (by rw [h]; simp)]
theorem schL_big {s e m : Int} (h : ¬ schN s e m ≤ 40) : schL s e m = 0 := by unfold schL; rw [if_neg (by omega)]
theorem schL_yes {s e m : Int} (h : spnB s e m = true) (h2 : schN s e m ≤ 40) : schL s e m = schN s e m := by unfold schL; rw [if_pos ⟨h, h2⟩]
theorem schL_le (s e m : Int) : schL s e m ≤ 40 := by unfold schL; split <;> omega
set_option maxHeartbeats 1000000 in
theorem scheduleOfS_any (s e m : Int) (w : World) :
    Calls Tryd.prog 52 #[.int .i64 s, .int .i64 e, .int .i64 m] w (ScOf s e m w) := by
  cases h : spnB s e m
  · unfold ScOf
    rw [schL_no h]
    go_enter Tryd.func52, Tryd.ntmps52
    go_wp2_with (go_at_call 50; refine (validSpan_any _ _ _ _).mono ?_; rintro e w' ⟨rfl, rfl⟩)
    go_ret
    exact ⟨_, rfl, World.ownsRow_nil _ _ _ _, fun _ => rfl, Below.refl _ _⟩
  · have hp := schN_pos h
    have hle := schN_le s e m
    have HS := Lib.hid (scheduleS_any s e m w h)
    by_cases hb : schN s e m ≤ 40
    · unfold ScOf
      rw [schL_yes h hb]
      unfold SchPost at HS
      obtain ⟨n, hn⟩ : ∃ n, schN s e m = n := ⟨_, rfl⟩
      rw [hn] at HS hp hle hb ⊢
      clear hn
      go_enter Tryd.func52, Tryd.ntmps52
      go_wp2_with (go_at_call 50; refine (validSpan_any _ _ _ _).mono ?_; rintro e w' ⟨rfl, rfl⟩)
      refine HS.out.mono ?_
      rintro ed w1 ⟨v, rfl, hown, hbel⟩
      obtain ⟨g, cap, rfl, _, _, c1, c2⟩ := own_slice hown hp
      have HO := Lib.hid hown
      have HB := Lib.hid hbel
      clear hown hbel
      unfold maxLen at c2
      go_wp2
      go_ret
      exact ⟨_, rfl, HO.out, fun h => by omega, HB.out⟩
    · unfold ScOf
      rw [schL_big hb]
      unfold SchPost at HS
      have hq : schN s e m = 41 := by omega
      rw [hq] at HS
      clear hp hle hb hq
      go_enter Tryd.func52, Tryd.ntmps52
      go_wp2_with (go_at_call 50; refine (validSpan_any _ _ _ _).mono ?_; rintro e w' ⟨rfl, rfl⟩)
      refine HS.out.mono ?_
      rintro ed w1 ⟨v, rfl, hown, hbel⟩
      obtain ⟨g, cap, rfl, _, _, c1, c2⟩ := own_slice hown (by decide)
      have HB := Lib.hid hbel
      clear hown hbel
      unfold maxLen at c2
      go_wp2
      go_ret
      exact ⟨_, rfl, World.ownsRow_nil _ _ _ _, fun _ => rfl, HB.out⟩
/-- a valid bond: begin, end, months, rate -/
noncomputable def bdB (s e m r : Int) : Bool := inR r 0 3000 && decide (0 < schL s e m)
theorem bdB_iff {s e m r : Int} : bdB s e m r = true ↔ inR r 0 3000 = true ∧ 0 < schL s e m := by unfold bdB; rw [Bool.and_eq_true, decide_eq_true_eq]
set_option maxHeartbeats 2000000 in
theorem validBondS_any (s e m r : Int) (w : World) :
    Calls Tryd.prog 35 #[.agg #[.int .i64 s, .int .i64 e, .int .i64 m, .int .i64 r]] w fun ed w' => ed = .returned (.bool (bdB s e m r)) ∧ Below w.heap.size w w' := by
  unfold bdB
  cases h : spnB s e m
  · rw [schL_no h]
    go_enter Tryd.func35, Tryd.ntmps35
    go_wp2_with (go_at_call 50; refine (validSpan_any _ _ _ _).mono ?_; rintro e w' ⟨rfl, rfl⟩)
    go_ret
    exact ⟨ret_bool (by simp), (by repeat (first | exact Below.refl _ _ | refine Below.drew ?_ | refine bel_drewN _ ?_ | refine Below.alloc ?_ (by first | omega | (simp; done) | (simp; omega)) _ | refine Below.setCell ?_ (by first | (show _ ≤ _; omega) | (simp; done) | (simp; omega)) _))⟩
  cases h2 : inR r 0 3000
  · go_enter Tryd.func35, Tryd.ntmps35
    go_wp2_with (first | (go_at_call 50; refine (validSpan_any _ _ _ _).mono ?_; rintro e w' ⟨rfl, rfl⟩) | (go_at_call 51; refine (inRange_any _ _ _ _).mono ?_; rintro e w' ⟨rfl, rfl⟩))
    go_ret
    exact ⟨ret_bool (by simp), (by repeat (first | exact Below.refl _ _ | refine Below.drew ?_ | refine bel_drewN _ ?_ | refine Below.alloc ?_ (by first | omega | (simp; done) | (simp; omega)) _ | refine Below.setCell ?_ (by first | (show _ ≤ _; omega) | (simp; done) | (simp; omega)) _))⟩
  have HS := Lib.hid (fun W => scheduleOfS_any s e m W)
  unfold ScOf at HS
  have hL := schL_le s e m
  obtain ⟨L, hLe⟩ : ∃ L, schL s e m = L := ⟨_, rfl⟩
  rw [hLe] at HS hL ⊢
  clear hLe
  go_enter Tryd.func35, Tryd.ntmps35
  have HB := Lib.hid (Below.refl w.heap.size w)
  go_wp2_with (first | (go_at_call 50; refine (validSpan_any _ _ _ _).mono ?_; rintro e w' ⟨rfl, rfl⟩) | (go_at_call 51; refine (inRange_any _ _ _ _).mono ?_; rintro e w' ⟨rfl, rfl⟩))
  refine (HS.out _).mono ?_
  rintro ed w1 ⟨v, rfl, hown, hnil, hbel⟩
  have HF : Hid (Below w.heap.size w w1) := Below.trans (by repeat (first | exact Below.refl _ _ | exact HB.out | refine Below.drew ?_ | refine bel_drewN _ ?_ | refine Below.alloc ?_ (by first | omega | (simp; done) | (simp; omega)) _ | refine Below.setCell ?_ (by first | (show _ ≤ _; omega) | (simp; done) | (simp; omega)) _)) (hbel.mono (by simp))
  by_cases hL0 : L = 0
  · obtain rfl := hnil hL0
    subst hL0
    clear hown hnil hbel
    go_wp2
    go_ret
    exact ⟨rfl, HF.out⟩
  · obtain ⟨g, cap, rfl, _, _, c1, c2⟩ := own_slice hown (by omega)
    clear hown hnil hbel
    have hpos : 0 < L := by omega
    unfold maxLen at c2
    go_wp2
    go_ret
    exact ⟨ret_bool (by simp [hpos]), HF.out⟩
theorem bValidBondS_any (s e m r : Int) (w : World) :
    Calls Tryd.prog 19 #[.agg #[.int .i64 s, .int .i64 e, .int .i64 m, .int .i64 r]] w fun ed w' => ed = .returned (.bool (bdB s e m r)) ∧ Below w.heap.size w w' := by
  go_enter Tryd.func19, Tryd.ntmps19
  have HB := Lib.hid (Below.refl w.heap.size w)
  go_wp2_with fail
  refine (validBondS_any s e m r _).mono ?_
  rintro e w1 ⟨rfl, hb⟩
  have b0_1 : w1.cell? ⟨w.heap.size, 0, none⟩ = some (.int .i64 s) := bc hb (by first | (simp; done) | go_simp)
  have b1_1 : w1.cell? ⟨w.heap.size, 1, none⟩ = some (.int .i64 e) := bc hb (by first | (simp; done) | go_simp)
  have b2_1 : w1.cell? ⟨w.heap.size, 2, none⟩ = some (.int .i64 m) := bc hb (by first | (simp; done) | go_simp)
  have b3_1 : w1.cell? ⟨w.heap.size, 3, none⟩ = some (.int .i64 r) := bc hb (by first | (simp; done) | go_simp)
  have bl_1 : w.heap.size < w1.heap.size := cell_lt b0_1
  have hszw1 := below_size hb
  try simp at hszw1
  have HBq : Below w.heap.size w w1 := Below.trans (by repeat (first | exact Below.refl _ _ | exact HB.out | refine Below.drew ?_ | refine bel_drewN _ ?_ | refine Below.alloc ?_ (by first | omega | (simp; done) | (simp; omega)) _ | refine Below.setCell ?_ (by first | (show _ ≤ _; omega) | (simp; done) | (simp; omega)) _)) (hb.mono (by first | omega | (simp; done) | (simp; omega)))
  have HB := Lib.hid HBq
  clear HBq hb
  go_wp2
  go_ret
  exact ⟨rfl, HB.out⟩
end Go.Proofs.YtoidghdgebdfaaaDoor
