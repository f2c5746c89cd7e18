/- Ratios: lowest terms, sums, comparison. -/
import Derived.Test.YtiplcndacmicoaaDoorRatio
namespace Go.Proofs.YtiplcndacmicoaaDoor
open Go.RowKit
set_option linter.unusedVariables false
theorem divisorS_abs (n d : Int) (w : World) (hn : -2000000000000000000 ≤ n) (hn' : n ≤ 2000000000000000000) (hd : 1 ≤ d) (hd' : d ≤ 2000000000000000000) :
    Calls Tryd.prog 43 #[.int .i64 (absI n), .int .i64 d] w fun e w' => e = .returned (.int .i64 (gd n d)) ∧ w = w' := by
  rw [← gd_abs n d]
  have a3 : 0 ≤ absI n ∧ absI n ≤ 2000000000000000000 := by unfold absI; split <;> omega
  exact divisorS_any _ _ _ (by omega) (by omega) (by omega) (by omega)
set_option maxHeartbeats 400000 in
theorem lowestS_any (n d : Int) (w : World) (hn : -2000000000000000000 ≤ n) (hn' : n ≤ 2000000000000000000) (hd : 1 ≤ d) (hd' : d ≤ 2000000000000000000) :
    Calls Tryd.prog 35 #[.int .i64 n, .int .i64 d] w fun e w' => e = .returned (.agg #[.int .i64 (lowN n d), .int .i64 (lowD n d)]) ∧ Below w.heap.size w w' := by
  have hg := gd_pos (a := n) hd
  obtain ⟨q1, q2⟩ := lowN_bd hd hn hn'
  have t := @tdiv_low n d
  rw [← t] at q1 q2
  have T := Lib.hid t
  clear t
  go_enter Tryd.func35, Tryd.ntmps35
  go_wp2_with (first | (go_at_call 44; refine (distance_any _ _ (by omega) (by omega)).mono ?_; rintro e w' ⟨rfl, rfl⟩) | (go_at_call 43; refine (divisorS_abs n d _ (by omega) (by omega) (by omega) (by omega)).mono ?_; rintro e w1 ⟨rfl, rfl⟩))
  go_region
  go_wp2
  refine bodyPost_ret (v := .agg #[.int .i64 (n.tdiv (gd n d)), .int .i64 (d / gd n d)]) (by simp [results, Tryd.results35, go_sem]) rfl ⟨?_, ((Below.refl _ _).alloc (Nat.le_refl _) _).drew⟩
  rw [T.out]; rfl
theorem divisorI_neg (n d : Int) (w : World) (hn : n ≤ 0) (hn' : -2000000000000000000 ≤ n) (hd : 1 ≤ d) (hd' : d ≤ 2000000000000000000) :
    Calls Tryd.prog 54 #[.int .i64 (-n), .int .i64 d] w fun e w' => e = .returned (.int .i64 (gd n d)) ∧ Below w.heap.size w w' := by
  have h : gd n d = gd (-n) d := by simp [gd, Int.neg_gcd]
  rw [h]
  exact divisorI_any _ _ _ (by omega) (by omega) (by omega) (by omega)
def side_any (n : Int) : Prop := 0 ≤ n
def side_neg (n : Int) : Prop := n < 0
/-- what lowest leaves of the world -/
theorem low_below {w w1 w2 : World} {o : Obj} {C : Array Value} {T : TypeId} {u0 u1 : Value} (hb : Below (w.alloc o).heap.size (w.alloc o) w1) (hb2 : Below (w1.alloc (.cells C T)).drew.heap.size (w1.alloc (.cells C T)).drew w2) :
    Below w.heap.size w ((w2.setCell ⟨w.heap.size, 0, none⟩ u0).setCell ⟨w.heap.size, 1, none⟩ u1) := by
  have h1 : Below w.heap.size w w1 := ((Below.refl _ _).alloc (Nat.le_refl _) _).trans (hb.mono (by simp))
  have h2 : Below w.heap.size w w2 := (((h1.alloc h1.size _).drew)).trans (hb2.mono (by have := h1.size; simp; omega))
  exact (h2.setCell (Nat.le_refl _) _).setCell (Nat.le_refl _) _
set_option maxHeartbeats 400000 in
theorem lowestI_yes_any (n d : Int) (w : World) (hn : -2000000000000000000 ≤ n) (hn' : n ≤ 2000000000000000000) (hd : 1 ≤ d) (hd' : d ≤ 2000000000000000000) (hok : ratioOk (lowN n d) (lowD n d) = true) (hs : side_any n) :
    Calls Tryd.prog 49 #[.int .i64 n, .int .i64 d] w fun e w' => e = .returned (.tuple #[.agg #[.int .i64 (lowN n d), .int .i64 (lowD n d)], .bool true]) ∧ Below w.heap.size w w' := by
  unfold side_any at hs
  have hg := gd_pos (a := n) hd
  obtain ⟨q1, q2⟩ := lowN_bd hd hn hn'
  have t := @tdiv_low n d
  rw [← t] at q1 q2
  have hok' : ratioOk (n.tdiv (gd n d)) (d / gd n d) = true := by rw [t]; exact hok
  have T := Lib.hid t
  clear t hok
  go_enter Tryd.func49, Tryd.ntmps49
  go_wp2_with fail
  refine (divisorI_any n d _ (by omega) (by omega) (by omega) (by omega)).mono ?_
  rintro e w1 ⟨rfl, hb⟩
  have c0 : w1.cell? ⟨w.heap.size, 0, none⟩ = some (.int .i64 0) := bc hb (by simp)
  have c1 : w1.cell? ⟨w.heap.size, 1, none⟩ = some (.int .i64 0) := bc hb (by simp)
  have f0 : w1.frozen? ⟨w.heap.size, 0, none⟩ = false := bf hb (by simp) (by simp)
  have f1 : w1.frozen? ⟨w.heap.size, 1, none⟩ = false := bf hb (by simp) (by simp)
  have hz := below_size hb
  simp at hz
  go_wp2_with fail
  go_region
  go_wp2_with fail
  refine (ratioValid_any _ _ _).mono ?_
  rintro e w2 ⟨rfl, hb2⟩
  have d0 : w2.cell? ⟨w.heap.size, 0, none⟩ = some (.int .i64 0) := bc hb2 (ca c0)
  have d1 : w2.cell? ⟨w.heap.size, 1, none⟩ = some (.int .i64 0) := bc hb2 (ca c1)
  have g0 : w2.frozen? ⟨w.heap.size, 0, none⟩ = false := bf hb2 (by simp; omega) (fa (by show w.heap.size < _; omega) f0)
  have g1 : w2.frozen? ⟨w.heap.size, 1, none⟩ = false := bf hb2 (by simp; omega) (fa (by show w.heap.size < _; omega) f1)
  have x0 : w2.cell? ⟨w1.heap.size, 0, none⟩ = some (.int .i64 (n.tdiv (gd n d))) := bc hb2 (by simp)
  have x1 : w2.cell? ⟨w1.heap.size, 1, none⟩ = some (.int .i64 (d / gd n d)) := bc hb2 (by simp)
  go_wp2
  refine bodyPost_ret (v := .tuple #[.agg #[.int .i64 (n.tdiv (gd n d)), .int .i64 (d / gd n d)], .bool true]) (by simp [results, Tryd.results49, go_sem, d0, d1]) rfl ⟨?_, low_below hb hb2⟩
  rw [T.out]; rfl
set_option maxHeartbeats 400000 in
theorem lowestI_no_any (n d : Int) (w : World) (hn : -2000000000000000000 ≤ n) (hn' : n ≤ 2000000000000000000) (hd : 1 ≤ d) (hd' : d ≤ 2000000000000000000) (hok : ratioOk (lowN n d) (lowD n d) = false) (hs : side_any n) :
    Calls Tryd.prog 49 #[.int .i64 n, .int .i64 d] w fun e w' => e = .returned (.tuple #[.agg #[.int .i64 0, .int .i64 0], .bool false]) ∧ Below w.heap.size w w' := by
  unfold side_any at hs
  have hg := gd_pos (a := n) hd
  obtain ⟨q1, q2⟩ := lowN_bd hd hn hn'
  have t := @tdiv_low n d
  rw [← t] at q1 q2
  have hok' : ratioOk (n.tdiv (gd n d)) (d / gd n d) = false := by rw [t]; exact hok
  clear t hok
  go_enter Tryd.func49, Tryd.ntmps49
  go_wp2_with fail
  refine (divisorI_any n d _ (by omega) (by omega) (by omega) (by omega)).mono ?_
  rintro e w1 ⟨rfl, hb⟩
  have c0 : w1.cell? ⟨w.heap.size, 0, none⟩ = some (.int .i64 0) := bc hb (by simp)
  have c1 : w1.cell? ⟨w.heap.size, 1, none⟩ = some (.int .i64 0) := bc hb (by simp)
  have f0 : w1.frozen? ⟨w.heap.size, 0, none⟩ = false := bf hb (by simp) (by simp)
  have f1 : w1.frozen? ⟨w.heap.size, 1, none⟩ = false := bf hb (by simp) (by simp)
  have hz := below_size hb
  simp at hz
  go_wp2_with fail
  go_region
  go_wp2_with fail
  refine (ratioValid_any _ _ _).mono ?_
  rintro e w2 ⟨rfl, hb2⟩
  have d0 : w2.cell? ⟨w.heap.size, 0, none⟩ = some (.int .i64 0) := bc hb2 (ca c0)
  have d1 : w2.cell? ⟨w.heap.size, 1, none⟩ = some (.int .i64 0) := bc hb2 (ca c1)
  have g0 : w2.frozen? ⟨w.heap.size, 0, none⟩ = false := bf hb2 (by simp; omega) (fa (by show w.heap.size < _; omega) f0)
  have g1 : w2.frozen? ⟨w.heap.size, 1, none⟩ = false := bf hb2 (by simp; omega) (fa (by show w.heap.size < _; omega) f1)
  have x0 : w2.cell? ⟨w1.heap.size, 0, none⟩ = some (.int .i64 (n.tdiv (gd n d))) := bc hb2 (by simp)
  have x1 : w2.cell? ⟨w1.heap.size, 1, none⟩ = some (.int .i64 (d / gd n d)) := bc hb2 (by simp)
  go_wp2
  refine bodyPost_ret (v := .tuple #[.agg #[.int .i64 0, .int .i64 0], .bool false]) (by simp [results, Tryd.results49, go_sem, d0, d1]) rfl ⟨rfl, low_below hb hb2⟩
set_option maxHeartbeats 400000 in
theorem lowestI_yes_neg (n d : Int) (w : World) (hn : -2000000000000000000 ≤ n) (hn' : n ≤ 2000000000000000000) (hd : 1 ≤ d) (hd' : d ≤ 2000000000000000000) (hok : ratioOk (lowN n d) (lowD n d) = true) (hs : side_neg n) :
    Calls Tryd.prog 49 #[.int .i64 n, .int .i64 d] w fun e w' => e = .returned (.tuple #[.agg #[.int .i64 (lowN n d), .int .i64 (lowD n d)], .bool true]) ∧ Below w.heap.size w w' := by
  unfold side_neg at hs
  have hg := gd_pos (a := n) hd
  obtain ⟨q1, q2⟩ := lowN_bd hd hn hn'
  have t := @tdiv_low n d
  rw [← t] at q1 q2
  have hok' : ratioOk (n.tdiv (gd n d)) (d / gd n d) = true := by rw [t]; exact hok
  have T := Lib.hid t
  clear t hok
  go_enter Tryd.func49, Tryd.ntmps49
  go_wp2_with fail
  refine (divisorI_neg n d _ (by omega) (by omega) (by omega) (by omega)).mono ?_
  rintro e w1 ⟨rfl, hb⟩
  have c0 : w1.cell? ⟨w.heap.size, 0, none⟩ = some (.int .i64 0) := bc hb (by simp)
  have c1 : w1.cell? ⟨w.heap.size, 1, none⟩ = some (.int .i64 0) := bc hb (by simp)
  have f0 : w1.frozen? ⟨w.heap.size, 0, none⟩ = false := bf hb (by simp) (by simp)
  have f1 : w1.frozen? ⟨w.heap.size, 1, none⟩ = false := bf hb (by simp) (by simp)
  have hz := below_size hb
  simp at hz
  go_wp2_with fail
  go_region
  go_wp2_with fail
  refine (ratioValid_any _ _ _).mono ?_
  rintro e w2 ⟨rfl, hb2⟩
  have d0 : w2.cell? ⟨w.heap.size, 0, none⟩ = some (.int .i64 0) := bc hb2 (ca c0)
  have d1 : w2.cell? ⟨w.heap.size, 1, none⟩ = some (.int .i64 0) := bc hb2 (ca c1)
  have g0 : w2.frozen? ⟨w.heap.size, 0, none⟩ = false := bf hb2 (by simp; omega) (fa (by show w.heap.size < _; omega) f0)
  have g1 : w2.frozen? ⟨w.heap.size, 1, none⟩ = false := bf hb2 (by simp; omega) (fa (by show w.heap.size < _; omega) f1)
  have x0 : w2.cell? ⟨w1.heap.size, 0, none⟩ = some (.int .i64 (n.tdiv (gd n d))) := bc hb2 (by simp)
  have x1 : w2.cell? ⟨w1.heap.size, 1, none⟩ = some (.int .i64 (d / gd n d)) := bc hb2 (by simp)
  go_wp2
  refine bodyPost_ret (v := .tuple #[.agg #[.int .i64 (n.tdiv (gd n d)), .int .i64 (d / gd n d)], .bool true]) (by simp [results, Tryd.results49, go_sem, d0, d1]) rfl ⟨?_, low_below hb hb2⟩
  rw [T.out]; rfl
set_option maxHeartbeats 400000 in
theorem lowestI_no_neg (n d : Int) (w : World) (hn : -2000000000000000000 ≤ n) (hn' : n ≤ 2000000000000000000) (hd : 1 ≤ d) (hd' : d ≤ 2000000000000000000) (hok : ratioOk (lowN n d) (lowD n d) = false) (hs : side_neg n) :
    Calls Tryd.prog 49 #[.int .i64 n, .int .i64 d] w fun e w' => e = .returned (.tuple #[.agg #[.int .i64 0, .int .i64 0], .bool false]) ∧ Below w.heap.size w w' := by
  unfold side_neg at hs
  have hg := gd_pos (a := n) hd
  obtain ⟨q1, q2⟩ := lowN_bd hd hn hn'
  have t := @tdiv_low n d
  rw [← t] at q1 q2
  have hok' : ratioOk (n.tdiv (gd n d)) (d / gd n d) = false := by rw [t]; exact hok
  clear t hok
  go_enter Tryd.func49, Tryd.ntmps49
  go_wp2_with fail
  refine (divisorI_neg n d _ (by omega) (by omega) (by omega) (by omega)).mono ?_
  rintro e w1 ⟨rfl, hb⟩
  have c0 : w1.cell? ⟨w.heap.size, 0, none⟩ = some (.int .i64 0) := bc hb (by simp)
  have c1 : w1.cell? ⟨w.heap.size, 1, none⟩ = some (.int .i64 0) := bc hb (by simp)
  have f0 : w1.frozen? ⟨w.heap.size, 0, none⟩ = false := bf hb (by simp) (by simp)
  have f1 : w1.frozen? ⟨w.heap.size, 1, none⟩ = false := bf hb (by simp) (by simp)
  have hz := below_size hb
  simp at hz
  go_wp2_with fail
  go_region
  go_wp2_with fail
  refine (ratioValid_any _ _ _).mono ?_
  rintro e w2 ⟨rfl, hb2⟩
  have d0 : w2.cell? ⟨w.heap.size, 0, none⟩ = some (.int .i64 0) := bc hb2 (ca c0)
  have d1 : w2.cell? ⟨w.heap.size, 1, none⟩ = some (.int .i64 0) := bc hb2 (ca c1)
  have g0 : w2.frozen? ⟨w.heap.size, 0, none⟩ = false := bf hb2 (by simp; omega) (fa (by show w.heap.size < _; omega) f0)
  have g1 : w2.frozen? ⟨w.heap.size, 1, none⟩ = false := bf hb2 (by simp; omega) (fa (by show w.heap.size < _; omega) f1)
  have x0 : w2.cell? ⟨w1.heap.size, 0, none⟩ = some (.int .i64 (n.tdiv (gd n d))) := bc hb2 (by simp)
  have x1 : w2.cell? ⟨w1.heap.size, 1, none⟩ = some (.int .i64 (d / gd n d)) := bc hb2 (by simp)
  go_wp2
  refine bodyPost_ret (v := .tuple #[.agg #[.int .i64 0, .int .i64 0], .bool false]) (by simp [results, Tryd.results49, go_sem, d0, d1]) rfl ⟨rfl, low_below hb hb2⟩
end Go.Proofs.YtiplcndacmicoaaDoor
