/- Lattices: the small functions. -/
import Derived.Test.YtmidbphfbaldiaaDoorInts
import Derived.Test.YtmidbphfbaldiaaDoorWorld
import Derived.Test.YtmidbphfbaldiaaDoorSt2
import Derived.Test.YtmidbphfbaldiaaDoorLatPlain
import Derived.Deep.RegionHeld3
import Derived.Outline
namespace Go.Proofs.YtmidbphfbaldiaaDoor
open Go.RowKit
set_option linter.unusedVariables false
theorem mul_bd {s p : Int} (hs : 1 ≤ s ∧ s ≤ 8) (hp : 0 ≤ p ∧ p ≤ 150) : 0 ≤ s * p ∧ s * p ≤ 1200 := by
  have h1 : s * p ≤ 8 * 150 := Int.mul_le_mul hs.2 hp.2 hp.1 (by decide)
  exact ⟨Int.mul_nonneg (by omega) hp.1, h1⟩
theorem latValidI_any (s r p : Int) (w : World) :
    Calls Tryd.prog 22 #[.agg #[.int .i64 s, .int .i64 r, .int .i64 p]] w fun e w' => e = .returned (.bool (latB s r p)) ∧ Below w.heap.size w w' := by
  have hB : Below w.heap.size w (w.alloc (.cells #[.int .i64 s, .int .i64 r, .int .i64 p] 24)) := (Below.refl _ _).alloc (Nat.le_refl _) _
  have HBB := Lib.hid hB
  clear hB
  unfold latB
  cases h1 : inR s 1 8
  · go_enter Tryd.func22, Tryd.ntmps22
    go_wp2_with (go_at_call 17; refine (within_any _ _ _ _).mono ?_; rintro e w' ⟨rfl, rfl⟩)
    go_ret
    exact ⟨ret_bool (by simp), HBB.out⟩
  cases h2 : inR p 0 150
  · go_enter Tryd.func22, Tryd.ntmps22
    go_wp2_with (go_at_call 17; refine (within_any _ _ _ _).mono ?_; rintro e w' ⟨rfl, rfl⟩)
    go_ret
    exact ⟨ret_bool (by simp), HBB.out⟩
  obtain ⟨b0, b1⟩ := mul_bd (inR_true.1 h1) (inR_true.1 h2)
  go_enter Tryd.func22, Tryd.ntmps22
  go_wp2_with (go_at_call 17; refine (within_any _ _ _ _).mono ?_; rintro e w' ⟨rfl, rfl⟩)
  go_ret
  exact ⟨ret_bool (by simp), HBB.out⟩
theorem latValidS_any (s r p : Int) (w : World) :
    Calls Tryd.prog 13 #[.agg #[.int .i64 s, .int .i64 r, .int .i64 p]] w fun e w' => e = .returned (.bool (latB s r p)) ∧ Below w.heap.size w w' := by
  have hB : Below w.heap.size w (w.alloc (.cells #[.int .i64 s, .int .i64 r, .int .i64 p] 24)) := (Below.refl _ _).alloc (Nat.le_refl _) _
  have HBB := Lib.hid hB
  clear hB
  unfold latB
  cases h1 : inR s 1 8
  · go_enter Tryd.func13, Tryd.ntmps13
    go_wp2_with (go_at_call 14; refine (inRange_any _ _ _ _).mono ?_; rintro e w' ⟨rfl, rfl⟩)
    go_ret
    exact ⟨ret_bool (by simp), HBB.out⟩
  cases h2 : inR p 0 150
  · go_enter Tryd.func13, Tryd.ntmps13
    go_wp2_with (go_at_call 14; refine (inRange_any _ _ _ _).mono ?_; rintro e w' ⟨rfl, rfl⟩)
    go_ret
    exact ⟨ret_bool (by simp), HBB.out⟩
  obtain ⟨b0, b1⟩ := mul_bd (inR_true.1 h1) (inR_true.1 h2)
  go_enter Tryd.func13, Tryd.ntmps13
  go_wp2_with (go_at_call 14; refine (inRange_any _ _ _ _).mono ?_; rintro e w' ⟨rfl, rfl⟩)
  go_ret
  exact ⟨ret_bool (by simp), HBB.out⟩
theorem rateValid_any (n : Int) (w : World) :
    Calls Tryd.prog 23 #[.int .i64 n] w fun e w' => e = .returned (.bool (inR n 0 3000)) ∧ w = w' := by
  go_enter Tryd.func23, Tryd.ntmps23
  go_wp2_with (go_at_call 17; refine (within_any _ _ _ _).mono ?_; rintro e w' ⟨rfl, rfl⟩)
  go_ret
  exact ⟨rfl, rfl⟩
theorem latRateI_any (s r p t i : Int) (w : World) (h : latB s r p = true) (t0 : 0 ≤ t) (t1 : t ≤ s) (i0 : 0 ≤ i) (i1 : i ≤ t) :
    Calls Tryd.prog 27 #[.agg #[.int .i64 s, .int .i64 r, .int .i64 p], .int .i64 t, .int .i64 i] w fun e w' => e = .returned (.int .i64 (lrt r p t i)) ∧ Below w.heap.size w w' := by
  have hB : Below w.heap.size w (w.alloc (.cells #[.int .i64 s, .int .i64 r, .int .i64 p] 24)) := (Below.refl _ _).alloc (Nat.le_refl _) _
  have HBB := Lib.hid hB
  obtain ⟨m0, m1⟩ := lmul_bd h t1 i0 i1
  obtain ⟨l0, l1⟩ := lrt_bd h t1 i0 i1
  obtain ⟨⟨s0, s1⟩, _⟩ := latB_iff.1 h
  unfold lrt at *
  clear h hB
  go_enter Tryd.func27, Tryd.ntmps27
  go_wp2
  go_ret
  exact ⟨rfl, HBB.out⟩
theorem latRateS_any (s r p t i : Int) (w : World) (h : latB s r p = true) (t0 : 0 ≤ t) (t1 : t ≤ s) (i0 : 0 ≤ i) (i1 : i ≤ t) :
    Calls Tryd.prog 30 #[.agg #[.int .i64 s, .int .i64 r, .int .i64 p], .int .i64 t, .int .i64 i] w fun e w' => e = .returned (.int .i64 (lrt r p t i)) ∧ Below w.heap.size w w' := by
  have hB : Below w.heap.size w (w.alloc (.cells #[.int .i64 s, .int .i64 r, .int .i64 p] 24)) := (Below.refl _ _).alloc (Nat.le_refl _) _
  have HBB := Lib.hid hB
  obtain ⟨m0, m1⟩ := lmul_bd h t1 i0 i1
  obtain ⟨l0, l1⟩ := lrt_bd h t1 i0 i1
  obtain ⟨⟨s0, s1⟩, _⟩ := latB_iff.1 h
  unfold lrt at *
  clear h hB
  go_enter Tryd.func30, Tryd.ntmps30
  go_wp2
  go_ret
  exact ⟨rfl, HBB.out⟩
def RP (lo hi : Int) (w : World) (e : Ending) (w' : World) : Prop := e = .returned (.agg #[.int .i64 lo, .int .i64 hi]) ∧ Below w.heap.size w w'
theorem exactlyI_any (n : Int) (w : World) (hn : (-4000000000≤n∧n≤4000000000)) : Calls Tryd.prog 18 #[.int .i64 n] w (RP (n) (n) w) := by
  obtain ⟨n0, n1⟩ := hn
  go_enter Tryd.func18, Tryd.ntmps18
  go_wp2
  exact bodyPost_ret (v := .agg #[.int .i64 (n), .int .i64 (n)]) (by simp [results, Tryd.results18, go_sem]) rfl ⟨rfl, (Below.refl _ _).alloc (Nat.le_refl _) _⟩
theorem exactS_any (n : Int) (w : World) (hn : (-1000≤n∧n≤1000)) : Calls Tryd.prog 28 #[.int .i64 n] w (RP ((n*1000000)) ((n*1000000)) w) := by
  obtain ⟨n0, n1⟩ := hn
  go_enter Tryd.func28, Tryd.ntmps28
  go_wp2
  exact bodyPost_ret (v := .agg #[.int .i64 ((n*1000000)), .int .i64 ((n*1000000))]) (by simp [results, Tryd.results28, go_sem]) rfl ⟨rfl, (Below.refl _ _).alloc (Nat.le_refl _) _⟩
theorem growthS_any (n : Int) (w : World) (hn : (-1000000000≤n∧n≤1000000000)) : Calls Tryd.prog 39 #[.int .i64 n] w (RP ((1000000+n)) ((1000000+n)) w) := by
  obtain ⟨n0, n1⟩ := hn
  go_enter Tryd.func39, Tryd.ntmps39
  go_wp2
  exact bodyPost_ret (v := .agg #[.int .i64 ((1000000+n)), .int .i64 ((1000000+n))]) (by simp [results, Tryd.results39, go_sem]) rfl ⟨rfl, (Below.refl _ _).alloc (Nat.le_refl _) _⟩
set_option maxHeartbeats 1000000 in
theorem ratioI_any (a b c d : Int) (w : World) (ha : 0 ≤ a ∧ a ≤ 4000000000) (hb : 0 ≤ b ∧ b ≤ 4000000000) (hc : 1 ≤ c ∧ c ≤ 4000000000) (hd : 1 ≤ d ∧ d ≤ 4000000000) :
    Calls Tryd.prog 35 #[.agg #[.int .i64 a, .int .i64 b], .agg #[.int .i64 c, .int .i64 d]] w (RP (a * 1000000 / d) (cdiv (b * 1000000) c) w) := by
  obtain ⟨a0, a1⟩ := ha
  obtain ⟨b0, b1⟩ := hb
  obtain ⟨c0, c1⟩ := hc
  obtain ⟨d0, d1⟩ := hd
  have wr1 : IntKind.i64.wrap (a * 1000000) = a * 1000000 := IntWalk.i64_in _ (by omega)
  have wr2 : IntKind.i64.wrap (b * 1000000) = b * 1000000 := IntWalk.i64_in _ (by omega)
  go_enter Tryd.func35, Tryd.ntmps35
  go_wp2_with fail
  go_region_held3 (fun w' => (w'.cell? ⟨w.heap.size, 0, none⟩ = some (.int .i64 a) ∧ w'.cell? ⟨w.heap.size, 1, none⟩ = some (.int .i64 b)) ∧ w'.cell? ⟨w.heap.size + 1, 0, none⟩ = some (.int .i64 c) ∧ w'.cell? ⟨w.heap.size + 1, 1, none⟩ = some (.int .i64 d))
    ((go_split_ands; refine ⟨⟨?_, ?_⟩, ?_, ?_⟩ <;> first | assumption | (exact ca (ca (by simp; done))) | (exact ca (by simp; done)) | (simp; done)))
    (first | (go_at_call 24; (with_reducible refine (floor_any _ _ _ (by omega) (by omega) (by omega) (by omega)).mono ?_); rintro e w' ⟨rfl, rfl⟩) | (go_at_call 25; (with_reducible refine (ceil_any _ _ _ (by omega) (by omega) (by omega) (by omega)).mono ?_); rintro e w' ⟨rfl, rfl⟩))
  go_wp2
  exact bodyPost_ret (v := .agg #[.int .i64 (a * 1000000 / d), .int .i64 (cdiv (b * 1000000) c)]) (by simp [results, Tryd.results35, go_sem]) rfl ⟨rfl, by repeat (first | exact Below.refl _ _ | refine Below.drew ?_ | refine Below.alloc ?_ (by first | omega | (simp; done) | (simp; omega)) _)⟩
set_option maxHeartbeats 1000000 in
theorem divS_any (a b c d : Int) (w : World) (ha : 0 ≤ a ∧ a ≤ 4000000000) (hb : 0 ≤ b ∧ b ≤ 4000000000) (hc : 1 ≤ c ∧ c ≤ 4000000000) (hd : 1 ≤ d ∧ d ≤ 4000000000) :
    Calls Tryd.prog 38 #[.agg #[.int .i64 a, .int .i64 b], .agg #[.int .i64 c, .int .i64 d]] w (RP (a * 1000000 / d) (cdiv (b * 1000000) c) w) := by
  obtain ⟨a0, a1⟩ := ha
  obtain ⟨b0, b1⟩ := hb
  obtain ⟨c0, c1⟩ := hc
  obtain ⟨d0, d1⟩ := hd
  have wr1 : IntKind.i64.wrap (a * 1000000) = a * 1000000 := IntWalk.i64_in _ (by omega)
  have wr2 : IntKind.i64.wrap (b * 1000000) = b * 1000000 := IntWalk.i64_in _ (by omega)
  go_enter Tryd.func38, Tryd.ntmps38
  go_wp2_with fail
  go_region_held3 (fun w' => (w'.cell? ⟨w.heap.size, 0, none⟩ = some (.int .i64 a) ∧ w'.cell? ⟨w.heap.size, 1, none⟩ = some (.int .i64 b)) ∧ w'.cell? ⟨w.heap.size + 1, 0, none⟩ = some (.int .i64 c) ∧ w'.cell? ⟨w.heap.size + 1, 1, none⟩ = some (.int .i64 d))
    ((go_split_ands; refine ⟨⟨?_, ?_⟩, ?_, ?_⟩ <;> first | assumption | (exact ca (ca (by simp; done))) | (exact ca (by simp; done)) | (simp; done)))
    (first | (go_at_call 36; (with_reducible refine (floorDiv_any _ _ _ (by omega) (by omega) (by omega) (by omega)).mono ?_); rintro e w' ⟨rfl, rfl⟩) | (go_at_call 37; (with_reducible refine (ceilDiv_any _ _ _ (by omega) (by omega) (by omega) (by omega)).mono ?_); rintro e w' ⟨rfl, rfl⟩))
  go_wp2
  exact bodyPost_ret (v := .agg #[.int .i64 (a * 1000000 / d), .int .i64 (cdiv (b * 1000000) c)]) (by simp [results, Tryd.results38, go_sem]) rfl ⟨rfl, by repeat (first | exact Below.refl _ _ | refine Below.drew ?_ | refine Below.alloc ?_ (by first | omega | (simp; done) | (simp; omega)) _)⟩
/-- a range that is valid -/
def RgOk (lo hi : Int) : Prop := lo ≤ hi ∧ -2000000000 ≤ lo ∧ hi ≤ 2000000000
def RPv (lo hi : Int) (w : World) (e : Ending) (w' : World) : Prop := e = .returned (.tuple #[.agg #[.int .i64 lo, .int .i64 hi], .nilIface]) ∧ Below w.heap.size w w'
theorem checked_any (lo hi : Int) (w : World) (h : RgOk lo hi) :
    Calls Tryd.prog 31 #[.agg #[.int .i64 lo, .int .i64 hi]] w (RPv lo hi w) := by
  obtain ⟨h1, h2, h3⟩ := h
  have e1 : inR lo (-2000000000) 2000000000 = true := inR_yes (by omega)
  have e2 : inR hi (-2000000000) 2000000000 = true := inR_yes (by omega)
  have d1 : decide (hi < lo) = false := decide_eq_false (by omega)
  go_enter Tryd.func31, Tryd.ntmps31
  go_wp2_with (go_at_call 17; refine (within_any _ _ _ _).mono ?_; rintro e w' ⟨rfl, rfl⟩)
  exact bodyPost_ret (v := .tuple #[.agg #[.int .i64 lo, .int .i64 hi], .nilIface]) (by simp [results, Tryd.results31, go_sem]) rfl ⟨rfl, by repeat (first | exact Below.refl _ _ | refine Below.alloc ?_ (by first | omega | (simp; done) | (simp; omega)) _)⟩
set_option maxHeartbeats 1000000 in
theorem bothRatio_any (a b c d lo hi : Int) (w : World) (h1 : RgOk a b) (h2 : RgOk c d) (h3 : RgOk lo hi)
    (hF : ∀ W : World, Calls Tryd.prog 35 #[.agg #[.int .i64 a, .int .i64 b], .agg #[.int .i64 c, .int .i64 d]] W (RP lo hi W)) :
    Calls Tryd.prog 32 #[.agg #[.int .i64 a, .int .i64 b], .agg #[.int .i64 c, .int .i64 d], .func (.func 35) #[] #[]] w (RPv lo hi w) := by
  have H1 := Lib.hid (fun W => checked_any a b W h1)
  have H2 := Lib.hid (fun W => checked_any c d W h2)
  have H3 := Lib.hid (fun W => checked_any lo hi W h3)
  have HF := Lib.hid hF
  clear h1 h2 h3 hF
  go_enter Tryd.func32, Tryd.ntmps32
  have HB := Lib.hid (Below.refl w.heap.size w)
  go_wp2_with fail
  refine (H1.out _).mono ?_
  rintro e w1 ⟨rfl, hb⟩
  have a0_1 : w1.cell? ⟨w.heap.size, 0, none⟩ = some (.int .i64 a) := bc hb (by first | (simp; done) | go_simp)
  have a1_1 : w1.cell? ⟨w.heap.size, 1, none⟩ = some (.int .i64 b) := bc hb (by first | (simp; done) | go_simp)
  have al_1 : w.heap.size < w1.heap.size := cell_lt a0_1
  have b0_1 : w1.cell? ⟨w.heap.size + 1, 0, none⟩ = some (.int .i64 c) := bc hb (by first | (simp; done) | go_simp)
  have b1_1 : w1.cell? ⟨w.heap.size + 1, 1, none⟩ = some (.int .i64 d) := bc hb (by first | (simp; done) | go_simp)
  have bl_1 : w.heap.size + 1 < w1.heap.size := cell_lt b0_1
  have r0_1 : w1.cell? ⟨w.heap.size + 1 + 1, 0, none⟩ = some (.int .i64 0) := bc hb (by first | (simp; done) | go_simp)
  have rf0_1 : w1.frozen? ⟨w.heap.size + 1 + 1, 0, none⟩ = false := bf hb (by first | (simp; done) | (simp; omega) | (show w.heap.size + 1 + 1 < _; omega)) (by first | (simp; done) | go_simp)
  have r1_1 : w1.cell? ⟨w.heap.size + 1 + 1, 1, none⟩ = some (.int .i64 0) := bc hb (by first | (simp; done) | go_simp)
  have rf1_1 : w1.frozen? ⟨w.heap.size + 1 + 1, 1, none⟩ = false := bf hb (by first | (simp; done) | (simp; omega) | (show w.heap.size + 1 + 1 < _; omega)) (by first | (simp; done) | go_simp)
  have rl_1 : w.heap.size + 1 + 1 < w1.heap.size := cell_lt r0_1
  have hszw1 := below_size hb
  try simp at hszw1
  have HBq : Below w.heap.size w w1 := Below.trans (by repeat (first | exact Below.refl _ _ | exact HB.out | refine Below.drew ?_ | refine bel_drewN _ ?_ | refine Below.alloc ?_ (by first | omega | (simp; done) | (simp; omega)) _ | refine Below.setCell ?_ (by first | (show _ ≤ _; omega) | (simp; done) | (simp; omega)) _)) (hb.mono (by first | omega | (simp; done) | (simp; omega)))
  have HB := Lib.hid HBq
  clear HBq hb
  go_wp2_with fail
  refine (H2.out _).mono ?_
  rintro e w2 ⟨rfl, hb⟩
  have a0_2 : w2.cell? ⟨w.heap.size, 0, none⟩ = some (.int .i64 a) := bc hb (by first | exact a0_1 | exact ca a0_1 | exact ca (ca a0_1) | exact ca (ca (ca a0_1)) | (simp; done) | go_simp)
  have a1_2 : w2.cell? ⟨w.heap.size, 1, none⟩ = some (.int .i64 b) := bc hb (by first | exact a1_1 | exact ca a1_1 | exact ca (ca a1_1) | exact ca (ca (ca a1_1)) | (simp; done) | go_simp)
  have al_2 : w.heap.size < w2.heap.size := cell_lt a0_2
  clear a0_1 a1_1 al_1
  have b0_2 : w2.cell? ⟨w.heap.size + 1, 0, none⟩ = some (.int .i64 c) := bc hb (by first | exact b0_1 | exact ca b0_1 | exact ca (ca b0_1) | exact ca (ca (ca b0_1)) | (simp; done) | go_simp)
  have b1_2 : w2.cell? ⟨w.heap.size + 1, 1, none⟩ = some (.int .i64 d) := bc hb (by first | exact b1_1 | exact ca b1_1 | exact ca (ca b1_1) | exact ca (ca (ca b1_1)) | (simp; done) | go_simp)
  have bl_2 : w.heap.size + 1 < w2.heap.size := cell_lt b0_2
  clear b0_1 b1_1 bl_1
  have r0_2 : w2.cell? ⟨w.heap.size + 1 + 1, 0, none⟩ = some (.int .i64 0) := bc hb (by first | exact r0_1 | exact ca r0_1 | exact ca (ca r0_1) | exact ca (ca (ca r0_1)) | (simp; done) | go_simp)
  have rf0_2 : w2.frozen? ⟨w.heap.size + 1 + 1, 0, none⟩ = false := bf hb (by first | (simp; done) | (simp; omega) | (show w.heap.size + 1 + 1 < _; omega)) (by first | exact rf0_1 | exact fa (by show w.heap.size + 1 + 1 < _; omega) rf0_1 | exact fa (by show w.heap.size + 1 + 1 < _; simp; omega) (fa (by show w.heap.size + 1 + 1 < _; omega) rf0_1) | (simp; done) | go_simp)
  have r1_2 : w2.cell? ⟨w.heap.size + 1 + 1, 1, none⟩ = some (.int .i64 0) := bc hb (by first | exact r1_1 | exact ca r1_1 | exact ca (ca r1_1) | exact ca (ca (ca r1_1)) | (simp; done) | go_simp)
  have rf1_2 : w2.frozen? ⟨w.heap.size + 1 + 1, 1, none⟩ = false := bf hb (by first | (simp; done) | (simp; omega) | (show w.heap.size + 1 + 1 < _; omega)) (by first | exact rf1_1 | exact fa (by show w.heap.size + 1 + 1 < _; omega) rf1_1 | exact fa (by show w.heap.size + 1 + 1 < _; simp; omega) (fa (by show w.heap.size + 1 + 1 < _; omega) rf1_1) | (simp; done) | go_simp)
  have rl_2 : w.heap.size + 1 + 1 < w2.heap.size := cell_lt r0_2
  clear r0_1 rf0_1 r1_1 rf1_1 rl_1
  have hszw2 := below_size hb
  try simp at hszw2
  have HBq : Below w.heap.size w w2 := Below.trans (by repeat (first | exact Below.refl _ _ | exact HB.out | refine Below.drew ?_ | refine bel_drewN _ ?_ | refine Below.alloc ?_ (by first | omega | (simp; done) | (simp; omega)) _ | refine Below.setCell ?_ (by first | (show _ ≤ _; omega) | (simp; done) | (simp; omega)) _)) (hb.mono (by first | omega | (simp; done) | (simp; omega)))
  have HB := Lib.hid HBq
  clear HBq hb
  go_wp2_with fail
  refine (HF.out _).mono ?_
  rintro e w3 ⟨rfl, hb⟩
  have a0_3 : w3.cell? ⟨w.heap.size, 0, none⟩ = some (.int .i64 a) := bc hb (by first | exact a0_2 | exact ca a0_2 | exact ca (ca a0_2) | exact ca (ca (ca a0_2)) | (simp; done) | go_simp)
  have a1_3 : w3.cell? ⟨w.heap.size, 1, none⟩ = some (.int .i64 b) := bc hb (by first | exact a1_2 | exact ca a1_2 | exact ca (ca a1_2) | exact ca (ca (ca a1_2)) | (simp; done) | go_simp)
  have al_3 : w.heap.size < w3.heap.size := cell_lt a0_3
  clear a0_2 a1_2 al_2
  have b0_3 : w3.cell? ⟨w.heap.size + 1, 0, none⟩ = some (.int .i64 c) := bc hb (by first | exact b0_2 | exact ca b0_2 | exact ca (ca b0_2) | exact ca (ca (ca b0_2)) | (simp; done) | go_simp)
  have b1_3 : w3.cell? ⟨w.heap.size + 1, 1, none⟩ = some (.int .i64 d) := bc hb (by first | exact b1_2 | exact ca b1_2 | exact ca (ca b1_2) | exact ca (ca (ca b1_2)) | (simp; done) | go_simp)
  have bl_3 : w.heap.size + 1 < w3.heap.size := cell_lt b0_3
  clear b0_2 b1_2 bl_2
  have r0_3 : w3.cell? ⟨w.heap.size + 1 + 1, 0, none⟩ = some (.int .i64 0) := bc hb (by first | exact r0_2 | exact ca r0_2 | exact ca (ca r0_2) | exact ca (ca (ca r0_2)) | (simp; done) | go_simp)
  have rf0_3 : w3.frozen? ⟨w.heap.size + 1 + 1, 0, none⟩ = false := bf hb (by first | (simp; done) | (simp; omega) | (show w.heap.size + 1 + 1 < _; omega)) (by first | exact rf0_2 | exact fa (by show w.heap.size + 1 + 1 < _; omega) rf0_2 | exact fa (by show w.heap.size + 1 + 1 < _; simp; omega) (fa (by show w.heap.size + 1 + 1 < _; omega) rf0_2) | (simp; done) | go_simp)
  have r1_3 : w3.cell? ⟨w.heap.size + 1 + 1, 1, none⟩ = some (.int .i64 0) := bc hb (by first | exact r1_2 | exact ca r1_2 | exact ca (ca r1_2) | exact ca (ca (ca r1_2)) | (simp; done) | go_simp)
  have rf1_3 : w3.frozen? ⟨w.heap.size + 1 + 1, 1, none⟩ = false := bf hb (by first | (simp; done) | (simp; omega) | (show w.heap.size + 1 + 1 < _; omega)) (by first | exact rf1_2 | exact fa (by show w.heap.size + 1 + 1 < _; omega) rf1_2 | exact fa (by show w.heap.size + 1 + 1 < _; simp; omega) (fa (by show w.heap.size + 1 + 1 < _; omega) rf1_2) | (simp; done) | go_simp)
  have rl_3 : w.heap.size + 1 + 1 < w3.heap.size := cell_lt r0_3
  clear r0_2 rf0_2 r1_2 rf1_2 rl_2
  have hszw3 := below_size hb
  try simp at hszw3
  have HBq : Below w.heap.size w w3 := Below.trans (by repeat (first | exact Below.refl _ _ | exact HB.out | refine Below.drew ?_ | refine bel_drewN _ ?_ | refine Below.alloc ?_ (by first | omega | (simp; done) | (simp; omega)) _ | refine Below.setCell ?_ (by first | (show _ ≤ _; omega) | (simp; done) | (simp; omega)) _)) (hb.mono (by first | omega | (simp; done) | (simp; omega)))
  have HB := Lib.hid HBq
  clear HBq hb
  go_wp2_with fail
  refine (H3.out _).mono ?_
  rintro e w4 ⟨rfl, hb⟩
  have a0_4 : w4.cell? ⟨w.heap.size, 0, none⟩ = some (.int .i64 a) := bc hb (by first | exact a0_3 | exact ca a0_3 | exact ca (ca a0_3) | exact ca (ca (ca a0_3)) | (simp; done) | go_simp)
  have a1_4 : w4.cell? ⟨w.heap.size, 1, none⟩ = some (.int .i64 b) := bc hb (by first | exact a1_3 | exact ca a1_3 | exact ca (ca a1_3) | exact ca (ca (ca a1_3)) | (simp; done) | go_simp)
  have al_4 : w.heap.size < w4.heap.size := cell_lt a0_4
  clear a0_3 a1_3 al_3
  have b0_4 : w4.cell? ⟨w.heap.size + 1, 0, none⟩ = some (.int .i64 c) := bc hb (by first | exact b0_3 | exact ca b0_3 | exact ca (ca b0_3) | exact ca (ca (ca b0_3)) | (simp; done) | go_simp)
  have b1_4 : w4.cell? ⟨w.heap.size + 1, 1, none⟩ = some (.int .i64 d) := bc hb (by first | exact b1_3 | exact ca b1_3 | exact ca (ca b1_3) | exact ca (ca (ca b1_3)) | (simp; done) | go_simp)
  have bl_4 : w.heap.size + 1 < w4.heap.size := cell_lt b0_4
  clear b0_3 b1_3 bl_3
  have r0_4 : w4.cell? ⟨w.heap.size + 1 + 1, 0, none⟩ = some (.int .i64 0) := bc hb (by first | exact r0_3 | exact ca r0_3 | exact ca (ca r0_3) | exact ca (ca (ca r0_3)) | (simp; done) | go_simp)
  have rf0_4 : w4.frozen? ⟨w.heap.size + 1 + 1, 0, none⟩ = false := bf hb (by first | (simp; done) | (simp; omega) | (show w.heap.size + 1 + 1 < _; omega)) (by first | exact rf0_3 | exact fa (by show w.heap.size + 1 + 1 < _; omega) rf0_3 | exact fa (by show w.heap.size + 1 + 1 < _; simp; omega) (fa (by show w.heap.size + 1 + 1 < _; omega) rf0_3) | (simp; done) | go_simp)
  have r1_4 : w4.cell? ⟨w.heap.size + 1 + 1, 1, none⟩ = some (.int .i64 0) := bc hb (by first | exact r1_3 | exact ca r1_3 | exact ca (ca r1_3) | exact ca (ca (ca r1_3)) | (simp; done) | go_simp)
  have rf1_4 : w4.frozen? ⟨w.heap.size + 1 + 1, 1, none⟩ = false := bf hb (by first | (simp; done) | (simp; omega) | (show w.heap.size + 1 + 1 < _; omega)) (by first | exact rf1_3 | exact fa (by show w.heap.size + 1 + 1 < _; omega) rf1_3 | exact fa (by show w.heap.size + 1 + 1 < _; simp; omega) (fa (by show w.heap.size + 1 + 1 < _; omega) rf1_3) | (simp; done) | go_simp)
  have rl_4 : w.heap.size + 1 + 1 < w4.heap.size := cell_lt r0_4
  clear r0_3 rf0_3 r1_3 rf1_3 rl_3
  have hszw4 := below_size hb
  try simp at hszw4
  have HBq : Below w.heap.size w w4 := Below.trans (by repeat (first | exact Below.refl _ _ | exact HB.out | refine Below.drew ?_ | refine bel_drewN _ ?_ | refine Below.alloc ?_ (by first | omega | (simp; done) | (simp; omega)) _ | refine Below.setCell ?_ (by first | (show _ ≤ _; omega) | (simp; done) | (simp; omega)) _)) (hb.mono (by first | omega | (simp; done) | (simp; omega)))
  have HB := Lib.hid HBq
  clear HBq hb
  go_wp2
  refine bodyPost_ret (res2v (b := w.heap.size + 1 + 1) Tryd.results32 (by rfl) (by rfl) ⟨sc_far (by simp) (sc_same (by assumption)), sc_same (sc_far (by simp) (by assumption))⟩) rfl ⟨rfl, ?_⟩
  exact Below.setCell (Below.setCell HB.out (by show w.heap.size ≤ w.heap.size + 1 + 1; omega) _) (by show w.heap.size ≤ w.heap.size + 1 + 1; omega) _
set_option maxHeartbeats 1000000 in
theorem bothTimes_any (a b c d lo hi : Int) (w : World) (h1 : RgOk a b) (h2 : RgOk c d) (h3 : RgOk lo hi)
    (hF : ∀ W : World, Calls Tryd.prog 33 #[.agg #[.int .i64 a, .int .i64 b], .agg #[.int .i64 c, .int .i64 d]] W (RP lo hi W)) :
    Calls Tryd.prog 32 #[.agg #[.int .i64 a, .int .i64 b], .agg #[.int .i64 c, .int .i64 d], .func (.func 33) #[] #[]] w (RPv lo hi w) := by
  have H1 := Lib.hid (fun W => checked_any a b W h1)
  have H2 := Lib.hid (fun W => checked_any c d W h2)
  have H3 := Lib.hid (fun W => checked_any lo hi W h3)
  have HF := Lib.hid hF
  clear h1 h2 h3 hF
  go_enter Tryd.func32, Tryd.ntmps32
  have HB := Lib.hid (Below.refl w.heap.size w)
  go_wp2_with fail
  refine (H1.out _).mono ?_
  rintro e w1 ⟨rfl, hb⟩
  have a0_1 : w1.cell? ⟨w.heap.size, 0, none⟩ = some (.int .i64 a) := bc hb (by first | (simp; done) | go_simp)
  have a1_1 : w1.cell? ⟨w.heap.size, 1, none⟩ = some (.int .i64 b) := bc hb (by first | (simp; done) | go_simp)
  have al_1 : w.heap.size < w1.heap.size := cell_lt a0_1
  have b0_1 : w1.cell? ⟨w.heap.size + 1, 0, none⟩ = some (.int .i64 c) := bc hb (by first | (simp; done) | go_simp)
  have b1_1 : w1.cell? ⟨w.heap.size + 1, 1, none⟩ = some (.int .i64 d) := bc hb (by first | (simp; done) | go_simp)
  have bl_1 : w.heap.size + 1 < w1.heap.size := cell_lt b0_1
  have r0_1 : w1.cell? ⟨w.heap.size + 1 + 1, 0, none⟩ = some (.int .i64 0) := bc hb (by first | (simp; done) | go_simp)
  have rf0_1 : w1.frozen? ⟨w.heap.size + 1 + 1, 0, none⟩ = false := bf hb (by first | (simp; done) | (simp; omega) | (show w.heap.size + 1 + 1 < _; omega)) (by first | (simp; done) | go_simp)
  have r1_1 : w1.cell? ⟨w.heap.size + 1 + 1, 1, none⟩ = some (.int .i64 0) := bc hb (by first | (simp; done) | go_simp)
  have rf1_1 : w1.frozen? ⟨w.heap.size + 1 + 1, 1, none⟩ = false := bf hb (by first | (simp; done) | (simp; omega) | (show w.heap.size + 1 + 1 < _; omega)) (by first | (simp; done) | go_simp)
  have rl_1 : w.heap.size + 1 + 1 < w1.heap.size := cell_lt r0_1
  have hszw1 := below_size hb
  try simp at hszw1
  have HBq : Below w.heap.size w w1 := Below.trans (by repeat (first | exact Below.refl _ _ | exact HB.out | refine Below.drew ?_ | refine bel_drewN _ ?_ | refine Below.alloc ?_ (by first | omega | (simp; done) | (simp; omega)) _ | refine Below.setCell ?_ (by first | (show _ ≤ _; omega) | (simp; done) | (simp; omega)) _)) (hb.mono (by first | omega | (simp; done) | (simp; omega)))
  have HB := Lib.hid HBq
  clear HBq hb
  go_wp2_with fail
  refine (H2.out _).mono ?_
  rintro e w2 ⟨rfl, hb⟩
  have a0_2 : w2.cell? ⟨w.heap.size, 0, none⟩ = some (.int .i64 a) := bc hb (by first | exact a0_1 | exact ca a0_1 | exact ca (ca a0_1) | exact ca (ca (ca a0_1)) | (simp; done) | go_simp)
  have a1_2 : w2.cell? ⟨w.heap.size, 1, none⟩ = some (.int .i64 b) := bc hb (by first | exact a1_1 | exact ca a1_1 | exact ca (ca a1_1) | exact ca (ca (ca a1_1)) | (simp; done) | go_simp)
  have al_2 : w.heap.size < w2.heap.size := cell_lt a0_2
  clear a0_1 a1_1 al_1
  have b0_2 : w2.cell? ⟨w.heap.size + 1, 0, none⟩ = some (.int .i64 c) := bc hb (by first | exact b0_1 | exact ca b0_1 | exact ca (ca b0_1) | exact ca (ca (ca b0_1)) | (simp; done) | go_simp)
  have b1_2 : w2.cell? ⟨w.heap.size + 1, 1, none⟩ = some (.int .i64 d) := bc hb (by first | exact b1_1 | exact ca b1_1 | exact ca (ca b1_1) | exact ca (ca (ca b1_1)) | (simp; done) | go_simp)
  have bl_2 : w.heap.size + 1 < w2.heap.size := cell_lt b0_2
  clear b0_1 b1_1 bl_1
  have r0_2 : w2.cell? ⟨w.heap.size + 1 + 1, 0, none⟩ = some (.int .i64 0) := bc hb (by first | exact r0_1 | exact ca r0_1 | exact ca (ca r0_1) | exact ca (ca (ca r0_1)) | (simp; done) | go_simp)
  have rf0_2 : w2.frozen? ⟨w.heap.size + 1 + 1, 0, none⟩ = false := bf hb (by first | (simp; done) | (simp; omega) | (show w.heap.size + 1 + 1 < _; omega)) (by first | exact rf0_1 | exact fa (by show w.heap.size + 1 + 1 < _; omega) rf0_1 | exact fa (by show w.heap.size + 1 + 1 < _; simp; omega) (fa (by show w.heap.size + 1 + 1 < _; omega) rf0_1) | (simp; done) | go_simp)
  have r1_2 : w2.cell? ⟨w.heap.size + 1 + 1, 1, none⟩ = some (.int .i64 0) := bc hb (by first | exact r1_1 | exact ca r1_1 | exact ca (ca r1_1) | exact ca (ca (ca r1_1)) | (simp; done) | go_simp)
  have rf1_2 : w2.frozen? ⟨w.heap.size + 1 + 1, 1, none⟩ = false := bf hb (by first | (simp; done) | (simp; omega) | (show w.heap.size + 1 + 1 < _; omega)) (by first | exact rf1_1 | exact fa (by show w.heap.size + 1 + 1 < _; omega) rf1_1 | exact fa (by show w.heap.size + 1 + 1 < _; simp; omega) (fa (by show w.heap.size + 1 + 1 < _; omega) rf1_1) | (simp; done) | go_simp)
  have rl_2 : w.heap.size + 1 + 1 < w2.heap.size := cell_lt r0_2
  clear r0_1 rf0_1 r1_1 rf1_1 rl_1
  have hszw2 := below_size hb
  try simp at hszw2
  have HBq : Below w.heap.size w w2 := Below.trans (by repeat (first | exact Below.refl _ _ | exact HB.out | refine Below.drew ?_ | refine bel_drewN _ ?_ | refine Below.alloc ?_ (by first | omega | (simp; done) | (simp; omega)) _ | refine Below.setCell ?_ (by first | (show _ ≤ _; omega) | (simp; done) | (simp; omega)) _)) (hb.mono (by first | omega | (simp; done) | (simp; omega)))
  have HB := Lib.hid HBq
  clear HBq hb
  go_wp2_with fail
  refine (HF.out _).mono ?_
  rintro e w3 ⟨rfl, hb⟩
  have a0_3 : w3.cell? ⟨w.heap.size, 0, none⟩ = some (.int .i64 a) := bc hb (by first | exact a0_2 | exact ca a0_2 | exact ca (ca a0_2) | exact ca (ca (ca a0_2)) | (simp; done) | go_simp)
  have a1_3 : w3.cell? ⟨w.heap.size, 1, none⟩ = some (.int .i64 b) := bc hb (by first | exact a1_2 | exact ca a1_2 | exact ca (ca a1_2) | exact ca (ca (ca a1_2)) | (simp; done) | go_simp)
  have al_3 : w.heap.size < w3.heap.size := cell_lt a0_3
  clear a0_2 a1_2 al_2
  have b0_3 : w3.cell? ⟨w.heap.size + 1, 0, none⟩ = some (.int .i64 c) := bc hb (by first | exact b0_2 | exact ca b0_2 | exact ca (ca b0_2) | exact ca (ca (ca b0_2)) | (simp; done) | go_simp)
  have b1_3 : w3.cell? ⟨w.heap.size + 1, 1, none⟩ = some (.int .i64 d) := bc hb (by first | exact b1_2 | exact ca b1_2 | exact ca (ca b1_2) | exact ca (ca (ca b1_2)) | (simp; done) | go_simp)
  have bl_3 : w.heap.size + 1 < w3.heap.size := cell_lt b0_3
  clear b0_2 b1_2 bl_2
  have r0_3 : w3.cell? ⟨w.heap.size + 1 + 1, 0, none⟩ = some (.int .i64 0) := bc hb (by first | exact r0_2 | exact ca r0_2 | exact ca (ca r0_2) | exact ca (ca (ca r0_2)) | (simp; done) | go_simp)
  have rf0_3 : w3.frozen? ⟨w.heap.size + 1 + 1, 0, none⟩ = false := bf hb (by first | (simp; done) | (simp; omega) | (show w.heap.size + 1 + 1 < _; omega)) (by first | exact rf0_2 | exact fa (by show w.heap.size + 1 + 1 < _; omega) rf0_2 | exact fa (by show w.heap.size + 1 + 1 < _; simp; omega) (fa (by show w.heap.size + 1 + 1 < _; omega) rf0_2) | (simp; done) | go_simp)
  have r1_3 : w3.cell? ⟨w.heap.size + 1 + 1, 1, none⟩ = some (.int .i64 0) := bc hb (by first | exact r1_2 | exact ca r1_2 | exact ca (ca r1_2) | exact ca (ca (ca r1_2)) | (simp; done) | go_simp)
  have rf1_3 : w3.frozen? ⟨w.heap.size + 1 + 1, 1, none⟩ = false := bf hb (by first | (simp; done) | (simp; omega) | (show w.heap.size + 1 + 1 < _; omega)) (by first | exact rf1_2 | exact fa (by show w.heap.size + 1 + 1 < _; omega) rf1_2 | exact fa (by show w.heap.size + 1 + 1 < _; simp; omega) (fa (by show w.heap.size + 1 + 1 < _; omega) rf1_2) | (simp; done) | go_simp)
  have rl_3 : w.heap.size + 1 + 1 < w3.heap.size := cell_lt r0_3
  clear r0_2 rf0_2 r1_2 rf1_2 rl_2
  have hszw3 := below_size hb
  try simp at hszw3
  have HBq : Below w.heap.size w w3 := Below.trans (by repeat (first | exact Below.refl _ _ | exact HB.out | refine Below.drew ?_ | refine bel_drewN _ ?_ | refine Below.alloc ?_ (by first | omega | (simp; done) | (simp; omega)) _ | refine Below.setCell ?_ (by first | (show _ ≤ _; omega) | (simp; done) | (simp; omega)) _)) (hb.mono (by first | omega | (simp; done) | (simp; omega)))
  have HB := Lib.hid HBq
  clear HBq hb
  go_wp2_with fail
  refine (H3.out _).mono ?_
  rintro e w4 ⟨rfl, hb⟩
  have a0_4 : w4.cell? ⟨w.heap.size, 0, none⟩ = some (.int .i64 a) := bc hb (by first | exact a0_3 | exact ca a0_3 | exact ca (ca a0_3) | exact ca (ca (ca a0_3)) | (simp; done) | go_simp)
  have a1_4 : w4.cell? ⟨w.heap.size, 1, none⟩ = some (.int .i64 b) := bc hb (by first | exact a1_3 | exact ca a1_3 | exact ca (ca a1_3) | exact ca (ca (ca a1_3)) | (simp; done) | go_simp)
  have al_4 : w.heap.size < w4.heap.size := cell_lt a0_4
  clear a0_3 a1_3 al_3
  have b0_4 : w4.cell? ⟨w.heap.size + 1, 0, none⟩ = some (.int .i64 c) := bc hb (by first | exact b0_3 | exact ca b0_3 | exact ca (ca b0_3) | exact ca (ca (ca b0_3)) | (simp; done) | go_simp)
  have b1_4 : w4.cell? ⟨w.heap.size + 1, 1, none⟩ = some (.int .i64 d) := bc hb (by first | exact b1_3 | exact ca b1_3 | exact ca (ca b1_3) | exact ca (ca (ca b1_3)) | (simp; done) | go_simp)
  have bl_4 : w.heap.size + 1 < w4.heap.size := cell_lt b0_4
  clear b0_3 b1_3 bl_3
  have r0_4 : w4.cell? ⟨w.heap.size + 1 + 1, 0, none⟩ = some (.int .i64 0) := bc hb (by first | exact r0_3 | exact ca r0_3 | exact ca (ca r0_3) | exact ca (ca (ca r0_3)) | (simp; done) | go_simp)
  have rf0_4 : w4.frozen? ⟨w.heap.size + 1 + 1, 0, none⟩ = false := bf hb (by first | (simp; done) | (simp; omega) | (show w.heap.size + 1 + 1 < _; omega)) (by first | exact rf0_3 | exact fa (by show w.heap.size + 1 + 1 < _; omega) rf0_3 | exact fa (by show w.heap.size + 1 + 1 < _; simp; omega) (fa (by show w.heap.size + 1 + 1 < _; omega) rf0_3) | (simp; done) | go_simp)
  have r1_4 : w4.cell? ⟨w.heap.size + 1 + 1, 1, none⟩ = some (.int .i64 0) := bc hb (by first | exact r1_3 | exact ca r1_3 | exact ca (ca r1_3) | exact ca (ca (ca r1_3)) | (simp; done) | go_simp)
  have rf1_4 : w4.frozen? ⟨w.heap.size + 1 + 1, 1, none⟩ = false := bf hb (by first | (simp; done) | (simp; omega) | (show w.heap.size + 1 + 1 < _; omega)) (by first | exact rf1_3 | exact fa (by show w.heap.size + 1 + 1 < _; omega) rf1_3 | exact fa (by show w.heap.size + 1 + 1 < _; simp; omega) (fa (by show w.heap.size + 1 + 1 < _; omega) rf1_3) | (simp; done) | go_simp)
  have rl_4 : w.heap.size + 1 + 1 < w4.heap.size := cell_lt r0_4
  clear r0_3 rf0_3 r1_3 rf1_3 rl_3
  have hszw4 := below_size hb
  try simp at hszw4
  have HBq : Below w.heap.size w w4 := Below.trans (by repeat (first | exact Below.refl _ _ | exact HB.out | refine Below.drew ?_ | refine bel_drewN _ ?_ | refine Below.alloc ?_ (by first | omega | (simp; done) | (simp; omega)) _ | refine Below.setCell ?_ (by first | (show _ ≤ _; omega) | (simp; done) | (simp; omega)) _)) (hb.mono (by first | omega | (simp; done) | (simp; omega)))
  have HB := Lib.hid HBq
  clear HBq hb
  go_wp2
  refine bodyPost_ret (res2v (b := w.heap.size + 1 + 1) Tryd.results32 (by rfl) (by rfl) ⟨sc_far (by simp) (sc_same (by assumption)), sc_same (sc_far (by simp) (by assumption))⟩) rfl ⟨rfl, ?_⟩
  exact Below.setCell (Below.setCell HB.out (by show w.heap.size ≤ w.heap.size + 1 + 1; omega) _) (by show w.heap.size ≤ w.heap.size + 1 + 1; omega) _
set_option maxHeartbeats 1000000 in
theorem through_any (a b c d : Int) (w : World) (h1 : RgOk a b) (h2 : RgOk c d) (h3 : RgOk (a * 1000000 / d) (cdiv (b * 1000000) c)) (ha : 0 ≤ a) (hc : 1 ≤ c) :
    Calls Tryd.prog 26 #[.agg #[.int .i64 a, .int .i64 b], .agg #[.int .i64 c, .int .i64 d]] w (RPv (a * 1000000 / d) (cdiv (b * 1000000) c) w) := by
  obtain ⟨k1, k2, k3⟩ := h1
  obtain ⟨k4, k5, k6⟩ := h2
  have HH := Lib.hid (fun W => bothRatio_any a b c d _ _ W ⟨k1, k2, k3⟩ ⟨k4, k5, k6⟩ h3 (fun W => ratioI_any a b c d W (by omega) (by omega) (by omega) (by omega)))
  have d1 : decide (a < 0) = false := decide_eq_false (by omega)
  have d2 : decide (c ≤ 0) = false := decide_eq_false (by omega)
  generalize a * 1000000 / d = lo at *
  generalize cdiv (b * 1000000) c = hi at *
  clear h3
  go_enter Tryd.func26, Tryd.ntmps26
  have HB := Lib.hid (Below.refl w.heap.size w)
  go_wp2_with fail
  refine (HH.out _).mono ?_
  rintro e w1 ⟨rfl, hb⟩
  have a0_1 : w1.cell? ⟨w.heap.size, 0, none⟩ = some (.int .i64 a) := bc hb (by first | (simp; done) | go_simp)
  have a1_1 : w1.cell? ⟨w.heap.size, 1, none⟩ = some (.int .i64 b) := bc hb (by first | (simp; done) | go_simp)
  have al_1 : w.heap.size < w1.heap.size := cell_lt a0_1
  have b0_1 : w1.cell? ⟨w.heap.size + 1, 0, none⟩ = some (.int .i64 c) := bc hb (by first | (simp; done) | go_simp)
  have b1_1 : w1.cell? ⟨w.heap.size + 1, 1, none⟩ = some (.int .i64 d) := bc hb (by first | (simp; done) | go_simp)
  have bl_1 : w.heap.size + 1 < w1.heap.size := cell_lt b0_1
  have r0_1 : w1.cell? ⟨w.heap.size + 1 + 1, 0, none⟩ = some (.int .i64 0) := bc hb (by first | (simp; done) | go_simp)
  have rf0_1 : w1.frozen? ⟨w.heap.size + 1 + 1, 0, none⟩ = false := bf hb (by first | (simp; done) | (simp; omega) | (show w.heap.size + 1 + 1 < _; omega)) (by first | (simp; done) | go_simp)
  have r1_1 : w1.cell? ⟨w.heap.size + 1 + 1, 1, none⟩ = some (.int .i64 0) := bc hb (by first | (simp; done) | go_simp)
  have rf1_1 : w1.frozen? ⟨w.heap.size + 1 + 1, 1, none⟩ = false := bf hb (by first | (simp; done) | (simp; omega) | (show w.heap.size + 1 + 1 < _; omega)) (by first | (simp; done) | go_simp)
  have rl_1 : w.heap.size + 1 + 1 < w1.heap.size := cell_lt r0_1
  have hszw1 := below_size hb
  try simp at hszw1
  have HBq : Below w.heap.size w w1 := Below.trans (by repeat (first | exact Below.refl _ _ | exact HB.out | refine Below.drew ?_ | refine bel_drewN _ ?_ | refine Below.alloc ?_ (by first | omega | (simp; done) | (simp; omega)) _ | refine Below.setCell ?_ (by first | (show _ ≤ _; omega) | (simp; done) | (simp; omega)) _)) (hb.mono (by first | omega | (simp; done) | (simp; omega)))
  have HB := Lib.hid HBq
  clear HBq hb
  go_wp2
  refine bodyPost_ret (res2v (b := w.heap.size + 1 + 1) Tryd.results26 (by rfl) (by rfl) ⟨sc_far (by simp) (sc_same (by assumption)), sc_same (sc_far (by simp) (by assumption))⟩) rfl ⟨rfl, ?_⟩
  exact Below.setCell (Below.setCell HB.out (by show w.heap.size ≤ w.heap.size + 1 + 1; omega) _) (by show w.heap.size ≤ w.heap.size + 1 + 1; omega) _
end Go.Proofs.YtmidbphfbaldiaaDoor
