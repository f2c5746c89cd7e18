/- Repos: rolling. -/
import Derived.Test.YtiplcndacmicoaaDoorRepo
import Derived.Test.YtiplcndacmicoaaDoorSt5
import Derived.Deep.RegionHeld3
import Derived.IntWalk
namespace Go.Proofs.YtiplcndacmicoaaDoor
open Go.RowKit
set_option linter.unusedVariables false
theorem sc_ne {w : World} {p q : Addr} {v u : Value} (h : w.cell? p = some v) (hne : p.block ≠ q.block) : (w.setCell q u).cell? p = some v :=
  (World.cell?_setCell_other _ _ _ _ (by intro e; rw [e] at hne; exact hne rfl)).trans h
set_option maxHeartbeats 2000000 in
theorem rollI_no (c r a b h t q : Int) (w : World) (k : rpB c r a b h = false) :
    Calls Tryd.prog 8 #[.agg #[.int .i64 c, .int .i64 r, .int .i64 a, .int .i64 b, .int .i64 h], .int .i64 t, .int .i64 q] w fun e w' => e = .returned (.tuple #[.agg #[.int .i64 0, .int .i64 0, .int .i64 0, .int .i64 0, .int .i64 0], .bool false]) ∧ Below w.heap.size w w' := by
  go_enter Tryd.func8, Tryd.ntmps8
  have HB := Lib.hid (Below.refl w.heap.size w)
  go_wp2_with fail
  refine (validRepoI_any c r a b h _).mono ?_
  rintro e w1 ⟨rfl, hb⟩
  have x0_1 : w1.cell? ⟨w.heap.size, 0, none⟩ = some (.int .i64 c) := bc hb (by first | (simp; done) | go_simp)
  have x1_1 : w1.cell? ⟨w.heap.size, 1, none⟩ = some (.int .i64 r) := bc hb (by first | (simp; done) | go_simp)
  have x2_1 : w1.cell? ⟨w.heap.size, 2, none⟩ = some (.int .i64 a) := bc hb (by first | (simp; done) | go_simp)
  have x3_1 : w1.cell? ⟨w.heap.size, 3, none⟩ = some (.int .i64 b) := bc hb (by first | (simp; done) | go_simp)
  have x4_1 : w1.cell? ⟨w.heap.size, 4, none⟩ = some (.int .i64 h) := bc hb (by first | (simp; done) | go_simp)
  have xl_1 : w.heap.size < w1.heap.size := cell_lt x0_1
  have y0_1 : w1.cell? ⟨w.heap.size + 1, 0, none⟩ = some (.int .i64 0) := bc hb (by first | (simp; done) | go_simp)
  have yf0_1 : w1.frozen? ⟨w.heap.size + 1, 0, none⟩ = false := bf hb (by first | (simp; done) | (simp; omega) | (show w.heap.size + 1 < _; omega)) (by first | (simp; done) | go_simp)
  have y1_1 : w1.cell? ⟨w.heap.size + 1, 1, none⟩ = some (.int .i64 0) := bc hb (by first | (simp; done) | go_simp)
  have yf1_1 : w1.frozen? ⟨w.heap.size + 1, 1, none⟩ = false := bf hb (by first | (simp; done) | (simp; omega) | (show w.heap.size + 1 < _; omega)) (by first | (simp; done) | go_simp)
  have y2_1 : w1.cell? ⟨w.heap.size + 1, 2, none⟩ = some (.int .i64 0) := bc hb (by first | (simp; done) | go_simp)
  have yf2_1 : w1.frozen? ⟨w.heap.size + 1, 2, none⟩ = false := bf hb (by first | (simp; done) | (simp; omega) | (show w.heap.size + 1 < _; omega)) (by first | (simp; done) | go_simp)
  have y3_1 : w1.cell? ⟨w.heap.size + 1, 3, none⟩ = some (.int .i64 0) := bc hb (by first | (simp; done) | go_simp)
  have yf3_1 : w1.frozen? ⟨w.heap.size + 1, 3, none⟩ = false := bf hb (by first | (simp; done) | (simp; omega) | (show w.heap.size + 1 < _; omega)) (by first | (simp; done) | go_simp)
  have y4_1 : w1.cell? ⟨w.heap.size + 1, 4, none⟩ = some (.int .i64 0) := bc hb (by first | (simp; done) | go_simp)
  have yf4_1 : w1.frozen? ⟨w.heap.size + 1, 4, none⟩ = false := bf hb (by first | (simp; done) | (simp; omega) | (show w.heap.size + 1 < _; omega)) (by first | (simp; done) | go_simp)
  have yl_1 : w.heap.size + 1 < w1.heap.size := cell_lt y0_1
  have hszw1 := below_size hb
  try simp at hszw1
  have HBq : Below w.heap.size w w1 := Below.trans (by repeat (first | exact Below.refl _ _ | exact HB.out | refine Below.drew ?_ | refine bel_drewN _ ?_ | refine Below.alloc ?_ (by first | omega | (simp; done) | (simp; omega)) _ | refine Below.setCell ?_ (by first | (show _ ≤ _; omega) | (simp; done) | (simp; omega)) _)) (hb.mono (by first | omega | (simp; done) | (simp; omega)))
  have HB := Lib.hid HBq
  clear HBq hb
  go_wp2
  exact bodyPost_ret (v := .tuple #[.agg #[.int .i64 0, .int .i64 0, .int .i64 0, .int .i64 0, .int .i64 0], .bool false]) (by simp [results, Tryd.results8, go_sem, *]) rfl ⟨rfl, (by repeat (first | exact Below.refl _ _ | exact HB.out | refine Below.drew ?_ | refine bel_drewN _ ?_ | refine Below.alloc ?_ (by first | omega | (simp; done) | (simp; omega)) _ | refine Below.setCell ?_ (by first | (show _ ≤ _; omega) | (simp; done) | (simp; omega)) _))⟩
set_option maxHeartbeats 6000000 in
theorem rollI_a (c r a b h t q V : Int) (w : World) (hM : MD w) (k : rpB c r a b h = true) (hV : Hid (c + riV c r a b h = V)) (V0 : -10 ≤ V) (V1 : V ≤ 1000000000000000000) (c0 : 0 ≤ c) (c1 : c ≤ 100000000) (i0 : 0 ≤ riV c r a b h) (i1 : riV c r a b h ≤ 439200000000000000) (k2 : rpB V q b t h = false) :
    Calls Tryd.prog 8 #[.agg #[.int .i64 c, .int .i64 r, .int .i64 a, .int .i64 b, .int .i64 h], .int .i64 t, .int .i64 q] w fun e w' => e = .returned (.tuple #[.agg #[.int .i64 0, .int .i64 0, .int .i64 0, .int .i64 0, .int .i64 0], .bool false]) ∧ Below w.heap.size w w' := by
  have hM1 := hM.size
  have HM := Lib.hid hM
  clear hM
  go_enter Tryd.func8, Tryd.ntmps8
  have HB := Lib.hid (Below.refl w.heap.size w)
  go_wp2_with fail
  refine (validRepoI_any c r a b h _).mono ?_
  rintro e w1 ⟨rfl, hb⟩
  have x0_1 : w1.cell? ⟨w.heap.size, 0, none⟩ = some (.int .i64 c) := bc hb (by first | (simp; done) | go_simp)
  have x1_1 : w1.cell? ⟨w.heap.size, 1, none⟩ = some (.int .i64 r) := bc hb (by first | (simp; done) | go_simp)
  have x2_1 : w1.cell? ⟨w.heap.size, 2, none⟩ = some (.int .i64 a) := bc hb (by first | (simp; done) | go_simp)
  have x3_1 : w1.cell? ⟨w.heap.size, 3, none⟩ = some (.int .i64 b) := bc hb (by first | (simp; done) | go_simp)
  have x4_1 : w1.cell? ⟨w.heap.size, 4, none⟩ = some (.int .i64 h) := bc hb (by first | (simp; done) | go_simp)
  have xl_1 : w.heap.size < w1.heap.size := cell_lt x0_1
  have y0_1 : w1.cell? ⟨w.heap.size + 1, 0, none⟩ = some (.int .i64 0) := bc hb (by first | (simp; done) | go_simp)
  have yf0_1 : w1.frozen? ⟨w.heap.size + 1, 0, none⟩ = false := bf hb (by first | (simp; done) | (simp; omega) | (show w.heap.size + 1 < _; omega)) (by first | (simp; done) | go_simp)
  have y1_1 : w1.cell? ⟨w.heap.size + 1, 1, none⟩ = some (.int .i64 0) := bc hb (by first | (simp; done) | go_simp)
  have yf1_1 : w1.frozen? ⟨w.heap.size + 1, 1, none⟩ = false := bf hb (by first | (simp; done) | (simp; omega) | (show w.heap.size + 1 < _; omega)) (by first | (simp; done) | go_simp)
  have y2_1 : w1.cell? ⟨w.heap.size + 1, 2, none⟩ = some (.int .i64 0) := bc hb (by first | (simp; done) | go_simp)
  have yf2_1 : w1.frozen? ⟨w.heap.size + 1, 2, none⟩ = false := bf hb (by first | (simp; done) | (simp; omega) | (show w.heap.size + 1 < _; omega)) (by first | (simp; done) | go_simp)
  have y3_1 : w1.cell? ⟨w.heap.size + 1, 3, none⟩ = some (.int .i64 0) := bc hb (by first | (simp; done) | go_simp)
  have yf3_1 : w1.frozen? ⟨w.heap.size + 1, 3, none⟩ = false := bf hb (by first | (simp; done) | (simp; omega) | (show w.heap.size + 1 < _; omega)) (by first | (simp; done) | go_simp)
  have y4_1 : w1.cell? ⟨w.heap.size + 1, 4, none⟩ = some (.int .i64 0) := bc hb (by first | (simp; done) | go_simp)
  have yf4_1 : w1.frozen? ⟨w.heap.size + 1, 4, none⟩ = false := bf hb (by first | (simp; done) | (simp; omega) | (show w.heap.size + 1 < _; omega)) (by first | (simp; done) | go_simp)
  have yl_1 : w.heap.size + 1 < w1.heap.size := cell_lt y0_1
  have hszw1 := below_size hb
  try simp at hszw1
  have HBq : Below w.heap.size w w1 := Below.trans (by repeat (first | exact Below.refl _ _ | exact HB.out | refine Below.drew ?_ | refine bel_drewN _ ?_ | refine Below.alloc ?_ (by first | omega | (simp; done) | (simp; omega)) _ | refine Below.setCell ?_ (by first | (show _ ≤ _; omega) | (simp; done) | (simp; omega)) _)) (hb.mono (by first | omega | (simp; done) | (simp; omega)))
  have HB := Lib.hid HBq
  clear HBq hb
  have HM1 : Hid (MD w1) := HM.out.fwd (HB.out.mono hM1)
  have hlt : w.heap.size < w1.heap.size := by omega
  have HF : Hid (∀ o : Nat, MD (w1.drewN o)) := Lib.hid fun o => HM1.out.fwd ⟨rfl, rfl, rfl, Nat.le_refl _, fun _ _ => rfl⟩
  have HF2 : Hid (MD (w1.alloc (.cells #[.int .i64 0, .int .i64 0, .int .i64 0, .int .i64 0, .int .i64 0] 24)).drew) := HM1.out.fwd (by repeat (first | exact Below.refl _ _ | refine Below.drew ?_ | refine bel_drewN _ ?_ | refine Below.alloc ?_ (by first | omega | (simp; done) | (simp; omega)) _ | refine Below.setCell ?_ (by first | (show _ ≤ _; omega) | (simp; done) | (simp; omega)) _))
  have HF1 : Hid (MD w1.drew) := HM1.out.fwd ⟨rfl, rfl, rfl, Nat.le_refl _, fun _ _ => rfl⟩
  have hwr : IntKind.i64.wrap (c + riV c r a b h) = V := by rw [← hV.out]; exact IntWalk.i64_in _ (by omega)
  have hy : Has5 w1 (w.heap.size + 1) 0 0 0 0 0 := ⟨by assumption, by assumption, by assumption, by assumption, by assumption⟩
  have hu : Unf5 w1 (w.heap.size + 1) := ⟨by assumption, by assumption, by assumption, by assumption, by assumption⟩
  have hy1 : w.heap.size + 1 < w1.heap.size := by omega
  go_wp2_with fail
  go_region_held3 (fun w' => w'.cell? ⟨w.heap.size, 0, none⟩ = some (.int .i64 c) ∧ w'.cell? ⟨w.heap.size, 1, none⟩ = some (.int .i64 r) ∧ w'.cell? ⟨w.heap.size, 2, none⟩ = some (.int .i64 a) ∧ w'.cell? ⟨w.heap.size, 3, none⟩ = some (.int .i64 b) ∧ w'.cell? ⟨w.heap.size, 4, none⟩ = some (.int .i64 h)) ((go_split_ands; refine ⟨?_, ?_, ?_, ?_, ?_⟩ <;> ((repeat (with_reducible refine sc_ne ?_ (by first | (simp; omega) | omega))); first | assumption | (with_reducible exact bc hb (by first | assumption | (simp; assumption))) | (with_reducible exact ca (by assumption)) | (with_reducible exact ca (bc hb (by first | assumption | (simp; assumption)))) | (simp; assumption) | (simp; exact ca (by assumption)) | exact ca (by first | assumption | (simp; assumption)) | exact ca (bc hb (by first | assumption | (simp; assumption))))))
    (first | (go_at_call 11; ((with_reducible refine (repoIntI_any _ _ _ _ _ _ (by first | exact HF1.out | exact HF.out _ | exact HF2.out)).mono ?_)); rintro e v ⟨rfl, hb⟩; first | ((with_reducible have hq : Below (w1.alloc (.cells #[.int .i64 0, .int .i64 0, .int .i64 0, .int .i64 0, .int .i64 0] 24)).drew.heap.size (w1.alloc (.cells #[.int .i64 0, .int .i64 0, .int .i64 0, .int .i64 0, .int .i64 0] 24)).drew v := hb); have n0 : v.cell? ⟨w1.heap.size, 0, none⟩ = some (.int .i64 0) := bc hq (by simp); have f0 : v.frozen? ⟨w1.heap.size, 0, none⟩ = false := bf hq (by simp) (by simp); have n1 : v.cell? ⟨w1.heap.size, 1, none⟩ = some (.int .i64 0) := bc hq (by simp); have f1 : v.frozen? ⟨w1.heap.size, 1, none⟩ = false := bf hq (by simp) (by simp); have n2 : v.cell? ⟨w1.heap.size, 2, none⟩ = some (.int .i64 0) := bc hq (by simp); have f2 : v.frozen? ⟨w1.heap.size, 2, none⟩ = false := bf hq (by simp) (by simp); have n3 : v.cell? ⟨w1.heap.size, 3, none⟩ = some (.int .i64 0) := bc hq (by simp); have f3 : v.frozen? ⟨w1.heap.size, 3, none⟩ = false := bf hq (by simp) (by simp); have n4 : v.cell? ⟨w1.heap.size, 4, none⟩ = some (.int .i64 0) := bc hq (by simp); have f4 : v.frozen? ⟨w1.heap.size, 4, none⟩ = false := bf hq (by simp) (by simp); clear hq) | skip))
  · have hlv := hb.size
    simp at hlv
    have hyv : Has5 v (w.heap.size + 1) 0 0 0 0 0 := by refine Has5.below ?_ hb; first | exact hy | exact Has5.drew hy
    have huv : Unf5 v (w.heap.size + 1) := by refine Unf5.below ?_ hb ?_ <;> first | exact hu | (show w.heap.size + 1 < w1.heap.size; omega)
    go_wp2_with fail
    refine (validRepoI_any V q b t h _).mono ?_
    rintro e w5 ⟨rfl, hb5⟩
    have hn : Has5 w5 v.heap.size V q b t h := Has5.below (Has5.new v V q b t h _) hb5
    have hy5 : Has5 w5 (w.heap.size + 1) 0 0 0 0 0 := Has5.below (Has5.alloc hyv _) hb5
    have hu5 : Unf5 w5 (w.heap.size + 1) := Unf5.below (Unf5.alloc huv (by omega) _) hb5 (by simp; omega)
    have HBq : Hid (Below w.heap.size w w5) := Lib.hid ((((HB.out.drew).trans (hb.mono (by simp; omega))).alloc (by omega) _).trans (hb5.mono (by simp; omega)))
    have hs5 := hb5.size
    have hne : v.heap.size ≠ w.heap.size + 1 := by omega
    obtain ⟨n0, n1, n2, n3, n4⟩ := hn
    obtain ⟨g0, g1, g2, g3, g4⟩ := hy5
    obtain ⟨f0, f1, f2, f3, f4⟩ := hu5
    clear hb5 hb hy hu
    go_wp2
    have h6 := Has5.set (w := w5) (b := w.heap.size + 1) (n0 := 0) (n1 := 0) (n2 := 0) (n3 := 0) (n4 := 0) ⟨g0, g1, g2, g3, g4⟩
    have k6 := st5_below (n0 := 0) (n1 := 0) (n2 := 0) (n3 := 0) (n4 := 0) HBq.out (show w.heap.size ≤ w.heap.size + 1 by omega)
    clear n0 n1 n2 n3 n4 g0 g1 g2 g3 g4 f0 f1 f2 f3 f4
    change bodyPost _ _ _ _ _ (st5 w5 (w.heap.size + 1) (0) (0) (0) (0) (0))
    generalize st5 w5 (w.heap.size + 1) (0) (0) (0) (0) (0) = WF at *
    exact bodyPost_ret (res5t Tryd.results8 (by rfl) rfl h6) rfl ⟨rfl, k6⟩
  · have hlv := hb.size
    simp at hlv
    have hyv : Has5 v (w.heap.size + 1) 0 0 0 0 0 := by refine Has5.below ?_ hb; exact Has5.drew (Has5.alloc hy _)
    have huv : Unf5 v (w.heap.size + 1) := by refine Unf5.below ?_ hb ?_ <;> first | exact Unf5.drew (Unf5.alloc hu hy1 _) | (simp; omega)
    have hne1 : w1.heap.size ≠ w.heap.size + 1 := by omega
    have hnv : Has5 v w1.heap.size 0 0 0 0 0 := ⟨by assumption, by assumption, by assumption, by assumption, by assumption⟩
    go_wp2_with fail
    refine (validRepoI_any V q b t h _).mono ?_
    rintro e w5 ⟨rfl, hb5'⟩
    have hb5 : Below (st5 v w1.heap.size V q b t h).heap.size (st5 v w1.heap.size V q b t h) w5 := hb5'
    clear hb5'
    have hn : Has5 w5 w1.heap.size V q b t h := Has5.below (Has5.set hnv) hb5
    have hy5 : Has5 w5 (w.heap.size + 1) 0 0 0 0 0 := Has5.below (Has5.farst hyv hne1) hb5
    have hu5 : Unf5 w5 (w.heap.size + 1) := Unf5.below (Unf5.st huv) hb5 (by rw [st5_size]; omega)
    have HBq : Hid (Below w.heap.size w w5) := Lib.hid ((st5_below (((HB.out.alloc (by omega) _).drew).trans (hb.mono (by simp; omega))) (by omega)).trans (hb5.mono (by rw [st5_size]; omega)))
    have hs5 := hb5.size
    rw [st5_size] at hs5
    clear hnv
    obtain ⟨n0, n1, n2, n3, n4⟩ := hn
    obtain ⟨g0, g1, g2, g3, g4⟩ := hy5
    obtain ⟨f0, f1, f2, f3, f4⟩ := hu5
    clear hb5 hb hy hu
    go_wp2
    have h6 := Has5.set (w := w5) (b := w.heap.size + 1) (n0 := 0) (n1 := 0) (n2 := 0) (n3 := 0) (n4 := 0) ⟨g0, g1, g2, g3, g4⟩
    have k6 := st5_below (n0 := 0) (n1 := 0) (n2 := 0) (n3 := 0) (n4 := 0) HBq.out (show w.heap.size ≤ w.heap.size + 1 by omega)
    clear n0 n1 n2 n3 n4 g0 g1 g2 g3 g4 f0 f1 f2 f3 f4
    change bodyPost _ _ _ _ _ (st5 w5 (w.heap.size + 1) (0) (0) (0) (0) (0))
    generalize st5 w5 (w.heap.size + 1) (0) (0) (0) (0) (0) = WF at *
    exact bodyPost_ret (res5t Tryd.results8 (by rfl) rfl h6) rfl ⟨rfl, k6⟩
set_option maxHeartbeats 6000000 in
theorem rollI_b (c r a b h t q V : Int) (w : World) (hM : MD w) (k : rpB c r a b h = true) (hV : Hid (c + riV c r a b h = V)) (V0 : -10 ≤ V) (V1 : V ≤ 1000000000000000000) (c0 : 0 ≤ c) (c1 : c ≤ 100000000) (i0 : 0 ≤ riV c r a b h) (i1 : riV c r a b h ≤ 439200000000000000) (k2 : rpB V q b t h = true) :
    Calls Tryd.prog 8 #[.agg #[.int .i64 c, .int .i64 r, .int .i64 a, .int .i64 b, .int .i64 h], .int .i64 t, .int .i64 q] w fun e w' => e = .returned (.tuple #[.agg #[.int .i64 V, .int .i64 q, .int .i64 b, .int .i64 t, .int .i64 h], .bool true]) ∧ Below w.heap.size w w' := by
  have hM1 := hM.size
  have HM := Lib.hid hM
  clear hM
  go_enter Tryd.func8, Tryd.ntmps8
  have HB := Lib.hid (Below.refl w.heap.size w)
  go_wp2_with fail
  refine (validRepoI_any c r a b h _).mono ?_
  rintro e w1 ⟨rfl, hb⟩
  have x0_1 : w1.cell? ⟨w.heap.size, 0, none⟩ = some (.int .i64 c) := bc hb (by first | (simp; done) | go_simp)
  have x1_1 : w1.cell? ⟨w.heap.size, 1, none⟩ = some (.int .i64 r) := bc hb (by first | (simp; done) | go_simp)
  have x2_1 : w1.cell? ⟨w.heap.size, 2, none⟩ = some (.int .i64 a) := bc hb (by first | (simp; done) | go_simp)
  have x3_1 : w1.cell? ⟨w.heap.size, 3, none⟩ = some (.int .i64 b) := bc hb (by first | (simp; done) | go_simp)
  have x4_1 : w1.cell? ⟨w.heap.size, 4, none⟩ = some (.int .i64 h) := bc hb (by first | (simp; done) | go_simp)
  have xl_1 : w.heap.size < w1.heap.size := cell_lt x0_1
  have y0_1 : w1.cell? ⟨w.heap.size + 1, 0, none⟩ = some (.int .i64 0) := bc hb (by first | (simp; done) | go_simp)
  have yf0_1 : w1.frozen? ⟨w.heap.size + 1, 0, none⟩ = false := bf hb (by first | (simp; done) | (simp; omega) | (show w.heap.size + 1 < _; omega)) (by first | (simp; done) | go_simp)
  have y1_1 : w1.cell? ⟨w.heap.size + 1, 1, none⟩ = some (.int .i64 0) := bc hb (by first | (simp; done) | go_simp)
  have yf1_1 : w1.frozen? ⟨w.heap.size + 1, 1, none⟩ = false := bf hb (by first | (simp; done) | (simp; omega) | (show w.heap.size + 1 < _; omega)) (by first | (simp; done) | go_simp)
  have y2_1 : w1.cell? ⟨w.heap.size + 1, 2, none⟩ = some (.int .i64 0) := bc hb (by first | (simp; done) | go_simp)
  have yf2_1 : w1.frozen? ⟨w.heap.size + 1, 2, none⟩ = false := bf hb (by first | (simp; done) | (simp; omega) | (show w.heap.size + 1 < _; omega)) (by first | (simp; done) | go_simp)
  have y3_1 : w1.cell? ⟨w.heap.size + 1, 3, none⟩ = some (.int .i64 0) := bc hb (by first | (simp; done) | go_simp)
  have yf3_1 : w1.frozen? ⟨w.heap.size + 1, 3, none⟩ = false := bf hb (by first | (simp; done) | (simp; omega) | (show w.heap.size + 1 < _; omega)) (by first | (simp; done) | go_simp)
  have y4_1 : w1.cell? ⟨w.heap.size + 1, 4, none⟩ = some (.int .i64 0) := bc hb (by first | (simp; done) | go_simp)
  have yf4_1 : w1.frozen? ⟨w.heap.size + 1, 4, none⟩ = false := bf hb (by first | (simp; done) | (simp; omega) | (show w.heap.size + 1 < _; omega)) (by first | (simp; done) | go_simp)
  have yl_1 : w.heap.size + 1 < w1.heap.size := cell_lt y0_1
  have hszw1 := below_size hb
  try simp at hszw1
  have HBq : Below w.heap.size w w1 := Below.trans (by repeat (first | exact Below.refl _ _ | exact HB.out | refine Below.drew ?_ | refine bel_drewN _ ?_ | refine Below.alloc ?_ (by first | omega | (simp; done) | (simp; omega)) _ | refine Below.setCell ?_ (by first | (show _ ≤ _; omega) | (simp; done) | (simp; omega)) _)) (hb.mono (by first | omega | (simp; done) | (simp; omega)))
  have HB := Lib.hid HBq
  clear HBq hb
  have HM1 : Hid (MD w1) := HM.out.fwd (HB.out.mono hM1)
  have hlt : w.heap.size < w1.heap.size := by omega
  have HF : Hid (∀ o : Nat, MD (w1.drewN o)) := Lib.hid fun o => HM1.out.fwd ⟨rfl, rfl, rfl, Nat.le_refl _, fun _ _ => rfl⟩
  have HF2 : Hid (MD (w1.alloc (.cells #[.int .i64 0, .int .i64 0, .int .i64 0, .int .i64 0, .int .i64 0] 24)).drew) := HM1.out.fwd (by repeat (first | exact Below.refl _ _ | refine Below.drew ?_ | refine bel_drewN _ ?_ | refine Below.alloc ?_ (by first | omega | (simp; done) | (simp; omega)) _ | refine Below.setCell ?_ (by first | (show _ ≤ _; omega) | (simp; done) | (simp; omega)) _))
  have HF1 : Hid (MD w1.drew) := HM1.out.fwd ⟨rfl, rfl, rfl, Nat.le_refl _, fun _ _ => rfl⟩
  have hwr : IntKind.i64.wrap (c + riV c r a b h) = V := by rw [← hV.out]; exact IntWalk.i64_in _ (by omega)
  have hy : Has5 w1 (w.heap.size + 1) 0 0 0 0 0 := ⟨by assumption, by assumption, by assumption, by assumption, by assumption⟩
  have hu : Unf5 w1 (w.heap.size + 1) := ⟨by assumption, by assumption, by assumption, by assumption, by assumption⟩
  have hy1 : w.heap.size + 1 < w1.heap.size := by omega
  go_wp2_with fail
  go_region_held3 (fun w' => w'.cell? ⟨w.heap.size, 0, none⟩ = some (.int .i64 c) ∧ w'.cell? ⟨w.heap.size, 1, none⟩ = some (.int .i64 r) ∧ w'.cell? ⟨w.heap.size, 2, none⟩ = some (.int .i64 a) ∧ w'.cell? ⟨w.heap.size, 3, none⟩ = some (.int .i64 b) ∧ w'.cell? ⟨w.heap.size, 4, none⟩ = some (.int .i64 h)) ((go_split_ands; refine ⟨?_, ?_, ?_, ?_, ?_⟩ <;> ((repeat (with_reducible refine sc_ne ?_ (by first | (simp; omega) | omega))); first | assumption | (with_reducible exact bc hb (by first | assumption | (simp; assumption))) | (with_reducible exact ca (by assumption)) | (with_reducible exact ca (bc hb (by first | assumption | (simp; assumption)))) | (simp; assumption) | (simp; exact ca (by assumption)) | exact ca (by first | assumption | (simp; assumption)) | exact ca (bc hb (by first | assumption | (simp; assumption))))))
    (first | (go_at_call 11; ((with_reducible refine (repoIntI_any _ _ _ _ _ _ (by first | exact HF1.out | exact HF.out _ | exact HF2.out)).mono ?_)); rintro e v ⟨rfl, hb⟩; first | ((with_reducible have hq : Below (w1.alloc (.cells #[.int .i64 0, .int .i64 0, .int .i64 0, .int .i64 0, .int .i64 0] 24)).drew.heap.size (w1.alloc (.cells #[.int .i64 0, .int .i64 0, .int .i64 0, .int .i64 0, .int .i64 0] 24)).drew v := hb); have n0 : v.cell? ⟨w1.heap.size, 0, none⟩ = some (.int .i64 0) := bc hq (by simp); have f0 : v.frozen? ⟨w1.heap.size, 0, none⟩ = false := bf hq (by simp) (by simp); have n1 : v.cell? ⟨w1.heap.size, 1, none⟩ = some (.int .i64 0) := bc hq (by simp); have f1 : v.frozen? ⟨w1.heap.size, 1, none⟩ = false := bf hq (by simp) (by simp); have n2 : v.cell? ⟨w1.heap.size, 2, none⟩ = some (.int .i64 0) := bc hq (by simp); have f2 : v.frozen? ⟨w1.heap.size, 2, none⟩ = false := bf hq (by simp) (by simp); have n3 : v.cell? ⟨w1.heap.size, 3, none⟩ = some (.int .i64 0) := bc hq (by simp); have f3 : v.frozen? ⟨w1.heap.size, 3, none⟩ = false := bf hq (by simp) (by simp); have n4 : v.cell? ⟨w1.heap.size, 4, none⟩ = some (.int .i64 0) := bc hq (by simp); have f4 : v.frozen? ⟨w1.heap.size, 4, none⟩ = false := bf hq (by simp) (by simp); clear hq) | skip))
  · have hlv := hb.size
    simp at hlv
    have hyv : Has5 v (w.heap.size + 1) 0 0 0 0 0 := by refine Has5.below ?_ hb; first | exact hy | exact Has5.drew hy
    have huv : Unf5 v (w.heap.size + 1) := by refine Unf5.below ?_ hb ?_ <;> first | exact hu | (show w.heap.size + 1 < w1.heap.size; omega)
    go_wp2_with fail
    refine (validRepoI_any V q b t h _).mono ?_
    rintro e w5 ⟨rfl, hb5⟩
    have hn : Has5 w5 v.heap.size V q b t h := Has5.below (Has5.new v V q b t h _) hb5
    have hy5 : Has5 w5 (w.heap.size + 1) 0 0 0 0 0 := Has5.below (Has5.alloc hyv _) hb5
    have hu5 : Unf5 w5 (w.heap.size + 1) := Unf5.below (Unf5.alloc huv (by omega) _) hb5 (by simp; omega)
    have HBq : Hid (Below w.heap.size w w5) := Lib.hid ((((HB.out.drew).trans (hb.mono (by simp; omega))).alloc (by omega) _).trans (hb5.mono (by simp; omega)))
    have hs5 := hb5.size
    have hne : v.heap.size ≠ w.heap.size + 1 := by omega
    obtain ⟨n0, n1, n2, n3, n4⟩ := hn
    obtain ⟨g0, g1, g2, g3, g4⟩ := hy5
    obtain ⟨f0, f1, f2, f3, f4⟩ := hu5
    clear hb5 hb hy hu
    go_wp2
    have h6 := Has5.set (w := w5) (b := w.heap.size + 1) (n0 := V) (n1 := q) (n2 := b) (n3 := t) (n4 := h) ⟨g0, g1, g2, g3, g4⟩
    have k6 := st5_below (n0 := V) (n1 := q) (n2 := b) (n3 := t) (n4 := h) HBq.out (show w.heap.size ≤ w.heap.size + 1 by omega)
    clear n0 n1 n2 n3 n4 g0 g1 g2 g3 g4 f0 f1 f2 f3 f4
    change bodyPost _ _ _ _ _ (st5 w5 (w.heap.size + 1) (V) (q) (b) (t) (h))
    generalize st5 w5 (w.heap.size + 1) (V) (q) (b) (t) (h) = WF at *
    exact bodyPost_ret (res5t Tryd.results8 (by rfl) rfl h6) rfl ⟨rfl, k6⟩
  · have hlv := hb.size
    simp at hlv
    have hyv : Has5 v (w.heap.size + 1) 0 0 0 0 0 := by refine Has5.below ?_ hb; exact Has5.drew (Has5.alloc hy _)
    have huv : Unf5 v (w.heap.size + 1) := by refine Unf5.below ?_ hb ?_ <;> first | exact Unf5.drew (Unf5.alloc hu hy1 _) | (simp; omega)
    have hne1 : w1.heap.size ≠ w.heap.size + 1 := by omega
    have hnv : Has5 v w1.heap.size 0 0 0 0 0 := ⟨by assumption, by assumption, by assumption, by assumption, by assumption⟩
    go_wp2_with fail
    refine (validRepoI_any V q b t h _).mono ?_
    rintro e w5 ⟨rfl, hb5'⟩
    have hb5 : Below (st5 v w1.heap.size V q b t h).heap.size (st5 v w1.heap.size V q b t h) w5 := hb5'
    clear hb5'
    have hn : Has5 w5 w1.heap.size V q b t h := Has5.below (Has5.set hnv) hb5
    have hy5 : Has5 w5 (w.heap.size + 1) 0 0 0 0 0 := Has5.below (Has5.farst hyv hne1) hb5
    have hu5 : Unf5 w5 (w.heap.size + 1) := Unf5.below (Unf5.st huv) hb5 (by rw [st5_size]; omega)
    have HBq : Hid (Below w.heap.size w w5) := Lib.hid ((st5_below (((HB.out.alloc (by omega) _).drew).trans (hb.mono (by simp; omega))) (by omega)).trans (hb5.mono (by rw [st5_size]; omega)))
    have hs5 := hb5.size
    rw [st5_size] at hs5
    clear hnv
    obtain ⟨n0, n1, n2, n3, n4⟩ := hn
    obtain ⟨g0, g1, g2, g3, g4⟩ := hy5
    obtain ⟨f0, f1, f2, f3, f4⟩ := hu5
    clear hb5 hb hy hu
    go_wp2
    have h6 := Has5.set (w := w5) (b := w.heap.size + 1) (n0 := V) (n1 := q) (n2 := b) (n3 := t) (n4 := h) ⟨g0, g1, g2, g3, g4⟩
    have k6 := st5_below (n0 := V) (n1 := q) (n2 := b) (n3 := t) (n4 := h) HBq.out (show w.heap.size ≤ w.heap.size + 1 by omega)
    clear n0 n1 n2 n3 n4 g0 g1 g2 g3 g4 f0 f1 f2 f3 f4
    change bodyPost _ _ _ _ _ (st5 w5 (w.heap.size + 1) (V) (q) (b) (t) (h))
    generalize st5 w5 (w.heap.size + 1) (V) (q) (b) (t) (h) = WF at *
    exact bodyPost_ret (res5t Tryd.results8 (by rfl) rfl h6) rfl ⟨rfl, k6⟩
set_option maxHeartbeats 2000000 in
theorem rollS_no (c r a b h t q : Int) (w : World) (k : rpB c r a b h = false) :
    Calls Tryd.prog 6 #[.agg #[.int .i64 c, .int .i64 r, .int .i64 a, .int .i64 b, .int .i64 h], .int .i64 t, .int .i64 q] w fun e w' => e = .returned (.tuple #[.agg #[.int .i64 0, .int .i64 0, .int .i64 0, .int .i64 0, .int .i64 0], .bool false]) ∧ Below w.heap.size w w' := by
  go_enter Tryd.func6, Tryd.ntmps6
  have HB := Lib.hid (Below.refl w.heap.size w)
  go_wp2_with fail
  refine (validRepoS_any c r a b h _).mono ?_
  rintro e w1 ⟨rfl, hb⟩
  have x0_1 : w1.cell? ⟨w.heap.size, 0, none⟩ = some (.int .i64 c) := bc hb (by first | (simp; done) | go_simp)
  have x1_1 : w1.cell? ⟨w.heap.size, 1, none⟩ = some (.int .i64 r) := bc hb (by first | (simp; done) | go_simp)
  have x2_1 : w1.cell? ⟨w.heap.size, 2, none⟩ = some (.int .i64 a) := bc hb (by first | (simp; done) | go_simp)
  have x3_1 : w1.cell? ⟨w.heap.size, 3, none⟩ = some (.int .i64 b) := bc hb (by first | (simp; done) | go_simp)
  have x4_1 : w1.cell? ⟨w.heap.size, 4, none⟩ = some (.int .i64 h) := bc hb (by first | (simp; done) | go_simp)
  have xl_1 : w.heap.size < w1.heap.size := cell_lt x0_1
  have y0_1 : w1.cell? ⟨w.heap.size + 1, 0, none⟩ = some (.int .i64 0) := bc hb (by first | (simp; done) | go_simp)
  have yf0_1 : w1.frozen? ⟨w.heap.size + 1, 0, none⟩ = false := bf hb (by first | (simp; done) | (simp; omega) | (show w.heap.size + 1 < _; omega)) (by first | (simp; done) | go_simp)
  have y1_1 : w1.cell? ⟨w.heap.size + 1, 1, none⟩ = some (.int .i64 0) := bc hb (by first | (simp; done) | go_simp)
  have yf1_1 : w1.frozen? ⟨w.heap.size + 1, 1, none⟩ = false := bf hb (by first | (simp; done) | (simp; omega) | (show w.heap.size + 1 < _; omega)) (by first | (simp; done) | go_simp)
  have y2_1 : w1.cell? ⟨w.heap.size + 1, 2, none⟩ = some (.int .i64 0) := bc hb (by first | (simp; done) | go_simp)
  have yf2_1 : w1.frozen? ⟨w.heap.size + 1, 2, none⟩ = false := bf hb (by first | (simp; done) | (simp; omega) | (show w.heap.size + 1 < _; omega)) (by first | (simp; done) | go_simp)
  have y3_1 : w1.cell? ⟨w.heap.size + 1, 3, none⟩ = some (.int .i64 0) := bc hb (by first | (simp; done) | go_simp)
  have yf3_1 : w1.frozen? ⟨w.heap.size + 1, 3, none⟩ = false := bf hb (by first | (simp; done) | (simp; omega) | (show w.heap.size + 1 < _; omega)) (by first | (simp; done) | go_simp)
  have y4_1 : w1.cell? ⟨w.heap.size + 1, 4, none⟩ = some (.int .i64 0) := bc hb (by first | (simp; done) | go_simp)
  have yf4_1 : w1.frozen? ⟨w.heap.size + 1, 4, none⟩ = false := bf hb (by first | (simp; done) | (simp; omega) | (show w.heap.size + 1 < _; omega)) (by first | (simp; done) | go_simp)
  have yl_1 : w.heap.size + 1 < w1.heap.size := cell_lt y0_1
  have hszw1 := below_size hb
  try simp at hszw1
  have HBq : Below w.heap.size w w1 := Below.trans (by repeat (first | exact Below.refl _ _ | exact HB.out | refine Below.drew ?_ | refine bel_drewN _ ?_ | refine Below.alloc ?_ (by first | omega | (simp; done) | (simp; omega)) _ | refine Below.setCell ?_ (by first | (show _ ≤ _; omega) | (simp; done) | (simp; omega)) _)) (hb.mono (by first | omega | (simp; done) | (simp; omega)))
  have HB := Lib.hid HBq
  clear HBq hb
  go_wp2
  exact bodyPost_ret (v := .tuple #[.agg #[.int .i64 0, .int .i64 0, .int .i64 0, .int .i64 0, .int .i64 0], .bool false]) (by simp [results, Tryd.results6, go_sem, *]) rfl ⟨rfl, (by repeat (first | exact Below.refl _ _ | exact HB.out | refine Below.drew ?_ | refine bel_drewN _ ?_ | refine Below.alloc ?_ (by first | omega | (simp; done) | (simp; omega)) _ | refine Below.setCell ?_ (by first | (show _ ≤ _; omega) | (simp; done) | (simp; omega)) _))⟩
set_option maxHeartbeats 6000000 in
theorem rollS_a (c r a b h t q V : Int) (w : World) (hM : MD w) (k : rpB c r a b h = true) (hV : Hid (c + riV c r a b h = V)) (V0 : -10 ≤ V) (V1 : V ≤ 1000000000000000000) (c0 : 0 ≤ c) (c1 : c ≤ 100000000) (i0 : 0 ≤ riV c r a b h) (i1 : riV c r a b h ≤ 439200000000000000) (k2 : rpB V q b t h = false) :
    Calls Tryd.prog 6 #[.agg #[.int .i64 c, .int .i64 r, .int .i64 a, .int .i64 b, .int .i64 h], .int .i64 t, .int .i64 q] w fun e w' => e = .returned (.tuple #[.agg #[.int .i64 0, .int .i64 0, .int .i64 0, .int .i64 0, .int .i64 0], .bool false]) ∧ Below w.heap.size w w' := by
  have hM1 := hM.size
  have HM := Lib.hid hM
  clear hM
  go_enter Tryd.func6, Tryd.ntmps6
  have HB := Lib.hid (Below.refl w.heap.size w)
  go_wp2_with fail
  refine (validRepoS_any c r a b h _).mono ?_
  rintro e w1 ⟨rfl, hb⟩
  have x0_1 : w1.cell? ⟨w.heap.size, 0, none⟩ = some (.int .i64 c) := bc hb (by first | (simp; done) | go_simp)
  have x1_1 : w1.cell? ⟨w.heap.size, 1, none⟩ = some (.int .i64 r) := bc hb (by first | (simp; done) | go_simp)
  have x2_1 : w1.cell? ⟨w.heap.size, 2, none⟩ = some (.int .i64 a) := bc hb (by first | (simp; done) | go_simp)
  have x3_1 : w1.cell? ⟨w.heap.size, 3, none⟩ = some (.int .i64 b) := bc hb (by first | (simp; done) | go_simp)
  have x4_1 : w1.cell? ⟨w.heap.size, 4, none⟩ = some (.int .i64 h) := bc hb (by first | (simp; done) | go_simp)
  have xl_1 : w.heap.size < w1.heap.size := cell_lt x0_1
  have y0_1 : w1.cell? ⟨w.heap.size + 1, 0, none⟩ = some (.int .i64 0) := bc hb (by first | (simp; done) | go_simp)
  have yf0_1 : w1.frozen? ⟨w.heap.size + 1, 0, none⟩ = false := bf hb (by first | (simp; done) | (simp; omega) | (show w.heap.size + 1 < _; omega)) (by first | (simp; done) | go_simp)
  have y1_1 : w1.cell? ⟨w.heap.size + 1, 1, none⟩ = some (.int .i64 0) := bc hb (by first | (simp; done) | go_simp)
  have yf1_1 : w1.frozen? ⟨w.heap.size + 1, 1, none⟩ = false := bf hb (by first | (simp; done) | (simp; omega) | (show w.heap.size + 1 < _; omega)) (by first | (simp; done) | go_simp)
  have y2_1 : w1.cell? ⟨w.heap.size + 1, 2, none⟩ = some (.int .i64 0) := bc hb (by first | (simp; done) | go_simp)
  have yf2_1 : w1.frozen? ⟨w.heap.size + 1, 2, none⟩ = false := bf hb (by first | (simp; done) | (simp; omega) | (show w.heap.size + 1 < _; omega)) (by first | (simp; done) | go_simp)
  have y3_1 : w1.cell? ⟨w.heap.size + 1, 3, none⟩ = some (.int .i64 0) := bc hb (by first | (simp; done) | go_simp)
  have yf3_1 : w1.frozen? ⟨w.heap.size + 1, 3, none⟩ = false := bf hb (by first | (simp; done) | (simp; omega) | (show w.heap.size + 1 < _; omega)) (by first | (simp; done) | go_simp)
  have y4_1 : w1.cell? ⟨w.heap.size + 1, 4, none⟩ = some (.int .i64 0) := bc hb (by first | (simp; done) | go_simp)
  have yf4_1 : w1.frozen? ⟨w.heap.size + 1, 4, none⟩ = false := bf hb (by first | (simp; done) | (simp; omega) | (show w.heap.size + 1 < _; omega)) (by first | (simp; done) | go_simp)
  have yl_1 : w.heap.size + 1 < w1.heap.size := cell_lt y0_1
  have hszw1 := below_size hb
  try simp at hszw1
  have HBq : Below w.heap.size w w1 := Below.trans (by repeat (first | exact Below.refl _ _ | exact HB.out | refine Below.drew ?_ | refine bel_drewN _ ?_ | refine Below.alloc ?_ (by first | omega | (simp; done) | (simp; omega)) _ | refine Below.setCell ?_ (by first | (show _ ≤ _; omega) | (simp; done) | (simp; omega)) _)) (hb.mono (by first | omega | (simp; done) | (simp; omega)))
  have HB := Lib.hid HBq
  clear HBq hb
  have HM1 : Hid (MD w1) := HM.out.fwd (HB.out.mono hM1)
  have hlt : w.heap.size < w1.heap.size := by omega
  have HF : Hid (∀ o : Nat, MD (w1.drewN o)) := Lib.hid fun o => HM1.out.fwd ⟨rfl, rfl, rfl, Nat.le_refl _, fun _ _ => rfl⟩
  have HF2 : Hid (MD (w1.alloc (.cells #[.int .i64 0, .int .i64 0, .int .i64 0, .int .i64 0, .int .i64 0] 24)).drew) := HM1.out.fwd (by repeat (first | exact Below.refl _ _ | refine Below.drew ?_ | refine bel_drewN _ ?_ | refine Below.alloc ?_ (by first | omega | (simp; done) | (simp; omega)) _ | refine Below.setCell ?_ (by first | (show _ ≤ _; omega) | (simp; done) | (simp; omega)) _))
  have HF1 : Hid (MD w1.drew) := HM1.out.fwd ⟨rfl, rfl, rfl, Nat.le_refl _, fun _ _ => rfl⟩
  have hwr : IntKind.i64.wrap (c + riV c r a b h) = V := by rw [← hV.out]; exact IntWalk.i64_in _ (by omega)
  have hy : Has5 w1 (w.heap.size + 1) 0 0 0 0 0 := ⟨by assumption, by assumption, by assumption, by assumption, by assumption⟩
  have hu : Unf5 w1 (w.heap.size + 1) := ⟨by assumption, by assumption, by assumption, by assumption, by assumption⟩
  have hy1 : w.heap.size + 1 < w1.heap.size := by omega
  go_wp2_with fail
  go_region_held3 (fun w' => w'.cell? ⟨w.heap.size, 0, none⟩ = some (.int .i64 c) ∧ w'.cell? ⟨w.heap.size, 1, none⟩ = some (.int .i64 r) ∧ w'.cell? ⟨w.heap.size, 2, none⟩ = some (.int .i64 a) ∧ w'.cell? ⟨w.heap.size, 3, none⟩ = some (.int .i64 b) ∧ w'.cell? ⟨w.heap.size, 4, none⟩ = some (.int .i64 h)) ((go_split_ands; refine ⟨?_, ?_, ?_, ?_, ?_⟩ <;> ((repeat (with_reducible refine sc_ne ?_ (by first | (simp; omega) | omega))); first | assumption | (with_reducible exact bc hb (by first | assumption | (simp; assumption))) | (with_reducible exact ca (by assumption)) | (with_reducible exact ca (bc hb (by first | assumption | (simp; assumption)))) | (simp; assumption) | (simp; exact ca (by assumption)) | exact ca (by first | assumption | (simp; assumption)) | exact ca (bc hb (by first | assumption | (simp; assumption))))))
    (first | (go_at_call 12; ((with_reducible refine (repoIntS_any _ _ _ _ _ _ (by first | exact HF1.out | exact HF.out _ | exact HF2.out)).mono ?_)); rintro e v ⟨rfl, hb⟩; first | ((with_reducible have hq : Below (w1.alloc (.cells #[.int .i64 0, .int .i64 0, .int .i64 0, .int .i64 0, .int .i64 0] 24)).drew.heap.size (w1.alloc (.cells #[.int .i64 0, .int .i64 0, .int .i64 0, .int .i64 0, .int .i64 0] 24)).drew v := hb); have n0 : v.cell? ⟨w1.heap.size, 0, none⟩ = some (.int .i64 0) := bc hq (by simp); have f0 : v.frozen? ⟨w1.heap.size, 0, none⟩ = false := bf hq (by simp) (by simp); have n1 : v.cell? ⟨w1.heap.size, 1, none⟩ = some (.int .i64 0) := bc hq (by simp); have f1 : v.frozen? ⟨w1.heap.size, 1, none⟩ = false := bf hq (by simp) (by simp); have n2 : v.cell? ⟨w1.heap.size, 2, none⟩ = some (.int .i64 0) := bc hq (by simp); have f2 : v.frozen? ⟨w1.heap.size, 2, none⟩ = false := bf hq (by simp) (by simp); have n3 : v.cell? ⟨w1.heap.size, 3, none⟩ = some (.int .i64 0) := bc hq (by simp); have f3 : v.frozen? ⟨w1.heap.size, 3, none⟩ = false := bf hq (by simp) (by simp); have n4 : v.cell? ⟨w1.heap.size, 4, none⟩ = some (.int .i64 0) := bc hq (by simp); have f4 : v.frozen? ⟨w1.heap.size, 4, none⟩ = false := bf hq (by simp) (by simp); clear hq) | skip))
  · have hlv := hb.size
    simp at hlv
    have hyv : Has5 v (w.heap.size + 1) 0 0 0 0 0 := by refine Has5.below ?_ hb; first | exact hy | exact Has5.drew hy
    have huv : Unf5 v (w.heap.size + 1) := by refine Unf5.below ?_ hb ?_ <;> first | exact hu | (show w.heap.size + 1 < w1.heap.size; omega)
    go_wp2_with fail
    refine (validRepoS_any V q b t h _).mono ?_
    rintro e w5 ⟨rfl, hb5⟩
    have hn : Has5 w5 v.heap.size V q b t h := Has5.below (Has5.new v V q b t h _) hb5
    have hy5 : Has5 w5 (w.heap.size + 1) 0 0 0 0 0 := Has5.below (Has5.alloc hyv _) hb5
    have hu5 : Unf5 w5 (w.heap.size + 1) := Unf5.below (Unf5.alloc huv (by omega) _) hb5 (by simp; omega)
    have HBq : Hid (Below w.heap.size w w5) := Lib.hid ((((HB.out.drew).trans (hb.mono (by simp; omega))).alloc (by omega) _).trans (hb5.mono (by simp; omega)))
    have hs5 := hb5.size
    have hne : v.heap.size ≠ w.heap.size + 1 := by omega
    obtain ⟨n0, n1, n2, n3, n4⟩ := hn
    obtain ⟨g0, g1, g2, g3, g4⟩ := hy5
    obtain ⟨f0, f1, f2, f3, f4⟩ := hu5
    clear hb5 hb hy hu
    go_wp2
    have h6 := Has5.set (w := w5) (b := w.heap.size + 1) (n0 := 0) (n1 := 0) (n2 := 0) (n3 := 0) (n4 := 0) ⟨g0, g1, g2, g3, g4⟩
    have k6 := st5_below (n0 := 0) (n1 := 0) (n2 := 0) (n3 := 0) (n4 := 0) HBq.out (show w.heap.size ≤ w.heap.size + 1 by omega)
    clear n0 n1 n2 n3 n4 g0 g1 g2 g3 g4 f0 f1 f2 f3 f4
    change bodyPost _ _ _ _ _ (st5 w5 (w.heap.size + 1) (0) (0) (0) (0) (0))
    generalize st5 w5 (w.heap.size + 1) (0) (0) (0) (0) (0) = WF at *
    exact bodyPost_ret (res5t Tryd.results6 (by rfl) rfl h6) rfl ⟨rfl, k6⟩
  · have hlv := hb.size
    simp at hlv
    have hyv : Has5 v (w.heap.size + 1) 0 0 0 0 0 := by refine Has5.below ?_ hb; exact Has5.drew (Has5.alloc hy _)
    have huv : Unf5 v (w.heap.size + 1) := by refine Unf5.below ?_ hb ?_ <;> first | exact Unf5.drew (Unf5.alloc hu hy1 _) | (simp; omega)
    have hne1 : w1.heap.size ≠ w.heap.size + 1 := by omega
    have hnv : Has5 v w1.heap.size 0 0 0 0 0 := ⟨by assumption, by assumption, by assumption, by assumption, by assumption⟩
    go_wp2_with fail
    refine (validRepoS_any V q b t h _).mono ?_
    rintro e w5 ⟨rfl, hb5'⟩
    have hb5 : Below (st5 v w1.heap.size V q b t h).heap.size (st5 v w1.heap.size V q b t h) w5 := hb5'
    clear hb5'
    have hn : Has5 w5 w1.heap.size V q b t h := Has5.below (Has5.set hnv) hb5
    have hy5 : Has5 w5 (w.heap.size + 1) 0 0 0 0 0 := Has5.below (Has5.farst hyv hne1) hb5
    have hu5 : Unf5 w5 (w.heap.size + 1) := Unf5.below (Unf5.st huv) hb5 (by rw [st5_size]; omega)
    have HBq : Hid (Below w.heap.size w w5) := Lib.hid ((st5_below (((HB.out.alloc (by omega) _).drew).trans (hb.mono (by simp; omega))) (by omega)).trans (hb5.mono (by rw [st5_size]; omega)))
    have hs5 := hb5.size
    rw [st5_size] at hs5
    clear hnv
    obtain ⟨n0, n1, n2, n3, n4⟩ := hn
    obtain ⟨g0, g1, g2, g3, g4⟩ := hy5
    obtain ⟨f0, f1, f2, f3, f4⟩ := hu5
    clear hb5 hb hy hu
    go_wp2
    have h6 := Has5.set (w := w5) (b := w.heap.size + 1) (n0 := 0) (n1 := 0) (n2 := 0) (n3 := 0) (n4 := 0) ⟨g0, g1, g2, g3, g4⟩
    have k6 := st5_below (n0 := 0) (n1 := 0) (n2 := 0) (n3 := 0) (n4 := 0) HBq.out (show w.heap.size ≤ w.heap.size + 1 by omega)
    clear n0 n1 n2 n3 n4 g0 g1 g2 g3 g4 f0 f1 f2 f3 f4
    change bodyPost _ _ _ _ _ (st5 w5 (w.heap.size + 1) (0) (0) (0) (0) (0))
    generalize st5 w5 (w.heap.size + 1) (0) (0) (0) (0) (0) = WF at *
    exact bodyPost_ret (res5t Tryd.results6 (by rfl) rfl h6) rfl ⟨rfl, k6⟩
set_option maxHeartbeats 6000000 in
theorem rollS_b (c r a b h t q V : Int) (w : World) (hM : MD w) (k : rpB c r a b h = true) (hV : Hid (c + riV c r a b h = V)) (V0 : -10 ≤ V) (V1 : V ≤ 1000000000000000000) (c0 : 0 ≤ c) (c1 : c ≤ 100000000) (i0 : 0 ≤ riV c r a b h) (i1 : riV c r a b h ≤ 439200000000000000) (k2 : rpB V q b t h = true) :
    Calls Tryd.prog 6 #[.agg #[.int .i64 c, .int .i64 r, .int .i64 a, .int .i64 b, .int .i64 h], .int .i64 t, .int .i64 q] w fun e w' => e = .returned (.tuple #[.agg #[.int .i64 V, .int .i64 q, .int .i64 b, .int .i64 t, .int .i64 h], .bool true]) ∧ Below w.heap.size w w' := by
  have hM1 := hM.size
  have HM := Lib.hid hM
  clear hM
  go_enter Tryd.func6, Tryd.ntmps6
  have HB := Lib.hid (Below.refl w.heap.size w)
  go_wp2_with fail
  refine (validRepoS_any c r a b h _).mono ?_
  rintro e w1 ⟨rfl, hb⟩
  have x0_1 : w1.cell? ⟨w.heap.size, 0, none⟩ = some (.int .i64 c) := bc hb (by first | (simp; done) | go_simp)
  have x1_1 : w1.cell? ⟨w.heap.size, 1, none⟩ = some (.int .i64 r) := bc hb (by first | (simp; done) | go_simp)
  have x2_1 : w1.cell? ⟨w.heap.size, 2, none⟩ = some (.int .i64 a) := bc hb (by first | (simp; done) | go_simp)
  have x3_1 : w1.cell? ⟨w.heap.size, 3, none⟩ = some (.int .i64 b) := bc hb (by first | (simp; done) | go_simp)
  have x4_1 : w1.cell? ⟨w.heap.size, 4, none⟩ = some (.int .i64 h) := bc hb (by first | (simp; done) | go_simp)
  have xl_1 : w.heap.size < w1.heap.size := cell_lt x0_1
  have y0_1 : w1.cell? ⟨w.heap.size + 1, 0, none⟩ = some (.int .i64 0) := bc hb (by first | (simp; done) | go_simp)
  have yf0_1 : w1.frozen? ⟨w.heap.size + 1, 0, none⟩ = false := bf hb (by first | (simp; done) | (simp; omega) | (show w.heap.size + 1 < _; omega)) (by first | (simp; done) | go_simp)
  have y1_1 : w1.cell? ⟨w.heap.size + 1, 1, none⟩ = some (.int .i64 0) := bc hb (by first | (simp; done) | go_simp)
  have yf1_1 : w1.frozen? ⟨w.heap.size + 1, 1, none⟩ = false := bf hb (by first | (simp; done) | (simp; omega) | (show w.heap.size + 1 < _; omega)) (by first | (simp; done) | go_simp)
  have y2_1 : w1.cell? ⟨w.heap.size + 1, 2, none⟩ = some (.int .i64 0) := bc hb (by first | (simp; done) | go_simp)
  have yf2_1 : w1.frozen? ⟨w.heap.size + 1, 2, none⟩ = false := bf hb (by first | (simp; done) | (simp; omega) | (show w.heap.size + 1 < _; omega)) (by first | (simp; done) | go_simp)
  have y3_1 : w1.cell? ⟨w.heap.size + 1, 3, none⟩ = some (.int .i64 0) := bc hb (by first | (simp; done) | go_simp)
  have yf3_1 : w1.frozen? ⟨w.heap.size + 1, 3, none⟩ = false := bf hb (by first | (simp; done) | (simp; omega) | (show w.heap.size + 1 < _; omega)) (by first | (simp; done) | go_simp)
  have y4_1 : w1.cell? ⟨w.heap.size + 1, 4, none⟩ = some (.int .i64 0) := bc hb (by first | (simp; done) | go_simp)
  have yf4_1 : w1.frozen? ⟨w.heap.size + 1, 4, none⟩ = false := bf hb (by first | (simp; done) | (simp; omega) | (show w.heap.size + 1 < _; omega)) (by first | (simp; done) | go_simp)
  have yl_1 : w.heap.size + 1 < w1.heap.size := cell_lt y0_1
  have hszw1 := below_size hb
  try simp at hszw1
  have HBq : Below w.heap.size w w1 := Below.trans (by repeat (first | exact Below.refl _ _ | exact HB.out | refine Below.drew ?_ | refine bel_drewN _ ?_ | refine Below.alloc ?_ (by first | omega | (simp; done) | (simp; omega)) _ | refine Below.setCell ?_ (by first | (show _ ≤ _; omega) | (simp; done) | (simp; omega)) _)) (hb.mono (by first | omega | (simp; done) | (simp; omega)))
  have HB := Lib.hid HBq
  clear HBq hb
  have HM1 : Hid (MD w1) := HM.out.fwd (HB.out.mono hM1)
  have hlt : w.heap.size < w1.heap.size := by omega
  have HF : Hid (∀ o : Nat, MD (w1.drewN o)) := Lib.hid fun o => HM1.out.fwd ⟨rfl, rfl, rfl, Nat.le_refl _, fun _ _ => rfl⟩
  have HF2 : Hid (MD (w1.alloc (.cells #[.int .i64 0, .int .i64 0, .int .i64 0, .int .i64 0, .int .i64 0] 24)).drew) := HM1.out.fwd (by repeat (first | exact Below.refl _ _ | refine Below.drew ?_ | refine bel_drewN _ ?_ | refine Below.alloc ?_ (by first | omega | (simp; done) | (simp; omega)) _ | refine Below.setCell ?_ (by first | (show _ ≤ _; omega) | (simp; done) | (simp; omega)) _))
  have HF1 : Hid (MD w1.drew) := HM1.out.fwd ⟨rfl, rfl, rfl, Nat.le_refl _, fun _ _ => rfl⟩
  have hwr : IntKind.i64.wrap (c + riV c r a b h) = V := by rw [← hV.out]; exact IntWalk.i64_in _ (by omega)
  have hy : Has5 w1 (w.heap.size + 1) 0 0 0 0 0 := ⟨by assumption, by assumption, by assumption, by assumption, by assumption⟩
  have hu : Unf5 w1 (w.heap.size + 1) := ⟨by assumption, by assumption, by assumption, by assumption, by assumption⟩
  have hy1 : w.heap.size + 1 < w1.heap.size := by omega
  go_wp2_with fail
  go_region_held3 (fun w' => w'.cell? ⟨w.heap.size, 0, none⟩ = some (.int .i64 c) ∧ w'.cell? ⟨w.heap.size, 1, none⟩ = some (.int .i64 r) ∧ w'.cell? ⟨w.heap.size, 2, none⟩ = some (.int .i64 a) ∧ w'.cell? ⟨w.heap.size, 3, none⟩ = some (.int .i64 b) ∧ w'.cell? ⟨w.heap.size, 4, none⟩ = some (.int .i64 h)) ((go_split_ands; refine ⟨?_, ?_, ?_, ?_, ?_⟩ <;> ((repeat (with_reducible refine sc_ne ?_ (by first | (simp; omega) | omega))); first | assumption | (with_reducible exact bc hb (by first | assumption | (simp; assumption))) | (with_reducible exact ca (by assumption)) | (with_reducible exact ca (bc hb (by first | assumption | (simp; assumption)))) | (simp; assumption) | (simp; exact ca (by assumption)) | exact ca (by first | assumption | (simp; assumption)) | exact ca (bc hb (by first | assumption | (simp; assumption))))))
    (first | (go_at_call 12; ((with_reducible refine (repoIntS_any _ _ _ _ _ _ (by first | exact HF1.out | exact HF.out _ | exact HF2.out)).mono ?_)); rintro e v ⟨rfl, hb⟩; first | ((with_reducible have hq : Below (w1.alloc (.cells #[.int .i64 0, .int .i64 0, .int .i64 0, .int .i64 0, .int .i64 0] 24)).drew.heap.size (w1.alloc (.cells #[.int .i64 0, .int .i64 0, .int .i64 0, .int .i64 0, .int .i64 0] 24)).drew v := hb); have n0 : v.cell? ⟨w1.heap.size, 0, none⟩ = some (.int .i64 0) := bc hq (by simp); have f0 : v.frozen? ⟨w1.heap.size, 0, none⟩ = false := bf hq (by simp) (by simp); have n1 : v.cell? ⟨w1.heap.size, 1, none⟩ = some (.int .i64 0) := bc hq (by simp); have f1 : v.frozen? ⟨w1.heap.size, 1, none⟩ = false := bf hq (by simp) (by simp); have n2 : v.cell? ⟨w1.heap.size, 2, none⟩ = some (.int .i64 0) := bc hq (by simp); have f2 : v.frozen? ⟨w1.heap.size, 2, none⟩ = false := bf hq (by simp) (by simp); have n3 : v.cell? ⟨w1.heap.size, 3, none⟩ = some (.int .i64 0) := bc hq (by simp); have f3 : v.frozen? ⟨w1.heap.size, 3, none⟩ = false := bf hq (by simp) (by simp); have n4 : v.cell? ⟨w1.heap.size, 4, none⟩ = some (.int .i64 0) := bc hq (by simp); have f4 : v.frozen? ⟨w1.heap.size, 4, none⟩ = false := bf hq (by simp) (by simp); clear hq) | skip))
  · have hlv := hb.size
    simp at hlv
    have hyv : Has5 v (w.heap.size + 1) 0 0 0 0 0 := by refine Has5.below ?_ hb; first | exact hy | exact Has5.drew hy
    have huv : Unf5 v (w.heap.size + 1) := by refine Unf5.below ?_ hb ?_ <;> first | exact hu | (show w.heap.size + 1 < w1.heap.size; omega)
    go_wp2_with fail
    refine (validRepoS_any V q b t h _).mono ?_
    rintro e w5 ⟨rfl, hb5⟩
    have hn : Has5 w5 v.heap.size V q b t h := Has5.below (Has5.new v V q b t h _) hb5
    have hy5 : Has5 w5 (w.heap.size + 1) 0 0 0 0 0 := Has5.below (Has5.alloc hyv _) hb5
    have hu5 : Unf5 w5 (w.heap.size + 1) := Unf5.below (Unf5.alloc huv (by omega) _) hb5 (by simp; omega)
    have HBq : Hid (Below w.heap.size w w5) := Lib.hid ((((HB.out.drew).trans (hb.mono (by simp; omega))).alloc (by omega) _).trans (hb5.mono (by simp; omega)))
    have hs5 := hb5.size
    have hne : v.heap.size ≠ w.heap.size + 1 := by omega
    obtain ⟨n0, n1, n2, n3, n4⟩ := hn
    obtain ⟨g0, g1, g2, g3, g4⟩ := hy5
    obtain ⟨f0, f1, f2, f3, f4⟩ := hu5
    clear hb5 hb hy hu
    go_wp2
    have h6 := Has5.set (w := w5) (b := w.heap.size + 1) (n0 := V) (n1 := q) (n2 := b) (n3 := t) (n4 := h) ⟨g0, g1, g2, g3, g4⟩
    have k6 := st5_below (n0 := V) (n1 := q) (n2 := b) (n3 := t) (n4 := h) HBq.out (show w.heap.size ≤ w.heap.size + 1 by omega)
    clear n0 n1 n2 n3 n4 g0 g1 g2 g3 g4 f0 f1 f2 f3 f4
    change bodyPost _ _ _ _ _ (st5 w5 (w.heap.size + 1) (V) (q) (b) (t) (h))
    generalize st5 w5 (w.heap.size + 1) (V) (q) (b) (t) (h) = WF at *
    exact bodyPost_ret (res5t Tryd.results6 (by rfl) rfl h6) rfl ⟨rfl, k6⟩
  · have hlv := hb.size
    simp at hlv
    have hyv : Has5 v (w.heap.size + 1) 0 0 0 0 0 := by refine Has5.below ?_ hb; exact Has5.drew (Has5.alloc hy _)
    have huv : Unf5 v (w.heap.size + 1) := by refine Unf5.below ?_ hb ?_ <;> first | exact Unf5.drew (Unf5.alloc hu hy1 _) | (simp; omega)
    have hne1 : w1.heap.size ≠ w.heap.size + 1 := by omega
    have hnv : Has5 v w1.heap.size 0 0 0 0 0 := ⟨by assumption, by assumption, by assumption, by assumption, by assumption⟩
    go_wp2_with fail
    refine (validRepoS_any V q b t h _).mono ?_
    rintro e w5 ⟨rfl, hb5'⟩
    have hb5 : Below (st5 v w1.heap.size V q b t h).heap.size (st5 v w1.heap.size V q b t h) w5 := hb5'
    clear hb5'
    have hn : Has5 w5 w1.heap.size V q b t h := Has5.below (Has5.set hnv) hb5
    have hy5 : Has5 w5 (w.heap.size + 1) 0 0 0 0 0 := Has5.below (Has5.farst hyv hne1) hb5
    have hu5 : Unf5 w5 (w.heap.size + 1) := Unf5.below (Unf5.st huv) hb5 (by rw [st5_size]; omega)
    have HBq : Hid (Below w.heap.size w w5) := Lib.hid ((st5_below (((HB.out.alloc (by omega) _).drew).trans (hb.mono (by simp; omega))) (by omega)).trans (hb5.mono (by rw [st5_size]; omega)))
    have hs5 := hb5.size
    rw [st5_size] at hs5
    clear hnv
    obtain ⟨n0, n1, n2, n3, n4⟩ := hn
    obtain ⟨g0, g1, g2, g3, g4⟩ := hy5
    obtain ⟨f0, f1, f2, f3, f4⟩ := hu5
    clear hb5 hb hy hu
    go_wp2
    have h6 := Has5.set (w := w5) (b := w.heap.size + 1) (n0 := V) (n1 := q) (n2 := b) (n3 := t) (n4 := h) ⟨g0, g1, g2, g3, g4⟩
    have k6 := st5_below (n0 := V) (n1 := q) (n2 := b) (n3 := t) (n4 := h) HBq.out (show w.heap.size ≤ w.heap.size + 1 by omega)
    clear n0 n1 n2 n3 n4 g0 g1 g2 g3 g4 f0 f1 f2 f3 f4
    change bodyPost _ _ _ _ _ (st5 w5 (w.heap.size + 1) (V) (q) (b) (t) (h))
    generalize st5 w5 (w.heap.size + 1) (V) (q) (b) (t) (h) = WF at *
    exact bodyPost_ret (res5t Tryd.results6 (by rfl) rfl h6) rfl ⟨rfl, k6⟩
end Go.Proofs.YtiplcndacmicoaaDoor
