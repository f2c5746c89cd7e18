/- The draws of two ratios. -/
import Derived.Test.YtlobbphhhdklfaaRatioDraw
import Derived.Deep.RegionWith
namespace Go.Proofs.Ytlobbphhhdklfaa
open Go.RowKit
set_option linter.unusedVariables false
def TwoRatPost (w : World) (e : Ending) (w' : World) : Prop :=
  ∃ n1 d1 n2 d2 : Int, e = .returned (.tuple #[.agg #[.int .i64 n1, .int .i64 d1], .agg #[.int .i64 n2, .int .i64 d2]]) ∧ Below w.heap.size w w'
set_option maxHeartbeats 1000000 in
theorem drawAddRatio_any (a : Option Addr) (len cap : Nat) (w : World) (hlc : len ≤ cap) (hc : cap ≤ maxLen) (h : IsBytes w a len) :
    Calls Try.prog 33 #[.slice a len cap] w (TwoRatPost w) := by
  have H := Lib.hid h
  clear h
  go_enter Try.func33, Try.ntmps33
  go_wp2_with fail
  refine (newReader_any _ _ _ _ hlc hc (by repeat (first | exact H.out | refine IsBytes.alloc ?_ _))).mono ?_
  rintro e v1 ⟨rfl, hb, hrd, hszv1⟩
  simp at hszv1
  replace hszv1 : w.heap.size + 1 + 1 + 1 ≤ v1.heap.size := by omega
  have hR : w.heap.size + 1 + 1 < v1.heap.size := by omega
  have hrdq : Rd v1 (w.heap.size + 1 + 1) 0 := by simpa using hrd
  have HR := Lib.hid hrdq
  have HBq : KB (w.heap.size) (w.heap.size + 1 + 1) w v1 := KB.quiet (Nat.le_refl _) (by repeat (first | exact KB.refl _ _ _ | exact HB.out | refine KB.drew ?_ | refine KB.drewN ?_ | refine KB.alloc (Nat.le_refl _) ?_ _ | refine KB.setCell ?_ (by first | (show _ ≤ _; omega) | (simp; done) | (simp; omega)) _)) hb
  have HB := Lib.hid HBq
  have p0_1 : v1.cell? ⟨w.heap.size, 0, none⟩ = some (.int .i64 0) := bc hb (by first | (simp; done) | go_simp)
  have pf0_1 : v1.frozen? ⟨w.heap.size, 0, none⟩ = false := bf hb (by first | (simp; done) | (simp; omega) | (show w.heap.size < _; omega)) (by first | (simp; done) | go_simp)
  have p1_1 : v1.cell? ⟨w.heap.size, 1, none⟩ = some (.int .i64 0) := bc hb (by first | (simp; done) | go_simp)
  have pf1_1 : v1.frozen? ⟨w.heap.size, 1, none⟩ = false := bf hb (by first | (simp; done) | (simp; omega) | (show w.heap.size < _; omega)) (by first | (simp; done) | go_simp)
  have pl_1 : w.heap.size < v1.heap.size := cell_lt p0_1
  have q0_1 : v1.cell? ⟨w.heap.size + 1, 0, none⟩ = some (.int .i64 0) := bc hb (by first | (simp; done) | go_simp)
  have qf0_1 : v1.frozen? ⟨w.heap.size + 1, 0, none⟩ = false := bf hb (by first | (simp; done) | (simp; omega) | (show w.heap.size + 1 < _; omega)) (by first | (simp; done) | go_simp)
  have q1_1 : v1.cell? ⟨w.heap.size + 1, 1, none⟩ = some (.int .i64 0) := bc hb (by first | (simp; done) | go_simp)
  have qf1_1 : v1.frozen? ⟨w.heap.size + 1, 1, none⟩ = false := bf hb (by first | (simp; done) | (simp; omega) | (show w.heap.size + 1 < _; omega)) (by first | (simp; done) | go_simp)
  have ql_1 : w.heap.size + 1 < v1.heap.size := cell_lt q0_1
  clear hrd hrdq HBq hb
  go_wp2_with fail
  refine (anyRatio_any _ _ _ (by first | exact hR | omega | (simp; done) | (simp; omega)) (by omega) (by omega) (Rd.fwd HR.out (by repeat (first | exact Below.refl _ _ | refine Below.drew ?_ | refine bel_drewN _ ?_ | refine Below.alloc ?_ (by first | omega | (simp; done) | (simp; omega)) _ | refine Below.setCell ?_ (by first | (show _ ≤ _; omega) | (simp; done) | (simp; omega)) _)))).mono ?_
  rintro e v2 ⟨n1, d1, rfl, k, r⟩
  have HBq : KB (w.heap.size) (w.heap.size + 1 + 1) w v2 := KB.callee (Nat.le_refl _) (by repeat (first | exact KB.refl _ _ _ | exact HB.out | refine KB.drew ?_ | refine KB.drewN ?_ | refine KB.alloc (Nat.le_refl _) ?_ _ | refine KB.setCell ?_ (by first | (show _ ≤ _; omega) | (simp; done) | (simp; omega)) _)) k
  have HB := Lib.hid HBq
  clear HBq
  have hR : w.heap.size + 1 + 1 < v2.heap.size := Nat.lt_of_lt_of_le (by first | exact hR | omega | (simp; done) | (simp; omega)) k.size
  have HR := Lib.hid r
  have p0_2 : v2.cell? ⟨w.heap.size, 0, none⟩ = some (.int .i64 0) := kc k (by first | exact p0_1 | exact ca p0_1 | exact ca (ca p0_1) | exact ca (ca (ca p0_1)) | (simp; done) | go_simp) (by show w.heap.size ≠ _; omega)
  have pf0_2 : v2.frozen? ⟨w.heap.size, 0, none⟩ = false := kf k (by first | (simp; done) | (simp; omega) | (show w.heap.size < _; omega)) (by show w.heap.size ≠ _; omega) (by first | exact pf0_1 | exact fa (by show w.heap.size < _; omega) pf0_1 | exact fa (by show w.heap.size < _; simp; omega) (fa (by show w.heap.size < _; omega) pf0_1) | (simp; done) | go_simp)
  have p1_2 : v2.cell? ⟨w.heap.size, 1, none⟩ = some (.int .i64 0) := kc k (by first | exact p1_1 | exact ca p1_1 | exact ca (ca p1_1) | exact ca (ca (ca p1_1)) | (simp; done) | go_simp) (by show w.heap.size ≠ _; omega)
  have pf1_2 : v2.frozen? ⟨w.heap.size, 1, none⟩ = false := kf k (by first | (simp; done) | (simp; omega) | (show w.heap.size < _; omega)) (by show w.heap.size ≠ _; omega) (by first | exact pf1_1 | exact fa (by show w.heap.size < _; omega) pf1_1 | exact fa (by show w.heap.size < _; simp; omega) (fa (by show w.heap.size < _; omega) pf1_1) | (simp; done) | go_simp)
  have pl_2 : w.heap.size < v2.heap.size := cell_lt p0_2
  clear p0_1 pf0_1 p1_1 pf1_1 pl_1
  have q0_2 : v2.cell? ⟨w.heap.size + 1, 0, none⟩ = some (.int .i64 0) := kc k (by first | exact q0_1 | exact ca q0_1 | exact ca (ca q0_1) | exact ca (ca (ca q0_1)) | (simp; done) | go_simp) (by show w.heap.size + 1 ≠ _; omega)
  have qf0_2 : v2.frozen? ⟨w.heap.size + 1, 0, none⟩ = false := kf k (by first | (simp; done) | (simp; omega) | (show w.heap.size + 1 < _; omega)) (by show w.heap.size + 1 ≠ _; omega) (by first | exact qf0_1 | exact fa (by show w.heap.size + 1 < _; omega) qf0_1 | exact fa (by show w.heap.size + 1 < _; simp; omega) (fa (by show w.heap.size + 1 < _; omega) qf0_1) | (simp; done) | go_simp)
  have q1_2 : v2.cell? ⟨w.heap.size + 1, 1, none⟩ = some (.int .i64 0) := kc k (by first | exact q1_1 | exact ca q1_1 | exact ca (ca q1_1) | exact ca (ca (ca q1_1)) | (simp; done) | go_simp) (by show w.heap.size + 1 ≠ _; omega)
  have qf1_2 : v2.frozen? ⟨w.heap.size + 1, 1, none⟩ = false := kf k (by first | (simp; done) | (simp; omega) | (show w.heap.size + 1 < _; omega)) (by show w.heap.size + 1 ≠ _; omega) (by first | exact qf1_1 | exact fa (by show w.heap.size + 1 < _; omega) qf1_1 | exact fa (by show w.heap.size + 1 < _; simp; omega) (fa (by show w.heap.size + 1 < _; omega) qf1_1) | (simp; done) | go_simp)
  have ql_2 : w.heap.size + 1 < v2.heap.size := cell_lt q0_2
  clear q0_1 qf0_1 q1_1 qf1_1 ql_1
  have hszv2 := k.size
  try simp at hszv2
  clear r k
  go_wp2_with fail
  go_region_with (
    go_at_call 27
    refine (anyRatio_any (w.heap.size + 1 + 1) _ _ (by first | exact hR | (simp; omega)) (by omega) (by omega) (Rd.fwd HR.out (by repeat (first | exact Below.refl _ _ | refine Below.drew ?_ | refine bel_drewN _ ?_ | refine Below.alloc ?_ (by first | omega | (simp; done) | (simp; omega)) _ | refine Below.setCell ?_ (by first | (show _ ≤ _; omega) | (simp; done) | (simp; omega)) _)))).mono ?_
    rintro e v3 ⟨n2, d2, rfl, k, r⟩
    have p0_3 : v3.cell? ⟨w.heap.size, 0, none⟩ = some (.int .i64 0) := kc k (by first | exact p0_2 | exact ca p0_2 | exact ca (ca p0_2) | exact ca (ca (ca p0_2)) | (simp; done) | go_simp) (by show w.heap.size ≠ _; omega)
    have pf0_3 : v3.frozen? ⟨w.heap.size, 0, none⟩ = false := kf k (by first | (simp; done) | (simp; omega) | (show w.heap.size < _; omega)) (by show w.heap.size ≠ _; omega) (by first | exact pf0_2 | exact fa (by show w.heap.size < _; omega) pf0_2 | exact fa (by show w.heap.size < _; simp; omega) (fa (by show w.heap.size < _; omega) pf0_2) | (simp; done) | go_simp)
    have p1_3 : v3.cell? ⟨w.heap.size, 1, none⟩ = some (.int .i64 0) := kc k (by first | exact p1_2 | exact ca p1_2 | exact ca (ca p1_2) | exact ca (ca (ca p1_2)) | (simp; done) | go_simp) (by show w.heap.size ≠ _; omega)
    have pf1_3 : v3.frozen? ⟨w.heap.size, 1, none⟩ = false := kf k (by first | (simp; done) | (simp; omega) | (show w.heap.size < _; omega)) (by show w.heap.size ≠ _; omega) (by first | exact pf1_2 | exact fa (by show w.heap.size < _; omega) pf1_2 | exact fa (by show w.heap.size < _; simp; omega) (fa (by show w.heap.size < _; omega) pf1_2) | (simp; done) | go_simp)
    have pl_3 : w.heap.size < v3.heap.size := cell_lt p0_3
    clear p0_2 pf0_2 p1_2 pf1_2 pl_2
    have q0_3 : v3.cell? ⟨w.heap.size + 1, 0, none⟩ = some (.int .i64 0) := kc k (by first | exact q0_2 | exact ca q0_2 | exact ca (ca q0_2) | exact ca (ca (ca q0_2)) | (simp; done) | go_simp) (by show w.heap.size + 1 ≠ _; omega)
    have qf0_3 : v3.frozen? ⟨w.heap.size + 1, 0, none⟩ = false := kf k (by first | (simp; done) | (simp; omega) | (show w.heap.size + 1 < _; omega)) (by show w.heap.size + 1 ≠ _; omega) (by first | exact qf0_2 | exact fa (by show w.heap.size + 1 < _; omega) qf0_2 | exact fa (by show w.heap.size + 1 < _; simp; omega) (fa (by show w.heap.size + 1 < _; omega) qf0_2) | (simp; done) | go_simp)
    have q1_3 : v3.cell? ⟨w.heap.size + 1, 1, none⟩ = some (.int .i64 0) := kc k (by first | exact q1_2 | exact ca q1_2 | exact ca (ca q1_2) | exact ca (ca (ca q1_2)) | (simp; done) | go_simp) (by show w.heap.size + 1 ≠ _; omega)
    have qf1_3 : v3.frozen? ⟨w.heap.size + 1, 1, none⟩ = false := kf k (by first | (simp; done) | (simp; omega) | (show w.heap.size + 1 < _; omega)) (by show w.heap.size + 1 ≠ _; omega) (by first | exact qf1_2 | exact fa (by show w.heap.size + 1 < _; omega) qf1_2 | exact fa (by show w.heap.size + 1 < _; simp; omega) (fa (by show w.heap.size + 1 < _; omega) qf1_2) | (simp; done) | go_simp)
    have ql_3 : w.heap.size + 1 < v3.heap.size := cell_lt q0_3
    clear q0_2 qf0_2 q1_2 qf1_2 ql_2
    have c0_1 : v3.cell? ⟨v2.heap.size, 0, none⟩ = some (.int .i64 n1) := kc k (by first | (simp; done) | go_simp) (by show v2.heap.size ≠ _; omega)
    have c1_1 : v3.cell? ⟨v2.heap.size, 1, none⟩ = some (.int .i64 d1) := kc k (by first | (simp; done) | go_simp) (by show v2.heap.size ≠ _; omega)
    have cl_1 : v2.heap.size < v3.heap.size := cell_lt c0_1
    )
  all_goals
    have HBq : KB w.heap.size (w.heap.size + 1 + 1) w v3 := KB.callee (Nat.le_refl _) (by repeat (first | exact KB.refl _ _ _ | exact HB.out | refine KB.drew ?_ | refine KB.drewN ?_ | refine KB.alloc (Nat.le_refl _) ?_ _ | refine KB.setCell ?_ (by first | (show _ ≤ _; omega) | (simp; done) | (simp; omega)) _)) k
    have HB := Lib.hid HBq
    clear HBq k r
    go_wp2
    refine bodyPost_ret (v := .tuple #[.agg #[.int .i64 n1, .int .i64 d1], .agg #[.int .i64 n2, .int .i64 d2]]) (by simp [results, Try.results33, go_sem, *]) rfl ⟨n1, d1, n2, d2, rfl, KB.below (R := w.heap.size + 1 + 1) (by repeat (first | exact KB.refl _ _ _ | exact HB.out | refine KB.drew ?_ | refine KB.drewN ?_ | refine KB.alloc (Nat.le_refl _) ?_ _ | refine KB.setCell ?_ (by first | (show _ ≤ _; omega) | (simp; done) | (simp; omega)) _)) (by omega)⟩
theorem drawCompareRatio_any (a : Option Addr) (len cap : Nat) (w : World) (hlc : len ≤ cap) (hc : cap ≤ maxLen) (h : IsBytes w a len) :
    Calls Try.prog 16 #[.slice a len cap] w (TwoRatPost w) := by
  have H := Lib.hid h
  clear h
  go_enter Try.func16, Try.ntmps16
  have HB := Lib.hid (Below.refl w.heap.size w)
  go_wp2_with fail
  refine (drawAddRatio_any _ _ _ _ hlc hc (by exact (H.out.alloc _).alloc _)).mono ?_
  rintro e v1 ⟨n1, d1, n2, d2, rfl, hb⟩
  have p0_1 : v1.cell? ⟨w.heap.size, 0, none⟩ = some (.int .i64 0) := bc hb (by first | (simp; done) | go_simp)
  have pf0_1 : v1.frozen? ⟨w.heap.size, 0, none⟩ = false := bf hb (by first | (simp; done) | (simp; omega) | (show w.heap.size < _; omega)) (by first | (simp; done) | go_simp)
  have p1_1 : v1.cell? ⟨w.heap.size, 1, none⟩ = some (.int .i64 0) := bc hb (by first | (simp; done) | go_simp)
  have pf1_1 : v1.frozen? ⟨w.heap.size, 1, none⟩ = false := bf hb (by first | (simp; done) | (simp; omega) | (show w.heap.size < _; omega)) (by first | (simp; done) | go_simp)
  have pl_1 : w.heap.size < v1.heap.size := cell_lt p0_1
  have q0_1 : v1.cell? ⟨w.heap.size + 1, 0, none⟩ = some (.int .i64 0) := bc hb (by first | (simp; done) | go_simp)
  have qf0_1 : v1.frozen? ⟨w.heap.size + 1, 0, none⟩ = false := bf hb (by first | (simp; done) | (simp; omega) | (show w.heap.size + 1 < _; omega)) (by first | (simp; done) | go_simp)
  have q1_1 : v1.cell? ⟨w.heap.size + 1, 1, none⟩ = some (.int .i64 0) := bc hb (by first | (simp; done) | go_simp)
  have qf1_1 : v1.frozen? ⟨w.heap.size + 1, 1, none⟩ = false := bf hb (by first | (simp; done) | (simp; omega) | (show w.heap.size + 1 < _; omega)) (by first | (simp; done) | go_simp)
  have ql_1 : w.heap.size + 1 < v1.heap.size := cell_lt q0_1
  have hszv1 := below_size hb
  try simp at hszv1
  have HBq : Below w.heap.size w v1 := Below.trans (by repeat (first | exact Below.refl _ _ | exact HB.out | refine Below.drew ?_ | refine bel_drewN _ ?_ | refine Below.alloc ?_ (by first | omega | (simp; done) | (simp; omega)) _ | refine Below.setCell ?_ (by first | (show _ ≤ _; omega) | (simp; done) | (simp; omega)) _)) (hb.mono (by first | omega | (simp; done) | (simp; omega)))
  have HB := Lib.hid HBq
  clear HBq hb
  go_wp2
  exact bodyPost_ret (v := .tuple #[.agg #[.int .i64 n1, .int .i64 d1], .agg #[.int .i64 n2, .int .i64 d2]]) (by simp [results, Try.results16, go_sem, *]) rfl ⟨n1, d1, n2, d2, rfl, (by repeat (first | exact Below.refl _ _ | exact HB.out | refine Below.drew ?_ | refine bel_drewN _ ?_ | refine Below.alloc ?_ (by first | omega | (simp; done) | (simp; omega)) _ | refine Below.setCell ?_ (by first | (show _ ≤ _; omega) | (simp; done) | (simp; omega)) _))⟩
theorem cmpR_two {n1 d1 n2 d2 : Int} (h : cmpR n1 d1 n2 d2 ≠ 2) : ratioOk n1 d1 = true ∧ ratioOk n2 d2 = true := by
  unfold cmpR at h
  by_cases h1 : ratioOk n1 d1 = true <;> by_cases h2 : ratioOk n2 d2 = true
  · exact ⟨h1, h2⟩
  · simp [h1, h2] at h
  · simp [h1] at h
  · simp [h1] at h
theorem cmpR_yes {n1 d1 n2 d2 : Int} (h1 : ratioOk n1 d1 = true) (h2 : ratioOk n2 d2 = true) : cmpR n1 d1 n2 d2 = cmpI (n1 * d2) (n2 * d1) := by
  unfold cmpR; rw [if_pos h1, if_pos h2]
theorem cmpI_neg (x y : Int) : cmpI y x = -cmpI x y := by
  unfold cmpI
  by_cases a : x < y
  · rw [if_pos a, if_neg (by omega), if_pos a]; rfl
  · by_cases b : y < x
    · rw [if_pos b, if_neg a]; rw [if_pos b]
    · rw [if_neg b, if_neg a]; rw [if_neg a, if_neg b]; rfl
theorem cmpI_zero (x y : Int) : cmpI x y = 0 ↔ x = y := by
  unfold cmpI
  by_cases a : x < y
  · rw [if_pos a]; constructor <;> intro h <;> omega
  · by_cases b : y < x
    · rw [if_neg a, if_pos b]; constructor <;> intro h <;> omega
    · rw [if_neg b, if_neg a]; constructor <;> intro h <;> omega
theorem cmpI_bd (x y : Int) : -1 ≤ cmpI x y ∧ cmpI x y ≤ 1 := by
  unfold cmpI
  split
  · omega
  · split <;> omega
theorem cmpR_neg (n1 d1 n2 d2 : Int) (h : cmpR n1 d1 n2 d2 ≠ 2) : cmpR n2 d2 n1 d1 = -cmpR n1 d1 n2 d2 := by
  obtain ⟨h1, h2⟩ := cmpR_two h
  rw [cmpR_yes h1 h2, cmpR_yes h2 h1, cmpI_neg]
theorem cmpR_bd (n1 d1 n2 d2 : Int) : -1 ≤ cmpR n1 d1 n2 d2 ∧ cmpR n1 d1 n2 d2 ≤ 2 := by
  unfold cmpR
  have := cmpI_bd (n1 * d2) (n2 * d1)
  split
  · split <;> omega
  · omega
theorem dvd_of_gcd {k m n : Int} (h : Int.gcd m k = 1) (hd : k ∣ m * n) : k ∣ n := by
  have h1 : k.natAbs ∣ m.natAbs * n.natAbs := by rw [← Int.natAbs_mul]; exact Int.natAbs_dvd_natAbs.2 hd
  have h2 : Nat.Coprime k.natAbs m.natAbs := by unfold Nat.Coprime; rw [Nat.gcd_comm]; exact h
  exact Int.natAbs_dvd_natAbs.1 (h2.dvd_of_dvd_mul_left h1)
/-- ratios in lowest terms that are equal have equal parts -/
theorem ratio_eq {n1 d1 n2 d2 : Int} (h1 : ratioOk n1 d1 = true) (h2 : ratioOk n2 d2 = true) (h : n1 * d2 = n2 * d1) : n1 = n2 ∧ d1 = d2 := by
  obtain ⟨_, ⟨a3, _⟩, g1⟩ := ratioOk_iff.1 h1
  obtain ⟨_, ⟨b3, _⟩, g2⟩ := ratioOk_iff.1 h2
  have e1 : Int.gcd n1 d1 = 1 := by unfold gd at g1; omega
  have e2 : Int.gcd n2 d2 = 1 := by unfold gd at g2; omega
  have q1 : d1 ∣ d2 := by
    have : d1 ∣ n1 * d2 := by rw [h]; exact Int.dvd_mul_left _ _
    exact dvd_of_gcd e1 this
  have q2 : d2 ∣ d1 := by
    have : d2 ∣ n2 * d1 := by rw [← h]; exact Int.dvd_mul_left _ _
    exact dvd_of_gcd e2 this
  have e : d1 = d2 := Int.le_antisymm (Int.le_of_dvd (by omega) q1) (Int.le_of_dvd (by omega) q2)
  refine ⟨?_, e⟩
  subst e
  exact Int.eq_of_mul_eq_mul_right (by omega) h
theorem cmpR_zero {n1 d1 n2 d2 : Int} (h : cmpR n1 d1 n2 d2 ≠ 2) : cmpR n1 d1 n2 d2 = 0 ↔ n1 = n2 ∧ d1 = d2 := by
  obtain ⟨h1, h2⟩ := cmpR_two h
  rw [cmpR_yes h1 h2, cmpI_zero]
  constructor
  · exact ratio_eq h1 h2
  · rintro ⟨rfl, rfl⟩; rfl
set_option maxHeartbeats 1000000 in
theorem fnCompareRatio_walk (a : Option Addr) (len cap : Nat) (w : World) (hlc : len ≤ cap) (hc : cap ≤ maxLen) (h : IsBytes w a len) :
    Calls Try.prog 7 #[.slice a len cap] w fun e w' => e = .returned (.bool true) ∧ Below w.heap.size w w' := by
  by_cases hbig : 1048576 < len
  · unfold maxLen at hc
    go_enter Try.func7, Try.ntmps7
    go_wp2
    go_ret
    exact ⟨rfl, Below.refl _ _⟩
  have H := Lib.hid h
  clear h
  go_enter Try.func7, Try.ntmps7
  have HB := Lib.hid (Below.refl w.heap.size w)
  go_wp2_with fail
  refine (drawCompareRatio_any _ _ _ _ hlc hc H.out).mono ?_
  rintro e v1 ⟨n1, d1, n2, d2, rfl, hb⟩
  have hszv1 := below_size hb
  try simp at hszv1
  have HBq : Below w.heap.size w v1 := Below.trans (by repeat (first | exact Below.refl _ _ | exact HB.out | refine Below.drew ?_ | refine bel_drewN _ ?_ | refine Below.alloc ?_ (by first | omega | (simp; done) | (simp; omega)) _ | refine Below.setCell ?_ (by first | (show _ ≤ _; omega) | (simp; done) | (simp; omega)) _)) (hb.mono (by first | omega | (simp; done) | (simp; omega)))
  have HB := Lib.hid HBq
  clear HBq hb
  go_wp2_with fail
  refine (compareI_any n1 d1 n2 d2 _).mono ?_
  rintro e v2 ⟨rfl, hb⟩
  have p0_1 : v2.cell? ⟨v1.heap.size, 0, none⟩ = some (.int .i64 n1) := bc hb (by first | (simp; done) | go_simp)
  have p1_1 : v2.cell? ⟨v1.heap.size, 1, none⟩ = some (.int .i64 d1) := bc hb (by first | (simp; done) | go_simp)
  have pl_1 : v1.heap.size < v2.heap.size := cell_lt p0_1
  have q0_1 : v2.cell? ⟨v1.heap.size + 1, 0, none⟩ = some (.int .i64 n2) := bc hb (by first | (simp; done) | go_simp)
  have q1_1 : v2.cell? ⟨v1.heap.size + 1, 1, none⟩ = some (.int .i64 d2) := bc hb (by first | (simp; done) | go_simp)
  have ql_1 : v1.heap.size + 1 < v2.heap.size := cell_lt q0_1
  have hszv2 := below_size hb
  try simp at hszv2
  have HBq : Below w.heap.size w v2 := Below.trans (by repeat (first | exact Below.refl _ _ | exact HB.out | refine Below.drew ?_ | refine bel_drewN _ ?_ | refine Below.alloc ?_ (by first | omega | (simp; done) | (simp; omega)) _ | refine Below.setCell ?_ (by first | (show _ ≤ _; omega) | (simp; done) | (simp; omega)) _)) (hb.mono (by first | omega | (simp; done) | (simp; omega)))
  have HB := Lib.hid HBq
  clear HBq hb
  go_wp2_with fail
  refine (compareS_any n1 d1 n2 d2 _).mono ?_
  rintro e v3 ⟨rfl, hb⟩
  have p0_2 : v3.cell? ⟨v1.heap.size, 0, none⟩ = some (.int .i64 n1) := bc hb (by first | exact p0_1 | exact ca p0_1 | exact ca (ca p0_1) | exact ca (ca (ca p0_1)) | (simp; done) | go_simp)
  have p1_2 : v3.cell? ⟨v1.heap.size, 1, none⟩ = some (.int .i64 d1) := bc hb (by first | exact p1_1 | exact ca p1_1 | exact ca (ca p1_1) | exact ca (ca (ca p1_1)) | (simp; done) | go_simp)
  have pl_2 : v1.heap.size < v3.heap.size := cell_lt p0_2
  clear p0_1 p1_1 pl_1
  have q0_2 : v3.cell? ⟨v1.heap.size + 1, 0, none⟩ = some (.int .i64 n2) := bc hb (by first | exact q0_1 | exact ca q0_1 | exact ca (ca q0_1) | exact ca (ca (ca q0_1)) | (simp; done) | go_simp)
  have q1_2 : v3.cell? ⟨v1.heap.size + 1, 1, none⟩ = some (.int .i64 d2) := bc hb (by first | exact q1_1 | exact ca q1_1 | exact ca (ca q1_1) | exact ca (ca (ca q1_1)) | (simp; done) | go_simp)
  have ql_2 : v1.heap.size + 1 < v3.heap.size := cell_lt q0_2
  clear q0_1 q1_1 ql_1
  have hszv3 := below_size hb
  try simp at hszv3
  have HBq : Below w.heap.size w v3 := Below.trans (by repeat (first | exact Below.refl _ _ | exact HB.out | refine Below.drew ?_ | refine bel_drewN _ ?_ | refine Below.alloc ?_ (by first | omega | (simp; done) | (simp; omega)) _ | refine Below.setCell ?_ (by first | (show _ ≤ _; omega) | (simp; done) | (simp; omega)) _)) (hb.mono (by first | omega | (simp; done) | (simp; omega)))
  have HB := Lib.hid HBq
  clear HBq hb
  obtain ⟨c1, c2⟩ := cmpR_bd n1 d1 n2 d2
  by_cases h2 : cmpR n1 d1 n2 d2 = 2
  · have h2' : (cmpR n1 d1 n2 d2 == 2) = true := by simpa using h2
    clear h2
    go_wp2_with fail
    refine (compareS_any n1 d1 n2 d2 _).mono ?_
    rintro e v4 ⟨rfl, hb⟩
    have p0_3 : v4.cell? ⟨v1.heap.size, 0, none⟩ = some (.int .i64 n1) := bc hb (by first | exact p0_2 | exact ca p0_2 | exact ca (ca p0_2) | exact ca (ca (ca p0_2)) | (simp; done) | go_simp)
    have p1_3 : v4.cell? ⟨v1.heap.size, 1, none⟩ = some (.int .i64 d1) := bc hb (by first | exact p1_2 | exact ca p1_2 | exact ca (ca p1_2) | exact ca (ca (ca p1_2)) | (simp; done) | go_simp)
    have pl_3 : v1.heap.size < v4.heap.size := cell_lt p0_3
    clear p0_2 p1_2 pl_2
    have q0_3 : v4.cell? ⟨v1.heap.size + 1, 0, none⟩ = some (.int .i64 n2) := bc hb (by first | exact q0_2 | exact ca q0_2 | exact ca (ca q0_2) | exact ca (ca (ca q0_2)) | (simp; done) | go_simp)
    have q1_3 : v4.cell? ⟨v1.heap.size + 1, 1, none⟩ = some (.int .i64 d2) := bc hb (by first | exact q1_2 | exact ca q1_2 | exact ca (ca q1_2) | exact ca (ca (ca q1_2)) | (simp; done) | go_simp)
    have ql_3 : v1.heap.size + 1 < v4.heap.size := cell_lt q0_3
    clear q0_2 q1_2 ql_2
    have hszv4 := below_size hb
    try simp at hszv4
    have HBq : Below w.heap.size w v4 := Below.trans (by repeat (first | exact Below.refl _ _ | exact HB.out | refine Below.drew ?_ | refine bel_drewN _ ?_ | refine Below.alloc ?_ (by first | omega | (simp; done) | (simp; omega)) _ | refine Below.setCell ?_ (by first | (show _ ≤ _; omega) | (simp; done) | (simp; omega)) _)) (hb.mono (by first | omega | (simp; done) | (simp; omega)))
    have HB := Lib.hid HBq
    clear HBq hb
    go_wp2
    go_ret
    exact ⟨rfl, HB.out⟩
  · have h2' : (cmpR n1 d1 n2 d2 == 2) = false := by simpa using h2
    have e1 := cmpR_neg n1 d1 n2 d2 h2
    have e2 := cmpR_zero h2
    have E1 : (cmpR n2 d2 n1 d1 == -cmpR n1 d1 n2 d2) = true := by rw [e1]; simp
    clear h2 e1
    go_wp2_with fail
    refine (compareI_any n2 d2 n1 d1 _).mono ?_
    rintro e v4 ⟨rfl, hb⟩
    have p0_3 : v4.cell? ⟨v1.heap.size, 0, none⟩ = some (.int .i64 n1) := bc hb (by first | exact p0_2 | exact ca p0_2 | exact ca (ca p0_2) | exact ca (ca (ca p0_2)) | (simp; done) | go_simp)
    have p1_3 : v4.cell? ⟨v1.heap.size, 1, none⟩ = some (.int .i64 d1) := bc hb (by first | exact p1_2 | exact ca p1_2 | exact ca (ca p1_2) | exact ca (ca (ca p1_2)) | (simp; done) | go_simp)
    have pl_3 : v1.heap.size < v4.heap.size := cell_lt p0_3
    clear p0_2 p1_2 pl_2
    have q0_3 : v4.cell? ⟨v1.heap.size + 1, 0, none⟩ = some (.int .i64 n2) := bc hb (by first | exact q0_2 | exact ca q0_2 | exact ca (ca q0_2) | exact ca (ca (ca q0_2)) | (simp; done) | go_simp)
    have q1_3 : v4.cell? ⟨v1.heap.size + 1, 1, none⟩ = some (.int .i64 d2) := bc hb (by first | exact q1_2 | exact ca q1_2 | exact ca (ca q1_2) | exact ca (ca (ca q1_2)) | (simp; done) | go_simp)
    have ql_3 : v1.heap.size + 1 < v4.heap.size := cell_lt q0_3
    clear q0_2 q1_2 ql_2
    have hszv4 := below_size hb
    try simp at hszv4
    have HBq : Below w.heap.size w v4 := Below.trans (by repeat (first | exact Below.refl _ _ | exact HB.out | refine Below.drew ?_ | refine bel_drewN _ ?_ | refine Below.alloc ?_ (by first | omega | (simp; done) | (simp; omega)) _ | refine Below.setCell ?_ (by first | (show _ ≤ _; omega) | (simp; done) | (simp; omega)) _)) (hb.mono (by first | omega | (simp; done) | (simp; omega)))
    have HB := Lib.hid HBq
    clear HBq hb
    have E2 := Lib.hid e2
    clear e2
    go_wp2
    all_goals
      go_ret
      have e2 := E2.out
      refine ⟨ret_bool ?_, HB.out⟩
      clear E2 HB H E1 c1 c2 h2' p0_3 p1_3 q0_3 q1_3
      simp_all
end Go.Proofs.Ytlobbphhhdklfaa
