/- Adding one to both ratios keeps the order. -/
import Derived.Test.YtlobbphhhdklfaaRatioDraw2
namespace Go.Proofs.Ytlobbphhhdklfaa
open Go.RowKit
set_option linter.unusedVariables false
theorem gd_add (n d : Int) : gd (n + d) d = gd n d := by
  unfold gd
  simp
theorem low_one {n d : Int} (h : gd n d = 1) : lowN n d = n ∧ lowD n d = d := by
  unfold lowN lowD
  rw [h, Int.ediv_one, Int.ediv_one]; exact ⟨rfl, rfl⟩
def addN (n d : Int) : Int := if ratioOk (n + d) d = true then n + d else 0
def addD (n d : Int) : Int := if ratioOk (n + d) d = true then d else 0
theorem one_ok : ratioOk 1 1 = true := by decide
theorem addOne_any (n d : Int) (w : World) (h : ratioOk n d = true) :
    Calls Try.prog 19 #[.agg #[.int .i64 n, .int .i64 d], .agg #[.int .i64 1, .int .i64 1]] w fun e w' => e = .returned (.tuple #[.agg #[.int .i64 (addN n d), .int .i64 (addD n d)], .bool (ratioOk (n + d) d)]) ∧ Below w.heap.size w w' := by
  have g : gd (n + d) d = 1 := by rw [gd_add]; exact (ratioOk_iff.1 h).2.2
  obtain ⟨l1, l2⟩ := low_one g
  have e : lowRes (n * 1 + 1 * d) (d * 1) = (addN n d, addD n d, ratioOk (n + d) d) := by
    rw [Int.mul_one, Int.one_mul, Int.mul_one]
    unfold lowRes addN addD
    rw [l1, l2]
    by_cases k : ratioOk (n + d) d = true
    · simp [k]
    · simp [k]
  have := addRatio_any n d 1 1 w h one_ok
  rw [e] at this
  exact this
theorem cmp_add {n1 d1 n2 d2 : Int} (h1 : ratioOk (n1 + d1) d1 = true) (h2 : ratioOk (n2 + d2) d2 = true) (h : cmpR n1 d1 n2 d2 ≠ 2) : cmpR (addN n1 d1) (addD n1 d1) (addN n2 d2) (addD n2 d2) = cmpR n1 d1 n2 d2 := by
  unfold addN addD
  rw [if_pos h1, if_pos h1, if_pos h2, if_pos h2]
  obtain ⟨k1, k2⟩ := cmpR_two h
  rw [cmpR_yes h1 h2, cmpR_yes k1 k2]
  unfold cmpI
  rw [Int.add_mul, Int.add_mul, Int.mul_comm d2 d1]
  simp
set_option maxHeartbeats 2000000 in
theorem fnCompareRatioAdd_walk (a : Option Addr) (len cap : Nat) (w : World) (hlc : len ≤ cap) (hc : cap ≤ maxLen) (h : IsBytes w a len) :
    Calls Try.prog 8 #[.slice a len cap] w fun e w' => e = .returned (.bool true) ∧ Below w.heap.size w w' := by
  by_cases hbig : 1048576 < len
  · unfold maxLen at hc
    go_enter Try.func8, Try.ntmps8
    go_wp2
    go_ret
    exact ⟨rfl, Below.refl _ _⟩
  have H := Lib.hid h
  clear h
  go_enter Try.func8, Try.ntmps8
  have HB := Lib.hid (Below.refl w.heap.size w)
  go_wp2_with fail
  refine (drawCompareRatio_any _ _ _ _ hlc hc H.out).mono ?_
  rintro e v1 ⟨n1, d1, n2, d2, rfl, hb⟩
  have hszv1 := below_size hb
  try simp at hszv1
  have HBq : Below w.heap.size w v1 := Below.trans (by repeat (first | exact Below.refl _ _ | exact HB.out | refine Below.drew ?_ | refine bel_drewN _ ?_ | refine Below.alloc ?_ (by first | omega | (simp; done) | (simp; omega)) _ | refine Below.setCell ?_ (by first | (show _ ≤ _; omega) | (simp; done) | (simp; omega)) _)) (hb.mono (by first | omega | (simp; done) | (simp; omega)))
  have HB := Lib.hid HBq
  clear HBq hb
  go_wp2_with fail
  refine (compareI_any n1 d1 n2 d2 _).mono ?_
  rintro e v2 ⟨rfl, hb⟩
  have p0_1 : v2.cell? ⟨v1.heap.size, 0, none⟩ = some (.int .i64 n1) := bc hb (by first | (simp; done) | go_simp)
  have p1_1 : v2.cell? ⟨v1.heap.size, 1, none⟩ = some (.int .i64 d1) := bc hb (by first | (simp; done) | go_simp)
  have pl_1 : v1.heap.size < v2.heap.size := cell_lt p0_1
  have q0_1 : v2.cell? ⟨v1.heap.size + 1, 0, none⟩ = some (.int .i64 n2) := bc hb (by first | (simp; done) | go_simp)
  have q1_1 : v2.cell? ⟨v1.heap.size + 1, 1, none⟩ = some (.int .i64 d2) := bc hb (by first | (simp; done) | go_simp)
  have ql_1 : v1.heap.size + 1 < v2.heap.size := cell_lt q0_1
  have hszv2 := below_size hb
  try simp at hszv2
  have HBq : Below w.heap.size w v2 := Below.trans (by repeat (first | exact Below.refl _ _ | exact HB.out | refine Below.drew ?_ | refine bel_drewN _ ?_ | refine Below.alloc ?_ (by first | omega | (simp; done) | (simp; omega)) _ | refine Below.setCell ?_ (by first | (show _ ≤ _; omega) | (simp; done) | (simp; omega)) _)) (hb.mono (by first | omega | (simp; done) | (simp; omega)))
  have HB := Lib.hid HBq
  clear HBq hb
  go_wp2_with fail
  refine (compareS_any n1 d1 n2 d2 _).mono ?_
  rintro e v3 ⟨rfl, hb⟩
  have p0_2 : v3.cell? ⟨v1.heap.size, 0, none⟩ = some (.int .i64 n1) := bc hb (by first | exact p0_1 | exact ca p0_1 | exact ca (ca p0_1) | exact ca (ca (ca p0_1)) | (simp; done) | go_simp)
  have p1_2 : v3.cell? ⟨v1.heap.size, 1, none⟩ = some (.int .i64 d1) := bc hb (by first | exact p1_1 | exact ca p1_1 | exact ca (ca p1_1) | exact ca (ca (ca p1_1)) | (simp; done) | go_simp)
  have pl_2 : v1.heap.size < v3.heap.size := cell_lt p0_2
  clear p0_1 p1_1 pl_1
  have q0_2 : v3.cell? ⟨v1.heap.size + 1, 0, none⟩ = some (.int .i64 n2) := bc hb (by first | exact q0_1 | exact ca q0_1 | exact ca (ca q0_1) | exact ca (ca (ca q0_1)) | (simp; done) | go_simp)
  have q1_2 : v3.cell? ⟨v1.heap.size + 1, 1, none⟩ = some (.int .i64 d2) := bc hb (by first | exact q1_1 | exact ca q1_1 | exact ca (ca q1_1) | exact ca (ca (ca q1_1)) | (simp; done) | go_simp)
  have ql_2 : v1.heap.size + 1 < v3.heap.size := cell_lt q0_2
  clear q0_1 q1_1 ql_1
  have hszv3 := below_size hb
  try simp at hszv3
  have HBq : Below w.heap.size w v3 := Below.trans (by repeat (first | exact Below.refl _ _ | exact HB.out | refine Below.drew ?_ | refine bel_drewN _ ?_ | refine Below.alloc ?_ (by first | omega | (simp; done) | (simp; omega)) _ | refine Below.setCell ?_ (by first | (show _ ≤ _; omega) | (simp; done) | (simp; omega)) _)) (hb.mono (by first | omega | (simp; done) | (simp; omega)))
  have HB := Lib.hid HBq
  clear HBq hb
  by_cases h2 : cmpR n1 d1 n2 d2 = 2
  · have h2' : (cmpR n1 d1 n2 d2 == 2) = true := by simpa using h2
    clear h2
    go_wp2_with fail
    refine (compareS_any n1 d1 n2 d2 _).mono ?_
    rintro e v4 ⟨rfl, hb⟩
    have p0_3 : v4.cell? ⟨v1.heap.size, 0, none⟩ = some (.int .i64 n1) := bc hb (by first | exact p0_2 | exact ca p0_2 | exact ca (ca p0_2) | exact ca (ca (ca p0_2)) | (simp; done) | go_simp)
    have p1_3 : v4.cell? ⟨v1.heap.size, 1, none⟩ = some (.int .i64 d1) := bc hb (by first | exact p1_2 | exact ca p1_2 | exact ca (ca p1_2) | exact ca (ca (ca p1_2)) | (simp; done) | go_simp)
    have pl_3 : v1.heap.size < v4.heap.size := cell_lt p0_3
    clear p0_2 p1_2 pl_2
    have q0_3 : v4.cell? ⟨v1.heap.size + 1, 0, none⟩ = some (.int .i64 n2) := bc hb (by first | exact q0_2 | exact ca q0_2 | exact ca (ca q0_2) | exact ca (ca (ca q0_2)) | (simp; done) | go_simp)
    have q1_3 : v4.cell? ⟨v1.heap.size + 1, 1, none⟩ = some (.int .i64 d2) := bc hb (by first | exact q1_2 | exact ca q1_2 | exact ca (ca q1_2) | exact ca (ca (ca q1_2)) | (simp; done) | go_simp)
    have ql_3 : v1.heap.size + 1 < v4.heap.size := cell_lt q0_3
    clear q0_2 q1_2 ql_2
    have hszv4 := below_size hb
    try simp at hszv4
    have HBq : Below w.heap.size w v4 := Below.trans (by repeat (first | exact Below.refl _ _ | exact HB.out | refine Below.drew ?_ | refine bel_drewN _ ?_ | refine Below.alloc ?_ (by first | omega | (simp; done) | (simp; omega)) _ | refine Below.setCell ?_ (by first | (show _ ≤ _; omega) | (simp; done) | (simp; omega)) _)) (hb.mono (by first | omega | (simp; done) | (simp; omega)))
    have HB := Lib.hid HBq
    clear HBq hb
    go_wp2
    go_ret
    exact ⟨rfl, HB.out⟩
  · have h2' : (cmpR n1 d1 n2 d2 == 2) = false := by simpa using h2
    obtain ⟨k1, k2⟩ := cmpR_two h2
    have E := @cmp_add n1 d1 n2 d2
    have E1 := Lib.hid E
    have H2 := Lib.hid h2
    clear h2 E
    go_wp2_with fail
    refine (addOne_any n1 d1 _ k1).mono ?_
    rintro e v4 ⟨rfl, hb⟩
    have p0_3 : v4.cell? ⟨v1.heap.size, 0, none⟩ = some (.int .i64 n1) := bc hb (by first | exact p0_2 | exact ca p0_2 | exact ca (ca p0_2) | exact ca (ca (ca p0_2)) | (simp; done) | go_simp)
    have p1_3 : v4.cell? ⟨v1.heap.size, 1, none⟩ = some (.int .i64 d1) := bc hb (by first | exact p1_2 | exact ca p1_2 | exact ca (ca p1_2) | exact ca (ca (ca p1_2)) | (simp; done) | go_simp)
    have pl_3 : v1.heap.size < v4.heap.size := cell_lt p0_3
    clear p0_2 p1_2 pl_2
    have q0_3 : v4.cell? ⟨v1.heap.size + 1, 0, none⟩ = some (.int .i64 n2) := bc hb (by first | exact q0_2 | exact ca q0_2 | exact ca (ca q0_2) | exact ca (ca (ca q0_2)) | (simp; done) | go_simp)
    have q1_3 : v4.cell? ⟨v1.heap.size + 1, 1, none⟩ = some (.int .i64 d2) := bc hb (by first | exact q1_2 | exact ca q1_2 | exact ca (ca q1_2) | exact ca (ca (ca q1_2)) | (simp; done) | go_simp)
    have ql_3 : v1.heap.size + 1 < v4.heap.size := cell_lt q0_3
    clear q0_2 q1_2 ql_2
    have hszv4 := below_size hb
    try simp at hszv4
    have HBq : Below w.heap.size w v4 := Below.trans (by repeat (first | exact Below.refl _ _ | exact HB.out | refine Below.drew ?_ | refine bel_drewN _ ?_ | refine Below.alloc ?_ (by first | omega | (simp; done) | (simp; omega)) _ | refine Below.setCell ?_ (by first | (show _ ≤ _; omega) | (simp; done) | (simp; omega)) _)) (hb.mono (by first | omega | (simp; done) | (simp; omega)))
    have HB := Lib.hid HBq
    clear HBq hb
    go_wp2_with fail
    refine (addOne_any n2 d2 _ k2).mono ?_
    rintro e v5 ⟨rfl, hb⟩
    have p0_4 : v5.cell? ⟨v1.heap.size, 0, none⟩ = some (.int .i64 n1) := bc hb (by first | exact p0_3 | exact ca p0_3 | exact ca (ca p0_3) | exact ca (ca (ca p0_3)) | (simp; done) | go_simp)
    have p1_4 : v5.cell? ⟨v1.heap.size, 1, none⟩ = some (.int .i64 d1) := bc hb (by first | exact p1_3 | exact ca p1_3 | exact ca (ca p1_3) | exact ca (ca (ca p1_3)) | (simp; done) | go_simp)
    have pl_4 : v1.heap.size < v5.heap.size := cell_lt p0_4
    clear p0_3 p1_3 pl_3
    have q0_4 : v5.cell? ⟨v1.heap.size + 1, 0, none⟩ = some (.int .i64 n2) := bc hb (by first | exact q0_3 | exact ca q0_3 | exact ca (ca q0_3) | exact ca (ca (ca q0_3)) | (simp; done) | go_simp)
    have q1_4 : v5.cell? ⟨v1.heap.size + 1, 1, none⟩ = some (.int .i64 d2) := bc hb (by first | exact q1_3 | exact ca q1_3 | exact ca (ca q1_3) | exact ca (ca (ca q1_3)) | (simp; done) | go_simp)
    have ql_4 : v1.heap.size + 1 < v5.heap.size := cell_lt q0_4
    clear q0_3 q1_3 ql_3
    have x0_1 : v5.cell? ⟨v4.heap.size, 0, none⟩ = some (.int .i64 (addN n1 d1)) := bc hb (by first | (simp; done) | go_simp)
    have x1_1 : v5.cell? ⟨v4.heap.size, 1, none⟩ = some (.int .i64 (addD n1 d1)) := bc hb (by first | (simp; done) | go_simp)
    have xl_1 : v4.heap.size < v5.heap.size := cell_lt x0_1
    have hszv5 := below_size hb
    try simp at hszv5
    have HBq : Below w.heap.size w v5 := Below.trans (by repeat (first | exact Below.refl _ _ | exact HB.out | refine Below.drew ?_ | refine bel_drewN _ ?_ | refine Below.alloc ?_ (by first | omega | (simp; done) | (simp; omega)) _ | refine Below.setCell ?_ (by first | (show _ ≤ _; omega) | (simp; done) | (simp; omega)) _)) (hb.mono (by first | omega | (simp; done) | (simp; omega)))
    have HB := Lib.hid HBq
    clear HBq hb
    by_cases g1 : ratioOk (n1 + d1) d1 = true
    · by_cases g2 : ratioOk (n2 + d2) d2 = true
      · have e := E1.out g1 g2 H2.out
        have e' : (cmpR (addN n1 d1) (addD n1 d1) (addN n2 d2) (addD n2 d2) == cmpR n1 d1 n2 d2) = true := by simpa using e
        clear e
        go_wp2_with fail
        refine (compareI_any _ _ _ _ _).mono ?_
        rintro e v6 ⟨rfl, hb⟩
        have p0_5 : v6.cell? ⟨v1.heap.size, 0, none⟩ = some (.int .i64 n1) := bc hb (by first | exact p0_4 | exact ca p0_4 | exact ca (ca p0_4) | exact ca (ca (ca p0_4)) | (simp; done) | go_simp)
        have p1_5 : v6.cell? ⟨v1.heap.size, 1, none⟩ = some (.int .i64 d1) := bc hb (by first | exact p1_4 | exact ca p1_4 | exact ca (ca p1_4) | exact ca (ca (ca p1_4)) | (simp; done) | go_simp)
        have pl_5 : v1.heap.size < v6.heap.size := cell_lt p0_5
        clear p0_4 p1_4 pl_4
        have q0_5 : v6.cell? ⟨v1.heap.size + 1, 0, none⟩ = some (.int .i64 n2) := bc hb (by first | exact q0_4 | exact ca q0_4 | exact ca (ca q0_4) | exact ca (ca (ca q0_4)) | (simp; done) | go_simp)
        have q1_5 : v6.cell? ⟨v1.heap.size + 1, 1, none⟩ = some (.int .i64 d2) := bc hb (by first | exact q1_4 | exact ca q1_4 | exact ca (ca q1_4) | exact ca (ca (ca q1_4)) | (simp; done) | go_simp)
        have ql_5 : v1.heap.size + 1 < v6.heap.size := cell_lt q0_5
        clear q0_4 q1_4 ql_4
        have x0_2 : v6.cell? ⟨v4.heap.size, 0, none⟩ = some (.int .i64 (addN n1 d1)) := bc hb (by first | exact x0_1 | exact ca x0_1 | exact ca (ca x0_1) | exact ca (ca (ca x0_1)) | (simp; done) | go_simp)
        have x1_2 : v6.cell? ⟨v4.heap.size, 1, none⟩ = some (.int .i64 (addD n1 d1)) := bc hb (by first | exact x1_1 | exact ca x1_1 | exact ca (ca x1_1) | exact ca (ca (ca x1_1)) | (simp; done) | go_simp)
        have xl_2 : v4.heap.size < v6.heap.size := cell_lt x0_2
        clear x0_1 x1_1 xl_1
        have hszv6 := below_size hb
        try simp at hszv6
        have HBq : Below w.heap.size w v6 := Below.trans (by repeat (first | exact Below.refl _ _ | exact HB.out | refine Below.drew ?_ | refine bel_drewN _ ?_ | refine Below.alloc ?_ (by first | omega | (simp; done) | (simp; omega)) _ | refine Below.setCell ?_ (by first | (show _ ≤ _; omega) | (simp; done) | (simp; omega)) _)) (hb.mono (by first | omega | (simp; done) | (simp; omega)))
        have HB := Lib.hid HBq
        clear HBq hb
        go_wp2
        go_ret
        exact ⟨rfl, HB.out⟩
      · have g2' : ratioOk (n2 + d2) d2 = false := by simpa using g2
        clear g2
        go_wp2
        go_ret
        exact ⟨rfl, (by repeat (first | exact Below.refl _ _ | exact HB.out | refine Below.drew ?_ | refine bel_drewN _ ?_ | refine Below.alloc ?_ (by first | omega | (simp; done) | (simp; omega)) _ | refine Below.setCell ?_ (by first | (show _ ≤ _; omega) | (simp; done) | (simp; omega)) _))⟩
    · have g1' : ratioOk (n1 + d1) d1 = false := by simpa using g1
      clear g1
      go_wp2
      go_ret
      exact ⟨rfl, (by repeat (first | exact Below.refl _ _ | exact HB.out | refine Below.drew ?_ | refine bel_drewN _ ?_ | refine Below.alloc ?_ (by first | omega | (simp; done) | (simp; omega)) _ | refine Below.setCell ?_ (by first | (show _ ≤ _; omega) | (simp; done) | (simp; omega)) _))⟩
end Go.Proofs.Ytlobbphhhdklfaa
