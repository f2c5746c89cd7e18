/- The laws over repos that are rolled: the draw, and the law. -/
import Derived.Test.YtiplcndacmicoaaDoorRepoLaws2
namespace Go.Proofs.YtiplcndacmicoaaDoor
open Go.RowKit
set_option linter.unusedVariables false
theorem Has5.keep {w w' : World} {b R : Nat} {n0 n1 n2 n3 n4 : Int} (h : Has5 w b n0 n1 n2 n3 n4) (k : Keep R w w') (hb : b < w.heap.size) (hr : b ≠ R) : Has5 w' b n0 n1 n2 n3 n4 := by
  obtain ⟨h0, h1, h2, h3, h4⟩ := h
  exact ⟨(k.cell hb hr).trans h0, (k.cell hb hr).trans h1, (k.cell hb hr).trans h2, (k.cell hb hr).trans h3, (k.cell hb hr).trans h4⟩
theorem Unf5.keep {w w' : World} {b R : Nat} (h : Unf5 w b) (k : Keep R w w') (hb : b < w.heap.size) (hr : b ≠ R) : Unf5 w' b := by
  obtain ⟨h0, h1, h2, h3, h4⟩ := h
  exact ⟨(k.frozen hb hr).trans h0, (k.frozen hb hr).trans h1, (k.frozen hb hr).trans h2, (k.frozen hb hr).trans h3, (k.frozen hb hr).trans h4⟩
theorem IntsIn.drewd {w : World} {b n : Nat} {lo hi : Int} (h : IntsIn w b n lo hi) : IntsIn w.drew b n lo hi := h
def DrawRR (w : World) (e : Ending) (w' : World) : Prop :=
  ∃ c r a b h t q : Int, e = .returned (.tuple #[.agg #[.int .i64 c, .int .i64 r, .int .i64 a, .int .i64 b, .int .i64 h], .int .i64 t, .int .i64 q]) ∧ Below w.heap.size w w'
set_option maxHeartbeats 4000000 in
theorem drawRollRepo_any (a : Option Addr) (len cap : Nat) (w : World) (hlc : len ≤ cap) (hc : cap ≤ maxLen) (h : IsBytes w a len) :
    Calls Tryd.prog 13 #[.slice a len cap] w (DrawRR w) := by
  have H := Lib.hid h
  clear h
  go_enter Tryd.func13, Tryd.ntmps13
  go_wp2_with fail
  refine (newReader_any _ _ _ _ hlc hc (by repeat (first | exact H.out | refine IsBytes.alloc ?_ _))).mono ?_
  rintro e v1 ⟨rfl, hb, hrd, hszv1⟩
  try simp at hszv1
  replace hszv1 : w.heap.size + 1 + 1 ≤ v1.heap.size := by omega
  have hR : w.heap.size + 1 < v1.heap.size := by omega
  have hrdq : Rd v1 (w.heap.size + 1) 0 := by simpa using hrd
  have HR := Lib.hid hrdq
  have HBq : KB (w.heap.size) (w.heap.size + 1) w v1 := KB.quiet (Nat.le_refl _) (by repeat (first | exact KB.refl _ _ _ | exact HB.out | refine KB.drew ?_ | refine KB.drewN ?_ | refine KB.alloc (Nat.le_refl _) ?_ _ | refine KB.setCell ?_ (by first | (show _ ≤ _; omega) | (simp; done) | (simp; omega)) _)) hb
  have HB := Lib.hid HBq
  have y0_1 : v1.cell? ⟨w.heap.size, 0, none⟩ = some (.int .i64 0) := bc hb (by first | (simp; done) | go_simp)
  have yf0_1 : v1.frozen? ⟨w.heap.size, 0, none⟩ = false := bf hb (by first | (simp; done) | (simp; omega) | (show w.heap.size < _; omega)) (by first | (simp; done) | go_simp)
  have y1_1 : v1.cell? ⟨w.heap.size, 1, none⟩ = some (.int .i64 0) := bc hb (by first | (simp; done) | go_simp)
  have yf1_1 : v1.frozen? ⟨w.heap.size, 1, none⟩ = false := bf hb (by first | (simp; done) | (simp; omega) | (show w.heap.size < _; omega)) (by first | (simp; done) | go_simp)
  have y2_1 : v1.cell? ⟨w.heap.size, 2, none⟩ = some (.int .i64 0) := bc hb (by first | (simp; done) | go_simp)
  have yf2_1 : v1.frozen? ⟨w.heap.size, 2, none⟩ = false := bf hb (by first | (simp; done) | (simp; omega) | (show w.heap.size < _; omega)) (by first | (simp; done) | go_simp)
  have y3_1 : v1.cell? ⟨w.heap.size, 3, none⟩ = some (.int .i64 0) := bc hb (by first | (simp; done) | go_simp)
  have yf3_1 : v1.frozen? ⟨w.heap.size, 3, none⟩ = false := bf hb (by first | (simp; done) | (simp; omega) | (show w.heap.size < _; omega)) (by first | (simp; done) | go_simp)
  have y4_1 : v1.cell? ⟨w.heap.size, 4, none⟩ = some (.int .i64 0) := bc hb (by first | (simp; done) | go_simp)
  have yf4_1 : v1.frozen? ⟨w.heap.size, 4, none⟩ = false := bf hb (by first | (simp; done) | (simp; omega) | (show w.heap.size < _; omega)) (by first | (simp; done) | go_simp)
  have yl_1 : w.heap.size < v1.heap.size := cell_lt y0_1
  clear hrd hrdq HBq hb
  go_wp2_with fail
  refine (anyRepo_any _ _ _ (by first | exact hR | omega | (simp; done) | (simp; omega)) (by omega) (by omega) (Rd.fwd HR.out (by repeat (first | exact Below.refl _ _ | refine Below.drew ?_ | refine bel_drewN _ ?_ | refine Below.alloc ?_ (by first | omega | (simp; done) | (simp; omega)) _ | refine Below.setCell ?_ (by first | (show _ ≤ _; omega) | (simp; done) | (simp; omega)) _)))).mono ?_
  rintro e v2 ⟨n1, n2, n3, n4, n5, rfl, h1, h2, h3, h4, h5, k, r⟩
  have HBq : KB (w.heap.size) (w.heap.size + 1) w v2 := KB.callee (Nat.le_refl _) (by repeat (first | exact KB.refl _ _ _ | exact HB.out | refine KB.drew ?_ | refine KB.drewN ?_ | refine KB.alloc (Nat.le_refl _) ?_ _ | refine KB.setCell ?_ (by first | (show _ ≤ _; omega) | (simp; done) | (simp; omega)) _)) k
  have HB := Lib.hid HBq
  clear HBq
  have hR : w.heap.size + 1 < v2.heap.size := Nat.lt_of_lt_of_le (by first | exact hR | omega | (simp; done) | (simp; omega)) k.size
  have HR := Lib.hid r
  have y0_2 : v2.cell? ⟨w.heap.size, 0, none⟩ = some (.int .i64 0) := kc k (by first | exact y0_1 | exact ca y0_1 | exact ca (ca y0_1) | exact ca (ca (ca y0_1)) | (simp; done) | go_simp) (by show w.heap.size ≠ _; omega)
  have yf0_2 : v2.frozen? ⟨w.heap.size, 0, none⟩ = false := kf k (by first | (simp; done) | (simp; omega) | (show w.heap.size < _; omega)) (by show w.heap.size ≠ _; omega) (by first | exact yf0_1 | exact fa (by show w.heap.size < _; omega) yf0_1 | exact fa (by show w.heap.size < _; simp; omega) (fa (by show w.heap.size < _; omega) yf0_1) | (simp; done) | go_simp)
  have y1_2 : v2.cell? ⟨w.heap.size, 1, none⟩ = some (.int .i64 0) := kc k (by first | exact y1_1 | exact ca y1_1 | exact ca (ca y1_1) | exact ca (ca (ca y1_1)) | (simp; done) | go_simp) (by show w.heap.size ≠ _; omega)
  have yf1_2 : v2.frozen? ⟨w.heap.size, 1, none⟩ = false := kf k (by first | (simp; done) | (simp; omega) | (show w.heap.size < _; omega)) (by show w.heap.size ≠ _; omega) (by first | exact yf1_1 | exact fa (by show w.heap.size < _; omega) yf1_1 | exact fa (by show w.heap.size < _; simp; omega) (fa (by show w.heap.size < _; omega) yf1_1) | (simp; done) | go_simp)
  have y2_2 : v2.cell? ⟨w.heap.size, 2, none⟩ = some (.int .i64 0) := kc k (by first | exact y2_1 | exact ca y2_1 | exact ca (ca y2_1) | exact ca (ca (ca y2_1)) | (simp; done) | go_simp) (by show w.heap.size ≠ _; omega)
  have yf2_2 : v2.frozen? ⟨w.heap.size, 2, none⟩ = false := kf k (by first | (simp; done) | (simp; omega) | (show w.heap.size < _; omega)) (by show w.heap.size ≠ _; omega) (by first | exact yf2_1 | exact fa (by show w.heap.size < _; omega) yf2_1 | exact fa (by show w.heap.size < _; simp; omega) (fa (by show w.heap.size < _; omega) yf2_1) | (simp; done) | go_simp)
  have y3_2 : v2.cell? ⟨w.heap.size, 3, none⟩ = some (.int .i64 0) := kc k (by first | exact y3_1 | exact ca y3_1 | exact ca (ca y3_1) | exact ca (ca (ca y3_1)) | (simp; done) | go_simp) (by show w.heap.size ≠ _; omega)
  have yf3_2 : v2.frozen? ⟨w.heap.size, 3, none⟩ = false := kf k (by first | (simp; done) | (simp; omega) | (show w.heap.size < _; omega)) (by show w.heap.size ≠ _; omega) (by first | exact yf3_1 | exact fa (by show w.heap.size < _; omega) yf3_1 | exact fa (by show w.heap.size < _; simp; omega) (fa (by show w.heap.size < _; omega) yf3_1) | (simp; done) | go_simp)
  have y4_2 : v2.cell? ⟨w.heap.size, 4, none⟩ = some (.int .i64 0) := kc k (by first | exact y4_1 | exact ca y4_1 | exact ca (ca y4_1) | exact ca (ca (ca y4_1)) | (simp; done) | go_simp) (by show w.heap.size ≠ _; omega)
  have yf4_2 : v2.frozen? ⟨w.heap.size, 4, none⟩ = false := kf k (by first | (simp; done) | (simp; omega) | (show w.heap.size < _; omega)) (by show w.heap.size ≠ _; omega) (by first | exact yf4_1 | exact fa (by show w.heap.size < _; omega) yf4_1 | exact fa (by show w.heap.size < _; simp; omega) (fa (by show w.heap.size < _; omega) yf4_1) | (simp; done) | go_simp)
  have yl_2 : w.heap.size < v2.heap.size := cell_lt y0_2
  clear y0_1 yf0_1 y1_1 yf1_1 y2_1 yf2_1 y3_1 yf3_1 y4_1 yf4_1 yl_1
  have hszv2 := k.size
  try simp at hszv2
  clear r k
  go_wp2_with fail
  have hne : v2.heap.size ≠ w.heap.size := by omega
  have hy : Has5 v2 w.heap.size 0 0 0 0 0 := ⟨by assumption, by assumption, by assumption, by assumption, by assumption⟩
  have hu : Unf5 v2 w.heap.size := ⟨by assumption, by assumption, by assumption, by assumption, by assumption⟩
  have hl2 : w.heap.size < v2.heap.size := yl_2
  clear y0_2 yf0_2 y1_2 yf1_2 y2_2 yf2_2 y3_2 yf3_2 y4_2 yf4_2 yl_2
  refine name_world ?_
  intro WX hWX
  have hx : Has5 WX v2.heap.size n1 n2 n3 n4 n5 := by rw [hWX]; exact Has5.new _ _ _ _ _ _ _
  have hyx : Has5 WX w.heap.size 0 0 0 0 0 := by rw [hWX]; exact hy.alloc _
  have hux : Unf5 WX w.heap.size := by rw [hWX]; exact hu.alloc hl2 _
  have hlx : WX.heap.size = v2.heap.size + 1 := by rw [hWX]; simp
  have HRX : Hid (Rd WX (w.heap.size + 1) (0 + 11)) := Lib.hid (by rw [hWX]; exact Rd.fwd HR.out (by repeat (first | exact Below.refl _ _ | refine Below.drew ?_ | refine bel_drewN _ ?_ | refine Below.alloc ?_ (by first | omega | (simp; done) | (simp; omega)) _ | refine Below.setCell ?_ (by first | (show _ ≤ _; omega) | (simp; done) | (simp; omega)) _)))
  have HBX : Hid (KB w.heap.size (w.heap.size + 1) w WX) := Lib.hid (by rw [hWX]; exact (by repeat (first | exact KB.refl _ _ _ | exact HB.out | refine KB.drew ?_ | refine KB.drewN ?_ | refine KB.alloc (Nat.le_refl _) ?_ _ | refine KB.setCell ?_ (by first | (show _ ≤ _; omega) | (simp; done) | (simp; omega)) _)))
  clear hWX hy hu HB HR
  have hy := hyx
  have hu := hux
  clear hyx hux
  obtain ⟨x0, x1, x2, x3, x4⟩ := hx
  have hx : Has5 WX v2.heap.size n1 n2 n3 n4 n5 := ⟨x0, x1, x2, x3, x4⟩
  have tok1 : True := trivial
  go_region_held3 (fun w' => w'.cell? ⟨v2.heap.size, 0, none⟩ = some (.int .i64 n1) ∧ w'.cell? ⟨v2.heap.size, 1, none⟩ = some (.int .i64 n2) ∧ w'.cell? ⟨v2.heap.size, 2, none⟩ = some (.int .i64 n3) ∧ w'.cell? ⟨v2.heap.size, 3, none⟩ = some (.int .i64 n4) ∧ w'.cell? ⟨v2.heap.size, 4, none⟩ = some (.int .i64 n5))
    ((go_split_ands; refine ⟨?_, ?_, ?_, ?_, ?_⟩ <;> ((repeat (with_reducible refine sc_ne ?_ (by first | (simp; omega) | omega))); first | assumption | (show WX.cell? _ = _; assumption) | (exact ca (w := WX) (by assumption)) | (exact ca (w := v3) (by assumption)) | (exact ca (ca (w := WX) (by assumption))))))
    ((go_at_call 20
      first
      | (have _t := tok1; refine (one_any _ 6 _ (-1) (4001) _ (0 + 11) _ ?_ (by omega) (by omega) ?_ ?_ ?_ (by omega) (by omega) ?_).mono ?_
         · first
           | (refine intsIn_lit _ [1, 7, 0, -1, 4000, 4001] _ _ _ _ _ _ rfl ?_ ?_; (first | omega | (simp; done) | (simp; omega)); (first | decide | (simp; done) | (simp; omega)))
           | (refine IntsIn.drewd ?_; refine IntsIn.alloc ?_ ?_ _; rotate_left; (first | omega | (simp; done) | (simp; omega)); (refine intsIn_lit _ [1, 7, 0, -1, 4000, 4001] _ _ _ _ _ _ rfl ?_ ?_; (first | omega | (simp; done) | (simp; omega)); (first | decide | (simp; done) | (simp; omega))))
         · (first | omega | (simp; done) | (simp; omega))
         · (first | omega | (simp; done) | (simp; omega))
         · (first | omega | (simp; done) | (simp; omega))
         · exact Rd.fwd HRX.out (by repeat (first | exact Below.refl _ _ | refine Below.drew ?_ | refine bel_drewN _ ?_ | refine Below.alloc ?_ (by first | omega | (simp; done) | (simp; omega)) _ | refine Below.setCell ?_ (by first | (show _ ≤ _; omega) | (simp; done) | (simp; omega)) _))
         rintro e v3 ⟨p, rfl, p0, p1, k3, r3⟩
         clear tok1
         have hz3 := k3.size
         try simp at hz3
         have hx3 : Has5 v3 v2.heap.size n1 n2 n3 n4 n5 := by
           refine Has5.keep (w := _) ?_ k3 (by first | omega | (simp; done) | (simp; omega)) (by omega)
           (repeat (first | (with_reducible exact hy) | (with_reducible exact hx) | (with_reducible exact hy3) | (with_reducible exact hx3) | (with_reducible refine Has5.drew ?_) | (with_reducible refine Has5.alloc ?_ _)))
         have hy3 : Has5 v3 w.heap.size 0 0 0 0 0 := by
           refine Has5.keep (w := _) ?_ k3 (by first | omega | (simp; done) | (simp; omega)) (by omega)
           (repeat (first | (with_reducible exact hy) | (with_reducible exact hx) | (with_reducible exact hy3) | (with_reducible exact hx3) | (with_reducible refine Has5.drew ?_) | (with_reducible refine Has5.alloc ?_ _)))
         have hu3 : Unf5 v3 w.heap.size := by
           refine Unf5.keep (w := _) ?_ k3 (by first | omega | (simp; done) | (simp; omega)) (by omega)
           (repeat (first | (with_reducible exact hu) | (with_reducible exact hu3) | (with_reducible refine Unf5.drew ?_) | (with_reducible refine Unf5.alloc ?_ (by first | omega | (simp; done) | (simp; omega)) _)))
         obtain ⟨z0, z1, z2, z3, z4⟩ := hx3
         have hx3 : Has5 v3 v2.heap.size n1 n2 n3 n4 n5 := ⟨z0, z1, z2, z3, z4⟩)
      | (refine (one_any _ 5 _ (-1) (3001) _ (0 + 11 + 1) _ ?_ (by omega) (by omega) ?_ ?_ ?_ (by omega) (by omega) ?_).mono ?_
         · first
           | (refine intsIn_lit _ [300, 0, 3000, 3001, -1] _ _ _ _ _ _ rfl ?_ ?_; (first | omega | (simp; done) | (simp; omega)); (first | decide | (simp; done) | (simp; omega)))
           | (refine IntsIn.keep (w := _) ?_ k3 ?_ ?_; rotate_left; (first | omega | (simp; done) | (simp; omega)); (first | omega | (simp; done) | (simp; omega)); refine IntsIn.drewd ?_; first | (refine intsIn_lit _ [300, 0, 3000, 3001, -1] _ _ _ _ _ _ rfl ?_ ?_; (first | omega | (simp; done) | (simp; omega)); (first | decide | (simp; done) | (simp; omega))) | (refine IntsIn.alloc ?_ ?_ _; rotate_left; (first | omega | (simp; done) | (simp; omega)); (refine intsIn_lit _ [300, 0, 3000, 3001, -1] _ _ _ _ _ _ rfl ?_ ?_; (first | omega | (simp; done) | (simp; omega)); (first | decide | (simp; done) | (simp; omega)))))
         · (first | omega | (simp; done) | (simp; omega))
         · (first | omega | (simp; done) | (simp; omega))
         · (first | omega | (simp; done) | (simp; omega))
         · exact Rd.fwd r3 (by repeat (first | exact Below.refl _ _ | refine Below.drew ?_ | refine bel_drewN _ ?_ | refine Below.alloc ?_ (by first | omega | (simp; done) | (simp; omega)) _ | refine Below.setCell ?_ (by first | (show _ ≤ _; omega) | (simp; done) | (simp; omega)) _))
         rintro e v4 ⟨q, rfl, q0, q1, k4, r4⟩
         have hz4 := k4.size
         try simp at hz4
         have hx4 : Has5 v4 v2.heap.size n1 n2 n3 n4 n5 := by
           refine Has5.keep (w := _) ?_ k4 (by first | omega | (simp; done) | (simp; omega)) (by omega)
           (repeat (first | (with_reducible exact hy) | (with_reducible exact hx) | (with_reducible exact hy3) | (with_reducible exact hx3) | (with_reducible refine Has5.drew ?_) | (with_reducible refine Has5.alloc ?_ _)))
         have hy4 : Has5 v4 w.heap.size 0 0 0 0 0 := by
           refine Has5.keep (w := _) ?_ k4 (by first | omega | (simp; done) | (simp; omega)) (by omega)
           (repeat (first | (with_reducible exact hy) | (with_reducible exact hx) | (with_reducible exact hy3) | (with_reducible exact hx3) | (with_reducible refine Has5.drew ?_) | (with_reducible refine Has5.alloc ?_ _)))
         have hu4 : Unf5 v4 w.heap.size := by
           refine Unf5.keep (w := _) ?_ k4 (by first | omega | (simp; done) | (simp; omega)) (by omega)
           (repeat (first | (with_reducible exact hu) | (with_reducible exact hu3) | (with_reducible refine Unf5.drew ?_) | (with_reducible refine Unf5.alloc ?_ (by first | omega | (simp; done) | (simp; omega)) _)))
         obtain ⟨t0, t1, t2, t3, t4⟩ := hx4
         obtain ⟨s0, s1, s2, s3, s4⟩ := hy4
         obtain ⟨f0, f1, f2, f3, f4⟩ := hu4)))
  all_goals
    have HB := HBX
    have HBq : KB w.heap.size (w.heap.size + 1) w v3 := KB.callee (Nat.le_refl _) (by repeat (first | exact KB.refl _ _ _ | exact HB.out | refine KB.drew ?_ | refine KB.drewN ?_ | refine KB.alloc (Nat.le_refl _) ?_ _ | refine KB.setCell ?_ (by first | (show _ ≤ _; omega) | (simp; done) | (simp; omega)) _)) k3
    have HB := Lib.hid HBq
    clear HBq
    have HBq : KB w.heap.size (w.heap.size + 1) w v4 := KB.callee (Nat.le_refl _) (by repeat (first | exact KB.refl _ _ _ | exact HB.out | refine KB.drew ?_ | refine KB.drewN ?_ | refine KB.alloc (Nat.le_refl _) ?_ _ | refine KB.setCell ?_ (by first | (show _ ≤ _; omega) | (simp; done) | (simp; omega)) _)) k4
    have HB := Lib.hid HBq
    clear HBq k3 k4 r3 r4
    go_wp2
    have h4 : Has5 v4 w.heap.size 0 0 0 0 0 := ⟨s0, s1, s2, s3, s4⟩
    have h6 := h4.set (n0 := n1) (n1 := n2) (n2 := n3) (n3 := n4) (n4 := n5)
    have k6 := st5_kb (n0 := n1) (n1 := n2) (n2 := n3) (n3 := n4) (n4 := n5) HB.out (Nat.le_refl w.heap.size)
    change bodyPost _ _ _ _ _ (st5 v4 w.heap.size n1 n2 n3 n4 n5)
    generalize st5 v4 w.heap.size n1 n2 n3 n4 n5 = WF at *
    exact bodyPost_ret (res5tt Tryd.results13 (by rfl) rfl rfl h6) rfl ⟨n1, n2, n3, n4, n5, _, _, rfl, KB.below (R := w.heap.size + 1) k6 (by omega)⟩
set_option maxHeartbeats 8000000 in
theorem fnRollRepo_walk (a : Option Addr) (len cap : Nat) (w : World) (hM : MD w) (hlc : len ≤ cap) (hc : cap ≤ maxLen) (h : IsBytes w a len) :
    Calls Tryd.prog 5 #[.slice a len cap] w fun e w' => e = .returned (.bool true) ∧ Below w.heap.size w w' := by
  by_cases hbig : 1048576 < len
  · exact big_FnRollRepo a len cap w hlc hc hbig
  have hM1 := hM.size
  have HM := Lib.hid hM
  have H := Lib.hid h
  clear h hM
  go_enter Tryd.func5, Tryd.ntmps5
  have HB := Lib.hid (Below.refl w.heap.size w)
  go_wp2_with fail
  refine (drawRollRepo_any _ _ _ _ hlc hc H.out).mono ?_
  rintro e w1 ⟨c, r, x, y, z, t, q, rfl, hb⟩
  have hszw1 := below_size hb
  try simp at hszw1
  have HBq : Below w.heap.size w w1 := Below.trans (by repeat (first | exact Below.refl _ _ | exact HB.out | refine Below.drew ?_ | refine bel_drewN _ ?_ | refine Below.alloc ?_ (by first | omega | (simp; done) | (simp; omega)) _ | refine Below.setCell ?_ (by first | (show _ ≤ _; omega) | (simp; done) | (simp; omega)) _)) (hb.mono (by first | omega | (simp; done) | (simp; omega)))
  have HB := Lib.hid HBq
  clear HBq hb
  obtain ⟨u0, u1, u2, u3, u4, B, hi, hs, hh⟩ := roll_facts c r x y z t q
  have HI := Lib.hid hi
  have HS := Lib.hid hs
  have HH := Lib.hid hh
  clear hi hs hh
  go_wp2_with fail
  refine (HI.out _ (by exact HM.out.fwd (by repeat (first | exact Below.refl _ _ | exact HB.out.mono hM1 | refine Below.drew ?_ | refine bel_drewN _ ?_ | refine Below.alloc ?_ (by first | omega | (simp; done) | (simp; omega)) _ | refine Below.setCell ?_ (by first | (show _ ≤ _; omega) | (simp; done) | (simp; omega)) _)))).mono ?_
  rintro e w2 ⟨rfl, hb⟩
  have x0_1 : w2.cell? ⟨w1.heap.size, 0, none⟩ = some (.int .i64 c) := bc hb (by first | (simp; done) | go_simp)
  have x1_1 : w2.cell? ⟨w1.heap.size, 1, none⟩ = some (.int .i64 r) := bc hb (by first | (simp; done) | go_simp)
  have x2_1 : w2.cell? ⟨w1.heap.size, 2, none⟩ = some (.int .i64 x) := bc hb (by first | (simp; done) | go_simp)
  have x3_1 : w2.cell? ⟨w1.heap.size, 3, none⟩ = some (.int .i64 y) := bc hb (by first | (simp; done) | go_simp)
  have x4_1 : w2.cell? ⟨w1.heap.size, 4, none⟩ = some (.int .i64 z) := bc hb (by first | (simp; done) | go_simp)
  have xl_1 : w1.heap.size < w2.heap.size := cell_lt x0_1
  have hszw2 := below_size hb
  try simp at hszw2
  have HBq : Below w.heap.size w w2 := Below.trans (by repeat (first | exact Below.refl _ _ | exact HB.out | refine Below.drew ?_ | refine bel_drewN _ ?_ | refine Below.alloc ?_ (by first | omega | (simp; done) | (simp; omega)) _ | refine Below.setCell ?_ (by first | (show _ ≤ _; omega) | (simp; done) | (simp; omega)) _)) (hb.mono (by first | omega | (simp; done) | (simp; omega)))
  have HB := Lib.hid HBq
  clear HBq hb
  go_wp2_with fail
  refine (HS.out _ (by exact HM.out.fwd (by repeat (first | exact Below.refl _ _ | exact HB.out.mono hM1 | refine Below.drew ?_ | refine bel_drewN _ ?_ | refine Below.alloc ?_ (by first | omega | (simp; done) | (simp; omega)) _ | refine Below.setCell ?_ (by first | (show _ ≤ _; omega) | (simp; done) | (simp; omega)) _)))).mono ?_
  rintro e w3 ⟨rfl, hb⟩
  have x0_2 : w3.cell? ⟨w1.heap.size, 0, none⟩ = some (.int .i64 c) := bc hb (by first | exact x0_1 | exact ca x0_1 | exact ca (ca x0_1) | exact ca (ca (ca x0_1)) | (simp; done) | go_simp)
  have x1_2 : w3.cell? ⟨w1.heap.size, 1, none⟩ = some (.int .i64 r) := bc hb (by first | exact x1_1 | exact ca x1_1 | exact ca (ca x1_1) | exact ca (ca (ca x1_1)) | (simp; done) | go_simp)
  have x2_2 : w3.cell? ⟨w1.heap.size, 2, none⟩ = some (.int .i64 x) := bc hb (by first | exact x2_1 | exact ca x2_1 | exact ca (ca x2_1) | exact ca (ca (ca x2_1)) | (simp; done) | go_simp)
  have x3_2 : w3.cell? ⟨w1.heap.size, 3, none⟩ = some (.int .i64 y) := bc hb (by first | exact x3_1 | exact ca x3_1 | exact ca (ca x3_1) | exact ca (ca (ca x3_1)) | (simp; done) | go_simp)
  have x4_2 : w3.cell? ⟨w1.heap.size, 4, none⟩ = some (.int .i64 z) := bc hb (by first | exact x4_1 | exact ca x4_1 | exact ca (ca x4_1) | exact ca (ca (ca x4_1)) | (simp; done) | go_simp)
  have xl_2 : w1.heap.size < w3.heap.size := cell_lt x0_2
  clear x0_1 x1_1 x2_1 x3_1 x4_1 xl_1
  have u0_1 : w3.cell? ⟨w2.heap.size, 0, none⟩ = some (.int .i64 u0) := bc hb (by first | (simp; done) | go_simp)
  have u1_1 : w3.cell? ⟨w2.heap.size, 1, none⟩ = some (.int .i64 u1) := bc hb (by first | (simp; done) | go_simp)
  have u2_1 : w3.cell? ⟨w2.heap.size, 2, none⟩ = some (.int .i64 u2) := bc hb (by first | (simp; done) | go_simp)
  have u3_1 : w3.cell? ⟨w2.heap.size, 3, none⟩ = some (.int .i64 u3) := bc hb (by first | (simp; done) | go_simp)
  have u4_1 : w3.cell? ⟨w2.heap.size, 4, none⟩ = some (.int .i64 u4) := bc hb (by first | (simp; done) | go_simp)
  have ul_1 : w2.heap.size < w3.heap.size := cell_lt u0_1
  have hszw3 := below_size hb
  try simp at hszw3
  have HBq : Below w.heap.size w w3 := Below.trans (by repeat (first | exact Below.refl _ _ | exact HB.out | refine Below.drew ?_ | refine bel_drewN _ ?_ | refine Below.alloc ?_ (by first | omega | (simp; done) | (simp; omega)) _ | refine Below.setCell ?_ (by first | (show _ ≤ _; omega) | (simp; done) | (simp; omega)) _)) (hb.mono (by first | omega | (simp; done) | (simp; omega)))
  have HB := Lib.hid HBq
  clear HBq hb
  rcases HH.out with rfl | ⟨rfl, k1, k2, e0, rfl, rfl, rfl, rfl, b0, b1⟩
  · go_wp2
    go_ret
    exact ⟨ret_bool (by first | rfl | simp), (by repeat (first | exact Below.refl _ _ | exact HB.out | refine Below.drew ?_ | refine bel_drewN _ ?_ | refine Below.alloc ?_ (by first | omega | (simp; done) | (simp; omega)) _ | refine Below.setCell ?_ (by first | (show _ ≤ _; omega) | (simp; done) | (simp; omega)) _))⟩
  · have HR := Lib.hid (fun W (h : MD W) => repoIntI_any c r x u2 u4 W h)
    have HV := Lib.hid (fun W => validRepoI_any u0 u1 u2 u3 u4 W)
    simp only [k2] at HV
    have hwr : IntKind.i64.wrap (c + riV c r x u2 u4) = u0 := by rw [← e0]; exact IntWalk.i64_in _ (by omega)
    generalize riV c r x u2 u4 = R at *
    clear e0 k1 k2
    go_wp2_with fail
    refine name_world ?_
    intro WX hWX
    have hmx : MD WX := by rw [hWX]; exact (by exact HM.out.fwd (by repeat (first | exact Below.refl _ _ | exact HB.out.mono hM1 | refine Below.drew ?_ | refine bel_drewN _ ?_ | refine Below.alloc ?_ (by first | omega | (simp; done) | (simp; omega)) _ | refine Below.setCell ?_ (by first | (show _ ≤ _; omega) | (simp; done) | (simp; omega)) _)))
    have HMX := Lib.hid hmx
    have hbx : Below w.heap.size w WX := by rw [hWX]; exact (by repeat (first | exact Below.refl _ _ | exact HB.out | refine Below.drew ?_ | refine bel_drewN _ ?_ | refine Below.alloc ?_ (by first | omega | (simp; done) | (simp; omega)) _ | refine Below.setCell ?_ (by first | (show _ ≤ _; omega) | (simp; done) | (simp; omega)) _))
    have HBX := Lib.hid hbx
    have hlx : w3.heap.size < WX.heap.size := by rw [hWX]; simp
    clear hmx hbx
    have xx0 : WX.cell? ⟨w1.heap.size, 0, none⟩ = some (.int .i64 c) := by rw [hWX]; exact ca (by assumption)
    have xx1 : WX.cell? ⟨w1.heap.size, 1, none⟩ = some (.int .i64 r) := by rw [hWX]; exact ca (by assumption)
    have xx2 : WX.cell? ⟨w1.heap.size, 2, none⟩ = some (.int .i64 x) := by rw [hWX]; exact ca (by assumption)
    have xx3 : WX.cell? ⟨w1.heap.size, 3, none⟩ = some (.int .i64 u2) := by rw [hWX]; exact ca (by assumption)
    have xx4 : WX.cell? ⟨w1.heap.size, 4, none⟩ = some (.int .i64 u4) := by rw [hWX]; exact ca (by assumption)
    have uu0 : WX.cell? ⟨w2.heap.size, 0, none⟩ = some (.int .i64 u0) := by rw [hWX]; exact ca (by assumption)
    have uu1 : WX.cell? ⟨w2.heap.size, 1, none⟩ = some (.int .i64 u1) := by rw [hWX]; exact ca (by assumption)
    have uu2 : WX.cell? ⟨w2.heap.size, 2, none⟩ = some (.int .i64 u2) := by rw [hWX]; exact ca (by assumption)
    have uu3 : WX.cell? ⟨w2.heap.size, 3, none⟩ = some (.int .i64 u3) := by rw [hWX]; exact ca (by assumption)
    have uu4 : WX.cell? ⟨w2.heap.size, 4, none⟩ = some (.int .i64 u4) := by rw [hWX]; exact ca (by assumption)
    clear hWX
    have HF : Hid (∀ o : Nat, MD (WX.drewN o)) := Lib.hid fun o => HMX.out.fwd ⟨rfl, rfl, rfl, Nat.le_refl _, fun _ _ => rfl⟩
    have HF1 : Hid (MD WX.drew) := HMX.out.fwd ⟨rfl, rfl, rfl, Nat.le_refl _, fun _ _ => rfl⟩
    go_region_held3 (fun w' => (w'.cell? ⟨w2.heap.size, 0, none⟩ = some (.int .i64 u0) ∧ w'.cell? ⟨w2.heap.size, 1, none⟩ = some (.int .i64 u1) ∧ w'.cell? ⟨w2.heap.size, 2, none⟩ = some (.int .i64 u2) ∧ w'.cell? ⟨w2.heap.size, 3, none⟩ = some (.int .i64 u3) ∧ w'.cell? ⟨w2.heap.size, 4, none⟩ = some (.int .i64 u4)) ∧ w'.cell? ⟨w1.heap.size, 0, none⟩ = some (.int .i64 c) ∧ w'.cell? ⟨w1.heap.size, 1, none⟩ = some (.int .i64 r) ∧ w'.cell? ⟨w1.heap.size, 2, none⟩ = some (.int .i64 x) ∧ w'.cell? ⟨w1.heap.size, 3, none⟩ = some (.int .i64 u2) ∧ w'.cell? ⟨w1.heap.size, 4, none⟩ = some (.int .i64 u4))
      ((go_split_ands; refine ⟨⟨?_, ?_, ?_, ?_, ?_⟩, ?_, ?_, ?_, ?_, ?_⟩ <;> first | assumption | (with_reducible exact bc hb5 (by assumption)) | (with_reducible exact bc hb6 (by assumption)) | (show WX.cell? _ = _; assumption)))
      (first | (go_at_call 11; (with_reducible refine (HR.out _ (by first | exact HF1.out | exact HF.out _)).mono ?_); rintro e v5 ⟨rfl, hb5⟩) | (go_at_call 14; (with_reducible refine (HV.out _).mono ?_); rintro e v6 ⟨rfl, hb6⟩))
    all_goals
      have hz5 := hb5.size
      have hz6 := hb6.size
      have h03 := HBX.out.size
      go_wp2
      go_ret
      refine ⟨ret_bool (by first | rfl | simp), ?_⟩
      repeat (first | (with_reducible exact HBX.out) | (with_reducible refine Below.drew ?_) | (with_reducible refine bel_drewN _ ?_) | (with_reducible refine Below.trans ?_ (hb6.mono (by first | omega | (simp at hz5 hz6 ⊢; omega)))) | (with_reducible refine Below.trans ?_ (hb5.mono (by first | omega | (simp at hz5 hz6 ⊢; omega)))))
end Go.Proofs.YtiplcndacmicoaaDoor
