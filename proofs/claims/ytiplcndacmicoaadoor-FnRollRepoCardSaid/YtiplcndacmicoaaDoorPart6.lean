/- Parts of years: YearPart of the program and of the reference. -/
import Derived.Test.YtiplcndacmicoaaDoorPart5
import Derived.Test.YtiplcndacmicoaaDoorPartFacts
namespace Go.Proofs.YtiplcndacmicoaaDoor
open Go.RowKit
set_option linter.unusedVariables false
def spanB (a b : Int) : Bool := inR a 0 36524 && (inR b 0 36524 && inR (b - a) 0 4000)
theorem span_a {a b : Int} (h : inR a 0 36524 = false) : spanB a b = false := by unfold spanB; rw [h]; rfl
theorem span_b {a b : Int} (h : inR b 0 36524 = false) : spanB a b = false := by unfold spanB; rw [h]; simp
theorem span_c {a b : Int} (ha : inR a 0 36524 = true) (hb : inR b 0 36524 = true) : spanB a b = inR (b - a) 0 4000 := by unfold spanB; rw [ha, hb]; rfl
theorem span_iff {a b : Int} : spanB a b = true ↔ 0 ≤ a ∧ a ≤ b ∧ b ≤ 36524 ∧ b ≤ a + 4000 := by
  unfold spanB
  rw [Bool.and_eq_true, Bool.and_eq_true, inR_true, inR_true, inR_true]
  omega
theorem vpart_span (k a b : Int) : vpart k a b = (inR k 0 3 && spanB a b) := by
  rw [Bool.eq_iff_iff, vpart_iff, Bool.and_eq_true, inR_true, span_iff]
theorem spanValid_any (a b : Int) (w : World) :
    Calls Tryd.prog 23 #[.int .i64 a, .int .i64 b] w fun e w' => e = .returned (.bool (spanB a b)) ∧ w = w' := by
  by_cases ha : inR a 0 36524 = true
  · by_cases hb : inR b 0 36524 = true
    · rw [span_c ha hb]
      obtain ⟨a0, a1⟩ := inR_true.1 ha
      obtain ⟨b0, b1⟩ := inR_true.1 hb
      go_enter Tryd.func23, Tryd.ntmps23
      go_wp2_with (first | (go_at_call 32; refine (dayValid_any _ _).mono ?_; rintro e w' ⟨rfl, rfl⟩) | (go_at_call 21; refine (within_any _ _ _ _).mono ?_; rintro e w' ⟨rfl, rfl⟩))
      go_ret
      exact ⟨rfl, rfl⟩
    · have hb' : inR b 0 36524 = false := by simpa using hb
      rw [span_b hb']
      clear hb
      go_enter Tryd.func23, Tryd.ntmps23
      go_wp2_with (first | (go_at_call 32; refine (dayValid_any _ _).mono ?_; rintro e w' ⟨rfl, rfl⟩) | (go_at_call 21; refine (within_any _ _ _ _).mono ?_; rintro e w' ⟨rfl, rfl⟩))
      go_ret
      exact ⟨rfl, rfl⟩
  · have ha' : inR a 0 36524 = false := by simpa using ha
    rw [span_a ha']
    clear ha
    go_enter Tryd.func23, Tryd.ntmps23
    go_wp2_with (first | (go_at_call 32; refine (dayValid_any _ _).mono ?_; rintro e w' ⟨rfl, rfl⟩) | (go_at_call 21; refine (within_any _ _ _ _).mono ?_; rintro e w' ⟨rfl, rfl⟩))
    go_ret
    exact ⟨rfl, rfl⟩
/-- a pair that is built of a ratio and a test -/
def YP (v : Int × Int × Bool) (w : World) (e : Ending) (w' : World) : Prop := e = .returned (.tuple #[.agg #[.int .i64 v.1, .int .i64 v.2.1], .bool v.2.2]) ∧ Below w.heap.size w w'
set_option maxHeartbeats 1000000 in
theorem yearPartI_k (k a b : Int) (w : World) (hk : (Lit.int .i64 k).wf = true) (h : inR k 0 3 = false) :
    Calls Tryd.prog 27 #[.int .i64 k, .int .i64 a, .int .i64 b] w (YP (0, 0, false) w) := by
  have Hk := Lib.hid hk
  clear hk
  go_enter Tryd.func27, Tryd.ntmps27
  have HB := Lib.hid (Below.refl w.heap.size w)
  go_wp2_with fail
  refine (countOf_any k _ Hk.out).mono ?_
  rintro e w1 ⟨f, rfl, hf, hb⟩
  clear hf
  have r0_1 : w1.cell? ⟨w.heap.size, 0, none⟩ = some (.int .i64 0) := bc hb (by first | (simp; done) | go_simp)
  have rf0_1 : w1.frozen? ⟨w.heap.size, 0, none⟩ = false := bf hb (by first | (simp; done) | (simp; omega) | (show w.heap.size < _; omega)) (by first | (simp; done) | go_simp)
  have r1_1 : w1.cell? ⟨w.heap.size, 1, none⟩ = some (.int .i64 0) := bc hb (by first | (simp; done) | go_simp)
  have rf1_1 : w1.frozen? ⟨w.heap.size, 1, none⟩ = false := bf hb (by first | (simp; done) | (simp; omega) | (show w.heap.size < _; omega)) (by first | (simp; done) | go_simp)
  have rl_1 : w.heap.size < w1.heap.size := cell_lt r0_1
  go_wp2
  exact bodyPost_ret (v := .tuple #[.agg #[.int .i64 0, .int .i64 0], .bool false]) (by simp [results, Tryd.results27, go_sem, *]) rfl ⟨rfl, ((((Below.refl _ _).alloc (Nat.le_refl _) _).trans (hb.mono (by simp))).setCell (Nat.le_refl _) _).setCell (Nat.le_refl _) _⟩
set_option maxHeartbeats 1000000 in
theorem yearPartI_s (k a b : Int) (w : World) (hk : (Lit.int .i64 k).wf = true) (h : inR k 0 3 = true) (hs : spanB a b = false) :
    Calls Tryd.prog 27 #[.int .i64 k, .int .i64 a, .int .i64 b] w (YP (0, 0, false) w) := by
  have Hk := Lib.hid hk
  clear hk
  go_enter Tryd.func27, Tryd.ntmps27
  have HB := Lib.hid (Below.refl w.heap.size w)
  go_wp2_with fail
  refine (countOf_any k _ Hk.out).mono ?_
  rintro e w1 ⟨f, rfl, hf, hb⟩
  clear hf
  have r0_1 : w1.cell? ⟨w.heap.size, 0, none⟩ = some (.int .i64 0) := bc hb (by first | (simp; done) | go_simp)
  have rf0_1 : w1.frozen? ⟨w.heap.size, 0, none⟩ = false := bf hb (by first | (simp; done) | (simp; omega) | (show w.heap.size < _; omega)) (by first | (simp; done) | go_simp)
  have r1_1 : w1.cell? ⟨w.heap.size, 1, none⟩ = some (.int .i64 0) := bc hb (by first | (simp; done) | go_simp)
  have rf1_1 : w1.frozen? ⟨w.heap.size, 1, none⟩ = false := bf hb (by first | (simp; done) | (simp; omega) | (show w.heap.size < _; omega)) (by first | (simp; done) | go_simp)
  have rl_1 : w.heap.size < w1.heap.size := cell_lt r0_1
  go_wp2_with (go_at_call 23; refine (spanValid_any _ _ _).mono ?_; rintro e w' ⟨rfl, rfl⟩)
  exact bodyPost_ret (v := .tuple #[.agg #[.int .i64 0, .int .i64 0], .bool false]) (by simp [results, Tryd.results27, go_sem, *]) rfl ⟨rfl, ((((Below.refl _ _).alloc (Nat.le_refl _) _).trans (hb.mono (by simp))).setCell (Nat.le_refl _) _).setCell (Nat.le_refl _) _⟩
set_option maxHeartbeats 1000000 in
theorem yearPartI_0 (a b : Int) (w : World) (hs : spanB a b = true) :
    Calls Tryd.prog 27 #[.int .i64 0, .int .i64 a, .int .i64 b] w (YP (lowRes (b - a) 365) w) := by
  obtain ⟨s0, s1, s2, s3⟩ := span_iff.1 hs
  go_enter Tryd.func27, Tryd.ntmps27
  have HB := Lib.hid (Below.refl w.heap.size w)
  go_wp2_with fail
  refine (countOf_any 0 _ (by decide)).mono ?_
  rintro e w1 ⟨f, rfl, hf, hb⟩
  obtain ⟨b0, rfl, hc⟩ := hf.1 rfl
  clear hf
  have r0_1 : w1.cell? ⟨w.heap.size, 0, none⟩ = some (.int .i64 0) := bc hb (by first | (simp; done) | go_simp)
  have rf0_1 : w1.frozen? ⟨w.heap.size, 0, none⟩ = false := bf hb (by first | (simp; done) | (simp; omega) | (show w.heap.size < _; omega)) (by first | (simp; done) | go_simp)
  have r1_1 : w1.cell? ⟨w.heap.size, 1, none⟩ = some (.int .i64 0) := bc hb (by first | (simp; done) | go_simp)
  have rf1_1 : w1.frozen? ⟨w.heap.size, 1, none⟩ = false := bf hb (by first | (simp; done) | (simp; omega) | (show w.heap.size < _; omega)) (by first | (simp; done) | go_simp)
  have rl_1 : w.heap.size < w1.heap.size := cell_lt r0_1
  have hz := below_size hb
  have hi : inR 0 0 3 = true := by decide
  go_wp2_with (go_at_call 23; refine (spanValid_any _ _ _).mono ?_; rintro e w' ⟨rfl, rfl⟩)
  refine (overD_any b0 365 a b _ hc s0 s1 s2 (by decide) (by decide)).mono ?_
  rintro e w2 ⟨rfl, hb2⟩
  have r0_2 : w2.cell? ⟨w.heap.size, 0, none⟩ = some (.int .i64 0) := bc hb2 (by first | exact r0_1 | exact ca r0_1 | exact ca (ca r0_1) | exact ca (ca (ca r0_1)) | (simp; done) | go_simp)
  have rf0_2 : w2.frozen? ⟨w.heap.size, 0, none⟩ = false := bf hb2 (by first | (simp; done) | (simp; omega) | (show w.heap.size < _; omega)) (by first | exact rf0_1 | exact fa (by show w.heap.size < _; omega) rf0_1 | exact fa (by show w.heap.size < _; simp; omega) (fa (by show w.heap.size < _; omega) rf0_1) | (simp; done) | go_simp)
  have r1_2 : w2.cell? ⟨w.heap.size, 1, none⟩ = some (.int .i64 0) := bc hb2 (by first | exact r1_1 | exact ca r1_1 | exact ca (ca r1_1) | exact ca (ca (ca r1_1)) | (simp; done) | go_simp)
  have rf1_2 : w2.frozen? ⟨w.heap.size, 1, none⟩ = false := bf hb2 (by first | (simp; done) | (simp; omega) | (show w.heap.size < _; omega)) (by first | exact rf1_1 | exact fa (by show w.heap.size < _; omega) rf1_1 | exact fa (by show w.heap.size < _; simp; omega) (fa (by show w.heap.size < _; omega) rf1_1) | (simp; done) | go_simp)
  have rl_2 : w.heap.size < w2.heap.size := cell_lt r0_2
  clear r0_1 rf0_1 r1_1 rf1_1 rl_1
  go_wp2
  generalize lowRes (b - a) 365 = r
  exact bodyPost_ret (v := .tuple #[.agg #[.int .i64 r.1, .int .i64 r.2.1], .bool r.2.2]) (by simp [results, Tryd.results27, go_sem, *]) rfl ⟨rfl, (((((Below.refl _ _).alloc (Nat.le_refl _) _).trans (hb.mono (by simp))).trans (hb2.mono (by simp at hz; omega))).setCell (Nat.le_refl _) _).setCell (Nat.le_refl _) _⟩
set_option maxHeartbeats 1000000 in
theorem yearPartI_1 (a b : Int) (w : World) (hs : spanB a b = true) :
    Calls Tryd.prog 27 #[.int .i64 1, .int .i64 a, .int .i64 b] w (YP (lowRes (b - a) 360) w) := by
  obtain ⟨s0, s1, s2, s3⟩ := span_iff.1 hs
  go_enter Tryd.func27, Tryd.ntmps27
  have HB := Lib.hid (Below.refl w.heap.size w)
  go_wp2_with fail
  refine (countOf_any 1 _ (by decide)).mono ?_
  rintro e w1 ⟨f, rfl, hf, hb⟩
  obtain ⟨b0, rfl, hc⟩ := hf.2.1 rfl
  clear hf
  have r0_1 : w1.cell? ⟨w.heap.size, 0, none⟩ = some (.int .i64 0) := bc hb (by first | (simp; done) | go_simp)
  have rf0_1 : w1.frozen? ⟨w.heap.size, 0, none⟩ = false := bf hb (by first | (simp; done) | (simp; omega) | (show w.heap.size < _; omega)) (by first | (simp; done) | go_simp)
  have r1_1 : w1.cell? ⟨w.heap.size, 1, none⟩ = some (.int .i64 0) := bc hb (by first | (simp; done) | go_simp)
  have rf1_1 : w1.frozen? ⟨w.heap.size, 1, none⟩ = false := bf hb (by first | (simp; done) | (simp; omega) | (show w.heap.size < _; omega)) (by first | (simp; done) | go_simp)
  have rl_1 : w.heap.size < w1.heap.size := cell_lt r0_1
  have hz := below_size hb
  have hi : inR 1 0 3 = true := by decide
  go_wp2_with (go_at_call 23; refine (spanValid_any _ _ _).mono ?_; rintro e w' ⟨rfl, rfl⟩)
  refine (overD_any b0 360 a b _ hc s0 s1 s2 (by decide) (by decide)).mono ?_
  rintro e w2 ⟨rfl, hb2⟩
  have r0_2 : w2.cell? ⟨w.heap.size, 0, none⟩ = some (.int .i64 0) := bc hb2 (by first | exact r0_1 | exact ca r0_1 | exact ca (ca r0_1) | exact ca (ca (ca r0_1)) | (simp; done) | go_simp)
  have rf0_2 : w2.frozen? ⟨w.heap.size, 0, none⟩ = false := bf hb2 (by first | (simp; done) | (simp; omega) | (show w.heap.size < _; omega)) (by first | exact rf0_1 | exact fa (by show w.heap.size < _; omega) rf0_1 | exact fa (by show w.heap.size < _; simp; omega) (fa (by show w.heap.size < _; omega) rf0_1) | (simp; done) | go_simp)
  have r1_2 : w2.cell? ⟨w.heap.size, 1, none⟩ = some (.int .i64 0) := bc hb2 (by first | exact r1_1 | exact ca r1_1 | exact ca (ca r1_1) | exact ca (ca (ca r1_1)) | (simp; done) | go_simp)
  have rf1_2 : w2.frozen? ⟨w.heap.size, 1, none⟩ = false := bf hb2 (by first | (simp; done) | (simp; omega) | (show w.heap.size < _; omega)) (by first | exact rf1_1 | exact fa (by show w.heap.size < _; omega) rf1_1 | exact fa (by show w.heap.size < _; simp; omega) (fa (by show w.heap.size < _; omega) rf1_1) | (simp; done) | go_simp)
  have rl_2 : w.heap.size < w2.heap.size := cell_lt r0_2
  clear r0_1 rf0_1 r1_1 rf1_1 rl_1
  go_wp2
  generalize lowRes (b - a) 360 = r
  exact bodyPost_ret (v := .tuple #[.agg #[.int .i64 r.1, .int .i64 r.2.1], .bool r.2.2]) (by simp [results, Tryd.results27, go_sem, *]) rfl ⟨rfl, (((((Below.refl _ _).alloc (Nat.le_refl _) _).trans (hb.mono (by simp))).trans (hb2.mono (by simp at hz; omega))).setCell (Nat.le_refl _) _).setCell (Nat.le_refl _) _⟩
set_option maxHeartbeats 1000000 in
theorem yearPartI_2 (a b : Int) (w : World) (hM : MD w) (hs : spanB a b = true) :
    Calls Tryd.prog 27 #[.int .i64 2, .int .i64 a, .int .i64 b] w (YP (lowRes (thN a b) 360) w) := by
  obtain ⟨s0, s1, s2, s3⟩ := span_iff.1 hs
  have hM1 := hM.size
  have HM := Lib.hid hM
  clear hM
  go_enter Tryd.func27, Tryd.ntmps27
  have HB := Lib.hid (Below.refl w.heap.size w)
  go_wp2_with fail
  refine (countOf_any 2 _ (by decide)).mono ?_
  rintro e w1 ⟨f, rfl, hf, hb⟩
  obtain rfl := hf.2.2.1 rfl
  clear hf
  have r0_1 : w1.cell? ⟨w.heap.size, 0, none⟩ = some (.int .i64 0) := bc hb (by first | (simp; done) | go_simp)
  have rf0_1 : w1.frozen? ⟨w.heap.size, 0, none⟩ = false := bf hb (by first | (simp; done) | (simp; omega) | (show w.heap.size < _; omega)) (by first | (simp; done) | go_simp)
  have r1_1 : w1.cell? ⟨w.heap.size, 1, none⟩ = some (.int .i64 0) := bc hb (by first | (simp; done) | go_simp)
  have rf1_1 : w1.frozen? ⟨w.heap.size, 1, none⟩ = false := bf hb (by first | (simp; done) | (simp; omega) | (show w.heap.size < _; omega)) (by first | (simp; done) | go_simp)
  have rl_1 : w.heap.size < w1.heap.size := cell_lt r0_1
  have hz := below_size hb
  have hi : inR 2 0 3 = true := by decide
  have HB0 : Hid (Below w.heap.size w w1) := ((Below.refl _ _).alloc (Nat.le_refl _) _).trans (hb.mono (by simp))
  have HM2 : Hid (MD w1) := HM.out.fwd (HB0.out.mono hM1)
  go_wp2_with (go_at_call 23; refine (spanValid_any _ _ _).mono ?_; rintro e w' ⟨rfl, rfl⟩)
  first | refine (thirtyI_any a b _ HM2.out ⟨s0, by omega⟩ ⟨by omega, s2⟩).mono ?_ | refine (byYear_any a b _ HM2.out s0 s1 s2).mono ?_
  rintro e w2 ⟨rfl, hb2⟩
  have r0_2 : w2.cell? ⟨w.heap.size, 0, none⟩ = some (.int .i64 0) := bc hb2 (by first | exact r0_1 | exact ca r0_1 | exact ca (ca r0_1) | exact ca (ca (ca r0_1)) | (simp; done) | go_simp)
  have rf0_2 : w2.frozen? ⟨w.heap.size, 0, none⟩ = false := bf hb2 (by first | (simp; done) | (simp; omega) | (show w.heap.size < _; omega)) (by first | exact rf0_1 | exact fa (by show w.heap.size < _; omega) rf0_1 | exact fa (by show w.heap.size < _; simp; omega) (fa (by show w.heap.size < _; omega) rf0_1) | (simp; done) | go_simp)
  have r1_2 : w2.cell? ⟨w.heap.size, 1, none⟩ = some (.int .i64 0) := bc hb2 (by first | exact r1_1 | exact ca r1_1 | exact ca (ca r1_1) | exact ca (ca (ca r1_1)) | (simp; done) | go_simp)
  have rf1_2 : w2.frozen? ⟨w.heap.size, 1, none⟩ = false := bf hb2 (by first | (simp; done) | (simp; omega) | (show w.heap.size < _; omega)) (by first | exact rf1_1 | exact fa (by show w.heap.size < _; omega) rf1_1 | exact fa (by show w.heap.size < _; simp; omega) (fa (by show w.heap.size < _; omega) rf1_1) | (simp; done) | go_simp)
  have rl_2 : w.heap.size < w2.heap.size := cell_lt r0_2
  clear r0_1 rf0_1 r1_1 rf1_1 rl_1
  go_wp2
  generalize lowRes (thN a b) 360 = r
  exact bodyPost_ret (v := .tuple #[.agg #[.int .i64 r.1, .int .i64 r.2.1], .bool r.2.2]) (by simp [results, Tryd.results27, go_sem, *]) rfl ⟨rfl, (((HB0.out).trans (hb2.mono (by simp at hz; omega))).setCell (Nat.le_refl _) _).setCell (Nat.le_refl _) _⟩
set_option maxHeartbeats 1000000 in
theorem yearPartI_3 (a b : Int) (w : World) (hM : MD w) (hs : spanB a b = true) :
    Calls Tryd.prog 27 #[.int .i64 3, .int .i64 a, .int .i64 b] w (YP (lowRes (365*(lpd b-lpd a)+366*((b-a)-(lpd b-lpd a))) 133590) w) := by
  obtain ⟨s0, s1, s2, s3⟩ := span_iff.1 hs
  have hM1 := hM.size
  have HM := Lib.hid hM
  clear hM
  go_enter Tryd.func27, Tryd.ntmps27
  have HB := Lib.hid (Below.refl w.heap.size w)
  go_wp2_with fail
  refine (countOf_any 3 _ (by decide)).mono ?_
  rintro e w1 ⟨f, rfl, hf, hb⟩
  obtain rfl := hf.2.2.2 rfl
  clear hf
  have r0_1 : w1.cell? ⟨w.heap.size, 0, none⟩ = some (.int .i64 0) := bc hb (by first | (simp; done) | go_simp)
  have rf0_1 : w1.frozen? ⟨w.heap.size, 0, none⟩ = false := bf hb (by first | (simp; done) | (simp; omega) | (show w.heap.size < _; omega)) (by first | (simp; done) | go_simp)
  have r1_1 : w1.cell? ⟨w.heap.size, 1, none⟩ = some (.int .i64 0) := bc hb (by first | (simp; done) | go_simp)
  have rf1_1 : w1.frozen? ⟨w.heap.size, 1, none⟩ = false := bf hb (by first | (simp; done) | (simp; omega) | (show w.heap.size < _; omega)) (by first | (simp; done) | go_simp)
  have rl_1 : w.heap.size < w1.heap.size := cell_lt r0_1
  have hz := below_size hb
  have hi : inR 3 0 3 = true := by decide
  have HB0 : Hid (Below w.heap.size w w1) := ((Below.refl _ _).alloc (Nat.le_refl _) _).trans (hb.mono (by simp))
  have HM2 : Hid (MD w1) := HM.out.fwd (HB0.out.mono hM1)
  go_wp2_with (go_at_call 23; refine (spanValid_any _ _ _).mono ?_; rintro e w' ⟨rfl, rfl⟩)
  first | refine (thirtyI_any a b _ HM2.out ⟨s0, by omega⟩ ⟨by omega, s2⟩).mono ?_ | refine (byYear_any a b _ HM2.out s0 s1 s2).mono ?_
  rintro e w2 ⟨rfl, hb2⟩
  have r0_2 : w2.cell? ⟨w.heap.size, 0, none⟩ = some (.int .i64 0) := bc hb2 (by first | exact r0_1 | exact ca r0_1 | exact ca (ca r0_1) | exact ca (ca (ca r0_1)) | (simp; done) | go_simp)
  have rf0_2 : w2.frozen? ⟨w.heap.size, 0, none⟩ = false := bf hb2 (by first | (simp; done) | (simp; omega) | (show w.heap.size < _; omega)) (by first | exact rf0_1 | exact fa (by show w.heap.size < _; omega) rf0_1 | exact fa (by show w.heap.size < _; simp; omega) (fa (by show w.heap.size < _; omega) rf0_1) | (simp; done) | go_simp)
  have r1_2 : w2.cell? ⟨w.heap.size, 1, none⟩ = some (.int .i64 0) := bc hb2 (by first | exact r1_1 | exact ca r1_1 | exact ca (ca r1_1) | exact ca (ca (ca r1_1)) | (simp; done) | go_simp)
  have rf1_2 : w2.frozen? ⟨w.heap.size, 1, none⟩ = false := bf hb2 (by first | (simp; done) | (simp; omega) | (show w.heap.size < _; omega)) (by first | exact rf1_1 | exact fa (by show w.heap.size < _; omega) rf1_1 | exact fa (by show w.heap.size < _; simp; omega) (fa (by show w.heap.size < _; omega) rf1_1) | (simp; done) | go_simp)
  have rl_2 : w.heap.size < w2.heap.size := cell_lt r0_2
  clear r0_1 rf0_1 r1_1 rf1_1 rl_1
  go_wp2
  generalize lowRes (365*(lpd b-lpd a)+366*((b-a)-(lpd b-lpd a))) 133590 = r
  exact bodyPost_ret (v := .tuple #[.agg #[.int .i64 r.1, .int .i64 r.2.1], .bool r.2.2]) (by simp [results, Tryd.results27, go_sem, *]) rfl ⟨rfl, (((HB0.out).trans (hb2.mono (by simp at hz; omega))).setCell (Nat.le_refl _) _).setCell (Nat.le_refl _) _⟩
theorem yearPartI_any (k a b : Int) (w : World) (hM : MD w) (hk : (Lit.int .i64 k).wf = true) :
    Calls Tryd.prog 27 #[.int .i64 k, .int .i64 a, .int .i64 b] w (YP (ypV k a b) w) := by
  by_cases h : inR k 0 3 = true
  · by_cases hs : spanB a b = true
    · have hv : vpart k a b = true := by rw [vpart_span, h, hs]; rfl
      obtain ⟨n0, n1⟩ := ypN_bd hv
      obtain ⟨d0, d1⟩ := ypD_bd k
      rw [ypV_yes hv, ← low_eq (by omega) (by omega) (by omega) (by omega)]
      obtain ⟨k0, k1⟩ := inR_true.1 h
      have hc : k = 0 ∨ k = 1 ∨ k = 2 ∨ k = 3 := by omega
      rcases hc with rfl | rfl | rfl | rfl
      · exact yearPartI_0 a b w hs
      · exact yearPartI_1 a b w hs
      · exact yearPartI_2 a b w hM hs
      · exact yearPartI_3 a b w hM hs
    · have hs' : spanB a b = false := by simpa using hs
      have hv : vpart k a b = false := by rw [vpart_span, h, hs']; rfl
      rw [ypV_no hv]
      exact yearPartI_s k a b w hk h hs'
  · have h' : inR k 0 3 = false := by simpa using h
    have hv : vpart k a b = false := by rw [vpart_span, h']; rfl
    rw [ypV_no hv]
    exact yearPartI_k k a b w hk h'
end Go.Proofs.YtiplcndacmicoaaDoor
