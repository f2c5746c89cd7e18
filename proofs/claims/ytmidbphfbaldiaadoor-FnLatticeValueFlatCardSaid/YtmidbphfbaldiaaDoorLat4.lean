/- Lattices: the reference's value, and what the right to call is worth. -/
import Derived.Test.YtmidbphfbaldiaaDoorLat3
namespace Go.Proofs.YtmidbphfbaldiaaDoor
open Go.RowKit
set_option linter.unusedVariables false
/-- arguments that have a value -/
def lvB (s r p c k : Int) : Bool := latB s r p && (inR c 0 3000 && (k == 0 || inR k 50 200))
theorem lvB_iff {s r p c k : Int} : lvB s r p c k = true ↔ latB s r p = true ∧ (0 ≤ c ∧ c ≤ 3000) ∧ (k = 0 ∨ 50 ≤ k ∧ k ≤ 200) := by
  unfold lvB
  rw [Bool.and_eq_true, Bool.and_eq_true, Bool.or_eq_true, inR_true, inR_true, beq_iff_eq]
def lvL (s r p c k : Int) : Int := if lvB s r p c k = true then llo s r p c k s.toNat 0 else 0
def lvH (s r p c k : Int) : Int := if lvB s r p c k = true then lhi s r p c k s.toNat 0 else 0
theorem lv_no {s r p c k : Int} (h : lvB s r p c k = false) : lvL s r p c k = 0 ∧ lvH s r p c k = 0 := by
  unfold lvL lvH; rw [if_neg (by rw [h]; simp), if_neg (by rw [h]; simp)]; exact ⟨rfl, rfl⟩
theorem lv_yes {s r p c k : Int} (h : lvB s r p c k = true) : lvL s r p c k = llo s r p c k s.toNat 0 ∧ lvH s r p c k = lhi s r p c k s.toNat 0 := by
  unfold lvL lvH; rw [if_pos h, if_pos h]; exact ⟨rfl, rfl⟩
theorem lv_bd (s r p c k : Int) : 0 ≤ lvL s r p c k ∧ lvL s r p c k ≤ lvH s r p c k ∧ lvH s r p c k ≤ 4000000 := by
  cases h : lvB s r p c k
  · obtain ⟨a, b⟩ := lv_no h; omega
  · obtain ⟨a, b⟩ := lv_yes h
    obtain ⟨h1, h2, h3⟩ := lvB_iff.1 h
    obtain ⟨⟨s0, s1⟩, _⟩ := latB_iff.1 h1
    have := lval_bd h1 h2 (by omega : 0 ≤ k) s.toNat 0 (by omega) (by omega)
    rw [a, b]
    omega
theorem lvB_a {s r p c k : Int} (h : latB s r p = false) : lvB s r p c k = false := by unfold lvB; rw [h]; rfl
theorem lvB_b {s r p c k : Int} (h : inR c 0 3000 = false) : lvB s r p c k = false := by unfold lvB; rw [h]; simp
theorem lvB_c {s r p c k : Int} (h1 : (k == 0) = false) (h2 : inR k 50 200 = false) : lvB s r p c k = false := by unfold lvB; rw [h1, h2]; simp
set_option maxHeartbeats 2000000 in
theorem latValueS_any (s r p c k : Int) (w : World) :
    Calls Tryd.prog 6 #[.agg #[.int .i64 s, .int .i64 r, .int .i64 p], .int .i64 c, .int .i64 k] w (RP (lvL s r p c k) (lvH s r p c k) w) := by
  have hcase : lvB s r p c k = true ∨ (lvB s r p c k = false ∧ (latB s r p = false ∨ (latB s r p = true ∧ inR c 0 3000 = false) ∨ (latB s r p = true ∧ inR c 0 3000 = true ∧ (k != 0) = true ∧ inR k 50 200 = false))) := by
    cases h : lvB s r p c k
    · refine .inr ⟨rfl, ?_⟩
      cases h1 : latB s r p
      · exact .inl rfl
      cases h2 : inR c 0 3000
      · exact .inr (.inl ⟨rfl, rfl⟩)
      · refine .inr (.inr ⟨rfl, rfl, ?_⟩)
        unfold lvB at h
        rw [h1, h2] at h
        simp at h
        exact ⟨by simpa using h.1, h.2⟩
    · exact .inl rfl
  rcases hcase with h | ⟨h, h1 | ⟨h1, h2⟩ | ⟨h1, h2, h3, h4⟩⟩
  · obtain ⟨e1, e2⟩ := lv_yes h
    rw [e1, e2]
    obtain ⟨h1, h2, h3⟩ := lvB_iff.1 h
    have h2' : inR c 0 3000 = true := inR_yes h2
    obtain ⟨⟨s0, s1⟩, _⟩ := latB_iff.1 h1
    have HV : Hid (∀ W : World, Calls Tryd.prog 15 #[.agg #[.int .i64 s, .int .i64 r, .int .i64 p], .int .i64 c, .int .i64 k, .int .i64 0] W (ValP s r p c k s.toNat 1 W)) := Lib.hid fun W => by
      obtain ⟨n, rfl⟩ : ∃ n : Nat, s = n := ⟨s.toNat, by omega⟩
      exact values_any n r p c k h1 h2 (by omega) n 0 (by omega) W
    have hk : (k != 0) = false ∨ ((k != 0) = true ∧ inR k 50 200 = true) := by
      rcases h3 with q | q
      · exact .inl (by simp [q])
      · exact .inr ⟨by simp; omega, inR_yes q⟩
    unfold ValP valA at HV
    generalize llo s r p c k s.toNat = A at *
    generalize lhi s r p c k s.toNat = B at *
    clear h e1 e2 h2 h3 s0 s1
    rcases hk with k1 | ⟨k1, k2⟩
    all_goals
      go_enter Tryd.func6, Tryd.ntmps6
      have HB := Lib.hid (Below.refl w.heap.size w)
      go_wp2_with fail
      refine (latValidS_any s r p _).mono ?_
      rintro e w1 ⟨rfl, hb⟩
      have b0_1 : w1.cell? ⟨w.heap.size, 0, none⟩ = some (.int .i64 s) := bc hb (by first | (simp; done) | go_simp)
      have b1_1 : w1.cell? ⟨w.heap.size, 1, none⟩ = some (.int .i64 r) := bc hb (by first | (simp; done) | go_simp)
      have b2_1 : w1.cell? ⟨w.heap.size, 2, none⟩ = some (.int .i64 p) := bc hb (by first | (simp; done) | go_simp)
      have bl_1 : w.heap.size < w1.heap.size := cell_lt b0_1
      have q0_1 : w1.cell? ⟨w.heap.size + 1, 0, none⟩ = some (.int .i64 0) := bc hb (by first | (simp; done) | go_simp)
      have qf0_1 : w1.frozen? ⟨w.heap.size + 1, 0, none⟩ = false := bf hb (by first | (simp; done) | (simp; omega) | (show w.heap.size + 1 < _; omega)) (by first | (simp; done) | go_simp)
      have q1_1 : w1.cell? ⟨w.heap.size + 1, 1, none⟩ = some (.int .i64 0) := bc hb (by first | (simp; done) | go_simp)
      have qf1_1 : w1.frozen? ⟨w.heap.size + 1, 1, none⟩ = false := bf hb (by first | (simp; done) | (simp; omega) | (show w.heap.size + 1 < _; omega)) (by first | (simp; done) | go_simp)
      have ql_1 : w.heap.size + 1 < w1.heap.size := cell_lt q0_1
      have hszw1 := below_size hb
      try simp at hszw1
      have HBq : Below w.heap.size w w1 := Below.trans (by repeat (first | exact Below.refl _ _ | exact HB.out | refine Below.drew ?_ | refine bel_drewN _ ?_ | refine Below.alloc ?_ (by first | omega | (simp; done) | (simp; omega)) _ | refine Below.setCell ?_ (by first | (show _ ≤ _; omega) | (simp; done) | (simp; omega)) _)) (hb.mono (by first | omega | (simp; done) | (simp; omega)))
      have HB := Lib.hid HBq
      clear HBq hb
      go_wp2_with (go_at_call 14; refine (inRange_any _ _ _ _).mono ?_; rintro e w' ⟨rfl, rfl⟩)
      refine (HV.out _).mono ?_
      rintro ed w2 ⟨v, rfl, hv, hb⟩
      have b0_2 : w2.cell? ⟨w.heap.size, 0, none⟩ = some (.int .i64 s) := bc hb (by first | exact b0_1 | exact ca b0_1 | exact ca (ca b0_1) | exact ca (ca (ca b0_1)) | (simp; done) | go_simp)
      have b1_2 : w2.cell? ⟨w.heap.size, 1, none⟩ = some (.int .i64 r) := bc hb (by first | exact b1_1 | exact ca b1_1 | exact ca (ca b1_1) | exact ca (ca (ca b1_1)) | (simp; done) | go_simp)
      have b2_2 : w2.cell? ⟨w.heap.size, 2, none⟩ = some (.int .i64 p) := bc hb (by first | exact b2_1 | exact ca b2_1 | exact ca (ca b2_1) | exact ca (ca (ca b2_1)) | (simp; done) | go_simp)
      have bl_2 : w.heap.size < w2.heap.size := cell_lt b0_2
      clear b0_1 b1_1 b2_1 bl_1
      have q0_2 : w2.cell? ⟨w.heap.size + 1, 0, none⟩ = some (.int .i64 0) := bc hb (by first | exact q0_1 | exact ca q0_1 | exact ca (ca q0_1) | exact ca (ca (ca q0_1)) | (simp; done) | go_simp)
      have qf0_2 : w2.frozen? ⟨w.heap.size + 1, 0, none⟩ = false := bf hb (by first | (simp; done) | (simp; omega) | (show w.heap.size + 1 < _; omega)) (by first | exact qf0_1 | exact fa (by show w.heap.size + 1 < _; omega) qf0_1 | exact fa (by show w.heap.size + 1 < _; simp; omega) (fa (by show w.heap.size + 1 < _; omega) qf0_1) | (simp; done) | go_simp)
      have q1_2 : w2.cell? ⟨w.heap.size + 1, 1, none⟩ = some (.int .i64 0) := bc hb (by first | exact q1_1 | exact ca q1_1 | exact ca (ca q1_1) | exact ca (ca (ca q1_1)) | (simp; done) | go_simp)
      have qf1_2 : w2.frozen? ⟨w.heap.size + 1, 1, none⟩ = false := bf hb (by first | (simp; done) | (simp; omega) | (show w.heap.size + 1 < _; omega)) (by first | exact qf1_1 | exact fa (by show w.heap.size + 1 < _; omega) qf1_1 | exact fa (by show w.heap.size + 1 < _; simp; omega) (fa (by show w.heap.size + 1 < _; omega) qf1_1) | (simp; done) | go_simp)
      have ql_2 : w.heap.size + 1 < w2.heap.size := cell_lt q0_2
      clear q0_1 qf0_1 q1_1 qf1_1 ql_1
      have HB2 : Hid (Below w.heap.size w w2) := HB.out.trans (hb.mono HB.out.size)
      clear hb
      rcases hv with ⟨h0, _⟩ | ⟨_, g, cc, cap, rfl, b1, l1, l2, rb⟩
      · omega
      obtain ⟨⟨p0, p1⟩, _⟩ := rb.cells (show 0 < 1 by omega)
      simp only [Nat.zero_mul, Nat.zero_add] at p0 p1
      have hg := rb.lt
      clear rb
      generalize A 0 = X at *
      generalize B 0 = Y at *
      go_wp2
      refine bodyPost_ret (res2 (b := w.heap.size + 1) Tryd.results6 (by rfl) ⟨sc_far (by simp) (sc_same (by assumption)), sc_same (sc_far (by simp) (by assumption))⟩) rfl ⟨rfl, ?_⟩
      exact Below.setCell (Below.setCell HB2.out (by show w.heap.size ≤ w.heap.size + 1; omega) _) (by show w.heap.size ≤ w.heap.size + 1; omega) _
  all_goals
    obtain ⟨e1, e2⟩ := lv_no h
    rw [e1, e2]
    clear h e1 e2
    go_enter Tryd.func6, Tryd.ntmps6
    have HB := Lib.hid (Below.refl w.heap.size w)
    go_wp2_with fail
    refine (latValidS_any s r p _).mono ?_
    rintro e w1 ⟨rfl, hb⟩
    have b0_1 : w1.cell? ⟨w.heap.size, 0, none⟩ = some (.int .i64 s) := bc hb (by first | (simp; done) | go_simp)
    have b1_1 : w1.cell? ⟨w.heap.size, 1, none⟩ = some (.int .i64 r) := bc hb (by first | (simp; done) | go_simp)
    have b2_1 : w1.cell? ⟨w.heap.size, 2, none⟩ = some (.int .i64 p) := bc hb (by first | (simp; done) | go_simp)
    have bl_1 : w.heap.size < w1.heap.size := cell_lt b0_1
    have q0_1 : w1.cell? ⟨w.heap.size + 1, 0, none⟩ = some (.int .i64 0) := bc hb (by first | (simp; done) | go_simp)
    have qf0_1 : w1.frozen? ⟨w.heap.size + 1, 0, none⟩ = false := bf hb (by first | (simp; done) | (simp; omega) | (show w.heap.size + 1 < _; omega)) (by first | (simp; done) | go_simp)
    have q1_1 : w1.cell? ⟨w.heap.size + 1, 1, none⟩ = some (.int .i64 0) := bc hb (by first | (simp; done) | go_simp)
    have qf1_1 : w1.frozen? ⟨w.heap.size + 1, 1, none⟩ = false := bf hb (by first | (simp; done) | (simp; omega) | (show w.heap.size + 1 < _; omega)) (by first | (simp; done) | go_simp)
    have ql_1 : w.heap.size + 1 < w1.heap.size := cell_lt q0_1
    have hszw1 := below_size hb
    try simp at hszw1
    have HBq : Below w.heap.size w w1 := Below.trans (by repeat (first | exact Below.refl _ _ | exact HB.out | refine Below.drew ?_ | refine bel_drewN _ ?_ | refine Below.alloc ?_ (by first | omega | (simp; done) | (simp; omega)) _ | refine Below.setCell ?_ (by first | (show _ ≤ _; omega) | (simp; done) | (simp; omega)) _)) (hb.mono (by first | omega | (simp; done) | (simp; omega)))
    have HB := Lib.hid HBq
    clear HBq hb
    go_wp2_with (go_at_call 14; refine (inRange_any _ _ _ _).mono ?_; rintro e w' ⟨rfl, rfl⟩)
    refine bodyPost_ret (res2 (b := w.heap.size + 1) Tryd.results6 (by rfl) ⟨sc_far (by simp) (sc_same (by assumption)), sc_same (sc_far (by simp) (by assumption))⟩) rfl ⟨rfl, ?_⟩
    exact Below.setCell (Below.setCell HB.out (by show w.heap.size ≤ w.heap.size + 1; omega) _) (by show w.heap.size ≤ w.heap.size + 1; omega) _
end Go.Proofs.YtmidbphfbaldiaaDoor
