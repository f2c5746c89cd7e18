/- Lattices: the program's value and what the right to call is worth; the exact laws. -/
import Derived.Test.YtmidbphfbaldiaaDoorLat6
namespace Go.Proofs.YtmidbphfbaldiaaDoor
open Go.RowKit
set_option linter.unusedVariables false
theorem latValueI0_any (s r p c k : Int) (w : World) :
    Calls Tryd.prog 12 #[.agg #[.int .i64 s, .int .i64 r, .int .i64 p], .int .i64 c, .int .i64 k] w (LvP s r p c k w) := by
  cases h : lvB s r p c k
  · exact latValue_no s r p c k w h
  · obtain ⟨h1, h2, h3⟩ := lvB_iff.1 h
    obtain ⟨⟨s0, s1⟩, _⟩ := latB_iff.1 h1
    obtain ⟨n, rfl⟩ : ∃ n : Nat, s = n := ⟨s.toNat, by omega⟩
    obtain ⟨e1, e2⟩ := lv_yes h
    unfold LvP
    rw [e1, e2, h]
    rcases h3 with rfl | h3
    · exact latValue_zero n r p c w h1 h2
    · exact latValue_call n r p c k w h1 h2 h3.1 h3.2
set_option maxHeartbeats 1000000 in
theorem latValueI_any (s r p c k : Int) (w : World) :
    Calls Tryd.prog 5 #[.agg #[.int .i64 s, .int .i64 r, .int .i64 p], .int .i64 c, .int .i64 k] w (RP (lvL s r p c k) (lvH s r p c k) w) := by
  have HV := Lib.hid (fun W => latValueI0_any s r p c k W)
  unfold LvP at HV
  generalize lvL s r p c k = X at *
  generalize lvH s r p c k = Y at *
  generalize lvB s r p c k = B at *
  go_enter Tryd.func5, Tryd.ntmps5
  have HB := Lib.hid (Below.refl w.heap.size w)
  go_wp2_with fail
  refine (HV.out _).mono ?_
  rintro e w1 ⟨rfl, hb⟩
  have b0_1 : w1.cell? ⟨w.heap.size, 0, none⟩ = some (.int .i64 s) := bc hb (by first | (simp; done) | go_simp)
  have b1_1 : w1.cell? ⟨w.heap.size, 1, none⟩ = some (.int .i64 r) := bc hb (by first | (simp; done) | go_simp)
  have b2_1 : w1.cell? ⟨w.heap.size, 2, none⟩ = some (.int .i64 p) := bc hb (by first | (simp; done) | go_simp)
  have bl_1 : w.heap.size < w1.heap.size := cell_lt b0_1
  have q0_1 : w1.cell? ⟨w.heap.size + 1, 0, none⟩ = some (.int .i64 0) := bc hb (by first | (simp; done) | go_simp)
  have qf0_1 : w1.frozen? ⟨w.heap.size + 1, 0, none⟩ = false := bf hb (by first | (simp; done) | (simp; omega) | (show w.heap.size + 1 < _; omega)) (by first | (simp; done) | go_simp)
  have q1_1 : w1.cell? ⟨w.heap.size + 1, 1, none⟩ = some (.int .i64 0) := bc hb (by first | (simp; done) | go_simp)
  have qf1_1 : w1.frozen? ⟨w.heap.size + 1, 1, none⟩ = false := bf hb (by first | (simp; done) | (simp; omega) | (show w.heap.size + 1 < _; omega)) (by first | (simp; done) | go_simp)
  have ql_1 : w.heap.size + 1 < w1.heap.size := cell_lt q0_1
  have hszw1 := below_size hb
  try simp at hszw1
  have HBq : Below w.heap.size w w1 := Below.trans (by repeat (first | exact Below.refl _ _ | exact HB.out | refine Below.drew ?_ | refine bel_drewN _ ?_ | refine Below.alloc ?_ (by first | omega | (simp; done) | (simp; omega)) _ | refine Below.setCell ?_ (by first | (show _ ≤ _; omega) | (simp; done) | (simp; omega)) _)) (hb.mono (by first | omega | (simp; done) | (simp; omega)))
  have HB := Lib.hid HBq
  clear HBq hb
  go_wp2
  refine bodyPost_ret (res2 (b := w.heap.size + 1) Tryd.results5 (by rfl) ⟨by first | (exact sc_far (by simp) (sc_same (by first | assumption | (exact ca (by assumption)) | (exact ca (ca (by assumption))) | (exact ca (ca (ca (by assumption))))))) | (exact ca (sc_far (by simp) (sc_same (by first | assumption | (exact ca (by assumption)) | (exact ca (ca (by assumption))) | (exact ca (ca (ca (by assumption)))))))) | (exact ca (ca (sc_far (by simp) (sc_same (by first | assumption | (exact ca (by assumption)) | (exact ca (ca (by assumption))) | (exact ca (ca (ca (by assumption))))))))) | (exact ca (ca (ca (sc_far (by simp) (sc_same (by first | assumption | (exact ca (by assumption)) | (exact ca (ca (by assumption))) | (exact ca (ca (ca (by assumption)))))))))), by first | (exact sc_same (sc_far (by simp) (by first | assumption | (exact ca (by assumption)) | (exact ca (ca (by assumption))) | (exact ca (ca (ca (by assumption))))))) | (exact ca (sc_same (sc_far (by simp) (by first | assumption | (exact ca (by assumption)) | (exact ca (ca (by assumption))) | (exact ca (ca (ca (by assumption)))))))) | (exact ca (ca (sc_same (sc_far (by simp) (by first | assumption | (exact ca (by assumption)) | (exact ca (ca (by assumption))) | (exact ca (ca (ca (by assumption))))))))) | (exact ca (ca (ca (sc_same (sc_far (by simp) (by first | assumption | (exact ca (by assumption)) | (exact ca (ca (by assumption))) | (exact ca (ca (ca (by assumption))))))))))⟩) rfl ⟨rfl, ?_⟩
  repeat (first | (with_reducible exact HB.out) | (with_reducible refine bel_set ?_ (by omega)) | (with_reducible refine Below.alloc ?_ (by have := HB.out.size; first | omega | (simp; omega)) _))
def mx0 (x : Int) : Int := if x < 0 then 0 else x
def cwB (s r p c k : Int) : Bool := latB s r p && (inR c 0 3000 && inR k 50 200)
def cwL (s r p c k : Int) : Int := if cwB s r p c k = true then mx0 (lvL s r p c 0 - lvH s r p c k) else 0
def cwH (s r p c k : Int) : Int := if cwB s r p c k = true then lvH s r p c 0 - lvL s r p c k else 0
theorem cwB_iff {s r p c k : Int} : cwB s r p c k = true ↔ latB s r p = true ∧ inR c 0 3000 = true ∧ inR k 50 200 = true := by
  unfold cwB; rw [Bool.and_eq_true, Bool.and_eq_true]
theorem cwB_lv {s r p c k : Int} : cwB s r p c k = true ↔ lvB s r p c 0 = true ∧ lvB s r p c k = true ∧ k ≠ 0 := by
  rw [cwB_iff, lvB_iff, lvB_iff, inR_true, inR_true]
  constructor
  · rintro ⟨a, b, c⟩; exact ⟨⟨a, b, .inl rfl⟩, ⟨a, b, .inr c⟩, by omega⟩
  · rintro ⟨⟨a, b, _⟩, ⟨_, _, c⟩, d⟩; exact ⟨a, b, by omega⟩
theorem cw_no {s r p c k : Int} (h : cwB s r p c k = false) : cwL s r p c k = 0 ∧ cwH s r p c k = 0 := by
  unfold cwL cwH; rw [if_neg (by rw [h]; simp), if_neg (by rw [h]; simp)]; exact ⟨rfl, rfl⟩
theorem cw_yes {s r p c k : Int} (h : cwB s r p c k = true) : cwL s r p c k = mx0 (lvL s r p c 0 - lvH s r p c k) ∧ cwH s r p c k = lvH s r p c 0 - lvL s r p c k := by
  unfold cwL cwH; rw [if_pos h, if_pos h]; exact ⟨rfl, rfl⟩
end Go.Proofs.YtmidbphfbaldiaaDoor
