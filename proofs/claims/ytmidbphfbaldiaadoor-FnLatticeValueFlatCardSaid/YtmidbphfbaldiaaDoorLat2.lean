/- Lattices: the reference's values. -/
import Derived.Test.YtmidbphfbaldiaaDoorRow2
namespace Go.Proofs.YtmidbphfbaldiaaDoor
open Go.RowKit
set_option linter.unusedVariables false
def valA (s r p c k : Int) (j i : Nat) : Int × Int := (llo s r p c k j i, lhi s r p c k j i)
theorem avg_add (x y c : Int) : (x + 100 * c + (y + 100 * c)) / 2 = (x + y) / 2 + 100 * c := by omega
theorem cavg_add (x y c : Int) : cdiv (x + 100 * c + (y + 100 * c)) 2 = cdiv (x + y) 2 + 100 * c := by unfold cdiv; omega
/-- the world under a name -/
theorem name_world {P : Program} {c : Code} {Q : Exit → Act → World → Prop} {a : Act} {W : World} (h : ∀ WX, WX = W → Code.wp P c Q a WX) : Code.wp P c Q a W := h W rfl
set_option maxHeartbeats 2000000 in
theorem back_any (a b c d q : Int) (w : World) (ha : 0 ≤ a ∧ a ≤ 100000000) (hb : 0 ≤ b ∧ b ≤ 100000000) (hc : 0 ≤ c ∧ c ≤ 100000000) (hd : 0 ≤ d ∧ d ≤ 100000000) (hq : 0 ≤ q ∧ q ≤ 3000) :
    Calls Tryd.prog 29 #[.agg #[.int .i64 a, .int .i64 b], .agg #[.int .i64 c, .int .i64 d], .int .i64 q] w (RP ((a + c) / 2 * 1000000 / (1000000 + 100 * q)) (cdiv (cdiv (b + d) 2 * 1000000) (1000000 + 100 * q)) w) := by
  obtain ⟨a0, a1⟩ := ha
  obtain ⟨b0, b1⟩ := hb
  obtain ⟨c0, c1⟩ := hc
  obtain ⟨d0, d1⟩ := hd
  obtain ⟨q0, q1⟩ := hq
  have wr1 : IntKind.i64.wrap (a + c) = a + c := IntWalk.i64_in _ (by omega)
  have wr2 : IntKind.i64.wrap (b + d) = b + d := IntWalk.i64_in _ (by omega)
  have wr3 : IntKind.i64.wrap (100 * q) = 100 * q := IntWalk.i64_in _ (by omega)
  have e0 : 0 ≤ (a + c) / 2 ∧ (a + c) / 2 ≤ 100000000 := by omega
  have e1 : 0 ≤ cdiv (b + d) 2 ∧ cdiv (b + d) 2 ≤ 100000000 := by rw [cdiv_two]; omega
  have HF : Hid (∀ W : World, Calls Tryd.prog 36 #[.int .i64 (a + c), .int .i64 2] W fun e w' => e = .returned (.int .i64 ((a + c) / 2)) ∧ W = w') := Lib.hid fun W => floorDiv_any _ _ W (by omega) (by omega) (by omega) (by omega)
  have HC : Hid (∀ W : World, Calls Tryd.prog 37 #[.int .i64 (b + d), .int .i64 2] W fun e w' => e = .returned (.int .i64 (cdiv (b + d) 2)) ∧ W = w') := Lib.hid fun W => ceilDiv_any _ _ W (by omega) (by omega) (by omega) (by omega)
  generalize (a + c) / 2 = lo at *
  generalize cdiv (b + d) 2 = hi at *
  have HG : Hid (∀ W : World, Calls Tryd.prog 39 #[.int .i64 (100 * q)] W (RP (1000000 + 100 * q) (1000000 + 100 * q) W)) := Lib.hid fun W => growthS_any _ W (by omega)
  have HD : Hid (∀ W : World, Calls Tryd.prog 38 #[.agg #[.int .i64 lo, .int .i64 hi], .agg #[.int .i64 (1000000 + 100 * q), .int .i64 (1000000 + 100 * q)]] W (RP (lo * 1000000 / (1000000 + 100 * q)) (cdiv (hi * 1000000) (1000000 + 100 * q)) W)) := Lib.hid fun W => divS_any lo hi _ _ W (by omega) (by omega) (by omega) (by omega)
  generalize lo * 1000000 / (1000000 + 100 * q) = X at *
  generalize cdiv (hi * 1000000) (1000000 + 100 * q) = Y at *
  clear e0 e1
  go_enter Tryd.func29, Tryd.ntmps29
  go_wp2_with fail
  go_region_held3 (fun w' => (w'.cell? ⟨w.heap.size, 0, none⟩ = some (.int .i64 a) ∧ w'.cell? ⟨w.heap.size, 1, none⟩ = some (.int .i64 b)) ∧ w'.cell? ⟨w.heap.size + 1, 0, none⟩ = some (.int .i64 c) ∧ w'.cell? ⟨w.heap.size + 1, 1, none⟩ = some (.int .i64 d))
    ((go_split_ands; refine ⟨⟨?_, ?_⟩, ?_, ?_⟩ <;> first | assumption | (exact ca (by assumption)) | (exact ca (ca (by simp; done))) | (exact ca (by simp; done)) | (simp; done)))
    (first | (go_at_call 36; (with_reducible refine (HF.out _).mono ?_); rintro e w' ⟨rfl, rfl⟩) | (go_at_call 37; (with_reducible refine (HC.out _).mono ?_); rintro e w' ⟨rfl, rfl⟩))
  all_goals
    go_wp2_with fail
    refine name_world ?_
    intro WX hWX
    have m0 : WX.drew.cell? ⟨w.heap.size + 1 + 1 + 1, 0, none⟩ = some (.int .i64 lo) := by rw [hWX]; exact new_cell (by simp) rfl
    have m1 : WX.drew.cell? ⟨w.heap.size + 1 + 1 + 1, 1, none⟩ = some (.int .i64 hi) := by rw [hWX]; exact new_cell (by simp) rfl
    have r0 : WX.drew.cell? ⟨w.heap.size + 1 + 1, 0, none⟩ = some (.int .i64 0) := by rw [hWX]; exact ca (new_cell (by simp) rfl)
    have r1 : WX.drew.cell? ⟨w.heap.size + 1 + 1, 1, none⟩ = some (.int .i64 0) := by rw [hWX]; exact ca (new_cell (by simp) rfl)
    have f0 : WX.drew.frozen? ⟨w.heap.size + 1 + 1, 0, none⟩ = false := by rw [hWX]; exact fa (by simp) (new_free (by simp))
    have f1 : WX.drew.frozen? ⟨w.heap.size + 1 + 1, 1, none⟩ = false := by rw [hWX]; exact fa (by simp) (new_free (by simp))
    have HB : Hid (Below w.heap.size w WX) := Lib.hid (by rw [hWX]; repeat (first | exact Below.refl _ _ | refine Below.drew ?_ | refine Below.alloc ?_ (by first | omega | (simp; done) | (simp; omega)) _))
    have hsz : w.heap.size + 1 + 1 + 1 < WX.drew.heap.size := by rw [hWX]; simp
    clear hWX
    go_region_held3 (fun w' => w'.cell? ⟨w.heap.size + 1 + 1 + 1, 0, none⟩ = some (.int .i64 lo) ∧ w'.cell? ⟨w.heap.size + 1 + 1 + 1, 1, none⟩ = some (.int .i64 hi))
      ((go_split_ands; refine ⟨?_, ?_⟩ <;> first | assumption | (with_reducible exact bc hb (by assumption)) | (with_reducible exact bc hb2 (by assumption)) | (with_reducible exact sc_far (by simp) (sc_far (by simp) (by assumption))) | (with_reducible exact sc_far (by simp) (by assumption))))
      (first | (go_at_call 39; (with_reducible refine (HG.out _).mono ?_); rintro e v1 ⟨rfl, hb⟩; have r0' := bc hb r0; have r1' := bc hb r1; have f0' := bf hb (cell_lt r0) f0; have f1' := bf hb (cell_lt r1) f1) | (go_at_call 38; (with_reducible refine (HD.out _).mono ?_); rintro e v2 ⟨rfl, hb2⟩; have r0'' := bc hb2 r0'; have r1'' := bc hb2 r1'; have f0'' := bf hb2 (cell_lt r0') f0'; have f1'' := bf hb2 (cell_lt r1') f1'))
    have hz1 := hb.size
    have HB2 : Hid (Below w.heap.size w v2) := Below.trans (Below.trans (Below.drew HB.out) (hb.mono (by have := HB.out.size; exact this))) (hb2.mono (by have := HB.out.size; omega))
    go_wp2
    refine bodyPost_ret (res2 (b := w.heap.size + 1 + 1) Tryd.results29 (by rfl) ⟨sc_far (by simp) (sc_same (by assumption)), sc_same (sc_far (by simp) (by assumption))⟩) rfl ⟨rfl, ?_⟩
    exact Below.setCell (Below.setCell HB2.out (by show w.heap.size ≤ w.heap.size + 1 + 1; omega) _) (by show w.heap.size ≤ w.heap.size + 1 + 1; omega) _
end Go.Proofs.YtmidbphfbaldiaaDoor
