/- Schedules: the library's small functions: Contains, Clip, Reverse. -/
import Derived.Test.YtoidghdgebdfaaaDoorSch3
namespace Go.Proofs.YtoidghdgebdfaaaDoor
open Go.RowKit
set_option linter.unusedVariables false
def mV (k : Nat) : Int := if k = 0 then 1 else if k = 1 then 3 else if k = 2 then 6 else 12
theorem mV_any (m : Int) (h : ∀ j, j < 4 → mV j ≠ m) : ¬ (m = 1 ∨ m = 3 ∨ m = 6 ∨ m = 12) := by
  have h0 := h 0 (by omega)
  have h1 := h 1 (by omega)
  have h2 := h 2 (by omega)
  have h3 := h 3 (by omega)
  simp [mV] at h0 h1 h2 h3
  omega
theorem mV_is {k : Nat} (h : k < 4) : mV k = 1 ∨ mV k = 3 ∨ mV k = 6 ∨ mV k = 12 := by
  unfold mV
  (repeat' split) <;> simp
def IdxPost (m : Int) (w : World) (e : Ending) (w' : World) : Prop := ∃ r : Int, e = .returned (.int .i64 r) ∧ (-1 ≤ r ∧ r ≤ 3) ∧ (0 ≤ r ↔ (m = 1 ∨ m = 3 ∨ m = 6 ∨ m = 12)) ∧ w = w'
set_option maxHeartbeats 1000000 in
theorem index_any (b c : Nat) (m : Int) (w : World) (hc : ∀ k, k < 4 → w.cell? ⟨b, k, none⟩ = some (.int .i64 (mV k))) :
    Calls Tryd.prog 60 #[.slice (some ⟨b, 0, none⟩) 4 c, .int .i64 m] w (IdxPost m w) := by
  have HC := Lib.hid hc
  clear hc
  go_enter Tryd.func60, Tryd.ntmps60
  go_wp2
  go_loop [8] (fun i => ∃ k : Nat, k ≤ 4 ∧ i = .int .i64 k ∧ Hid (∀ j, j < k → mV j ≠ m)) (fun i => 4 - (intOf i).toNat)
  case atStart => exact ⟨0, by omega, rfl, Lib.hid (fun j h => by omega)⟩
  case round =>
    obtain ⟨k, hk, rfl, hn⟩ := hrel
    by_cases hlt : k < 4
    · have hcell := HC.out k hlt
      cases hq : (m == mV k)
      · have hne : mV k ≠ m := by intro e; rw [e] at hq; simp at hq
        have HN := Lib.hid hne
        clear hne
        go_wp2
        go_round
        case rel => exact ⟨k + 1, by omega, by go_num, Lib.hid (fun j h => by
          by_cases c : j = k
          · rw [c]; exact HN.out
          · exact hn.out j (by omega))⟩
        case measure => simp [intOf]; omega
      · have he : m = mV k := by simpa using hq
        have HE := Lib.hid he
        clear he
        go_wp2
        go_ret
        exact ⟨k, rfl, ⟨by omega, by omega⟩, ⟨fun _ => by rw [HE.out]; exact mV_is hlt, fun _ => by omega⟩, rfl⟩
    · obtain rfl : k = 4 := by omega
      go_wp2
      go_ret
      exact ⟨-1, rfl, by omega, ⟨fun h => by omega, fun h => absurd h (mV_any m hn.out)⟩, rfl⟩
theorem contains_any (b c : Nat) (m : Int) (w : World) (hc : ∀ k, k < 4 → w.cell? ⟨b, k, none⟩ = some (.int .i64 (mV k))) :
    Calls Tryd.prog 43 #[.slice (some ⟨b, 0, none⟩) 4 c, .int .i64 m] w fun e w' => e = .returned (.bool (m == 1 || m == 3 || m == 6 || m == 12)) ∧ w = w' := by
  have HC := Lib.hid hc
  clear hc
  go_enter Tryd.func43, Tryd.ntmps43
  go_wp2_with fail
  refine (index_any b c m _ HC.out).mono ?_
  rintro e w1 ⟨r, rfl, ⟨r0, r1⟩, hr, rfl⟩
  have HR := Lib.hid hr
  clear hr
  go_wp2
  go_ret
  refine ⟨ret_bool ?_, rfl⟩
  rw [Bool.eq_iff_iff]
  simp only [decide_eq_true_eq, Bool.or_eq_true, beq_iff_eq]
  have := HR.out
  omega
theorem clip_any (g n cap : Nat) (w : World) (h1 : n ≤ cap) (h2 : cap ≤ maxLen) :
    Calls Tryd.prog 46 #[.slice (some ⟨g, 0, none⟩) n cap] w fun e w' => e = .returned (.slice (some ⟨g, 0, none⟩) n n) ∧ w = w' := by
  unfold maxLen at h2
  go_enter Tryd.func46, Tryd.ntmps46
  go_wp2
  go_ret
  exact ⟨rfl, rfl⟩
end Go.Proofs.YtoidghdgebdfaaaDoor
