/- Bonds: FlowsOf. -/
import Derived.Test.YtoidghdgebdfaaaDoorFlow4
namespace Go.Proofs.YtoidghdgebdfaaaDoor
open Go.RowKit
set_option linter.unusedVariables false
/-- where there are periods -/
theorem schL_pos {s e m : Int} (h : 1 ≤ schL s e m) : spnB s e m = true ∧ schN s e m = schL s e m ∧ schL s e m ≤ 40 := by
  unfold schL at *
  split at h
  · rename_i q
    rw [if_pos q]
    exact ⟨q.1, rfl, q.2⟩
  · omega
theorem per_lt {s e m : Int} {n k : Nat} (hs : 0 ≤ s) (hm : 1 ≤ m) (hn : schN s e m = n) (hk : k < n) : pF s e m n k < pT e m n k := by
  unfold pF pT
  by_cases c : k = 0
  · rw [if_pos c, c]
    exact schN_in (by omega)
  · rw [if_neg c]
    have := schN_in (s := s) (e := e) (m := m) (j := n - k) (by omega)
    exact bk_lt hm (by omega) (by omega)
theorem per_next {s e m : Int} {n j : Nat} (h : j + 1 < n) : pF s e m n (j + 1) = pT e m n j ∧ pW s e m n (j + 1) = true := by
  unfold pF pT pW
  rw [if_neg (by omega), if_neg (by omega), show n - (j + 1) = n - 1 - j by omega]
  exact ⟨rfl, rfl⟩
theorem per_last {s e m : Int} {l : Nat} (h : spnB s e m = true) : pT e m (l + 1) l = e ∧ pF s e m (l + 1) 0 = s := by
  obtain ⟨⟨h0, h1, h2⟩, _⟩ := spnB_iff.1 h
  unfold pT pF
  rw [show l + 1 - 1 - l = 0 by omega, bk_zero ⟨by omega, h2⟩, if_pos rfl]
  exact ⟨rfl, rfl⟩
theorem bd_facts {s e m r : Int} (h : bdB s e m r = true) : (0 ≤ r ∧ r ≤ 3000) ∧ (m = 1 ∨ m = 3 ∨ m = 6 ∨ m = 12) ∧ (0 ≤ s ∧ s < e ∧ e ≤ 36524) ∧ spnB s e m = true ∧ schN s e m = schL s e m ∧ 1 ≤ schL s e m ∧ schL s e m ≤ 40 := by
  obtain ⟨h1, h2⟩ := bdB_iff.1 h
  obtain ⟨a, b, c⟩ := schL_pos (s := s) (e := e) (m := m) (by omega)
  obtain ⟨d, e'⟩ := spnB_iff.1 a
  exact ⟨inR_true.1 h1, e', d, a, b, by omega, c⟩
theorem per_ok {s e m : Int} (h : spnB s e m = true) : PerOk (perA s e m (schN s e m)) (schN s e m) := by
  obtain ⟨⟨s0, s1, e1⟩, hm⟩ := spnB_iff.1 h
  intro j hj
  refine ⟨?_, per_lt s0 (by omega) rfl hj, ?_⟩
  · show 0 ≤ pF s e m (schN s e m) j
    unfold pF
    split
    · exact s0
    · have := schN_in (s := s) (e := e) (m := m) (j := schN s e m - j) (by omega)
      omega
  · show pT e m (schN s e m) j ≤ 36524
    unfold pT
    exact (bk_bd _ _ _).2
/-- the periods are in order -/
theorem per_asc {s e m : Int} (h : spnB s e m = true) {i j : Nat} (hj : j < schN s e m) (hi : i < j) : pT e m (schN s e m) i < pT e m (schN s e m) j := by
  obtain ⟨⟨s0, s1, e1⟩, hm⟩ := spnB_iff.1 h
  unfold pT
  have := schN_in (s := s) (e := e) (m := m) (j := schN s e m - 1 - i) (by omega)
  exact bk_lt (by omega) (by omega) (by omega)
theorem schS_pv (s e m : Int) (h : spnB s e m = true) (W : World) : Calls Tryd.prog 53 #[.int .i64 s, .int .i64 e, .int .i64 m] W fun ed w' => ∃ v, ed = .returned v ∧ PV w' W.heap.size v (schN s e m) (perA s e m (schN s e m)) ∧ Below W.heap.size W w' := by
  have hp := schN_pos h
  refine (scheduleS_any s e m W h).mono ?_
  rintro ed w' ⟨v, rfl, hown, hb⟩
  refine ⟨v, rfl, ?_, hb⟩
  obtain ⟨g, cap, rfl, q1, q2, q3, q4⟩ := own_slice hown hp
  refine .inr ⟨hp, g, cap, cap, rfl, q1, q3, Nat.le_refl _, q4, ?_⟩
  rw [perL_flat] at hown
  exact pb_of_own hown
/-- the payments of a bond: how many, and which -/
noncomputable def flL (s e m r : Int) : Nat := if bdB s e m r = true then schL s e m else 0
noncomputable def flF (s e m r : Int) : Nat → Int × Int := fA m r (perA s e m (schL s e m)) (schL s e m)
theorem flL_no {s e m r : Int} (h : bdB s e m r = false) : flL s e m r = 0 := by unfold flL; rw [if_neg (by rw [h]; simp)]
theorem flL_yes {s e m r : Int} (h : bdB s e m r = true) : flL s e m r = schL s e m := by unfold flL; rw [if_pos h]
theorem flL_le (s e m r : Int) : flL s e m r ≤ 40 := by have := schL_le s e m; unfold flL; split <;> omega
def FlOf (s e m r : Int) (w : World) (ed : Ending) (w' : World) : Prop :=
  ∃ v, ed = .returned v ∧ FV w' w.heap.size v (flL s e m r) (flF s e m r) ∧ Below w.heap.size w w'
theorem fl_post {s e m r : Int} (h : bdB s e m r = true) {w : World} {ed : Ending} {w' : World} (k : FlPost m r (perA s e m (schL s e m)) (schL s e m) w ed w') : FlOf s e m r w ed w' := by
  obtain ⟨v, a, b, c⟩ := k
  exact ⟨v, a, by rw [flL_yes h]; exact b, c⟩
theorem flS_ok (s e m r : Int) (h : bdB s e m r = true) (W : World) (hM : MD W) : Calls Tryd.prog 36 #[.agg #[.int .i64 s, .int .i64 e, .int .i64 m, .int .i64 r]] W (FlOf s e m r W) := by
  obtain ⟨hr, hm, _, hs, hn, h1, h2⟩ := bd_facts h
  have hp := per_ok hs
  have hc := schS_pv s e m hs
  rw [hn] at hp hc
  obtain ⟨l, hl⟩ : ∃ l, schL s e m = l + 1 := ⟨schL s e m - 1, by omega⟩
  have hf := fun {ed : Ending} {w' : World} => fl_post (w := W) (ed := ed) (w' := w') h
  rw [hl] at hp hc hf h2
  exact (flowsS_any s e m r l _ W hM hm hr (by omega) hp hc).mono fun _ _ k => hf k
theorem flI_ok (s e m r : Int) (h : bdB s e m r = true) (W : World) (hM : MD W) : Calls Tryd.prog 37 #[.agg #[.int .i64 s, .int .i64 e, .int .i64 m, .int .i64 r]] W (FlOf s e m r W) := by
  obtain ⟨hr, hm, _, hs, hn, h1, h2⟩ := bd_facts h
  have hp := per_ok hs
  have hc : ∀ W : World, MD W → Calls Tryd.prog 41 #[.agg #[.int .i64 s, .int .i64 e, .int .i64 m, .int .i64 r]] W (ScI s e m W) := fun W h => periods_any s e m r W h
  unfold ScI at hc
  rw [hn] at hp
  obtain ⟨l, hl⟩ : ∃ l, schL s e m = l + 1 := ⟨schL s e m - 1, by omega⟩
  have hf := fun {ed : Ending} {w' : World} => fl_post (w := W) (ed := ed) (w' := w') h
  rw [hl] at hp hc hf h2
  exact (flowsI_any s e m r l _ W hM hm hr (by omega) hp hc).mono fun _ _ k => hf k
theorem flOf_no {s e m r : Int} {w w' : World} (h : bdB s e m r = false) (hb : Below w.heap.size w w') : FlOf s e m r w (.returned (.slice none 0 0)) w' :=
  ⟨_, rfl, .inl ⟨flL_no h, _, _, rfl, by decide⟩, hb⟩
set_option maxHeartbeats 1000000 in
theorem flowsOfS_any (s e m r : Int) (w : World) (hM : MD w) :
    Calls Tryd.prog 24 #[.agg #[.int .i64 s, .int .i64 e, .int .i64 m, .int .i64 r]] w (FlOf s e m r w) := by
  have hM1 := hM.size
  have HM := Lib.hid hM
  clear hM
  cases h : bdB s e m r
  · go_enter Tryd.func24, Tryd.ntmps24
    have HB := Lib.hid (Below.refl w.heap.size w)
    go_wp2_with fail
    refine (validBondS_any s e m r _).mono ?_
    rintro e w1 ⟨rfl, hb⟩
    have b0_1 : w1.cell? ⟨w.heap.size, 0, none⟩ = some (.int .i64 s) := bc hb (by first | (simp; done) | go_simp)
    have b1_1 : w1.cell? ⟨w.heap.size, 1, none⟩ = some (.int .i64 e) := bc hb (by first | (simp; done) | go_simp)
    have b2_1 : w1.cell? ⟨w.heap.size, 2, none⟩ = some (.int .i64 m) := bc hb (by first | (simp; done) | go_simp)
    have b3_1 : w1.cell? ⟨w.heap.size, 3, none⟩ = some (.int .i64 r) := bc hb (by first | (simp; done) | go_simp)
    have bl_1 : w.heap.size < w1.heap.size := cell_lt b0_1
    have hszw1 := below_size hb
    try simp at hszw1
    have HBq : Below w.heap.size w w1 := Below.trans (by repeat (first | exact Below.refl _ _ | exact HB.out | refine Below.drew ?_ | refine bel_drewN _ ?_ | refine Below.alloc ?_ (by first | omega | (simp; done) | (simp; omega)) _ | refine Below.setCell ?_ (by first | (show _ ≤ _; omega) | (simp; done) | (simp; omega)) _)) (hb.mono (by first | omega | (simp; done) | (simp; omega)))
    have HB := Lib.hid HBq
    clear HBq hb
    go_wp2
    go_ret
    exact flOf_no h HB.out
  · have HF : Hid (∀ W : World, MD W → Calls Tryd.prog 36 #[.agg #[.int .i64 s, .int .i64 e, .int .i64 m, .int .i64 r]] W (FlOf s e m r W)) := Lib.hid fun W hW => flS_ok s e m r h W hW
    go_enter Tryd.func24, Tryd.ntmps24
    have HB := Lib.hid (Below.refl w.heap.size w)
    go_wp2_with fail
    refine (validBondS_any s e m r _).mono ?_
    rintro e w1 ⟨rfl, hb⟩
    have b0_1 : w1.cell? ⟨w.heap.size, 0, none⟩ = some (.int .i64 s) := bc hb (by first | (simp; done) | go_simp)
    have b1_1 : w1.cell? ⟨w.heap.size, 1, none⟩ = some (.int .i64 e) := bc hb (by first | (simp; done) | go_simp)
    have b2_1 : w1.cell? ⟨w.heap.size, 2, none⟩ = some (.int .i64 m) := bc hb (by first | (simp; done) | go_simp)
    have b3_1 : w1.cell? ⟨w.heap.size, 3, none⟩ = some (.int .i64 r) := bc hb (by first | (simp; done) | go_simp)
    have bl_1 : w.heap.size < w1.heap.size := cell_lt b0_1
    have hszw1 := below_size hb
    try simp at hszw1
    have HBq : Below w.heap.size w w1 := Below.trans (by repeat (first | exact Below.refl _ _ | exact HB.out | refine Below.drew ?_ | refine bel_drewN _ ?_ | refine Below.alloc ?_ (by first | omega | (simp; done) | (simp; omega)) _ | refine Below.setCell ?_ (by first | (show _ ≤ _; omega) | (simp; done) | (simp; omega)) _)) (hb.mono (by first | omega | (simp; done) | (simp; omega)))
    have HB := Lib.hid HBq
    clear HBq hb
    go_wp2_with fail
    refine (HF.out _ (by exact HM.out.fwd (by repeat (first | exact Below.refl _ _ | exact HB.out.mono hM1 | refine Below.drew ?_ | refine bel_drewN _ ?_ | refine Below.alloc ?_ (by first | omega | (simp; done) | (simp; omega)) _ | refine Below.setCell ?_ (by first | (show _ ≤ _; omega) | (simp; done) | (simp; omega)) _)))).mono ?_
    rintro ed w2 ⟨v, rfl, hv, hb2⟩
    have HV := Lib.hid hv
    have hz := HB.out.size
    have HB : Hid (Below w.heap.size w w2) := HB.out.trans (hb2.mono hz)
    clear hv hb2
    go_wp2
    go_ret
    exact ⟨_, rfl, HV.out.base hz, HB.out⟩
set_option maxHeartbeats 1000000 in
theorem flowsOfI_any (s e m r : Int) (w : World) (hM : MD w) :
    Calls Tryd.prog 18 #[.agg #[.int .i64 s, .int .i64 e, .int .i64 m, .int .i64 r]] w (FlOf s e m r w) := by
  have hM1 := hM.size
  have HM := Lib.hid hM
  clear hM
  cases h : bdB s e m r
  · go_enter Tryd.func18, Tryd.ntmps18
    have HB := Lib.hid (Below.refl w.heap.size w)
    go_wp2_with fail
    refine (validBondI_any s e m r _ (by exact HM.out.fwd (by repeat (first | exact Below.refl _ _ | exact HB.out.mono hM1 | refine Below.drew ?_ | refine bel_drewN _ ?_ | refine Below.alloc ?_ (by first | omega | (simp; done) | (simp; omega)) _ | refine Below.setCell ?_ (by first | (show _ ≤ _; omega) | (simp; done) | (simp; omega)) _)))).mono ?_
    rintro e w1 ⟨rfl, hb⟩
    have b0_1 : w1.cell? ⟨w.heap.size, 0, none⟩ = some (.int .i64 s) := bc hb (by first | (simp; done) | go_simp)
    have b1_1 : w1.cell? ⟨w.heap.size, 1, none⟩ = some (.int .i64 e) := bc hb (by first | (simp; done) | go_simp)
    have b2_1 : w1.cell? ⟨w.heap.size, 2, none⟩ = some (.int .i64 m) := bc hb (by first | (simp; done) | go_simp)
    have b3_1 : w1.cell? ⟨w.heap.size, 3, none⟩ = some (.int .i64 r) := bc hb (by first | (simp; done) | go_simp)
    have bl_1 : w.heap.size < w1.heap.size := cell_lt b0_1
    have hszw1 := below_size hb
    try simp at hszw1
    have HBq : Below w.heap.size w w1 := Below.trans (by repeat (first | exact Below.refl _ _ | exact HB.out | refine Below.drew ?_ | refine bel_drewN _ ?_ | refine Below.alloc ?_ (by first | omega | (simp; done) | (simp; omega)) _ | refine Below.setCell ?_ (by first | (show _ ≤ _; omega) | (simp; done) | (simp; omega)) _)) (hb.mono (by first | omega | (simp; done) | (simp; omega)))
    have HB := Lib.hid HBq
    clear HBq hb
    go_wp2
    go_ret
    exact flOf_no h HB.out
  · have HF : Hid (∀ W : World, MD W → Calls Tryd.prog 37 #[.agg #[.int .i64 s, .int .i64 e, .int .i64 m, .int .i64 r]] W (FlOf s e m r W)) := Lib.hid fun W hW => flI_ok s e m r h W hW
    go_enter Tryd.func18, Tryd.ntmps18
    have HB := Lib.hid (Below.refl w.heap.size w)
    go_wp2_with fail
    refine (validBondI_any s e m r _ (by exact HM.out.fwd (by repeat (first | exact Below.refl _ _ | exact HB.out.mono hM1 | refine Below.drew ?_ | refine bel_drewN _ ?_ | refine Below.alloc ?_ (by first | omega | (simp; done) | (simp; omega)) _ | refine Below.setCell ?_ (by first | (show _ ≤ _; omega) | (simp; done) | (simp; omega)) _)))).mono ?_
    rintro e w1 ⟨rfl, hb⟩
    have b0_1 : w1.cell? ⟨w.heap.size, 0, none⟩ = some (.int .i64 s) := bc hb (by first | (simp; done) | go_simp)
    have b1_1 : w1.cell? ⟨w.heap.size, 1, none⟩ = some (.int .i64 e) := bc hb (by first | (simp; done) | go_simp)
    have b2_1 : w1.cell? ⟨w.heap.size, 2, none⟩ = some (.int .i64 m) := bc hb (by first | (simp; done) | go_simp)
    have b3_1 : w1.cell? ⟨w.heap.size, 3, none⟩ = some (.int .i64 r) := bc hb (by first | (simp; done) | go_simp)
    have bl_1 : w.heap.size < w1.heap.size := cell_lt b0_1
    have hszw1 := below_size hb
    try simp at hszw1
    have HBq : Below w.heap.size w w1 := Below.trans (by repeat (first | exact Below.refl _ _ | exact HB.out | refine Below.drew ?_ | refine bel_drewN _ ?_ | refine Below.alloc ?_ (by first | omega | (simp; done) | (simp; omega)) _ | refine Below.setCell ?_ (by first | (show _ ≤ _; omega) | (simp; done) | (simp; omega)) _)) (hb.mono (by first | omega | (simp; done) | (simp; omega)))
    have HB := Lib.hid HBq
    clear HBq hb
    go_wp2_with fail
    refine (HF.out _ (by exact HM.out.fwd (by repeat (first | exact Below.refl _ _ | exact HB.out.mono hM1 | refine Below.drew ?_ | refine bel_drewN _ ?_ | refine Below.alloc ?_ (by first | omega | (simp; done) | (simp; omega)) _ | refine Below.setCell ?_ (by first | (show _ ≤ _; omega) | (simp; done) | (simp; omega)) _)))).mono ?_
    rintro ed w2 ⟨v, rfl, hv, hb2⟩
    have HV := Lib.hid hv
    have hz := HB.out.size
    have HB : Hid (Below w.heap.size w w2) := HB.out.trans (hb2.mono hz)
    clear hv hb2
    go_wp2
    go_ret
    exact ⟨_, rfl, HV.out.base hz, HB.out⟩
end Go.Proofs.YtoidghdgebdfaaaDoor
