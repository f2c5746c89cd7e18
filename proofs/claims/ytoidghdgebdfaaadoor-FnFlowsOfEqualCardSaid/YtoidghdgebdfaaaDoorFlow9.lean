/- Bonds: the mean number of days to the payments. -/
import Derived.Test.YtoidghdgebdfaaaDoorFlow8
namespace Go.Proofs.YtoidghdgebdfaaaDoor
open Go.RowKit
set_option linter.unusedVariables false
set_option maxHeartbeats 1000000 in
theorem close_any (k : Nat) (p q g c cap L : Nat) (A : Nat → Int × Int × Bool) (d : Int) (w : World) (hk : k < L) (hL : L ≤ 41) (hc : L ≤ c) (hc2 : c ≤ 9223372036854775807) (h1 : w.cell? ⟨p, 0, none⟩ = some (.slice (some ⟨g, 0, none⟩) L c)) (h2 : w.cell? ⟨q, 0, none⟩ = some (.int .i64 d)) (hp : PB w g cap L A) :
    Calls Tryd.prog 64 #[.int .i64 k, .pointer (some ⟨p, 0, none⟩), .pointer (some ⟨q, 0, none⟩)] w fun e w' => e = .returned (.bool (decide (d < (A k).2.1))) ∧ ∃ m, w' = w.drewN m := by
  obtain ⟨⟨_, a1, _⟩, _⟩ := hp.cells hk
  have i0 : (0 : Int) ≤ (k : Int) := by omega
  have i1 : (k : Int) < (L : Int) := by omega
  generalize (A k).2.1 = x at *
  clear hp
  go_enter Tryd.func64, Tryd.ntmps64
  go_wp2_with fail
  go_quiet (fail)
  go_wp2
  go_ret
  exact ⟨rfl, _, rfl⟩
theorem PB.drewN {w : World} {g cap n k : Nat} {A : Nat → Int × Int × Bool} (h : PB w g cap n A) : PB (w.drewN k) g cap n A := h
set_option maxHeartbeats 1000000 in
theorem search_any (p q g c cap L : Nat) (A : Nat → Int × Int × Bool) (d : Int) (w : World) (hL : L ≤ 41) (hc : L ≤ c) (hc2 : c ≤ 9223372036854775807) (h1 : w.cell? ⟨p, 0, none⟩ = some (.slice (some ⟨g, 0, none⟩) L c)) (h2 : w.cell? ⟨q, 0, none⟩ = some (.int .i64 d)) (hp : PB w g cap L A) :
    Calls Tryd.prog 63 #[.int .i64 L, .func (.func 64) #[] #[.pointer (some ⟨p, 0, none⟩), .pointer (some ⟨q, 0, none⟩)]] w fun e w' => (∃ r : Int, e = .returned (.int .i64 r)) ∧ Below w.heap.size w w' := by
  have HC : Hid (∀ (k m : Nat), k < L → Calls Tryd.prog 64 #[.int .i64 k, .pointer (some ⟨p, 0, none⟩), .pointer (some ⟨q, 0, none⟩)] (w.drewN m) fun e w' => e = .returned (.bool (decide (d < (A k).2.1))) ∧ ∃ m', w' = (w.drewN m).drewN m') := Lib.hid fun k m hk => close_any k p q g c cap L A d _ hk hL hc hc2 h1 h2 hp.drewN
  clear h1 h2 hp
  go_enter Tryd.func63, Tryd.ntmps63
  go_wp2
  go_loopw [5, 6] (fun i j wr => ∃ a b : Nat, a ≤ b ∧ b ≤ L ∧ i = .int .i64 a ∧ j = .int .i64 b ∧ ∃ m, wr = w.drewN m) (fun i j _ => (intOf j - intOf i).toNat)
  case atStart => exact ⟨0, L, Nat.zero_le _, Nat.le_refl _, rfl, rfl, 0, rfl⟩
  case round =>
    obtain ⟨a, b, hab, hb, rfl, rfl, m, rfl⟩ := hrel
    by_cases hlt : a < b
    · obtain ⟨h, hh⟩ : ∃ h : Nat, (a + b) / 2 = h := ⟨_, rfl⟩
      have e0 : ((a : Int) + b) / 2 = (h : Int) := by omega
      have h0 : a ≤ h := by omega
      have h1 : h < b := by omega
      have HC1 := HC.out h m (by omega)
      rw [← e0] at HC1
      have HE := Lib.hid e0
      clear e0 hh
      generalize decide (d < (A h).2.1) = x at *
      have HC1 := Lib.hid HC1
      go_wp2_with fail
      refine HC1.out.mono ?_
      rintro e w1 ⟨rfl, m', rfl⟩
      cases x
      · have e1 := HE.out
        go_wp2
        go_roundw
        case rel => exact ⟨h + 1, b, by omega, by omega, by go_num, rfl, m + m', rfl⟩
        case measure => simp [intOf]; omega
      · have e1 := HE.out
        go_wp2
        go_roundw
        case rel => exact ⟨a, h, by omega, by omega, rfl, rfl, m + m', rfl⟩
        case measure => simp [intOf]; omega
    · go_wp2
      go_ret
      exact ⟨⟨_, rfl⟩, bel_drewN _ (Below.refl _ _)⟩
noncomputable def runB (s e m r d : Int) : Bool := bdB s e m r && inR d s (e - 1)
set_option maxHeartbeats 1000000 in
theorem runningS_any (s e m r d : Int) (w : World) :
    Calls Tryd.prog 47 #[.agg #[.int .i64 s, .int .i64 e, .int .i64 m, .int .i64 r], .int .i64 d] w fun ed w' => ed = .returned (.bool (runB s e m r d)) ∧ Below w.heap.size w w' := by
  unfold runB
  cases h : bdB s e m r
  · go_enter Tryd.func47, Tryd.ntmps47
    have HB := Lib.hid (Below.refl w.heap.size w)
    go_wp2_with fail
    refine (validBondS_any s e m r _).mono ?_
    rintro e w1 ⟨rfl, hb⟩
    have b0_1 : w1.cell? ⟨w.heap.size, 0, none⟩ = some (.int .i64 s) := bc hb (by first | (simp; done) | go_simp)
    have b1_1 : w1.cell? ⟨w.heap.size, 1, none⟩ = some (.int .i64 e) := bc hb (by first | (simp; done) | go_simp)
    have b2_1 : w1.cell? ⟨w.heap.size, 2, none⟩ = some (.int .i64 m) := bc hb (by first | (simp; done) | go_simp)
    have b3_1 : w1.cell? ⟨w.heap.size, 3, none⟩ = some (.int .i64 r) := bc hb (by first | (simp; done) | go_simp)
    have bl_1 : w.heap.size < w1.heap.size := cell_lt b0_1
    have hszw1 := below_size hb
    try simp at hszw1
    have HBq : Below w.heap.size w w1 := Below.trans (by repeat (first | exact Below.refl _ _ | exact HB.out | refine Below.drew ?_ | refine bel_drewN _ ?_ | refine Below.alloc ?_ (by first | omega | (simp; done) | (simp; omega)) _ | refine Below.setCell ?_ (by first | (show _ ≤ _; omega) | (simp; done) | (simp; omega)) _)) (hb.mono (by first | omega | (simp; done) | (simp; omega)))
    have HB := Lib.hid HBq
    clear HBq hb
    go_wp2
    go_ret
    exact ⟨ret_bool (by simp), HB.out⟩
  · obtain ⟨_, _, ⟨s0, s1, e1⟩, _⟩ := bd_facts h
    go_enter Tryd.func47, Tryd.ntmps47
    have HB := Lib.hid (Below.refl w.heap.size w)
    go_wp2_with fail
    refine (validBondS_any s e m r _).mono ?_
    rintro e w1 ⟨rfl, hb⟩
    have b0_1 : w1.cell? ⟨w.heap.size, 0, none⟩ = some (.int .i64 s) := bc hb (by first | (simp; done) | go_simp)
    have b1_1 : w1.cell? ⟨w.heap.size, 1, none⟩ = some (.int .i64 e) := bc hb (by first | (simp; done) | go_simp)
    have b2_1 : w1.cell? ⟨w.heap.size, 2, none⟩ = some (.int .i64 m) := bc hb (by first | (simp; done) | go_simp)
    have b3_1 : w1.cell? ⟨w.heap.size, 3, none⟩ = some (.int .i64 r) := bc hb (by first | (simp; done) | go_simp)
    have bl_1 : w.heap.size < w1.heap.size := cell_lt b0_1
    have hszw1 := below_size hb
    try simp at hszw1
    have HBq : Below w.heap.size w w1 := Below.trans (by repeat (first | exact Below.refl _ _ | exact HB.out | refine Below.drew ?_ | refine bel_drewN _ ?_ | refine Below.alloc ?_ (by first | omega | (simp; done) | (simp; omega)) _ | refine Below.setCell ?_ (by first | (show _ ≤ _; omega) | (simp; done) | (simp; omega)) _)) (hb.mono (by first | omega | (simp; done) | (simp; omega)))
    have HB := Lib.hid HBq
    clear HBq hb
    go_wp2_with fail
    refine (inRange_any _ _ _ _).mono ?_
    rintro e w2 ⟨rfl, rfl⟩
    go_wp2
    go_ret
    exact ⟨ret_bool (by simp), HB.out⟩
def RunP (s e m r d : Int) (w : World) (ed : Ending) (w' : World) : Prop := (∃ (v : Value) (i : Int), ed = .returned (.tuple #[v, .int .i64 i, .bool (runB s e m r d)])) ∧ Below w.heap.size w w'
set_option maxHeartbeats 2000000 in
theorem runningI_any (s e m r d : Int) (w : World) (hM : MD w) :
    Calls Tryd.prog 49 #[.agg #[.int .i64 s, .int .i64 e, .int .i64 m, .int .i64 r], .int .i64 d] w (RunP s e m r d w) := by
  have hM1 := hM.size
  have HM := Lib.hid hM
  clear hM
  unfold RunP runB
  cases h : bdB s e m r
  · go_enter Tryd.func49, Tryd.ntmps49
    have HB := Lib.hid (Below.refl w.heap.size w)
    go_wp2_with fail
    refine (validBondI_any s e m r _ (by exact HM.out.fwd (by repeat (first | exact Below.refl _ _ | exact HB.out.mono hM1 | refine Below.drew ?_ | refine bel_drewN _ ?_ | refine Below.alloc ?_ (by first | omega | (simp; done) | (simp; omega)) _ | refine Below.setCell ?_ (by first | (show _ ≤ _; omega) | (simp; done) | (simp; omega)) _)))).mono ?_
    rintro e w1 ⟨rfl, hb⟩
    have b0_1 : w1.cell? ⟨w.heap.size, 0, none⟩ = some (.int .i64 s) := bc hb (by first | (simp; done) | go_simp)
    have b1_1 : w1.cell? ⟨w.heap.size, 1, none⟩ = some (.int .i64 e) := bc hb (by first | (simp; done) | go_simp)
    have b2_1 : w1.cell? ⟨w.heap.size, 2, none⟩ = some (.int .i64 m) := bc hb (by first | (simp; done) | go_simp)
    have b3_1 : w1.cell? ⟨w.heap.size, 3, none⟩ = some (.int .i64 r) := bc hb (by first | (simp; done) | go_simp)
    have bl_1 : w.heap.size < w1.heap.size := cell_lt b0_1
    have y0_1 : w1.cell? ⟨w.heap.size + 1, 0, none⟩ = some (.int .i64 d) := bc hb (by first | (simp; done) | go_simp)
    have yl_1 : w.heap.size + 1 < w1.heap.size := cell_lt y0_1
    have hszw1 := below_size hb
    try simp at hszw1
    have HBq : Below w.heap.size w w1 := Below.trans (by repeat (first | exact Below.refl _ _ | exact HB.out | refine Below.drew ?_ | refine bel_drewN _ ?_ | refine Below.alloc ?_ (by first | omega | (simp; done) | (simp; omega)) _ | refine Below.setCell ?_ (by first | (show _ ≤ _; omega) | (simp; done) | (simp; omega)) _)) (hb.mono (by first | omega | (simp; done) | (simp; omega)))
    have HB := Lib.hid HBq
    clear HBq hb
    go_wp2
    exact bodyPost_ret (v := .tuple #[.slice none 0 0, .int .i64 0, .bool false]) (by simp [results, Tryd.results49, go_sem]) rfl ⟨⟨_, _, rfl⟩, HB.out⟩
  obtain ⟨_, _, ⟨s0, s1, e1⟩, hs, hn, h1, h2⟩ := bd_facts h
  by_cases c1 : d < s
  · have d1 : decide (d < s) = true := by simpa using c1
    have HR : Hid (inR d s (e - 1) = false) := Lib.hid (inR_no (.inl c1))
    go_enter Tryd.func49, Tryd.ntmps49
    have HB := Lib.hid (Below.refl w.heap.size w)
    go_wp2_with fail
    refine (validBondI_any s e m r _ (by exact HM.out.fwd (by repeat (first | exact Below.refl _ _ | exact HB.out.mono hM1 | refine Below.drew ?_ | refine bel_drewN _ ?_ | refine Below.alloc ?_ (by first | omega | (simp; done) | (simp; omega)) _ | refine Below.setCell ?_ (by first | (show _ ≤ _; omega) | (simp; done) | (simp; omega)) _)))).mono ?_
    rintro e w1 ⟨rfl, hb⟩
    have b0_1 : w1.cell? ⟨w.heap.size, 0, none⟩ = some (.int .i64 s) := bc hb (by first | (simp; done) | go_simp)
    have b1_1 : w1.cell? ⟨w.heap.size, 1, none⟩ = some (.int .i64 e) := bc hb (by first | (simp; done) | go_simp)
    have b2_1 : w1.cell? ⟨w.heap.size, 2, none⟩ = some (.int .i64 m) := bc hb (by first | (simp; done) | go_simp)
    have b3_1 : w1.cell? ⟨w.heap.size, 3, none⟩ = some (.int .i64 r) := bc hb (by first | (simp; done) | go_simp)
    have bl_1 : w.heap.size < w1.heap.size := cell_lt b0_1
    have y0_1 : w1.cell? ⟨w.heap.size + 1, 0, none⟩ = some (.int .i64 d) := bc hb (by first | (simp; done) | go_simp)
    have yl_1 : w.heap.size + 1 < w1.heap.size := cell_lt y0_1
    have hszw1 := below_size hb
    try simp at hszw1
    have HBq : Below w.heap.size w w1 := Below.trans (by repeat (first | exact Below.refl _ _ | exact HB.out | refine Below.drew ?_ | refine bel_drewN _ ?_ | refine Below.alloc ?_ (by first | omega | (simp; done) | (simp; omega)) _ | refine Below.setCell ?_ (by first | (show _ ≤ _; omega) | (simp; done) | (simp; omega)) _)) (hb.mono (by first | omega | (simp; done) | (simp; omega)))
    have HB := Lib.hid HBq
    clear HBq hb
    go_wp2
    exact bodyPost_ret (v := .tuple #[.slice none 0 0, .int .i64 0, .bool false]) (by simp [results, Tryd.results49, go_sem]) rfl ⟨⟨_, _, by rw [HR.out]; rfl⟩, HB.out⟩
  have d1 : decide (d < s) = false := by simpa using c1
  by_cases c2 : e ≤ d
  · have d2 : decide (e ≤ d) = true := by simpa using c2
    have HR : Hid (inR d s (e - 1) = false) := Lib.hid (inR_no (.inr (by omega)))
    go_enter Tryd.func49, Tryd.ntmps49
    have HB := Lib.hid (Below.refl w.heap.size w)
    go_wp2_with fail
    refine (validBondI_any s e m r _ (by exact HM.out.fwd (by repeat (first | exact Below.refl _ _ | exact HB.out.mono hM1 | refine Below.drew ?_ | refine bel_drewN _ ?_ | refine Below.alloc ?_ (by first | omega | (simp; done) | (simp; omega)) _ | refine Below.setCell ?_ (by first | (show _ ≤ _; omega) | (simp; done) | (simp; omega)) _)))).mono ?_
    rintro e w1 ⟨rfl, hb⟩
    have b0_1 : w1.cell? ⟨w.heap.size, 0, none⟩ = some (.int .i64 s) := bc hb (by first | (simp; done) | go_simp)
    have b1_1 : w1.cell? ⟨w.heap.size, 1, none⟩ = some (.int .i64 e) := bc hb (by first | (simp; done) | go_simp)
    have b2_1 : w1.cell? ⟨w.heap.size, 2, none⟩ = some (.int .i64 m) := bc hb (by first | (simp; done) | go_simp)
    have b3_1 : w1.cell? ⟨w.heap.size, 3, none⟩ = some (.int .i64 r) := bc hb (by first | (simp; done) | go_simp)
    have bl_1 : w.heap.size < w1.heap.size := cell_lt b0_1
    have y0_1 : w1.cell? ⟨w.heap.size + 1, 0, none⟩ = some (.int .i64 d) := bc hb (by first | (simp; done) | go_simp)
    have yl_1 : w.heap.size + 1 < w1.heap.size := cell_lt y0_1
    have hszw1 := below_size hb
    try simp at hszw1
    have HBq : Below w.heap.size w w1 := Below.trans (by repeat (first | exact Below.refl _ _ | exact HB.out | refine Below.drew ?_ | refine bel_drewN _ ?_ | refine Below.alloc ?_ (by first | omega | (simp; done) | (simp; omega)) _ | refine Below.setCell ?_ (by first | (show _ ≤ _; omega) | (simp; done) | (simp; omega)) _)) (hb.mono (by first | omega | (simp; done) | (simp; omega)))
    have HB := Lib.hid HBq
    clear HBq hb
    go_wp2
    exact bodyPost_ret (v := .tuple #[.slice none 0 0, .int .i64 0, .bool false]) (by simp [results, Tryd.results49, go_sem]) rfl ⟨⟨_, _, by rw [HR.out]; rfl⟩, HB.out⟩
  have d2 : decide (e ≤ d) = false := by simpa using c2
  have HR : Hid (inR d s (e - 1) = true) := Lib.hid (inR_yes (by omega))
  have HS : Hid (∀ W : World, MD W → Calls Tryd.prog 41 #[.agg #[.int .i64 s, .int .i64 e, .int .i64 m, .int .i64 r]] W (ScI s e m W)) := Lib.hid fun W h => periods_any s e m r W h
  unfold ScI at HS
  generalize schL s e m = L at *
  generalize perA s e m L = A at *
  clear hs hn
  go_enter Tryd.func49, Tryd.ntmps49
  have HB := Lib.hid (Below.refl w.heap.size w)
  go_wp2_with fail
  refine (validBondI_any s e m r _ (by exact HM.out.fwd (by repeat (first | exact Below.refl _ _ | exact HB.out.mono hM1 | refine Below.drew ?_ | refine bel_drewN _ ?_ | refine Below.alloc ?_ (by first | omega | (simp; done) | (simp; omega)) _ | refine Below.setCell ?_ (by first | (show _ ≤ _; omega) | (simp; done) | (simp; omega)) _)))).mono ?_
  rintro e w1 ⟨rfl, hb⟩
  have b0_1 : w1.cell? ⟨w.heap.size, 0, none⟩ = some (.int .i64 s) := bc hb (by first | (simp; done) | go_simp)
  have b1_1 : w1.cell? ⟨w.heap.size, 1, none⟩ = some (.int .i64 e) := bc hb (by first | (simp; done) | go_simp)
  have b2_1 : w1.cell? ⟨w.heap.size, 2, none⟩ = some (.int .i64 m) := bc hb (by first | (simp; done) | go_simp)
  have b3_1 : w1.cell? ⟨w.heap.size, 3, none⟩ = some (.int .i64 r) := bc hb (by first | (simp; done) | go_simp)
  have bl_1 : w.heap.size < w1.heap.size := cell_lt b0_1
  have y0_1 : w1.cell? ⟨w.heap.size + 1, 0, none⟩ = some (.int .i64 d) := bc hb (by first | (simp; done) | go_simp)
  have yl_1 : w.heap.size + 1 < w1.heap.size := cell_lt y0_1
  have hszw1 := below_size hb
  try simp at hszw1
  have HBq : Below w.heap.size w w1 := Below.trans (by repeat (first | exact Below.refl _ _ | exact HB.out | refine Below.drew ?_ | refine bel_drewN _ ?_ | refine Below.alloc ?_ (by first | omega | (simp; done) | (simp; omega)) _ | refine Below.setCell ?_ (by first | (show _ ≤ _; omega) | (simp; done) | (simp; omega)) _)) (hb.mono (by first | omega | (simp; done) | (simp; omega)))
  have HB := Lib.hid HBq
  clear HBq hb
  go_wp2_with fail
  refine (HS.out _ (by exact HM.out.fwd (by repeat (first | exact Below.refl _ _ | exact HB.out.mono hM1 | refine Below.drew ?_ | refine bel_drewN _ ?_ | refine Below.alloc ?_ (by first | omega | (simp; done) | (simp; omega)) _ | refine Below.setCell ?_ (by first | (show _ ≤ _; omega) | (simp; done) | (simp; omega)) _)))).mono ?_
  rintro ed w2 ⟨v, rfl, hp, hb⟩
  rcases hp with ⟨h0, _⟩ | ⟨_, g, c, cap, rfl, b1, l1, l2, l3, pb⟩
  · omega
  have b0_2 : w2.cell? ⟨w.heap.size, 0, none⟩ = some (.int .i64 s) := bc hb (by first | exact b0_1 | exact ca b0_1 | exact ca (ca b0_1) | exact ca (ca (ca b0_1)) | (simp; done) | go_simp)
  have b1_2 : w2.cell? ⟨w.heap.size, 1, none⟩ = some (.int .i64 e) := bc hb (by first | exact b1_1 | exact ca b1_1 | exact ca (ca b1_1) | exact ca (ca (ca b1_1)) | (simp; done) | go_simp)
  have b2_2 : w2.cell? ⟨w.heap.size, 2, none⟩ = some (.int .i64 m) := bc hb (by first | exact b2_1 | exact ca b2_1 | exact ca (ca b2_1) | exact ca (ca (ca b2_1)) | (simp; done) | go_simp)
  have b3_2 : w2.cell? ⟨w.heap.size, 3, none⟩ = some (.int .i64 r) := bc hb (by first | exact b3_1 | exact ca b3_1 | exact ca (ca b3_1) | exact ca (ca (ca b3_1)) | (simp; done) | go_simp)
  have bl_2 : w.heap.size < w2.heap.size := cell_lt b0_2
  clear b0_1 b1_1 b2_1 b3_1 bl_1
  have y0_2 : w2.cell? ⟨w.heap.size + 1, 0, none⟩ = some (.int .i64 d) := bc hb (by first | exact y0_1 | exact ca y0_1 | exact ca (ca y0_1) | exact ca (ca (ca y0_1)) | (simp; done) | go_simp)
  have yl_2 : w.heap.size + 1 < w2.heap.size := cell_lt y0_2
  clear y0_1 yl_1
  have hz := hb.size
  have HBq : Below w.heap.size w w2 := HB.out.trans (hb.mono HB.out.size)
  have HB := Lib.hid HBq
  have PB2 := Lib.hid pb
  clear HBq hb pb
  unfold maxLen at l3
  have L0 : (0 : Int) ≤ (L : Int) := by omega
  have PB3 : Hid (∀ o, PB (w2.alloc o).drew g cap L A) := Lib.hid fun o => PB.drew (PB2.out.below ((Below.refl _ _).alloc (Nat.le_refl _) _))
  have q1 : ∀ o, (w2.alloc o).drew.cell? ⟨w.heap.size + 1, 0, none⟩ = some (.int .i64 d) := fun o => ca (w := w2) (by assumption)
  have Q1 := Lib.hid q1
  clear q1
  go_wp2_with fail
  go_region_held3 (fun w' => w'.cell? ⟨w2.heap.size, 0, none⟩ = some (.slice (some ⟨g, 0, none⟩) L c))
    ((first | assumption | (with_reducible exact bc hb (by first | assumption | (simp; done))) | (simp; done)))
    (first | (go_at_call 63; refine (search_any _ _ g c cap L A d _ (by omega) l1 (by omega) (by simp) (Q1.out _) (PB3.out _)).mono ?_; rintro e v1 ⟨⟨r, rfl⟩, hb⟩))
  have HBq : Below w.heap.size w v1 := Below.trans (Below.drew (HB.out.alloc (by have := HB.out.size; omega) _)) (hb.mono (by have := HB.out.size; simp; omega))
  have HB := Lib.hid HBq
  go_wp2
  refine bodyPost_ret (v := .tuple #[.slice (some ⟨g, 0, none⟩) L c, .int .i64 r, .bool true]) (by simp [results, Tryd.results49, go_sem]) rfl ⟨⟨_, _, by rw [HR.out]; rfl⟩, HB.out⟩
end Go.Proofs.YtoidghdgebdfaaaDoor
