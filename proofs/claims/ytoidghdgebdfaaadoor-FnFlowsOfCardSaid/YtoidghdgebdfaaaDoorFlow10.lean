/- Bonds: LifeOf. -/
import Derived.Test.YtoidghdgebdfaaaDoorFlow9
namespace Go.Proofs.YtoidghdgebdfaaaDoor
open Go.RowKit
set_option linter.unusedVariables false
/-- amounts times days -/
def sumD (A : Nat → Int × Int) (d : Int) : Nat → Int
  | 0 => 0
  | n + 1 => sumD A d n + (A n).2 * ((A n).1 - d)
/-- what is known of the payments behind a day -/
structure GOk (A : Nat → Int × Int) (d : Int) (n : Nat) : Prop where
  le : n ≤ 40
  day : ∀ j, j < n → 0 ≤ (A j).1 - d ∧ (A j).1 - d ≤ 36524
  amt : ∀ j, j < n → 0 ≤ (A j).2 ∧ (A j).2 ≤ 200010000
theorem gterm {A : Nat → Int × Int} {d : Int} {n : Nat} (h : GOk A d n) {k : Nat} (hk : k < n) : 0 ≤ (A k).2 * ((A k).1 - d) ∧ (A k).2 * ((A k).1 - d) ≤ 200010000 * 36524 := by
  obtain ⟨c, e⟩ := h.amt k hk
  obtain ⟨f, g⟩ := h.day k hk
  exact ⟨Int.mul_nonneg c f, Int.mul_le_mul e g f (by decide)⟩
theorem sums_bd {A : Nat → Int × Int} {d : Int} {n : Nat} (h : GOk A d n) : ∀ k, k ≤ n → (0 ≤ sumF A k ∧ sumF A k ≤ 200010000 * (k : Int)) ∧ 0 ≤ sumD A d k ∧ sumD A d k ≤ 200010000 * 36524 * (k : Int)
  | 0, _ => by simp [sumF, sumD]
  | k + 1, hk => by
    obtain ⟨⟨a, b⟩, a', b'⟩ := sums_bd h k (by omega)
    obtain ⟨c, e⟩ := h.amt k (by omega)
    obtain ⟨f, g⟩ := gterm h (show k < n by omega)
    unfold sumF sumD
    omega
theorem sumF_last {A : Nat → Int × Int} {d : Int} {n : Nat} (h : GOk A d (n + 1)) (hl : 10000 ≤ (A n).2) : 1 ≤ sumF A (n + 1) := by
  have := (sums_bd h n (by omega)).1.1
  unfold sumF
  omega
/-- behind a day that is before the end there is the last payment -/
theorem af_ok {s e m r d : Int} (h : runB s e m r d = true) : GOk (afF s e m r d) d (afL s e m r d) ∧ 1 ≤ afL s e m r d ∧ 10000 ≤ (afF s e m r d (afL s e m r d - 1)).2 := by
  unfold runB at h
  rw [Bool.and_eq_true] at h
  obtain ⟨hb, hd⟩ := h
  obtain ⟨d0, d1⟩ := inR_true.1 hd
  have ok := fl_ok s e m r
  obtain ⟨hr, hm, ⟨s0, s1, e1⟩, hs, hn, h1, h2⟩ := bd_facts hb
  obtain ⟨l, hl⟩ : ∃ l, schL s e m = l + 1 := ⟨schL s e m - 1, by omega⟩
  have hL : flL s e m r = l + 1 := by rw [flL_yes hb, hl]
  have hday : (flF s e m r l).1 = e := by
    unfold flF fA perA
    rw [hl]
    exact (per_last (l := l) hs).1
  have hamt : 10000 ≤ (flF s e m r l).2 := by
    have hp := per_ok hs
    rw [hn, hl] at hp
    obtain ⟨p0, p1, p2⟩ := hp l (by omega)
    have := (cpn_bd (m := m) (r := r) (W := (perA s e m (l + 1) l).2.2) hm hr p0 p1 p2).1
    unfold flF fA
    rw [hl, if_pos rfl]
    simp only
    omega
  unfold afF afL afK
  rw [hL] at ok ⊢
  obtain ⟨k1, k2⟩ := cutK_facts (flF s e m r) d (l + 1) ok.asc
  have hK := (k2 l (by omega)).1 (by rw [hday]; omega)
  generalize cutK (flF s e m r) d (l + 1) = K at *
  refine ⟨⟨by have := ok.le; omega, fun j hj => ?_, fun j hj => ok.amt _ (by omega)⟩, by omega, ?_⟩
  · have a := (k2 (K + j) (by omega)).2 (by omega)
    have b := ok.day (K + j) (by omega)
    omega
  · rw [show K + (l + 1 - K - 1) = l by omega]
    exact hamt
noncomputable def lifV (s e m r d : Int) : Int := if runB s e m r d = true then sumD (afF s e m r d) d (afL s e m r d) / sumF (afF s e m r d) (afL s e m r d) else -1
set_option maxHeartbeats 2000000 in
theorem lifeOfS0_any (v : Value) (b L : Nat) (A : Nat → Int × Int) (d : Int) (w : World) (hok : GOk A d L) (hpos : 1 ≤ L) (hd : -10000000 ≤ d ∧ d ≤ 10000000) (hv : FV w b v L A) :
    Calls Tryd.prog 48 #[v, .int .i64 d] w fun e w' => e = .returned (.tuple #[.int .i64 (sumD A d L), .int .i64 (sumF A L)]) ∧ Below w.heap.size w w' := by
  have hL := hok.le
  obtain ⟨dd0, dd1⟩ := hd
  have HS := Lib.hid (fun k hk => sums_bd hok k hk)
  have HOK := Lib.hid hok
  clear hok
  rcases hv with ⟨h0, _⟩ | ⟨_, g, c, cap, rfl, b1, c1, c2, fb⟩
  · omega
  have hg := fb.lt
  have FB1 := Lib.hid fb
  clear fb
  go_enter Tryd.func48, Tryd.ntmps48
  go_wp2_with fail
  go_loopw [6, 7, 8] (fun x y i wr => ∃ t : Nat, t ≤ L ∧ i = .int .i64 t ∧ x = .int .i64 (sumD A d t) ∧ y = .int .i64 (sumF A t) ∧ Below w.heap.size w wr) (fun _ _ i _ => L - (intOf i).toNat)
  case atStart => exact ⟨0, Nat.zero_le _, rfl, rfl, rfl, Below.refl _ _⟩
  case round =>
    obtain ⟨t, ht, rfl, rfl, rfl, hbel⟩ := hrel
    have HBL := Lib.hid hbel
    by_cases hlt : t < L
    · obtain ⟨⟨p0, p1⟩, _⟩ := (FB1.out.fwd hbel hg).cells hlt
      obtain ⟨⟨s0, s1⟩, s2, s3⟩ := HS.out t (by omega)
      obtain ⟨a0, a1⟩ := HOK.out.amt t hlt
      obtain ⟨y0, y1⟩ := HOK.out.day t hlt
      obtain ⟨z0, z1⟩ := gterm HOK.out hlt
      have i0 : (0 : Int) ≤ (t : Int) := by omega
      have i1 : (t : Int) < (L : Int) := by omega
      have HE : Hid (sumF A (t + 1) = sumF A t + (A t).2) := Lib.hid rfl
      have HE2 : Hid (sumD A d (t + 1) = sumD A d t + (A t).2 * ((A t).1 - d)) := Lib.hid rfl
      have wr1 : IntKind.i64.wrap ((A t).1 - d) = (A t).1 - d := IntWalk.i64_in _ (by omega)
      have wr2 : IntKind.i64.wrap ((A t).2 * ((A t).1 - d)) = (A t).2 * ((A t).1 - d) := IntWalk.i64_in _ (by omega)
      have wr3 : IntKind.i64.wrap (sumD A d t + (A t).2 * ((A t).1 - d)) = sumD A d t + (A t).2 * ((A t).1 - d) := IntWalk.i64_in _ (by omega)
      generalize (A t).1 = x at *
      generalize (A t).2 = y at *
      generalize sumF A t = z at *
      generalize sumD A d t = u at *
      clear hbel
      go_wp2_with fail
      go_quiet (fail)
      clear wr1 wr2 wr3
      go_wp2
      go_roundw
      case rel => exact ⟨t + 1, by omega, by go_num, by rw [HE2.out], by rw [HE.out], bel_drewN _ HBL.out⟩
      case measure => first | (simp [intOf]; done) | (simp [intOf]; omega)
    · obtain rfl : t = L := by omega
      go_wp2
      go_ret2
      exact ⟨rfl, HBL.out⟩
set_option maxHeartbeats 4000000 in
theorem lifeOfS_any (s e m r d : Int) (w : World) (hM : MD w) :
    Calls Tryd.prog 33 #[.agg #[.int .i64 s, .int .i64 e, .int .i64 m, .int .i64 r], .int .i64 d] w fun ed w' => ed = .returned (.int .i64 (lifV s e m r d)) ∧ Below w.heap.size w w' := by
  have hM1 := hM.size
  have HM := Lib.hid hM
  clear hM
  cases h : runB s e m r d
  · have HV : Hid (lifV s e m r d = -1) := Lib.hid (by unfold lifV; rw [if_neg (by rw [h]; simp)])
    go_enter Tryd.func33, Tryd.ntmps33
    have HB := Lib.hid (Below.refl w.heap.size w)
    go_wp2_with fail
    refine (runningS_any s e m r d _).mono ?_
    rintro e w1 ⟨rfl, hb⟩
    have b0_1 : w1.cell? ⟨w.heap.size, 0, none⟩ = some (.int .i64 s) := bc hb (by first | (simp; done) | go_simp)
    have b1_1 : w1.cell? ⟨w.heap.size, 1, none⟩ = some (.int .i64 e) := bc hb (by first | (simp; done) | go_simp)
    have b2_1 : w1.cell? ⟨w.heap.size, 2, none⟩ = some (.int .i64 m) := bc hb (by first | (simp; done) | go_simp)
    have b3_1 : w1.cell? ⟨w.heap.size, 3, none⟩ = some (.int .i64 r) := bc hb (by first | (simp; done) | go_simp)
    have bl_1 : w.heap.size < w1.heap.size := cell_lt b0_1
    have hszw1 := below_size hb
    try simp at hszw1
    have HBq : Below w.heap.size w w1 := Below.trans (by repeat (first | exact Below.refl _ _ | exact HB.out | refine Below.drew ?_ | refine bel_drewN _ ?_ | refine Below.alloc ?_ (by first | omega | (simp; done) | (simp; omega)) _ | refine Below.setCell ?_ (by first | (show _ ≤ _; omega) | (simp; done) | (simp; omega)) _)) (hb.mono (by first | omega | (simp; done) | (simp; omega)))
    have HB := Lib.hid HBq
    clear HBq hb
    go_wp2
    go_ret
    exact ⟨ret_int (by rw [HV.out]), HB.out⟩
  · have HV : Hid (lifV s e m r d = sumD (afF s e m r d) d (afL s e m r d) / sumF (afF s e m r d) (afL s e m r d)) := Lib.hid (by unfold lifV; rw [if_pos h])
    obtain ⟨gok, hp, hlast⟩ := af_ok h
    have hdd : -10000000 ≤ d ∧ d ≤ 10000000 := by
      unfold runB at h
      rw [Bool.and_eq_true] at h
      obtain ⟨_, _, ⟨s0, s1, e1⟩, _⟩ := bd_facts h.1
      have := inR_true.1 h.2
      omega
    have HD := Lib.hid hdd
    clear hdd
    have HC : Hid (∀ W : World, MD W → Calls Tryd.prog 31 #[.agg #[.int .i64 s, .int .i64 e, .int .i64 m, .int .i64 r], .int .i64 d] W (FlAf s e m r d W)) := Lib.hid fun W hW => flowsAfterS_any s e m r d W hW
    unfold FlAf at HC
    generalize afL s e m r d = L at *
    generalize afF s e m r d = A at *
    generalize lifV s e m r d = V at *
    obtain ⟨l, rfl⟩ : ∃ l, L = l + 1 := ⟨L - 1, by omega⟩
    have hs1 := sumF_last gok (by simpa using hlast)
    obtain ⟨⟨_, hs2⟩, hs3, hs4⟩ := sums_bd gok (l + 1) (Nat.le_refl _)
    have hle := gok.le
    have HG := Lib.hid gok
    have HSS := Lib.hid (fun k hk => sums_bd gok k hk)
    clear gok hlast
    go_enter Tryd.func33, Tryd.ntmps33
    have HB := Lib.hid (Below.refl w.heap.size w)
    go_wp2_with fail
    refine (runningS_any s e m r d _).mono ?_
    rintro e w1 ⟨rfl, hb⟩
    have b0_1 : w1.cell? ⟨w.heap.size, 0, none⟩ = some (.int .i64 s) := bc hb (by first | (simp; done) | go_simp)
    have b1_1 : w1.cell? ⟨w.heap.size, 1, none⟩ = some (.int .i64 e) := bc hb (by first | (simp; done) | go_simp)
    have b2_1 : w1.cell? ⟨w.heap.size, 2, none⟩ = some (.int .i64 m) := bc hb (by first | (simp; done) | go_simp)
    have b3_1 : w1.cell? ⟨w.heap.size, 3, none⟩ = some (.int .i64 r) := bc hb (by first | (simp; done) | go_simp)
    have bl_1 : w.heap.size < w1.heap.size := cell_lt b0_1
    have hszw1 := below_size hb
    try simp at hszw1
    have HBq : Below w.heap.size w w1 := Below.trans (by repeat (first | exact Below.refl _ _ | exact HB.out | refine Below.drew ?_ | refine bel_drewN _ ?_ | refine Below.alloc ?_ (by first | omega | (simp; done) | (simp; omega)) _ | refine Below.setCell ?_ (by first | (show _ ≤ _; omega) | (simp; done) | (simp; omega)) _)) (hb.mono (by first | omega | (simp; done) | (simp; omega)))
    have HB := Lib.hid HBq
    clear HBq hb
    go_wp2_with fail
    refine (HC.out _ (by exact HM.out.fwd (by repeat (first | exact Below.refl _ _ | exact HB.out.mono hM1 | refine Below.drew ?_ | refine bel_drewN _ ?_ | refine Below.alloc ?_ (by first | omega | (simp; done) | (simp; omega)) _ | refine Below.setCell ?_ (by first | (show _ ≤ _; omega) | (simp; done) | (simp; omega)) _)))).mono ?_
    rintro ed w2 ⟨v, rfl, hv, hb⟩
    have HVV := Lib.hid hv
    have HB2 : Hid (Below w.heap.size w w2) := HB.out.trans (hb.mono HB.out.size)
    have HB := HB2
    clear HB2 hb hv
    go_wp2_with fail
    refine (lifeOfS0_any _ _ _ _ d _ HG.out (by omega) HD.out HVV.out).mono ?_
    rintro ed w3 ⟨rfl, hb⟩
    have HB2 : Hid (Below w.heap.size w w3) := HB.out.trans (hb.mono HB.out.size)
    generalize sumD A d (l + 1) = x at *
    generalize sumF A (l + 1) = y at *
    clear hb
    go_wp2
    go_ret
    exact ⟨ret_int (by rw [HV.out]), HB2.out⟩
set_option maxHeartbeats 4000000 in
theorem lifeOfI_any (s e m r d : Int) (w : World) (hM : MD w) :
    Calls Tryd.prog 34 #[.agg #[.int .i64 s, .int .i64 e, .int .i64 m, .int .i64 r], .int .i64 d] w fun ed w' => ed = .returned (.int .i64 (lifV s e m r d)) ∧ Below w.heap.size w w' := by
  have hM1 := hM.size
  have HM := Lib.hid hM
  clear hM
  cases h : runB s e m r d
  · have HV : Hid (lifV s e m r d = -1) := Lib.hid (by unfold lifV; rw [if_neg (by rw [h]; simp)])
    go_enter Tryd.func34, Tryd.ntmps34
    have HB := Lib.hid (Below.refl w.heap.size w)
    go_wp2_with fail
    refine (runningI_any s e m r d _ (by exact HM.out.fwd (by repeat (first | exact Below.refl _ _ | exact HB.out.mono hM1 | refine Below.drew ?_ | refine bel_drewN _ ?_ | refine Below.alloc ?_ (by first | omega | (simp; done) | (simp; omega)) _ | refine Below.setCell ?_ (by first | (show _ ≤ _; omega) | (simp; done) | (simp; omega)) _)))).mono ?_
    rintro ed w1 ⟨⟨rv, ri, rfl⟩, hb⟩
    have b0_1 : w1.cell? ⟨w.heap.size, 0, none⟩ = some (.int .i64 s) := bc hb (by first | (simp; done) | go_simp)
    have b1_1 : w1.cell? ⟨w.heap.size, 1, none⟩ = some (.int .i64 e) := bc hb (by first | (simp; done) | go_simp)
    have b2_1 : w1.cell? ⟨w.heap.size, 2, none⟩ = some (.int .i64 m) := bc hb (by first | (simp; done) | go_simp)
    have b3_1 : w1.cell? ⟨w.heap.size, 3, none⟩ = some (.int .i64 r) := bc hb (by first | (simp; done) | go_simp)
    have bl_1 : w.heap.size < w1.heap.size := cell_lt b0_1
    have hszw1 := below_size hb
    try simp at hszw1
    have HBq : Below w.heap.size w w1 := Below.trans (by repeat (first | exact Below.refl _ _ | exact HB.out | refine Below.drew ?_ | refine bel_drewN _ ?_ | refine Below.alloc ?_ (by first | omega | (simp; done) | (simp; omega)) _ | refine Below.setCell ?_ (by first | (show _ ≤ _; omega) | (simp; done) | (simp; omega)) _)) (hb.mono (by first | omega | (simp; done) | (simp; omega)))
    have HB := Lib.hid HBq
    clear HBq hb
    go_wp2
    go_ret
    exact ⟨ret_int (by rw [HV.out]), HB.out⟩
  · have HV : Hid (lifV s e m r d = sumD (afF s e m r d) d (afL s e m r d) / sumF (afF s e m r d) (afL s e m r d)) := Lib.hid (by unfold lifV; rw [if_pos h])
    obtain ⟨gok, hp, hlast⟩ := af_ok h
    have hdd : -10000000 ≤ d ∧ d ≤ 10000000 := by
      unfold runB at h
      rw [Bool.and_eq_true] at h
      obtain ⟨_, _, ⟨s0, s1, e1⟩, _⟩ := bd_facts h.1
      have := inR_true.1 h.2
      omega
    have HD := Lib.hid hdd
    clear hdd
    have HC : Hid (∀ W : World, MD W → Calls Tryd.prog 32 #[.agg #[.int .i64 s, .int .i64 e, .int .i64 m, .int .i64 r], .int .i64 d] W (FlAf s e m r d W)) := Lib.hid fun W hW => flowsAfterI_any s e m r d W hW
    unfold FlAf at HC
    generalize afL s e m r d = L at *
    generalize afF s e m r d = A at *
    generalize lifV s e m r d = V at *
    obtain ⟨l, rfl⟩ : ∃ l, L = l + 1 := ⟨L - 1, by omega⟩
    have hs1 := sumF_last gok (by simpa using hlast)
    obtain ⟨⟨_, hs2⟩, hs3, hs4⟩ := sums_bd gok (l + 1) (Nat.le_refl _)
    have hle := gok.le
    have HG := Lib.hid gok
    have HSS := Lib.hid (fun k hk => sums_bd gok k hk)
    clear gok hlast
    go_enter Tryd.func34, Tryd.ntmps34
    have HB := Lib.hid (Below.refl w.heap.size w)
    go_wp2_with fail
    refine (runningI_any s e m r d _ (by exact HM.out.fwd (by repeat (first | exact Below.refl _ _ | exact HB.out.mono hM1 | refine Below.drew ?_ | refine bel_drewN _ ?_ | refine Below.alloc ?_ (by first | omega | (simp; done) | (simp; omega)) _ | refine Below.setCell ?_ (by first | (show _ ≤ _; omega) | (simp; done) | (simp; omega)) _)))).mono ?_
    rintro ed w1 ⟨⟨rv, ri, rfl⟩, hb⟩
    have b0_1 : w1.cell? ⟨w.heap.size, 0, none⟩ = some (.int .i64 s) := bc hb (by first | (simp; done) | go_simp)
    have b1_1 : w1.cell? ⟨w.heap.size, 1, none⟩ = some (.int .i64 e) := bc hb (by first | (simp; done) | go_simp)
    have b2_1 : w1.cell? ⟨w.heap.size, 2, none⟩ = some (.int .i64 m) := bc hb (by first | (simp; done) | go_simp)
    have b3_1 : w1.cell? ⟨w.heap.size, 3, none⟩ = some (.int .i64 r) := bc hb (by first | (simp; done) | go_simp)
    have bl_1 : w.heap.size < w1.heap.size := cell_lt b0_1
    have hszw1 := below_size hb
    try simp at hszw1
    have HBq : Below w.heap.size w w1 := Below.trans (by repeat (first | exact Below.refl _ _ | exact HB.out | refine Below.drew ?_ | refine bel_drewN _ ?_ | refine Below.alloc ?_ (by first | omega | (simp; done) | (simp; omega)) _ | refine Below.setCell ?_ (by first | (show _ ≤ _; omega) | (simp; done) | (simp; omega)) _)) (hb.mono (by first | omega | (simp; done) | (simp; omega)))
    have HB := Lib.hid HBq
    clear HBq hb
    go_wp2_with fail
    refine (HC.out _ (by exact HM.out.fwd (by repeat (first | exact Below.refl _ _ | exact HB.out.mono hM1 | refine Below.drew ?_ | refine bel_drewN _ ?_ | refine Below.alloc ?_ (by first | omega | (simp; done) | (simp; omega)) _ | refine Below.setCell ?_ (by first | (show _ ≤ _; omega) | (simp; done) | (simp; omega)) _)))).mono ?_
    rintro ed w2 ⟨v, rfl, hv, hb⟩
    have HVV := Lib.hid hv
    have HB2 : Hid (Below w.heap.size w w2) := HB.out.trans (hb.mono HB.out.size)
    have HB := HB2
    clear HB2 hb hv
    rcases HVV.out with ⟨h0, _⟩ | ⟨_, g, c, cap, rfl, b1, c1, c2, fb⟩
    · omega
    have hg := fb.lt
    have FB1 := Lib.hid fb
    obtain ⟨dd0, dd1⟩ := HD.out
    clear fb
    go_wp2_with fail
    go_loopw [8, 9, 25] (fun x y i wr => ∃ t : Nat, t ≤ l + 1 ∧ i = .int .i64 t ∧ x = .int .i64 (sumD A d t) ∧ y = .int .i64 (sumF A t) ∧ Below w2.heap.size w2 wr) (fun _ _ i _ => l + 1 - (intOf i).toNat)
    case atStart => exact ⟨0, Nat.zero_le _, rfl, rfl, rfl, Below.refl _ _⟩
    case round =>
      obtain ⟨t, ht, rfl, rfl, rfl, hbel⟩ := hrel
      have HBL := Lib.hid hbel
      have hs9 := hbel.size
      by_cases hlt : t < l + 1
      · obtain ⟨⟨p0, p1⟩, _⟩ := (FB1.out.fwd hbel hg).cells hlt
        obtain ⟨⟨s0, s1⟩, s2, s3⟩ := HSS.out t (by omega)
        obtain ⟨a0, a1⟩ := HG.out.amt t hlt
        obtain ⟨y0, y1⟩ := HG.out.day t hlt
        obtain ⟨z0, z1⟩ := gterm HG.out hlt
        have i0 : (0 : Int) ≤ (t : Int) := by omega
        have i1 : (t : Int) < (l : Int) + 1 := by omega
        have HE : Hid (sumF A (t + 1) = sumF A t + (A t).2) := Lib.hid rfl
        have HE2 : Hid (sumD A d (t + 1) = sumD A d t + (A t).2 * ((A t).1 - d)) := Lib.hid rfl
        generalize (A t).1 = x at *
        generalize (A t).2 = y at *
        generalize sumF A t = z at *
        generalize sumD A d t = u at *
        clear hbel
        go_wp2
        go_roundw
        case rel => exact ⟨t + 1, by omega, by go_num, by rw [HE2.out], by rw [HE.out], HBL.out.alloc (by omega) _⟩
        case measure => first | (simp [intOf]; done) | (simp [intOf]; omega)
      · obtain rfl : t = l + 1 := by omega
        have HB2 : Hid (Below w.heap.size w wr) := HB.out.trans (HBL.out.mono HB.out.size)
        generalize sumD A d (l + 1) = x at *
        generalize sumF A (l + 1) = y at *
        clear hbel
        go_wp2
        go_ret
        exact ⟨ret_int (by rw [HV.out]), HB2.out⟩
theorem fnExactLifeOf_walk (s e m r d : Int) (w : World) (hM : MD w) (_w0 : True) (_w1 : (Lit.int .i64 d).wf = true) :
    Calls Tryd.prog 12 #[.agg #[.int .i64 s, .int .i64 e, .int .i64 m, .int .i64 r], .int .i64 d] w fun ed w' => ed = .returned (.bool true) ∧ Below w.heap.size w w' := by
  have hM1 := hM.size
  have HM := Lib.hid hM
  clear hM _w1
  go_enter Tryd.func12, Tryd.ntmps12
  have HB := Lib.hid (Below.refl w.heap.size w)
  go_wp2_with fail
  refine (toBond_any s e m r _).mono ?_
  rintro e w1 ⟨rfl, hb⟩
  have x0_1 : w1.cell? ⟨w.heap.size, 0, none⟩ = some (.int .i64 s) := bc hb (by first | (simp; done) | go_simp)
  have x1_1 : w1.cell? ⟨w.heap.size, 1, none⟩ = some (.int .i64 e) := bc hb (by first | (simp; done) | go_simp)
  have x2_1 : w1.cell? ⟨w.heap.size, 2, none⟩ = some (.int .i64 m) := bc hb (by first | (simp; done) | go_simp)
  have x3_1 : w1.cell? ⟨w.heap.size, 3, none⟩ = some (.int .i64 r) := bc hb (by first | (simp; done) | go_simp)
  have xl_1 : w.heap.size < w1.heap.size := cell_lt x0_1
  have hszw1 := below_size hb
  try simp at hszw1
  have HBq : Below w.heap.size w w1 := Below.trans (by repeat (first | exact Below.refl _ _ | exact HB.out | refine Below.drew ?_ | refine bel_drewN _ ?_ | refine Below.alloc ?_ (by first | omega | (simp; done) | (simp; omega)) _ | refine Below.setCell ?_ (by first | (show _ ≤ _; omega) | (simp; done) | (simp; omega)) _)) (hb.mono (by first | omega | (simp; done) | (simp; omega)))
  have HB := Lib.hid HBq
  clear HBq hb
  go_wp2_with fail
  refine (lifeOfS_any s e m r d _ (by exact HM.out.fwd (by repeat (first | exact Below.refl _ _ | exact HB.out.mono hM1 | refine Below.drew ?_ | refine bel_drewN _ ?_ | refine Below.alloc ?_ (by first | omega | (simp; done) | (simp; omega)) _ | refine Below.setCell ?_ (by first | (show _ ≤ _; omega) | (simp; done) | (simp; omega)) _)))).mono ?_
  rintro e w2 ⟨rfl, hb⟩
  have x0_2 : w2.cell? ⟨w.heap.size, 0, none⟩ = some (.int .i64 s) := bc hb (by first | exact x0_1 | exact ca x0_1 | exact ca (ca x0_1) | exact ca (ca (ca x0_1)) | (simp; done) | go_simp)
  have x1_2 : w2.cell? ⟨w.heap.size, 1, none⟩ = some (.int .i64 e) := bc hb (by first | exact x1_1 | exact ca x1_1 | exact ca (ca x1_1) | exact ca (ca (ca x1_1)) | (simp; done) | go_simp)
  have x2_2 : w2.cell? ⟨w.heap.size, 2, none⟩ = some (.int .i64 m) := bc hb (by first | exact x2_1 | exact ca x2_1 | exact ca (ca x2_1) | exact ca (ca (ca x2_1)) | (simp; done) | go_simp)
  have x3_2 : w2.cell? ⟨w.heap.size, 3, none⟩ = some (.int .i64 r) := bc hb (by first | exact x3_1 | exact ca x3_1 | exact ca (ca x3_1) | exact ca (ca (ca x3_1)) | (simp; done) | go_simp)
  have xl_2 : w.heap.size < w2.heap.size := cell_lt x0_2
  clear x0_1 x1_1 x2_1 x3_1 xl_1
  have hszw2 := below_size hb
  try simp at hszw2
  have HBq : Below w.heap.size w w2 := Below.trans (by repeat (first | exact Below.refl _ _ | exact HB.out | refine Below.drew ?_ | refine bel_drewN _ ?_ | refine Below.alloc ?_ (by first | omega | (simp; done) | (simp; omega)) _ | refine Below.setCell ?_ (by first | (show _ ≤ _; omega) | (simp; done) | (simp; omega)) _)) (hb.mono (by first | omega | (simp; done) | (simp; omega)))
  have HB := Lib.hid HBq
  clear HBq hb
  go_wp2_with fail
  refine (toBond_any s e m r _).mono ?_
  rintro e w3 ⟨rfl, hb⟩
  have x0_3 : w3.cell? ⟨w.heap.size, 0, none⟩ = some (.int .i64 s) := bc hb (by first | exact x0_2 | exact ca x0_2 | exact ca (ca x0_2) | exact ca (ca (ca x0_2)) | (simp; done) | go_simp)
  have x1_3 : w3.cell? ⟨w.heap.size, 1, none⟩ = some (.int .i64 e) := bc hb (by first | exact x1_2 | exact ca x1_2 | exact ca (ca x1_2) | exact ca (ca (ca x1_2)) | (simp; done) | go_simp)
  have x2_3 : w3.cell? ⟨w.heap.size, 2, none⟩ = some (.int .i64 m) := bc hb (by first | exact x2_2 | exact ca x2_2 | exact ca (ca x2_2) | exact ca (ca (ca x2_2)) | (simp; done) | go_simp)
  have x3_3 : w3.cell? ⟨w.heap.size, 3, none⟩ = some (.int .i64 r) := bc hb (by first | exact x3_2 | exact ca x3_2 | exact ca (ca x3_2) | exact ca (ca (ca x3_2)) | (simp; done) | go_simp)
  have xl_3 : w.heap.size < w3.heap.size := cell_lt x0_3
  clear x0_2 x1_2 x2_2 x3_2 xl_2
  have hszw3 := below_size hb
  try simp at hszw3
  have HBq : Below w.heap.size w w3 := Below.trans (by repeat (first | exact Below.refl _ _ | exact HB.out | refine Below.drew ?_ | refine bel_drewN _ ?_ | refine Below.alloc ?_ (by first | omega | (simp; done) | (simp; omega)) _ | refine Below.setCell ?_ (by first | (show _ ≤ _; omega) | (simp; done) | (simp; omega)) _)) (hb.mono (by first | omega | (simp; done) | (simp; omega)))
  have HB := Lib.hid HBq
  clear HBq hb
  go_wp2_with fail
  refine (lifeOfI_any s e m r d _ (by exact HM.out.fwd (by repeat (first | exact Below.refl _ _ | exact HB.out.mono hM1 | refine Below.drew ?_ | refine bel_drewN _ ?_ | refine Below.alloc ?_ (by first | omega | (simp; done) | (simp; omega)) _ | refine Below.setCell ?_ (by first | (show _ ≤ _; omega) | (simp; done) | (simp; omega)) _)))).mono ?_
  rintro e w4 ⟨rfl, hb⟩
  have x0_4 : w4.cell? ⟨w.heap.size, 0, none⟩ = some (.int .i64 s) := bc hb (by first | exact x0_3 | exact ca x0_3 | exact ca (ca x0_3) | exact ca (ca (ca x0_3)) | (simp; done) | go_simp)
  have x1_4 : w4.cell? ⟨w.heap.size, 1, none⟩ = some (.int .i64 e) := bc hb (by first | exact x1_3 | exact ca x1_3 | exact ca (ca x1_3) | exact ca (ca (ca x1_3)) | (simp; done) | go_simp)
  have x2_4 : w4.cell? ⟨w.heap.size, 2, none⟩ = some (.int .i64 m) := bc hb (by first | exact x2_3 | exact ca x2_3 | exact ca (ca x2_3) | exact ca (ca (ca x2_3)) | (simp; done) | go_simp)
  have x3_4 : w4.cell? ⟨w.heap.size, 3, none⟩ = some (.int .i64 r) := bc hb (by first | exact x3_3 | exact ca x3_3 | exact ca (ca x3_3) | exact ca (ca (ca x3_3)) | (simp; done) | go_simp)
  have xl_4 : w.heap.size < w4.heap.size := cell_lt x0_4
  clear x0_3 x1_3 x2_3 x3_3 xl_3
  have hszw4 := below_size hb
  try simp at hszw4
  have HBq : Below w.heap.size w w4 := Below.trans (by repeat (first | exact Below.refl _ _ | exact HB.out | refine Below.drew ?_ | refine bel_drewN _ ?_ | refine Below.alloc ?_ (by first | omega | (simp; done) | (simp; omega)) _ | refine Below.setCell ?_ (by first | (show _ ≤ _; omega) | (simp; done) | (simp; omega)) _)) (hb.mono (by first | omega | (simp; done) | (simp; omega)))
  have HB := Lib.hid HBq
  clear HBq hb
  go_wp2
  go_ret
  exact ⟨rfl, HB.out⟩
end Go.Proofs.YtoidghdgebdfaaaDoor
