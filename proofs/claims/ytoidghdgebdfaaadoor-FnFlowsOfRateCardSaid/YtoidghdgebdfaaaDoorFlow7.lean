/- Bonds: totals; the next payment. -/
import Derived.Test.YtoidghdgebdfaaaDoorFlow6
namespace Go.Proofs.YtoidghdgebdfaaaDoor
open Go.RowKit
set_option linter.unusedVariables false
def sumF (A : Nat → Int × Int) : Nat → Int
  | 0 => 0
  | n + 1 => sumF A n + (A n).2
theorem sumF_bd {A : Nat → Int × Int} {n : Nat} (h : FOk A n) : ∀ k, k ≤ n → 0 ≤ sumF A k ∧ sumF A k ≤ 200010000 * (k : Int)
  | 0, _ => by simp [sumF]
  | k + 1, hk => by
    obtain ⟨a, b⟩ := sumF_bd h k (by omega)
    obtain ⟨c, d⟩ := h.amt k (by omega)
    unfold sumF
    omega
noncomputable def totV (s e m r : Int) : Int := if bdB s e m r = true then sumF (flF s e m r) (flL s e m r) else -1
set_option maxHeartbeats 2000000 in
theorem totalOfS_any (s e m r : Int) (w : World) (hM : MD w) :
    Calls Tryd.prog 13 #[.agg #[.int .i64 s, .int .i64 e, .int .i64 m, .int .i64 r]] w fun ed w' => ed = .returned (.int .i64 (totV s e m r)) ∧ Below w.heap.size w w' := by
  have hM1 := hM.size
  have HM := Lib.hid hM
  clear hM
  unfold totV
  cases h : bdB s e m r
  · go_enter Tryd.func13, Tryd.ntmps13
    have HB := Lib.hid (Below.refl w.heap.size w)
    go_wp2_with fail
    refine (validBondS_any s e m r _).mono ?_
    rintro e w1 ⟨rfl, hb⟩
    have b0_1 : w1.cell? ⟨w.heap.size, 0, none⟩ = some (.int .i64 s) := bc hb (by first | (simp; done) | go_simp)
    have b1_1 : w1.cell? ⟨w.heap.size, 1, none⟩ = some (.int .i64 e) := bc hb (by first | (simp; done) | go_simp)
    have b2_1 : w1.cell? ⟨w.heap.size, 2, none⟩ = some (.int .i64 m) := bc hb (by first | (simp; done) | go_simp)
    have b3_1 : w1.cell? ⟨w.heap.size, 3, none⟩ = some (.int .i64 r) := bc hb (by first | (simp; done) | go_simp)
    have bl_1 : w.heap.size < w1.heap.size := cell_lt b0_1
    have hszw1 := below_size hb
    try simp at hszw1
    have HBq : Below w.heap.size w w1 := Below.trans (by repeat (first | exact Below.refl _ _ | exact HB.out | refine Below.drew ?_ | refine bel_drewN _ ?_ | refine Below.alloc ?_ (by first | omega | (simp; done) | (simp; omega)) _ | refine Below.setCell ?_ (by first | (show _ ≤ _; omega) | (simp; done) | (simp; omega)) _)) (hb.mono (by first | omega | (simp; done) | (simp; omega)))
    have HB := Lib.hid HBq
    clear HBq hb
    go_wp2
    go_ret
    exact ⟨rfl, HB.out⟩
  · have HF : Hid (∀ W : World, MD W → Calls Tryd.prog 36 #[.agg #[.int .i64 s, .int .i64 e, .int .i64 m, .int .i64 r]] W (FlOf s e m r W)) := Lib.hid fun W hW => flS_ok s e m r h W hW
    have ok := fl_ok s e m r
    unfold FlOf at HF
    generalize flL s e m r = L at *
    generalize flF s e m r = A at *
    have hL := ok.le
    have HS := Lib.hid (fun k hk => sumF_bd ok k hk)
    have HOK := Lib.hid ok
    clear ok
    go_enter Tryd.func13, Tryd.ntmps13
    have HB := Lib.hid (Below.refl w.heap.size w)
    go_wp2_with fail
    refine (validBondS_any s e m r _).mono ?_
    rintro e w1 ⟨rfl, hb⟩
    have b0_1 : w1.cell? ⟨w.heap.size, 0, none⟩ = some (.int .i64 s) := bc hb (by first | (simp; done) | go_simp)
    have b1_1 : w1.cell? ⟨w.heap.size, 1, none⟩ = some (.int .i64 e) := bc hb (by first | (simp; done) | go_simp)
    have b2_1 : w1.cell? ⟨w.heap.size, 2, none⟩ = some (.int .i64 m) := bc hb (by first | (simp; done) | go_simp)
    have b3_1 : w1.cell? ⟨w.heap.size, 3, none⟩ = some (.int .i64 r) := bc hb (by first | (simp; done) | go_simp)
    have bl_1 : w.heap.size < w1.heap.size := cell_lt b0_1
    have hszw1 := below_size hb
    try simp at hszw1
    have HBq : Below w.heap.size w w1 := Below.trans (by repeat (first | exact Below.refl _ _ | exact HB.out | refine Below.drew ?_ | refine bel_drewN _ ?_ | refine Below.alloc ?_ (by first | omega | (simp; done) | (simp; omega)) _ | refine Below.setCell ?_ (by first | (show _ ≤ _; omega) | (simp; done) | (simp; omega)) _)) (hb.mono (by first | omega | (simp; done) | (simp; omega)))
    have HB := Lib.hid HBq
    clear HBq hb
    go_wp2_with fail
    refine (HF.out _ (by exact HM.out.fwd (by repeat (first | exact Below.refl _ _ | exact HB.out.mono hM1 | refine Below.drew ?_ | refine bel_drewN _ ?_ | refine Below.alloc ?_ (by first | omega | (simp; done) | (simp; omega)) _ | refine Below.setCell ?_ (by first | (show _ ≤ _; omega) | (simp; done) | (simp; omega)) _)))).mono ?_
    rintro ed w2 ⟨v, rfl, hv, hb2⟩
    have hz := HB.out.size
    have HB : Hid (Below w.heap.size w w2) := HB.out.trans (hb2.mono hz)
    clear hb2
    rcases hv with ⟨rfl, va, vc, rfl, hvc⟩ | ⟨hpos, g, c, cap, rfl, b1, c1, c2, fb⟩
    · go_wp2_with fail
      go_loopw [3,5] (fun v i wr => v = .int .i64 0 ∧ i = .int .i64 0 ∧ wr = w2) (fun _ _ _ => 0)
      case atStart => exact ⟨rfl, rfl, rfl⟩
      case round =>
        obtain ⟨rfl, rfl, rfl⟩ := hrel
        go_wp2
        go_ret
        exact ⟨rfl, HB.out⟩
    · have hg := fb.lt
      have FB1 := Lib.hid fb
      clear fb
      go_wp2_with fail
      go_loopw [3,5] (fun v i wr => ∃ t : Nat, t ≤ L ∧ i = .int .i64 t ∧ v = .int .i64 (sumF A t) ∧ Below w2.heap.size w2 wr) (fun _ i _ => L - (intOf i).toNat)
      case atStart => exact ⟨0, Nat.zero_le _, rfl, rfl, Below.refl _ _⟩
      case round =>
        obtain ⟨t, ht, rfl, rfl, hbel⟩ := hrel
        have hs2 := hbel.size
        have HBL := Lib.hid hbel
        by_cases hlt : t < L
        · obtain ⟨⟨p0, p1⟩, _⟩ := (FB1.out.fwd hbel hg).cells hlt
          obtain ⟨s0, s1⟩ := HS.out t (by omega)
          obtain ⟨a0, a1⟩ := HOK.out.amt t hlt
          have i0 : (0 : Int) ≤ (t : Int) := by omega
          have i1 : (t : Int) < (L : Int) := by omega
          have HE : Hid (sumF A (t + 1) = sumF A t + (A t).2) := Lib.hid rfl
          generalize (A t).1 = x at *
          generalize (A t).2 = y at *
          generalize sumF A t = z at *
          clear hbel
          go_wp2
          go_roundw
          case rel => exact ⟨t + 1, by omega, by go_num, by rw [HE.out], by first | exact HBL.out | exact HBL.out.alloc (by omega) _⟩
          case measure => first | (simp [intOf]; done) | (simp [intOf]; omega)
        · obtain rfl : t = L := by omega
          clear hbel
          go_wp2
          go_ret
          exact ⟨rfl, HB.out.trans (HBL.out.mono HB.out.size)⟩
set_option maxHeartbeats 2000000 in
theorem totalOfI_any (s e m r : Int) (w : World) (hM : MD w) :
    Calls Tryd.prog 15 #[.agg #[.int .i64 s, .int .i64 e, .int .i64 m, .int .i64 r]] w fun ed w' => ed = .returned (.int .i64 (totV s e m r)) ∧ Below w.heap.size w w' := by
  have hM1 := hM.size
  have HM := Lib.hid hM
  clear hM
  unfold totV
  cases h : bdB s e m r
  · go_enter Tryd.func15, Tryd.ntmps15
    have HB := Lib.hid (Below.refl w.heap.size w)
    go_wp2_with fail
    refine (validBondI_any s e m r _ (by exact HM.out.fwd (by repeat (first | exact Below.refl _ _ | exact HB.out.mono hM1 | refine Below.drew ?_ | refine bel_drewN _ ?_ | refine Below.alloc ?_ (by first | omega | (simp; done) | (simp; omega)) _ | refine Below.setCell ?_ (by first | (show _ ≤ _; omega) | (simp; done) | (simp; omega)) _)))).mono ?_
    rintro e w1 ⟨rfl, hb⟩
    have b0_1 : w1.cell? ⟨w.heap.size, 0, none⟩ = some (.int .i64 s) := bc hb (by first | (simp; done) | go_simp)
    have b1_1 : w1.cell? ⟨w.heap.size, 1, none⟩ = some (.int .i64 e) := bc hb (by first | (simp; done) | go_simp)
    have b2_1 : w1.cell? ⟨w.heap.size, 2, none⟩ = some (.int .i64 m) := bc hb (by first | (simp; done) | go_simp)
    have b3_1 : w1.cell? ⟨w.heap.size, 3, none⟩ = some (.int .i64 r) := bc hb (by first | (simp; done) | go_simp)
    have bl_1 : w.heap.size < w1.heap.size := cell_lt b0_1
    have hszw1 := below_size hb
    try simp at hszw1
    have HBq : Below w.heap.size w w1 := Below.trans (by repeat (first | exact Below.refl _ _ | exact HB.out | refine Below.drew ?_ | refine bel_drewN _ ?_ | refine Below.alloc ?_ (by first | omega | (simp; done) | (simp; omega)) _ | refine Below.setCell ?_ (by first | (show _ ≤ _; omega) | (simp; done) | (simp; omega)) _)) (hb.mono (by first | omega | (simp; done) | (simp; omega)))
    have HB := Lib.hid HBq
    clear HBq hb
    go_wp2
    go_ret
    exact ⟨rfl, HB.out⟩
  · have HF : Hid (∀ W : World, MD W → Calls Tryd.prog 37 #[.agg #[.int .i64 s, .int .i64 e, .int .i64 m, .int .i64 r]] W (FlOf s e m r W)) := Lib.hid fun W hW => flI_ok s e m r h W hW
    have ok := fl_ok s e m r
    unfold FlOf at HF
    generalize flL s e m r = L at *
    generalize flF s e m r = A at *
    have hL := ok.le
    have HS := Lib.hid (fun k hk => sumF_bd ok k hk)
    have HOK := Lib.hid ok
    clear ok
    go_enter Tryd.func15, Tryd.ntmps15
    have HB := Lib.hid (Below.refl w.heap.size w)
    go_wp2_with fail
    refine (validBondI_any s e m r _ (by exact HM.out.fwd (by repeat (first | exact Below.refl _ _ | exact HB.out.mono hM1 | refine Below.drew ?_ | refine bel_drewN _ ?_ | refine Below.alloc ?_ (by first | omega | (simp; done) | (simp; omega)) _ | refine Below.setCell ?_ (by first | (show _ ≤ _; omega) | (simp; done) | (simp; omega)) _)))).mono ?_
    rintro e w1 ⟨rfl, hb⟩
    have b0_1 : w1.cell? ⟨w.heap.size, 0, none⟩ = some (.int .i64 s) := bc hb (by first | (simp; done) | go_simp)
    have b1_1 : w1.cell? ⟨w.heap.size, 1, none⟩ = some (.int .i64 e) := bc hb (by first | (simp; done) | go_simp)
    have b2_1 : w1.cell? ⟨w.heap.size, 2, none⟩ = some (.int .i64 m) := bc hb (by first | (simp; done) | go_simp)
    have b3_1 : w1.cell? ⟨w.heap.size, 3, none⟩ = some (.int .i64 r) := bc hb (by first | (simp; done) | go_simp)
    have bl_1 : w.heap.size < w1.heap.size := cell_lt b0_1
    have hszw1 := below_size hb
    try simp at hszw1
    have HBq : Below w.heap.size w w1 := Below.trans (by repeat (first | exact Below.refl _ _ | exact HB.out | refine Below.drew ?_ | refine bel_drewN _ ?_ | refine Below.alloc ?_ (by first | omega | (simp; done) | (simp; omega)) _ | refine Below.setCell ?_ (by first | (show _ ≤ _; omega) | (simp; done) | (simp; omega)) _)) (hb.mono (by first | omega | (simp; done) | (simp; omega)))
    have HB := Lib.hid HBq
    clear HBq hb
    go_wp2_with fail
    refine (HF.out _ (by exact HM.out.fwd (by repeat (first | exact Below.refl _ _ | exact HB.out.mono hM1 | refine Below.drew ?_ | refine bel_drewN _ ?_ | refine Below.alloc ?_ (by first | omega | (simp; done) | (simp; omega)) _ | refine Below.setCell ?_ (by first | (show _ ≤ _; omega) | (simp; done) | (simp; omega)) _)))).mono ?_
    rintro ed w2 ⟨v, rfl, hv, hb2⟩
    have hz := HB.out.size
    have HB : Hid (Below w.heap.size w w2) := HB.out.trans (hb2.mono hz)
    clear hb2
    rcases hv with ⟨rfl, va, vc, rfl, hvc⟩ | ⟨hpos, g, c, cap, rfl, b1, c1, c2, fb⟩
    · go_wp2_with fail
      go_loopw [3,12] (fun v i wr => v = .int .i64 0 ∧ i = .int .i64 0 ∧ wr = w2) (fun _ _ _ => 0)
      case atStart => exact ⟨rfl, rfl, rfl⟩
      case round =>
        obtain ⟨rfl, rfl, rfl⟩ := hrel
        go_wp2
        go_ret
        exact ⟨rfl, HB.out⟩
    · have hg := fb.lt
      have FB1 := Lib.hid fb
      clear fb
      go_wp2_with fail
      go_loopw [3,12] (fun v i wr => ∃ t : Nat, t ≤ L ∧ i = .int .i64 t ∧ v = .int .i64 (sumF A t) ∧ Below w2.heap.size w2 wr) (fun _ i _ => L - (intOf i).toNat)
      case atStart => exact ⟨0, Nat.zero_le _, rfl, rfl, Below.refl _ _⟩
      case round =>
        obtain ⟨t, ht, rfl, rfl, hbel⟩ := hrel
        have hs2 := hbel.size
        have HBL := Lib.hid hbel
        by_cases hlt : t < L
        · obtain ⟨⟨p0, p1⟩, _⟩ := (FB1.out.fwd hbel hg).cells hlt
          obtain ⟨s0, s1⟩ := HS.out t (by omega)
          obtain ⟨a0, a1⟩ := HOK.out.amt t hlt
          have i0 : (0 : Int) ≤ (t : Int) := by omega
          have i1 : (t : Int) < (L : Int) := by omega
          have HE : Hid (sumF A (t + 1) = sumF A t + (A t).2) := Lib.hid rfl
          generalize (A t).1 = x at *
          generalize (A t).2 = y at *
          generalize sumF A t = z at *
          clear hbel
          go_wp2
          go_roundw
          case rel => exact ⟨t + 1, by omega, by go_num, by rw [HE.out], by first | exact HBL.out | exact HBL.out.alloc (by omega) _⟩
          case measure => first | (simp [intOf]; done) | (simp [intOf]; omega)
        · obtain rfl : t = L := by omega
          clear hbel
          go_wp2
          go_ret
          exact ⟨rfl, HB.out.trans (HBL.out.mono HB.out.size)⟩
noncomputable def nfV (s e m r d : Int) : Int × Int := if afL s e m r d = 0 then (0, 0) else afF s e m r d 0
noncomputable def nfB (s e m r d : Int) : Bool := if afL s e m r d = 0 then false else true
set_option maxHeartbeats 2000000 in
theorem nextFlowS_any (s e m r d : Int) (w : World) (hM : MD w) :
    Calls Tryd.prog 21 #[.agg #[.int .i64 s, .int .i64 e, .int .i64 m, .int .i64 r], .int .i64 d] w fun ed w' =>
      ed = .returned (.tuple #[.agg #[.int .i64 (nfV s e m r d).1, .int .i64 (nfV s e m r d).2], .bool (nfB s e m r d)]) ∧ Below w.heap.size w w' := by
  have hM1 := hM.size
  have HM := Lib.hid hM
  have HC : Hid (∀ W : World, MD W → Calls Tryd.prog 31 #[.agg #[.int .i64 s, .int .i64 e, .int .i64 m, .int .i64 r], .int .i64 d] W (FlAf s e m r d W)) := Lib.hid fun W hW => flowsAfterS_any s e m r d W hW
  clear hM
  unfold nfV nfB
  unfold FlAf at HC
  generalize afL s e m r d = L at *
  generalize afF s e m r d = A at *
  by_cases hL0 : L = 0
  · subst hL0
    rw [if_pos rfl, if_pos rfl]
    go_enter Tryd.func21, Tryd.ntmps21
    go_wp2_with fail
    refine (HC.out _ (HM.out.fwd (((Below.refl _ _).alloc (by omega) _).alloc (by first | (simp; done) | (simp; omega)) _))).mono ?_
    rintro ed w1 ⟨v, rfl, hv, hb⟩
    have hz := hb.size
    simp at hz
    have HB : Hid (Below w.heap.size w w1) := Below.trans (((Below.refl _ _).alloc (Nat.le_refl _) _).alloc (by simp) _) (hb.mono (by simp; omega))
    have x0 : w1.cell? ⟨w.heap.size + 1, 0, none⟩ = some (.int .i64 0) := bc hb (by simp)
    have x1 : w1.cell? ⟨w.heap.size + 1, 1, none⟩ = some (.int .i64 0) := bc hb (by simp)
    have f0 : w1.frozen? ⟨w.heap.size + 1, 0, none⟩ = false := bf hb (by simp) (by simp)
    have f1 : w1.frozen? ⟨w.heap.size + 1, 1, none⟩ = false := bf hb (by simp) (by simp)
    clear hb
    rcases hv with ⟨_, va, vc, rfl, hvc⟩ | ⟨hpos, _⟩
    · go_wp2
      refine bodyPost_ret (v := .tuple #[.agg #[.int .i64 0, .int .i64 0], .bool false]) (by simp [results, Tryd.results21, go_sem, *]) rfl ⟨rfl, ?_⟩
      repeat (first | exact HB.out | refine Below.alloc ?_ (by have := HB.out.size; first | omega | (simp; omega)) _ | refine Below.setCell ?_ (by simp) _)
    · omega
  · rw [if_neg hL0, if_neg hL0]
    obtain ⟨x, hx⟩ : ∃ x, (A 0).1 = x := ⟨_, rfl⟩
    obtain ⟨y, hy⟩ : ∃ y, (A 0).2 = y := ⟨_, rfl⟩
    rw [hx, hy]
    have HX := Lib.hid hx
    have HY := Lib.hid hy
    clear hx hy
    have hL1 : (L == 0) = false := by simpa using hL0
    have hL2 : (0 : Int) < (L : Int) := by omega
    go_enter Tryd.func21, Tryd.ntmps21
    go_wp2_with fail
    refine (HC.out _ (HM.out.fwd (((Below.refl _ _).alloc (by omega) _).alloc (by first | (simp; done) | (simp; omega)) _))).mono ?_
    rintro ed w1 ⟨v, rfl, hv, hb⟩
    have hz := hb.size
    simp at hz
    have HB : Hid (Below w.heap.size w w1) := Below.trans (((Below.refl _ _).alloc (Nat.le_refl _) _).alloc (by simp) _) (hb.mono (by simp; omega))
    have x0 : w1.cell? ⟨w.heap.size + 1, 0, none⟩ = some (.int .i64 0) := bc hb (by simp)
    have x1 : w1.cell? ⟨w.heap.size + 1, 1, none⟩ = some (.int .i64 0) := bc hb (by simp)
    have f0 : w1.frozen? ⟨w.heap.size + 1, 0, none⟩ = false := bf hb (by simp) (by simp)
    have f1 : w1.frozen? ⟨w.heap.size + 1, 1, none⟩ = false := bf hb (by simp) (by simp)
    clear hb
    rcases hv with ⟨h0, _⟩ | ⟨hpos, g, c, cap, rfl, b1, c1, c2, fb⟩
    · omega
    obtain ⟨⟨p0, p1⟩, _⟩ := fb.cells (show 0 < L by omega)
    simp only [Nat.zero_mul, Nat.zero_add] at p0 p1
    rw [HX.out] at p0
    rw [HY.out] at p1
    clear fb
    go_wp2
    refine bodyPost_ret (v := .tuple #[.agg #[.int .i64 x, .int .i64 y], .bool true]) (by simp [results, Tryd.results21, go_sem, *]) rfl ⟨rfl, ?_⟩
    repeat (first | exact HB.out | refine Below.alloc ?_ (by have := HB.out.size; first | omega | (simp; omega)) _ | refine Below.setCell ?_ (by simp) _)
set_option maxHeartbeats 2000000 in
theorem nextFlowI_any (s e m r d : Int) (w : World) (hM : MD w) :
    Calls Tryd.prog 22 #[.agg #[.int .i64 s, .int .i64 e, .int .i64 m, .int .i64 r], .int .i64 d] w fun ed w' =>
      ed = .returned (.tuple #[.agg #[.int .i64 (nfV s e m r d).1, .int .i64 (nfV s e m r d).2], .bool (nfB s e m r d)]) ∧ Below w.heap.size w w' := by
  have hM1 := hM.size
  have HM := Lib.hid hM
  have HC : Hid (∀ W : World, MD W → Calls Tryd.prog 32 #[.agg #[.int .i64 s, .int .i64 e, .int .i64 m, .int .i64 r], .int .i64 d] W (FlAf s e m r d W)) := Lib.hid fun W hW => flowsAfterI_any s e m r d W hW
  clear hM
  unfold nfV nfB
  unfold FlAf at HC
  generalize afL s e m r d = L at *
  generalize afF s e m r d = A at *
  by_cases hL0 : L = 0
  · subst hL0
    rw [if_pos rfl, if_pos rfl]
    go_enter Tryd.func22, Tryd.ntmps22
    go_wp2_with fail
    refine (HC.out _ (HM.out.fwd (((Below.refl _ _).alloc (by omega) _).alloc (by first | (simp; done) | (simp; omega)) _))).mono ?_
    rintro ed w1 ⟨v, rfl, hv, hb⟩
    have hz := hb.size
    simp at hz
    have HB : Hid (Below w.heap.size w w1) := Below.trans (((Below.refl _ _).alloc (Nat.le_refl _) _).alloc (by simp) _) (hb.mono (by simp; omega))
    have x0 : w1.cell? ⟨w.heap.size + 1, 0, none⟩ = some (.int .i64 0) := bc hb (by simp)
    have x1 : w1.cell? ⟨w.heap.size + 1, 1, none⟩ = some (.int .i64 0) := bc hb (by simp)
    have f0 : w1.frozen? ⟨w.heap.size + 1, 0, none⟩ = false := bf hb (by simp) (by simp)
    have f1 : w1.frozen? ⟨w.heap.size + 1, 1, none⟩ = false := bf hb (by simp) (by simp)
    clear hb
    rcases hv with ⟨_, va, vc, rfl, hvc⟩ | ⟨hpos, _⟩
    · go_wp2_with fail
      go_loopw [12] (fun i wr => i = .int .i64 0 ∧ wr = w1) (fun _ _ => 0)
      case atStart => exact ⟨rfl, rfl⟩
      case round =>
        obtain ⟨rfl, rfl⟩ := hrel
        go_wp2
        refine bodyPost_ret (v := .tuple #[.agg #[.int .i64 0, .int .i64 0], .bool false]) (by simp [results, Tryd.results22, go_sem, *]) rfl ⟨rfl, ?_⟩
        repeat (first | exact HB.out | refine Below.alloc ?_ (by have := HB.out.size; first | omega | (simp; omega)) _ | refine Below.setCell ?_ (by simp) _)
    · omega
  · rw [if_neg hL0, if_neg hL0]
    obtain ⟨x, hx⟩ : ∃ x, (A 0).1 = x := ⟨_, rfl⟩
    obtain ⟨y, hy⟩ : ∃ y, (A 0).2 = y := ⟨_, rfl⟩
    rw [hx, hy]
    have HX := Lib.hid hx
    have HY := Lib.hid hy
    clear hx hy
    have hL1 : (L == 0) = false := by simpa using hL0
    have hL2 : (0 : Int) < (L : Int) := by omega
    go_enter Tryd.func22, Tryd.ntmps22
    go_wp2_with fail
    refine (HC.out _ (HM.out.fwd (((Below.refl _ _).alloc (by omega) _).alloc (by first | (simp; done) | (simp; omega)) _))).mono ?_
    rintro ed w1 ⟨v, rfl, hv, hb⟩
    have hz := hb.size
    simp at hz
    have HB : Hid (Below w.heap.size w w1) := Below.trans (((Below.refl _ _).alloc (Nat.le_refl _) _).alloc (by simp) _) (hb.mono (by simp; omega))
    have x0 : w1.cell? ⟨w.heap.size + 1, 0, none⟩ = some (.int .i64 0) := bc hb (by simp)
    have x1 : w1.cell? ⟨w.heap.size + 1, 1, none⟩ = some (.int .i64 0) := bc hb (by simp)
    have f0 : w1.frozen? ⟨w.heap.size + 1, 0, none⟩ = false := bf hb (by simp) (by simp)
    have f1 : w1.frozen? ⟨w.heap.size + 1, 1, none⟩ = false := bf hb (by simp) (by simp)
    clear hb
    rcases hv with ⟨h0, _⟩ | ⟨hpos, g, c, cap, rfl, b1, c1, c2, fb⟩
    · omega
    obtain ⟨⟨p0, p1⟩, _⟩ := fb.cells (show 0 < L by omega)
    simp only [Nat.zero_mul, Nat.zero_add] at p0 p1
    have f2 : ∀ o, (w1.alloc o).frozen? ⟨w.heap.size + 1, 0, none⟩ = false := fun o => fa (by show w.heap.size + 1 < _; omega) f0
    have f3 : ∀ o, (w1.alloc o).frozen? ⟨w.heap.size + 1, 1, none⟩ = false := fun o => fa (by show w.heap.size + 1 < _; omega) f1
    have x2 : ∀ o, (w1.alloc o).cell? ⟨w.heap.size + 1, 0, none⟩ = some (.int .i64 0) := fun o => ca x0
    have x3 : ∀ o, (w1.alloc o).cell? ⟨w.heap.size + 1, 1, none⟩ = some (.int .i64 0) := fun o => ca x1
    rw [HX.out] at p0
    rw [HY.out] at p1
    clear fb
    go_wp2_with fail
    go_loopw [12] (fun i wr => i = .int .i64 0 ∧ wr = w1) (fun _ _ => 0)
    case atStart => exact ⟨rfl, rfl⟩
    case round =>
      obtain ⟨rfl, rfl⟩ := hrel
      go_wp2
      refine bodyPost_ret (v := .tuple #[.agg #[.int .i64 x, .int .i64 y], .bool true]) (by simp [results, Tryd.results22, go_sem, *]) rfl ⟨rfl, ?_⟩
      repeat (first | exact HB.out | refine Below.alloc ?_ (by have := HB.out.size; first | omega | (simp; omega)) _ | refine Below.setCell ?_ (by simp) _)
end Go.Proofs.YtoidghdgebdfaaaDoor
