/- Bonds: facts of payments for the laws; equal rows. -/
import Derived.Test.YtoidghdgebdfaaaDoorFlow11
namespace Go.Proofs.YtoidghdgebdfaaaDoor
open Go.RowKit
set_option linter.unusedVariables false
theorem near_mono {n n' d : Int} (h : n ≤ n') (hd : 1 ≤ d) : near n d ≤ near n' d := Int.ediv_le_ediv (by omega) (by omega)
theorem near_le_of {n d u : Int} (h : n ≤ u * d) (hd : 1 ≤ d) : near n d ≤ u := by
  unfold near
  have h1 : (2 * n + d) / (2 * d) < u + 1 := by
    apply Int.ediv_lt_of_lt_mul (by omega)
    have : (u + 1) * (2 * d) = 2 * (u * d) + 2 * d := by rw [Int.add_mul, Int.one_mul, Int.mul_left_comm]
    omega
  omega
/-- months and months again: not later than both at once -/
theorem addM_addM {e k j : Int} (h1 : 0 ≤ addM e k) (h2 : 0 ≤ addM (addM e k) j) (hk : -600 ≤ k + j ∧ k + j ≤ 600) : addM (addM e k) j ≤ addM e (k + j) := by
  obtain ⟨a1, a2, a3⟩ := addM_in h1
  obtain ⟨b1, b2, b3⟩ := addM_in h2
  obtain ⟨e1, e2, e3⟩ := addM_date h1
  have t1 := amT_def e k
  have t2 := amT_def (addM e k) j
  have t3 := amT_def e (k + j)
  have t : amT (addM e k) j = amT e (k + j) := by omega
  rw [addM_eq b1 b2 b3, addM_eq a1 hk (by rw [← t]; exact b3), t, e3]
  have m1 := minI_le (dD e) (dim (1990 + amT e k / 12) (amT e k % 12 + 1))
  generalize minI (dD e) (dim (1990 + amT e k / 12) (amT e k % 12 + 1)) = x at *
  have m2 := minI_le x (dim (1990 + amT e (k + j) / 12) (amT e (k + j) % 12 + 1))
  have m3 := minI_le (dD e) (dim (1990 + amT e (k + j) / 12) (amT e (k + j) % 12 + 1))
  unfold num
  omega
theorem cFrom_first {s e m : Int} (h : spnB s e m = true) (h40 : schN s e m ≤ 40) : cFrom m s (bk e m (schN s e m - 1)) ≤ s := by
  obtain ⟨⟨s0, s1, e1⟩, hm⟩ := spnB_iff.1 h
  have hp := schN_pos h
  have hin := schN_in (s := s) (e := e) (m := m) (j := schN s e m - 1) (by omega)
  have hout := schN_out (s := s) (e := e) (m := m) (by omega)
  generalize schN s e m = n at *
  obtain ⟨l, rfl⟩ : ∃ l, n = l + 1 := ⟨n - 1, by omega⟩
  rw [show l + 1 - 1 = l by omega] at *
  unfold cFrom
  split
  · exact Int.le_refl _
  · rename_i c
    have a := mul_le (m := m) (k := l + 1) hm (by omega)
    have q : -((l : Int) * m) + -m = -(((l + 1 : Nat) : Int) * m) := by
      rw [show ((l + 1 : Nat) : Int) = (l : Int) + 1 by omega, Int.add_mul, Int.one_mul]; omega
    have := addM_addM (e := e) (k := -((l : Int) * m)) (j := -m) (by unfold bk at hin; omega) (by unfold bk at c; omega) (by rw [q]; omega)
    rw [q] at this
    unfold bk at *
    omega
theorem flA_amt {s e m r : Int} (j : Nat) : (flF s e m r j).2 = cpn m r (pF s e m (schL s e m) j) (pT e m (schL s e m) j) (pW s e m (schL s e m) j) + if j + 1 = schL s e m then 10000 else 0 := rfl
theorem flA_day {s e m r : Int} (j : Nat) : (flF s e m r j).1 = pT e m (schL s e m) j := rfl
theorem cpn_true (m r F T : Int) : cpn m r F T true = cFull m r := by unfold cpn; rw [if_pos rfl]
theorem pW_later {s e m : Int} {n j : Nat} (h : 1 ≤ j) : pW s e m n j = true := by unfold pW; rw [if_neg (by omega)]
/-- all payments but the first -/
theorem fl_mid {s e m r : Int} {j : Nat} (h1 : 1 ≤ j) (h2 : j + 1 < schL s e m) : (flF s e m r j).2 = cFull m r := by
  rw [flA_amt, pW_later h1, cpn_true, if_neg (by omega), Int.add_zero]
theorem fl_last {s e m r : Int} {l : Nat} (h : schL s e m = l + 1) (h1 : 1 ≤ l) : (flF s e m r l).2 = cFull m r + 10000 := by
  rw [flA_amt, pW_later h1, cpn_true, if_pos (by omega)]
theorem fl_first {s e m r : Int} (h : bdB s e m r = true) (h2 : 2 ≤ schL s e m) : (flF s e m r 0).2 ≤ cFull m r := by
  obtain ⟨hr, hm, hse, hs, hn, h1, h40⟩ := bd_facts h
  rw [flA_amt, if_neg (by omega), Int.add_zero]
  have hp := per_ok hs
  have hcf := cFrom_first hs (by omega)
  rw [hn] at hp hcf
  obtain ⟨p0, p1, p2⟩ := hp 0 (by omega)
  have hF : (perA s e m (schL s e m) 0).1 = s := by show pF s e m (schL s e m) 0 = s; unfold pF; rw [if_pos rfl]
  have hT : (perA s e m (schL s e m) 0).2.1 = bk e m (schL s e m - 1) := by show pT e m (schL s e m) 0 = _; unfold pT; rw [Nat.sub_zero]
  rw [hF] at p0 p1
  rw [hT] at p1 p2
  have eF : pF s e m (schL s e m) 0 = s := hF
  have eT : pT e m (schL s e m) 0 = bk e m (schL s e m - 1) := hT
  rw [eF, eT]
  generalize bk e m (schL s e m - 1) = T at *
  obtain ⟨_, u0, u1⟩ := cFull_bd hm hr
  obtain ⟨f0, f1⟩ := cFrom_bd hm p0 p1 p2
  unfold cpn
  split
  · exact Int.le_refl _
  · refine near_le_of ?_ (by omega)
    exact Int.mul_le_mul_of_nonneg_left (by omega) u0
/-- the last payment is at the end, and at least the face value -/
theorem fl_end {s e m r : Int} (h : bdB s e m r = true) {l : Nat} (hl : schL s e m = l + 1) : (flF s e m r l).1 = e ∧ 10000 ≤ (flF s e m r l).2 := by
  obtain ⟨hr, hm, ⟨s0, s1, e1⟩, hs, hn, h1, h2⟩ := bd_facts h
  constructor
  · rw [flA_day, hl]
    exact (per_last (l := l) hs).1
  · have hp := per_ok hs
    rw [hn, hl] at hp
    obtain ⟨p0, p1, p2⟩ := hp l (by omega)
    have := (cpn_bd (m := m) (r := r) (W := (perA s e m (l + 1) l).2.2) hm hr p0 p1 p2).1
    rw [flA_amt, hl, if_pos rfl]
    show 10000 ≤ cpn m r (perA s e m (l + 1) l).1 (perA s e m (l + 1) l).2.1 (perA s e m (l + 1) l).2.2 + 10000
    omega
theorem cFull_mono {m r r' : Int} (hm : m = 1 ∨ m = 3 ∨ m = 6 ∨ m = 12) (h : r ≤ r') : cFull m r ≤ cFull m r' := by
  unfold cFull
  refine near_mono ?_ (by decide)
  rcases hm with rfl | rfl | rfl | rfl <;> omega
/-- higher rates pay no less -/
theorem fl_rate {s e m r r' : Int} (h : bdB s e m r = true) (hr' : r ≤ r') {j : Nat} (hj : j < schL s e m) : (flF s e m r j).1 = (flF s e m r' j).1 ∧ (flF s e m r j).2 ≤ (flF s e m r' j).2 := by
  obtain ⟨hr, hm, hse, hs, hn, h1, h40⟩ := bd_facts h
  refine ⟨rfl, ?_⟩
  rw [flA_amt, flA_amt]
  have hp := per_ok hs
  rw [hn] at hp
  obtain ⟨p0, p1, p2⟩ := hp j hj
  have hc : cpn m r (pF s e m (schL s e m) j) (pT e m (schL s e m) j) (pW s e m (schL s e m) j) ≤ cpn m r' (pF s e m (schL s e m) j) (pT e m (schL s e m) j) (pW s e m (schL s e m) j) := by
    have q0 : 0 ≤ pF s e m (schL s e m) j := p0
    have q1 : pF s e m (schL s e m) j < pT e m (schL s e m) j := p1
    have q2 : pT e m (schL s e m) j ≤ 36524 := p2
    generalize pF s e m (schL s e m) j = F at *
    generalize pT e m (schL s e m) j = T at *
    have hcm := cFull_mono hm hr'
    obtain ⟨f0, f1⟩ := cFrom_bd hm q0 q1 q2
    unfold cpn
    split
    · exact hcm
    · exact near_mono (Int.mul_le_mul_of_nonneg_right hcm (by omega)) (by omega)
  omega
theorem bd_rate {s e m r r' : Int} (h : bdB s e m r = true) (hr : 0 ≤ r' ∧ r' ≤ 3000) : bdB s e m r' = true := bdB_iff.2 ⟨inR_yes hr, (bdB_iff.1 h).2⟩
theorem cpn_zero {m F T : Int} {W : Bool} (hm : m = 1 ∨ m = 3 ∨ m = 6 ∨ m = 12) (hF : 0 ≤ F) (hFT : F < T) (hT : T ≤ 36524) : cpn m 0 F T W = 0 := by
  have hc : cFull m 0 = 0 := by unfold cFull near; rw [Int.mul_zero, Int.zero_mul]; decide
  obtain ⟨f0, f1⟩ := cFrom_bd hm hF hFT hT
  unfold cpn
  rw [hc]
  split
  · rfl
  · unfold near
    rw [Int.zero_mul, Int.mul_zero, Int.zero_add]
    exact Int.ediv_eq_zero_of_lt (by omega) (by omega)
/-- without a rate only the face value is paid -/
theorem tot_zero {s e m : Int} (h : bdB s e m 0 = true) : totV s e m 0 = 10000 := by
  obtain ⟨hr, hm, hse, hs, hn, h1, h40⟩ := bd_facts h
  have hp := per_ok hs
  rw [hn] at hp
  have ha : ∀ j, j < schL s e m → (flF s e m 0 j).2 = if j + 1 = schL s e m then 10000 else 0 := by
    intro j hj
    obtain ⟨p0, p1, p2⟩ := hp j hj
    rw [flA_amt]
    have : cpn m 0 (pF s e m (schL s e m) j) (pT e m (schL s e m) j) (pW s e m (schL s e m) j) = 0 := cpn_zero hm p0 p1 p2
    rw [this, Int.zero_add]
  have hz : ∀ k, k < schL s e m → sumF (flF s e m 0) k = 0 := by
    intro k
    induction k with
    | zero => intro _; rfl
    | succ k ih =>
      intro hk
      unfold sumF
      rw [ih (by omega), ha k (by omega), if_neg (by omega)]
      rfl
  unfold totV
  rw [if_pos h, flL_yes h]
  obtain ⟨l, hl⟩ : ∃ l, schL s e m = l + 1 := ⟨schL s e m - 1, by omega⟩
  rw [hl]
  show sumF (flF s e m 0) l + (flF s e m 0 l).2 = 10000
  rw [hz l (by omega), ha l (by omega), if_pos (by omega)]
  rfl
theorem tot_face {s e m r : Int} (h : bdB s e m r = true) : 10000 ≤ totV s e m r := by
  have ok := fl_ok s e m r
  obtain ⟨hr, hm, hse, hs, hn, h1, h40⟩ := bd_facts h
  obtain ⟨l, hl⟩ : ∃ l, schL s e m = l + 1 := ⟨schL s e m - 1, by omega⟩
  obtain ⟨_, e2⟩ := fl_end h hl
  unfold totV
  rw [if_pos h]
  rw [flL_yes h, hl] at ok ⊢
  have := (sumF_bd ok l (by omega)).1
  show 10000 ≤ sumF (flF s e m r) l + (flF s e m r l).2
  omega
set_option maxHeartbeats 4000000 in
theorem equalFlows_any (v1 v2 : Value) (b1 b2 L : Nat) (A : Nat → Int × Int) (w : World) (hL : L ≤ 100) (h1 : FV w b1 v1 L A) (h2 : FV w b2 v2 L A) :
    Calls Tryd.prog 29 #[v1, v2] w fun e w' => e = .returned (.bool true) ∧ Below w.heap.size w w' := by
  rcases h1 with ⟨rfl, va, vc, rfl, hvc⟩ | ⟨hp, g1, c1, cap1, rfl, _, l1, m1, p1⟩
  · rcases h2 with ⟨_, va2, vc2, rfl, hvc2⟩ | ⟨hp, _⟩
    · go_enter Tryd.func29, Tryd.ntmps29
      go_wp2
      go_loop [5] (fun i => i = .int .i64 0) (fun _ => 0)
      case atStart => rfl
      case round =>
        obtain rfl := hrel
        go_wp2
        go_ret
        exact ⟨rfl, Below.refl _ _⟩
    · omega
  · rcases h2 with ⟨h0, _⟩ | ⟨_, g2, c2, cap2, rfl, _, l2, m2, p2⟩
    · omega
    have P1 := Lib.hid p1
    have P2 := Lib.hid p2
    have t1 := p1.lt
    have t2 := p2.lt
    clear p1 p2
    go_enter Tryd.func29, Tryd.ntmps29
    go_wp2
    go_loopw [5] (fun i wr => ∃ k : Nat, k ≤ L ∧ i = .int .i64 k ∧ Below w.heap.size w wr) (fun i _ => L - (intOf i).toNat)
    case atStart => exact ⟨0, Nat.zero_le _, rfl, Below.refl _ _⟩
    case round =>
      obtain ⟨k, hk, rfl, hbel⟩ := hrel
      have hsz := hbel.size
      by_cases hlt : k < L
      · obtain ⟨⟨a0, a1⟩, _⟩ := (P1.out.fwd hbel t1).cells hlt
        obtain ⟨⟨b0, b1⟩, _⟩ := (P2.out.fwd hbel t2).cells hlt
        have HB := Lib.hid hbel
        clear hbel
        have i0 : (0 : Int) ≤ (k : Int) := by omega
        have i1 : (k : Int) < (L : Int) := by omega
        generalize (A k).1 = x at *
        generalize (A k).2 = y at *
        go_wp2_with fail
        go_quiet (fail)
        go_wp2
        go_roundw
        case rel => exact ⟨k + 1, by omega, by go_num, bel_drewN _ HB.out⟩
        case measure => simp [intOf]; omega
      · obtain rfl : k = L := by omega
        go_wp2
        go_ret
        exact ⟨rfl, hbel⟩
end Go.Proofs.YtoidghdgebdfaaaDoor
