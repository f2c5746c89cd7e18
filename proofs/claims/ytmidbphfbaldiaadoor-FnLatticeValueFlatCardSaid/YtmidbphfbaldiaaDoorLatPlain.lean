/- Lattices in plain numbers. No program in sight. -/
import Derived.Test.YtmidbphfbaldiaaDoorPlain
namespace Go.Proofs.YtmidbphfbaldiaaDoor
theorem cdiv_le {n d m : Int} (hd : 0 < d) : cdiv n d ≤ m ↔ n ≤ m * d := by
  unfold cdiv
  have h := Int.le_ediv_iff_mul_le (a := -m) (b := -n) hd
  rw [Int.neg_mul] at h
  omega
theorem le_fdiv {n d m : Int} (hd : 0 < d) : m ≤ n / d ↔ m * d ≤ n := Int.le_ediv_iff_mul_le hd
theorem fdiv_mul {n d : Int} (hd : 0 < d) : n / d * d ≤ n := (le_fdiv hd).1 (Int.le_refl _)
theorem cdiv_mul {n d : Int} (hd : 0 < d) : n ≤ cdiv n d * d := (cdiv_le hd).1 (Int.le_refl _)
theorem fdiv_mono {n n' d d' : Int} (hn : 0 ≤ n) (h : n ≤ n') (hd' : 0 < d') (hd : d' ≤ d) : n / d ≤ n' / d' := by
  rw [le_fdiv hd']
  have h1 : 0 ≤ n / d := Int.ediv_nonneg hn (by omega)
  have h2 : n / d * d' ≤ n / d * d := Int.mul_le_mul_of_nonneg_left hd h1
  have h3 := fdiv_mul (n := n) (d := d) (by omega)
  omega
theorem cdiv_nonneg {n d : Int} (hn : 0 ≤ n) (hd : 0 < d) : 0 ≤ cdiv n d := by
  by_cases c : 0 ≤ cdiv n d
  · exact c
  · exfalso
    have h1 := (cdiv_le (n := n) (d := d) (m := -1) hd).1 (by omega)
    omega
theorem cdiv_mono {n n' d d' : Int} (hn : 0 ≤ n) (h : n ≤ n') (hd' : 0 < d') (hd : d' ≤ d) : cdiv n d ≤ cdiv n' d' := by
  rw [cdiv_le (by omega)]
  have h1 : 0 ≤ cdiv n' d' := cdiv_nonneg (by omega) hd'
  have h2 : cdiv n' d' * d' ≤ cdiv n' d' * d := Int.mul_le_mul_of_nonneg_left hd h1
  have h3 := cdiv_mul (n := n') (d := d') hd'
  omega
theorem fdiv_le_cdiv {n n' d : Int} (h : n ≤ n') (hd : 0 < d) : n / d ≤ cdiv n' d := by
  have h1 := fdiv_mul (n := n) hd
  have h2 := cdiv_mul (n := n') hd
  exact Int.le_of_mul_le_mul_right (Int.le_trans h1 (Int.le_trans h h2)) hd
/-- the rate of a node, and 1 plus it in millionths -/
def lrt (r p t i : Int) : Int := r + p * (2 * i - t)
def lg (r p t i : Int) : Int := 1000000 + 100 * lrt r p t i
/-- a lattice that is valid -/
def latB (s r p : Int) : Bool := inR s 1 8 && (inR p 0 150 && inR r (s * p) (3000 - s * p))
theorem latB_iff {s r p : Int} : latB s r p = true ↔ (1 ≤ s ∧ s ≤ 8) ∧ (0 ≤ p ∧ p ≤ 150) ∧ s * p ≤ r ∧ r ≤ 3000 - s * p := by
  unfold latB
  rw [Bool.and_eq_true, Bool.and_eq_true, inR_true, inR_true, inR_true]
theorem lrt_bd {s r p : Int} (h : latB s r p = true) {t i : Int} (t0 : t ≤ s) (i0 : 0 ≤ i) (i1 : i ≤ t) : 0 ≤ lrt r p t i ∧ lrt r p t i ≤ 3000 := by
  obtain ⟨⟨s0, s1⟩, ⟨p0, p1⟩, r0, r1⟩ := latB_iff.1 h
  unfold lrt
  have h1 : p * (2 * i - t) ≤ p * s := Int.mul_le_mul_of_nonneg_left (by omega) p0
  have h2 : p * (-s) ≤ p * (2 * i - t) := Int.mul_le_mul_of_nonneg_left (by omega) p0
  rw [Int.mul_neg] at h2
  rw [Int.mul_comm p s] at h1 h2
  omega
theorem lmul_bd {s r p : Int} (h : latB s r p = true) {t i : Int} (t0 : t ≤ s) (i0 : 0 ≤ i) (i1 : i ≤ t) : -1200 ≤ p * (2 * i - t) ∧ p * (2 * i - t) ≤ 1200 := by
  obtain ⟨⟨s0, s1⟩, ⟨p0, p1⟩, r0, r1⟩ := latB_iff.1 h
  have h1 : p * (2 * i - t) ≤ p * 8 := Int.mul_le_mul_of_nonneg_left (by omega) p0
  have h2 : p * (-8) ≤ p * (2 * i - t) := Int.mul_le_mul_of_nonneg_left (by omega) p0
  omega
theorem lg_bd {s r p : Int} (h : latB s r p = true) {t i : Int} (t0 : t ≤ s) (i0 : 0 ≤ i) (i1 : i ≤ t) : 1000000 ≤ lg r p t i ∧ lg r p t i ≤ 1300000 := by
  have := lrt_bd h t0 i0 i1
  unfold lg
  omega
/-- the call price, where there is one -/
def lcl (k t v : Int) : Int := if k = 0 ∨ t = 0 then v else if 10000 * k < v then 10000 * k else v
theorem lcl_no {t v : Int} : lcl 0 t v = v := if_pos (.inl rfl)
theorem lcl_first {k v : Int} : lcl k 0 v = v := if_pos (.inr rfl)
theorem lcl_le (k t v : Int) : lcl k t v ≤ v := by unfold lcl; split <;> (try split) <;> omega
theorem lcl_nonneg {k t v : Int} (hk : 0 ≤ k) (hv : 0 ≤ v) : 0 ≤ lcl k t v := by unfold lcl; split <;> (try split) <;> omega
/-- call prices: the first is not greater -/
def KLe (k k' : Int) : Prop := k' = 0 ∨ k = k' ∨ (k ≠ 0 ∧ k ≤ k')
theorem lcl_mono {k k' t v v' : Int} (hk : KLe k k') (h : v ≤ v') : lcl k t v ≤ lcl k' t v' := by
  unfold lcl
  rcases hk with rfl | rfl | ⟨h1, h2⟩ <;> (repeat' split) <;> omega
/-- the bounds of the value at a node: j steps ahead of the last time, i moves up -/
def llo (s r p c k : Int) : Nat → Nat → Int
  | 0, _ => 1000000
  | j + 1, i => lcl k (s - ((j : Int) + 1)) (((llo s r p c k j i + llo s r p c k j (i + 1)) / 2 + 100 * c) * 1000000 / lg r p (s - ((j : Int) + 1)) i)
def lhi (s r p c k : Int) : Nat → Nat → Int
  | 0, _ => 1000000
  | j + 1, i => lcl k (s - ((j : Int) + 1)) (cdiv ((cdiv (lhi s r p c k j i + lhi s r p c k j (i + 1)) 2 + 100 * c) * 1000000) (lg r p (s - ((j : Int) + 1)) i))
theorem cdiv_two (a b : Int) : cdiv (a + b) 2 = (a + b + 1) / 2 := by unfold cdiv; omega
theorem lval_bd {s r p c k : Int} (h : latB s r p = true) (hc : 0 ≤ c ∧ c ≤ 3000) (hk : 0 ≤ k) : ∀ (j i : Nat), (j : Int) ≤ s → (i : Int) ≤ s - j →
    0 ≤ llo s r p c k j i ∧ llo s r p c k j i ≤ lhi s r p c k j i ∧ lhi s r p c k j i ≤ 1000000 + 300000 * j
  | 0, i, _, _ => by simp [llo, lhi]
  | j + 1, i, hj, hi => by
    obtain ⟨a0, a1, a2⟩ := lval_bd h hc hk j i (by omega) (by omega)
    obtain ⟨b0, b1, b2⟩ := lval_bd h hc hk j (i + 1) (by omega) (by omega)
    obtain ⟨g0, g1⟩ := lg_bd h (t := s - ((j : Int) + 1)) (i := i) (by omega) (by omega) (by omega)
    have q := cdiv_two (lhi s r p c k j i) (lhi s r p c k j (i + 1))
    simp only [llo, lhi]
    rw [q]
    generalize llo s r p c k j i = x at *
    generalize llo s r p c k j (i + 1) = y at *
    generalize lhi s r p c k j i = x' at *
    generalize lhi s r p c k j (i + 1) = y' at *
    generalize lg r p (s - ((j : Int) + 1)) i = g at *
    refine ⟨lcl_nonneg hk (Int.ediv_nonneg (by omega) (by omega)), lcl_mono (.inr (.inl rfl)) (fdiv_le_cdiv (by omega) (by omega)), Int.le_trans (lcl_le _ _ _) ?_⟩
    rw [cdiv_le (by omega)]
    have e1 : ((x' + y' + 1) / 2 + 100 * c) ≤ 1000000 + 300000 * ((j + 1 : Nat) : Int) := by omega
    have e2 : ((x' + y' + 1) / 2 + 100 * c) * 1000000 ≤ (1000000 + 300000 * ((j + 1 : Nat) : Int)) * g := Int.mul_le_mul e1 g0 (by omega) (by omega)
    exact e2
/-- a smaller coupon, higher rates, a smaller call price: a smaller value -/
theorem lval_mono {s r r' p c c' k k' : Int} (h : latB s r p = true) (h' : latB s r' p = true) (hr : r' ≤ r) (hc : 0 ≤ c) (hcc : c ≤ c') (hc' : c' ≤ 3000) (hk : 0 ≤ k) (hk' : 0 ≤ k') (hkk : KLe k k') : ∀ (j i : Nat), (j : Int) ≤ s → (i : Int) ≤ s - j →
    llo s r p c k j i ≤ llo s r' p c' k' j i ∧ lhi s r p c k j i ≤ lhi s r' p c' k' j i
  | 0, i, _, _ => by simp [llo, lhi]
  | j + 1, i, hj, hi => by
    obtain ⟨a0, a1, a2⟩ := lval_bd h ⟨hc, by omega⟩ hk j i (by omega) (by omega)
    obtain ⟨b0, b1, b2⟩ := lval_bd h ⟨hc, by omega⟩ hk j (i + 1) (by omega) (by omega)
    obtain ⟨c0, c1⟩ := lval_mono h h' hr hc hcc hc' hk hk' hkk j i (by omega) (by omega)
    obtain ⟨d0, d1⟩ := lval_mono h h' hr hc hcc hc' hk hk' hkk j (i + 1) (by omega) (by omega)
    obtain ⟨g0, g1⟩ := lg_bd h (t := s - ((j : Int) + 1)) (i := i) (by omega) (by omega) (by omega)
    obtain ⟨g2, g3⟩ := lg_bd h' (t := s - ((j : Int) + 1)) (i := i) (by omega) (by omega) (by omega)
    have gg : lg r' p (s - ((j : Int) + 1)) i ≤ lg r p (s - ((j : Int) + 1)) i := by unfold lg lrt; omega
    have q := cdiv_two (lhi s r p c k j i) (lhi s r p c k j (i + 1))
    have q' := cdiv_two (lhi s r' p c' k' j i) (lhi s r' p c' k' j (i + 1))
    simp only [llo, lhi]
    rw [q, q']
    generalize llo s r p c k j i = x at *
    generalize llo s r p c k j (i + 1) = y at *
    generalize lhi s r p c k j i = x' at *
    generalize lhi s r p c k j (i + 1) = y' at *
    generalize llo s r' p c' k' j i = u at *
    generalize llo s r' p c' k' j (i + 1) = v at *
    generalize lhi s r' p c' k' j i = u' at *
    generalize lhi s r' p c' k' j (i + 1) = v' at *
    exact ⟨lcl_mono hkk (fdiv_mono (by omega) (by omega) (by omega) gg), lcl_mono hkk (cdiv_mono (by omega) (by omega) (by omega) gg)⟩
/-- without moves, with coupons not above the rate, no value is above 1 -/
theorem lhi_flat {s r c k : Int} (h : latB s r 0 = true) (hc : 0 ≤ c) (hcr : c ≤ r) (hk : 0 ≤ k) : ∀ (j i : Nat), (j : Int) ≤ s → (i : Int) ≤ s - j → lhi s r 0 c k j i ≤ 1000000
  | 0, i, _, _ => by simp [lhi]
  | j + 1, i, hj, hi => by
    obtain ⟨_, _, _, hr3⟩ := latB_iff.1 h
    have a := lhi_flat h hc hcr hk j i (by omega) (by omega)
    have b := lhi_flat h hc hcr hk j (i + 1) (by omega) (by omega)
    have a0 := lval_bd h ⟨hc, by omega⟩ hk j i (by omega) (by omega)
    have b0 := lval_bd h ⟨hc, by omega⟩ hk j (i + 1) (by omega) (by omega)
    have q := cdiv_two (lhi s r 0 c k j i) (lhi s r 0 c k j (i + 1))
    have g : lg r 0 (s - ((j : Int) + 1)) i = 1000000 + 100 * r := by unfold lg lrt; omega
    simp only [lhi]
    rw [q, g]
    generalize lhi s r 0 c k j i = x' at *
    generalize lhi s r 0 c k j (i + 1) = y' at *
    refine Int.le_trans (lcl_le _ _ _) ?_
    rw [cdiv_le (by omega)]
    omega
theorem lflat_same {s r c : Int} (h : latB s r 0 = true) (hc : 0 ≤ c) (hcr : c ≤ r) : ∀ (j i : Nat), (j : Int) ≤ s → (i : Int) ≤ s - j → llo s r 0 c 200 j i = llo s r 0 c 0 j i ∧ lhi s r 0 c 200 j i = lhi s r 0 c 0 j i
  | 0, i, _, _ => by simp [llo, lhi]
  | j + 1, i, hj, hi => by
    obtain ⟨_, _, _, hr3⟩ := latB_iff.1 h
    obtain ⟨a, a'⟩ := lflat_same h hc hcr j i (by omega) (by omega)
    obtain ⟨b, b'⟩ := lflat_same h hc hcr j (i + 1) (by omega) (by omega)
    have m := lhi_flat (k := 0) h hc hcr (Int.le_refl 0) (j + 1) i hj hi
    have n := lval_bd (k := 0) h ⟨hc, by omega⟩ (Int.le_refl 0) (j + 1) i hj hi
    simp only [llo, lhi] at m n ⊢
    rw [a, a', b, b']
    rw [lcl_no] at m n ⊢
    rw [lcl_no] at n ⊢
    unfold lcl
    constructor
    · split
      · rfl
      · rw [if_neg (by omega)]
    · split
      · rfl
      · rw [if_neg (by omega)]
/-- a range multiplied so many times by a number -/
def plo (g : Int) : Nat → Int
  | 0 => 1000000
  | n + 1 => plo g n * g / 1000000
def phi (g : Int) : Nat → Int
  | 0 => 1000000
  | n + 1 => cdiv (phi g n * g) 1000000
theorem pow_bd {g : Int} (h0 : 1000000 ≤ g) (h1 : g ≤ 1300000) : ∀ n : Nat, n ≤ 8 → 1000000 ≤ plo g n ∧ plo g n ≤ phi g n ∧ phi g n ≤ 1000000 * 2 ^ n
  | 0, _ => by simp [plo, phi]
  | n + 1, hn => by
    obtain ⟨a, b, c⟩ := pow_bd h0 h1 n (by omega)
    simp only [plo, phi]
    have p2 : (1 : Int) ≤ 2 ^ n := Int.pow_pos (by decide)
    refine ⟨?_, fdiv_le_cdiv (Int.mul_le_mul_of_nonneg_right b (by omega)) (by decide), ?_⟩
    · rw [le_fdiv (by decide)]
      exact Int.mul_le_mul a h0 (by decide) (by omega)
    · rw [cdiv_le (by decide), Int.pow_succ]
      have e1 : phi g n * g ≤ (1000000 * 2 ^ n) * 1300000 := Int.mul_le_mul c h1 (by omega) (by omega)
      generalize (2 : Int) ^ n = z at *
      omega
theorem pow_bd' {g : Int} (h0 : 1000000 ≤ g) (h1 : g ≤ 1300000) {n : Nat} (hn : n ≤ 8) : 1000000 ≤ plo g n ∧ plo g n ≤ phi g n ∧ phi g n ≤ 256000000 := by
  obtain ⟨a, b, c⟩ := pow_bd h0 h1 n hn
  refine ⟨a, b, Int.le_trans c ?_⟩
  have : n = 0 ∨ n = 1 ∨ n = 2 ∨ n = 3 ∨ n = 4 ∨ n = 5 ∨ n = 6 ∨ n = 7 ∨ n = 8 := by omega
  rcases this with rfl | rfl | rfl | rfl | rfl | rfl | rfl | rfl | rfl <;> decide
theorem lflat_i {s r : Int} : ∀ (j i : Nat), llo s r 0 0 0 j i = llo s r 0 0 0 j 0 ∧ lhi s r 0 0 0 j i = lhi s r 0 0 0 j 0
  | 0, i => by simp [llo, lhi]
  | j + 1, i => by
    have g : ∀ t i : Int, lg r 0 t i = 1000000 + 100 * r := fun t i => by unfold lg lrt; omega
    obtain ⟨a, a'⟩ := lflat_i (s := s) (r := r) j i
    obtain ⟨b, b'⟩ := lflat_i (s := s) (r := r) j (i + 1)
    obtain ⟨c, c'⟩ := lflat_i (s := s) (r := r) j 1
    simp only [llo, lhi, g, a, a', b, b', Nat.zero_add, c, c', lcl_no, and_self]
theorem lflat_step {s r : Int} (j : Nat) : llo s r 0 0 0 (j + 1) 0 = llo s r 0 0 0 j 0 * 1000000 / (1000000 + 100 * r) ∧ lhi s r 0 0 0 (j + 1) 0 = cdiv (lhi s r 0 0 0 j 0 * 1000000) (1000000 + 100 * r) := by
  have g : ∀ t i : Int, lg r 0 t i = 1000000 + 100 * r := fun t i => by unfold lg lrt; omega
  obtain ⟨c, c'⟩ := lflat_i (s := s) (r := r) j 1
  simp only [llo, lhi, g, Nat.zero_add, c, c', lcl_no]
  have e1 : (llo s r 0 0 0 j 0 + llo s r 0 0 0 j 0) / 2 + 100 * 0 = llo s r 0 0 0 j 0 := by omega
  have e2 : cdiv (lhi s r 0 0 0 j 0 + lhi s r 0 0 0 j 0) 2 + 100 * 0 = lhi s r 0 0 0 j 0 := by unfold cdiv; omega
  rw [e1, e2]
  exact ⟨rfl, rfl⟩
/-- one discounted and multiplied again holds one -/
theorem lflat_one {s r : Int} (h0 : 0 ≤ r) (h1 : r ≤ 3000) (j : Nat) (hj : j ≤ 8) :
    llo s r 0 0 0 j 0 * plo (1000000 + 100 * r) j ≤ 1000000 * 1000000 ∧ 1000000 * 1000000 ≤ lhi s r 0 0 0 j 0 * phi (1000000 + 100 * r) j := by
  obtain ⟨g, hg⟩ : ∃ g, 1000000 + 100 * r = g := ⟨_, rfl⟩
  have g0 : 1000000 ≤ g := by omega
  have key : ∀ j : Nat, llo s r 0 0 0 j 0 * g ^ j ≤ 1000000 * 1000000 ^ j ∧ 1000000 * 1000000 ^ j ≤ lhi s r 0 0 0 j 0 * g ^ j := by
    intro j
    induction j with
    | zero => simp [llo, lhi]
    | succ j ih =>
      obtain ⟨e1, e2⟩ := lflat_step (s := s) (r := r) j
      rw [hg] at e1 e2
      rw [e1, e2]
      have p : 0 ≤ g ^ j := Int.le_of_lt (Int.pow_pos (by omega))
      have a := Int.mul_le_mul_of_nonneg_right (fdiv_mul (n := llo s r 0 0 0 j 0 * 1000000) (d := g) (by omega)) p
      have b := Int.mul_le_mul_of_nonneg_right (cdiv_mul (n := lhi s r 0 0 0 j 0 * 1000000) (d := g) (by omega)) p
      obtain ⟨i1, i2⟩ := ih
      rw [Int.pow_succ, Int.pow_succ]
      generalize llo s r 0 0 0 j 0 * 1000000 / g = X at *
      generalize cdiv (lhi s r 0 0 0 j 0 * 1000000) g = Y at *
      generalize llo s r 0 0 0 j 0 = x at *
      generalize lhi s r 0 0 0 j 0 = y at *
      generalize g ^ j = z at *
      generalize (1000000 : Int) ^ j = m at *
      have t1 : X * (z * g) = X * g * z := by rw [Int.mul_comm z g, Int.mul_assoc]
      have t2 : Y * (z * g) = Y * g * z := by rw [Int.mul_comm z g, Int.mul_assoc]
      have t3 : x * 1000000 * z = x * z * 1000000 := by rw [Int.mul_right_comm]
      have t4 : y * 1000000 * z = y * z * 1000000 := by rw [Int.mul_right_comm]
      rw [t1, t2]
      rw [t3] at a
      rw [t4] at b
      omega
  have key2 : ∀ j : Nat, plo g j * 1000000 ^ j ≤ 1000000 * g ^ j ∧ 1000000 * g ^ j ≤ phi g j * 1000000 ^ j := by
    intro j
    induction j with
    | zero => simp [plo, phi]
    | succ j ih =>
      simp only [plo, phi]
      have p : 0 ≤ (1000000 : Int) ^ j := Int.le_of_lt (Int.pow_pos (by omega))
      have a := Int.mul_le_mul_of_nonneg_right (fdiv_mul (n := plo g j * g) (d := 1000000) (by omega)) p
      have b := Int.mul_le_mul_of_nonneg_right (cdiv_mul (n := phi g j * g) (d := 1000000) (by omega)) p
      obtain ⟨i1, i2⟩ := ih
      have i1 := Int.mul_le_mul_of_nonneg_right i1 (show 0 ≤ g by omega)
      have i2 := Int.mul_le_mul_of_nonneg_right i2 (show 0 ≤ g by omega)
      rw [Int.pow_succ, Int.pow_succ]
      generalize plo g j * g / 1000000 = X at *
      generalize cdiv (phi g j * g) 1000000 = Y at *
      generalize plo g j = x at *
      generalize phi g j = y at *
      generalize g ^ j = z at *
      generalize (1000000 : Int) ^ j = m at *
      have t1 : X * (m * 1000000) = X * 1000000 * m := by rw [Int.mul_comm m 1000000, Int.mul_assoc]
      have t2 : Y * (m * 1000000) = Y * 1000000 * m := by rw [Int.mul_comm m 1000000, Int.mul_assoc]
      have t3 : x * g * m = x * m * g := by rw [Int.mul_right_comm]
      have t4 : y * g * m = y * m * g := by rw [Int.mul_right_comm]
      have t5 : 1000000 * (z * g) = 1000000 * z * g := by rw [Int.mul_assoc]
      rw [t1, t2, t5]
      rw [t3] at a
      rw [t4] at b
      omega
  obtain ⟨a1, a2⟩ := key j
  obtain ⟨b1, b2⟩ := key2 j
  rw [hg]
  obtain ⟨q1, q2, q3⟩ := pow_bd' (g := g) g0 (by omega) hj
  have pg : 0 < g ^ j := Int.pow_pos (by omega)
  have pm : 0 < (1000000 : Int) ^ j := Int.pow_pos (by omega)
  generalize llo s r 0 0 0 j 0 = x at *
  generalize lhi s r 0 0 0 j 0 = y at *
  generalize plo g j = u at *
  generalize phi g j = v at *
  generalize g ^ j = z at *
  generalize (1000000 : Int) ^ j = m at *
  have zm : 0 < z * m := Int.mul_pos pg pm
  have w1 : (x * z) * (u * m) ≤ (1000000 * m) * (1000000 * z) := Int.mul_le_mul a1 b1 (Int.mul_nonneg (by omega) (by omega)) (by omega)
  have w2 : (1000000 * m) * (1000000 * z) ≤ (y * z) * (v * m) := Int.mul_le_mul a2 b2 (by omega) (by omega)
  have r1 : (x * z) * (u * m) = (x * u) * (z * m) := by rw [Int.mul_assoc, Int.mul_left_comm z u m, ← Int.mul_assoc]
  have r2 : (y * z) * (v * m) = (y * v) * (z * m) := by rw [Int.mul_assoc, Int.mul_left_comm z v m, ← Int.mul_assoc]
  have r3 : (1000000 * m) * (1000000 * z) = (1000000 * 1000000) * (z * m) := by rw [Int.mul_assoc, Int.mul_left_comm m 1000000 z, ← Int.mul_assoc, Int.mul_comm m z]
  rw [r1, r3] at w1
  rw [r2, r3] at w2
  exact ⟨Int.le_of_mul_le_mul_right w1 zm, Int.le_of_mul_le_mul_right w2 zm⟩
end Go.Proofs.YtmidbphfbaldiaaDoor
