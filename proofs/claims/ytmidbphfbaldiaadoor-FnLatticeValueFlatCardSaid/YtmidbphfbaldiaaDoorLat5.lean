/- Lattices: the program's value. -/
import Derived.Test.YtmidbphfbaldiaaDoorLat4
namespace Go.Proofs.YtmidbphfbaldiaaDoor
open Go.RowKit
set_option linter.unusedVariables false
theorem bel_set {B b o : Nat} {a w : World} {u : Value} (h : Below B a w) (hp : B ≤ b) : Below B a (w.setCell ⟨b, o, none⟩ u) := Below.setCell h hp u
theorem below_grown {B : Nat} {a w w1 : World} {row : Option Nat} (h : Below B a w) (hg : w.grownBy w1 row) (hB : B ≤ w.heap.size) (hr : ∀ k, row = some k → B ≤ k) : Below B a w1 := Below.grown h hg hB hr
theorem made_zero {n : Nat} (h : n ≤ 9) : (madeCells (Value.agg #[.int .i64 0, .int .i64 0]).cells (n * 2)).toList = flatR (fun _ => (0, 0)) n := by
  have : n = 0 ∨ n = 1 ∨ n = 2 ∨ n = 3 ∨ n = 4 ∨ n = 5 ∨ n = 6 ∨ n = 7 ∨ n = 8 ∨ n = 9 := by omega
  rcases this with rfl | rfl | rfl | rfl | rfl | rfl | rfl | rfl | rfl | rfl <;> (simp [madeCells, flatR, Value.cells]; try rfl)
def Two (wx : World) (b : Nat) (x y : Int) : Prop := wx.cell? ⟨b, 0, none⟩ = some (.int .i64 x) ∧ wx.cell? ⟨b, 1, none⟩ = some (.int .i64 y)
def CutA (a b a' b' : Int) (wi wx : World) (p q : Value) : Prop := ∃ b1 b2 : Nat, p = .pointer (some ⟨b1, 0, none⟩) ∧ q = .pointer (some ⟨b2, 0, none⟩) ∧ Two wx b1 a b ∧ Two wx b2 a' b' ∧ wi.heap.size ≤ b1 ∧ wi.heap.size ≤ b2 ∧ Below wi.heap.size wi wx
def CutB (a b : Int) (wi wx : World) (p : Value) : Prop := ∃ b1 : Nat, p = .pointer (some ⟨b1, 0, none⟩) ∧ Two wx b1 a b ∧ wi.heap.size ≤ b1 ∧ Below wi.heap.size wi wx
def CutC (a b : Int) (wi wx : World) (p q : Value) : Prop := ∃ b1 : Nat, p = .pointer (some ⟨b1, 0, none⟩) ∧ q = .nilIface ∧ Two wx b1 a b ∧ wx.frozen? ⟨b1, 0, none⟩ = false ∧ wx.frozen? ⟨b1, 1, none⟩ = false ∧ wi.heap.size ≤ b1 ∧ Below wi.heap.size wi wx
def LvP (s r p c k : Int) (w : World) (e : Ending) (w' : World) : Prop := e = .returned (.tuple #[.agg #[.int .i64 (lvL s r p c k), .int .i64 (lvH s r p c k)], .bool (lvB s r p c k)]) ∧ Below w.heap.size w w'
set_option maxHeartbeats 2000000 in
theorem latValue_no (s r p c k : Int) (w : World) (h : lvB s r p c k = false) :
    Calls Tryd.prog 12 #[.agg #[.int .i64 s, .int .i64 r, .int .i64 p], .int .i64 c, .int .i64 k] w (LvP s r p c k w) := by
  have hcase : latB s r p = false ∨ (latB s r p = true ∧ inR c 0 3000 = false) ∨ (latB s r p = true ∧ inR c 0 3000 = true ∧ (k != 0) = true ∧ inR k 50 200 = false) := by
    cases h1 : latB s r p
    · exact .inl rfl
    cases h2 : inR c 0 3000
    · exact .inr (.inl ⟨rfl, rfl⟩)
    · refine .inr (.inr ⟨rfl, rfl, ?_⟩)
      unfold lvB at h
      rw [h1, h2] at h
      simp at h
      exact ⟨by simpa using h.1, h.2⟩
  unfold LvP
  obtain ⟨e1, e2⟩ := lv_no h
  rw [e1, e2, h]
  clear h e1 e2
  rcases hcase with h1 | ⟨h1, h2⟩ | ⟨h1, h2, h3, h4⟩
  all_goals
    go_enter Tryd.func12, Tryd.ntmps12
    have HB := Lib.hid (Below.refl w.heap.size w)
    go_wp2_with fail
    refine (latValidI_any s r p _).mono ?_
    rintro e w1 ⟨rfl, hb⟩
    have b0_1 : w1.cell? ⟨w.heap.size, 0, none⟩ = some (.int .i64 s) := bc hb (by first | (simp; done) | go_simp)
    have b1_1 : w1.cell? ⟨w.heap.size, 1, none⟩ = some (.int .i64 r) := bc hb (by first | (simp; done) | go_simp)
    have b2_1 : w1.cell? ⟨w.heap.size, 2, none⟩ = some (.int .i64 p) := bc hb (by first | (simp; done) | go_simp)
    have bl_1 : w.heap.size < w1.heap.size := cell_lt b0_1
    have q0_1 : w1.cell? ⟨w.heap.size + 1, 0, none⟩ = some (.int .i64 0) := bc hb (by first | (simp; done) | go_simp)
    have qf0_1 : w1.frozen? ⟨w.heap.size + 1, 0, none⟩ = false := bf hb (by first | (simp; done) | (simp; omega) | (show w.heap.size + 1 < _; omega)) (by first | (simp; done) | go_simp)
    have q1_1 : w1.cell? ⟨w.heap.size + 1, 1, none⟩ = some (.int .i64 0) := bc hb (by first | (simp; done) | go_simp)
    have qf1_1 : w1.frozen? ⟨w.heap.size + 1, 1, none⟩ = false := bf hb (by first | (simp; done) | (simp; omega) | (show w.heap.size + 1 < _; omega)) (by first | (simp; done) | go_simp)
    have ql_1 : w.heap.size + 1 < w1.heap.size := cell_lt q0_1
    have hszw1 := below_size hb
    try simp at hszw1
    have HBq : Below w.heap.size w w1 := Below.trans (by repeat (first | exact Below.refl _ _ | exact HB.out | refine Below.drew ?_ | refine bel_drewN _ ?_ | refine Below.alloc ?_ (by first | omega | (simp; done) | (simp; omega)) _ | refine Below.setCell ?_ (by first | (show _ ≤ _; omega) | (simp; done) | (simp; omega)) _)) (hb.mono (by first | omega | (simp; done) | (simp; omega)))
    have HB := Lib.hid HBq
    clear HBq hb
    go_wp2_with (first | (go_at_call 17; refine (within_any _ _ _ _).mono ?_; rintro e w' ⟨rfl, rfl⟩) | (go_at_call 23; refine (rateValid_any _ _).mono ?_; rintro e w' ⟨rfl, rfl⟩))
    refine bodyPost_ret (res2v (b := w.heap.size + 1) Tryd.results12 (by rfl) (by rfl) ⟨sc_far (by simp) (sc_same (by assumption)), sc_same (sc_far (by simp) (by assumption))⟩) rfl ⟨rfl, ?_⟩
    exact Below.setCell (Below.setCell HB.out (by show w.heap.size ≤ w.heap.size + 1; omega) _) (by show w.heap.size ≤ w.heap.size + 1; omega) _
set_option maxRecDepth 100000 in
set_option maxHeartbeats 8000000 in
theorem latValue_zero (sN : Nat) (r p c : Int) (w : World) (h : latB sN r p = true) (hc : 0 ≤ c ∧ c ≤ 3000) :
    Calls Tryd.prog 12 #[.agg #[.int .i64 sN, .int .i64 r, .int .i64 p], .int .i64 c, .int .i64 0] w fun e w' =>
      e = .returned (.tuple #[.agg #[.int .i64 (llo sN r p c 0 sN 0), .int .i64 (lhi sN r p c 0 sN 0)], .bool true]) ∧ Below w.heap.size w w' := by
  obtain ⟨⟨s0, s1⟩, _⟩ := latB_iff.1 h
  obtain ⟨c0, c1⟩ := hc
  have h2' : inR c 0 3000 = true := inR_yes ⟨c0, c1⟩
  obtain ⟨iF, hj, hy0, hy1, hy2⟩ := info_parts infoRg
  have HX : Hid (∀ W : World, Calls Tryd.prog 18 #[.int .i64 1000000] W (RP 1000000 1000000 W)) := Lib.hid fun W => exactlyI_any _ W (by omega)
  have HV : Hid (∀ j i : Nat, i + j ≤ sN → 0 ≤ llo sN r p c 0 j i ∧ llo sN r p c 0 j i ≤ lhi sN r p c 0 j i ∧ lhi sN r p c 0 j i ≤ 4000000) := Lib.hid fun j i hi => by
    have := lval_bd (k := 0) h ⟨c0, c1⟩ (by omega) j i (by omega) (by omega)
    omega
  have HR : Hid (∀ t i : Nat, t ≤ sN → i ≤ t → ∀ W : World, Calls Tryd.prog 27 #[.agg #[.int .i64 sN, .int .i64 r, .int .i64 p], .int .i64 t, .int .i64 i] W fun e w' => e = .returned (.int .i64 (lrt r p t i)) ∧ Below W.heap.size W w') := Lib.hid fun t i ht hi W => latRateI_any _ _ _ _ _ W h (by omega) (by omega) (by omega) (by omega)
  have HRB : Hid (∀ t i : Nat, t ≤ sN → i ≤ t → 0 ≤ lrt r p t i ∧ lrt r p t i ≤ 3000) := Lib.hid fun t i ht hi => lrt_bd h (by omega) (by omega) (by omega)
  have HLB := Lib.hid h
  go_enter Tryd.func12, Tryd.ntmps12
  have HB := Lib.hid (Below.refl w.heap.size w)
  go_wp2_with fail
  refine (latValidI_any sN r p _).mono ?_
  rintro e w1 ⟨rfl, hb⟩
  have b0_1 : w1.cell? ⟨w.heap.size, 0, none⟩ = some (.int .i64 sN) := bc hb (by first | (simp; done) | go_simp)
  have b1_1 : w1.cell? ⟨w.heap.size, 1, none⟩ = some (.int .i64 r) := bc hb (by first | (simp; done) | go_simp)
  have b2_1 : w1.cell? ⟨w.heap.size, 2, none⟩ = some (.int .i64 p) := bc hb (by first | (simp; done) | go_simp)
  have bl_1 : w.heap.size < w1.heap.size := cell_lt b0_1
  have q0_1 : w1.cell? ⟨w.heap.size + 1, 0, none⟩ = some (.int .i64 0) := bc hb (by first | (simp; done) | go_simp)
  have qf0_1 : w1.frozen? ⟨w.heap.size + 1, 0, none⟩ = false := bf hb (by first | (simp; done) | (simp; omega) | (show w.heap.size + 1 < _; omega)) (by first | (simp; done) | go_simp)
  have q1_1 : w1.cell? ⟨w.heap.size + 1, 1, none⟩ = some (.int .i64 0) := bc hb (by first | (simp; done) | go_simp)
  have qf1_1 : w1.frozen? ⟨w.heap.size + 1, 1, none⟩ = false := bf hb (by first | (simp; done) | (simp; omega) | (show w.heap.size + 1 < _; omega)) (by first | (simp; done) | go_simp)
  have ql_1 : w.heap.size + 1 < w1.heap.size := cell_lt q0_1
  have hszw1 := below_size hb
  try simp at hszw1
  have HBq : Below w.heap.size w w1 := Below.trans (by repeat (first | exact Below.refl _ _ | exact HB.out | refine Below.drew ?_ | refine bel_drewN _ ?_ | refine Below.alloc ?_ (by first | omega | (simp; done) | (simp; omega)) _ | refine Below.setCell ?_ (by first | (show _ ≤ _; omega) | (simp; done) | (simp; omega)) _)) (hb.mono (by first | omega | (simp; done) | (simp; omega)))
  have HB := Lib.hid HBq
  clear HBq hb
  go_wp2_with (first | (go_at_call 17; refine (within_any _ _ _ _).mono ?_; rintro e w' ⟨rfl, rfl⟩) | (go_at_call 23; refine (rateValid_any _ _).mono ?_; rintro e w' ⟨rfl, rfl⟩) | (at_make; refine wpList_make_full _ rfl _ _ 42 rfl w1.heap.size 28 iF (.agg #[.int .i64 0, .int .i64 0]) 2 Tryd.underlying42 hj hy0 hy1 .i64 .i64 _ _ (sN + 1) rfl rfl (by first | rfl | omega | (simp; done)) (by first | rfl | omega | (simp; done)) (by rw [hy2]; omega) (by unfold maxLen; omega) (Nat.le_refl _) ?_; intro w0 hown0 hgrow0))
  have rb0 : RB w0 w1.heap.size (sN + 1) (sN + 1) (fun _ => (0, 0)) := rb_of_own (by rw [← made_zero (by omega)]; exact hown0)
  have HB0 : Hid (Below w1.heap.size w1 w0) := Below.grown (Below.refl _ _) hgrow0 (Nat.le_refl _) (fun k hk => by cases hk)
  have HQ : Hid (∀ W : World, Below w1.heap.size w1 W → (W.cell? ⟨w.heap.size, 0, none⟩ = some (.int .i64 sN) ∧ W.cell? ⟨w.heap.size, 1, none⟩ = some (.int .i64 r) ∧ W.cell? ⟨w.heap.size, 2, none⟩ = some (.int .i64 p)) ∧ W.cell? ⟨w.heap.size + 1, 0, none⟩ = some (.int .i64 0) ∧ W.cell? ⟨w.heap.size + 1, 1, none⟩ = some (.int .i64 0) ∧ W.frozen? ⟨w.heap.size + 1, 0, none⟩ = false ∧ W.frozen? ⟨w.heap.size + 1, 1, none⟩ = false) := Lib.hid fun W hW =>
    ⟨⟨bc hW b0_1, bc hW b1_1, bc hW b2_1⟩, bc hW q0_1, bc hW q1_1, bf hW (cell_lt q0_1) qf0_1, bf hW (cell_lt q1_1) qf1_1⟩
  have HRB0 := Lib.hid rb0
  have hlt1 : w.heap.size + 1 < w1.heap.size := cell_lt q0_1
  obtain ⟨g, hg⟩ : ∃ g, w1.heap.size = g := ⟨_, rfl⟩
  rw [hg] at HB0 HQ HRB0 hlt1 ⊢
  clear rb0 hown0 hgrow0 b0_1 b1_1 b2_1 q0_1 q1_1 qf0_1 qf1_1 bl_1 ql_1 hg
  have HBW := HB
  go_loopw [41] (fun i wr => ∃ u : Nat, u ≤ sN + 1 ∧ i = .int .i64 u ∧ ∃ A, RB wr g (sN + 1) (sN + 1) A ∧ (∀ j, j < u → A j = (1000000, 1000000)) ∧ Below g w1 wr) (fun i _ => sN + 1 - (intOf i).toNat)
  case atStart => exact ⟨0, Nat.zero_le _, rfl, _, HRB0.out, fun j hj => absurd hj (by omega), HB0.out⟩
  case round =>
    obtain ⟨u, hu, rfl, A, hrb, hA, hbel⟩ := hrel
    have HA := Lib.hid hA
    have HBL := Lib.hid hbel
    have hgr := hrb.lt
    by_cases hlt : u < sN + 1
    · have HRr := Lib.hid hrb
      have i0 : (0 : Int) ≤ (u : Int) := by omega
      have i1 : (u : Int) < (sN : Int) + 1 := by omega
      clear hrb hA hbel
      go_wp2_with fail
      refine (HX.out _).mono ?_
      rintro e w2 ⟨rfl, hb⟩
      have rb2 := HRr.out.below hb
      obtain ⟨⟨a0, a1⟩, fz⟩ := rb2.cells hlt
      have f0 := fz (u * 2)
      have f1 := fz (u * 2 + 1)
      have HR2 := Lib.hid rb2
      have HB2 : Hid (Below g w1 w2) := HBL.out.trans (hb.mono (by omega))
      clear rb2 fz hb
      go_wp2
      go_roundw
      case rel =>
        refine ⟨u + 1, by omega, by go_num, _, (HR2.out.set0 u hlt _).set1 u hlt _, fun j hj => ?_, Below.setCell (Below.setCell HB2.out (Nat.le_refl g) _) (Nat.le_refl g) _⟩
        unfold updR
        by_cases cj : j = u
        · subst cj; rw [if_pos rfl, if_pos rfl]
        · rw [if_neg cj, if_neg cj]; exact HA.out j (by omega)
      case measure => first | (simp [intOf]; done) | (simp [intOf]; omega)
    · obtain rfl : u = sN + 1 := by omega
      obtain ⟨⟨z0, z1, z2⟩, _⟩ := HQ.out wr hbel
      have HRr := Lib.hid hrb
      clear hrb hA hbel
      go_wp2_with fail
      go_loopw [10] (fun x wo => ∃ (WO : World) (j : Nat), WO = wo ∧ j ≤ sN ∧ x = .int .i64 ((sN : Int) - 1 - j) ∧ ∃ A, RB wo g (sN + 1) (sN + 1) A ∧ (∀ i, i + j ≤ sN → A i = valA sN r p c 0 j i) ∧ Below g w1 wo) (fun x _ => (intOf x + 1).toNat)
      case atStart => exact ⟨_, 0, rfl, Nat.zero_le _, by simp, A, HRr.out, fun i hi => HA.out i (by omega), HBL.out⟩
      case round =>
        clear z0 z1 z2 HRr HA HBL hgr HRB0 HB0
        obtain ⟨WO, j, rfl, hj, rfl, A, hrb, hA, hbel⟩ := hrel
        have HA := Lib.hid hA
        have HBL := Lib.hid hbel
        have hgr := hrb.lt
        by_cases hlt : j < sN
        · obtain ⟨t, ht⟩ : ∃ t : Nat, sN - 1 - j = t := ⟨_, rfl⟩
          have et : (sN : Int) - 1 - (j : Int) = (t : Int) := by omega
          have htj : t + 1 + j = sN := by omega
          rw [et]
          have HRr := Lib.hid hrb
          have t0 : (0 : Int) ≤ (t : Int) := by omega
          have HET := Lib.hid et
          clear hrb hA hbel ht et
          go_wp2_with fail
          go_loopw [58] (fun y wi => ∃ (WI : World) (u : Nat), WI = wi ∧ u ≤ t + 1 ∧ y = .int .i64 u ∧ ∃ A, RB wi g (sN + 1) (sN + 1) A ∧ (∀ i, i < u → A i = valA sN r p c 0 (j + 1) i) ∧ (∀ i, u ≤ i → i + j ≤ sN → A i = valA sN r p c 0 j i) ∧ Below g w1 wi) (fun y _ => t + 1 - (intOf y).toNat)
          case atStart => exact ⟨_, 0, rfl, Nat.zero_le _, rfl, A, HRr.out, fun i hi => absurd hi (by omega), fun i _ hi => HA.out i hi, HBL.out⟩
          case round =>
            clear HRr HA HBL hgr
            obtain ⟨WI, u, rfl, hu, rfl, A, hrb, hA1, hA2, hbel⟩ := hrel
            have HA1 := Lib.hid hA1
            have HA2 := Lib.hid hA2
            have HBL := Lib.hid hbel
            have hgi := hrb.lt
            by_cases hut : u < t + 1
            · obtain ⟨⟨q0, q1⟩, fz⟩ := hrb.cells (show u < sN + 1 by omega)
              obtain ⟨⟨q2, q3⟩, _⟩ := hrb.cells (show u + 1 < sN + 1 by omega)
              rw [hA2 u (Nat.le_refl _) (by omega)] at q0 q1
              rw [hA2 (u + 1) (by omega) (by omega)] at q2 q3
              obtain ⟨⟨z0, z1, z2⟩, _⟩ := HQ.out WI hbel
              have HRi := Lib.hid hrb
              obtain ⟨a0, a1, a2⟩ := HV.out j u (by omega)
              obtain ⟨b0, b1', b2⟩ := HV.out j (u + 1) (by omega)
              obtain ⟨e0, e1⟩ := HRB.out t u (by omega) (by omega)
              have HRu := Lib.hid (HR.out t u (by omega) (by omega))
              have HNu : Hid (valA sN r p c 0 (j + 1) u = (lcl 0 t (((llo sN r p c 0 j u + llo sN r p c 0 j (u + 1)) / 2 + 100 * c) * 1000000 / (1000000 + 100 * lrt r p t u)), lcl 0 t (cdiv ((cdiv (lhi sN r p c 0 j u + lhi sN r p c 0 j (u + 1)) 2 + 100 * c) * 1000000) (1000000 + 100 * lrt r p t u)))) := Lib.hid (by
                have tj : (sN : Int) - ((j : Int) + 1) = (t : Int) := by omega
                unfold valA
                simp only [llo, lhi, tj, lg])
              have i0 : (0 : Int) ≤ (u : Int) := by omega
              have i1 : (u : Int) < (sN : Int) + 1 := by omega
              have i2 : (0 : Int) ≤ (u : Int) + 1 := by omega
              have i3 : (u : Int) + 1 < (sN : Int) + 1 := by omega
              have wr5 : IntKind.i64.wrap ((u : Int) + 1) = (u : Int) + 1 := IntWalk.i64_in _ (by omega)
              have wr6 : ((u : Int) + 1).toNat = u + 1 := by omega
              unfold valA at q0 q1 q2 q3
              simp only at q0 q1 q2 q3
              generalize llo sN r p c 0 j u = a at *
              generalize lhi sN r p c 0 j u = b at *
              generalize llo sN r p c 0 j (u + 1) = a' at *
              generalize lhi sN r p c 0 j (u + 1) = b' at *
              generalize lrt r p t u = q at *
              clear hrb hA1 hA2 hbel fz
              go_upto_region 15 with fail
              go_cut [12, 13] (fun p q wx => CutA a b a' b' WI wx p q)
              case first =>
                go_region_held3 (fun w' => (w'.cell? ⟨g, u * 2, none⟩ = some (.int .i64 a) ∧ w'.cell? ⟨g, u * 2 + 1, none⟩ = some (.int .i64 b)) ∧ w'.cell? ⟨g, (u + 1) * 2, none⟩ = some (.int .i64 a') ∧ w'.cell? ⟨g, (u + 1) * 2 + 1, none⟩ = some (.int .i64 b'))
                  ((go_split_ands; refine ⟨⟨?_, ?_⟩, ?_, ?_⟩ <;> first | assumption | (with_reducible exact ca (by assumption)) | (with_reducible exact ca (ca (by assumption))) | (with_reducible refine sc_blk ?_ (sc_blk ?_ (by assumption)) <;> (simp; omega)) | (exact ca (w := WI) (by assumption)) | (exact ca (ca (w := WI) (by assumption))) | (simp; done)))
                  (fail)
                all_goals
                  go_wp2_with fail
                  go_meet
                  refine ⟨_, _, rfl, rfl, ⟨?_, ?_⟩, ⟨?_, ?_⟩, by simp, by simp, ?_⟩
                  · first | exact new_cell (by first | rfl | simp) rfl | exact ca (w := WI.alloc _) (new_cell (by first | rfl | simp) rfl)
                  · first | exact new_cell (by first | rfl | simp) rfl | exact ca (w := WI.alloc _) (new_cell (by first | rfl | simp) rfl)
                  · first | exact new_cell (by first | rfl | simp) rfl | exact ca (w := WI.alloc _) (new_cell (by first | rfl | simp) rfl)
                  · first | exact new_cell (by first | rfl | simp) rfl | exact ca (w := WI.alloc _) (new_cell (by first | rfl | simp) rfl)
                  · exact Below.drew (((Below.refl _ _).alloc (Nat.le_refl _) _).alloc (by simp) _)
              case rest =>
                obtain ⟨b12, b13, rfl, rfl, ⟨m0, m1⟩, ⟨n0, n1⟩, hb12, hb13, hbA⟩ := hcut
                rename World => WA
                have z0A := bc hbA z0
                have z1A := bc hbA z1
                have z2A := bc hbA z2
                have HBA := Lib.hid hbA
                have hsA := hbA.size
                clear z0 z1 z2 q0 q1 q2 q3 hbA wr5 wr6
                have wr0 : IntKind.i64.wrap (100 * c) = 100 * c := IntWalk.i64_in _ (by omega)
                have wr1 : IntKind.i64.wrap (a + a') = a + a' := IntWalk.i64_in _ (by omega)
                have wr2 : IntKind.i64.wrap (b + b') = b + b' := IntWalk.i64_in _ (by omega)
                have HF : Hid (∀ W : World, Calls Tryd.prog 24 #[.int .i64 (a + a'), .int .i64 2] W fun e w' => e = .returned (.int .i64 ((a + a') / 2)) ∧ W = w') := Lib.hid fun W => floor_any _ _ W (by omega) (by omega) (by omega) (by omega)
                have HC : Hid (∀ W : World, Calls Tryd.prog 25 #[.int .i64 (b + b'), .int .i64 2] W fun e w' => e = .returned (.int .i64 (cdiv (b + b') 2)) ∧ W = w') := Lib.hid fun W => ceil_any _ _ W (by omega) (by omega) (by omega) (by omega)
                have lo0 : 0 ≤ (a + a') / 2 ∧ (a + a') / 2 ≤ 4000000 := by omega
                have hi0 : (a + a') / 2 ≤ cdiv (b + b') 2 ∧ cdiv (b + b') 2 ≤ 4000000 := by rw [cdiv_two]; omega
                generalize (a + a') / 2 = lo at *
                generalize cdiv (b + b') 2 = hi at *
                obtain ⟨lo0, lo1⟩ := lo0
                obtain ⟨hi0, hi1⟩ := hi0
                have wr3 : IntKind.i64.wrap (lo + 100 * c) = lo + 100 * c := IntWalk.i64_in _ (by omega)
                have wr4 : IntKind.i64.wrap (hi + 100 * c) = hi + 100 * c := IntWalk.i64_in _ (by omega)
                go_upto_region 16 with fail
                go_cut [14] (fun p wx => CutB (lo + 100 * c) (hi + 100 * c) WA wx p)
                case first =>
                  go_region_held3 (fun w' => (w'.cell? ⟨b12, 0, none⟩ = some (.int .i64 a) ∧ w'.cell? ⟨b12, 1, none⟩ = some (.int .i64 b)) ∧ w'.cell? ⟨b13, 0, none⟩ = some (.int .i64 a') ∧ w'.cell? ⟨b13, 1, none⟩ = some (.int .i64 b'))
                    ((go_split_ands; refine ⟨⟨?_, ?_⟩, ?_, ?_⟩ <;> first | assumption | (with_reducible exact ca (by assumption)) | (exact ca (w := WA) (by assumption)) | (simp; done)))
                    (first | (go_at_call 24; (with_reducible refine (HF.out _).mono ?_); rintro e w' ⟨rfl, rfl⟩) | (go_at_call 25; (with_reducible refine (HC.out _).mono ?_); rintro e w' ⟨rfl, rfl⟩))
                  all_goals
                    go_wp2_with fail
                    go_meet
                    refine ⟨_, rfl, ⟨?_, ?_⟩, by simp, ?_⟩
                    · exact new_cell (W := WA) (by first | rfl | simp) rfl
                    · exact new_cell (W := WA) (by first | rfl | simp) rfl
                    · exact Below.drew ((Below.refl _ _).alloc (Nat.le_refl _) _)
                case rest =>
                  obtain ⟨b14, rfl, ⟨l0, l1⟩, hb14, hbB⟩ := hcut
                  rename World => WB
                  have z0B := bc hbB z0A
                  have z1B := bc hbB z1A
                  have z2B := bc hbB z2A
                  have HBB := Lib.hid hbB
                  have hsB := hbB.size
                  clear z0A z1A z2A m0 m1 n0 n1 hbB wr0 wr1 wr2 wr3 wr4 HF HC
                  have l0d : WB.drew.cell? ⟨b14, 0, none⟩ = some (.int .i64 (lo + 100 * c)) := l0
                  have l1d : WB.drew.cell? ⟨b14, 1, none⟩ = some (.int .i64 (hi + 100 * c)) := l1
                  have z0d : WB.drew.cell? ⟨w.heap.size, 0, none⟩ = some (.int .i64 sN) := z0B
                  have z1d : WB.drew.cell? ⟨w.heap.size, 1, none⟩ = some (.int .i64 r) := z1B
                  have z2d : WB.drew.cell? ⟨w.heap.size, 2, none⟩ = some (.int .i64 p) := z2B
                  have hl14 : b14 < WB.heap.size := cell_lt l0
                  have hl00 : w.heap.size < WB.heap.size := cell_lt z0B
                  have wr0 : IntKind.i64.wrap (100 * q) = 100 * q := IntWalk.i64_in _ (by omega)
                  have wr1 : IntKind.i64.wrap (1000000 + 100 * q) = 1000000 + 100 * q := IntWalk.i64_in _ (by omega)
                  have HG : Hid (∀ W : World, Calls Tryd.prog 18 #[.int .i64 (1000000 + 100 * q)] W (RP (1000000 + 100 * q) (1000000 + 100 * q) W)) := Lib.hid fun W => exactlyI_any _ W (by omega)
                  have hq3 := fdiv_le_cdiv (n := (lo + 100 * c) * 1000000) (n' := (hi + 100 * c) * 1000000) (d := 1000000 + 100 * q) (by omega) (by omega)
                  have hq4 : 0 ≤ (lo + 100 * c) * 1000000 / (1000000 + 100 * q) := Int.ediv_nonneg (by omega) (by omega)
                  have hq5 : cdiv ((hi + 100 * c) * 1000000) (1000000 + 100 * q) ≤ hi + 100 * c := by
                    rw [cdiv_le (by omega)]
                    exact Int.mul_le_mul_of_nonneg_left (by omega) (by omega)
                  have HT : Hid (∀ W : World, Calls Tryd.prog 26 #[.agg #[.int .i64 (lo + 100 * c), .int .i64 (hi + 100 * c)], .agg #[.int .i64 (1000000 + 100 * q), .int .i64 (1000000 + 100 * q)]] W (RPv ((lo + 100 * c) * 1000000 / (1000000 + 100 * q)) (cdiv ((hi + 100 * c) * 1000000) (1000000 + 100 * q)) W)) := Lib.hid fun W => through_any _ _ _ _ W ⟨by omega, by omega, by omega⟩ ⟨by omega, by omega, by omega⟩ ⟨by omega, by omega, by omega⟩ (by omega) (by omega)
                  generalize (lo + 100 * c) * 1000000 / (1000000 + 100 * q) = X at *
                  generalize cdiv ((hi + 100 * c) * 1000000) (1000000 + 100 * q) = Y at *
                  clear hq5
                  go_upto_region 17 with fail
                  go_cut [15, 16] (fun p q wx => CutC X Y WB wx p q)
                  case first =>
                    go_region_held3 (fun w' => (w'.cell? ⟨b14, 0, none⟩ = some (.int .i64 (lo + 100 * c)) ∧ w'.cell? ⟨b14, 1, none⟩ = some (.int .i64 (hi + 100 * c))) ∧ w'.cell? ⟨w.heap.size, 0, none⟩ = some (.int .i64 sN) ∧ w'.cell? ⟨w.heap.size, 1, none⟩ = some (.int .i64 r) ∧ w'.cell? ⟨w.heap.size, 2, none⟩ = some (.int .i64 p))
                      ((go_split_ands; refine ⟨⟨?_, ?_⟩, ?_, ?_, ?_⟩ <;> first | assumption | (with_reducible exact bc hb (by assumption)) | (with_reducible exact bc hb2 (by assumption)) | (with_reducible exact bc hb3 (by assumption)) | (with_reducible exact ca (by assumption)) | (with_reducible exact ca (bc hb3 (bc hb2 (bc hb (by assumption))))) | ((with_reducible refine sc_blk ?_ (sc_blk ?_ (by assumption))) <;> (try have hbs := hb.size) <;> (try have hbs2 := hb2.size) <;> (try simp at hbs) <;> (try simp at hbs2) <;> (try simp) <;> omega) | (exact ca (w := WB) (by assumption))))
                      (first | (go_at_call 27; (with_reducible refine (HRu.out _).mono ?_); rintro e v1 ⟨rfl, hb⟩) | (go_at_call 18; (with_reducible refine (HG.out _).mono ?_); rintro e v2 ⟨rfl, hb2⟩) | (go_at_call 26; (with_reducible refine (HT.out _).mono ?_); rintro e v3 ⟨rfl, hb3⟩; (try have tA0 := bc hb3 (bc hb2 (bc hb (new_cell (W := WB) (C := #[.int .i64 0, .int .i64 0]) (T := 28) (b := WB.heap.size) (i := 0) rfl rfl)))); (try have tB0 := bc hb3 (bc hb2 (new_cell (W := v1) (C := #[.int .i64 0, .int .i64 0]) (T := 28) (b := v1.heap.size) (i := 0) rfl rfl))); (try have tC0 := bc hb3 (new_cell (W := v2) (C := #[.int .i64 0, .int .i64 0]) (T := 28) (b := v2.heap.size) (i := 0) rfl rfl)); (try have gA0 := bf hb3 (cell_lt (bc hb2 (bc hb (new_cell (W := WB) (C := #[.int .i64 0, .int .i64 0]) (T := 28) (b := WB.heap.size) (i := 0) rfl rfl)))) (bf hb2 (cell_lt (bc hb (new_cell (W := WB) (C := #[.int .i64 0, .int .i64 0]) (T := 28) (b := WB.heap.size) (i := 0) rfl rfl))) (bf hb (cell_lt (new_cell (W := WB) (C := #[.int .i64 0, .int .i64 0]) (T := 28) (b := WB.heap.size) (i := 0) rfl rfl)) (new_free (W := WB) (C := #[.int .i64 0, .int .i64 0]) (T := 28) (b := WB.heap.size) (i := 0) rfl)))); (try have gB0 := bf hb3 (cell_lt (bc hb2 (new_cell (W := v1) (C := #[.int .i64 0, .int .i64 0]) (T := 28) (b := v1.heap.size) (i := 0) rfl rfl))) (bf hb2 (cell_lt (new_cell (W := v1) (C := #[.int .i64 0, .int .i64 0]) (T := 28) (b := v1.heap.size) (i := 0) rfl rfl)) (new_free (W := v1) (C := #[.int .i64 0, .int .i64 0]) (T := 28) (b := v1.heap.size) (i := 0) rfl))); (try have gC0 := bf hb3 (cell_lt (new_cell (W := v2) (C := #[.int .i64 0, .int .i64 0]) (T := 28) (b := v2.heap.size) (i := 0) rfl rfl)) (new_free (W := v2) (C := #[.int .i64 0, .int .i64 0]) (T := 28) (b := v2.heap.size) (i := 0) rfl)); (try have tA1 := bc hb3 (bc hb2 (bc hb (new_cell (W := WB) (C := #[.int .i64 0, .int .i64 0]) (T := 28) (b := WB.heap.size) (i := 1) rfl rfl)))); (try have tB1 := bc hb3 (bc hb2 (new_cell (W := v1) (C := #[.int .i64 0, .int .i64 0]) (T := 28) (b := v1.heap.size) (i := 1) rfl rfl))); (try have tC1 := bc hb3 (new_cell (W := v2) (C := #[.int .i64 0, .int .i64 0]) (T := 28) (b := v2.heap.size) (i := 1) rfl rfl)); (try have gA1 := bf hb3 (cell_lt (bc hb2 (bc hb (new_cell (W := WB) (C := #[.int .i64 0, .int .i64 0]) (T := 28) (b := WB.heap.size) (i := 1) rfl rfl)))) (bf hb2 (cell_lt (bc hb (new_cell (W := WB) (C := #[.int .i64 0, .int .i64 0]) (T := 28) (b := WB.heap.size) (i := 1) rfl rfl))) (bf hb (cell_lt (new_cell (W := WB) (C := #[.int .i64 0, .int .i64 0]) (T := 28) (b := WB.heap.size) (i := 1) rfl rfl)) (new_free (W := WB) (C := #[.int .i64 0, .int .i64 0]) (T := 28) (b := WB.heap.size) (i := 1) rfl)))); (try have gB1 := bf hb3 (cell_lt (bc hb2 (new_cell (W := v1) (C := #[.int .i64 0, .int .i64 0]) (T := 28) (b := v1.heap.size) (i := 1) rfl rfl))) (bf hb2 (cell_lt (new_cell (W := v1) (C := #[.int .i64 0, .int .i64 0]) (T := 28) (b := v1.heap.size) (i := 1) rfl rfl)) (new_free (W := v1) (C := #[.int .i64 0, .int .i64 0]) (T := 28) (b := v1.heap.size) (i := 1) rfl))); (try have gC1 := bf hb3 (cell_lt (new_cell (W := v2) (C := #[.int .i64 0, .int .i64 0]) (T := 28) (b := v2.heap.size) (i := 1) rfl rfl)) (new_free (W := v2) (C := #[.int .i64 0, .int .i64 0]) (T := 28) (b := v2.heap.size) (i := 1) rfl))))
                    all_goals
                      (try have hz1 := hb.size)
                      (try have hz2 := hb2.size)
                      (try have hz3 := hb3.size)
                      (try simp at hz1)
                      (try simp at hz2)
                      (try simp at hz3)
                      go_wp2_with fail
                      go_meet
                      refine ⟨_, rfl, rfl, ⟨?_, ?_⟩, ?_, ?_, ?_, ?_⟩
                      · first | (with_reducible exact new_cell rfl rfl) | (with_reducible exact sc_far (by simp) (sc_same (by assumption)))
                      · first | (with_reducible exact new_cell rfl rfl) | (with_reducible exact sc_same (sc_far (by simp) (by assumption)))
                      · first | (with_reducible exact new_free rfl) | (rw [frozen_setCell, frozen_setCell]; assumption)
                      · first | (with_reducible exact new_free rfl) | (rw [frozen_setCell, frozen_setCell]; assumption)
                      · first | omega | (simp; omega)
                      · repeat (first | (with_reducible exact Below.refl _ _) | (with_reducible refine bel_set ?_ (by first | omega | (simp; omega))) | (with_reducible refine Below.drew ?_) | (with_reducible refine Below.alloc ?_ (by first | omega | (simp; omega) | (simp; done)) _) | (with_reducible refine Below.trans ?_ (hb3.mono (by first | omega | (simp; omega) | (simp; done)))) | (with_reducible refine Below.trans ?_ (hb2.mono (by first | omega | (simp; omega) | (simp; done)))) | (with_reducible refine Below.trans ?_ (hb.mono (by first | omega | (simp; omega) | (simp; done)))))
                  case rest =>
                    obtain ⟨b15, rfl, rfl, ⟨x0', x1'⟩, g0, g1, hb15, hbC⟩ := hcut
                    rename World => WC
                    have HBall : Hid (Below WI.heap.size WI WC) := HBA.out.trans ((HBB.out.mono hsA).trans (hbC.mono (by omega)))
                    have rbC := HRi.out.below HBall.out
                    obtain ⟨⟨d0, d1⟩, fz⟩ := rbC.cells (show u < sN + 1 by omega)
                    have f0 := fz (u * 2)
                    have f1 := fz (u * 2 + 1)
                    have hgC : g < WB.heap.size := by omega
                    have hne15 : b15 ≠ g := by omega
                    have h15g : g ≤ b15 := by omega
                    have hus : u < sN + 1 := by omega
                    have BASE : Hid (Below g w1 WC) := HBL.out.trans (HBall.out.mono (by omega))
                    have HRC := Lib.hid rbC
                    clear rbC fz hbC l0 l1 l0d l1d z0B z1B z2B z0d z1d z2d wr0 wr1 HG HT
                    have HX1 : Hid (lcl 0 t X = X) := Lib.hid lcl_no
                    have HY1 : Hid (lcl 0 t Y = Y) := Lib.hid lcl_no
                    by_cases ht0 : 0 < t
                    · have q2 : decide ((0 : Int) < (t : Int)) = true := decide_eq_true (by omega)
                      have q3 : decide (0 < t) = true := decide_eq_true (by omega)
                      go_wp2
                      go_roundw
                      case rel =>
                        refine ⟨_, u + 1, rfl, by omega, by go_num, _, (HRC.out.set0 u hus _).set1 u hus _, fun i hi => ?_, fun i hi1 hi2 => ?_, bel_set (bel_set BASE.out (Nat.le_refl g)) (Nat.le_refl g)⟩
                        · unfold updR
                          by_cases ci : i = u
                          · subst ci; rw [if_pos rfl, if_pos rfl, HNu.out, HX1.out, HY1.out]
                          · rw [if_neg ci, if_neg ci]; exact HA1.out i (by omega)
                        · unfold updR
                          rw [if_neg (by omega), if_neg (by omega)]; exact HA2.out i (by omega) hi2
                      case measure => first | (simp [intOf]; done) | (simp [intOf]; omega)
                    · have q2 : decide ((0 : Int) < (t : Int)) = false := decide_eq_false (by omega)
                      have q3 : decide (0 < t) = false := decide_eq_false (by omega)
                      go_wp2
                      go_roundw
                      case rel =>
                        refine ⟨_, u + 1, rfl, by omega, by go_num, _, (HRC.out.set0 u hus _).set1 u hus _, fun i hi => ?_, fun i hi1 hi2 => ?_, bel_set (bel_set BASE.out (Nat.le_refl g)) (Nat.le_refl g)⟩
                        · unfold updR
                          by_cases ci : i = u
                          · subst ci; rw [if_pos rfl, if_pos rfl, HNu.out, HX1.out, HY1.out]
                          · rw [if_neg ci, if_neg ci]; exact HA1.out i (by omega)
                        · unfold updR
                          rw [if_neg (by omega), if_neg (by omega)]; exact HA2.out i (by omega) hi2
                      case measure => first | (simp [intOf]; done) | (simp [intOf]; omega)
            · obtain rfl : u = t + 1 := by omega
              have HRi := Lib.hid hrb
              clear hrb hA1 hA2 hbel
              go_wp2
              go_roundw
              case rel =>
                have e3 : (sN : Int) - 1 - ((j + 1 : Nat) : Int) = (t : Int) - 1 := by have := HET.out; omega
                exact ⟨_, j + 1, rfl, by omega, by rw [e3], A, HRi.out, fun i hi => HA1.out i (by omega), HBL.out⟩
              case measure => first | (simp [intOf]; done) | (simp [intOf]; omega)
        · obtain rfl : j = sN := by omega
          obtain ⟨⟨z0, z1, z2⟩, y0, y1, yf0, yf1⟩ := HQ.out WO hbel
          obtain ⟨⟨q0, q1⟩, _⟩ := hrb.cells (show 0 < j + 1 by omega)
          rw [hA 0 (by omega)] at q0 q1
          unfold valA at q0 q1
          simp only [Nat.zero_mul, Nat.zero_add] at q0 q1
          have e0 : (j : Int) - 1 - (j : Int) = -1 := by omega
          rw [e0]
          have hne : g ≠ w.heap.size + 1 := by omega
          have i3 : (0 : Int) < (j : Int) + 1 := by omega
          obtain ⟨X, hX⟩ : ∃ X, llo j r p c 0 j 0 = X := ⟨_, rfl⟩
          obtain ⟨Y, hY⟩ : ∃ Y, lhi j r p c 0 j 0 = Y := ⟨_, rfl⟩
          rw [hX] at q0
          rw [hY] at q1
          have HXX := Lib.hid hX
          have HYY := Lib.hid hY
          clear hX hY
          clear hrb hA hbel
          go_wp2
          refine bodyPost_ret (res2v (v := .bool true) (b := w.heap.size + 1) Tryd.results12 (by rfl) (by rfl) ⟨sc_far (by simp) (sc_same (by assumption)), sc_same (sc_far (by simp) (by assumption))⟩) rfl ⟨by rw [HXX.out, HYY.out], ?_⟩
          exact Below.setCell (Below.setCell (HBW.out.trans (HBL.out.mono (by omega))) (by show w.heap.size ≤ w.heap.size + 1; omega) _) (by show w.heap.size ≤ w.heap.size + 1; omega) _
end Go.Proofs.YtmidbphfbaldiaaDoor
