/- Reading quotes out of texts: the reference's ParseQuote, and the law. -/
import Derived.Test.YtoecdlemoimacaaDoorTxt11
import Derived.Test.YtoecdlemoimacaaDoorTxt6
namespace Go.Proofs.YtoecdlemoimacaaDoor
open Go.RowKit
set_option linter.unusedVariables false
theorem rd_dg_no (l : List UInt8) (f u : Nat) (N : Int) (h : dg l u < 0) : rdN f (l.drop u) N = N ∧ rdK f (l.drop u) = 0 := by
  by_cases hu : u < l.length
  · refine rd_no l f u N hu ?_
    unfold dg at h
    rw [List.getElem?_eq_getElem hu] at h
    cases hd : isD l[u]
    · rfl
    · simp only at h
      rw [if_pos hd] at h
      unfold isD at hd
      simp at hd
      omega
  · exact rd_end l f u N (by omega)
theorem rd_dg_yes (l : List UInt8) (f u : Nat) (N : Int) (h : ¬ dg l u < 0) : rdN (f + 1) (l.drop u) N = rdN f (l.drop (u + 1)) (10 * N + dg l u) ∧ rdK (f + 1) (l.drop u) = rdK f (l.drop (u + 1)) + 1 := by
  unfold dg at h
  by_cases hu : u < l.length
  · rw [List.getElem?_eq_getElem hu] at h
    simp only at h
    cases hd : isD l[u]
    · rw [if_neg (by rw [hd]; simp)] at h
      omega
    · have e : dg l u = (l[u].toNat : Int) - 48 := by
        unfold dg
        rw [List.getElem?_eq_getElem hu]
        simp only
        rw [if_pos hd]
      rw [e]
      exact rd_yes l f u N hu hd
  · rw [List.getElem?_eq_none (by omega)] at h
    simp at h
theorem toInt_b (b : Bool) (w : World) :
    Calls Tryd.prog 43 #[.bool b] w fun e w' => e = .returned (.int .i64 (if b = true then 1 else 0)) ∧ w = w' := by
  cases b
  all_goals
    go_enter Tryd.func43, Tryd.ntmps43
    go_wp2
    go_ret
    exact ⟨rfl, rfl⟩
set_option maxHeartbeats 4000000 in
theorem parseQ0_any (l : List UInt8) (w : World) (hl : l.length ≤ 1048576) :
    Calls Tryd.prog 21 #[.string ⟨l.toArray⟩] w fun e w' => e = .returned (.int .i64 (rq l)) ∧ w = w' := by
  have HD := Lib.hid (fun (i : Nat) (z : Int) (h : i ≤ 10000000) (hz : z = i) => by
    have q := digit_any l i w hl h
    rw [← hz] at q
    exact q)
  go_enter Tryd.func21, Tryd.ntmps21
  go_wp2_with fail
  go_loop [3, 4] (fun n i => ∃ (t : Nat) (N k : Int), t ≤ 4 ∧ i = .int .i64 k ∧ n = .int .i64 N ∧ Hid (k = t) ∧ 0 ≤ N ∧ N < 10 ^ t ∧ rdN 4 l 0 = rdN (4 - t) (l.drop t) N ∧ rdK 4 l = t + rdK (4 - t) (l.drop t)) (fun _ i => (4 - intOf i).toNat)
  case atStart => exact ⟨0, 0, 0, by omega, rfl, rfl, Lib.hid rfl, by omega, by simp, by simp, by simp⟩
  case round =>
    obtain ⟨t, N, k, ht, rfl, rfl, HK, N0, N1, he1, he2⟩ := hrel
    have HE := Lib.hid (And.intro he1 he2)
    have hk := HK.out
    have hP : (10 : Int) ^ t ≤ 10000 := by
      have : t = 0 ∨ t = 1 ∨ t = 2 ∨ t = 3 ∨ t = 4 := by omega
      rcases this with rfl | rfl | rfl | rfl | rfl <;> decide
    have hNb : N ≤ 10000 := by omega
    have HP := Lib.hid N1
    have hdb := dg_bd l t
    have H0 := Lib.hid (HD.out t k (by omega) hk)
    have hno := rd_dg_no l (4 - t) t N
    have hyes := rd_dg_yes l (3 - t) t N
    have hs : (10 : Int) ^ (t + 1) = 10 * 10 ^ t := by rw [Int.pow_succ, Int.mul_comm]
    have HNo := Lib.hid hno
    have HYes := Lib.hid hyes
    have HPs := Lib.hid hs
    clear he1 he2 hP N1 hno hyes hs
    have hkb : 0 ≤ k ∧ k ≤ 4 := by omega
    by_cases hgo : t < 4 ∧ ¬ dg l t < 0
    · obtain ⟨h4, hd0⟩ := hgo
      have i1 : k < 4 := by omega
      have d1 : decide (0 ≤ dg l t) = true := decide_eq_true (by omega)
      have hd1 : 0 ≤ dg l t := by omega
      obtain ⟨r1, r2⟩ := HYes.out hd0
      have HR : Hid (rdN 4 l 0 = rdN (4 - (t + 1)) (l.drop (t + 1)) (10 * N + dg l t) ∧ rdK 4 l = (t + 1) + rdK (4 - (t + 1)) (l.drop (t + 1))) := Lib.hid (by
        obtain ⟨e1, e2⟩ := HE.out
        rw [show 4 - t = (3 - t) + 1 by omega] at e1 e2
        rw [e1, e2, r1, r2, show 4 - (t + 1) = 3 - t by omega]
        exact ⟨rfl, by omega⟩)
      have HN : Hid (0 ≤ 10 * N + dg l t ∧ 10 * N + dg l t < 10 ^ (t + 1)) := Lib.hid (by rw [HPs.out]; have := HP.out; omega)
      have w1 : IntKind.i64.wrap (10 * N) = 10 * N := IntWalk.i64_in _ (by omega)
      have w2 : IntKind.i64.wrap (10 * N + dg l t) = 10 * N + dg l t := IntWalk.i64_in _ (by omega)
      have w3 : IntKind.i64.wrap (k + 1) = k + 1 := IntWalk.i64_in _ (by omega)
      have HM : Hid ((4 - (k + 1)).toNat < (4 - k).toNat) := Lib.hid (by omega)
      have HK2 : Hid (k + 1 = ((t + 1 : Nat) : Int)) := Lib.hid (by omega)
      clear r1 r2 HYes HNo hk hd0
      generalize dg l t = D at *
      go_wp2_with fail
      refine (H0.out).mono ?_
      rintro e v1 ⟨rfl, rfl⟩
      go_wp2_with fail
      refine (H0.out).mono ?_
      rintro e v2 ⟨rfl, rfl⟩
      go_wp2
      go_round
      case rel => exact ⟨t + 1, 10 * N + D, k + 1, by omega, rfl, rfl, HK2, HN.out.1, HN.out.2, HR.out.1, HR.out.2⟩
      case measure => simpa [intOf] using HM.out
    · have hend : rdN 4 l 0 = N ∧ rdK 4 l = t := by
        obtain ⟨e1, e2⟩ := HE.out
        by_cases h4 : t < 4
        · obtain ⟨r1, r2⟩ := HNo.out (by omega)
          rw [e1, e2, r1, r2]
          exact ⟨rfl, rfl⟩
        · have : t = 4 := by omega
          subst this
          rw [e1, e2]
          simp [rdN, rdK]
      obtain ⟨e1, e2⟩ := hend
      have hr : rq l = if dg l (t + 1) < 0 ∨ dg l (t + 2) < 0 then -1 else 64 * N + 2 * (10 * dg l (t + 1) + dg l (t + 2)) + (if l.length = t + 4 then 1 else 0) := by
        unfold rq
        rw [e1, e2]
      have HR := Lib.hid hr
      have H1 := Lib.hid (HD.out (t + 1) (k + 1) (by omega) (by omega))
      have H2 := Lib.hid (HD.out (t + 2) (k + 2) (by omega) (by omega))
      have b1 := dg_bd l (t + 1)
      have b2 := dg_bd l (t + 2)
      have w1 : IntKind.i64.wrap (k + 1) = k + 1 := IntWalk.i64_in _ (by omega)
      have w2 : IntKind.i64.wrap (k + 2) = k + 2 := IntWalk.i64_in _ (by omega)
      have w3 : IntKind.i64.wrap (k + 4) = k + 4 := IntWalk.i64_in _ (by omega)
      have w4 : IntKind.i64.wrap (64 * N) = 64 * N := IntWalk.i64_in _ (by omega)
      have w5 : IntKind.i64.wrap (10 * dg l (t + 1)) = 10 * dg l (t + 1) := IntWalk.i64_in _ (by omega)
      have w6 : IntKind.i64.wrap (10 * dg l (t + 1) + dg l (t + 2)) = 10 * dg l (t + 1) + dg l (t + 2) := IntWalk.i64_in _ (by omega)
      have w7 : IntKind.i64.wrap (2 * (10 * dg l (t + 1) + dg l (t + 2))) = 2 * (10 * dg l (t + 1) + dg l (t + 2)) := IntWalk.i64_in _ (by omega)
      have w8 : IntKind.i64.wrap (64 * N + 2 * (10 * dg l (t + 1) + dg l (t + 2))) = 64 * N + 2 * (10 * dg l (t + 1) + dg l (t + 2)) := IntWalk.i64_in _ (by omega)
      have w9 : IntKind.i64.wrap (64 * N + 2 * (10 * dg l (t + 1) + dg l (t + 2)) + 1) = 64 * N + 2 * (10 * dg l (t + 1) + dg l (t + 2)) + 1 := IntWalk.i64_in _ (by omega)
      have hlen : ((l.length : Int) == k + 4) = decide (l.length = t + 4) := by
        rw [Bool.eq_iff_iff, beq_iff_eq, decide_eq_true_iff]
        omega
      have HLen := Lib.hid hlen
      have hcond : (t < 4 → dg l t < 0) := fun h => by omega
      clear hr hlen e1 e2 HYes HNo HE HP HPs
      by_cases h4 : t < 4
      · have hneg := hcond h4
        have i1 : k < 4 := by omega
        have d1 : decide (0 ≤ dg l t) = false := decide_eq_false (by omega)
        clear hcond hk hgo
        generalize dg l t = D at *
        obtain ⟨A, hA⟩ : ∃ A, A = dg l (t + 1) := ⟨_, rfl⟩
        obtain ⟨C, hC⟩ : ∃ C, C = dg l (t + 2) := ⟨_, rfl⟩
        rw [← hA] at HR H1 b1 w5 w6 w7 w8 w9
        rw [← hC] at HR H2 b2 w6 w7 w8 w9
        clear hA hC
        by_cases hA : A < 0
        · have hr : rq l = -1 := by rw [HR.out, if_pos (.inl hA)]
          have HRR := Lib.hid hr
          have dA : decide (A < 0) = true := decide_eq_true hA
          clear hr
          go_wp2_with fail
          refine (H0.out).mono ?_
          rintro e v1 ⟨rfl, rfl⟩
          go_wp2_with fail
          refine (H1.out).mono ?_
          rintro e x1 ⟨rfl, rfl⟩
          go_wp2_with fail
          refine (H2.out).mono ?_
          rintro e x2 ⟨rfl, rfl⟩
          go_wp2
          go_ret
          exact ⟨ret_int HRR.out.symm, rfl⟩
        · have dA : decide (A < 0) = false := decide_eq_false hA
          by_cases hC : C < 0
          · have hr : rq l = -1 := by rw [HR.out, if_pos (.inr hC)]
            have HRR := Lib.hid hr
            have dC : decide (C < 0) = true := decide_eq_true hC
            clear hr
            go_wp2_with fail
            refine (H0.out).mono ?_
            rintro e v1 ⟨rfl, rfl⟩
            go_wp2_with fail
            refine (H1.out).mono ?_
            rintro e x1 ⟨rfl, rfl⟩
            go_wp2_with fail
            refine (H2.out).mono ?_
            rintro e x2 ⟨rfl, rfl⟩
            go_wp2
            go_ret
            exact ⟨ret_int HRR.out.symm, rfl⟩
          · have dC : decide (C < 0) = false := decide_eq_false hC
            by_cases hLn : l.length = t + 4
            · have hr : rq l = 64 * N + 2 * (10 * A + C) + 1 := by rw [HR.out, if_neg (by omega), if_pos hLn]
              have HRR := Lib.hid hr
              have hlen : ((l.length : Int) == k + 4) = true := by rw [HLen.out]; exact decide_eq_true hLn
              clear hLn
              clear hr
              go_wp2_with fail
              refine (H0.out).mono ?_
              rintro e v1 ⟨rfl, rfl⟩
              go_wp2_with fail
              refine (H1.out).mono ?_
              rintro e x1 ⟨rfl, rfl⟩
              go_wp2_with fail
              refine (H2.out).mono ?_
              rintro e x2 ⟨rfl, rfl⟩
              go_wp2_with fail
              refine (toInt_b true _).mono ?_
              rintro e x3 ⟨rfl, rfl⟩
              go_wp2
              go_ret
              exact ⟨ret_int HRR.out.symm, rfl⟩
            · have hr : rq l = 64 * N + 2 * (10 * A + C) := by rw [HR.out, if_neg (by omega), if_neg hLn, Int.add_zero]
              have HRR := Lib.hid hr
              have hlen : ((l.length : Int) == k + 4) = false := by rw [HLen.out]; exact decide_eq_false hLn
              clear hLn
              clear hr
              go_wp2_with fail
              refine (H0.out).mono ?_
              rintro e v1 ⟨rfl, rfl⟩
              go_wp2_with fail
              refine (H1.out).mono ?_
              rintro e x1 ⟨rfl, rfl⟩
              go_wp2_with fail
              refine (H2.out).mono ?_
              rintro e x2 ⟨rfl, rfl⟩
              go_wp2_with fail
              refine (toInt_b false _).mono ?_
              rintro e x3 ⟨rfl, rfl⟩
              go_wp2
              go_ret
              exact ⟨ret_int HRR.out.symm, rfl⟩
      · have i1 : ¬ k < 4 := by omega
        have i2 : decide (k < 4) = false := decide_eq_false i1
        clear hcond hk hgo
        obtain ⟨A, hA⟩ : ∃ A, A = dg l (t + 1) := ⟨_, rfl⟩
        obtain ⟨C, hC⟩ : ∃ C, C = dg l (t + 2) := ⟨_, rfl⟩
        rw [← hA] at HR H1 b1 w5 w6 w7 w8 w9
        rw [← hC] at HR H2 b2 w6 w7 w8 w9
        clear hA hC
        by_cases hA : A < 0
        · have hr : rq l = -1 := by rw [HR.out, if_pos (.inl hA)]
          have HRR := Lib.hid hr
          have dA : decide (A < 0) = true := decide_eq_true hA
          clear hr
          go_wp2_with fail
          refine (H1.out).mono ?_
          rintro e x1 ⟨rfl, rfl⟩
          go_wp2_with fail
          refine (H2.out).mono ?_
          rintro e x2 ⟨rfl, rfl⟩
          go_wp2
          go_ret
          exact ⟨ret_int HRR.out.symm, rfl⟩
        · have dA : decide (A < 0) = false := decide_eq_false hA
          by_cases hC : C < 0
          · have hr : rq l = -1 := by rw [HR.out, if_pos (.inr hC)]
            have HRR := Lib.hid hr
            have dC : decide (C < 0) = true := decide_eq_true hC
            clear hr
            go_wp2_with fail
            refine (H1.out).mono ?_
            rintro e x1 ⟨rfl, rfl⟩
            go_wp2_with fail
            refine (H2.out).mono ?_
            rintro e x2 ⟨rfl, rfl⟩
            go_wp2
            go_ret
            exact ⟨ret_int HRR.out.symm, rfl⟩
          · have dC : decide (C < 0) = false := decide_eq_false hC
            by_cases hLn : l.length = t + 4
            · have hr : rq l = 64 * N + 2 * (10 * A + C) + 1 := by rw [HR.out, if_neg (by omega), if_pos hLn]
              have HRR := Lib.hid hr
              have hlen : ((l.length : Int) == k + 4) = true := by rw [HLen.out]; exact decide_eq_true hLn
              clear hLn
              clear hr
              go_wp2_with fail
              refine (H1.out).mono ?_
              rintro e x1 ⟨rfl, rfl⟩
              go_wp2_with fail
              refine (H2.out).mono ?_
              rintro e x2 ⟨rfl, rfl⟩
              go_wp2_with fail
              refine (toInt_b true _).mono ?_
              rintro e x3 ⟨rfl, rfl⟩
              go_wp2
              go_ret
              exact ⟨ret_int HRR.out.symm, rfl⟩
            · have hr : rq l = 64 * N + 2 * (10 * A + C) := by rw [HR.out, if_neg (by omega), if_neg hLn, Int.add_zero]
              have HRR := Lib.hid hr
              have hlen : ((l.length : Int) == k + 4) = false := by rw [HLen.out]; exact decide_eq_false hLn
              clear hLn
              clear hr
              go_wp2_with fail
              refine (H1.out).mono ?_
              rintro e x1 ⟨rfl, rfl⟩
              go_wp2_with fail
              refine (H2.out).mono ?_
              rintro e x2 ⟨rfl, rfl⟩
              go_wp2_with fail
              refine (toInt_b false _).mono ?_
              rintro e x3 ⟨rfl, rfl⟩
              go_wp2
              go_ret
              exact ⟨ret_int HRR.out.symm, rfl⟩
set_option maxHeartbeats 2000000 in
theorem parseQS_any (l : List UInt8) (w : World) (hl : l.length ≤ 1048576) :
    Calls Tryd.prog 9 #[.string ⟨l.toArray⟩] w fun e w' => e = .returned (.int .i64 (spQ l)) ∧ Below w.heap.size w w' := by
  have H0 := Lib.hid (parseQ0_any l w hl)
  have h1 : ¬ inR (rq l) 0 19200 = true → spQ l = -1 := fun h => by unfold spQ; rw [if_neg (fun k => h k.1)]
  have h2 : inR (rq l) 0 19200 = true → qtx (rq l).toNat = l → spQ l = rq l := fun h k => by unfold spQ; rw [if_pos ⟨h, k⟩]
  have h3 : ¬ qtx (rq l).toNat = l → spQ l = -1 := fun h => by unfold spQ; rw [if_neg (fun k => h k.2)]
  have H1 := Lib.hid h1
  have H2 := Lib.hid h2
  have H3 := Lib.hid h3
  clear h1 h2 h3
  cases hr : inR (rq l) 0 19200
  · have hs := H1.out (by rw [hr]; simp)
    have HS := Lib.hid hs
    clear hs
    generalize rq l = Q at *
    go_enter Tryd.func9, Tryd.ntmps9
    have HB := Lib.hid (Below.refl w.heap.size w)
    go_wp2_with fail
    refine (H0.out).mono ?_
    rintro e v1 ⟨rfl, rfl⟩
    go_wp2_with fail
    refine (inRange_any _ _ _ _).mono ?_
    rintro e v2 ⟨rfl, rfl⟩
    go_wp2
    go_ret
    exact ⟨ret_int HS.out.symm, HB.out⟩
  · obtain ⟨r0, r1⟩ := inR_true.1 hr
    have hF := fun W => fmtQuoteS0_any (rq l).toNat W (by omega)
    rw [show (((rq l).toNat : Nat) : Int) = rq l by omega] at hF
    have HF := Lib.hid hF
    have H2' := Lib.hid (H2.out hr)
    clear hF r0 r1 H1 H2
    generalize qtx (rq l).toNat = S at *
    generalize rq l = Q at *
    go_enter Tryd.func9, Tryd.ntmps9
    have HB := Lib.hid (Below.refl w.heap.size w)
    go_wp2_with fail
    refine (H0.out).mono ?_
    rintro e v1 ⟨rfl, rfl⟩
    go_wp2_with fail
    refine (inRange_any _ _ _ _).mono ?_
    rintro e v2 ⟨rfl, rfl⟩
    go_wp2_with fail
    refine (HF.out _).mono ?_
    rintro e v3 ⟨rfl, hb⟩
    have hszv3 := below_size hb
    try simp at hszv3
    have HBq : Below w.heap.size w v3 := Below.trans (by repeat (first | exact Below.refl _ _ | exact HB.out | refine Below.drew ?_ | refine bel_drewN _ ?_ | refine Below.alloc ?_ (by first | omega | (simp; done) | (simp; omega)) _ | refine Below.setCell ?_ (by first | (show _ ≤ _; omega) | (simp; done) | (simp; omega)) _)) (hb.mono (by first | omega | (simp; done) | (simp; omega)))
    have HB := Lib.hid HBq
    clear HBq hb
    by_cases hs : S = l
    · have HS := Lib.hid (H2'.out hs)
      subst hs
      go_wp2
      go_ret
      exact ⟨ret_int HS.out.symm, HB.out⟩
    · have HS := Lib.hid (H3.out hs)
      have hb1 : (S == l) = false := by simpa using hs
      have hs' : ¬ l = S := fun e => hs e.symm
      go_wp2
      all_goals first
        | (go_ret; exact ⟨ret_int HS.out.symm, HB.out⟩)
        | contradiction
        | (exfalso; simp_all; done)
set_option maxHeartbeats 2000000 in
theorem fnExactParseQuote_walk (s : ByteArray) (w : World) (hT : PT w) (hQ : QV w) (hs : s.size ≤ maxLen) :
    Calls Tryd.prog 3 #[.string s] w fun e w' => e = .returned (.bool true) ∧ Below w.heap.size w w' := by
  obtain ⟨l, rfl⟩ : ∃ l : List UInt8, s = ⟨l.toArray⟩ := ⟨s.data.toList, by cases s; simp⟩
  rw [size_lit] at hs
  unfold maxLen at hs
  by_cases hbig : 1048576 < l.length
  · have i1 : (1048576 : Int) < (l.length : Int) := by omega
    go_enter Tryd.func3, Tryd.ntmps3
    go_wp2
    go_ret
    exact ⟨rfl, Below.refl _ _⟩
  have hl : l.length ≤ 1048576 := by omega
  have i1 : ¬ (1048576 : Int) < (l.length : Int) := by omega
  have HT := Lib.hid hT
  have HQ := Lib.hid hQ
  have HI := Lib.hid (fun W (a : PT W) (b : QV W) => parseQI_any l W hl a b)
  have HS := Lib.hid (fun W => parseQS_any l W hl)
  rw [quote_same l] at HI
  clear hT hQ hs hbig
  generalize spQ l = V at *
  go_enter Tryd.func3, Tryd.ntmps3
  have HB := Lib.hid (Below.refl w.heap.size w)
  go_wp2_with fail
  refine (HS.out _).mono ?_
  rintro e w1 ⟨rfl, hb⟩
  have hszw1 := below_size hb
  try simp at hszw1
  have HBq : Below w.heap.size w w1 := Below.trans (by repeat (first | exact Below.refl _ _ | exact HB.out | refine Below.drew ?_ | refine bel_drewN _ ?_ | refine Below.alloc ?_ (by first | omega | (simp; done) | (simp; omega)) _ | refine Below.setCell ?_ (by first | (show _ ≤ _; omega) | (simp; done) | (simp; omega)) _)) (hb.mono (by first | omega | (simp; done) | (simp; omega)))
  have HB := Lib.hid HBq
  clear HBq hb
  go_wp2_with fail
  refine (HI.out _ (HT.out.below HB.out) (HQ.out.below HB.out)).mono ?_
  rintro e w2 ⟨rfl, hb⟩
  have hszw2 := below_size hb
  try simp at hszw2
  have HBq : Below w.heap.size w w2 := Below.trans (by repeat (first | exact Below.refl _ _ | exact HB.out | refine Below.drew ?_ | refine bel_drewN _ ?_ | refine Below.alloc ?_ (by first | omega | (simp; done) | (simp; omega)) _ | refine Below.setCell ?_ (by first | (show _ ≤ _; omega) | (simp; done) | (simp; omega)) _)) (hb.mono (by first | omega | (simp; done) | (simp; omega)))
  have HB := Lib.hid HBq
  clear HBq hb
  go_wp2
  go_ret
  exact ⟨ret_bool (by first | rfl | simp), HB.out⟩
end Go.Proofs.YtoecdlemoimacaaDoor
