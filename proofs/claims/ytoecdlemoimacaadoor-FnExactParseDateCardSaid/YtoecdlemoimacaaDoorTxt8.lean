/- Reading dates out of texts: ParseDate, exactly. -/
import Derived.Test.YtoecdlemoimacaaDoorTxt7
namespace Go.Proofs.YtoecdlemoimacaaDoor
open Go.RowKit
set_option linter.unusedVariables false
theorem CU.new (w : World) (l : List UInt8) (k : Int) : CU (w.alloc (.cells #[.string ⟨l.toArray⟩, .int .i64 k] 62)) w.heap.size l k := by
  unfold CU World.alloc
  simp
theorem Keep.setNew {R : Nat} {a w : World} (h : Keep R a w) {p : Addr} (hp : a.heap.size ≤ p.block) (u : Value) : Keep R a (w.setCell p u) :=
  ⟨h.os, h.tape, h.output, by simp [World.setCell]; exact h.size, fun k hk hr => (Below.heap_setCell _ _ _ _ (by omega)).trans (h.block k hk hr)⟩
theorem resD {fn : Func} {p : Tmp} (hr : fn.results = #[.cell p 33]) {tmps : Array Value} {w : World} {b : Nat} {n0 n1 n2 : Int} (hp : tmps[p]?.getD undef = .pointer (some ⟨b, 0, none⟩)) (h : DA w b n0 n1 n2) :
    (results fn tmps).run Tryd.prog w = .ok (.agg #[.int .i64 n0, .int .i64 n1, .int .i64 n2]) w := by
  obtain ⟨c0, c1, c2⟩ := h.cell
  simp [results, hr, hp, go_sem, c0, c1, c2]
theorem resDt {fn : Func} {p q : Tmp} (hr : fn.results = #[.cell p 33, .tmp q]) {tmps : Array Value} {w : World} {b : Nat} {n0 n1 n2 : Int} {u : Value} (hp : tmps[p]?.getD undef = .pointer (some ⟨b, 0, none⟩)) (hq : tmps[q]?.getD undef = u) (h : DA w b n0 n1 n2) :
    (results fn tmps).run Tryd.prog w = .ok (.tuple #[.agg #[.int .i64 n0, .int .i64 n1, .int .i64 n2], u]) w := by
  obtain ⟨c0, c1, c2⟩ := h.cell
  simp [results, hr, hp, hq, go_sem, c0, c1, c2]
theorem DA.set3 {w : World} {b : Nat} {y m d : Int} (h : DA w b y m d) (n0 n1 n2 : Int) : DA (((w.setCell ⟨b, 0, none⟩ (.int .i64 n0)).setCell ⟨b, 1, none⟩ (.int .i64 n1)).setCell ⟨b, 2, none⟩ (.int .i64 n2)) b n0 n1 n2 :=
  (((h.set n0).1.set n1).2.1.set n2).2.2
def CDP (b : Nat) (l : List UInt8) (w : World) (e : Ending) (w' : World) : Prop :=
  e = .returned (.agg #[.int .i64 (cY l), .int .i64 (cM l), .int .i64 (cD l)]) ∧ Keep b w w'
set_option maxHeartbeats 4000000 in
theorem cdate_any (b : Nat) (l : List UInt8) (w : World) (hl : l.length ≤ 1048576) (hc : CU w b l ((0 : Nat) : Int)) :
    Calls Tryd.prog 41 #[.pointer (some ⟨b, 0, none⟩)] w (CDP b l w) := by
  have hb := hc.lt
  have hC0 := (hc.alloc (.cells #[.int .i64 0, .int .i64 0, .int .i64 0] 33)).alloc (.cells #[.int .i64 0, .int .i64 0, .int .i64 0] 33)
  have hY0 := (DA.new w 0 0 0).alloc (.cells #[.int .i64 0, .int .i64 0, .int .i64 0] 33)
  have hD0 := DA.new (w.alloc (.cells #[.int .i64 0, .int .i64 0, .int .i64 0] 33)) 0 0 0
  have hsz : (w.alloc (.cells #[.int .i64 0, .int .i64 0, .int .i64 0] 33)).heap.size = w.heap.size + 1 := by simp
  rw [hsz] at hD0
  have hK0 : Keep b w ((w.alloc (.cells #[.int .i64 0, .int .i64 0, .int .i64 0] 33)).alloc (.cells #[.int .i64 0, .int .i64 0, .int .i64 0] 33)) := ((Keep.refl b w).alloc _).alloc _
  have n1 : w.heap.size ≠ b := by omega
  have n2 : w.heap.size + 1 ≠ b := by omega
  have n3 : w.heap.size + 1 ≠ w.heap.size := by omega
  have HC0 := Lib.hid hC0
  have HY0 := Lib.hid hY0
  have HD0 := Lib.hid hD0
  have HK0 := Lib.hid hK0
  clear hc hC0 hY0 hD0 hK0 hsz
  go_enter Tryd.func41, Tryd.ntmps41
  go_wp2_with fail
  refine (cnumber_any b l 0 _ hl (Nat.zero_le _) HC0.out).mono ?_
  rintro e v1 ⟨rfl, c1, k1⟩
  obtain ⟨X, hX⟩ : ∃ X, X = rdN 6 (l.drop 0) 0 := ⟨_, rfl⟩
  rw [← hX]
  have HX := Lib.hid hX
  clear hX
  have y1 := HY0.out.keep k1 n1
  have d1 := HD0.out.keep k1 n2
  have K1 := Lib.hid (HK0.out.trans k1)
  obtain ⟨f0, f1, f2⟩ := d1.free
  obtain ⟨q0, q1, q2⟩ := d1.cell
  have D1 := Lib.hid d1
  have Y1 := Lib.hid y1
  have C1 := Lib.hid c1
  clear c1 k1 y1 d1 HC0 HY0 HD0 HK0
  go_wp2_with fail
  refine (cskip_any b l (nA l 0) _ hl (nA_le (Nat.zero_le _)) (C1.out.far n2 _)).mono ?_
  rintro e v2 ⟨rfl, c2, k2⟩
  have d2 := (D1.out.set X).1.keep k2 n2
  have y2 := (Y1.out.far n3 (.int .i64 X) (o := 0)).keep k2 n1
  have K2 := Lib.hid ((K1.out.setNew (p := ⟨w.heap.size + 1, 0, none⟩) (Nat.le_succ _) (.int .i64 X)).trans k2)
  have e1 : skA l (nA l 0) = p1 l := rfl
  rw [e1] at c2
  have hp1 : p1 l ≤ l.length := skA_le (nA_le (Nat.zero_le _))
  have D2 := Lib.hid d2
  have Y2 := Lib.hid y2
  have C2 := Lib.hid c2
  clear c2 k2 y2 d2 K1 D1 Y1 C1 e1 f0 f1 f2 q0 q1 q2
  go_wp2_with fail
  refine (cnumber_any b l (p1 l) _ hl hp1 C2.out).mono ?_
  rintro e v3 ⟨rfl, c3, k3⟩
  obtain ⟨M, hM⟩ : ∃ M, M = rdN 6 (l.drop (p1 l)) 0 := ⟨_, rfl⟩
  rw [← hM]
  have HM := Lib.hid hM
  clear hM
  have y3 := Y2.out.keep k3 n1
  have d3 := D2.out.keep k3 n2
  have K3 := Lib.hid (K2.out.trans k3)
  obtain ⟨f0, f1, f2⟩ := d3.free
  obtain ⟨q0, q1, q2⟩ := d3.cell
  have D3 := Lib.hid d3
  have Y3 := Lib.hid y3
  have C3 := Lib.hid c3
  clear c3 k3 y3 d3 D2 Y2 C2 K2
  go_wp2_with fail
  refine (cskip_any b l (nA l (p1 l)) _ hl (nA_le hp1) (C3.out.far n2 _)).mono ?_
  rintro e v4 ⟨rfl, c4, k4⟩
  have d4 := (D3.out.set M).2.1.keep k4 n2
  have y4 := (Y3.out.far n3 (.int .i64 M) (o := 1)).keep k4 n1
  have K4 := Lib.hid ((K3.out.setNew (p := ⟨w.heap.size + 1, 1, none⟩) (Nat.le_succ _) (.int .i64 M)).trans k4)
  have e1 : skA l (nA l (p1 l)) = p2 l := rfl
  rw [e1] at c4
  have hp2 : p2 l ≤ l.length := skA_le (nA_le hp1)
  have D4 := Lib.hid d4
  have Y4 := Lib.hid y4
  have C4 := Lib.hid c4
  clear c4 k4 y4 d4 K3 D3 Y3 C3 e1 f0 f1 f2 q0 q1 q2
  go_wp2_with fail
  refine (cnumber_any b l (p2 l) _ hl hp2 C4.out).mono ?_
  rintro e v5 ⟨rfl, c5, k5⟩
  obtain ⟨D, hD⟩ : ∃ D, D = rdN 6 (l.drop (p2 l)) 0 := ⟨_, rfl⟩
  rw [← hD]
  have HD := Lib.hid hD
  clear hD
  have y5 := Y4.out.keep k5 n1
  have d5 := D4.out.keep k5 n2
  have K5 := Lib.hid (K4.out.trans k5)
  obtain ⟨f0, f1, f2⟩ := d5.free
  obtain ⟨q0, q1, q2⟩ := d5.cell
  obtain ⟨g0, g1, g2⟩ := y5.free
  obtain ⟨r0, r1, r2⟩ := y5.cell
  have D5 := Lib.hid d5
  have Y5 := Lib.hid y5
  clear c5 k5 y5 d5 D4 Y4 C4 K4
  go_wp2
  have hy := ((Y5.out.far n3 (.int .i64 D) (o := 2)).set3 X M D)
  have hk := (((K5.out.setNew (p := ⟨w.heap.size + 1, 2, none⟩) (Nat.le_succ _) (.int .i64 D)).setNew (p := ⟨w.heap.size, 0, none⟩) (Nat.le_refl _) (.int .i64 X)).setNew (p := ⟨w.heap.size, 1, none⟩) (Nat.le_refl _) (.int .i64 M)).setNew (p := ⟨w.heap.size, 2, none⟩) (Nat.le_refl _) (.int .i64 D)
  exact bodyPost_ret (resD Tryd.results41 (by rfl) hy) rfl ⟨by rw [HX.out, HM.out, HD.out]; rfl, hk⟩
def pv (b : Bool) (x : Int) : Int := if b = true then x else 0
def PDP (l : List UInt8) (B : Bool) (y m d : Int) (w : World) (e : Ending) (w' : World) : Prop :=
  e = .returned (.tuple #[.agg #[.int .i64 (pv B y), .int .i64 (pv B m), .int .i64 (pv B d)], .bool B]) ∧ Below w.heap.size w w'
set_option maxHeartbeats 4000000 in
theorem parseI_any (l : List UInt8) (w : World) (hl : l.length ≤ 1048576) (hT : PT w) (hM : MD w) :
    Calls Tryd.prog 19 #[.string ⟨l.toArray⟩] w (PDP l (imOk l) (cY l) (cM l) (cD l) w) := by
  have hM1 := hM.size
  have hC0 : CU ((w.alloc (.cells #[.int .i64 0, .int .i64 0, .int .i64 0] 33)).alloc (.cells #[.string ⟨l.toArray⟩, .int .i64 0] 62)) (w.heap.size + 1) l ((0 : Nat) : Int) := by
    have h := CU.new (w.alloc (.cells #[.int .i64 0, .int .i64 0, .int .i64 0] 33)) l ((0 : Nat) : Int)
    simpa using h
  have hY0 := (DA.new w 0 0 0).alloc (.cells #[.string ⟨l.toArray⟩, .int .i64 0] 62)
  have n1 : w.heap.size ≠ w.heap.size + 1 := by omega
  have hB0 : Below w.heap.size w ((w.alloc (.cells #[.int .i64 0, .int .i64 0, .int .i64 0] 33)).alloc (.cells #[.string ⟨l.toArray⟩, .int .i64 0] 62)) := ((Below.refl _ _).alloc (Nat.le_refl _) _).alloc (by simp) _
  have hsz : ((w.alloc (.cells #[.int .i64 0, .int .i64 0, .int .i64 0] 33)).alloc (.cells #[.string ⟨l.toArray⟩, .int .i64 0] 62)).heap.size = w.heap.size + 1 + 1 := by simp
  have HF := Lib.hid (fun W (a : PT W) (b : MD W) => fmtDateI_any (cY l) (cM l) (cD l) W a b)
  have HCD := Lib.hid (fun W (h : CU W (w.heap.size + 1) l ((0 : Nat) : Int)) => cdate_any (w.heap.size + 1) l W hl h)
  unfold CDP at HCD
  obtain ⟨B, hB⟩ : ∃ B, B = imOk l := ⟨_, rfl⟩
  have hI1 : l = [] → B = false := fun h => by rw [hB, h]; unfold imOk; simp
  have hI2 : ¬ l = [] → dateTx (cY l) (cM l) (cD l) = l → B = true := fun h k => by rw [hB]; unfold imOk; rw [k]; simp [h]
  have hI3 : ¬ dateTx (cY l) (cM l) (cD l) = l → B = false := fun k => by rw [hB]; unfold imOk; simp [k]
  rw [← hB]
  clear hB
  have HC0 := Lib.hid hC0
  have HY0 := Lib.hid hY0
  have HB0 := Lib.hid hB0
  have HSz := Lib.hid hsz
  have HT := Lib.hid hT
  have HM := Lib.hid hM
  clear hC0 hY0 hB0 hsz hT hM
  have HI1 := Lib.hid hI1
  have HI2 := Lib.hid hI2
  have HI3 := Lib.hid hI3
  clear hI1 hI2 hI3
  generalize dateTx (cY l) (cM l) (cD l) = S at *
  generalize cY l = Y at *
  generalize cM l = M at *
  generalize cD l = D at *
  go_enter Tryd.func19, Tryd.ntmps19
  go_wp2_with fail
  refine (HCD.out _ HC0.out).mono ?_
  rintro e v1 ⟨rfl, k1⟩
  have y1 := HY0.out.keep k1 n1
  have b1 : Below w.heap.size w v1 := HB0.out.trans (k1.below (by omega) (by rw [HSz.out]; omega))
  have hs1 : w.heap.size + 1 + 1 ≤ v1.heap.size := by have := k1.size; rw [HSz.out] at this; exact this
  have Y1 := Lib.hid y1
  have HB := Lib.hid b1
  clear k1 y1 b1 HC0 HY0 HB0 HSz HCD
  have hyl : w.heap.size < v1.heap.size := by omega
  by_cases h0 : l = []
  · have hBf := HI1.out h0
    subst hBf
    subst h0
    have y2 := (Y1.out.set3 0 0 0).alloc (.cells #[.int .i64 Y, .int .i64 M, .int .i64 D] 33)
    obtain ⟨f0, f1, f2⟩ := Y1.out.free
    obtain ⟨q0, q1, q2⟩ := Y1.out.cell
    have hne : w.heap.size ≠ v1.heap.size := by omega
    have Y2 := Lib.hid y2
    clear y2
    go_wp2
    exact bodyPost_ret (resDt Tryd.results19 (by rfl) rfl Y2.out) rfl ⟨rfl, (((HB.out.setCell (Nat.le_refl _) _).setCell (Nat.le_refl _) _).setCell (Nat.le_refl _) _).alloc (by simp [World.setCell]; omega) _⟩
  · have hTa : PT (v1.alloc (.cells #[.int .i64 Y, .int .i64 M, .int .i64 D] 33)) := HT.out.below (HB.out.alloc (by omega) _)
    have hMa : MD (v1.alloc (.cells #[.int .i64 Y, .int .i64 M, .int .i64 D] 33)) := HM.out.fwd (HB.out.mono hM1 |>.alloc (by omega) _)
    go_wp2_with fail
    refine (HF.out _ hTa hMa).mono ?_
    rintro e v2 ⟨rfl, hb2⟩
    have y2 : DA v2 w.heap.size 0 0 0 := (Y1.out.alloc (.cells #[.int .i64 Y, .int .i64 M, .int .i64 D] 33)).fwd hb2 (by simp; omega)
    have d2 : DA v2 v1.heap.size Y M D := (DA.new v1 Y M D).fwd hb2 (by simp)
    have HB2 : Hid (Below w.heap.size w v2) := Lib.hid ((HB.out.alloc (by omega) _).trans (hb2.mono (by simp; omega)))
    obtain ⟨f0, f1, f2⟩ := y2.free
    obtain ⟨q0, q1, q2⟩ := y2.cell
    obtain ⟨r0, r1, r2⟩ := d2.cell
    have Y2 := Lib.hid y2
    clear y2 d2 hb2 hTa hMa
    have hE : l.isEmpty = false := by simpa using h0
    by_cases h1 : S = l
    · have hBt := HI2.out h0 h1
      subst hBt
      subst h1
      go_wp2
      have hy := Y2.out.set3 Y M D
      exact bodyPost_ret (resDt Tryd.results19 (by rfl) rfl hy) rfl ⟨rfl, ((HB2.out.setCell (Nat.le_refl _) _).setCell (Nat.le_refl _) _).setCell (Nat.le_refl _) _⟩
    · have hBf := HI3.out h1
      subst hBf
      have hb1 : (S == l) = false := by simpa using h1
      have h1' : ¬ l = S := fun e => h1 e.symm
      have hy := Lib.hid (Y2.out.set3 0 0 0)
      go_wp2
      all_goals first
        | exact bodyPost_ret (resDt Tryd.results19 (by rfl) rfl hy.out) rfl ⟨rfl, ((HB2.out.setCell (Nat.le_refl _) _).setCell (Nat.le_refl _) _).setCell (Nat.le_refl _) _⟩
        | contradiction
        | (exfalso; simp_all; done)
end Go.Proofs.YtoecdlemoimacaaDoor
