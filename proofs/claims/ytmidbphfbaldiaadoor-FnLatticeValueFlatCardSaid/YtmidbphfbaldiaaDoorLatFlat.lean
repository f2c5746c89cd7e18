/- The law over lattices without moves, coupons and calls: powers and products of ranges. -/
import Derived.Test.YtmidbphfbaldiaaDoorLatLaws
import Derived.LaidEql
namespace Go.Proofs.YtmidbphfbaldiaaDoor
open Go.RowKit
set_option linter.unusedVariables false
/-- the error variable holds an error -/
def EV (w : World) : Prop := ∃ a : Addr, w.cell? ⟨0, 0, none⟩ = some (.iface 78 (.pointer (some a)))
theorem EV.below {w w' : World} (h : EV w) (k : Below w.heap.size w w') : EV w' := by
  obtain ⟨a, h⟩ := h
  exact ⟨a, bc k h⟩
theorem EV.fwd {B : Nat} {w w' : World} (h : EV w) (k : Below B w w') (hB : 0 < B) : EV w' := by
  obtain ⟨a, h⟩ := h
  exact ⟨a, (k.cell (p := ⟨0, 0, none⟩) hB).trans h⟩
theorem prod_facts {a b c d : Int} (a0 : 0 ≤ a) (a1 : a ≤ b) (a2 : b ≤ 1000000000) (c0 : 0 ≤ c) (c1 : c ≤ d) (c2 : d ≤ 1000000000) :
    0 ≤ a * c ∧ a * c ≤ a * d ∧ a * c ≤ b * c ∧ a * d ≤ b * d ∧ b * c ≤ b * d ∧ b * d ≤ 1000000000000000000 := by
  have h : b * d ≤ 1000000000 * 1000000000 := Int.mul_le_mul a2 c2 (by omega) (by omega)
  exact ⟨Int.mul_nonneg a0 c0, Int.mul_le_mul_of_nonneg_left c1 a0, Int.mul_le_mul_of_nonneg_right a1 c0, Int.mul_le_mul_of_nonneg_right a1 (by omega), Int.mul_le_mul_of_nonneg_left c1 (by omega), by omega⟩
def mxI (a b : Int) : Int := if a < b then b else a
set_option maxHeartbeats 2000000 in
theorem times1_any (a b c d : Int) (w : World) (a0 : 0 ≤ a) (a1 : a ≤ b) (a2 : b ≤ 1000000000) (c0 : 0 ≤ c) (c1 : c ≤ d) (c2 : d ≤ 1000000000) :
    Calls Tryd.prog 33 #[.agg #[.int .i64 a, .int .i64 b], .agg #[.int .i64 c, .int .i64 d]] w (RP (a * c / 1000000) (cdiv (b * d) 1000000) w) := by
  obtain ⟨p0, p1, p2, p3, p4, p5⟩ := prod_facts a0 a1 a2 c0 c1 c2
  have w1 : IntKind.i64.wrap (a * c) = a * c := IntWalk.i64_in _ (by omega)
  have w2 : IntKind.i64.wrap (a * d) = a * d := IntWalk.i64_in _ (by omega)
  have w3 : IntKind.i64.wrap (b * c) = b * c := IntWalk.i64_in _ (by omega)
  have w4 : IntKind.i64.wrap (b * d) = b * d := IntWalk.i64_in _ (by omega)
  have HF : Hid (∀ W : World, Calls Tryd.prog 24 #[.int .i64 (a * c), .int .i64 1000000] W fun e w' => e = .returned (.int .i64 (a * c / 1000000)) ∧ W = w') := Lib.hid fun W => floor_any _ _ W (by omega) (by omega) (by omega) (by omega)
  have HC : Hid (∀ W : World, Calls Tryd.prog 25 #[.int .i64 (b * d), .int .i64 1000000] W fun e w' => e = .returned (.int .i64 (cdiv (b * d) 1000000)) ∧ W = w') := Lib.hid fun W => ceil_any _ _ W (by omega) (by omega) (by omega) (by omega)
  generalize a * c / 1000000 = lo at *
  generalize cdiv (b * d) 1000000 = hi at *
  obtain ⟨p, hp⟩ : ∃ p, a * c = p := ⟨_, rfl⟩
  obtain ⟨q, hq⟩ : ∃ p, a * d = p := ⟨_, rfl⟩
  obtain ⟨r, hr⟩ : ∃ p, b * c = p := ⟨_, rfl⟩
  obtain ⟨s, hs⟩ : ∃ p, b * d = p := ⟨_, rfl⟩
  rw [hp] at w1 HF p0 p1 p2
  rw [hq] at w2 p1 p3
  rw [hr] at w3 p2 p4
  rw [hs] at w4 HC p3 p4 p5
  have t1 : (q < p) = False := by simp; omega
  have t2 : (r < p) = False := by simp; omega
  have t3 : (s < p) = False := by simp; omega
  have hmin : ∀ (ts : Array TypeId) (t : TypeId) (W : World), (Builtin.min_ ts t #[.int .i64 p, .int .i64 q, .int .i64 r, .int .i64 s]).run Tryd.prog W = .ok (.int .i64 p) W := fun ts t W => by simp [Builtin.min_, Builtin.min2, t1, t2, t3]
  have hmax : ∀ (ts : Array TypeId) (t : TypeId) (W : World), (Builtin.max_ ts t #[.int .i64 p, .int .i64 q, .int .i64 r, .int .i64 s]).run Tryd.prog W = .ok (.int .i64 s) W := fun ts t W => by
    have e : (if (if (if p < q then q else p) < r then r else (if p < q then q else p)) < s then s else (if (if p < q then q else p) < r then r else (if p < q then q else p))) = s := by (repeat' split) <;> omega
    simp [Builtin.max_, Builtin.max2]
    (repeat' split) <;> omega
  clear t1 t2 t3
  go_enter Tryd.func33, Tryd.ntmps33
  have HB := Lib.hid (Below.refl w.heap.size w)
  go_wp2_with fail
  go_quiet (fail)
  clear w1 w2 w3 w4 p0 p1 p2 p3 p4 p5
  go_wp2_with fail
  refine (HF.out _).mono ?_
  rintro e v1 ⟨rfl, rfl⟩
  go_wp2_with fail
  refine (HC.out _).mono ?_
  rintro e v2 ⟨rfl, rfl⟩
  go_wp2
  refine bodyPost_ret (res2 (b := w.heap.size + 1 + 1) Tryd.results33 (by rfl) ⟨sc_far (by simp) (sc_same (v := .int .i64 0) (by go_simp)), sc_same (sc_far (by simp) (v := .int .i64 0) (by go_simp))⟩) rfl ⟨rfl, ?_⟩
  exact Below.setCell (Below.setCell (bel_drewN _ (((Below.refl _ _).alloc (Nat.le_refl _) _ |>.alloc (by simp) _).alloc (by simp; omega) _)) (by show w.heap.size ≤ w.heap.size + 1 + 1; omega) _) (by show w.heap.size ≤ w.heap.size + 1 + 1; omega) _
set_option maxHeartbeats 1000000 in
theorem times_any (a b c d : Int) (w : World) (h1 : RgOk a b) (h2 : RgOk c d) (h3 : RgOk (a * c / 1000000) (cdiv (b * d) 1000000)) (ha : 0 ≤ a) (hb : b ≤ 1000000000) (hc : 0 ≤ c) (hd : d ≤ 1000000000) :
    Calls Tryd.prog 19 #[.agg #[.int .i64 a, .int .i64 b], .agg #[.int .i64 c, .int .i64 d]] w (RPv (a * c / 1000000) (cdiv (b * d) 1000000) w) := by
  have HH := Lib.hid (fun W => bothTimes_any a b c d _ _ W h1 h2 h3 (fun W => times1_any a b c d W ha h1.1 hb hc h2.1 hd))
  generalize a * c / 1000000 = lo at *
  generalize cdiv (b * d) 1000000 = hi at *
  clear h1 h2 h3
  go_enter Tryd.func19, Tryd.ntmps19
  have HB := Lib.hid (Below.refl w.heap.size w)
  go_wp2_with fail
  refine (HH.out _).mono ?_
  rintro e w1 ⟨rfl, hb⟩
  have a0_1 : w1.cell? ⟨w.heap.size, 0, none⟩ = some (.int .i64 a) := bc hb (by first | (simp; done) | go_simp)
  have a1_1 : w1.cell? ⟨w.heap.size, 1, none⟩ = some (.int .i64 b) := bc hb (by first | (simp; done) | go_simp)
  have al_1 : w.heap.size < w1.heap.size := cell_lt a0_1
  have b0_1 : w1.cell? ⟨w.heap.size + 1, 0, none⟩ = some (.int .i64 c) := bc hb (by first | (simp; done) | go_simp)
  have b1_1 : w1.cell? ⟨w.heap.size + 1, 1, none⟩ = some (.int .i64 d) := bc hb (by first | (simp; done) | go_simp)
  have bl_1 : w.heap.size + 1 < w1.heap.size := cell_lt b0_1
  have r0_1 : w1.cell? ⟨w.heap.size + 1 + 1, 0, none⟩ = some (.int .i64 0) := bc hb (by first | (simp; done) | go_simp)
  have rf0_1 : w1.frozen? ⟨w.heap.size + 1 + 1, 0, none⟩ = false := bf hb (by first | (simp; done) | (simp; omega) | (show w.heap.size + 1 + 1 < _; omega)) (by first | (simp; done) | go_simp)
  have r1_1 : w1.cell? ⟨w.heap.size + 1 + 1, 1, none⟩ = some (.int .i64 0) := bc hb (by first | (simp; done) | go_simp)
  have rf1_1 : w1.frozen? ⟨w.heap.size + 1 + 1, 1, none⟩ = false := bf hb (by first | (simp; done) | (simp; omega) | (show w.heap.size + 1 + 1 < _; omega)) (by first | (simp; done) | go_simp)
  have rl_1 : w.heap.size + 1 + 1 < w1.heap.size := cell_lt r0_1
  have hszw1 := below_size hb
  try simp at hszw1
  have HBq : Below w.heap.size w w1 := Below.trans (by repeat (first | exact Below.refl _ _ | exact HB.out | refine Below.drew ?_ | refine bel_drewN _ ?_ | refine Below.alloc ?_ (by first | omega | (simp; done) | (simp; omega)) _ | refine Below.setCell ?_ (by first | (show _ ≤ _; omega) | (simp; done) | (simp; omega)) _)) (hb.mono (by first | omega | (simp; done) | (simp; omega)))
  have HB := Lib.hid HBq
  clear HBq hb
  go_wp2
  refine bodyPost_ret (res2v (b := w.heap.size + 1 + 1) Tryd.results19 (by rfl) (by rfl) ⟨sc_far (by simp) (sc_same (by assumption)), sc_same (sc_far (by simp) (by assumption))⟩) rfl ⟨rfl, ?_⟩
  exact Below.setCell (Below.setCell HB.out (by show w.heap.size ≤ w.heap.size + 1 + 1; omega) _) (by show w.heap.size ≤ w.heap.size + 1 + 1; omega) _
set_option maxHeartbeats 1000000 in
theorem validRange_any (a b : Int) (w : World) (h : RgOk a b) :
    Calls Tryd.prog 16 #[.agg #[.int .i64 a, .int .i64 b]] w fun e w' => e = .returned (.bool true) ∧ Below w.heap.size w w' := by
  have HH := Lib.hid (fun W => checked_any a b W h)
  clear h
  go_enter Tryd.func16, Tryd.ntmps16
  have HB := Lib.hid (Below.refl w.heap.size w)
  go_wp2_with fail
  refine (HH.out _).mono ?_
  rintro e w1 ⟨rfl, hb⟩
  have a0_1 : w1.cell? ⟨w.heap.size, 0, none⟩ = some (.int .i64 a) := bc hb (by first | (simp; done) | go_simp)
  have a1_1 : w1.cell? ⟨w.heap.size, 1, none⟩ = some (.int .i64 b) := bc hb (by first | (simp; done) | go_simp)
  have al_1 : w.heap.size < w1.heap.size := cell_lt a0_1
  have hszw1 := below_size hb
  try simp at hszw1
  have HBq : Below w.heap.size w w1 := Below.trans (by repeat (first | exact Below.refl _ _ | exact HB.out | refine Below.drew ?_ | refine bel_drewN _ ?_ | refine Below.alloc ?_ (by first | omega | (simp; done) | (simp; omega)) _ | refine Below.setCell ?_ (by first | (show _ ≤ _; omega) | (simp; done) | (simp; omega)) _)) (hb.mono (by first | omega | (simp; done) | (simp; omega)))
  have HB := Lib.hid HBq
  clear HBq hb
  go_wp2
  go_ret
  exact ⟨rfl, (by repeat (first | exact Below.refl _ _ | exact HB.out | refine Below.drew ?_ | refine bel_drewN _ ?_ | refine Below.alloc ?_ (by first | omega | (simp; done) | (simp; omega)) _ | refine Below.setCell ?_ (by first | (show _ ≤ _; omega) | (simp; done) | (simp; omega)) _))⟩
/-- a range and whether there is one -/
def RPt (lo hi : Int) (w : World) (e : Ending) (w' : World) : Prop := e = .returned (.tuple #[.agg #[.int .i64 lo, .int .i64 hi], .bool true]) ∧ Below w.heap.size w w'
set_option maxRecDepth 10000 in
theorem isNil_any (p : Addr) (w : World) :
    Calls Tryd.prog 34 #[.nilIface, .iface 78 (.pointer (some p))] w fun e w' => e = .returned (.bool false) ∧ w = w' := by
  have he := fun W : World => run_eql_iface_nil_left (P := Tryd.prog) W 78 (.pointer (some p)) Tryd.underlying47
  go_enter Tryd.func34, Tryd.ntmps34
  go_wp2
  go_ret
  exact ⟨rfl, rfl⟩
set_option maxHeartbeats 1000000 in
theorem told_any (a b : Int) (w : World) (h : EV w) (hs : 0 < w.heap.size) :
    Calls Tryd.prog 20 #[.agg #[.int .i64 a, .int .i64 b], .nilIface] w (RPt a b w) := by
  obtain ⟨ea, he⟩ := h
  go_enter Tryd.func20, Tryd.ntmps20
  have HB := Lib.hid (Below.refl w.heap.size w)
  have e1 := ca (o := .cells #[.int .i64 a, .int .i64 b] 28) he
  have e2 := ca (o := .cells #[.int .i64 0, .int .i64 0] 28) e1
  have hne : 0 ≠ w.heap.size := by omega
  have hne2 : 0 ≠ w.heap.size + 1 := by omega
  go_wp2_with fail
  refine (isNil_any _ _).mono ?_
  rintro e w1 ⟨rfl, rfl⟩
  go_wp2
  refine bodyPost_ret (res2v (b := w.heap.size + 1) Tryd.results20 (by rfl) (by rfl) ⟨by simp, by simp⟩) rfl ⟨rfl, ?_⟩
  exact ((Below.refl _ _).alloc (Nat.le_refl _) _).alloc (by simp) _
set_option maxHeartbeats 1000000 in
theorem mulRange_any (a b c d : Int) (w : World) (hE : EV w) (hs : 0 < w.heap.size) (h1 : RgOk a b) (h2 : RgOk c d) (h3 : RgOk (a * c / 1000000) (cdiv (b * d) 1000000)) (ha : 0 ≤ a) (hb : b ≤ 1000000000) (hc : 0 ≤ c) (hd : d ≤ 1000000000) :
    Calls Tryd.prog 8 #[.agg #[.int .i64 a, .int .i64 b], .agg #[.int .i64 c, .int .i64 d]] w (RPt (a * c / 1000000) (cdiv (b * d) 1000000) w) := by
  have HH := Lib.hid (fun W => times_any a b c d W h1 h2 h3 ha hb hc hd)
  have HE := Lib.hid hE
  generalize a * c / 1000000 = lo at *
  generalize cdiv (b * d) 1000000 = hi at *
  clear h1 h2 h3 hE
  go_enter Tryd.func8, Tryd.ntmps8
  have HB := Lib.hid (Below.refl w.heap.size w)
  go_wp2_with fail
  refine (HH.out _).mono ?_
  rintro e w1 ⟨rfl, hb⟩
  have a0_1 : w1.cell? ⟨w.heap.size, 0, none⟩ = some (.int .i64 a) := bc hb (by first | (simp; done) | go_simp)
  have a1_1 : w1.cell? ⟨w.heap.size, 1, none⟩ = some (.int .i64 b) := bc hb (by first | (simp; done) | go_simp)
  have al_1 : w.heap.size < w1.heap.size := cell_lt a0_1
  have b0_1 : w1.cell? ⟨w.heap.size + 1, 0, none⟩ = some (.int .i64 c) := bc hb (by first | (simp; done) | go_simp)
  have b1_1 : w1.cell? ⟨w.heap.size + 1, 1, none⟩ = some (.int .i64 d) := bc hb (by first | (simp; done) | go_simp)
  have bl_1 : w.heap.size + 1 < w1.heap.size := cell_lt b0_1
  have r0_1 : w1.cell? ⟨w.heap.size + 1 + 1, 0, none⟩ = some (.int .i64 0) := bc hb (by first | (simp; done) | go_simp)
  have rf0_1 : w1.frozen? ⟨w.heap.size + 1 + 1, 0, none⟩ = false := bf hb (by first | (simp; done) | (simp; omega) | (show w.heap.size + 1 + 1 < _; omega)) (by first | (simp; done) | go_simp)
  have r1_1 : w1.cell? ⟨w.heap.size + 1 + 1, 1, none⟩ = some (.int .i64 0) := bc hb (by first | (simp; done) | go_simp)
  have rf1_1 : w1.frozen? ⟨w.heap.size + 1 + 1, 1, none⟩ = false := bf hb (by first | (simp; done) | (simp; omega) | (show w.heap.size + 1 + 1 < _; omega)) (by first | (simp; done) | go_simp)
  have rl_1 : w.heap.size + 1 + 1 < w1.heap.size := cell_lt r0_1
  have hszw1 := below_size hb
  try simp at hszw1
  have HBq : Below w.heap.size w w1 := Below.trans (by repeat (first | exact Below.refl _ _ | exact HB.out | refine Below.drew ?_ | refine bel_drewN _ ?_ | refine Below.alloc ?_ (by first | omega | (simp; done) | (simp; omega)) _ | refine Below.setCell ?_ (by first | (show _ ≤ _; omega) | (simp; done) | (simp; omega)) _)) (hb.mono (by first | omega | (simp; done) | (simp; omega)))
  have HB := Lib.hid HBq
  clear HBq hb
  go_wp2_with fail
  refine (told_any lo hi _ (HE.out.fwd HB.out hs) (Nat.lt_of_lt_of_le hs HB.out.size)).mono ?_
  rintro e w2 ⟨rfl, hb⟩
  have a0_2 : w2.cell? ⟨w.heap.size, 0, none⟩ = some (.int .i64 a) := bc hb (by first | exact a0_1 | exact ca a0_1 | exact ca (ca a0_1) | exact ca (ca (ca a0_1)) | (simp; done) | go_simp)
  have a1_2 : w2.cell? ⟨w.heap.size, 1, none⟩ = some (.int .i64 b) := bc hb (by first | exact a1_1 | exact ca a1_1 | exact ca (ca a1_1) | exact ca (ca (ca a1_1)) | (simp; done) | go_simp)
  have al_2 : w.heap.size < w2.heap.size := cell_lt a0_2
  clear a0_1 a1_1 al_1
  have b0_2 : w2.cell? ⟨w.heap.size + 1, 0, none⟩ = some (.int .i64 c) := bc hb (by first | exact b0_1 | exact ca b0_1 | exact ca (ca b0_1) | exact ca (ca (ca b0_1)) | (simp; done) | go_simp)
  have b1_2 : w2.cell? ⟨w.heap.size + 1, 1, none⟩ = some (.int .i64 d) := bc hb (by first | exact b1_1 | exact ca b1_1 | exact ca (ca b1_1) | exact ca (ca (ca b1_1)) | (simp; done) | go_simp)
  have bl_2 : w.heap.size + 1 < w2.heap.size := cell_lt b0_2
  clear b0_1 b1_1 bl_1
  have r0_2 : w2.cell? ⟨w.heap.size + 1 + 1, 0, none⟩ = some (.int .i64 0) := bc hb (by first | exact r0_1 | exact ca r0_1 | exact ca (ca r0_1) | exact ca (ca (ca r0_1)) | (simp; done) | go_simp)
  have rf0_2 : w2.frozen? ⟨w.heap.size + 1 + 1, 0, none⟩ = false := bf hb (by first | (simp; done) | (simp; omega) | (show w.heap.size + 1 + 1 < _; omega)) (by first | exact rf0_1 | exact fa (by show w.heap.size + 1 + 1 < _; omega) rf0_1 | exact fa (by show w.heap.size + 1 + 1 < _; simp; omega) (fa (by show w.heap.size + 1 + 1 < _; omega) rf0_1) | (simp; done) | go_simp)
  have r1_2 : w2.cell? ⟨w.heap.size + 1 + 1, 1, none⟩ = some (.int .i64 0) := bc hb (by first | exact r1_1 | exact ca r1_1 | exact ca (ca r1_1) | exact ca (ca (ca r1_1)) | (simp; done) | go_simp)
  have rf1_2 : w2.frozen? ⟨w.heap.size + 1 + 1, 1, none⟩ = false := bf hb (by first | (simp; done) | (simp; omega) | (show w.heap.size + 1 + 1 < _; omega)) (by first | exact rf1_1 | exact fa (by show w.heap.size + 1 + 1 < _; omega) rf1_1 | exact fa (by show w.heap.size + 1 + 1 < _; simp; omega) (fa (by show w.heap.size + 1 + 1 < _; omega) rf1_1) | (simp; done) | go_simp)
  have rl_2 : w.heap.size + 1 + 1 < w2.heap.size := cell_lt r0_2
  clear r0_1 rf0_1 r1_1 rf1_1 rl_1
  have hszw2 := below_size hb
  try simp at hszw2
  have HBq : Below w.heap.size w w2 := Below.trans (by repeat (first | exact Below.refl _ _ | exact HB.out | refine Below.drew ?_ | refine bel_drewN _ ?_ | refine Below.alloc ?_ (by first | omega | (simp; done) | (simp; omega)) _ | refine Below.setCell ?_ (by first | (show _ ≤ _; omega) | (simp; done) | (simp; omega)) _)) (hb.mono (by first | omega | (simp; done) | (simp; omega)))
  have HB := Lib.hid HBq
  clear HBq hb
  go_wp2
  refine bodyPost_ret (res2v (b := w.heap.size + 1 + 1) Tryd.results8 (by rfl) (by rfl) ⟨sc_far (by simp) (sc_same (by assumption)), sc_same (sc_far (by simp) (by assumption))⟩) rfl ⟨rfl, ?_⟩
  exact Below.setCell (Below.setCell HB.out (by show w.heap.size ≤ w.heap.size + 1 + 1; omega) _) (by show w.heap.size ≤ w.heap.size + 1 + 1; omega) _
set_option maxHeartbeats 2000000 in
theorem powRange_any (g : Int) (n : Nat) (w : World) (g0 : 1000000 ≤ g) (g1 : g ≤ 1300000) (hn : n ≤ 8) :
    Calls Tryd.prog 7 #[.agg #[.int .i64 g, .int .i64 g], .int .i64 n] w (RPt (plo g n) (phi g n) w) := by
  have HT : Hid (∀ (k : Nat) (W : World), k < n → Calls Tryd.prog 19 #[.agg #[.int .i64 (plo g k), .int .i64 (phi g k)], .agg #[.int .i64 g, .int .i64 g]] W (RPv (plo g (k + 1)) (phi g (k + 1)) W)) := Lib.hid (fun k W hk => by
    obtain ⟨b1, b2, b3⟩ := pow_bd' g0 g1 (n := k) (by omega)
    obtain ⟨c1, c2, c3⟩ := pow_bd' g0 g1 (n := k + 1) (by omega)
    exact times_any _ _ _ _ W ⟨by omega, by omega, by omega⟩ ⟨by omega, by omega, by omega⟩ ⟨c2, by simp only [plo] at c1; omega, by simp only [phi] at c3; omega⟩ (by omega) (by omega) (by omega) (by omega))
  have HV := Lib.hid (fun W => validRange_any g g W ⟨by omega, by omega, by omega⟩)
  have HX := Lib.hid (fun W => exactlyI_any 1000000 W (by omega))
  have i1 : inR (n : Int) 0 40 = true := inR_yes (by omega)
  have d1 : decide (g < 0) = false := decide_eq_false (by omega)
  go_enter Tryd.func7, Tryd.ntmps7
  have HB := Lib.hid (Below.refl w.heap.size w)
  go_wp2_with fail
  refine (HV.out _).mono ?_
  rintro e w1 ⟨rfl, hb⟩
  have x0_1 : w1.cell? ⟨w.heap.size, 0, none⟩ = some (.int .i64 g) := bc hb (by first | (simp; done) | go_simp)
  have x1_1 : w1.cell? ⟨w.heap.size, 1, none⟩ = some (.int .i64 g) := bc hb (by first | (simp; done) | go_simp)
  have xl_1 : w.heap.size < w1.heap.size := cell_lt x0_1
  have y0_1 : w1.cell? ⟨w.heap.size + 1, 0, none⟩ = some (.int .i64 0) := bc hb (by first | (simp; done) | go_simp)
  have yf0_1 : w1.frozen? ⟨w.heap.size + 1, 0, none⟩ = false := bf hb (by first | (simp; done) | (simp; omega) | (show w.heap.size + 1 < _; omega)) (by first | (simp; done) | go_simp)
  have y1_1 : w1.cell? ⟨w.heap.size + 1, 1, none⟩ = some (.int .i64 0) := bc hb (by first | (simp; done) | go_simp)
  have yf1_1 : w1.frozen? ⟨w.heap.size + 1, 1, none⟩ = false := bf hb (by first | (simp; done) | (simp; omega) | (show w.heap.size + 1 < _; omega)) (by first | (simp; done) | go_simp)
  have yl_1 : w.heap.size + 1 < w1.heap.size := cell_lt y0_1
  have hszw1 := below_size hb
  try simp at hszw1
  have HBq : Below w.heap.size w w1 := Below.trans (by repeat (first | exact Below.refl _ _ | exact HB.out | refine Below.drew ?_ | refine bel_drewN _ ?_ | refine Below.alloc ?_ (by first | omega | (simp; done) | (simp; omega)) _ | refine Below.setCell ?_ (by first | (show _ ≤ _; omega) | (simp; done) | (simp; omega)) _)) (hb.mono (by first | omega | (simp; done) | (simp; omega)))
  have HB := Lib.hid HBq
  clear HBq hb
  go_wp2_with fail
  refine (within_any _ _ _ _).mono ?_
  rintro e w1b ⟨rfl, rfl⟩
  go_wp2_with fail
  refine (HX.out _).mono ?_
  rintro e w2 ⟨rfl, hb⟩
  have x0_2 : w2.cell? ⟨w.heap.size, 0, none⟩ = some (.int .i64 g) := bc hb (by first | exact x0_1 | exact ca x0_1 | exact ca (ca x0_1) | exact ca (ca (ca x0_1)) | (simp; done) | go_simp)
  have x1_2 : w2.cell? ⟨w.heap.size, 1, none⟩ = some (.int .i64 g) := bc hb (by first | exact x1_1 | exact ca x1_1 | exact ca (ca x1_1) | exact ca (ca (ca x1_1)) | (simp; done) | go_simp)
  have xl_2 : w.heap.size < w2.heap.size := cell_lt x0_2
  clear x0_1 x1_1 xl_1
  have y0_2 : w2.cell? ⟨w.heap.size + 1, 0, none⟩ = some (.int .i64 0) := bc hb (by first | exact y0_1 | exact ca y0_1 | exact ca (ca y0_1) | exact ca (ca (ca y0_1)) | (simp; done) | go_simp)
  have yf0_2 : w2.frozen? ⟨w.heap.size + 1, 0, none⟩ = false := bf hb (by first | (simp; done) | (simp; omega) | (show w.heap.size + 1 < _; omega)) (by first | exact yf0_1 | exact fa (by show w.heap.size + 1 < _; omega) yf0_1 | exact fa (by show w.heap.size + 1 < _; simp; omega) (fa (by show w.heap.size + 1 < _; omega) yf0_1) | (simp; done) | go_simp)
  have y1_2 : w2.cell? ⟨w.heap.size + 1, 1, none⟩ = some (.int .i64 0) := bc hb (by first | exact y1_1 | exact ca y1_1 | exact ca (ca y1_1) | exact ca (ca (ca y1_1)) | (simp; done) | go_simp)
  have yf1_2 : w2.frozen? ⟨w.heap.size + 1, 1, none⟩ = false := bf hb (by first | (simp; done) | (simp; omega) | (show w.heap.size + 1 < _; omega)) (by first | exact yf1_1 | exact fa (by show w.heap.size + 1 < _; omega) yf1_1 | exact fa (by show w.heap.size + 1 < _; simp; omega) (fa (by show w.heap.size + 1 < _; omega) yf1_1) | (simp; done) | go_simp)
  have yl_2 : w.heap.size + 1 < w2.heap.size := cell_lt y0_2
  clear y0_1 yf0_1 y1_1 yf1_1 yl_1
  have hszw2 := below_size hb
  try simp at hszw2
  have HBq : Below w.heap.size w w2 := Below.trans (by repeat (first | exact Below.refl _ _ | exact HB.out | refine Below.drew ?_ | refine bel_drewN _ ?_ | refine Below.alloc ?_ (by first | omega | (simp; done) | (simp; omega)) _ | refine Below.setCell ?_ (by first | (show _ ≤ _; omega) | (simp; done) | (simp; omega)) _)) (hb.mono (by first | omega | (simp; done) | (simp; omega)))
  have HB := Lib.hid HBq
  clear HBq hb
  go_wp2_with fail
  go_loopw [7, 24] (fun er i wr => ∃ k : Nat, k ≤ n ∧ er = .nilIface ∧ i = .int .i64 k ∧ Has2 wr w2.heap.size (plo g k) (phi g k) ∧ wr.frozen? ⟨w2.heap.size, 0, none⟩ = false ∧ wr.frozen? ⟨w2.heap.size, 1, none⟩ = false ∧ Below w2.heap.size w2 wr) (fun _ i _ => n - (intOf i).toNat)
  case atStart => exact ⟨0, Nat.zero_le _, rfl, rfl, ⟨by simp [plo], by simp [phi]⟩, by simp, by simp, (Below.refl _ _).alloc (Nat.le_refl _) _⟩
  case round =>
    obtain ⟨k, hk, rfl, rfl, hh, f0, f1, hbel⟩ := hrel
    have HBL := Lib.hid hbel
    have q0 := (hbel.cell (p := ⟨w.heap.size, 0, none⟩) (by show w.heap.size < w2.heap.size; omega)).trans x0_2
    have q1 := (hbel.cell (p := ⟨w.heap.size, 1, none⟩) (by show w.heap.size < w2.heap.size; omega)).trans x1_2
    have r0 := (hbel.cell (p := ⟨w.heap.size + 1, 0, none⟩) (by show w.heap.size + 1 < w2.heap.size; omega)).trans y0_2
    have r1 := (hbel.cell (p := ⟨w.heap.size + 1, 1, none⟩) (by show w.heap.size + 1 < w2.heap.size; omega)).trans y1_2
    have g0' := (hbel.frozen (p := ⟨w.heap.size + 1, 0, none⟩) (by show w.heap.size + 1 < w2.heap.size; omega)).trans yf0_2
    have g1' := (hbel.frozen (p := ⟨w.heap.size + 1, 1, none⟩) (by show w.heap.size + 1 < w2.heap.size; omega)).trans yf1_2
    obtain ⟨h0, h1⟩ := hh
    have hlr := cell_lt h0
    have hle : w2.heap.size < wr.heap.size := hlr
    clear hbel x0_2 x1_2 y0_2 y1_2 yf0_2 yf1_2
    by_cases hlt : k < n
    · have i1 : (k : Int) < (n : Int) := by omega
      go_wp2_with fail
      refine (HT.out k _ hlt).mono ?_
      rintro e w4 ⟨rfl, hb⟩
      have h0' := bc hb h0
      have h1' := bc hb h1
      have f0' := bf hb (a := ⟨w2.heap.size, 0, none⟩) hle f0
      have f1' := bf hb (a := ⟨w2.heap.size, 1, none⟩) hle f1
      have HB4 : Hid (Below w2.heap.size w2 w4) := HBL.out.trans (hb.mono (by omega))
      clear hb h0 h1 f0 f1
      go_wp2
      go_roundw
      case rel => exact ⟨k + 1, by omega, rfl, by go_num, ⟨sc_far (by simp) (sc_same h0'), sc_same (sc_far (by simp) h1')⟩, by rw [frozen_setCell, frozen_setCell]; exact f0', by rw [frozen_setCell, frozen_setCell]; exact f1', Below.setCell (Below.setCell HB4.out (Nat.le_refl _) _) (Nat.le_refl _) _⟩
      case measure => first | (simp [intOf]; done) | (simp [intOf]; omega)
    · obtain rfl : k = n := by omega
      go_wp2
      refine bodyPost_ret (res2v (b := w.heap.size + 1) Tryd.results7 (by rfl) (by rfl) ⟨sc_far (by simp) (sc_same r0), sc_same (sc_far (by simp) r1)⟩) rfl ⟨rfl, ?_⟩
      exact Below.setCell (Below.setCell (HB.out.trans (HBL.out.mono (by have := HB.out.size; omega))) (by show w.heap.size ≤ w.heap.size + 1; omega) _) (by show w.heap.size ≤ w.heap.size + 1; omega) _
theorem lv_flat1 {s r p c k : Int} (h : ¬ lvH s r p c k = 0) :
    (0 ≤ s ∧ s ≤ 8 ∧ 0 ≤ r ∧ r ≤ 3000) ∧ (0 ≤ lvL s r 0 0 0 ∧ lvL s r 0 0 0 ≤ lvH s r 0 0 0 ∧ lvH s r 0 0 0 ≤ 4000000) ∧
    (1000000 ≤ plo (1000000 + 100 * r) s.toNat ∧ plo (1000000 + 100 * r) s.toNat ≤ phi (1000000 + 100 * r) s.toNat ∧ phi (1000000 + 100 * r) s.toNat ≤ 256000000) ∧
    lvL s r 0 0 0 * plo (1000000 + 100 * r) s.toNat / 1000000 ≤ 1000000 ∧ 1000000 ≤ cdiv (lvH s r 0 0 0 * phi (1000000 + 100 * r) s.toNat) 1000000 := by
  obtain ⟨a, b, _⟩ := lvB_iff.1 (lvB_of h)
  obtain ⟨⟨s0, s1⟩, ⟨p0, p1⟩, h1, h2⟩ := latB_iff.1 a
  have sp : 0 ≤ s * p := Int.mul_nonneg (by omega) p0
  have a0 : latB s r 0 = true := latB_iff.2 ⟨⟨s0, s1⟩, ⟨by omega, by omega⟩, by rw [Int.mul_zero]; omega, by rw [Int.mul_zero]; omega⟩
  have v0 : lvB s r 0 0 0 = true := lvB_iff.2 ⟨a0, ⟨by omega, by omega⟩, .inl rfl⟩
  obtain ⟨e3, e4⟩ := lv_yes v0
  rw [e3, e4]
  obtain ⟨f1, f2, f3⟩ := lval_bd (k := 0) a0 (c := 0) ⟨by omega, by omega⟩ (Int.le_refl 0) s.toNat 0 (by omega) (by omega)
  obtain ⟨g1, g2⟩ := lflat_one (s := s) (r := r) (by omega) (by omega) s.toNat (by omega)
  refine ⟨⟨by omega, by omega, by omega, by omega⟩, ⟨f1, f2, by omega⟩, pow_bd' (by omega) (by omega) (by omega), ?_, ?_⟩
  · have := (le_fdiv (n := llo s r 0 0 0 s.toNat 0 * plo (1000000 + 100 * r) s.toNat) (d := 1000000) (m := 1000001) (by decide))
    omega
  · have := (cdiv_le (n := lhi s r 0 0 0 s.toNat 0 * phi (1000000 + 100 * r) s.toNat) (d := 1000000) (m := 999999) (by decide))
    omega
set_option maxHeartbeats 4000000 in
theorem fnLatticeValueFlat_walk (a : Option Addr) (len cap : Nat) (w : World) (hE : EV w) (hlc : len ≤ cap) (hc : cap ≤ maxLen) (h : IsBytes w a len) :
    Calls Tryd.prog 3 #[.slice a len cap] w fun e w' => e = .returned (.bool true) ∧ Below w.heap.size w w' := by
  by_cases hbig : 1048576 < len
  · exact big_FnLatticeValueFlat a len cap w hlc hc hbig
  have hEs : 0 < w.heap.size := by obtain ⟨x, hx⟩ := hE; exact cell_lt hx
  have HEV := Lib.hid hE
  have HES := Lib.hid hEs
  have H := Lib.hid h
  clear h hE hEs
  go_enter Tryd.func3, Tryd.ntmps3
  have HB := Lib.hid (Below.refl w.heap.size w)
  go_wp2_with fail
  refine (drawLatticeValue_any _ _ _ _ hlc hc H.out).mono ?_
  rintro e w1 ⟨s, x, p, c, k, rfl, hs, hx, hp, hcc, hk, hb⟩
  have hszw1 := below_size hb
  try simp at hszw1
  have HBq : Below w.heap.size w w1 := Below.trans (by repeat (first | exact Below.refl _ _ | exact HB.out | refine Below.drew ?_ | refine bel_drewN _ ?_ | refine Below.alloc ?_ (by first | omega | (simp; done) | (simp; omega)) _ | refine Below.setCell ?_ (by first | (show _ ≤ _; omega) | (simp; done) | (simp; omega)) _)) (hb.mono (by first | omega | (simp; done) | (simp; omega)))
  have HB := Lib.hid HBq
  clear HBq hb
  have HI := Lib.hid (fun W => latValueI_any s x p c k W)
  have HS := Lib.hid (fun W => latValueS_any s x p c k W)
  unfold RP at HI HS
  have hE := @lv_flat1 s x p c k
  generalize lvL s x p c k = L at *
  generalize lvH s x p c k = M at *
  clear hs hp hcc hk hx
  by_cases hz : M = 0
  · subst hz
    clear hE
    go_wp2_with fail
    refine (HI.out _).mono ?_
    rintro e w2 ⟨rfl, hb⟩
    have l0_1 : w2.cell? ⟨w1.heap.size, 0, none⟩ = some (.int .i64 s) := bc hb (by first | (simp; done) | go_simp)
    have l1_1 : w2.cell? ⟨w1.heap.size, 1, none⟩ = some (.int .i64 x) := bc hb (by first | (simp; done) | go_simp)
    have l2_1 : w2.cell? ⟨w1.heap.size, 2, none⟩ = some (.int .i64 p) := bc hb (by first | (simp; done) | go_simp)
    have ll_1 : w1.heap.size < w2.heap.size := cell_lt l0_1
    have hszw2 := below_size hb
    try simp at hszw2
    have HBq : Below w.heap.size w w2 := Below.trans (by repeat (first | exact Below.refl _ _ | exact HB.out | refine Below.drew ?_ | refine bel_drewN _ ?_ | refine Below.alloc ?_ (by first | omega | (simp; done) | (simp; omega)) _ | refine Below.setCell ?_ (by first | (show _ ≤ _; omega) | (simp; done) | (simp; omega)) _)) (hb.mono (by first | omega | (simp; done) | (simp; omega)))
    have HB := Lib.hid HBq
    clear HBq hb
    go_wp2_with fail
    go_region_held3 (fun w' => (w'.cell? ⟨w2.heap.size, 0, none⟩ = some (.int .i64 L) ∧ w'.cell? ⟨w2.heap.size, 1, none⟩ = some (.int .i64 0)) ∧ w'.cell? ⟨w1.heap.size, 0, none⟩ = some (.int .i64 s) ∧ w'.cell? ⟨w1.heap.size, 1, none⟩ = some (.int .i64 x) ∧ w'.cell? ⟨w1.heap.size, 2, none⟩ = some (.int .i64 p))
      ((go_split_ands; refine ⟨⟨?_, ?_⟩, ?_, ?_, ?_⟩ <;> first | assumption | (with_reducible exact bc hb (by assumption)) | (exact ca (w := w2) (by assumption)) | (exact new_cell (W := w2) rfl rfl) | (simp; done)))
      (first | (go_at_call 6; (with_reducible refine (HS.out _).mono ?_); rintro e v3 ⟨rfl, hb⟩))
    all_goals
      have l0_2 : v3.cell? ⟨w1.heap.size, 0, none⟩ = some (.int .i64 s) := bc hb (by first | exact l0_1 | exact ca l0_1 | exact ca (ca l0_1) | exact ca (ca (ca l0_1)) | (simp; done) | go_simp)
      have l1_2 : v3.cell? ⟨w1.heap.size, 1, none⟩ = some (.int .i64 x) := bc hb (by first | exact l1_1 | exact ca l1_1 | exact ca (ca l1_1) | exact ca (ca (ca l1_1)) | (simp; done) | go_simp)
      have l2_2 : v3.cell? ⟨w1.heap.size, 2, none⟩ = some (.int .i64 p) := bc hb (by first | exact l2_1 | exact ca l2_1 | exact ca (ca l2_1) | exact ca (ca (ca l2_1)) | (simp; done) | go_simp)
      have ll_2 : w1.heap.size < v3.heap.size := cell_lt l0_2
      clear l0_1 l1_1 l2_1 ll_1
      have v0_1 : v3.cell? ⟨w2.heap.size, 0, none⟩ = some (.int .i64 L) := bc hb (by first | (simp; done) | go_simp)
      have v1_1 : v3.cell? ⟨w2.heap.size, 1, none⟩ = some (.int .i64 0) := bc hb (by first | (simp; done) | go_simp)
      have vl_1 : w2.heap.size < v3.heap.size := cell_lt v0_1
      have hszv3 := below_size hb
      try simp at hszv3
      have HBq : Below w.heap.size w v3 := Below.trans (by repeat (first | exact Below.refl _ _ | exact HB.out | refine Below.drew ?_ | refine bel_drewN _ ?_ | refine Below.alloc ?_ (by first | omega | (simp; done) | (simp; omega)) _ | refine Below.setCell ?_ (by first | (show _ ≤ _; omega) | (simp; done) | (simp; omega)) _)) (hb.mono (by first | omega | (simp; done) | (simp; omega)))
      have HB := Lib.hid HBq
      clear HBq hb
      go_wp2_with fail
      go_region_held3 (fun w' => (w'.cell? ⟨w2.heap.size, 0, none⟩ = some (.int .i64 L) ∧ w'.cell? ⟨w2.heap.size, 1, none⟩ = some (.int .i64 0)) ∧ w'.cell? ⟨w1.heap.size, 0, none⟩ = some (.int .i64 s) ∧ w'.cell? ⟨w1.heap.size, 1, none⟩ = some (.int .i64 x) ∧ w'.cell? ⟨w1.heap.size, 2, none⟩ = some (.int .i64 p))
        ((go_split_ands; refine ⟨⟨?_, ?_⟩, ?_, ?_, ?_⟩ <;> first | assumption | (with_reducible exact bc hb (by assumption)) | (show v3.cell? _ = _; assumption) | (simp; done)))
        (first | (go_at_call 6; (with_reducible refine (HS.out _).mono ?_); rintro e v4 ⟨rfl, hb⟩))
      all_goals
        have l0_3 : v4.cell? ⟨w1.heap.size, 0, none⟩ = some (.int .i64 s) := bc hb (by first | exact l0_2 | exact ca l0_2 | exact ca (ca l0_2) | exact ca (ca (ca l0_2)) | (simp; done) | go_simp)
        have l1_3 : v4.cell? ⟨w1.heap.size, 1, none⟩ = some (.int .i64 x) := bc hb (by first | exact l1_2 | exact ca l1_2 | exact ca (ca l1_2) | exact ca (ca (ca l1_2)) | (simp; done) | go_simp)
        have l2_3 : v4.cell? ⟨w1.heap.size, 2, none⟩ = some (.int .i64 p) := bc hb (by first | exact l2_2 | exact ca l2_2 | exact ca (ca l2_2) | exact ca (ca (ca l2_2)) | (simp; done) | go_simp)
        have ll_3 : w1.heap.size < v4.heap.size := cell_lt l0_3
        clear l0_2 l1_2 l2_2 ll_2
        have v0_2 : v4.cell? ⟨w2.heap.size, 0, none⟩ = some (.int .i64 L) := bc hb (by first | exact v0_1 | exact ca v0_1 | exact ca (ca v0_1) | exact ca (ca (ca v0_1)) | (simp; done) | go_simp)
        have v1_2 : v4.cell? ⟨w2.heap.size, 1, none⟩ = some (.int .i64 0) := bc hb (by first | exact v1_1 | exact ca v1_1 | exact ca (ca v1_1) | exact ca (ca (ca v1_1)) | (simp; done) | go_simp)
        have vl_2 : w2.heap.size < v4.heap.size := cell_lt v0_2
        clear v0_1 v1_1 vl_1
        have hszv4 := below_size hb
        try simp at hszv4
        have HBq : Below w.heap.size w v4 := Below.trans (by repeat (first | exact Below.refl _ _ | exact HB.out | refine Below.drew ?_ | refine bel_drewN _ ?_ | refine Below.alloc ?_ (by first | omega | (simp; done) | (simp; omega)) _ | refine Below.setCell ?_ (by first | (show _ ≤ _; omega) | (simp; done) | (simp; omega)) _)) (hb.mono (by first | omega | (simp; done) | (simp; omega)))
        have HB := Lib.hid HBq
        clear HBq hb
        go_wp2
        go_ret
        exact ⟨ret_bool (by first | rfl | simp), (by repeat (first | exact Below.refl _ _ | exact HB.out | refine Below.drew ?_ | refine bel_drewN _ ?_ | refine Below.alloc ?_ (by first | omega | (simp; done) | (simp; omega)) _ | refine Below.setCell ?_ (by first | (show _ ≤ _; omega) | (simp; done) | (simp; omega)) _))⟩
  · have hz' : (M == 0) = false := by simp [hz]
    obtain ⟨⟨s0, s1, x0, x1⟩, ⟨l0, l1, l2⟩, ⟨g0, g1, g2⟩, m0, m1⟩ := hE hz
    clear hE
    obtain ⟨n, hn⟩ : ∃ n : Nat, s = n := ⟨s.toNat, by omega⟩
    rw [show s.toNat = n from by omega] at g0 g1 g2 m0 m1
    have HP := Lib.hid (fun W => powRange_any (1000000 + 100 * x) n W (by omega) (by omega) (by omega))
    rw [← hn] at HP
    have HJ := Lib.hid (fun W => latValueI_any s x 0 0 0 W)
    unfold RP at HJ
    unfold RPt at HP
    generalize lvL s x 0 0 0 = L2 at *
    generalize lvH s x 0 0 0 = M2 at *
    generalize plo (1000000 + 100 * x) n = L3 at *
    generalize phi (1000000 + 100 * x) n = M3 at *
    obtain ⟨q0, q1, q2, q3, q4, q5⟩ := prod_facts l0 l1 (by omega) (show 0 ≤ L3 by omega) g1 (by omega)
    have q6 : M2 * M3 ≤ 4000000 * 256000000 := Int.mul_le_mul l2 g2 (by omega) (by omega)
    have HU := Lib.hid (fun (W : World) (hw : Below w.heap.size w W) => mulRange_any L2 M2 L3 M3 W (HEV.out.fwd hw HES.out) (Nat.lt_of_lt_of_le HES.out hw.size) ⟨l1, by omega, by omega⟩ ⟨g1, by omega, by omega⟩ ⟨by omega, Int.le_trans (by decide) (Int.ediv_nonneg q0 (by decide)), by rw [cdiv_le (by decide)]; omega⟩ l0 (by omega) (by omega) (by omega))
    unfold RPt at HU
    generalize L2 * L3 / 1000000 = L4 at *
    generalize cdiv (M2 * M3) 1000000 = M4 at *
    have d1 : decide (L4 ≤ 1000000) = true := decide_eq_true m0
    have d2 : decide (1000000 ≤ M4) = true := decide_eq_true m1
    have wr1 : IntKind.i64.wrap (100 * x) = 100 * x := IntWalk.i64_in _ (by omega)
    have wr2 : IntKind.i64.wrap (1000000 + 100 * x) = 1000000 + 100 * x := IntWalk.i64_in _ (by omega)
    clear hn s0 s1 l0 l1 l2 g0 g1 g2 q0 q1 q2 q3 q4 q5 q6 m0 m1
    go_wp2_with fail
    refine (HI.out _).mono ?_
    rintro e w2 ⟨rfl, hb⟩
    have l0_1 : w2.cell? ⟨w1.heap.size, 0, none⟩ = some (.int .i64 s) := bc hb (by first | (simp; done) | go_simp)
    have l1_1 : w2.cell? ⟨w1.heap.size, 1, none⟩ = some (.int .i64 x) := bc hb (by first | (simp; done) | go_simp)
    have l2_1 : w2.cell? ⟨w1.heap.size, 2, none⟩ = some (.int .i64 p) := bc hb (by first | (simp; done) | go_simp)
    have ll_1 : w1.heap.size < w2.heap.size := cell_lt l0_1
    have hszw2 := below_size hb
    try simp at hszw2
    have HBq : Below w.heap.size w w2 := Below.trans (by repeat (first | exact Below.refl _ _ | exact HB.out | refine Below.drew ?_ | refine bel_drewN _ ?_ | refine Below.alloc ?_ (by first | omega | (simp; done) | (simp; omega)) _ | refine Below.setCell ?_ (by first | (show _ ≤ _; omega) | (simp; done) | (simp; omega)) _)) (hb.mono (by first | omega | (simp; done) | (simp; omega)))
    have HB := Lib.hid HBq
    clear HBq hb
    go_wp2_with fail
    go_region_held3 (fun w' => (w'.cell? ⟨w2.heap.size, 0, none⟩ = some (.int .i64 L) ∧ w'.cell? ⟨w2.heap.size, 1, none⟩ = some (.int .i64 M)) ∧ w'.cell? ⟨w1.heap.size, 0, none⟩ = some (.int .i64 s) ∧ w'.cell? ⟨w1.heap.size, 1, none⟩ = some (.int .i64 x) ∧ w'.cell? ⟨w1.heap.size, 2, none⟩ = some (.int .i64 p))
      ((go_split_ands; refine ⟨⟨?_, ?_⟩, ?_, ?_, ?_⟩ <;> first | assumption | (with_reducible exact bc hb (by assumption)) | (exact ca (w := w2) (by assumption)) | (exact new_cell (W := w2) rfl rfl) | (simp; done)))
      (first | (go_at_call 6; (with_reducible refine (HS.out _).mono ?_); rintro e v3 ⟨rfl, hb⟩))
    all_goals
      have l0_2 : v3.cell? ⟨w1.heap.size, 0, none⟩ = some (.int .i64 s) := bc hb (by first | exact l0_1 | exact ca l0_1 | exact ca (ca l0_1) | exact ca (ca (ca l0_1)) | (simp; done) | go_simp)
      have l1_2 : v3.cell? ⟨w1.heap.size, 1, none⟩ = some (.int .i64 x) := bc hb (by first | exact l1_1 | exact ca l1_1 | exact ca (ca l1_1) | exact ca (ca (ca l1_1)) | (simp; done) | go_simp)
      have l2_2 : v3.cell? ⟨w1.heap.size, 2, none⟩ = some (.int .i64 p) := bc hb (by first | exact l2_1 | exact ca l2_1 | exact ca (ca l2_1) | exact ca (ca (ca l2_1)) | (simp; done) | go_simp)
      have ll_2 : w1.heap.size < v3.heap.size := cell_lt l0_2
      clear l0_1 l1_1 l2_1 ll_1
      have v0_1 : v3.cell? ⟨w2.heap.size, 0, none⟩ = some (.int .i64 L) := bc hb (by first | (simp; done) | go_simp)
      have v1_1 : v3.cell? ⟨w2.heap.size, 1, none⟩ = some (.int .i64 M) := bc hb (by first | (simp; done) | go_simp)
      have vl_1 : w2.heap.size < v3.heap.size := cell_lt v0_1
      have hszv3 := below_size hb
      try simp at hszv3
      have HBq : Below w.heap.size w v3 := Below.trans (by repeat (first | exact Below.refl _ _ | exact HB.out | refine Below.drew ?_ | refine bel_drewN _ ?_ | refine Below.alloc ?_ (by first | omega | (simp; done) | (simp; omega)) _ | refine Below.setCell ?_ (by first | (show _ ≤ _; omega) | (simp; done) | (simp; omega)) _)) (hb.mono (by first | omega | (simp; done) | (simp; omega)))
      have HB := Lib.hid HBq
      clear HBq hb
      go_wp2_with fail
      refine (HJ.out _).mono ?_
      rintro e w4 ⟨rfl, hb⟩
      have l0_3 : w4.cell? ⟨w1.heap.size, 0, none⟩ = some (.int .i64 s) := bc hb (by first | exact l0_2 | exact ca l0_2 | exact ca (ca l0_2) | exact ca (ca (ca l0_2)) | (simp; done) | go_simp)
      have l1_3 : w4.cell? ⟨w1.heap.size, 1, none⟩ = some (.int .i64 x) := bc hb (by first | exact l1_2 | exact ca l1_2 | exact ca (ca l1_2) | exact ca (ca (ca l1_2)) | (simp; done) | go_simp)
      have l2_3 : w4.cell? ⟨w1.heap.size, 2, none⟩ = some (.int .i64 p) := bc hb (by first | exact l2_2 | exact ca l2_2 | exact ca (ca l2_2) | exact ca (ca (ca l2_2)) | (simp; done) | go_simp)
      have ll_3 : w1.heap.size < w4.heap.size := cell_lt l0_3
      clear l0_2 l1_2 l2_2 ll_2
      have v0_2 : w4.cell? ⟨w2.heap.size, 0, none⟩ = some (.int .i64 L) := bc hb (by first | exact v0_1 | exact ca v0_1 | exact ca (ca v0_1) | exact ca (ca (ca v0_1)) | (simp; done) | go_simp)
      have v1_2 : w4.cell? ⟨w2.heap.size, 1, none⟩ = some (.int .i64 M) := bc hb (by first | exact v1_1 | exact ca v1_1 | exact ca (ca v1_1) | exact ca (ca (ca v1_1)) | (simp; done) | go_simp)
      have vl_2 : w2.heap.size < w4.heap.size := cell_lt v0_2
      clear v0_1 v1_1 vl_1
      have hszw4 := below_size hb
      try simp at hszw4
      have HBq : Below w.heap.size w w4 := Below.trans (by repeat (first | exact Below.refl _ _ | exact HB.out | refine Below.drew ?_ | refine bel_drewN _ ?_ | refine Below.alloc ?_ (by first | omega | (simp; done) | (simp; omega)) _ | refine Below.setCell ?_ (by first | (show _ ≤ _; omega) | (simp; done) | (simp; omega)) _)) (hb.mono (by first | omega | (simp; done) | (simp; omega)))
      have HB := Lib.hid HBq
      clear HBq hb
      go_wp2_with fail
      refine (HP.out _).mono ?_
      rintro e w5 ⟨rfl, hb⟩
      have l0_4 : w5.cell? ⟨w1.heap.size, 0, none⟩ = some (.int .i64 s) := bc hb (by first | exact l0_3 | exact ca l0_3 | exact ca (ca l0_3) | exact ca (ca (ca l0_3)) | (simp; done) | go_simp)
      have l1_4 : w5.cell? ⟨w1.heap.size, 1, none⟩ = some (.int .i64 x) := bc hb (by first | exact l1_3 | exact ca l1_3 | exact ca (ca l1_3) | exact ca (ca (ca l1_3)) | (simp; done) | go_simp)
      have l2_4 : w5.cell? ⟨w1.heap.size, 2, none⟩ = some (.int .i64 p) := bc hb (by first | exact l2_3 | exact ca l2_3 | exact ca (ca l2_3) | exact ca (ca (ca l2_3)) | (simp; done) | go_simp)
      have ll_4 : w1.heap.size < w5.heap.size := cell_lt l0_4
      clear l0_3 l1_3 l2_3 ll_3
      have v0_3 : w5.cell? ⟨w2.heap.size, 0, none⟩ = some (.int .i64 L) := bc hb (by first | exact v0_2 | exact ca v0_2 | exact ca (ca v0_2) | exact ca (ca (ca v0_2)) | (simp; done) | go_simp)
      have v1_3 : w5.cell? ⟨w2.heap.size, 1, none⟩ = some (.int .i64 M) := bc hb (by first | exact v1_2 | exact ca v1_2 | exact ca (ca v1_2) | exact ca (ca (ca v1_2)) | (simp; done) | go_simp)
      have vl_3 : w2.heap.size < w5.heap.size := cell_lt v0_3
      clear v0_2 v1_2 vl_2
      have f0_1 : w5.cell? ⟨w4.heap.size, 0, none⟩ = some (.int .i64 L2) := bc hb (by first | (simp; done) | go_simp)
      have f1_1 : w5.cell? ⟨w4.heap.size, 1, none⟩ = some (.int .i64 M2) := bc hb (by first | (simp; done) | go_simp)
      have fl_1 : w4.heap.size < w5.heap.size := cell_lt f0_1
      have hszw5 := below_size hb
      try simp at hszw5
      have HBq : Below w.heap.size w w5 := Below.trans (by repeat (first | exact Below.refl _ _ | exact HB.out | refine Below.drew ?_ | refine bel_drewN _ ?_ | refine Below.alloc ?_ (by first | omega | (simp; done) | (simp; omega)) _ | refine Below.setCell ?_ (by first | (show _ ≤ _; omega) | (simp; done) | (simp; omega)) _)) (hb.mono (by first | omega | (simp; done) | (simp; omega)))
      have HB := Lib.hid HBq
      clear HBq hb
      go_wp2_with fail
      refine (HU.out _ ?_).mono ?_
      · exact (by repeat (first | exact Below.refl _ _ | exact HB.out | refine Below.drew ?_ | refine bel_drewN _ ?_ | refine Below.alloc ?_ (by first | omega | (simp; done) | (simp; omega)) _ | refine Below.setCell ?_ (by first | (show _ ≤ _; omega) | (simp; done) | (simp; omega)) _))
      rintro e w6 ⟨rfl, hb⟩
      have l0_5 : w6.cell? ⟨w1.heap.size, 0, none⟩ = some (.int .i64 s) := bc hb (by first | exact l0_4 | exact ca l0_4 | exact ca (ca l0_4) | exact ca (ca (ca l0_4)) | (simp; done) | go_simp)
      have l1_5 : w6.cell? ⟨w1.heap.size, 1, none⟩ = some (.int .i64 x) := bc hb (by first | exact l1_4 | exact ca l1_4 | exact ca (ca l1_4) | exact ca (ca (ca l1_4)) | (simp; done) | go_simp)
      have l2_5 : w6.cell? ⟨w1.heap.size, 2, none⟩ = some (.int .i64 p) := bc hb (by first | exact l2_4 | exact ca l2_4 | exact ca (ca l2_4) | exact ca (ca (ca l2_4)) | (simp; done) | go_simp)
      have ll_5 : w1.heap.size < w6.heap.size := cell_lt l0_5
      clear l0_4 l1_4 l2_4 ll_4
      have v0_4 : w6.cell? ⟨w2.heap.size, 0, none⟩ = some (.int .i64 L) := bc hb (by first | exact v0_3 | exact ca v0_3 | exact ca (ca v0_3) | exact ca (ca (ca v0_3)) | (simp; done) | go_simp)
      have v1_4 : w6.cell? ⟨w2.heap.size, 1, none⟩ = some (.int .i64 M) := bc hb (by first | exact v1_3 | exact ca v1_3 | exact ca (ca v1_3) | exact ca (ca (ca v1_3)) | (simp; done) | go_simp)
      have vl_4 : w2.heap.size < w6.heap.size := cell_lt v0_4
      clear v0_3 v1_3 vl_3
      have f0_2 : w6.cell? ⟨w4.heap.size, 0, none⟩ = some (.int .i64 L2) := bc hb (by first | exact f0_1 | exact ca f0_1 | exact ca (ca f0_1) | exact ca (ca (ca f0_1)) | (simp; done) | go_simp)
      have f1_2 : w6.cell? ⟨w4.heap.size, 1, none⟩ = some (.int .i64 M2) := bc hb (by first | exact f1_1 | exact ca f1_1 | exact ca (ca f1_1) | exact ca (ca (ca f1_1)) | (simp; done) | go_simp)
      have fl_2 : w4.heap.size < w6.heap.size := cell_lt f0_2
      clear f0_1 f1_1 fl_1
      have g0_1 : w6.cell? ⟨w5.heap.size, 0, none⟩ = some (.int .i64 L3) := bc hb (by first | (simp; done) | go_simp)
      have g1_1 : w6.cell? ⟨w5.heap.size, 1, none⟩ = some (.int .i64 M3) := bc hb (by first | (simp; done) | go_simp)
      have gl_1 : w5.heap.size < w6.heap.size := cell_lt g0_1
      have hszw6 := below_size hb
      try simp at hszw6
      have HBq : Below w.heap.size w w6 := Below.trans (by repeat (first | exact Below.refl _ _ | exact HB.out | refine Below.drew ?_ | refine bel_drewN _ ?_ | refine Below.alloc ?_ (by first | omega | (simp; done) | (simp; omega)) _ | refine Below.setCell ?_ (by first | (show _ ≤ _; omega) | (simp; done) | (simp; omega)) _)) (hb.mono (by first | omega | (simp; done) | (simp; omega)))
      have HB := Lib.hid HBq
      clear HBq hb
      go_wp2
      go_ret
      exact ⟨ret_bool (by first | rfl | simp), (by repeat (first | exact Below.refl _ _ | exact HB.out | refine Below.drew ?_ | refine bel_drewN _ ?_ | refine Below.alloc ?_ (by first | omega | (simp; done) | (simp; omega)) _ | refine Below.setCell ?_ (by first | (show _ ≤ _; omega) | (simp; done) | (simp; omega)) _))⟩
end Go.Proofs.YtmidbphfbaldiaaDoor
