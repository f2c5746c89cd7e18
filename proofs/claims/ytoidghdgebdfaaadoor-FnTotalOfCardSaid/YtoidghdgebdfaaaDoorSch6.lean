/- Schedules: ScheduleOf of the program. -/
import Derived.Test.YtoidghdgebdfaaaDoorSch5
import Derived.Deep.OwnShut
namespace Go.Proofs.YtoidghdgebdfaaaDoor
open Go.RowKit Go.Shelf
set_option linter.unusedVariables false
attribute [local go_sem] Oper.semAt_some
def flat (A : Nat → Int × Int × Bool) (n : Nat) : List Value := (List.range n).flatMap fun j => [.int .i64 (A j).1, .int .i64 (A j).2.1, .bool (A j).2.2]
theorem flat_succ (A : Nat → Int × Int × Bool) (n : Nat) : flat A (n + 1) = flat A n ++ [.int .i64 (A n).1, .int .i64 (A n).2.1, .bool (A n).2.2] := by unfold flat; rw [List.range_succ, List.flatMap_append]; simp
theorem flat_len (A : Nat → Int × Int × Bool) : ∀ n, (flat A n).length = n * 3
  | 0 => rfl
  | n + 1 => by rw [flat_succ, List.length_append, flat_len A n]; simp; omega
theorem flat_at (A : Nat → Int × Int × Bool) : ∀ {n j : Nat}, j < n → (flat A n)[j * 3]? = some (.int .i64 (A j).1) ∧ (flat A n)[j * 3 + 1]? = some (.int .i64 (A j).2.1) ∧ (flat A n)[j * 3 + 2]? = some (.bool (A j).2.2)
  | 0, j, h => by omega
  | n + 1, j, h => by
    rw [flat_succ]
    have l := flat_len A n
    by_cases e : j = n
    · subst e
      refine ⟨?_, ?_, ?_⟩ <;> rw [List.getElem?_append_right (by omega)] <;> rw [l]
      · rw [Nat.sub_self]; rfl
      · rw [show j * 3 + 1 - j * 3 = 1 by omega]; rfl
      · rw [show j * 3 + 2 - j * 3 = 2 by omega]; rfl
    · obtain ⟨a, b, c⟩ := flat_at A (n := n) (j := j) (by omega)
      refine ⟨?_, ?_, ?_⟩ <;> rw [List.getElem?_append_left (by omega)] <;> assumption
theorem pb_of_own {w : World} {base g cap n : Nat} {A : Nat → Int × Int × Bool} (h : w.ownsRow base 58 3 (.slice (some ⟨g, 0, none⟩) n cap) n (flat A n)) : PB w g cap n A := by
  obtain ⟨h1, ⟨h2, _⟩ | ⟨g', cap', cur, h3, h4, h5, h6, h7, h8, h9⟩⟩ := h
  · cases h2
  · cases h3
    refine ⟨cur, h5, h8, fun j hj => ?_⟩
    obtain ⟨a, b, c⟩ := flat_at A hj
    rw [← h9] at a b c
    rw [List.getElem?_take_of_lt (by omega), Array.getElem?_toList] at a b c
    exact ⟨a, b, c⟩
theorem PB.kept {w w' : World} {g cap n : Nat} {A : Nat → Int × Int × Bool} {row : Option Nat} (h : PB w g cap n A) (hg : w.grownBy w' row) (hne : some g ≠ row) : PB w' g cap n A := by
  have hl := h.lt
  obtain ⟨cur, h1, h2, h3⟩ := h
  exact ⟨cur, (hg.block g hl hne).trans h1, h2, h3⟩
/-- a row of L periods: nil if L = 0 -/
def PV (w : World) (base : Nat) (v : Value) (L : Nat) (A : Nat → Int × Int × Bool) : Prop :=
  (L = 0 ∧ v = .slice none 0 0) ∨ (1 ≤ L ∧ ∃ g c cap, v = .slice (some ⟨g, 0, none⟩) L c ∧ base ≤ g ∧ L ≤ c ∧ c ≤ cap ∧ cap ≤ maxLen ∧ PB w g cap L A)
noncomputable def perA (s e m : Int) (n j : Nat) : Int × Int × Bool := (pF s e m n j, pT e m n j, pW s e m n j)
theorem perL_flat (s e m : Int) (n t : Nat) : perL s e m n t = flat (perA s e m n) t := rfl
/-- what the program's ScheduleOf hands over -/
def ScI (s e m : Int) (w : World) (ed : Ending) (w' : World) : Prop :=
  ∃ v, ed = .returned v ∧ PV w' w.heap.size v (schL s e m) (perA s e m (schL s e m)) ∧ Below w.heap.size w w'
/-- what has been collected when the rounds of pre are over -/
def elA (s : Int) (x : Int × Int) : Int × Int × Bool := (if x.2 < s then s else x.2, x.1, decide (s ≤ x.2))
def colA (s : Int) (pre : List (Int × Int)) (j : Nat) : Int × Int × Bool := elA s (pre.getD j (0, 0))
def colL (s : Int) (pre : List (Int × Int)) : List Value := pre.flatMap fun x => [.int .i64 (elA s x).1, .int .i64 (elA s x).2.1, .bool (elA s x).2.2]
theorem colL_snoc (s : Int) (pre : List (Int × Int)) (x : Int × Int) : colL s (pre ++ [x]) = colL s pre ++ [.int .i64 (elA s x).1, .int .i64 (elA s x).2.1, .bool (elA s x).2.2] := by unfold colL; rw [List.flatMap_append]; simp
theorem colL_flat (s : Int) (e m : Int) : ∀ n, colL s (ysL e m n) = flat (fun j => elA s (bk e m j, bk e m (j + 1))) n
  | 0 => rfl
  | n + 1 => by rw [ysL_succ, colL_snoc, flat_succ, colL_flat s e m n]
theorem endN_sch {s e m : Int} (hm : 1 ≤ m) (hs : 0 ≤ s) : (endN s e m ≤ 40 → schN s e m = endN s e m) ∧ (41 ≤ endN s e m → schN s e m = 41) := by
  obtain ⟨a, b, c⟩ := endN_facts (e := e) hm hs
  have l := schN_le s e m
  refine ⟨fun h => ?_, fun h => ?_⟩
  · rcases Nat.lt_trichotomy (schN s e m) (endN s e m) with q | q | q
    · have := schN_out (s := s) (e := e) (m := m) (by omega); have := a _ q; omega
    · exact q
    · have := schN_in q; omega
  · by_cases q : schN s e m = 41
    · exact q
    · have := schN_out (s := s) (e := e) (m := m) (by omega); have := a (schN s e m) (by omega); omega
theorem rev_per {s e m : Int} {n : Nat} (hn : schN s e m = n) (h40 : n ≤ 40) : ∀ j, j < n → (fun j => elA s (bk e m j, bk e m (j + 1))) (n - 1 - j) = perA s e m n j := by
  intro j hj
  show elA s (bk e m (n - 1 - j), bk e m (n - 1 - j + 1)) = perA s e m n j
  have h1 := schN_out (s := s) (e := e) (m := m) (by omega)
  rw [hn] at h1
  unfold perA elA pF pT pW
  by_cases c : j = 0
  · subst c
    rw [if_pos rfl, if_pos rfl, show n - 1 - 0 + 1 = n by omega]
    simp only [Prod.mk.injEq]
    refine ⟨?_, trivial, ?_⟩
    · split <;> omega
    · rw [Bool.eq_iff_iff, decide_eq_true_eq, beq_iff_eq]; omega
  · have h2 := schN_in (s := s) (e := e) (m := m) (j := n - j) (by omega)
    rw [if_neg c, if_neg c, show n - 1 - j + 1 = n - j by omega]
    simp only [Prod.mk.injEq]
    refine ⟨by rw [if_neg (by omega)], trivial, by simp; omega⟩
/-- the boxes that stand: the start; the result; the three that the iterator has captured -/
def SBox (W : World) (b : Nat) (s e m : Int) : Prop :=
  (Boxed W b 3 (.int .i64 s) ∧ Boxed W (b + 1) 33 (.slice none 0 0)) ∧ Boxed W (b + 1 + 1 + 1 + 1 + 1) 3 (.int .i64 s) ∧ Boxed W (b + 1 + 1 + 1 + 1 + 1 + 1) 3 (.int .i64 e) ∧ Boxed W (b + 1 + 1 + 1 + 1 + 1 + 2) 3 (.int .i64 m)
theorem sbox_own {β : Type} (b : Nat) (s e m : Int) : Own (fun (_ : β) W => SBox W b s e m) := by
  intro x A B row h hg hr
  obtain ⟨⟨h1, h2⟩, h3, h4, h5⟩ := h
  exact ⟨⟨boxed_own _ _ (fun _ : β => _) x A B row h1 hg hr, boxed_own _ _ (fun _ : β => _) x A B row h2 hg hr⟩, boxed_own _ _ (fun _ : β => _) x A B row h3 hg hr, boxed_own _ _ (fun _ : β => _) x A B row h4 hg hr, boxed_own _ _ (fun _ : β => _) x A B row h5 hg hr⟩
theorem SBox.step {W w1 : World} {b n₀ : Nat} {s e m : Int} {v v' : Value} {k : Nat} {xs : List Value} {tmp : Obj} (h : SBox W b s e m) (hrow : W.ownsRow n₀ 58 3 v k xs) (hgrow : (W.alloc tmp).grownBy w1 v.ownBlock) :
    SBox (w1.setCell ⟨b + 1 + 1 + 1 + 1, 0, none⟩ v') b s e m := by
  have key : ∀ {B : Nat} {t : TypeId} {u : Value}, Boxed W B t u → t ≠ 58 → B ≠ b + 1 + 1 + 1 + 1 → Boxed (w1.setCell ⟨b + 1 + 1 + 1 + 1, 0, none⟩ v') B t u := by
    intro B t u hB ht hne
    have h1 : Boxed w1 B t u := (hB.alloc tmp).kept hgrow (hB.not_row ht hrow)
    exact (Below.heap_setCell _ _ _ _ (by intro e; exact hne (by first | exact e | exact e.symm))).trans h1
  obtain ⟨⟨h1, h2⟩, h3, h4, h5⟩ := h
  exact ⟨⟨key h1 (by decide) (by omega), key h2 (by decide) (by omega)⟩, key h3 (by decide) (by omega), key h4 (by decide) (by omega), key h5 (by decide) (by omega)⟩
theorem SBox.keep {W W' : World} {b n : Nat} {s e m : Int} (h : SBox W b s e m) (h' : SBox W' b s e m) (k : Below n W W') : KpS n (b + 1 + 1 + 1 + 1 + 1) (b + 1 + 1 + 1 + 1 + 1 + 1) (b + 1 + 1 + 1 + 1 + 1 + 2) W W' :=
  ⟨k, h'.2.1.trans h.2.1.symm, h'.2.2.1.trans h.2.2.1.symm, h'.2.2.2.trans h.2.2.2.symm⟩
theorem own_form {w : World} {base : Nat} {e : TypeId} {size : Nat} {v : Value} {n : Nat} {xs : List Value} (h : w.ownsRow base e size v n xs) : ∃ a c, v = .slice a n c ∧ n ≤ c ∧ c ≤ maxLen := by
  obtain ⟨h1, ⟨h2, h3⟩ | ⟨g, cap, cur, h3, h4, h5, h6, h7, _⟩⟩ := h
  · subst h3; exact ⟨none, 0, h2, Nat.le_refl _, Nat.zero_le _⟩
  · exact ⟨_, _, h3, h6, h7⟩
theorem new_cell {W : World} {C : Array Value} {T : TypeId} {b i : Nat} {v : Value} (hb : b = W.heap.size) (h : C[i]? = some v) : (W.alloc (.cells C T)).cell? ⟨b, i, none⟩ = some v := by
  subst hb
  rw [World.cell?_alloc_mark]
  exact h
theorem makePer : ∃ cur : Array Value, cur.size = 40 * 3 ∧ ∀ w : World, (Instr.makeSlice 33 (.int .i64 0) (.int .i64 40)).run Tryd.prog w = .ok (.slice (some ⟨w.heap.size, 0, none⟩) 0 40) (w.alloc (.cells cur 58)) := by
  refine ⟨((List.range 40).flatMap fun _ => [.int .i64 0, .int .i64 0, .bool false]).toArray, by rfl, fun w => by kernel_rfl⟩
theorem ends_any (s e m : Int) (w : World) :
    Calls Tryd.prog 44 #[.int .i64 s, .int .i64 e, .int .i64 m] w fun ed w' => ed = .returned (.func (.func 61) #[] #[.pointer (some ⟨w.heap.size + 1, 0, none⟩), .pointer (some ⟨w.heap.size, 0, none⟩), .pointer (some ⟨w.heap.size + 2, 0, none⟩)]) ∧ w' = ((w.alloc (.cells #[.int .i64 s] 3)).alloc (.cells #[.int .i64 e] 3)).alloc (.cells #[.int .i64 m] 3) := by
  go_enter Tryd.func44, Tryd.ntmps44
  go_wp2
  go_ret
  exact ⟨rfl, rfl⟩
set_option maxRecDepth 100000 in
set_option maxHeartbeats 4000000 in
theorem scheduleOfI_in (s e m : Int) (w : World) (hM : MD w) (h : spnB s e m = true) :
    CallsIn Fence.wide 3 Tryd.prog 20 #[.int .i64 s, .int .i64 e, .int .i64 m] w (ScI s e m w) := by
  obtain ⟨⟨s0, s1, e1⟩, hm⟩ := spnB_iff.1 h
  have g1 : inR s 0 36524 = true := inR_yes (by omega)
  have g2 : inR e 0 36524 = true := inR_yes (by omega)
  have g3 : (m == 1 || m == 3 || m == 6 || m == 12) = true := by simp; omega
  have HM := Lib.hid hM
  have Hm := Lib.hid hm
  obtain ⟨cur, hcur, hmk⟩ := makePer
  have HCUR := Lib.hid hcur
  obtain ⟨i1, hj, hy0, hy1, hy2⟩ := info_parts infoPer
  clear hM hm h hcur
  refine callsIn_of_wp_marks Tryd.func20 rfl trivial ?_ rfl
  simp only [Tryd.ntmps20, List.size_toArray, List.length_cons, List.length_nil, Nat.reduceAdd, Nat.reduceSub, Array.replicate_succ, Array.replicate_zero, List.push_toArray, List.append_toArray, List.nil_append, List.cons_append]
  gi_wp2_with (first | (refine ⟨trivial, ?_⟩; gi_at_call 42; refine (callsIn_wide.2 (dayValid_any _ _)).mono ?_; rintro e w' ⟨rfl, rfl⟩))
  refine ⟨trivial, ?_⟩
  refine (callsIn_wide.2 (contains_any (w.heap.size + 1 + 1) 4 m _ (fun k hk => ?c1))).mono ?_
  case c1 =>
    have hc : k = 0 ∨ k = 1 ∨ k = 2 ∨ k = 3 := by omega
    rcases hc with rfl | rfl | rfl | rfl <;> exact new_cell (by simp) rfl
  rintro ed w' ⟨rfl, rfl⟩
  gi_wp2_with fail
  refine ⟨trivial, ?_⟩
  refine (callsIn_wide.2 (ends_any _ _ _ _)).mono ?_
  rintro ed w' ⟨rfl, rfl⟩
  gi_wp2_with fail
  obtain ⟨W0, hW0⟩ : ∃ W0 : World, (((((((w.alloc (.cells #[.int .i64 s] 3)).alloc (.cells #[.slice none 0 0] 33)).alloc (.cells #[.int .i64 1, .int .i64 3, .int .i64 6, .int .i64 12] 3)).alloc (.cells cur 58)).alloc (.cells #[.slice (some ⟨w.heap.size + 1 + 1 + 1, 0, none⟩) 0 40] 33)).alloc (.cells #[.int .i64 s] 3)).alloc (.cells #[.int .i64 e] 3)).alloc (.cells #[.int .i64 m] 3) = W0 := ⟨_, rfl⟩
  rw [hW0]
  have hsz : w.heap.size + 8 ≤ W0.heap.size := by rw [← hW0]; simp
  have hsz2 : W0.heap.size ≤ w.heap.size + 8 := by rw [← hW0]; simp
  have b0 : Boxed W0 w.heap.size 3 (.int .i64 s) := by
    rw [← hW0]; exact ((((((((Boxed.new w _ _).alloc _).alloc _).alloc _).alloc _).alloc _).alloc _).alloc _)
  have b1 : Boxed W0 (w.heap.size + 1) 33 (.slice none 0 0) := by
    rw [← hW0]
    have := Boxed.new (w.alloc (.cells #[.int .i64 s] 3)) 33 (.slice none 0 0)
    rw [World.size_alloc] at this
    exact ((((((this.alloc _).alloc _).alloc _).alloc _).alloc _).alloc _)
  have b7 : Boxed W0 (w.heap.size + 1 + 1 + 1 + 1) 33 (.slice (some ⟨w.heap.size + 1 + 1 + 1, 0, none⟩) 0 40) := by
    rw [← hW0]
    have := Boxed.new ((((w.alloc (.cells #[.int .i64 s] 3)).alloc (.cells #[.slice none 0 0] 33)).alloc (.cells #[.int .i64 1, .int .i64 3, .int .i64 6, .int .i64 12] 3)).alloc (.cells cur 58)) 33 (.slice (some ⟨w.heap.size + 1 + 1 + 1, 0, none⟩) 0 40)
    simp only [World.size_alloc] at this
    exact (((this.alloc _).alloc _).alloc _)
  have o0 : W0.ownsRow (w.heap.size + 3) 58 3 (.slice (some ⟨w.heap.size + 1 + 1 + 1, 0, none⟩) 0 40) 0 [] := by
    rw [← hW0]
    have := World.ownsRow_made (base := w.heap.size + 3) (e := 58) (size := 3) (((w.alloc (.cells #[.int .i64 s] 3)).alloc (.cells #[.slice none 0 0] 33)).alloc (.cells #[.int .i64 1, .int .i64 3, .int .i64 6, .int .i64 12] 3)) cur 40 (by simp) (by decide) HCUR.out
    simp only [World.size_alloc] at this
    exact ((((this.alloc _).alloc _).alloc _).alloc _)
  have b5 : Boxed W0 (w.heap.size + 1 + 1 + 1 + 1 + 1) 3 (.int .i64 s) := by
    rw [← hW0]
    have := Boxed.new (((((w.alloc (.cells #[.int .i64 s] 3)).alloc (.cells #[.slice none 0 0] 33)).alloc (.cells #[.int .i64 1, .int .i64 3, .int .i64 6, .int .i64 12] 3)).alloc (.cells cur 58)).alloc (.cells #[.slice (some ⟨w.heap.size + 1 + 1 + 1, 0, none⟩) 0 40] 33)) 3 (.int .i64 s)
    simp only [World.size_alloc] at this
    exact ((this.alloc _).alloc _)
  have b6 : Boxed W0 (w.heap.size + 1 + 1 + 1 + 1 + 1 + 1) 3 (.int .i64 e) := by
    rw [← hW0]
    have := Boxed.new ((((((w.alloc (.cells #[.int .i64 s] 3)).alloc (.cells #[.slice none 0 0] 33)).alloc (.cells #[.int .i64 1, .int .i64 3, .int .i64 6, .int .i64 12] 3)).alloc (.cells cur 58)).alloc (.cells #[.slice (some ⟨w.heap.size + 1 + 1 + 1, 0, none⟩) 0 40] 33)).alloc (.cells #[.int .i64 s] 3)) 3 (.int .i64 e)
    simp only [World.size_alloc] at this
    exact (this.alloc _)
  have b8 : Boxed W0 (w.heap.size + 1 + 1 + 1 + 1 + 1 + 2) 3 (.int .i64 m) := by
    rw [← hW0]
    have := Boxed.new (((((((w.alloc (.cells #[.int .i64 s] 3)).alloc (.cells #[.slice none 0 0] 33)).alloc (.cells #[.int .i64 1, .int .i64 3, .int .i64 6, .int .i64 12] 3)).alloc (.cells cur 58)).alloc (.cells #[.slice (some ⟨w.heap.size + 1 + 1 + 1, 0, none⟩) 0 40] 33)).alloc (.cells #[.int .i64 s] 3)).alloc (.cells #[.int .i64 e] 3)) 3 (.int .i64 m)
    simp only [World.size_alloc] at this
    exact this
  have cs : W0.cell? ⟨w.heap.size + 1 + 1 + 1 + 1 + 1, 0, none⟩ = some (.int .i64 s) := by rw [← hW0]; exact ca (ca (new_cell (by simp) rfl))
  have ce : W0.cell? ⟨w.heap.size + 1 + 1 + 1 + 1 + 1 + 1, 0, none⟩ = some (.int .i64 e) := by rw [← hW0]; exact ca (new_cell (by simp) rfl)
  have cm : W0.cell? ⟨w.heap.size + 1 + 1 + 1 + 1 + 1 + 2, 0, none⟩ = some (.int .i64 m) := by rw [← hW0]; exact new_cell (by simp) rfl
  have bel : Below w.heap.size w W0 := by rw [← hW0]; exact (by repeat (first | exact Below.refl _ _ | refine Below.drew ?_ | refine bel_drewN _ ?_ | refine Below.alloc ?_ (by first | omega | (simp; done) | (simp; omega)) _ | refine Below.setCell ?_ (by first | (show _ ≤ _; omega) | (simp; done) | (simp; omega)) _))
  clear hW0
  have hM1 : Hid (MD W0) := HM.out.below bel
  have hMs := HM.out.size
  have hm1 : 1 ≤ m := by have := Hm.out; omega
  have hm2 : m ≤ 12 := by have := Hm.out; omega
  refine wpIn_rangeFunc_ownG (α := Int × Int) (encs := fun x => #[.int .i64 x.1, .int .i64 x.2]) (Kp := KpS w.heap.size (w.heap.size + 1 + 1 + 1 + 1 + 1) (w.heap.size + 1 + 1 + 1 + 1 + 1 + 1) (w.heap.size + 1 + 1 + 1 + 1 + 1 + 2)) (S := fun ys => ys = ysL e m (endN s e m)) (Sp := fun pre => pre <+: ysL e m (endN s e m)) (N := endN s e m) (w0 := W0)
    rfl (by omega) (gf := 61) (lb := #[.pointer (some ⟨w.heap.size + 1 + 1 + 1 + 1 + 1 + 1, 0, none⟩), .pointer (some ⟨w.heap.size + 1 + 1 + 1 + 1 + 1, 0, none⟩), .pointer (some ⟨w.heap.size + 1 + 1 + 1 + 1 + 1 + 2, 0, none⟩)]) rfl trivial (enters_of Tryd.func61 (by kernel_rfl) rfl)
    ?seq (fun h k => h.trans k) ?keep (Below.refl _ _) (fun _ => rfl)
    (fun pre W => (∃ v, Boxed W (w.heap.size + 1 + 1 + 1 + 1) 33 v ∧ W.ownsRow (w.heap.size + 3) 58 3 v pre.length (colL s pre) ∧ pre.length ≤ 40) ∧ SBox W w.heap.size s e m ∧ Below w.heap.size w W)
    (fun c pre W => (c = .ret ∧ pre.length = 41) ∧ Boxed W (w.heap.size + 1) 33 (.slice none 0 0) ∧ Below w.heap.size w W)
    ?own ?ownx ?start (fun x => { tmps := #[.int .i64 s, .int .i64 e, .int .i64 m, .pointer (some ⟨w.heap.size, 0, none⟩), undef, undef, .pointer (some ⟨w.heap.size + 1, 0, none⟩), .pointer (some ⟨w.heap.size + 1 + 1 + 1 + 1, 0, none⟩), .int .i64 x.1, .int .i64 x.2, .int .i64 s, .bool true, .bool false, .bool false, .int .i64 e, .bool true, .bool false, .bool false, .bool false, .int .i64 e, .int .i64 s, .bool (decide (e ≤ s)), .bool (decide (e ≤ s)), .bool (decide (e ≤ s)), .slice (some ⟨w.heap.size + 1 + 1, 0, none⟩) 4 4, .int .i64 m, .bool true, .bool false, .bool (decide (e ≤ s)), .slice (some ⟨w.heap.size + 1 + 1 + 1, 0, none⟩) 0 40, .int .i64 s, .int .i64 e, .int .i64 m, .func (Fn.func 61) #[] #[.pointer (some ⟨w.heap.size + 1 + 1 + 1 + 1 + 1 + 1, 0, none⟩), .pointer (some ⟨w.heap.size + 1 + 1 + 1 + 1 + 1, 0, none⟩), .pointer (some ⟨w.heap.size + 1 + 1 + 1 + 1 + 1 + 2, 0, none⟩)], .int .i64 x.1, .int .i64 x.2, undef, undef, undef, undef, undef, undef, undef, undef, undef, undef, undef, undef, undef, undef, undef, undef, undef, undef], defers := [] }) ?assign ?body ?done ?stop
  case seq =>
    intro l J Jx W hW hJ _ hY h0
    exact ends1_in 2 (by omega) l (w.heap.size + 1 + 1 + 1 + 1 + 1) (w.heap.size + 1 + 1 + 1 + 1 + 1 + 1) (w.heap.size + 1 + 1 + 1 + 1 + 1 + 2) w.heap.size s e m ⟨by omega, e1⟩ hm1 hm2 s0 J Jx W hJ hY (by have := hW.size; omega) (hM1.out.fwd (hW.mono (by omega))) hMs (by have := hW.size; omega)
      ((hW.cell (cell_lt cs)).trans cs) ((hW.cell (cell_lt ce)).trans ce) ((hW.cell (cell_lt cm)).trans cm) h0
  case keep =>
    intro W l o o' hl h1 h2 h3
    have hb := belowK_b (w := W0) (n₀ := W0.heap.size) (Nat.le_refl _) W l o o' hl h1 h2 h3
    exact KpS.of hb (by omega) (by omega) (by omega) (by omega)
  case own => exact OwnFrom.and (Own.from (holdsRow_own (w.heap.size + 3) (w.heap.size + 1 + 1 + 1 + 1) 33 58 3 (fun pre : List (Int × Int) => pre.length) (colL s) (fun pre v => pre.length ≤ 40)) _) (OwnFrom.and (Own.from (sbox_own _ _ _ _) _) (ownFrom_below (Nat.le_refl _) (by omega)))
  case ownx => exact fun c => OwnFrom.and (ownFrom_pure _ (fun pre : List (Int × Int) => c = .ret ∧ pre.length = 41)) (OwnFrom.and (Own.from (boxed_own _ _ (fun _ => _)) _) (ownFrom_below (Nat.le_refl _) (by omega)))
  case start => exact ⟨⟨_, b7, o0, by simp⟩, ⟨⟨b0, b1⟩, b5, b6, b8⟩, bel⟩
  case assign =>
    intro l x W K hK
    gi_wp2
    exact hK
  case body =>
    rintro l pre x W ⟨⟨v, hv, hrow, hlen⟩, hsb, hB⟩ hlt
    have HSB := Lib.hid hsb
    obtain ⟨⟨hb0, hb1⟩, _⟩ := hsb
    obtain ⟨va, vc, rfl, v1, v2⟩ := own_form hrow
    have hc0 := hb0.cell
    have hc1 := hb1.cell
    have hf1 := hb1.frozen
    have hc7 := hv.cell
    have HROW := Lib.hid hrow
    have HV := Lib.hid hv
    have HB := Lib.hid hB
    have HB0 := Lib.hid hb0
    have HB1 := Lib.hid hb1
    have hBs := hB.size
    have hlt7 := hv.lt
    clear hrow hB hb0 hb1 hlt hv
    unfold maxLen at v2
    by_cases h40 : pre.length = 40
    · have HL := Lib.hid h40
      rw [h40] at hc7
      clear h40
      gi_wp2
      have hst := HB1.out.set (.slice none 0 0)
      exact ⟨(KeepsOthers.setCell _ _ _).from _, ⟨rfl, by simp [HL.out]⟩, hst, HB.out.setCell (p := ⟨w.heap.size + 1, 0, none⟩) (by show w.heap.size ≤ w.heap.size + 1; omega) _⟩
    · by_cases hx : x.2 < s
      · gi_wp2_with (gi_at_builtin; refine wpListIn_append_own _ rfl _ _ 33 rfl (w.heap.size + 3) 58 i1 (.agg #[.int .i64 0, .int .i64 0, .bool false]) 3 24 Tryd.underlying33 hj hy0 hy1 hy2 rfl (by decide) _ _ _ rfl (HROW.out.alloc _) ⟨W.heap.size, 0, none⟩ 1 1 [.int .i64 s, .int .i64 x.1, .bool (decide (s ≤ x.2))] rfl rfl (news_at _ _ _) (by simp [Value.oneCell']) (by unfold maxLen; omega) (by omega) (by simp; omega) ?_; intro v' w1 hown' hgrow _; obtain ⟨g', cap', rfl⟩ := ownsRow_succ hown'; obtain ⟨hv1, hv2, hr2, hk2, hb2⟩ := HV.out.appended (by decide) HROW.out (by omega) (by omega) hown' hgrow; have hc1 := hv1.cell; have hf1 := hv1.frozen)
        have hS := SBox.step (v' := .slice (some ⟨g', 0, none⟩) (pre.length + 1) cap') HSB.out HROW.out hgrow
        refine ⟨hk2.from _, SBox.keep HSB.out hS (hb2.mono (by omega)), ⟨_, hv2, ?_, by simp; omega⟩, hS, HB.out.trans (hb2.mono (by omega))⟩
        rw [colL_snoc]
        simp only [List.length_append, List.length_singleton]
        have e1 : elA s x = (s, x.1, decide (s ≤ x.2)) := by unfold elA; rw [if_pos hx]
        rw [e1]
        exact hr2
      · gi_wp2_with (gi_at_builtin; refine wpListIn_append_own _ rfl _ _ 33 rfl (w.heap.size + 3) 58 i1 (.agg #[.int .i64 0, .int .i64 0, .bool false]) 3 24 Tryd.underlying33 hj hy0 hy1 hy2 rfl (by decide) _ _ _ rfl (HROW.out.alloc _) ⟨W.heap.size, 0, none⟩ 1 1 [.int .i64 x.2, .int .i64 x.1, .bool (decide (s ≤ x.2))] rfl rfl (news_at _ _ _) (by simp [Value.oneCell']) (by unfold maxLen; omega) (by omega) (by simp; omega) ?_; intro v' w1 hown' hgrow _; obtain ⟨g', cap', rfl⟩ := ownsRow_succ hown'; obtain ⟨hv1, hv2, hr2, hk2, hb2⟩ := HV.out.appended (by decide) HROW.out (by omega) (by omega) hown' hgrow; have hc1 := hv1.cell; have hf1 := hv1.frozen)
        have hS := SBox.step (v' := .slice (some ⟨g', 0, none⟩) (pre.length + 1) cap') HSB.out HROW.out hgrow
        refine ⟨hk2.from _, SBox.keep HSB.out hS (hb2.mono (by omega)), ⟨_, hv2, ?_, by simp; omega⟩, hS, HB.out.trans (hb2.mono (by omega))⟩
        rw [colL_snoc]
        simp only [List.length_append, List.length_singleton]
        have e1 : elA s x = (x.2, x.1, decide (s ≤ x.2)) := by unfold elA; rw [if_neg (c := x.2 < s) (by omega)]
        rw [e1]
        exact hr2
  case done =>
    rintro D ys W hD rfl ⟨⟨v, hv, hrow, hlen⟩, hsb, hB⟩ hK
    rw [ysL_len] at hrow hlen
    rw [colL_flat] at hrow
    obtain ⟨N, hN⟩ : ∃ N, endN s e m = N := ⟨_, rfl⟩
    have hsch := (endN_sch (e := e) hm1 s0).1
    have hpos : 1 ≤ schN s e m := schN_pos (spnB_iff.2 ⟨⟨s0, s1, e1⟩, Hm.out⟩)
    rw [hN] at hrow hlen hsch
    replace hsch := hsch hlen
    rw [hsch] at hpos
    obtain ⟨g, cap, rfl, q1, q2, q3, q4⟩ := own_slice hrow hpos
    have hpb := pb_of_own hrow
    have hne : ∀ {B : Nat} {t : TypeId} {u : Value}, Boxed W B t u → t ≠ 58 → B ≠ g := by
      intro B t u hb ht h0
      have := hb.not_row ht hrow
      simp [Value.ownBlock] at this
      exact this h0
    have hn7 := hne hv (by decide)
    have hn1 := hne hsb.1.2 (by decide)
    have hc7 := hv.cell
    have hnD : D ≠ g := by
      intro h0
      obtain ⟨c0, hc0, _⟩ := hpb
      rw [h0, hc0] at hK
      cases hK
    have HPB := Lib.hid hpb
    have HV := Lib.hid hv
    have HSB := Lib.hid hsb
    have HB := Lib.hid hB
    have HK := Lib.hid hK
    have HSCH := Lib.hid hsch
    have HNE := Lib.hid hN
    unfold maxLen at q4
    clear hrow hpb hv hsb hB hK hne hsch hN
    gi_wp2_with fail
    refine ⟨trivial, ?_⟩
    refine (callsIn_wide.2 (reverse_any g cap cap N _ W hpos (by omega) q3 q4 HPB.out)).mono ?_
    rintro ed W3 ⟨⟨vv, rfl⟩, hpb3, hg3⟩
    have hv3 := HV.out.kept hg3 (by simpa using hn7)
    have hb3 := HSB.out.1.2.kept hg3 (by simpa using hn1)
    have hc73 := hv3.cell
    have hc13 := hb3.cell
    have hf13 := hb3.frozen
    have HK3 : Hid (W3.heap[D]? = some (.deferred (some []))) := (hg3.block D (Array.getElem?_eq_some_iff.1 HK.out).1 (by simpa using hnD)).trans HK.out
    have HP3 := Lib.hid hpb3
    have HB3 : Hid (Below w.heap.size w W3) := Below.grown HB.out hg3 (by have := HB.out.size; omega) (fun k hk => by cases hk; omega)
    clear hpb3 hg3 hv3 hb3
    gi_wp2_with fail
    refine ⟨trivial, ?_⟩
    refine (callsIn_wide.2 (clip_any g N cap W3 q3 (by unfold maxLen; omega))).mono ?_
    rintro ed w' ⟨rfl, rfl⟩
    gi_wp2
    have hK' := (KeepsOthers.setCell W3 ⟨w.heap.size + 1, 0, none⟩ (.slice (some ⟨g, 0, none⟩) N N)).same D _ HK3.out rfl
    refine ⟨by simp, .inl ⟨_, _, rfl, run_takeDeferred hK', ?_⟩⟩
    have hc5 := cell_kept (World.cell?_setCell_same' W3 ⟨w.heap.size + 1, 0, none⟩ (.slice (some ⟨g, 0, none⟩) N N) (by rw [hc13]; rfl)) (grownBy_putObj' _ D (.deferred none)) (fun r e => by cases e; exact ⟨_, hK', rfl⟩)
    have hL : schL s e m = N := by rw [schL_yes (spnB_iff.2 ⟨⟨s0, s1, e1⟩, Hm.out⟩) (by rw [HSCH.out]; omega), HSCH.out]
    refine ⟨.slice (some ⟨g, 0, none⟩) N N, ?_, .slice (some ⟨g, 0, none⟩) N N, rfl, ?_, (HB3.out.setCell (p := ⟨w.heap.size + 1, 0, none⟩) (by show w.heap.size ≤ w.heap.size + 1; omega) _).trans (belowK_b (w := w) (Nat.le_refl _) _ D _ _ (by omega) hK' rfl rfl)⟩
    · simp [results, Tryd.f20, go_sem, hc5]
    · rw [hL]
      refine .inr ⟨hpos, g, N, cap, rfl, by omega, Nat.le_refl _, q3, by unfold maxLen; omega, ?_⟩
      refine PB.kept (PB.kept (HP3.out.congr (rev_per HSCH.out (by omega))) (grownBy_setCell' _ _ _) (by simpa using fun h => hn1 h.symm)) (grownBy_putObj' _ D (.deferred none)) (by simpa using fun h => hnD h.symm)
  case stop =>
    rintro D c pre W hD hpre ⟨⟨rfl, h41⟩, hb1, hB⟩ hK
    have hlen : 41 ≤ endN s e m := by have := hpre.length_le; rw [ysL_len] at this; omega
    have hL : schL s e m = 0 := schL_big (by have := (endN_sch (e := e) hm1 s0).2 hlen; omega)
    have hc1 := hb1.cell
    gi_wp2
    refine ⟨by simp, .inl ⟨_, _, rfl, run_takeDeferred hK, ?_⟩⟩
    have hc5 := cell_kept hc1 (grownBy_putObj' _ D (.deferred none)) (fun r e => by cases e; exact ⟨_, hK, rfl⟩)
    refine ⟨.slice none 0 0, ?_, .slice none 0 0, rfl, .inl ⟨hL, rfl⟩, hB.trans (belowK_b (w := w) (Nat.le_refl _) W D _ _ (by omega) hK rfl rfl)⟩
    simp [results, Tryd.f20, go_sem, hc5]
end Go.Proofs.YtoidghdgebdfaaaDoor
