/- Notes: rows that the exact laws make, mark and hold. -/
import Derived.Test.YtdifhjjkgcipaaaNote5
import Derived.OwnWalk
import Derived.Deep.RegionHeld3
namespace Go.Proofs.Ytdifhjjkgcipaaa
open Go.RowKit
set_option linter.unusedVariables false
/-- a row of notes as it came in -/
def SV (w : World) (v : Value) (L : Nat) (A : Nat → Nt) : Prop :=
  ∃ a c, v = .slice a L c ∧ L ≤ c ∧ c ≤ 9223372036854775807 ∧ (1 ≤ L → ∃ b o, a = some ⟨b, o, none⟩ ∧ b < w.heap.size ∧ ∀ j, j < L → w.cell? ⟨b, o + j * 3, none⟩ = some (.int .i64 (A j).1) ∧ w.cell? ⟨b, o + j * 3 + 1, none⟩ = some (.int .i64 (A j).2.1) ∧ w.cell? ⟨b, o + j * 3 + 2, none⟩ = some (.int .i64 (A j).2.2))
/-- a row of notes in a block from lo on and below hi -/
def NVR (w : World) (lo hi : Nat) (v : Value) (L : Nat) (A : Nat → Nt) : Prop :=
  (L = 0 ∧ ∃ a c, v = .slice a 0 c ∧ c ≤ 9223372036854775807) ∨ (1 ≤ L ∧ ∃ g c cap, v = .slice (some ⟨g, 0, none⟩) L c ∧ lo ≤ g ∧ g < hi ∧ L ≤ c ∧ c ≤ 9223372036854775807 ∧ NB w g cap L A)
def IVR (w : World) (lo hi : Nat) (v : Value) (L : Nat) (A : Nat → Int) : Prop :=
  (L = 0 ∧ ∃ a c, v = .slice a 0 c ∧ c ≤ 9223372036854775807) ∨ (1 ≤ L ∧ ∃ g c cap, v = .slice (some ⟨g, 0, none⟩) L c ∧ lo ≤ g ∧ g < hi ∧ L ≤ c ∧ c ≤ 9223372036854775807 ∧ IB w g cap L A)
theorem NVR.nv {w : World} {lo hi : Nat} {v : Value} {L : Nat} {A : Nat → Nt} (h : NVR w lo hi v L A) : NV w lo v L A := by
  rcases h with h | ⟨h1, g, c, cap, h2, h3, _, h4, h5, h6⟩
  · exact .inl h
  · exact .inr ⟨h1, g, c, cap, h2, h3, h4, h5, h6⟩
theorem NV.nvr {w : World} {lo : Nat} {v : Value} {L : Nat} {A : Nat → Nt} (h : NV w lo v L A) : NVR w lo w.heap.size v L A := by
  rcases h with h | ⟨h1, g, c, cap, h2, h3, h4, h5, h6⟩
  · exact .inl h
  · exact .inr ⟨h1, g, c, cap, h2, h3, h6.lt, h4, h5, h6⟩
theorem IVR.iv {w : World} {lo hi : Nat} {v : Value} {L : Nat} {A : Nat → Int} (h : IVR w lo hi v L A) : IV w lo v L A := by
  rcases h with h | ⟨h1, g, c, cap, h2, h3, _, h4, h5, h6⟩
  · exact .inl h
  · exact .inr ⟨h1, g, c, cap, h2, h3, h4, h5, h6⟩
theorem IV.ivr {w : World} {lo : Nat} {v : Value} {L : Nat} {A : Nat → Int} (h : IV w lo v L A) : IVR w lo w.heap.size v L A := by
  rcases h with h | ⟨h1, g, c, cap, h2, h3, h4, h5, h6⟩
  · exact .inl h
  · exact .inr ⟨h1, g, c, cap, h2, h3, h6.lt, h4, h5, h6⟩
/-- only blocks from lo on and below hi have turned -/
structure Out (lo hi : Nat) (w w' : World) : Prop where
  os : w'.os = w.os
  tape : w'.tape = w.tape
  output : w'.output = w.output
  size : w'.heap.size = w.heap.size
  block : ∀ k, (k < lo ∨ hi ≤ k) → w'.heap[k]? = w.heap[k]?
theorem Out.refl (lo hi : Nat) (w : World) : Out lo hi w w := ⟨rfl, rfl, rfl, rfl, fun _ _ => rfl⟩
theorem Out.setCell {lo hi : Nat} {a w : World} (h : Out lo hi a w) {p : Addr} (h1 : lo ≤ p.block) (h2 : p.block < hi) (u : Value) : Out lo hi a (w.setCell p u) :=
  ⟨h.os, h.tape, h.output, by have := h.size; simp [World.setCell]; omega, fun k hk => (Below.heap_setCell _ _ _ _ (by omega)).trans (h.block k hk)⟩
theorem Out.below {lo hi B : Nat} {a w w' : World} (h : Below B a w) (k : Out lo hi w w') (hB : B ≤ lo) : Below B a w' :=
  ⟨k.os.trans h.os, k.tape.trans h.tape, k.output.trans h.output, by have := h.size; have := k.size; omega, fun i hi => (k.block i (Or.inl (by omega))).trans (h.block i hi)⟩
theorem NVR.below {w w' : World} {lo hi : Nat} {v : Value} {L : Nat} {A : Nat → Nt} (h : NVR w lo hi v L A) (k : Below w.heap.size w w') : NVR w' lo hi v L A := by
  rcases h with h | ⟨h1, g, c, cap, h2, h3, h3', h4, h5, h6⟩
  · exact .inl h
  · exact .inr ⟨h1, g, c, cap, h2, h3, h3', h4, h5, h6.below k⟩
theorem IVR.below {w w' : World} {lo hi : Nat} {v : Value} {L : Nat} {A : Nat → Int} (h : IVR w lo hi v L A) (k : Below w.heap.size w w') : IVR w' lo hi v L A := by
  rcases h with h | ⟨h1, g, c, cap, h2, h3, h3', h4, h5, h6⟩
  · exact .inl h
  · exact .inr ⟨h1, g, c, cap, h2, h3, h3', h4, h5, h6.below k⟩
theorem NVR.out {w w' : World} {lo hi lo' hi' : Nat} {v : Value} {L : Nat} {A : Nat → Nt} (h : NVR w lo hi v L A) (k : Out lo' hi' w w') (hd : hi ≤ lo' ∨ hi' ≤ lo) : NVR w' lo hi v L A := by
  rcases h with h | ⟨h1, g, c, cap, h2, h3, h3', h4, h5, h6⟩
  · exact .inl h
  · obtain ⟨cur, e1, e2, e3⟩ := h6
    exact .inr ⟨h1, g, c, cap, h2, h3, h3', h4, h5, cur, (k.block g (by omega)).trans e1, e2, e3⟩
theorem IVR.out {w w' : World} {lo hi lo' hi' : Nat} {v : Value} {L : Nat} {A : Nat → Int} (h : IVR w lo hi v L A) (k : Out lo' hi' w w') (hd : hi ≤ lo' ∨ hi' ≤ lo) : IVR w' lo hi v L A := by
  rcases h with h | ⟨h1, g, c, cap, h2, h3, h3', h4, h5, h6⟩
  · exact .inl h
  · obtain ⟨cur, e1, e2, e3⟩ := h6
    exact .inr ⟨h1, g, c, cap, h2, h3, h3', h4, h5, cur, (k.block g (by omega)).trans e1, e2, e3⟩
theorem NVR.form {w : World} {lo hi : Nat} {v : Value} {L : Nat} {A : Nat → Nt} (h : NVR w lo hi v L A) : ∃ a c, v = .slice a L c ∧ L ≤ c ∧ c ≤ 9223372036854775807 ∧ (1 ≤ L → ∃ g cap, a = some ⟨g, 0, none⟩ ∧ lo ≤ g ∧ g < hi ∧ NB w g cap L A) := by
  rcases h with ⟨rfl, a, c, rfl, hc⟩ | ⟨h1, g, c, cap, rfl, h3, h3', h4, h5, h6⟩
  · exact ⟨a, c, rfl, Nat.zero_le _, hc, fun h => by omega⟩
  · exact ⟨_, c, rfl, h4, h5, fun _ => ⟨g, cap, rfl, h3, h3', h6⟩⟩
theorem IVR.form {w : World} {lo hi : Nat} {v : Value} {L : Nat} {A : Nat → Int} (h : IVR w lo hi v L A) : ∃ a c, v = .slice a L c ∧ L ≤ c ∧ c ≤ 9223372036854775807 ∧ (1 ≤ L → ∃ g cap, a = some ⟨g, 0, none⟩ ∧ lo ≤ g ∧ g < hi ∧ IB w g cap L A) := by
  rcases h with ⟨rfl, a, c, rfl, hc⟩ | ⟨h1, g, c, cap, rfl, h3, h3', h4, h5, h6⟩
  · exact ⟨a, c, rfl, Nat.zero_le _, hc, fun h => by omega⟩
  · exact ⟨_, c, rfl, h4, h5, fun _ => ⟨g, cap, rfl, h3, h3', h6⟩⟩
theorem sz_any (a : Option Addr) (L c : Nat) (left : Int) (w : World) (hL : L ≤ c) (hc : c ≤ 9223372036854775807) (h0 : 0 ≤ left) (h1 : left ≤ 1048576) :
    Calls Try.prog 19 #[.slice a L c, .int .i64 left] w fun e w' => e = .returned (.int .i64 (if left - L < 0 then -1 else left - L)) ∧ w = w' := by
  by_cases h : left - L < 0
  · rw [if_pos h]
    go_enter Try.func19, Try.ntmps19
    go_wp2
    go_ret
    exact ⟨rfl, rfl⟩
  · rw [if_neg h]
    go_enter Try.func19, Try.ntmps19
    go_wp2
    go_ret
    exact ⟨rfl, rfl⟩
theorem toNote_any (s r p : Int) (w : World) :
    Calls Try.prog 35 #[.agg #[.int .i64 s, .int .i64 r, .int .i64 p]] w fun ed w' => ed = .returned (.agg #[.int .i64 s, .int .i64 r, .int .i64 p]) ∧ Below w.heap.size w w' := by
  go_enter Try.func35, Try.ntmps35
  have HB := Lib.hid (Below.refl w.heap.size w)
  go_wp2
  exact bodyPost_ret (v := .agg #[.int .i64 s, .int .i64 r, .int .i64 p]) (by simp [results, Try.results35, go_sem]) rfl ⟨rfl, (by repeat (first | exact Below.refl _ _ | exact HB.out | refine Below.drew ?_ | refine bel_drewN _ ?_ | refine Below.alloc ?_ (by first | omega | (simp; done) | (simp; omega)) _ | refine Below.setCell ?_ (by first | (show _ ≤ _; omega) | (simp; done) | (simp; omega)) _))⟩
theorem eqNote_same (a b c : Int) (w : World) :
    Calls Try.prog 36 #[.agg #[.int .i64 a, .int .i64 b, .int .i64 c], .agg #[.int .i64 a, .int .i64 b, .int .i64 c]] w fun e w' => e = .returned (.bool true) ∧ Below w.heap.size w w' := by
  go_enter Try.func36, Try.ntmps36
  have HB := Lib.hid (Below.refl w.heap.size w)
  go_wp2
  go_ret
  exact ⟨rfl, (by repeat (first | exact Below.refl _ _ | exact HB.out | refine Below.drew ?_ | refine bel_drewN _ ?_ | refine Below.alloc ?_ (by first | omega | (simp; done) | (simp; omega)) _ | refine Below.setCell ?_ (by first | (show _ ≤ _; omega) | (simp; done) | (simp; omega)) _))⟩
theorem made_nb {w : World} {base g n : Nat} (h : w.ownsRow base 30 3 (.slice (some ⟨g, 0, none⟩) n n) n (madeCells (Value.agg #[.int .i64 0, .int .i64 0, .int .i64 0]).cells (n * 3)).toList) : NB w g n n (fun _ => (0, 0, 0)) := by
  obtain ⟨h1, ⟨h2, _⟩ | ⟨g', cap', cur, h3, h4, h5, h6, h7, h8, h9⟩⟩ := h
  · cases h2
  · cases h3
    refine ⟨cur, h5, h8, fun j hj => ?_⟩
    have hc : (Value.agg #[.int .i64 0, .int .i64 0, .int .i64 0]).cells = #[.int .i64 0, .int .i64 0, .int .i64 0] := by simp [Value.cells]
    have key : ∀ r, r < 3 → cur[j * 3 + r]? = some (.int .i64 0) := fun r hr => by
      have e : (cur.toList.take (n * 3))[j * 3 + r]? = some (.int .i64 0) := by
        rw [h9, hc, Array.getElem?_toList]
        unfold madeCells
        have hl : j * 3 + r < n * 3 := by omega
        have hm : (j * 3 + r) % 3 = r := by omega
        rw [Array.getElem?_map, Array.getElem?_eq_getElem (by simpa using hl)]
        simp [hm]
        rcases (show r = 0 ∨ r = 1 ∨ r = 2 by omega) with rfl | rfl | rfl <;> rfl
      rw [List.getElem?_take_of_lt (by omega), Array.getElem?_toList] at e
      exact e
    exact ⟨by simpa using key 0 (by omega), key 1 (by omega), key 2 (by omega)⟩
def toTo (A : Nat → Nt) (k j : Nat) : Nt := if j < k then A j else (0, 0, 0)
def TnPost (L : Nat) (A : Nat → Nt) (w : World) (e : Ending) (w' : World) : Prop :=
  ∃ x, e = .returned x ∧ NVR w' w.heap.size w'.heap.size x L A ∧ Below w.heap.size w w'
set_option maxHeartbeats 4000000 in
theorem toNoteS_any (v : Value) (L : Nat) (A : Nat → Nt) (w : World) (hL : L ≤ 1048576) (h : SV w v L A) :
    Calls Try.prog 20 #[v] w (TnPost L A w) := by
  obtain ⟨a, c, rfl, lc, mc, F⟩ := h
  have HF := Lib.hid F
  clear F
  obtain ⟨iN, hj, hy0, hy1, hy2⟩ := info_parts infoNote
  go_enter Try.func20, Try.ntmps20
  go_wp2_with (at_make; refine wpList_make_full _ rfl _ _ 23 rfl w.heap.size 30 iN (.agg #[.int .i64 0, .int .i64 0, .int .i64 0]) 3 Try.underlying23 hj hy0 hy1 .i64 .i64 _ _ L rfl rfl (by first | rfl | omega | (simp; done)) (by first | rfl | omega | (simp; done)) (by rw [hy2]; omega) (by unfold maxLen; omega) (Nat.le_refl _) ?_; intro w1 hown0 hgrow0)
  have HN0 := Lib.hid (made_nb hown0)
  have HB0 : Hid (Below w.heap.size w w1) := Lib.hid ((Below.refl _ _).grown hgrow0 (Nat.le_refl _) (fun k hk => by cases hk))
  have hs0 : w.heap.size < w1.heap.size := HN0.out.lt
  clear hown0 hgrow0
  go_loopw [4] (fun i wr => ∃ (ww : World) (k : Nat), ww = wr ∧ k ≤ L ∧ i = .int .i64 k ∧ NB ww w.heap.size L L (toTo A k) ∧ Below w.heap.size w ww) (fun i _ => L - (intOf i).toNat)
  case atStart => exact ⟨_, 0, rfl, Nat.zero_le _, rfl, HN0.out.congr (fun j hj => by unfold toTo; rw [if_neg (by omega)]), HB0.out⟩
  case round =>
    obtain ⟨ww, k, rfl, hk, rfl, hnb, hbw⟩ := hrel
    have HNB := Lib.hid hnb
    have HBW := Lib.hid hbw
    have hsw := hnb.lt
    clear hnb
    by_cases hlt : k < L
    · obtain ⟨b, o, rfl, hb, hcell⟩ := HF.out (by omega)
      obtain ⟨x0', x1', x2'⟩ := hcell k hlt
      have x0 := (hbw.cell (p := ⟨b, o + k * 3, none⟩) hb).trans x0'
      have x1 := (hbw.cell (p := ⟨b, o + k * 3 + 1, none⟩) hb).trans x1'
      have x2 := (hbw.cell (p := ⟨b, o + k * 3 + 2, none⟩) hb).trans x2'
      obtain ⟨⟨n1, n2, n3⟩, hx⟩ : ∃ x, A k = x := ⟨_, rfl⟩
      have HX := Lib.hid hx
      rw [hx] at x0 x1 x2
      simp only at x0 x1 x2
      have i0 : (0 : Int) ≤ (k : Int) := by omega
      have i1 : (k : Int) < (L : Int) := by omega
      clear hcell x0' x1' x2' hx hbw
      go_wp2_with fail
      refine (toNote_any n1 n2 n3 _).mono ?_
      rintro e w2 ⟨rfl, hb2⟩
      have HN2 := Lib.hid (HNB.out.below hb2)
      have HB2 : Hid (Below w.heap.size w w2) := Lib.hid (HBW.out.trans (hb2.mono (by omega)))
      obtain ⟨⟨c0, c1, c2⟩, cf⟩ := HN2.out.cells hlt
      have f0 := cf (k * 3)
      have f1 := cf (k * 3 + 1)
      have f2 := cf (k * 3 + 2)
      generalize (toTo A k k).1 = q1 at *
      generalize (toTo A k k).2.1 = q2 at *
      generalize (toTo A k k).2.2 = q3 at *
      clear hb2 cf x0 x1 x2
      go_wp2
      go_roundw
      case rel =>
        refine ⟨_, k + 1, rfl, by omega, by go_num, (HN2.out.set k hlt n1 n2 n3).congr (fun j hj => ?_), ((HB2.out.setCell (Nat.le_refl _) _).setCell (Nat.le_refl _) _).setCell (Nat.le_refl _) _⟩
        unfold updN toTo
        by_cases c1 : j = k
        · rw [if_pos c1, if_pos (by omega), c1, HX.out]
        · rw [if_neg c1]
          by_cases c2 : j < k
          · rw [if_pos c2, if_pos (by omega)]
          · rw [if_neg c2, if_neg (by omega)]
      case measure => simp [intOf]; omega
    · obtain rfl : L = k := by omega
      go_wp2
      go_ret
      refine ⟨_, rfl, ?_, HBW.out⟩
      by_cases h0 : L = 0
      · subst h0
        exact .inl ⟨rfl, _, _, rfl, by omega⟩
      · exact .inr ⟨by omega, _, L, L, rfl, Nat.le_refl _, hsw, Nat.le_refl _, by omega, HNB.out.congr (fun j hj => by unfold toTo; rw [if_pos hj])⟩
end Go.Proofs.Ytdifhjjkgcipaaa
