/- Notes: MatchNotes and OpenNotes of the program. -/
import Derived.Test.YtdifhjjkgcipaaaNote6
namespace Go.Proofs.Ytdifhjjkgcipaaa
open Go.RowKit Go.Maps
set_option linter.unusedVariables false
theorem matchI_any (v1 v2 : Value) (b1 b2 LA LB : Nat) (A B : Nat → Nt) (t : Int) (w : World) (hLA : LA ≤ 1048576) (hLB : LB ≤ 1048576) (hA : NV w b1 v1 LA A) (hB : NV w b2 v2 LB B) :
    Calls Try.prog 10 #[v1, v2, .int .i64 t] w (MtPost A LA B LB t w) := by
  have HM : Hid (∀ W : World, w = W → Calls Try.prog 30 #[v1, v2, .int .i64 t] W (MdPost A LA B LB t w)) := Lib.hid fun W hW => by subst hW; exact matched_any v1 v2 b1 b2 LA LB A B t w hLA hLB hA hB
  clear hA hB
  go_enter Try.func10, Try.ntmps10
  go_wp2_with fail
  refine (HM.out _ rfl).mono ?_
  rintro e w1 ⟨v, rfl, hown, hb⟩
  have HO := Lib.hid hown
  have HB := Lib.hid hb
  clear hown hb
  go_wp2
  go_ret
  exact ⟨_, rfl, HO.out, HB.out⟩
set_option maxRecDepth 4000 in
set_option maxHeartbeats 8000000 in
theorem openI_any (v1 v2 : Value) (b1 b2 LA LB : Nat) (A B : Nat → Nt) (t : Int) (w : World) (hLA : LA ≤ 1048576) (hLB : LB ≤ 1048576) (hA : NV w b1 v1 LA A) (hB : NV w b2 v2 LB B) :
    Calls Try.prog 15 #[v1, v2, .int .i64 t] w (OnPost A LA B LB t w) := by
  have HM : Hid (∀ W : World, w = W → Calls Try.prog 30 #[v1, v2, .int .i64 t] W (MdPost A LA B LB t w)) := Lib.hid fun W hW => by subst hW; exact matched_any v1 v2 b1 b2 LA LB A B t w hLA hLB hA hB
  have NB' := Lib.hid hB
  clear hA hB
  cases hm : mtB A LA B LB t
  · have HN := Lib.hid hm
    go_enter Try.func15, Try.ntmps15
    go_wp2_with fail
    refine (HM.out _ rfl).mono ?_
    rintro e w1 ⟨v, rfl, hown, hb⟩
    rw [hm]
    have HBB := Lib.hid hb
    clear hown hb hm
    go_wp2
    go_ret
    exact on_no HN.out HBB.out
  have HN := Lib.hid hm
  have lB := (ntB_iff.1 (mtB_iff.1 hm).2.1).2
  have lA := (ntB_iff.1 (mtB_iff.1 hm).1).2
  obtain ⟨iN, hj, hy0, hy1, hy2⟩ := info_parts infoNote
  obtain ⟨a2, c2, rfl, l2, m2, F2⟩ := NB'.out.form
  have FB := Lib.hid F2
  have hmm := @run_makeMap Try.prog
  clear F2 NB'
  go_enter Try.func15, Try.ntmps15
  go_wp2_with fail
  refine (HM.out _ rfl).mono ?_
  rintro e w1 ⟨v, rfl, hown, hb⟩
  rw [mtL_yes hm, prL_len] at hown
  rw [hm]
  have HB1 := Lib.hid hb
  have hsz1 := hb.size
  obtain ⟨va, vc, rfl, lv, mv, F1⟩ := (iv_of_own hown).form
  have hpl := prL_len A B LB t LA
  have hbd := @prL_bd A B LB t LA
  obtain ⟨pl, hple⟩ : ∃ pl, prL A B LB t LA = pl := ⟨_, rfl⟩
  rw [hple] at hpl hbd F1
  have HPL := Lib.hid hple
  have HLN := Lib.hid hpl
  have HBD := Lib.hid hbd
  have FV := Lib.hid F1
  clear hown hb hm hple hpl hbd F1 HM
  go_wp2_with fail
  go_loopw [27] (fun i wr => ∃ (wp : World) (r : Nat), wp = wr ∧ r ≤ LA ∧ i = .int .i64 r ∧ wp.ownsMap Try.prog 3 (plainElem (H := Unit) Try.prog 4) w1.heap.size r (tkD (pl.take r)) ∧ Below w1.heap.size w1 wp) (fun i _ => LA - (intOf i).toNat)
  case atStart => exact ⟨_, 0, rfl, Nat.zero_le _, rfl, World.ownsMap_made w1 _ _ _, (Below.refl _ _).alloc (Nat.le_refl _) _⟩
  case round =>
    obtain ⟨wp, r, rfl, hr, rfl, hmp, hbp⟩ := hrel
    have HM := Lib.hid hmp
    have HBP := Lib.hid hbp
    have hsp := hmp.lt
    clear hmp
    by_cases hlr : r < LA
    · obtain ⟨vg, vcap, rfl, _, vgl, ib⟩ := FV.out (by omega)
      have c0 := (ib.fwd hbp vgl).cell hlr
      obtain ⟨z, hz⟩ : ∃ z, rowI pl r = z := ⟨_, rfl⟩
      have hzb := HBD.out _ (rowI_mem (l := pl) (j := r) (by rw [HLN.out]; exact hlr))
      rw [hz] at c0 hzb
      obtain ⟨hzb1, hzb2⟩ := hzb
      have HT : Hid (pl.take (r + 1) = pl.take r ++ [z]) := Lib.hid (by
        rw [← hz]; unfold rowI; rw [List.getD, List.getElem?_eq_getElem (by rw [HLN.out]; exact hlr)]; simp)
      have i0 : (0 : Int) ≤ (r : Int) := by omega
      have i1 : (r : Int) < (LA : Int) := by omega
      clear hz ib hbp
      go_wp2_with (at_mapUpdate; refine wpList_mapUpdate_own _ rfl _ _ _ 50 rfl 3 4 lawI Try.underlying50 _ w1.heap.size r _ rfl HM.out (by unfold maxLen; omega) _ _ _ rfl rfl (keyOf_int_mk Try.underlying3 (wfOk (a := z) (by omega) (by omega))) _ [] (plainElem_bool Try.underlying4 true) ?_; intro w5 hmp5 hgr5)
      have HB5 : Hid (Below w1.heap.size w1 w5) := Lib.hid (HBP.out.grown hgr5 HBP.out.size (fun k hk => by cases hk; exact Nat.le_refl _))
      have HM5 : Hid (w5.ownsMap Try.prog 3 (plainElem (H := Unit) Try.prog 4) w1.heap.size (r + 1) (tkD (pl.take (r + 1)))) := Lib.hid (by rw [HT.out, tkD_snoc]; exact hmp5)
      clear hmp5 hgr5
      go_wp2
      go_roundw
      case rel => exact ⟨_, r + 1, rfl, by omega, by go_num, HM5.out, HB5.out⟩
      case measure => simp [intOf]; omega
    · obtain rfl : LA = r := by omega
      have HS : Hid (wp.ownsMap Try.prog 3 (plainElem (H := Unit) Try.prog 4) w1.heap.size LA (tkD pl)) := Lib.hid (by
        have := HM.out; rw [List.take_of_length_le (by rw [HLN.out]; exact Nat.le_refl _)] at this; exact this)
      have hs0 := hbp.size
      clear hbp
      go_wp2_with fail
      go_loopw [12, 37] (fun o i wr => ∃ (o0 : Value) (wo : World) (q : Nat), o0 = o ∧ wo = wr ∧ q ≤ LB ∧ i = .int .i64 q ∧ wr.ownsRow wp.heap.size 30 3 o (opL B pl q).length (valN (opL B pl q)) ∧ Below wp.heap.size wp wr) (fun _ i _ => LB - (intOf i).toNat)
      case atStart =>
        exact ⟨_, _, 0, rfl, rfl, Nat.zero_le _, rfl, World.ownsRow_made (base := wp.heap.size) (e := 30) (size := 3) wp #[] 0 (Nat.le_refl _) (by decide) rfl, (by repeat (first | exact Below.refl _ _ | refine Below.drew ?_ | refine bel_drewN _ ?_ | refine Below.alloc ?_ (by first | omega | (simp; done) | (simp; omega)) _ | refine Below.setCell ?_ (by first | (show _ ≤ _; omega) | (simp; done) | (simp; omega)) _))⟩
      case round =>
        obtain ⟨o, wo, q, rfl, rfl, hq, rfl, hown, hbel⟩ := hrel
        have HO := Lib.hid hown
        have HBL := Lib.hid hbel
        have hs1 := hbel.size
        clear hown
        by_cases hlt : q < LB
        · obtain ⟨g2, cap2, rfl, _, gl2, nb2⟩ := FB.out (by omega)
          obtain ⟨⟨y0', y1', y2'⟩, _⟩ := (((nb2.fwd HB1.out gl2).fwd HBP.out (by omega)).fwd hbel (by omega)).cells hlt
          obtain ⟨⟨y1, y2, y3⟩, hy⟩ : ∃ y, B q = y := ⟨_, rfl⟩
          rw [hy] at y0' y1' y2'
          simp only at y0' y1' y2'
          have HY := Lib.hid hy
          have i0 : (0 : Int) ≤ (q : Int) := by omega
          have i1 : (q : Int) < (LB : Int) := by omega
          have hlen := opL_len B pl q
          have hL : (Instr.lookup 50 (.map (some w1.heap.size)) (.int .i64 (q : Int)) false).run Try.prog (wo.alloc (.cells #[.int .i64 y1, .int .i64 y2, .int .i64 y3] 30)) = .ok (.bool (decide ((q : Int) ∈ pl))) (wo.alloc (.cells #[.int .i64 y1, .int .i64 y2, .int .i64 y3] 30)) :=
            look_set (set_below (set_below HS.out hbel) ((Below.refl _ _).alloc (Nat.le_refl _) _)) (wfOk (by omega) (by omega))
          clear hy nb2 hbel
          by_cases hin : (q : Int) ∈ pl
          · have HX : Hid (opL B pl (q + 1) = opL B pl q) := Lib.hid (by rw [opL, if_pos hin])
            rw [decide_eq_true hin] at hL
            have HOA := Lib.hid (HO.out.alloc (.cells #[.int .i64 y1, .int .i64 y2, .int .i64 y3] 30))
            clear hin
            go_wp2_with fail
            go_roundw
            case rel => exact ⟨_, _, q + 1, rfl, rfl, by omega, by go_num, by rw [HX.out]; exact HOA.out, HBL.out.alloc hs1 _⟩
            case measure => simp [intOf]; omega
          · have HX : Hid (opL B pl (q + 1) = opL B pl q ++ [(y1, y2, y3)]) := Lib.hid (by rw [opL, if_neg hin, HY.out])
            rw [decide_eq_false hin] at hL
            clear hin
            go_wp2_with (at_builtin; refine wpList_append_own_at _ rfl _ _ 23 rfl wp.heap.size 30 iN (.agg #[.int .i64 0, .int .i64 0, .int .i64 0]) 3 24 Try.underlying23 hj hy0 hy1 hy2 rfl (by decide) _ _ _ rfl ((HO.out.alloc _).alloc _) ⟨wo.heap.size + 1, 0, none⟩ 1 1 [.int .i64 y1, .int .i64 y2, .int .i64 y3] rfl rfl (news_at' (wo.alloc (.cells #[.int .i64 y1, .int .i64 y2, .int .i64 y3] 30)) _ _ (wo.heap.size + 1) (by simp)) (by simp [Value.oneCell']) (by unfold maxLen; omega) (by omega) (by simp; omega) ?_; intro v' w4 hown2 hg _ hat)
            have HB5 : Hid (Below wp.heap.size wp w4) := Lib.hid (((HBL.out.alloc hs1 _).alloc (by simp; omega) _).grown hg (by simp; omega) (fun k hk => (HO.out.lt k hk).1))
            have HO5 := Lib.hid hown2
            clear hown2 hg hat
            go_wp2
            go_roundw
            case rel => exact ⟨_, _, q + 1, rfl, rfl, by omega, by go_num, by rw [HX.out, List.length_append, List.length_singleton, valN_snoc]; exact HO5.out, HB5.out⟩
            case measure => simp [intOf]; omega
        · obtain rfl : LB = q := by omega
          go_wp2
          go_ret
          exact ⟨_, rfl, by rw [onL_yes HN.out, HPL.out]; exact own_base HO.out (by omega), HB1.out.trans ((HBP.out.trans (HBL.out.mono hs0)).mono hsz1)⟩
end Go.Proofs.Ytdifhjjkgcipaaa
