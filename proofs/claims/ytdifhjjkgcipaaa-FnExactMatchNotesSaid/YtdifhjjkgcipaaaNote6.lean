/- Notes: the program's matching. -/
import Derived.Test.YtdifhjjkgcipaaaNote5
import Derived.Deep.AppendLies
import Derived.Deep.RegionHeld3
namespace Go.Proofs.Ytdifhjjkgcipaaa
open Go.RowKit Go.Maps
set_option linter.unusedVariables false
def MdPost (A : Nat → Nt) (LA : Nat) (B : Nat → Nt) (LB : Nat) (t : Int) (w : World) (ed : Ending) (w' : World) : Prop :=
  ∃ v, ed = .returned (.tuple #[v, .bool (mtB A LA B LB t)]) ∧ w'.ownsRow w.heap.size 3 1 v (mtL A LA B LB t).length (valI (mtL A LA B LB t)) ∧ Below w.heap.size w w'
theorem md_no {A B : Nat → Nt} {LA LB : Nat} {t : Int} {w w' : World} (h : mtB A LA B LB t = false) (hb : Below w.heap.size w w') : MdPost A LA B LB t w (.returned (.tuple #[.slice none 0 0, .bool false])) w' :=
  ⟨_, by rw [h], by rw [mtL_no h]; exact World.ownsRow_nil _ _ _ _, hb⟩
set_option maxRecDepth 4000 in
set_option maxHeartbeats 2000000 in
theorem matched_no (v1 v2 : Value) (b1 b2 LA LB : Nat) (A B : Nat → Nt) (t : Int) (w : World) (hLA : LA ≤ 1048576) (hLB : LB ≤ 1048576) (hA : NV w b1 v1 LA A) (hB : NV w b2 v2 LB B) (hm : mtB A LA B LB t = false) :
    Calls Try.prog 30 #[v1, v2, .int .i64 t] w (MdPost A LA B LB t w) := by
  have HA : Hid (∀ W : World, Below w.heap.size w W → Calls Try.prog 38 #[v1] W fun e w' => e = .returned (.bool (ntB A LA)) ∧ Below W.heap.size W w') := Lib.hid fun W hW => notesValid_any v1 b1 LA A W hLA (hA.below hW)
  have HB : Hid (∀ W : World, Below w.heap.size w W → Calls Try.prog 38 #[v2] W fun e w' => e = .returned (.bool (ntB B LB)) ∧ Below W.heap.size W w') := Lib.hid fun W hW => notesValid_any v2 b2 LB B W hLB (hB.below hW)
  have HN := Lib.hid hm
  clear hA hB hm
  cases h1 : ntB A LA
  · rw [h1] at HA
    go_enter Try.func30, Try.ntmps30
    go_wp2_with fail
    refine (HA.out _ (Below.refl _ _)).mono ?_
    rintro e w1 ⟨rfl, hb⟩
    go_wp2
    go_ret2
    exact md_no HN.out hb
  cases h2 : ntB B LB
  · rw [h1] at HA
    rw [h2] at HB
    go_enter Try.func30, Try.ntmps30
    go_wp2_with fail
    refine (HA.out _ (Below.refl _ _)).mono ?_
    rintro e w1 ⟨rfl, hb⟩
    go_wp2_with fail
    refine (HB.out _ hb).mono ?_
    rintro e w2 ⟨rfl, hb2⟩
    go_wp2
    go_ret2
    exact md_no HN.out (hb.trans (hb2.mono hb.size))
  cases h3 : inR t 0 50000
  · rw [h1] at HA
    rw [h2] at HB
    go_enter Try.func30, Try.ntmps30
    go_wp2_with fail
    refine (HA.out _ (Below.refl _ _)).mono ?_
    rintro e w1 ⟨rfl, hb⟩
    go_wp2_with fail
    refine (HB.out _ hb).mono ?_
    rintro e w2 ⟨rfl, hb2⟩
    go_wp2_with (go_at_call 39; refine (within_any _ _ _ _).mono ?_; rintro e w' ⟨rfl, rfl⟩)
    go_ret2
    exact md_no HN.out (hb.trans (hb2.mono hb.size))
  · have := mtB_y h1 h2 h3
    rw [HN.out] at this
    cases this
theorem fold_take {x : Nt} {B : Nat → Nt} {out zs : List Int} {s : Int × Int} {j : Nat} (h : j < zs.length) : (zs.take (j + 1)).foldl (stI x B out) s = stI x B out ((zs.take j).foldl (stI x B out) s) (rowI zs j) := by
  have e : zs.take (j + 1) = zs.take j ++ [rowI zs j] := by
    unfold rowI; rw [List.getD, List.getElem?_eq_getElem h]; simp
  rw [e, List.foldl_append]; rfl
theorem stI_eq {x : Nt} {B : Nat → Nt} {out : List Int} {p0 d0 dd : Int} {kn : Nat} (hd : dN x (B kn) = dd) : stI x B out (p0, d0) (kn : Int) = if ((kn : Int) ∉ out ∧ dd < d0) then ((kn : Int), dd) else (p0, d0) := by
  unfold stI; simp [hd]
theorem row_type {w : World} {base : Nat} {v : Value} {n b : Nat} {xs cs : List Value} {c2 : Array Value} (h : w.ownsRow base 3 1 v n xs) (hb : w.heap[b]? = some (.cells c2 30 (0, 0))) : v.ownBlock ≠ some b := by
  intro e
  obtain ⟨_, ⟨rfl, _⟩ | ⟨g, cap, cur, rfl, _, hh, _⟩⟩ := h
  · cases e
  · simp [Value.ownBlock] at e
    subst e
    rw [hh] at hb
    simp at hb
theorem grp_step {X w1 : World} {base b q : Nat} {B : Nat → Nt} {y : Nt} {v : Value} {zs : List Int} (hq : q < 100) (hy : B q = y) (hok : ∀ j, j < q → okN (B j) = true) (hyo : okN y = true)
    (hat : (gpD B q).atKey (kyL y) .nil = rowDatum .i64 v zs) (hoi : X.ownsInts base 3 .i64 v zs) (hzl : zs.length ≤ q)
    (hback : X.groupBack Try.prog 56 58 base 3 .i64 b q (gpD B q) (kyV y) (kyL y) v) {g cap : Nat} (hgr : X.grownBy w1 v.ownBlock)
    (hown1 : w1.ownsRow base 3 1 (.slice (some ⟨g, 0, none⟩) (zs.length + 1) cap) (zs.length + 1) (zs.map (Value.int .i64) ++ [.int .i64 q])) (hat2 : v.ownBlock = some g ∨ X.heap.size ≤ g) :
    ∃ w2, (Instr.mapUpdate 56 (.map (some b)) (.agg #[.int .i64 y.1, .int .i64 y.2.1]) (.slice (some ⟨g, 0, none⟩) (zs.length + 1) cap)).run Try.prog w1 = .ok () w2 ∧
      w2.ownsGroups Try.prog 58 base 3 .i64 b (q + 1) (gpD B (q + 1)) ∧ w1.grownBy w2 (some b) := by
  have hwq : (Lit.int .i64 (q : Int)).wf = true := wfOk (by omega) (by omega)
  have hown' := hoi.appended hown1 hwq
  obtain ⟨w2, r1, r2, r3⟩ := hback w1 _ (zs ++ [(q : Int)]) hgr hown' (by simp; omega) (by
    rcases hat2 with c | c
    · exact .inl (by rw [c]; rfl)
    · exact .inr ⟨g, rfl, c⟩)
  refine ⟨w2, r1, ?_, r3⟩
  have hz := cds_of hyo hok hat hoi
  rw [hown'.datum_pos (by simp)] at r2
  have e : cds y B (q + 1) = zs ++ [(q : Int)] := by rw [cds, if_pos (by rw [hy]; exact kyB_self y), hz]
  rw [gpD, hy, e]
  exact r2
set_option maxRecDepth 4000 in
set_option maxHeartbeats 8000000 in
theorem matched_yes (v1 v2 : Value) (b1 b2 LA LB : Nat) (A B : Nat → Nt) (t : Int) (w : World) (hLA : LA ≤ 1048576) (hLB : LB ≤ 1048576) (hA : NV w b1 v1 LA A) (hB : NV w b2 v2 LB B) (hm : mtB A LA B LB t = true) :
    Calls Try.prog 30 #[v1, v2, .int .i64 t] w (MdPost A LA B LB t w) := by
  have HA : Hid (∀ W : World, Below w.heap.size w W → Calls Try.prog 38 #[v1] W fun e w' => e = .returned (.bool (ntB A LA)) ∧ Below W.heap.size W w') := Lib.hid fun W hW => notesValid_any v1 b1 LA A W hLA (hA.below hW)
  have HB : Hid (∀ W : World, Below w.heap.size w W → Calls Try.prog 38 #[v2] W fun e w' => e = .returned (.bool (ntB B LB)) ∧ Below W.heap.size W w') := Lib.hid fun W hW => notesValid_any v2 b2 LB B W hLB (hB.below hW)
  have HN := Lib.hid hm
  obtain ⟨mA, mB, t0, t1⟩ := mtB_iff.1 hm
  rw [mA] at HA
  rw [mB] at HB
  have hti : inR t 0 50000 = true := inR_yes ⟨t0, t1⟩
  obtain ⟨okA, lA⟩ := ntB_iff.1 mA
  obtain ⟨okB, lB⟩ := ntB_iff.1 mB
  obtain ⟨a1, c1, rfl, l1, m1, F1⟩ := hA.form
  obtain ⟨a2, c2, rfl, l2, m2, F2⟩ := hB.form
  obtain ⟨iI, hi, hz0, hz1, hz2⟩ := info_parts infoInt
  have OA := Lib.hid okA
  have OB := Lib.hid okB
  have FA := Lib.hid F1
  have FB := Lib.hid F2
  have hmm := @run_makeMap Try.prog
  clear hm mA mB okA okB hA hB F1 F2
  go_enter Try.func30, Try.ntmps30
  go_wp2_with fail
  refine (HA.out _ (Below.refl _ _)).mono ?_
  rintro e w1 ⟨rfl, hb⟩
  go_wp2_with fail
  refine (HB.out _ hb).mono ?_
  rintro e w2 ⟨rfl, hb2⟩
  have HB3 : Hid (Below w.heap.size w w2) := Lib.hid (hb.trans (hb2.mono hb.size))
  have hsz2 : w.heap.size ≤ w2.heap.size := HB3.out.size
  clear hb hb2 HA HB
  go_wp2_with (go_at_call 39; refine (within_any _ _ _ _).mono ?_; rintro e w' ⟨rfl, rfl⟩)
  go_loopw [36] (fun i wr => ∃ (wo : World) (q : Nat), wo = wr ∧ q ≤ LB ∧ i = .int .i64 q ∧ wo.ownsGroups Try.prog 58 (w2.heap.size + 1) 3 .i64 w2.heap.size q (gpD B q) ∧ Below w.heap.size w wo ∧ w2.heap.size + 1 ≤ wo.heap.size) (fun i _ => LB - (intOf i).toNat)
  case atStart => exact ⟨_, 0, rfl, Nat.zero_le _, rfl, World.ownsGroups_made _ _ _ _ _, HB3.out.alloc hsz2 _, by simp⟩
  case round =>
    obtain ⟨wo, q, rfl, hq, rfl, hgr, hbel, hsz⟩ := hrel
    have HG := Lib.hid hgr
    have HBL := Lib.hid hbel
    have hs0 := hbel.size
    clear hgr
    by_cases hlt : q < LB
    · obtain ⟨g2, cap2, rfl, _, gl2, nb2⟩ := FB.out (by omega)
      obtain ⟨⟨y0', y1', y2'⟩, _⟩ := (nb2.fwd hbel gl2).cells hlt
      obtain ⟨⟨y1, y2, y3⟩, hy⟩ : ∃ y, B q = y := ⟨_, rfl⟩
      have oky := OB.out q hlt
      rw [hy] at y0' y1' y2' oky
      simp only at y0' y1' y2'
      have HY := Lib.hid hy
      have HOK := Lib.hid oky
      have i0 : (0 : Int) ≤ (q : Int) := by omega
      have i1 : (q : Int) < (LB : Int) := by omega
      clear hy oky nb2 hbel
      go_wp2_with fail
      obtain ⟨W, hW⟩ : ∃ W, wo.alloc (.cells #[.int .i64 y1, .int .i64 y2, .int .i64 y3] 30) = W := ⟨_, rfl⟩
      rw [hW]
      have HWS : Hid (W.heap.size = wo.heap.size + 1) := Lib.hid (by rw [← hW]; simp)
      have hws1 : w2.heap.size + 1 ≤ W.heap.size := by have := HWS.out; omega
      have u0 : W.cell? ⟨wo.heap.size, 0, none⟩ = some (.int .i64 y1) := by rw [← hW]; simp
      have u1 : W.cell? ⟨wo.heap.size, 1, none⟩ = some (.int .i64 y2) := by rw [← hW]; simp
      have HGW : Hid (W.drew.ownsGroups Try.prog 58 (w2.heap.size + 1) 3 .i64 w2.heap.size q (gpD B q)) := Lib.hid (by rw [← hW]; exact groups_below (groups_below HG.out ((Below.refl _ _).alloc (Nat.le_refl _) _)) below_drew)
      have HBW : Hid (Below w.heap.size w W.drew) := Lib.hid (by rw [← hW]; exact (HBL.out.alloc hs0 _).drew)
      have HBX : Hid (W.drew.heap[wo.heap.size]? = some (.cells #[.int .i64 y1, .int .i64 y2, .int .i64 y3] 30 (0, 0))) := Lib.hid (by rw [← hW]; exact (MapKept.heap_alloc wo _).1)
      have HGX : Hid ((W.alloc (.cells #[.int .i64 (q : Int)] 3)).drew.ownsGroups Try.prog 58 (w2.heap.size + 1) 3 .i64 w2.heap.size q (gpD B q)) := Lib.hid (groups_below HGW.out ((Below.refl _ _).alloc (Nat.le_refl _) (.cells #[.int .i64 (q : Int)] 3)))
      have HBWX : Hid (Below w.heap.size w (W.alloc (.cells #[.int .i64 (q : Int)] 3)).drew) := Lib.hid (HBW.out.alloc (show _ ≤ W.heap.size by omega) _)
      have HOKS : Hid (∀ j, j < q → okN (B j) = true) := Lib.hid fun j hj => OB.out j (by omega)
      obtain ⟨v1, zs1, hrun1, hat1, hoi1, hzl1, hback1⟩ := HGW.out.at (key := kyV (y1, y2, y3)) (kl := kyL (y1, y2, y3)) lawK Try.underlying56 (zeroL _) (by unfold maxLen; omega) (keyOf_note (wfN HOK.out).1 (wfN HOK.out).2)
      obtain ⟨v2, zs2, hrun2, hat2, hoi2, hzl2, hback2⟩ := HGX.out.at (key := kyV (y1, y2, y3)) (kl := kyL (y1, y2, y3)) lawK Try.underlying56 (zeroL _) (by unfold maxLen; omega) (keyOf_note (wfN HOK.out).1 (wfN HOK.out).2)
      have n1 : some wo.heap.size ≠ v1.ownBlock := fun e => row_type (cs := []) hoi1.1 HBX.out e.symm
      have n2 : some wo.heap.size ≠ v2.ownBlock := fun e => row_type (cs := []) hoi2.1 ((heap_alloc_old W.drew _ (show wo.heap.size < W.heap.size by have := HWS.out; omega)).trans HBX.out) e.symm
      have ux0 : (W.alloc (.cells #[.int .i64 (q : Int)] 3)).drew.cell? ⟨wo.heap.size, 0, none⟩ = some (.int .i64 y1) := ca u0
      have ux1 : (W.alloc (.cells #[.int .i64 (q : Int)] 3)).drew.cell? ⟨wo.heap.size, 1, none⟩ = some (.int .i64 y2) := ca u1
      have HR1 : Hid ((W.alloc (.cells #[.int .i64 (q : Int)] 3)).drew.ownsRow (w2.heap.size + 1) 3 1 v1 zs1.length (zs1.map (Value.int .i64))) := Lib.hid (hoi1.1.alloc _)
      have HGR1 : Hid (W.drew.grownBy (W.alloc (.cells #[.int .i64 (q : Int)] 3)).drew v1.ownBlock) := Lib.hid (World.grownBy_alloc W.drew _ _)
      have HNW : Hid (∀ j u, [Value.int .i64 (q : Int)][j]? = some u → (W.alloc (.cells #[.int .i64 (q : Int)] 3)).drew.cell? ((⟨W.heap.size, 0, none⟩ : Addr).add j) = some u) := Lib.hid (cell_one_new W _ _)
      have HXS : Hid ((W.alloc (.cells #[.int .i64 (q : Int)] 3)).drew.heap.size = W.heap.size + 1) := Lib.hid (by show (W.alloc _).heap.size = _; simp)
      have HAT1 := Lib.hid hat1
      have HOI1 := Lib.hid hoi1
      have HBK1 := Lib.hid hback1
      have HAT2 := Lib.hid hat2
      have HOI2 := Lib.hid hoi2
      have HBK2 := Lib.hid hback2
      unfold kyV at hrun1 hrun2
      simp only at hrun1 hrun2
      clear hat1 hoi1 hback1 hat2 hoi2 hback2 hW y0' y1' y2'
      go_region_held3 (fun w' => w'.cell? ⟨wo.heap.size, 0, none⟩ = some (.int .i64 y1) ∧ w'.cell? ⟨wo.heap.size, 1, none⟩ = some (.int .i64 y2))
        (first | (go_split_ands; refine ⟨?_, ?_⟩ <;> first | assumption | (with_reducible exact ca (by assumption)) | (with_reducible exact gcell hgr (by assumption) (by assumption)) | (with_reducible exact gcell hgry (by assumption) (by first | assumption | (simp; omega))) | (simp; assumption)))
        (first | (refine step_append_lies _ rfl _ _ _ rfl (w2.heap.size + 1) 3 iI (.int .i64 0) 1 8 Try.underlying26 hi hz0 hz1 hz2 rfl (by decide) v1 zs1.length _ rfl HR1.out ⟨W.heap.size, 0, none⟩ 1 1 [.int .i64 q] rfl rfl HNW.out (by simp [Value.oneCell']) (by decide) (by unfold maxLen; omega) (by omega) (by have := HXS.out; omega) (W.heap.size + 1) HXS.out ?_; intro g3 cap3 wz hownz hgr hatz hltz; obtain ⟨wy, hruny, hgy, hgry⟩ := grp_step (y := (y1, y2, y3)) (by omega) HY.out HOKS.out HOK.out HAT1.out HOI1.out hzl1 HBK1.out (HGR1.out.trans hgr) hownz (hatz.imp id (fun h => by rw [h]; exact Nat.le_succ _)); have hbz : Below w.heap.size w wz := HBWX.out.grown hgr (by have := HXS.out; omega) (fun k hk => by have := (HR1.out.lt k hk).1; omega)) | (refine step_append_lies _ rfl _ _ _ rfl (w2.heap.size + 1) 3 iI (.int .i64 0) 1 8 Try.underlying26 hi hz0 hz1 hz2 rfl (by decide) v2 zs2.length _ rfl HOI2.out.1 ⟨W.heap.size, 0, none⟩ 1 1 [.int .i64 q] rfl rfl HNW.out (by simp [Value.oneCell']) (by decide) (by unfold maxLen; omega) (by omega) (by have := HXS.out; omega) (W.heap.size + 1) HXS.out ?_; intro g3 cap3 wz hownz hgr hatz hltz; obtain ⟨wy, hruny, hgy, hgry⟩ := grp_step (y := (y1, y2, y3)) (by omega) HY.out HOKS.out HOK.out HAT2.out HOI2.out hzl2 HBK2.out hgr hownz (hatz.imp id (fun h => by rw [h]; exact Nat.le_of_eq HXS.out)); have hbz : Below w.heap.size w wz := HBWX.out.grown hgr (by have := HXS.out; omega) (fun k hk => by have := (HOI2.out.1.lt k hk).1; omega)))
      all_goals
        have hs5 : w2.heap.size + 1 ≤ wy.heap.size := by have a := hgr.size; have b := hgry.size; have c := HXS.out; omega
        have HB5 : Hid (Below w.heap.size w wy) := Lib.hid (hbz.grown hgry hbz.size (fun k hk => by cases hk; exact hsz2))
        have HG5 := Lib.hid hgy
        clear hgy hgr hgry hbz hruny hownz hatz hltz hrun1 hrun2
        go_wp2
        go_roundw
        case rel => exact ⟨_, q + 1, rfl, by omega, by go_num, HG5.out, HB5.out, hs5⟩
        case measure => simp [intOf]; omega
    · obtain rfl : LB = q := by omega
      go_wp2_with (at_make; refine wpList_make_own _ rfl _ _ 26 rfl (wo.heap.size + 1) 3 iI (.int .i64 0) 1 Try.underlying26 hi hz0 hz1 .i64 .i64 _ LA rfl rfl (by first | rfl | omega | (simp; done)) (by rw [hz2]; omega) (by unfold maxLen; omega) (by simp) ?_; intro w3 hown0 hgrow0)
      rw [show (wo.alloc (Obj.map #[] 0)).heap.size = wo.heap.size + 1 by simp] at hown0
      have HMP : Hid (w3.ownsMap Try.prog 3 (plainElem (H := Unit) Try.prog 4) wo.heap.size 0 (tkD [])) := Lib.hid ((World.ownsMap_made wo _ _ _).kept hgrow0 (by simp))
      have HB3' : Hid (Below wo.heap.size wo w3) := Lib.hid (((Below.refl _ _).alloc (Nat.le_refl _) _).grown hgrow0 (by simp) (fun k hk => by cases hk))
      have HO0 : Hid (w3.ownsRow (wo.heap.size + 1) 3 1 _ 0 (valI [])) := Lib.hid hown0
      clear hown0 hgrow0
      go_loopw [12, 64] (fun o i wr => ∃ (o0 : Value) (wp : World) (r : Nat), o0 = o ∧ wp = wr ∧ r ≤ LA ∧ i = .int .i64 r ∧ wp.ownsRow (wo.heap.size + 1) 3 1 o r (valI (prL A B LB t r)) ∧ wp.ownsMap Try.prog 3 (plainElem (H := Unit) Try.prog 4) wo.heap.size r (tkD ((prL A B LB t r).filter (fun z => decide (0 ≤ z)))) ∧ Below wo.heap.size wo wp ∧ wo.heap.size + 1 ≤ wp.heap.size) (fun _ i _ => LA - (intOf i).toNat)
      case atStart => exact ⟨_, _, 0, rfl, rfl, Nat.zero_le _, rfl, HO0.out, HMP.out, HB3'.out, HMP.out.lt⟩
      case round =>
        obtain ⟨o, wp, r, rfl, rfl, hr, rfl, hown, hmp, hbp, hsp⟩ := hrel
        have HO := Lib.hid hown
        have HM := Lib.hid hmp
        have HBP := Lib.hid hbp
        have hsp0 := hbp.size
        clear hown hmp
        by_cases hlr : r < LA
        · obtain ⟨g1, cap1, rfl, _, gl1, nb1⟩ := FA.out (by omega)
          obtain ⟨⟨x0', x1', x2'⟩, _⟩ := ((nb1.fwd HBL.out gl1).fwd hbp (by omega)).cells hlr
          obtain ⟨⟨x1, x2, x3⟩, hx⟩ : ∃ x, A r = x := ⟨_, rfl⟩
          have okx := OA.out r hlr
          rw [hx] at x0' x1' x2' okx
          simp only at x0' x1' x2'
          have HX := Lib.hid hx
          have HOX := Lib.hid okx
          obtain ⟨_, _, okx1, okx2⟩ := okN_iff.1 okx
          simp only at okx1 okx2
          have i0 : (0 : Int) ≤ (r : Int) := by omega
          have i1 : (r : Int) < (LA : Int) := by omega
          have HGW : Hid ((wp.alloc (.cells #[.int .i64 x1, .int .i64 x2, .int .i64 x3] 30)).ownsGroups Try.prog 58 (w2.heap.size + 1) 3 .i64 w2.heap.size LB (gpD B LB)) := Lib.hid (groups_below (groups_below HG.out hbp) ((Below.refl _ _).alloc (Nat.le_refl _) _))
          obtain ⟨v, zs, hrun, hat, hoi, hzl, _⟩ := HGW.out.at (key := kyV (x1, x2, x3)) (kl := kyL (x1, x2, x3)) lawK Try.underlying56 (zeroL _) (by unfold maxLen; omega) (keyOf_note (wfN okx).1 (wfN okx).2)
          have HZ := Lib.hid (cds_of okx OB.out hat hoi)
          obtain ⟨va, vc, rfl, lv, mv, F3⟩ := (iv_of_ints hoi).form
          obtain ⟨C, hC⟩ : ∃ C, zs.length = C := ⟨_, rfl⟩
          rw [hC] at lv F3 hrun hzl
          have HC := Lib.hid hC
          have FV := Lib.hid F3
          unfold kyV at hrun
          simp only at hrun
          clear hx okx nb1 hbp hat hoi hC F3
          obtain ⟨out, hout⟩ : ∃ out, prL A B LB t r = out := ⟨_, rfl⟩
          have HOUT := Lib.hid hout
          rw [hout] at HO HM
          clear hout
          go_wp2_with fail
          obtain ⟨W, hW⟩ : ∃ W, wp.alloc (.cells #[.int .i64 x1, .int .i64 x2, .int .i64 x3] 30) = W := ⟨_, rfl⟩
          rw [hW] at FV ⊢
          have u2 : W.cell? ⟨wp.heap.size, 2, none⟩ = some (.int .i64 x3) := by rw [← hW]; simp
          have hWS : wp.heap.size + 1 ≤ W.heap.size := by rw [← hW]; simp
          have HBW : Hid (Below wp.heap.size wp W) := Lib.hid (by rw [← hW]; exact (Below.refl _ _).alloc (Nat.le_refl _) _)
          clear hW hrun HGW x0' x1' x2'
          go_loopw [15, 16, 78] (fun p d k wr => ∃ (ww : World) (j : Nat), ww = wr ∧ j ≤ C ∧ k = .int .i64 j ∧ p = .int .i64 ((zs.take j).foldl (stI (x1, x2, x3) B out) (-1, t + 1)).1 ∧ d = .int .i64 ((zs.take j).foldl (stI (x1, x2, x3) B out) (-1, t + 1)).2 ∧ Below W.heap.size W ww) (fun _ _ k _ => C - (intOf k).toNat)
          case atStart => exact ⟨_, 0, rfl, Nat.zero_le _, rfl, rfl, rfl, Below.refl _ _⟩
          case round =>
            obtain ⟨ww, j, rfl, hj, rfl, rfl, rfl, hbw⟩ := hrel
            have HBW2 := Lib.hid hbw
            have hsw := hbw.size
            by_cases hlj : j < C
            · obtain ⟨vg, vcap, rfl, _, vgl, ib⟩ := FV.out (by omega)
              have c0 := (ib.fwd hbw vgl).cell hlj
              have hkm : rowI zs j ∈ cds (x1, x2, x3) B LB := by rw [← HZ.out]; exact rowI_mem (by rw [HC.out]; exact hlj)
              have hkb := cds_bd _ hkm
              clear hkm
              obtain ⟨kn, hkn⟩ : ∃ kn : Nat, rowI zs j = (kn : Int) := ⟨(rowI zs j).toNat, by omega⟩
              rw [hkn] at c0 hkb
              have HKN := Lib.hid hkn
              obtain ⟨hkb0, hkb1⟩ := hkb
              have hkl : kn < LB := by omega
              obtain ⟨g2, cap2, rfl, _, gl2, nb2⟩ := FB.out (by omega)
              obtain ⟨⟨_, _, y2'⟩, _⟩ := ((((nb2.fwd HBL.out gl2).fwd HBP.out (by omega)).fwd HBW.out (by omega)).fwd hbw (by omega)).cells hkl
              obtain ⟨⟨y1, y2, y3⟩, hy⟩ : ∃ y, B kn = y := ⟨_, rfl⟩
              obtain ⟨_, _, oky1, oky2⟩ := okN_iff.1 (OB.out kn hkl)
              rw [hy] at y2' oky1 oky2
              simp only at y2' oky1 oky2
              have HY := Lib.hid hy
              have x2w := bc hbw u2
              obtain ⟨D1, hD1⟩ : ∃ d, x3 - y3 = d := ⟨_, rfl⟩
              have HDN : Hid (dN (x1, x2, x3) (B kn) = absI D1) := Lib.hid (by rw [HY.out, ← hD1]; rfl)
              have hd1 : -50000 ≤ D1 := by omega
              have hd2 : D1 ≤ 50000 := by omega
              obtain ⟨⟨p0, d0⟩, hst⟩ : ∃ s, (zs.take j).foldl (stI (x1, x2, x3) B out) (-1, t + 1) = s := ⟨_, rfl⟩
              rw [hst]
              simp only
              have HNX : Hid ((zs.take (j + 1)).foldl (stI (x1, x2, x3) B out) (-1, t + 1) = stI (x1, x2, x3) B out (p0, d0) (kn : Int)) := Lib.hid (by rw [fold_take (by rw [HC.out]; exact hlj), hst, HKN.out])
              have HLK : Hid (∀ n, (Instr.lookup 50 (.map (some wo.heap.size)) (.int .i64 (kn : Int)) false).run Try.prog (ww.drewN n) = .ok (.bool (decide ((kn : Int) ∈ out))) (ww.drewN n)) := Lib.hid fun n => by
                rw [look_set (set_below (set_below (set_below HM.out HBW.out) HBW2.out) (bel_drewN n (Below.refl _ _))) (wfOk (by omega) (by omega))]
                simp
              have j0 : (0 : Int) ≤ (j : Int) := by omega
              have j1 : (j : Int) < (C : Int) := by omega
              have j3 : (kn : Int) < (LB : Int) := by omega
              clear hkn hy nb2 hbw hst ib
              go_wp2_with fail
              go_quiet (fail)
              have hL := HLK.out nq
              by_cases cd : D1 < 0
              · have HDD : Hid (dN (x1, x2, x3) (B kn) = -D1) := Lib.hid (HDN.out.trans (absI_neg cd))
                by_cases him : (kn : Int) ∈ out
                · have HF : Hid ((zs.take (j + 1)).foldl (stI (x1, x2, x3) B out) (-1, t + 1) = (p0, d0)) := Lib.hid (by rw [HNX.out, stI_eq HDD.out, if_neg (fun h => h.1 him)])
                  rw [decide_eq_true him] at hL
                  clear him
                  go_wp2_with fail
                  go_roundw
                  case rel => exact ⟨_, j + 1, rfl, by omega, by go_num, by rw [HF.out], by rw [HF.out], bel_drewN _ HBW2.out⟩
                  case measure => first | (simp [intOf]; done) | (simp [intOf]; omega)
                by_cases hlt : -D1 < d0
                · have HF : Hid ((zs.take (j + 1)).foldl (stI (x1, x2, x3) B out) (-1, t + 1) = ((kn : Int), -D1)) := Lib.hid (by rw [HNX.out, stI_eq HDD.out, if_pos ⟨him, hlt⟩])
                  rw [decide_eq_false him] at hL
                  clear him
                  go_wp2_with fail
                  go_roundw
                  case rel => exact ⟨_, j + 1, rfl, by omega, by go_num, by rw [HF.out], by rw [HF.out], bel_drewN _ HBW2.out⟩
                  case measure => first | (simp [intOf]; done) | (simp [intOf]; omega)
                · have HF : Hid ((zs.take (j + 1)).foldl (stI (x1, x2, x3) B out) (-1, t + 1) = (p0, d0)) := Lib.hid (by rw [HNX.out, stI_eq HDD.out, if_neg (fun h => hlt h.2)])
                  rw [decide_eq_false him] at hL
                  clear him
                  go_wp2_with fail
                  go_roundw
                  case rel => exact ⟨_, j + 1, rfl, by omega, by go_num, by rw [HF.out], by rw [HF.out], bel_drewN _ HBW2.out⟩
                  case measure => first | (simp [intOf]; done) | (simp [intOf]; omega)
              · have cd2 : 0 ≤ D1 := by omega
                have HDD : Hid (dN (x1, x2, x3) (B kn) = D1) := Lib.hid (HDN.out.trans (absI_pos (by omega)))
                by_cases him : (kn : Int) ∈ out
                · have HF : Hid ((zs.take (j + 1)).foldl (stI (x1, x2, x3) B out) (-1, t + 1) = (p0, d0)) := Lib.hid (by rw [HNX.out, stI_eq HDD.out, if_neg (fun h => h.1 him)])
                  rw [decide_eq_true him] at hL
                  clear him
                  go_wp2_with fail
                  go_roundw
                  case rel => exact ⟨_, j + 1, rfl, by omega, by go_num, by rw [HF.out], by rw [HF.out], bel_drewN _ HBW2.out⟩
                  case measure => first | (simp [intOf]; done) | (simp [intOf]; omega)
                by_cases hlt : D1 < d0
                · have HF : Hid ((zs.take (j + 1)).foldl (stI (x1, x2, x3) B out) (-1, t + 1) = ((kn : Int), D1)) := Lib.hid (by rw [HNX.out, stI_eq HDD.out, if_pos ⟨him, hlt⟩])
                  rw [decide_eq_false him] at hL
                  clear him
                  go_wp2_with fail
                  go_roundw
                  case rel => exact ⟨_, j + 1, rfl, by omega, by go_num, by rw [HF.out], by rw [HF.out], bel_drewN _ HBW2.out⟩
                  case measure => first | (simp [intOf]; done) | (simp [intOf]; omega)
                · have HF : Hid ((zs.take (j + 1)).foldl (stI (x1, x2, x3) B out) (-1, t + 1) = (p0, d0)) := Lib.hid (by rw [HNX.out, stI_eq HDD.out, if_neg (fun h => hlt h.2)])
                  rw [decide_eq_false him] at hL
                  clear him
                  go_wp2_with fail
                  go_roundw
                  case rel => exact ⟨_, j + 1, rfl, by omega, by go_num, by rw [HF.out], by rw [HF.out], bel_drewN _ HBW2.out⟩
                  case measure => first | (simp [intOf]; done) | (simp [intOf]; omega)
            · obtain rfl : C = j := by omega
              have hf : (zs.take C).foldl (stI (x1, x2, x3) B out) (-1, t + 1) = (pk (x1, x2, x3) B t out LB, if pk (x1, x2, x3) B t out LB < 0 then t + 1 else dN (x1, x2, x3) (B (pk (x1, x2, x3) B t out LB).toNat)) := by
                rw [List.take_of_length_le (by rw [HC.out]; exact Nat.le_refl _), HZ.out]; exact fold_pk _ _ _ _ _
              rw [hf]
              simp only
              have hpb := pk_bd (x1, x2, x3) B t out LB
              obtain ⟨pv, hpv⟩ : ∃ pv, pk (x1, x2, x3) B t out LB = pv := ⟨_, rfl⟩
              rw [hpv] at hpb ⊢
              obtain ⟨hpb1, hpb2⟩ := hpb
              have HPV : Hid (prL A B LB t (r + 1) = out ++ [pv]) := Lib.hid (by rw [prL, HOUT.out, HX.out, hpv])
              obtain ⟨dv, hdv⟩ : ∃ dv, (if pv < 0 then t + 1 else dN (x1, x2, x3) (B pv.toNat)) = dv := ⟨_, rfl⟩
              rw [hdv]
              have HOW := Lib.hid (own_below (own_below HO.out HBW.out) hbw)
              have HMW := Lib.hid (set_below (set_below HM.out HBW.out) hbw)
              have HBQ : Hid (Below wo.heap.size wo ww) := Lib.hid ((HBP.out.trans (HBW.out.mono hsp0)).trans (hbw.mono (by omega)))
              have hsq : wo.heap.size + 1 ≤ ww.heap.size := by omega
              clear hf hpv hdv hbw
              by_cases hp : 0 ≤ pv
              · have HF : Hid ((out ++ [pv]).filter (fun z => decide (0 ≤ z)) = out.filter (fun z => decide (0 ≤ z)) ++ [pv]) := Lib.hid (by rw [List.filter_append]; simp [hp])
                go_wp2_with (first | (at_mapUpdate; refine wpList_mapUpdate_own _ rfl _ _ _ 50 rfl 3 4 lawI Try.underlying50 _ wo.heap.size r _ rfl HMW.out (by unfold maxLen; omega) _ _ _ rfl rfl (keyOf_int_mk Try.underlying3 (wfOk (a := pv) (by omega) (by omega))) _ [] (plainElem_bool Try.underlying4 true) ?_; intro w5 hmp5 hgr5; have HO5 := Lib.hid (HOW.out.kept hgr5 (by cases ho : o.ownBlock with | none => exact .inl rfl | some g => exact .inr (fun e => by have := (HOW.out.lt g ho).1; cases e; omega)))) | (at_builtin; refine wpList_append_own _ rfl _ _ 26 rfl (wo.heap.size + 1) 3 iI (.int .i64 0) 1 8 Try.underlying26 hi hz0 hz1 hz2 rfl (by decide) _ _ _ rfl (HO5.out.alloc _) ⟨w5.heap.size, 0, none⟩ 1 1 [.int .i64 pv] rfl rfl (cell_one_new _ _ _) (by simp [Value.oneCell']) (by unfold maxLen; omega) (by omega) (by have := hgr5.size; simp; omega) ?_; intro v6 w6 hown6 hg6 _))
                have hs5 := hgr5.size
                have HB6 : Hid (Below wo.heap.size wo w6) := Lib.hid (((HBQ.out.grown hgr5 (by omega) (fun k hk => by cases hk; exact Nat.le_refl _)).alloc (by omega) _).grown hg6 (by simp; omega) (fun k hk => by have := (HO5.out.lt k hk).1; omega))
                have HM6 : Hid (w6.ownsMap Try.prog 3 (plainElem (H := Unit) Try.prog 4) wo.heap.size (r + 1) (tkD (out.filter (fun z => decide (0 ≤ z)) ++ [pv]))) := Lib.hid (by rw [tkD_snoc]; exact (hmp5.alloc _).kept hg6 (fun e => by have := (HO5.out.lt _ e.symm).1; omega))
                have hs6 : wo.heap.size + 1 ≤ w6.heap.size := by have := hg6.size; simp at this; omega
                have HO6 := Lib.hid hown6
                clear hown6 hg6 hmp5 hgr5
                go_wp2
                go_roundw
                case rel => exact ⟨_, _, r + 1, rfl, rfl, by omega, by go_num, by rw [HPV.out, valI_snoc]; exact HO6.out, by rw [HPV.out, HF.out]; exact HM6.out, HB6.out, hs6⟩
                case measure => simp [intOf]; omega
              · have HF : Hid ((out ++ [pv]).filter (fun z => decide (0 ≤ z)) = out.filter (fun z => decide (0 ≤ z))) := Lib.hid (by rw [List.filter_append]; simp [hp])
                go_wp2_with (at_builtin; refine wpList_append_own _ rfl _ _ 26 rfl (wo.heap.size + 1) 3 iI (.int .i64 0) 1 8 Try.underlying26 hi hz0 hz1 hz2 rfl (by decide) _ _ _ rfl (HOW.out.alloc _) ⟨ww.heap.size, 0, none⟩ 1 1 [.int .i64 pv] rfl rfl (cell_one_new _ _ _) (by simp [Value.oneCell']) (by unfold maxLen; omega) (by omega) (by simp; omega) ?_; intro v6 w6 hown6 hg6 _)
                have HB6 : Hid (Below wo.heap.size wo w6) := Lib.hid ((HBQ.out.alloc (by omega) _).grown hg6 (by simp; omega) (fun k hk => by have := (HOW.out.lt k hk).1; omega))
                have HM6 : Hid (w6.ownsMap Try.prog 3 (plainElem (H := Unit) Try.prog 4) wo.heap.size (r + 1) (tkD (out.filter (fun z => decide (0 ≤ z))))) := Lib.hid (((HMW.out.alloc _).kept hg6 (fun e => by have := (HOW.out.lt _ e.symm).1; omega)).mono (Nat.le_succ _))
                have hs6 : wo.heap.size + 1 ≤ w6.heap.size := by have := hg6.size; simp at this; omega
                have HO6 := Lib.hid hown6
                clear hown6 hg6
                go_wp2
                go_roundw
                case rel => exact ⟨_, _, r + 1, rfl, rfl, by omega, by go_num, by rw [HPV.out, valI_snoc]; exact HO6.out, by rw [HPV.out, HF.out]; exact HM6.out, HB6.out, hs6⟩
                case measure => simp [intOf]; omega
        · obtain rfl : r = LA := by omega
          go_wp2
          go_ret2
          exact ⟨o, by rw [HN.out]; rfl, by rw [mtL_yes HN.out, prL_len]; exact own_base HO.out (by omega), HBL.out.trans (HBP.out.mono hs0)⟩
theorem matched_any (v1 v2 : Value) (b1 b2 LA LB : Nat) (A B : Nat → Nt) (t : Int) (w : World) (hLA : LA ≤ 1048576) (hLB : LB ≤ 1048576) (hA : NV w b1 v1 LA A) (hB : NV w b2 v2 LB B) :
    Calls Try.prog 30 #[v1, v2, .int .i64 t] w (MdPost A LA B LB t w) := by
  cases hm : mtB A LA B LB t
  · exact matched_no v1 v2 b1 b2 LA LB A B t w hLA hLB hA hB hm
  · exact matched_yes v1 v2 b1 b2 LA LB A B t w hLA hLB hA hB hm
end Go.Proofs.Ytdifhjjkgcipaaa
