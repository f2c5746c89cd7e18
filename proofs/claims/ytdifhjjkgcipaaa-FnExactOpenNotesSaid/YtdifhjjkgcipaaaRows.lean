/-
  No cell of these rows narrows 'for every input' (looked for: loops, veiled, ifaces, maps, wideKeys, modest, calm, conditions, laid).
  DERIVED. THE GIVEN ROWS OF THIS SEAT. 6 by the template 'for every input the law returns true; each argument reads behind the call as it read before'; 0 by the template 'total and deterministic' (their statements: YtdifhjjkgcipaaaTotals.lean).
  GIVEN WITH THE SEED: the statements are not yours to turn. If you find one false, say at which input.
  Laid BY PROGRAM, IN A SANDBOX (cutbox-rows.mjs): the forced cells as the released guide's own fill.sh prints them over the translation 1df6c5371581d716… (all of the seat's roots in one cut). By AI agents, Wed Nov 11 2026. No macro, syntax, notation, axiom, sorry.
-/
import Derived.Test.YtdifhjjkgcipaaaChecked
import GoSem.Claim
import GoSem.ClaimJoined
import GoSem.ClaimMapViews
import Derived.JoinedTies
import Derived.KernelRfl
namespace Go.Proofs.Ytdifhjjkgcipaaa
/- THE CELL 'sum', in the pinned program and in every row, IS THE sha256 OF THE DUMP (.gsa) THAT YtdifhjjkgcipaaaProg.lean LOADS. Nothing in Lean hashes anything: it is a label: what it is worth is what the hold of that sum in a sandbox is worth. -/
noncomputable def Try.pinned : Pinned := { name := "ytdifhjjkgcipaaa", sum := "1df6c5371581d716ccee9614348c39e46f8d4ded138ac3700a9cae61687130d3", checked := Try.checked }
namespace Rows
def none {H : Type} : Left H := { results := [], args := [] }

/-- 'laws.FnMatchNotes': WHATEVER THE INPUT: true; the input reads as it did. -/
def fnMatchNotesSpec : ChangeSpec := { name := "fnMatchNotes", fn := fun _ => fun
  | [d] => { results := [.lit (.bool true)], args := [d] }
  | _ => none }
def fnMatchNotesRow : OpenClaim := { program := "ytdifhjjkgcipaaa", sum := "1df6c5371581d716ccee9614348c39e46f8d4ded138ac3700a9cae61687130d3", func := "loop.example/bonddesk/laws.FnMatchNotes", spec := "fnMatchNotes", plainKeys := false, apart := false }
def FnMatchNotesSaid : Prop := fnMatchNotesRow.holds Try.pinned (OpenSpec.ofChange fnMatchNotesSpec)

/-- ITS FALSE NEIGHBOUR: 'it returns false'. Refute it at one input. -/
def fnMatchNotesWrong : ChangeSpec := { name := "fnMatchNotes", fn := fun _ => fun
  | [d] => { results := [.lit (.bool false)], args := [d] }
  | _ => none }
def FnMatchNotesWrongFalsely : Prop := fnMatchNotesRow.holds Try.pinned (OpenSpec.ofChange fnMatchNotesWrong)

/-- 'laws.FnMatchNotesOpen': WHATEVER THE INPUT: true; the input reads as it did. -/
def fnMatchNotesOpenSpec : ChangeSpec := { name := "fnMatchNotesOpen", fn := fun _ => fun
  | [d] => { results := [.lit (.bool true)], args := [d] }
  | _ => none }
def fnMatchNotesOpenRow : OpenClaim := { program := "ytdifhjjkgcipaaa", sum := "1df6c5371581d716ccee9614348c39e46f8d4ded138ac3700a9cae61687130d3", func := "loop.example/bonddesk/laws.FnMatchNotesOpen", spec := "fnMatchNotesOpen", plainKeys := false, apart := false }
def FnMatchNotesOpenSaid : Prop := fnMatchNotesOpenRow.holds Try.pinned (OpenSpec.ofChange fnMatchNotesOpenSpec)

/-- ITS FALSE NEIGHBOUR: 'it returns false'. Refute it at one input. -/
def fnMatchNotesOpenWrong : ChangeSpec := { name := "fnMatchNotesOpen", fn := fun _ => fun
  | [d] => { results := [.lit (.bool false)], args := [d] }
  | _ => none }
def FnMatchNotesOpenWrongFalsely : Prop := fnMatchNotesOpenRow.holds Try.pinned (OpenSpec.ofChange fnMatchNotesOpenWrong)

/-- 'laws.FnMatchNotesSelf': WHATEVER THE INPUT: true; the input reads as it did. -/
def fnMatchNotesSelfSpec : ChangeSpec := { name := "fnMatchNotesSelf", fn := fun _ => fun
  | [d] => { results := [.lit (.bool true)], args := [d] }
  | _ => none }
def fnMatchNotesSelfRow : OpenClaim := { program := "ytdifhjjkgcipaaa", sum := "1df6c5371581d716ccee9614348c39e46f8d4ded138ac3700a9cae61687130d3", func := "loop.example/bonddesk/laws.FnMatchNotesSelf", spec := "fnMatchNotesSelf", plainKeys := false, apart := false }
def FnMatchNotesSelfSaid : Prop := fnMatchNotesSelfRow.holds Try.pinned (OpenSpec.ofChange fnMatchNotesSelfSpec)

/-- ITS FALSE NEIGHBOUR: 'it returns false'. Refute it at one input. -/
def fnMatchNotesSelfWrong : ChangeSpec := { name := "fnMatchNotesSelf", fn := fun _ => fun
  | [d] => { results := [.lit (.bool false)], args := [d] }
  | _ => none }
def FnMatchNotesSelfWrongFalsely : Prop := fnMatchNotesSelfRow.holds Try.pinned (OpenSpec.ofChange fnMatchNotesSelfWrong)

/-- 'laws.FnOpenNotes': WHATEVER THE INPUT: true; the input reads as it did. -/
def fnOpenNotesSpec : ChangeSpec := { name := "fnOpenNotes", fn := fun _ => fun
  | [d] => { results := [.lit (.bool true)], args := [d] }
  | _ => none }
def fnOpenNotesRow : OpenClaim := { program := "ytdifhjjkgcipaaa", sum := "1df6c5371581d716ccee9614348c39e46f8d4ded138ac3700a9cae61687130d3", func := "loop.example/bonddesk/laws.FnOpenNotes", spec := "fnOpenNotes", plainKeys := false, apart := false }
def FnOpenNotesSaid : Prop := fnOpenNotesRow.holds Try.pinned (OpenSpec.ofChange fnOpenNotesSpec)

/-- ITS FALSE NEIGHBOUR: 'it returns false'. Refute it at one input. -/
def fnOpenNotesWrong : ChangeSpec := { name := "fnOpenNotes", fn := fun _ => fun
  | [d] => { results := [.lit (.bool false)], args := [d] }
  | _ => none }
def FnOpenNotesWrongFalsely : Prop := fnOpenNotesRow.holds Try.pinned (OpenSpec.ofChange fnOpenNotesWrong)

/-- 'laws.FnExactMatchNotes': WHATEVER THE INPUT: true; the input reads as it did. -/
def fnExactMatchNotesSpec : ChangeSpec := { name := "fnExactMatchNotes", fn := fun _ => fun
  | [d1, d2, d3] => { results := [.lit (.bool true)], args := [d1, d2, d3] }
  | _ => none }
def fnExactMatchNotesRow : OpenClaim := { program := "ytdifhjjkgcipaaa", sum := "1df6c5371581d716ccee9614348c39e46f8d4ded138ac3700a9cae61687130d3", func := "loop.example/bonddesk/laws.FnExactMatchNotes", spec := "fnExactMatchNotes", plainKeys := false, apart := false }
def FnExactMatchNotesSaid : Prop := fnExactMatchNotesRow.holds Try.pinned (OpenSpec.ofChange fnExactMatchNotesSpec)

/-- ITS FALSE NEIGHBOUR: 'it returns false'. Refute it at one input. -/
def fnExactMatchNotesWrong : ChangeSpec := { name := "fnExactMatchNotes", fn := fun _ => fun
  | [d1, d2, d3] => { results := [.lit (.bool false)], args := [d1, d2, d3] }
  | _ => none }
def FnExactMatchNotesWrongFalsely : Prop := fnExactMatchNotesRow.holds Try.pinned (OpenSpec.ofChange fnExactMatchNotesWrong)

/-- 'laws.FnExactOpenNotes': WHATEVER THE INPUT: true; the input reads as it did. -/
def fnExactOpenNotesSpec : ChangeSpec := { name := "fnExactOpenNotes", fn := fun _ => fun
  | [d1, d2, d3] => { results := [.lit (.bool true)], args := [d1, d2, d3] }
  | _ => none }
def fnExactOpenNotesRow : OpenClaim := { program := "ytdifhjjkgcipaaa", sum := "1df6c5371581d716ccee9614348c39e46f8d4ded138ac3700a9cae61687130d3", func := "loop.example/bonddesk/laws.FnExactOpenNotes", spec := "fnExactOpenNotes", plainKeys := false, apart := false }
def FnExactOpenNotesSaid : Prop := fnExactOpenNotesRow.holds Try.pinned (OpenSpec.ofChange fnExactOpenNotesSpec)

/-- ITS FALSE NEIGHBOUR: 'it returns false'. Refute it at one input. -/
def fnExactOpenNotesWrong : ChangeSpec := { name := "fnExactOpenNotes", fn := fun _ => fun
  | [d1, d2, d3] => { results := [.lit (.bool false)], args := [d1, d2, d3] }
  | _ => none }
def FnExactOpenNotesWrongFalsely : Prop := fnExactOpenNotesRow.holds Try.pinned (OpenSpec.ofChange fnExactOpenNotesWrong)

/- THE SECOND FORM. 'bulk': how many values and letters a reading holds, each counted each time it is reached (what is shared counts as often as it is met; a slice's spare places count too). A statement '..UptoSaid' is the law's where the arguments, and the package variables that the reading takes, are together of bulk at most 1048576: NARROWER than '..Said'. Prove '..Said' where nothing that the law and all that it calls make is longer than what came in: it says more and counts as full. Else prove '..UptoSaid'. A law counts once. -/
mutual
def uptoBulk {H : Type} : DataW H → Nat
  | .lit (.string bytes) => bytes.length + 1
  | .lit _ => 1
  | .nil => 1
  | .ptr d => uptoBulk d + 1
  | .slice elems spare => uptoBulkAll elems + uptoBulkAll spare + 1
  | .agg parts => uptoBulkAll parts + 1
  | .iface _ d => uptoBulk d + 1
  | .map entries => uptoBulkEntries entries + 1
  | .held _ => 1
def uptoBulkAll {H : Type} : List (DataW H) → Nat
  | [] => 0
  | d :: r => uptoBulk d + uptoBulkAll r
def uptoBulkEntries {H : Type} : List (Lit × DataW H) → Nat
  | [] => 0
  | x :: r => uptoBulkEntry x + uptoBulkEntries r
def uptoBulkEntry {H : Type} : Lit × DataW H → Nat
  | (.string bytes, d) => bytes.length + uptoBulk d + 1
  | (_, d) => uptoBulk d + 1
 end
def uptoSmall : (H : Type) → List (DataW H) → Bool := fun _ ds => decide (uptoBulkAll ds ≤ 1048576)
def OpenSpec.upto (s : _root_.Go.ChangeSpec) : _root_.Go.OpenSpec := { _root_.Go.OpenSpec.ofChange s with cond := some uptoSmall }

/-- 'laws.FnMatchNotes', WHERE WHAT IT READS IS OF BULK AT MOST 1048576: true; the input reads as it did. -/
def fnMatchNotesUptoRow : OpenClaim := { program := "ytdifhjjkgcipaaa", sum := "1df6c5371581d716ccee9614348c39e46f8d4ded138ac3700a9cae61687130d3", func := "loop.example/bonddesk/laws.FnMatchNotes", spec := "fnMatchNotes", plainKeys := false, apart := false, narrowed := true }
def FnMatchNotesUptoSaid : Prop := fnMatchNotesUptoRow.holds Try.pinned (OpenSpec.upto fnMatchNotesSpec)

/-- 'laws.FnMatchNotesOpen', WHERE WHAT IT READS IS OF BULK AT MOST 1048576: true; the input reads as it did. -/
def fnMatchNotesOpenUptoRow : OpenClaim := { program := "ytdifhjjkgcipaaa", sum := "1df6c5371581d716ccee9614348c39e46f8d4ded138ac3700a9cae61687130d3", func := "loop.example/bonddesk/laws.FnMatchNotesOpen", spec := "fnMatchNotesOpen", plainKeys := false, apart := false, narrowed := true }
def FnMatchNotesOpenUptoSaid : Prop := fnMatchNotesOpenUptoRow.holds Try.pinned (OpenSpec.upto fnMatchNotesOpenSpec)

/-- 'laws.FnMatchNotesSelf', WHERE WHAT IT READS IS OF BULK AT MOST 1048576: true; the input reads as it did. -/
def fnMatchNotesSelfUptoRow : OpenClaim := { program := "ytdifhjjkgcipaaa", sum := "1df6c5371581d716ccee9614348c39e46f8d4ded138ac3700a9cae61687130d3", func := "loop.example/bonddesk/laws.FnMatchNotesSelf", spec := "fnMatchNotesSelf", plainKeys := false, apart := false, narrowed := true }
def FnMatchNotesSelfUptoSaid : Prop := fnMatchNotesSelfUptoRow.holds Try.pinned (OpenSpec.upto fnMatchNotesSelfSpec)

/-- 'laws.FnOpenNotes', WHERE WHAT IT READS IS OF BULK AT MOST 1048576: true; the input reads as it did. -/
def fnOpenNotesUptoRow : OpenClaim := { program := "ytdifhjjkgcipaaa", sum := "1df6c5371581d716ccee9614348c39e46f8d4ded138ac3700a9cae61687130d3", func := "loop.example/bonddesk/laws.FnOpenNotes", spec := "fnOpenNotes", plainKeys := false, apart := false, narrowed := true }
def FnOpenNotesUptoSaid : Prop := fnOpenNotesUptoRow.holds Try.pinned (OpenSpec.upto fnOpenNotesSpec)

/-- 'laws.FnExactMatchNotes', WHERE WHAT IT READS IS OF BULK AT MOST 1048576: true; the input reads as it did. -/
def fnExactMatchNotesUptoRow : OpenClaim := { program := "ytdifhjjkgcipaaa", sum := "1df6c5371581d716ccee9614348c39e46f8d4ded138ac3700a9cae61687130d3", func := "loop.example/bonddesk/laws.FnExactMatchNotes", spec := "fnExactMatchNotes", plainKeys := false, apart := false, narrowed := true }
def FnExactMatchNotesUptoSaid : Prop := fnExactMatchNotesUptoRow.holds Try.pinned (OpenSpec.upto fnExactMatchNotesSpec)

/-- 'laws.FnExactOpenNotes', WHERE WHAT IT READS IS OF BULK AT MOST 1048576: true; the input reads as it did. -/
def fnExactOpenNotesUptoRow : OpenClaim := { program := "ytdifhjjkgcipaaa", sum := "1df6c5371581d716ccee9614348c39e46f8d4ded138ac3700a9cae61687130d3", func := "loop.example/bonddesk/laws.FnExactOpenNotes", spec := "fnExactOpenNotes", plainKeys := false, apart := false, narrowed := true }
def FnExactOpenNotesUptoSaid : Prop := fnExactOpenNotesUptoRow.holds Try.pinned (OpenSpec.upto fnExactOpenNotesSpec)

end Rows
end Go.Proofs.Ytdifhjjkgcipaaa
