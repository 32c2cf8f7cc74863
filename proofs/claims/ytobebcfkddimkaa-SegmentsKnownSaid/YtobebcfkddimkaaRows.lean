/-
  No cell of these rows narrows 'for every input' (looked for: loops, veiled, ifaces, maps, wideKeys, modest, calm, conditions, laid).
  DERIVED. THE GIVEN ROWS OF THIS SEAT. 6 by the template 'for every input the law returns true; each argument reads behind the call as it read before'; 0 by the template 'total and deterministic' (their statements: YtobebcfkddimkaaTotals.lean).
  GIVEN WITH THE SEED: the statements are not yours to turn. If you find one false, say at which input.
  Laid BY PROGRAM, IN A SANDBOX (cutbox-rows.mjs): the forced cells as the released guide's own fill.sh prints them over the translation 884cf883c7228a50… (all of the seat's roots in one cut). By AI agents, Wed Nov 11 2026. No macro, syntax, notation, axiom, sorry.
-/
import Derived.Test.YtobebcfkddimkaaChecked
import GoSem.Claim
import GoSem.ClaimJoined
import GoSem.ClaimMapViews
import Derived.JoinedTies
import Derived.KernelRfl
namespace Go.Proofs.Ytobebcfkddimkaa
/- THE CELL 'sum', in the pinned program and in every row, IS THE sha256 OF THE DUMP (.gsa) THAT YtobebcfkddimkaaProg.lean LOADS. Nothing in Lean hashes anything: it is a label: what it is worth is what the hold of that sum in a sandbox is worth. -/
noncomputable def Try.pinned : Pinned := { name := "ytobebcfkddimkaa", sum := "884cf883c7228a508154a70bc1178ff33160ca46957eb89aa471afdb914d14e8", checked := Try.checked }
namespace Rows
def none {H : Type} : Left H := { results := [], args := [] }

/-- 'pointcodelaw25.SegmentsSafe': WHATEVER THE INPUT: true; the input reads as it did. -/
def segmentsSafeSpec : ChangeSpec := { name := "segmentsSafe", fn := fun _ => fun
  | [d1, d2, d3] => { results := [.lit (.bool true)], args := [d1, d2, d3] }
  | _ => none }
def segmentsSafeRow : OpenClaim := { program := "ytobebcfkddimkaa", sum := "884cf883c7228a508154a70bc1178ff33160ca46957eb89aa471afdb914d14e8", func := "pointcode/pointcodelaw25.SegmentsSafe", spec := "segmentsSafe", unfollowed := true, recurses := true, plainKeys := false, apart := false }
def SegmentsSafeSaid : Prop := segmentsSafeRow.holds Try.pinned (OpenSpec.ofChange segmentsSafeSpec)

/-- ITS FALSE NEIGHBOUR: 'it returns false'. Refute it at one input. -/
def segmentsSafeWrong : ChangeSpec := { name := "segmentsSafe", fn := fun _ => fun
  | [d1, d2, d3] => { results := [.lit (.bool false)], args := [d1, d2, d3] }
  | _ => none }
def SegmentsSafeWrongFalsely : Prop := segmentsSafeRow.holds Try.pinned (OpenSpec.ofChange segmentsSafeWrong)

/-- 'pointcodelaw25.SegmentsJoins': WHATEVER THE INPUT: true; the input reads as it did. -/
def segmentsJoinsSpec : ChangeSpec := { name := "segmentsJoins", fn := fun _ => fun
  | [d1, d2, d3] => { results := [.lit (.bool true)], args := [d1, d2, d3] }
  | _ => none }
def segmentsJoinsRow : OpenClaim := { program := "ytobebcfkddimkaa", sum := "884cf883c7228a508154a70bc1178ff33160ca46957eb89aa471afdb914d14e8", func := "pointcode/pointcodelaw25.SegmentsJoins", spec := "segmentsJoins", unfollowed := true, recurses := true, plainKeys := false, apart := false }
def SegmentsJoinsSaid : Prop := segmentsJoinsRow.holds Try.pinned (OpenSpec.ofChange segmentsJoinsSpec)

/-- ITS FALSE NEIGHBOUR: 'it returns false'. Refute it at one input. -/
def segmentsJoinsWrong : ChangeSpec := { name := "segmentsJoins", fn := fun _ => fun
  | [d1, d2, d3] => { results := [.lit (.bool false)], args := [d1, d2, d3] }
  | _ => none }
def SegmentsJoinsWrongFalsely : Prop := segmentsJoinsRow.holds Try.pinned (OpenSpec.ofChange segmentsJoinsWrong)

/-- 'pointcodelaw25.SegmentsActs': WHATEVER THE INPUT: true; the input reads as it did. -/
def segmentsActsSpec : ChangeSpec := { name := "segmentsActs", fn := fun _ => fun
  | [d1, d2] => { results := [.lit (.bool true)], args := [d1, d2] }
  | _ => none }
def segmentsActsRow : OpenClaim := { program := "ytobebcfkddimkaa", sum := "884cf883c7228a508154a70bc1178ff33160ca46957eb89aa471afdb914d14e8", func := "pointcode/pointcodelaw25.SegmentsActs", spec := "segmentsActs", unfollowed := true, recurses := true, plainKeys := false, apart := false }
def SegmentsActsSaid : Prop := segmentsActsRow.holds Try.pinned (OpenSpec.ofChange segmentsActsSpec)

/-- ITS FALSE NEIGHBOUR: 'it returns false'. Refute it at one input. -/
def segmentsActsWrong : ChangeSpec := { name := "segmentsActs", fn := fun _ => fun
  | [d1, d2] => { results := [.lit (.bool false)], args := [d1, d2] }
  | _ => none }
def SegmentsActsWrongFalsely : Prop := segmentsActsRow.holds Try.pinned (OpenSpec.ofChange segmentsActsWrong)

/-- 'pointcodelaw25.SegmentsKnown': WHATEVER THE INPUT: true; the input reads as it did. -/
def segmentsKnownSpec : ChangeSpec := { name := "segmentsKnown", fn := fun _ => fun
  | [] => { results := [.lit (.bool true)], args := [] }
  | _ => none }
def segmentsKnownRow : OpenClaim := { program := "ytobebcfkddimkaa", sum := "884cf883c7228a508154a70bc1178ff33160ca46957eb89aa471afdb914d14e8", func := "pointcode/pointcodelaw25.SegmentsKnown", spec := "segmentsKnown", unfollowed := true, recurses := true, plainKeys := false, apart := false }
def SegmentsKnownSaid : Prop := segmentsKnownRow.holds Try.pinned (OpenSpec.ofChange segmentsKnownSpec)

/-- ITS FALSE NEIGHBOUR: 'it returns false'. Refute it at one input. -/
def segmentsKnownWrong : ChangeSpec := { name := "segmentsKnown", fn := fun _ => fun
  | [] => { results := [.lit (.bool false)], args := [] }
  | _ => none }
def SegmentsKnownWrongFalsely : Prop := segmentsKnownRow.holds Try.pinned (OpenSpec.ofChange segmentsKnownWrong)

/-- 'pointcodelaw25.SegmentsSplits': WHATEVER THE INPUT: true; the input reads as it did. -/
def segmentsSplitsSpec : ChangeSpec := { name := "segmentsSplits", fn := fun _ => fun
  | [d1, d2, d3] => { results := [.lit (.bool true)], args := [d1, d2, d3] }
  | _ => none }
def segmentsSplitsRow : OpenClaim := { program := "ytobebcfkddimkaa", sum := "884cf883c7228a508154a70bc1178ff33160ca46957eb89aa471afdb914d14e8", func := "pointcode/pointcodelaw25.SegmentsSplits", spec := "segmentsSplits", unfollowed := true, recurses := true, plainKeys := false, apart := false }
def SegmentsSplitsSaid : Prop := segmentsSplitsRow.holds Try.pinned (OpenSpec.ofChange segmentsSplitsSpec)

/-- ITS FALSE NEIGHBOUR: 'it returns false'. Refute it at one input. -/
def segmentsSplitsWrong : ChangeSpec := { name := "segmentsSplits", fn := fun _ => fun
  | [d1, d2, d3] => { results := [.lit (.bool false)], args := [d1, d2, d3] }
  | _ => none }
def SegmentsSplitsWrongFalsely : Prop := segmentsSplitsRow.holds Try.pinned (OpenSpec.ofChange segmentsSplitsWrong)

/-- 'pointcodelaw25.SegmentsBytes': WHATEVER THE INPUT: true; the input reads as it did. -/
def segmentsBytesSpec : ChangeSpec := { name := "segmentsBytes", fn := fun _ => fun
  | [d1, d2] => { results := [.lit (.bool true)], args := [d1, d2] }
  | _ => none }
def segmentsBytesRow : OpenClaim := { program := "ytobebcfkddimkaa", sum := "884cf883c7228a508154a70bc1178ff33160ca46957eb89aa471afdb914d14e8", func := "pointcode/pointcodelaw25.SegmentsBytes", spec := "segmentsBytes", unfollowed := true, recurses := true, plainKeys := false, apart := false }
def SegmentsBytesSaid : Prop := segmentsBytesRow.holds Try.pinned (OpenSpec.ofChange segmentsBytesSpec)

/-- ITS FALSE NEIGHBOUR: 'it returns false'. Refute it at one input. -/
def segmentsBytesWrong : ChangeSpec := { name := "segmentsBytes", fn := fun _ => fun
  | [d1, d2] => { results := [.lit (.bool false)], args := [d1, d2] }
  | _ => none }
def SegmentsBytesWrongFalsely : Prop := segmentsBytesRow.holds Try.pinned (OpenSpec.ofChange segmentsBytesWrong)

/- THE SECOND FORM. 'bulk': how many values and letters a reading holds, each counted each time it is reached (what is shared counts as often as it is met; a slice's spare places count too). A statement '..UptoSaid' is the law's where the arguments, and the package variables that the reading takes, are together of bulk at most 1048576: NARROWER than '..Said'. Prove '..Said' where nothing that the law and all that it calls make is longer than what came in: it says more and counts as full. Else prove '..UptoSaid'. A law counts once. -/
mutual
def uptoBulk {H : Type} : DataW H → Nat
  | .lit (.string bytes) => bytes.length + 1
  | .lit _ => 1
  | .nil => 1
  | .ptr d => uptoBulk d + 1
  | .slice elems spare => uptoBulkAll elems + uptoBulkAll spare + 1
  | .agg parts => uptoBulkAll parts + 1
  | .iface _ d => uptoBulk d + 1
  | .map entries => uptoBulkEntries entries + 1
  | .held _ => 1
def uptoBulkAll {H : Type} : List (DataW H) → Nat
  | [] => 0
  | d :: r => uptoBulk d + uptoBulkAll r
def uptoBulkEntries {H : Type} : List (Lit × DataW H) → Nat
  | [] => 0
  | x :: r => uptoBulkEntry x + uptoBulkEntries r
def uptoBulkEntry {H : Type} : Lit × DataW H → Nat
  | (.string bytes, d) => bytes.length + uptoBulk d + 1
  | (_, d) => uptoBulk d + 1
 end
def uptoSmall : (H : Type) → List (DataW H) → Bool := fun _ ds => decide (uptoBulkAll ds ≤ 1048576)
def OpenSpec.upto (s : _root_.Go.ChangeSpec) : _root_.Go.OpenSpec := { _root_.Go.OpenSpec.ofChange s with cond := some uptoSmall }

/-- 'pointcodelaw25.SegmentsSafe', WHERE WHAT IT READS IS OF BULK AT MOST 1048576: true; the input reads as it did. -/
def segmentsSafeUptoRow : OpenClaim := { program := "ytobebcfkddimkaa", sum := "884cf883c7228a508154a70bc1178ff33160ca46957eb89aa471afdb914d14e8", func := "pointcode/pointcodelaw25.SegmentsSafe", spec := "segmentsSafe", unfollowed := true, recurses := true, plainKeys := false, apart := false, narrowed := true }
def SegmentsSafeUptoSaid : Prop := segmentsSafeUptoRow.holds Try.pinned (OpenSpec.upto segmentsSafeSpec)

/-- 'pointcodelaw25.SegmentsJoins', WHERE WHAT IT READS IS OF BULK AT MOST 1048576: true; the input reads as it did. -/
def segmentsJoinsUptoRow : OpenClaim := { program := "ytobebcfkddimkaa", sum := "884cf883c7228a508154a70bc1178ff33160ca46957eb89aa471afdb914d14e8", func := "pointcode/pointcodelaw25.SegmentsJoins", spec := "segmentsJoins", unfollowed := true, recurses := true, plainKeys := false, apart := false, narrowed := true }
def SegmentsJoinsUptoSaid : Prop := segmentsJoinsUptoRow.holds Try.pinned (OpenSpec.upto segmentsJoinsSpec)

/-- 'pointcodelaw25.SegmentsActs', WHERE WHAT IT READS IS OF BULK AT MOST 1048576: true; the input reads as it did. -/
def segmentsActsUptoRow : OpenClaim := { program := "ytobebcfkddimkaa", sum := "884cf883c7228a508154a70bc1178ff33160ca46957eb89aa471afdb914d14e8", func := "pointcode/pointcodelaw25.SegmentsActs", spec := "segmentsActs", unfollowed := true, recurses := true, plainKeys := false, apart := false, narrowed := true }
def SegmentsActsUptoSaid : Prop := segmentsActsUptoRow.holds Try.pinned (OpenSpec.upto segmentsActsSpec)

/-- 'pointcodelaw25.SegmentsKnown', WHERE WHAT IT READS IS OF BULK AT MOST 1048576: true; the input reads as it did. -/
def segmentsKnownUptoRow : OpenClaim := { program := "ytobebcfkddimkaa", sum := "884cf883c7228a508154a70bc1178ff33160ca46957eb89aa471afdb914d14e8", func := "pointcode/pointcodelaw25.SegmentsKnown", spec := "segmentsKnown", unfollowed := true, recurses := true, plainKeys := false, apart := false, narrowed := true }
def SegmentsKnownUptoSaid : Prop := segmentsKnownUptoRow.holds Try.pinned (OpenSpec.upto segmentsKnownSpec)

/-- 'pointcodelaw25.SegmentsSplits', WHERE WHAT IT READS IS OF BULK AT MOST 1048576: true; the input reads as it did. -/
def segmentsSplitsUptoRow : OpenClaim := { program := "ytobebcfkddimkaa", sum := "884cf883c7228a508154a70bc1178ff33160ca46957eb89aa471afdb914d14e8", func := "pointcode/pointcodelaw25.SegmentsSplits", spec := "segmentsSplits", unfollowed := true, recurses := true, plainKeys := false, apart := false, narrowed := true }
def SegmentsSplitsUptoSaid : Prop := segmentsSplitsUptoRow.holds Try.pinned (OpenSpec.upto segmentsSplitsSpec)

/-- 'pointcodelaw25.SegmentsBytes', WHERE WHAT IT READS IS OF BULK AT MOST 1048576: true; the input reads as it did. -/
def segmentsBytesUptoRow : OpenClaim := { program := "ytobebcfkddimkaa", sum := "884cf883c7228a508154a70bc1178ff33160ca46957eb89aa471afdb914d14e8", func := "pointcode/pointcodelaw25.SegmentsBytes", spec := "segmentsBytes", unfollowed := true, recurses := true, plainKeys := false, apart := false, narrowed := true }
def SegmentsBytesUptoSaid : Prop := segmentsBytesUptoRow.holds Try.pinned (OpenSpec.upto segmentsBytesSpec)

end Rows
end Go.Proofs.Ytobebcfkddimkaa
