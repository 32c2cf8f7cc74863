/-
  No cell of these rows narrows 'for every input' (looked for: loops, veiled, ifaces, maps, wideKeys, modest, calm, conditions, laid).
  DERIVED. THE GIVEN ROWS OF THIS SEAT. 6 by the template 'for every input the law returns true; each argument reads behind the call as it read before'; 0 by the template 'total and deterministic' (their statements: YtkldpkemnmmbgaaTotals.lean).
  GIVEN WITH THE SEED: the statements are not yours to turn. If you find one false, say at which input.
  Laid BY PROGRAM, IN A SANDBOX (cutbox-rows.mjs): the forced cells as the released guide's own fill.sh prints them over the translation be43e37ad4fb3fc4… (all of the seat's roots in one cut). By AI agents, Wed Nov 11 2026. No macro, syntax, notation, axiom, sorry.
-/
import Derived.Test.YtkldpkemnmmbgaaChecked
import GoSem.Claim
import GoSem.ClaimJoined
import GoSem.ClaimMapViews
import Derived.JoinedTies
import Derived.KernelRfl
namespace Go.Proofs.Ytkldpkemnmmbgaa
/- THE CELL 'sum', in the pinned program and in every row, IS THE sha256 OF THE DUMP (.gsa) THAT YtkldpkemnmmbgaaProg.lean LOADS. Nothing in Lean hashes anything: it is a label: what it is worth is what the hold of that sum in a sandbox is worth. -/
noncomputable def Try.pinned : Pinned := { name := "ytkldpkemnmmbgaa", sum := "be43e37ad4fb3fc4bd2fab08e59a582a084a45c6f62ab7eaa9985945b6f9b8cb", checked := Try.checked }
namespace Rows
def none {H : Type} : Left H := { results := [], args := [] }

/-- 'pointcodelaw09.AlignmentsReady': WHATEVER THE INPUT: true; the input reads as it did. -/
def alignmentsReadySpec : ChangeSpec := { name := "alignmentsReady", fn := fun _ => fun
  | [d1, d2, d3] => { results := [.lit (.bool true)], args := [d1, d2, d3] }
  | _ => none }
def alignmentsReadyRow : OpenClaim := { program := "ytkldpkemnmmbgaa", sum := "be43e37ad4fb3fc4bd2fab08e59a582a084a45c6f62ab7eaa9985945b6f9b8cb", func := "pointcode/pointcodelaw09.AlignmentsReady", spec := "alignmentsReady", unfollowed := true, recurses := true, apart := false }
def AlignmentsReadySaid : Prop := alignmentsReadyRow.holds Try.pinned (OpenSpec.ofChange alignmentsReadySpec)

/-- ITS FALSE NEIGHBOUR: 'it returns false'. Refute it at one input. -/
def alignmentsReadyWrong : ChangeSpec := { name := "alignmentsReady", fn := fun _ => fun
  | [d1, d2, d3] => { results := [.lit (.bool false)], args := [d1, d2, d3] }
  | _ => none }
def AlignmentsReadyWrongFalsely : Prop := alignmentsReadyRow.holds Try.pinned (OpenSpec.ofChange alignmentsReadyWrong)

/-- 'pointcodelaw09.AlignmentsProving': WHATEVER THE INPUT: true; the input reads as it did. -/
def alignmentsProvingSpec : ChangeSpec := { name := "alignmentsProving", fn := fun _ => fun
  | [d1, d2, d3] => { results := [.lit (.bool true)], args := [d1, d2, d3] }
  | _ => none }
def alignmentsProvingRow : OpenClaim := { program := "ytkldpkemnmmbgaa", sum := "be43e37ad4fb3fc4bd2fab08e59a582a084a45c6f62ab7eaa9985945b6f9b8cb", func := "pointcode/pointcodelaw09.AlignmentsProving", spec := "alignmentsProving", unfollowed := true, recurses := true, apart := false }
def AlignmentsProvingSaid : Prop := alignmentsProvingRow.holds Try.pinned (OpenSpec.ofChange alignmentsProvingSpec)

/-- ITS FALSE NEIGHBOUR: 'it returns false'. Refute it at one input. -/
def alignmentsProvingWrong : ChangeSpec := { name := "alignmentsProving", fn := fun _ => fun
  | [d1, d2, d3] => { results := [.lit (.bool false)], args := [d1, d2, d3] }
  | _ => none }
def AlignmentsProvingWrongFalsely : Prop := alignmentsProvingRow.holds Try.pinned (OpenSpec.ofChange alignmentsProvingWrong)

/-- 'pointcodelaw09.AlignmentsScript': WHATEVER THE INPUT: true; the input reads as it did. -/
def alignmentsScriptSpec : ChangeSpec := { name := "alignmentsScript", fn := fun _ => fun
  | [d1, d2] => { results := [.lit (.bool true)], args := [d1, d2] }
  | _ => none }
def alignmentsScriptRow : OpenClaim := { program := "ytkldpkemnmmbgaa", sum := "be43e37ad4fb3fc4bd2fab08e59a582a084a45c6f62ab7eaa9985945b6f9b8cb", func := "pointcode/pointcodelaw09.AlignmentsScript", spec := "alignmentsScript", unfollowed := true, recurses := true, apart := false }
def AlignmentsScriptSaid : Prop := alignmentsScriptRow.holds Try.pinned (OpenSpec.ofChange alignmentsScriptSpec)

/-- ITS FALSE NEIGHBOUR: 'it returns false'. Refute it at one input. -/
def alignmentsScriptWrong : ChangeSpec := { name := "alignmentsScript", fn := fun _ => fun
  | [d1, d2] => { results := [.lit (.bool false)], args := [d1, d2] }
  | _ => none }
def AlignmentsScriptWrongFalsely : Prop := alignmentsScriptRow.holds Try.pinned (OpenSpec.ofChange alignmentsScriptWrong)

/-- 'pointcodelaw09.AlignmentsAlone': WHATEVER THE INPUT: true; the input reads as it did. -/
def alignmentsAloneSpec : ChangeSpec := { name := "alignmentsAlone", fn := fun _ => fun
  | [d1, d2] => { results := [.lit (.bool true)], args := [d1, d2] }
  | _ => none }
def alignmentsAloneRow : OpenClaim := { program := "ytkldpkemnmmbgaa", sum := "be43e37ad4fb3fc4bd2fab08e59a582a084a45c6f62ab7eaa9985945b6f9b8cb", func := "pointcode/pointcodelaw09.AlignmentsAlone", spec := "alignmentsAlone", unfollowed := true, recurses := true, apart := false }
def AlignmentsAloneSaid : Prop := alignmentsAloneRow.holds Try.pinned (OpenSpec.ofChange alignmentsAloneSpec)

/-- ITS FALSE NEIGHBOUR: 'it returns false'. Refute it at one input. -/
def alignmentsAloneWrong : ChangeSpec := { name := "alignmentsAlone", fn := fun _ => fun
  | [d1, d2] => { results := [.lit (.bool false)], args := [d1, d2] }
  | _ => none }
def AlignmentsAloneWrongFalsely : Prop := alignmentsAloneRow.holds Try.pinned (OpenSpec.ofChange alignmentsAloneWrong)

/-- 'pointcodelaw09.AlignmentsFinal': WHATEVER THE INPUT: true; the input reads as it did. -/
def alignmentsFinalSpec : ChangeSpec := { name := "alignmentsFinal", fn := fun _ => fun
  | [d1, d2, d3] => { results := [.lit (.bool true)], args := [d1, d2, d3] }
  | _ => none }
def alignmentsFinalRow : OpenClaim := { program := "ytkldpkemnmmbgaa", sum := "be43e37ad4fb3fc4bd2fab08e59a582a084a45c6f62ab7eaa9985945b6f9b8cb", func := "pointcode/pointcodelaw09.AlignmentsFinal", spec := "alignmentsFinal", unfollowed := true, recurses := true, apart := false }
def AlignmentsFinalSaid : Prop := alignmentsFinalRow.holds Try.pinned (OpenSpec.ofChange alignmentsFinalSpec)

/-- ITS FALSE NEIGHBOUR: 'it returns false'. Refute it at one input. -/
def alignmentsFinalWrong : ChangeSpec := { name := "alignmentsFinal", fn := fun _ => fun
  | [d1, d2, d3] => { results := [.lit (.bool false)], args := [d1, d2, d3] }
  | _ => none }
def AlignmentsFinalWrongFalsely : Prop := alignmentsFinalRow.holds Try.pinned (OpenSpec.ofChange alignmentsFinalWrong)

/-- 'pointcodelaw09.AlignmentsErrors': WHATEVER THE INPUT: true; the input reads as it did. -/
def alignmentsErrorsSpec : ChangeSpec := { name := "alignmentsErrors", fn := fun _ => fun
  | [d1, d2] => { results := [.lit (.bool true)], args := [d1, d2] }
  | _ => none }
def alignmentsErrorsRow : OpenClaim := { program := "ytkldpkemnmmbgaa", sum := "be43e37ad4fb3fc4bd2fab08e59a582a084a45c6f62ab7eaa9985945b6f9b8cb", func := "pointcode/pointcodelaw09.AlignmentsErrors", spec := "alignmentsErrors", unfollowed := true, recurses := true, apart := false }
def AlignmentsErrorsSaid : Prop := alignmentsErrorsRow.holds Try.pinned (OpenSpec.ofChange alignmentsErrorsSpec)

/-- ITS FALSE NEIGHBOUR: 'it returns false'. Refute it at one input. -/
def alignmentsErrorsWrong : ChangeSpec := { name := "alignmentsErrors", fn := fun _ => fun
  | [d1, d2] => { results := [.lit (.bool false)], args := [d1, d2] }
  | _ => none }
def AlignmentsErrorsWrongFalsely : Prop := alignmentsErrorsRow.holds Try.pinned (OpenSpec.ofChange alignmentsErrorsWrong)

/- THE SECOND FORM. 'bulk': how many values and letters a reading holds, each counted each time it is reached (what is shared counts as often as it is met; a slice's spare places count too). A statement '..UptoSaid' is the law's where the arguments, and the package variables that the reading takes, are together of bulk at most 1048576: NARROWER than '..Said'. Prove '..Said' where nothing that the law and all that it calls make is longer than what came in: it says more and counts as full. Else prove '..UptoSaid'. A law counts once. -/
mutual
def uptoBulk {H : Type} : DataW H → Nat
  | .lit (.string bytes) => bytes.length + 1
  | .lit _ => 1
  | .nil => 1
  | .ptr d => uptoBulk d + 1
  | .slice elems spare => uptoBulkAll elems + uptoBulkAll spare + 1
  | .agg parts => uptoBulkAll parts + 1
  | .iface _ d => uptoBulk d + 1
  | .map entries => uptoBulkEntries entries + 1
  | .held _ => 1
def uptoBulkAll {H : Type} : List (DataW H) → Nat
  | [] => 0
  | d :: r => uptoBulk d + uptoBulkAll r
def uptoBulkEntries {H : Type} : List (Lit × DataW H) → Nat
  | [] => 0
  | x :: r => uptoBulkEntry x + uptoBulkEntries r
def uptoBulkEntry {H : Type} : Lit × DataW H → Nat
  | (.string bytes, d) => bytes.length + uptoBulk d + 1
  | (_, d) => uptoBulk d + 1
 end
def uptoSmall : (H : Type) → List (DataW H) → Bool := fun _ ds => decide (uptoBulkAll ds ≤ 1048576)
def OpenSpec.upto (s : _root_.Go.ChangeSpec) : _root_.Go.OpenSpec := { _root_.Go.OpenSpec.ofChange s with cond := some uptoSmall }

/-- 'pointcodelaw09.AlignmentsReady', WHERE WHAT IT READS IS OF BULK AT MOST 1048576: true; the input reads as it did. -/
def alignmentsReadyUptoRow : OpenClaim := { program := "ytkldpkemnmmbgaa", sum := "be43e37ad4fb3fc4bd2fab08e59a582a084a45c6f62ab7eaa9985945b6f9b8cb", func := "pointcode/pointcodelaw09.AlignmentsReady", spec := "alignmentsReady", unfollowed := true, recurses := true, apart := false, narrowed := true }
def AlignmentsReadyUptoSaid : Prop := alignmentsReadyUptoRow.holds Try.pinned (OpenSpec.upto alignmentsReadySpec)

/-- 'pointcodelaw09.AlignmentsProving', WHERE WHAT IT READS IS OF BULK AT MOST 1048576: true; the input reads as it did. -/
def alignmentsProvingUptoRow : OpenClaim := { program := "ytkldpkemnmmbgaa", sum := "be43e37ad4fb3fc4bd2fab08e59a582a084a45c6f62ab7eaa9985945b6f9b8cb", func := "pointcode/pointcodelaw09.AlignmentsProving", spec := "alignmentsProving", unfollowed := true, recurses := true, apart := false, narrowed := true }
def AlignmentsProvingUptoSaid : Prop := alignmentsProvingUptoRow.holds Try.pinned (OpenSpec.upto alignmentsProvingSpec)

/-- 'pointcodelaw09.AlignmentsScript', WHERE WHAT IT READS IS OF BULK AT MOST 1048576: true; the input reads as it did. -/
def alignmentsScriptUptoRow : OpenClaim := { program := "ytkldpkemnmmbgaa", sum := "be43e37ad4fb3fc4bd2fab08e59a582a084a45c6f62ab7eaa9985945b6f9b8cb", func := "pointcode/pointcodelaw09.AlignmentsScript", spec := "alignmentsScript", unfollowed := true, recurses := true, apart := false, narrowed := true }
def AlignmentsScriptUptoSaid : Prop := alignmentsScriptUptoRow.holds Try.pinned (OpenSpec.upto alignmentsScriptSpec)

/-- 'pointcodelaw09.AlignmentsAlone', WHERE WHAT IT READS IS OF BULK AT MOST 1048576: true; the input reads as it did. -/
def alignmentsAloneUptoRow : OpenClaim := { program := "ytkldpkemnmmbgaa", sum := "be43e37ad4fb3fc4bd2fab08e59a582a084a45c6f62ab7eaa9985945b6f9b8cb", func := "pointcode/pointcodelaw09.AlignmentsAlone", spec := "alignmentsAlone", unfollowed := true, recurses := true, apart := false, narrowed := true }
def AlignmentsAloneUptoSaid : Prop := alignmentsAloneUptoRow.holds Try.pinned (OpenSpec.upto alignmentsAloneSpec)

/-- 'pointcodelaw09.AlignmentsFinal', WHERE WHAT IT READS IS OF BULK AT MOST 1048576: true; the input reads as it did. -/
def alignmentsFinalUptoRow : OpenClaim := { program := "ytkldpkemnmmbgaa", sum := "be43e37ad4fb3fc4bd2fab08e59a582a084a45c6f62ab7eaa9985945b6f9b8cb", func := "pointcode/pointcodelaw09.AlignmentsFinal", spec := "alignmentsFinal", unfollowed := true, recurses := true, apart := false, narrowed := true }
def AlignmentsFinalUptoSaid : Prop := alignmentsFinalUptoRow.holds Try.pinned (OpenSpec.upto alignmentsFinalSpec)

/-- 'pointcodelaw09.AlignmentsErrors', WHERE WHAT IT READS IS OF BULK AT MOST 1048576: true; the input reads as it did. -/
def alignmentsErrorsUptoRow : OpenClaim := { program := "ytkldpkemnmmbgaa", sum := "be43e37ad4fb3fc4bd2fab08e59a582a084a45c6f62ab7eaa9985945b6f9b8cb", func := "pointcode/pointcodelaw09.AlignmentsErrors", spec := "alignmentsErrors", unfollowed := true, recurses := true, apart := false, narrowed := true }
def AlignmentsErrorsUptoSaid : Prop := alignmentsErrorsUptoRow.holds Try.pinned (OpenSpec.upto alignmentsErrorsSpec)

end Rows
end Go.Proofs.Ytkldpkemnmmbgaa
