/-
  No cell of these rows narrows 'for every input' (looked for: loops, veiled, ifaces, maps, wideKeys, modest, calm, conditions, laid).
  DERIVED. THE GIVEN ROWS OF THIS SEAT. 6 by the template 'for every input the law returns true; each argument reads behind the call as it read before'; 0 by the template 'total and deterministic' (their statements: YtbkncpmgpogakaaTotals.lean).
  GIVEN WITH THE SEED: the statements are not yours to turn. If you find one false, say at which input.
  Laid BY PROGRAM, IN A SANDBOX (cutbox-rows.mjs): the forced cells as the released guide's own fill.sh prints them over the translation 4ab9e7035c3d7fb1… (all of the seat's roots in one cut). By AI agents, Wed Nov 11 2026. No macro, syntax, notation, axiom, sorry.
-/
import Derived.Test.YtbkncpmgpogakaaChecked
import GoSem.Claim
import GoSem.ClaimJoined
import GoSem.ClaimMapViews
import Derived.JoinedTies
import Derived.KernelRfl
namespace Go.Proofs.Ytbkncpmgpogakaa
/- THE CELL 'sum', in the pinned program and in every row, IS THE sha256 OF THE DUMP (.gsa) THAT YtbkncpmgpogakaaProg.lean LOADS. Nothing in Lean hashes anything: it is a label: what it is worth is what the hold of that sum in a sandbox is worth. -/
noncomputable def Try.pinned : Pinned := { name := "ytbkncpmgpogakaa", sum := "4ab9e7035c3d7fb155c78e0962269fc6a06678604ca248d94fba773d641c3678", checked := Try.checked }
namespace Rows
def none {H : Type} : Left H := { results := [], args := [] }

/-- 'pointcodelaw08.MonitorsLevel': WHATEVER THE INPUT: true; the input reads as it did. -/
def monitorsLevelSpec : ChangeSpec := { name := "monitorsLevel", fn := fun _ => fun
  | [d1, d2, d3] => { results := [.lit (.bool true)], args := [d1, d2, d3] }
  | _ => none }
def monitorsLevelRow : OpenClaim := { program := "ytbkncpmgpogakaa", sum := "4ab9e7035c3d7fb155c78e0962269fc6a06678604ca248d94fba773d641c3678", func := "pointcode/pointcodelaw08.MonitorsLevel", spec := "monitorsLevel", unfollowed := true, recurses := true, apart := false }
def MonitorsLevelSaid : Prop := monitorsLevelRow.holds Try.pinned (OpenSpec.ofChange monitorsLevelSpec)

/-- ITS FALSE NEIGHBOUR: 'it returns false'. Refute it at one input. -/
def monitorsLevelWrong : ChangeSpec := { name := "monitorsLevel", fn := fun _ => fun
  | [d1, d2, d3] => { results := [.lit (.bool false)], args := [d1, d2, d3] }
  | _ => none }
def MonitorsLevelWrongFalsely : Prop := monitorsLevelRow.holds Try.pinned (OpenSpec.ofChange monitorsLevelWrong)

/-- 'pointcodelaw08.MonitorsFirst': WHATEVER THE INPUT: true; the input reads as it did. -/
def monitorsFirstSpec : ChangeSpec := { name := "monitorsFirst", fn := fun _ => fun
  | [d1, d2] => { results := [.lit (.bool true)], args := [d1, d2] }
  | _ => none }
def monitorsFirstRow : OpenClaim := { program := "ytbkncpmgpogakaa", sum := "4ab9e7035c3d7fb155c78e0962269fc6a06678604ca248d94fba773d641c3678", func := "pointcode/pointcodelaw08.MonitorsFirst", spec := "monitorsFirst", unfollowed := true, recurses := true, apart := false }
def MonitorsFirstSaid : Prop := monitorsFirstRow.holds Try.pinned (OpenSpec.ofChange monitorsFirstSpec)

/-- ITS FALSE NEIGHBOUR: 'it returns false'. Refute it at one input. -/
def monitorsFirstWrong : ChangeSpec := { name := "monitorsFirst", fn := fun _ => fun
  | [d1, d2] => { results := [.lit (.bool false)], args := [d1, d2] }
  | _ => none }
def MonitorsFirstWrongFalsely : Prop := monitorsFirstRow.holds Try.pinned (OpenSpec.ofChange monitorsFirstWrong)

/-- 'pointcodelaw08.MonitorsMore': WHATEVER THE INPUT: true; the input reads as it did. -/
def monitorsMoreSpec : ChangeSpec := { name := "monitorsMore", fn := fun _ => fun
  | [d1, d2, d3] => { results := [.lit (.bool true)], args := [d1, d2, d3] }
  | _ => none }
def monitorsMoreRow : OpenClaim := { program := "ytbkncpmgpogakaa", sum := "4ab9e7035c3d7fb155c78e0962269fc6a06678604ca248d94fba773d641c3678", func := "pointcode/pointcodelaw08.MonitorsMore", spec := "monitorsMore", unfollowed := true, recurses := true, apart := false }
def MonitorsMoreSaid : Prop := monitorsMoreRow.holds Try.pinned (OpenSpec.ofChange monitorsMoreSpec)

/-- ITS FALSE NEIGHBOUR: 'it returns false'. Refute it at one input. -/
def monitorsMoreWrong : ChangeSpec := { name := "monitorsMore", fn := fun _ => fun
  | [d1, d2, d3] => { results := [.lit (.bool false)], args := [d1, d2, d3] }
  | _ => none }
def MonitorsMoreWrongFalsely : Prop := monitorsMoreRow.holds Try.pinned (OpenSpec.ofChange monitorsMoreWrong)

/-- 'pointcodelaw08.MonitorsRate': WHATEVER THE INPUT: true; the input reads as it did. -/
def monitorsRateSpec : ChangeSpec := { name := "monitorsRate", fn := fun _ => fun
  | [d1, d2] => { results := [.lit (.bool true)], args := [d1, d2] }
  | _ => none }
def monitorsRateRow : OpenClaim := { program := "ytbkncpmgpogakaa", sum := "4ab9e7035c3d7fb155c78e0962269fc6a06678604ca248d94fba773d641c3678", func := "pointcode/pointcodelaw08.MonitorsRate", spec := "monitorsRate", unfollowed := true, recurses := true, apart := false }
def MonitorsRateSaid : Prop := monitorsRateRow.holds Try.pinned (OpenSpec.ofChange monitorsRateSpec)

/-- ITS FALSE NEIGHBOUR: 'it returns false'. Refute it at one input. -/
def monitorsRateWrong : ChangeSpec := { name := "monitorsRate", fn := fun _ => fun
  | [d1, d2] => { results := [.lit (.bool false)], args := [d1, d2] }
  | _ => none }
def MonitorsRateWrongFalsely : Prop := monitorsRateRow.holds Try.pinned (OpenSpec.ofChange monitorsRateWrong)

/-- 'pointcodelaw08.MonitorsSpans': WHATEVER THE INPUT: true; the input reads as it did. -/
def monitorsSpansSpec : ChangeSpec := { name := "monitorsSpans", fn := fun _ => fun
  | [d1, d2, d3] => { results := [.lit (.bool true)], args := [d1, d2, d3] }
  | _ => none }
def monitorsSpansRow : OpenClaim := { program := "ytbkncpmgpogakaa", sum := "4ab9e7035c3d7fb155c78e0962269fc6a06678604ca248d94fba773d641c3678", func := "pointcode/pointcodelaw08.MonitorsSpans", spec := "monitorsSpans", unfollowed := true, recurses := true, apart := false }
def MonitorsSpansSaid : Prop := monitorsSpansRow.holds Try.pinned (OpenSpec.ofChange monitorsSpansSpec)

/-- ITS FALSE NEIGHBOUR: 'it returns false'. Refute it at one input. -/
def monitorsSpansWrong : ChangeSpec := { name := "monitorsSpans", fn := fun _ => fun
  | [d1, d2, d3] => { results := [.lit (.bool false)], args := [d1, d2, d3] }
  | _ => none }
def MonitorsSpansWrongFalsely : Prop := monitorsSpansRow.holds Try.pinned (OpenSpec.ofChange monitorsSpansWrong)

/-- 'pointcodelaw08.MonitorsErrors': WHATEVER THE INPUT: true; the input reads as it did. -/
def monitorsErrorsSpec : ChangeSpec := { name := "monitorsErrors", fn := fun _ => fun
  | [d] => { results := [.lit (.bool true)], args := [d] }
  | _ => none }
def monitorsErrorsRow : OpenClaim := { program := "ytbkncpmgpogakaa", sum := "4ab9e7035c3d7fb155c78e0962269fc6a06678604ca248d94fba773d641c3678", func := "pointcode/pointcodelaw08.MonitorsErrors", spec := "monitorsErrors", unfollowed := true, recurses := true, apart := false }
def MonitorsErrorsSaid : Prop := monitorsErrorsRow.holds Try.pinned (OpenSpec.ofChange monitorsErrorsSpec)

/-- ITS FALSE NEIGHBOUR: 'it returns false'. Refute it at one input. -/
def monitorsErrorsWrong : ChangeSpec := { name := "monitorsErrors", fn := fun _ => fun
  | [d] => { results := [.lit (.bool false)], args := [d] }
  | _ => none }
def MonitorsErrorsWrongFalsely : Prop := monitorsErrorsRow.holds Try.pinned (OpenSpec.ofChange monitorsErrorsWrong)

/- THE SECOND FORM. 'bulk': how many values and letters a reading holds, each counted each time it is reached (what is shared counts as often as it is met; a slice's spare places count too). A statement '..UptoSaid' is the law's where the arguments, and the package variables that the reading takes, are together of bulk at most 1048576: NARROWER than '..Said'. Prove '..Said' where nothing that the law and all that it calls make is longer than what came in: it says more and counts as full. Else prove '..UptoSaid'. A law counts once. -/
mutual
def uptoBulk {H : Type} : DataW H → Nat
  | .lit (.string bytes) => bytes.length + 1
  | .lit _ => 1
  | .nil => 1
  | .ptr d => uptoBulk d + 1
  | .slice elems spare => uptoBulkAll elems + uptoBulkAll spare + 1
  | .agg parts => uptoBulkAll parts + 1
  | .iface _ d => uptoBulk d + 1
  | .map entries => uptoBulkEntries entries + 1
  | .held _ => 1
def uptoBulkAll {H : Type} : List (DataW H) → Nat
  | [] => 0
  | d :: r => uptoBulk d + uptoBulkAll r
def uptoBulkEntries {H : Type} : List (Lit × DataW H) → Nat
  | [] => 0
  | x :: r => uptoBulkEntry x + uptoBulkEntries r
def uptoBulkEntry {H : Type} : Lit × DataW H → Nat
  | (.string bytes, d) => bytes.length + uptoBulk d + 1
  | (_, d) => uptoBulk d + 1
 end
def uptoSmall : (H : Type) → List (DataW H) → Bool := fun _ ds => decide (uptoBulkAll ds ≤ 1048576)
def OpenSpec.upto (s : _root_.Go.ChangeSpec) : _root_.Go.OpenSpec := { _root_.Go.OpenSpec.ofChange s with cond := some uptoSmall }

/-- 'pointcodelaw08.MonitorsLevel', WHERE WHAT IT READS IS OF BULK AT MOST 1048576: true; the input reads as it did. -/
def monitorsLevelUptoRow : OpenClaim := { program := "ytbkncpmgpogakaa", sum := "4ab9e7035c3d7fb155c78e0962269fc6a06678604ca248d94fba773d641c3678", func := "pointcode/pointcodelaw08.MonitorsLevel", spec := "monitorsLevel", unfollowed := true, recurses := true, apart := false, narrowed := true }
def MonitorsLevelUptoSaid : Prop := monitorsLevelUptoRow.holds Try.pinned (OpenSpec.upto monitorsLevelSpec)

/-- 'pointcodelaw08.MonitorsFirst', WHERE WHAT IT READS IS OF BULK AT MOST 1048576: true; the input reads as it did. -/
def monitorsFirstUptoRow : OpenClaim := { program := "ytbkncpmgpogakaa", sum := "4ab9e7035c3d7fb155c78e0962269fc6a06678604ca248d94fba773d641c3678", func := "pointcode/pointcodelaw08.MonitorsFirst", spec := "monitorsFirst", unfollowed := true, recurses := true, apart := false, narrowed := true }
def MonitorsFirstUptoSaid : Prop := monitorsFirstUptoRow.holds Try.pinned (OpenSpec.upto monitorsFirstSpec)

/-- 'pointcodelaw08.MonitorsMore', WHERE WHAT IT READS IS OF BULK AT MOST 1048576: true; the input reads as it did. -/
def monitorsMoreUptoRow : OpenClaim := { program := "ytbkncpmgpogakaa", sum := "4ab9e7035c3d7fb155c78e0962269fc6a06678604ca248d94fba773d641c3678", func := "pointcode/pointcodelaw08.MonitorsMore", spec := "monitorsMore", unfollowed := true, recurses := true, apart := false, narrowed := true }
def MonitorsMoreUptoSaid : Prop := monitorsMoreUptoRow.holds Try.pinned (OpenSpec.upto monitorsMoreSpec)

/-- 'pointcodelaw08.MonitorsRate', WHERE WHAT IT READS IS OF BULK AT MOST 1048576: true; the input reads as it did. -/
def monitorsRateUptoRow : OpenClaim := { program := "ytbkncpmgpogakaa", sum := "4ab9e7035c3d7fb155c78e0962269fc6a06678604ca248d94fba773d641c3678", func := "pointcode/pointcodelaw08.MonitorsRate", spec := "monitorsRate", unfollowed := true, recurses := true, apart := false, narrowed := true }
def MonitorsRateUptoSaid : Prop := monitorsRateUptoRow.holds Try.pinned (OpenSpec.upto monitorsRateSpec)

/-- 'pointcodelaw08.MonitorsSpans', WHERE WHAT IT READS IS OF BULK AT MOST 1048576: true; the input reads as it did. -/
def monitorsSpansUptoRow : OpenClaim := { program := "ytbkncpmgpogakaa", sum := "4ab9e7035c3d7fb155c78e0962269fc6a06678604ca248d94fba773d641c3678", func := "pointcode/pointcodelaw08.MonitorsSpans", spec := "monitorsSpans", unfollowed := true, recurses := true, apart := false, narrowed := true }
def MonitorsSpansUptoSaid : Prop := monitorsSpansUptoRow.holds Try.pinned (OpenSpec.upto monitorsSpansSpec)

/-- 'pointcodelaw08.MonitorsErrors', WHERE WHAT IT READS IS OF BULK AT MOST 1048576: true; the input reads as it did. -/
def monitorsErrorsUptoRow : OpenClaim := { program := "ytbkncpmgpogakaa", sum := "4ab9e7035c3d7fb155c78e0962269fc6a06678604ca248d94fba773d641c3678", func := "pointcode/pointcodelaw08.MonitorsErrors", spec := "monitorsErrors", unfollowed := true, recurses := true, apart := false, narrowed := true }
def MonitorsErrorsUptoSaid : Prop := monitorsErrorsUptoRow.holds Try.pinned (OpenSpec.upto monitorsErrorsSpec)

end Rows
end Go.Proofs.Ytbkncpmgpogakaa
