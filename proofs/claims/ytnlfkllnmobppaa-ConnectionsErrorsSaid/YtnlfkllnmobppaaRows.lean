/-
  No cell of these rows narrows 'for every input' (looked for: loops, veiled, ifaces, maps, wideKeys, modest, calm, conditions, laid).
  DERIVED. THE GIVEN ROWS OF THIS SEAT. 6 by the template 'for every input the law returns true; each argument reads behind the call as it read before'; 0 by the template 'total and deterministic' (their statements: YtnlfkllnmobppaaTotals.lean).
  GIVEN WITH THE SEED: the statements are not yours to turn. If you find one false, say at which input.
  Laid BY PROGRAM, IN A SANDBOX (cutbox-rows.mjs): the forced cells as the released guide's own fill.sh prints them over the translation b8d80bf07c16e636… (all of the seat's roots in one cut). By AI agents, Wed Nov 11 2026. No macro, syntax, notation, axiom, sorry.
-/
import Derived.Test.YtnlfkllnmobppaaChecked
import GoSem.Claim
import GoSem.ClaimJoined
import GoSem.ClaimMapViews
import Derived.JoinedTies
import Derived.KernelRfl
namespace Go.Proofs.Ytnlfkllnmobppaa
/- THE CELL 'sum', in the pinned program and in every row, IS THE sha256 OF THE DUMP (.gsa) THAT YtnlfkllnmobppaaProg.lean LOADS. Nothing in Lean hashes anything: it is a label: what it is worth is what the hold of that sum in a sandbox is worth. -/
noncomputable def Try.pinned : Pinned := { name := "ytnlfkllnmobppaa", sum := "b8d80bf07c16e6367dac5e606d3eb50321ebde507b234d8eaee5d2db865eb69e", checked := Try.checked }
namespace Rows
def none {H : Type} : Left H := { results := [], args := [] }

/-- 'pointcodelaw27.ConnectionsBytes': WHATEVER THE INPUT: true; the input reads as it did. -/
def connectionsBytesSpec : ChangeSpec := { name := "connectionsBytes", fn := fun _ => fun
  | [d1, d2] => { results := [.lit (.bool true)], args := [d1, d2] }
  | _ => none }
def connectionsBytesRow : OpenClaim := { program := "ytnlfkllnmobppaa", sum := "b8d80bf07c16e6367dac5e606d3eb50321ebde507b234d8eaee5d2db865eb69e", func := "pointcode/pointcodelaw27.ConnectionsBytes", spec := "connectionsBytes", unfollowed := true, recurses := true, apart := false }
def ConnectionsBytesSaid : Prop := connectionsBytesRow.holds Try.pinned (OpenSpec.ofChange connectionsBytesSpec)

/-- ITS FALSE NEIGHBOUR: 'it returns false'. Refute it at one input. -/
def connectionsBytesWrong : ChangeSpec := { name := "connectionsBytes", fn := fun _ => fun
  | [d1, d2] => { results := [.lit (.bool false)], args := [d1, d2] }
  | _ => none }
def ConnectionsBytesWrongFalsely : Prop := connectionsBytesRow.holds Try.pinned (OpenSpec.ofChange connectionsBytesWrong)

/-- 'pointcodelaw27.ConnectionsFlows': WHATEVER THE INPUT: true; the input reads as it did. -/
def connectionsFlowsSpec : ChangeSpec := { name := "connectionsFlows", fn := fun _ => fun
  | [d1, d2] => { results := [.lit (.bool true)], args := [d1, d2] }
  | _ => none }
def connectionsFlowsRow : OpenClaim := { program := "ytnlfkllnmobppaa", sum := "b8d80bf07c16e6367dac5e606d3eb50321ebde507b234d8eaee5d2db865eb69e", func := "pointcode/pointcodelaw27.ConnectionsFlows", spec := "connectionsFlows", unfollowed := true, recurses := true, apart := false }
def ConnectionsFlowsSaid : Prop := connectionsFlowsRow.holds Try.pinned (OpenSpec.ofChange connectionsFlowsSpec)

/-- ITS FALSE NEIGHBOUR: 'it returns false'. Refute it at one input. -/
def connectionsFlowsWrong : ChangeSpec := { name := "connectionsFlows", fn := fun _ => fun
  | [d1, d2] => { results := [.lit (.bool false)], args := [d1, d2] }
  | _ => none }
def ConnectionsFlowsWrongFalsely : Prop := connectionsFlowsRow.holds Try.pinned (OpenSpec.ofChange connectionsFlowsWrong)

/-- 'pointcodelaw27.ConnectionsTimes': WHATEVER THE INPUT: true; the input reads as it did. -/
def connectionsTimesSpec : ChangeSpec := { name := "connectionsTimes", fn := fun _ => fun
  | [d] => { results := [.lit (.bool true)], args := [d] }
  | _ => none }
def connectionsTimesRow : OpenClaim := { program := "ytnlfkllnmobppaa", sum := "b8d80bf07c16e6367dac5e606d3eb50321ebde507b234d8eaee5d2db865eb69e", func := "pointcode/pointcodelaw27.ConnectionsTimes", spec := "connectionsTimes", unfollowed := true, recurses := true, apart := false }
def ConnectionsTimesSaid : Prop := connectionsTimesRow.holds Try.pinned (OpenSpec.ofChange connectionsTimesSpec)

/-- ITS FALSE NEIGHBOUR: 'it returns false'. Refute it at one input. -/
def connectionsTimesWrong : ChangeSpec := { name := "connectionsTimes", fn := fun _ => fun
  | [d] => { results := [.lit (.bool false)], args := [d] }
  | _ => none }
def ConnectionsTimesWrongFalsely : Prop := connectionsTimesRow.holds Try.pinned (OpenSpec.ofChange connectionsTimesWrong)

/-- 'pointcodelaw27.ConnectionsPairs': WHATEVER THE INPUT: true; the input reads as it did. -/
def connectionsPairsSpec : ChangeSpec := { name := "connectionsPairs", fn := fun _ => fun
  | [d1, d2] => { results := [.lit (.bool true)], args := [d1, d2] }
  | _ => none }
def connectionsPairsRow : OpenClaim := { program := "ytnlfkllnmobppaa", sum := "b8d80bf07c16e6367dac5e606d3eb50321ebde507b234d8eaee5d2db865eb69e", func := "pointcode/pointcodelaw27.ConnectionsPairs", spec := "connectionsPairs", unfollowed := true, recurses := true, apart := false }
def ConnectionsPairsSaid : Prop := connectionsPairsRow.holds Try.pinned (OpenSpec.ofChange connectionsPairsSpec)

/-- ITS FALSE NEIGHBOUR: 'it returns false'. Refute it at one input. -/
def connectionsPairsWrong : ChangeSpec := { name := "connectionsPairs", fn := fun _ => fun
  | [d1, d2] => { results := [.lit (.bool false)], args := [d1, d2] }
  | _ => none }
def ConnectionsPairsWrongFalsely : Prop := connectionsPairsRow.holds Try.pinned (OpenSpec.ofChange connectionsPairsWrong)

/-- 'pointcodelaw27.ConnectionsErrors': WHATEVER THE INPUT: true; the input reads as it did. -/
def connectionsErrorsSpec : ChangeSpec := { name := "connectionsErrors", fn := fun _ => fun
  | [d1, d2, d3] => { results := [.lit (.bool true)], args := [d1, d2, d3] }
  | _ => none }
def connectionsErrorsRow : OpenClaim := { program := "ytnlfkllnmobppaa", sum := "b8d80bf07c16e6367dac5e606d3eb50321ebde507b234d8eaee5d2db865eb69e", func := "pointcode/pointcodelaw27.ConnectionsErrors", spec := "connectionsErrors", unfollowed := true, recurses := true, apart := false }
def ConnectionsErrorsSaid : Prop := connectionsErrorsRow.holds Try.pinned (OpenSpec.ofChange connectionsErrorsSpec)

/-- ITS FALSE NEIGHBOUR: 'it returns false'. Refute it at one input. -/
def connectionsErrorsWrong : ChangeSpec := { name := "connectionsErrors", fn := fun _ => fun
  | [d1, d2, d3] => { results := [.lit (.bool false)], args := [d1, d2, d3] }
  | _ => none }
def ConnectionsErrorsWrongFalsely : Prop := connectionsErrorsRow.holds Try.pinned (OpenSpec.ofChange connectionsErrorsWrong)

/-- 'pointcodelaw27.ConnectionsKnown': WHATEVER THE INPUT: true; the input reads as it did. -/
def connectionsKnownSpec : ChangeSpec := { name := "connectionsKnown", fn := fun _ => fun
  | [] => { results := [.lit (.bool true)], args := [] }
  | _ => none }
def connectionsKnownRow : OpenClaim := { program := "ytnlfkllnmobppaa", sum := "b8d80bf07c16e6367dac5e606d3eb50321ebde507b234d8eaee5d2db865eb69e", func := "pointcode/pointcodelaw27.ConnectionsKnown", spec := "connectionsKnown", unfollowed := true, recurses := true, apart := false }
def ConnectionsKnownSaid : Prop := connectionsKnownRow.holds Try.pinned (OpenSpec.ofChange connectionsKnownSpec)

/-- ITS FALSE NEIGHBOUR: 'it returns false'. Refute it at one input. -/
def connectionsKnownWrong : ChangeSpec := { name := "connectionsKnown", fn := fun _ => fun
  | [] => { results := [.lit (.bool false)], args := [] }
  | _ => none }
def ConnectionsKnownWrongFalsely : Prop := connectionsKnownRow.holds Try.pinned (OpenSpec.ofChange connectionsKnownWrong)

/- THE SECOND FORM. 'bulk': how many values and letters a reading holds, each counted each time it is reached (what is shared counts as often as it is met; a slice's spare places count too). A statement '..UptoSaid' is the law's where the arguments, and the package variables that the reading takes, are together of bulk at most 1048576: NARROWER than '..Said'. Prove '..Said' where nothing that the law and all that it calls make is longer than what came in: it says more and counts as full. Else prove '..UptoSaid'. A law counts once. -/
mutual
def uptoBulk {H : Type} : DataW H → Nat
  | .lit (.string bytes) => bytes.length + 1
  | .lit _ => 1
  | .nil => 1
  | .ptr d => uptoBulk d + 1
  | .slice elems spare => uptoBulkAll elems + uptoBulkAll spare + 1
  | .agg parts => uptoBulkAll parts + 1
  | .iface _ d => uptoBulk d + 1
  | .map entries => uptoBulkEntries entries + 1
  | .held _ => 1
def uptoBulkAll {H : Type} : List (DataW H) → Nat
  | [] => 0
  | d :: r => uptoBulk d + uptoBulkAll r
def uptoBulkEntries {H : Type} : List (Lit × DataW H) → Nat
  | [] => 0
  | x :: r => uptoBulkEntry x + uptoBulkEntries r
def uptoBulkEntry {H : Type} : Lit × DataW H → Nat
  | (.string bytes, d) => bytes.length + uptoBulk d + 1
  | (_, d) => uptoBulk d + 1
 end
def uptoSmall : (H : Type) → List (DataW H) → Bool := fun _ ds => decide (uptoBulkAll ds ≤ 1048576)
def OpenSpec.upto (s : _root_.Go.ChangeSpec) : _root_.Go.OpenSpec := { _root_.Go.OpenSpec.ofChange s with cond := some uptoSmall }

/-- 'pointcodelaw27.ConnectionsBytes', WHERE WHAT IT READS IS OF BULK AT MOST 1048576: true; the input reads as it did. -/
def connectionsBytesUptoRow : OpenClaim := { program := "ytnlfkllnmobppaa", sum := "b8d80bf07c16e6367dac5e606d3eb50321ebde507b234d8eaee5d2db865eb69e", func := "pointcode/pointcodelaw27.ConnectionsBytes", spec := "connectionsBytes", unfollowed := true, recurses := true, apart := false, narrowed := true }
def ConnectionsBytesUptoSaid : Prop := connectionsBytesUptoRow.holds Try.pinned (OpenSpec.upto connectionsBytesSpec)

/-- 'pointcodelaw27.ConnectionsFlows', WHERE WHAT IT READS IS OF BULK AT MOST 1048576: true; the input reads as it did. -/
def connectionsFlowsUptoRow : OpenClaim := { program := "ytnlfkllnmobppaa", sum := "b8d80bf07c16e6367dac5e606d3eb50321ebde507b234d8eaee5d2db865eb69e", func := "pointcode/pointcodelaw27.ConnectionsFlows", spec := "connectionsFlows", unfollowed := true, recurses := true, apart := false, narrowed := true }
def ConnectionsFlowsUptoSaid : Prop := connectionsFlowsUptoRow.holds Try.pinned (OpenSpec.upto connectionsFlowsSpec)

/-- 'pointcodelaw27.ConnectionsTimes', WHERE WHAT IT READS IS OF BULK AT MOST 1048576: true; the input reads as it did. -/
def connectionsTimesUptoRow : OpenClaim := { program := "ytnlfkllnmobppaa", sum := "b8d80bf07c16e6367dac5e606d3eb50321ebde507b234d8eaee5d2db865eb69e", func := "pointcode/pointcodelaw27.ConnectionsTimes", spec := "connectionsTimes", unfollowed := true, recurses := true, apart := false, narrowed := true }
def ConnectionsTimesUptoSaid : Prop := connectionsTimesUptoRow.holds Try.pinned (OpenSpec.upto connectionsTimesSpec)

/-- 'pointcodelaw27.ConnectionsPairs', WHERE WHAT IT READS IS OF BULK AT MOST 1048576: true; the input reads as it did. -/
def connectionsPairsUptoRow : OpenClaim := { program := "ytnlfkllnmobppaa", sum := "b8d80bf07c16e6367dac5e606d3eb50321ebde507b234d8eaee5d2db865eb69e", func := "pointcode/pointcodelaw27.ConnectionsPairs", spec := "connectionsPairs", unfollowed := true, recurses := true, apart := false, narrowed := true }
def ConnectionsPairsUptoSaid : Prop := connectionsPairsUptoRow.holds Try.pinned (OpenSpec.upto connectionsPairsSpec)

/-- 'pointcodelaw27.ConnectionsErrors', WHERE WHAT IT READS IS OF BULK AT MOST 1048576: true; the input reads as it did. -/
def connectionsErrorsUptoRow : OpenClaim := { program := "ytnlfkllnmobppaa", sum := "b8d80bf07c16e6367dac5e606d3eb50321ebde507b234d8eaee5d2db865eb69e", func := "pointcode/pointcodelaw27.ConnectionsErrors", spec := "connectionsErrors", unfollowed := true, recurses := true, apart := false, narrowed := true }
def ConnectionsErrorsUptoSaid : Prop := connectionsErrorsUptoRow.holds Try.pinned (OpenSpec.upto connectionsErrorsSpec)

/-- 'pointcodelaw27.ConnectionsKnown', WHERE WHAT IT READS IS OF BULK AT MOST 1048576: true; the input reads as it did. -/
def connectionsKnownUptoRow : OpenClaim := { program := "ytnlfkllnmobppaa", sum := "b8d80bf07c16e6367dac5e606d3eb50321ebde507b234d8eaee5d2db865eb69e", func := "pointcode/pointcodelaw27.ConnectionsKnown", spec := "connectionsKnown", unfollowed := true, recurses := true, apart := false, narrowed := true }
def ConnectionsKnownUptoSaid : Prop := connectionsKnownUptoRow.holds Try.pinned (OpenSpec.upto connectionsKnownSpec)

end Rows
end Go.Proofs.Ytnlfkllnmobppaa
