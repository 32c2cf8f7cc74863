/-
  DERIVED. GIVEN WITH THE SEED: THE CARDS: each row of YtnjihofdmncckaaDoorRows.lean that lists a variable, with what it lists TIED to the program's text (the seventh form; the later family's looks); each row that meets fmt, with fmt's text TOLD by the authors' own Lean function (tested against real Go, not proved from fmt's source: count such statements apart). THE CARD IS WHAT COUNTS. Prove the row's statement (the work); the ties are given (YtnjihofdmncckaaDoorTie.lean); close each card by the builder's one call (the guide's Derived/Test/ToyasCard.lean, 'card_holds'). Laid BY PROGRAM, IN A SANDBOX (cutbox-door.mjs). By AI agents, Wed Nov 11 2026. No macro, syntax, notation, axiom, sorry.
-/
import Derived.Test.YtnjihofdmncckaaDoorRows
import GoSem.ClaimSeven
namespace Go.Proofs.YtnjihofdmncckaaDoor
namespace Rows

/-- THE TIED CARD OF 'pointcodelaw35.CallsCode'. -/
def callsCodeCard : Claim7 := { stood := { row := callsCodeRow, standIns := [], harness := (true, "bc71bcf69a5cd2ebad27dc52e0640749fda1352aa6b5138c36bbcaf63a965a99"), looks := false }, kinds := [], alts := [], laidByText := true, laidKinds := [.data, .pinned], laidTests := true, laidLooks := .later }
def CallsCodeCardSaid : Prop := Claim7.holds Tryd.pinned (.plain (OpenSpec.ofChange callsCodeSpec)) callsCodeCard

/-- THE TIED CARD OF 'pointcodelaw35.CallsTimers'. -/
def callsTimersCard : Claim7 := { stood := { row := callsTimersRow, standIns := [], harness := (true, "bc71bcf69a5cd2ebad27dc52e0640749fda1352aa6b5138c36bbcaf63a965a99"), looks := false }, kinds := [], alts := [], laidByText := true, laidKinds := [.data, .pinned], laidTests := true, laidLooks := .later }
def CallsTimersCardSaid : Prop := Claim7.holds Tryd.pinned (.plain (OpenSpec.ofChange callsTimersSpec)) callsTimersCard

/-- THE SECOND FORM's CARD OF 'pointcodelaw35.CallsCode'. -/
def callsCodeUptoCard : Claim7 := { stood := { row := callsCodeUptoRow, standIns := [], harness := (true, "bc71bcf69a5cd2ebad27dc52e0640749fda1352aa6b5138c36bbcaf63a965a99"), looks := false }, kinds := [], alts := [], laidByText := true, laidKinds := [.data, .pinned], laidTests := true, laidLooks := .later }
def CallsCodeUptoCardSaid : Prop := Claim7.holds Tryd.pinned (.plain (OpenSpec.upto callsCodeSpec)) callsCodeUptoCard

/-- THE SECOND FORM's CARD OF 'pointcodelaw35.CallsTimers'. -/
def callsTimersUptoCard : Claim7 := { stood := { row := callsTimersUptoRow, standIns := [], harness := (true, "bc71bcf69a5cd2ebad27dc52e0640749fda1352aa6b5138c36bbcaf63a965a99"), looks := false }, kinds := [], alts := [], laidByText := true, laidKinds := [.data, .pinned], laidTests := true, laidLooks := .later }
def CallsTimersUptoCardSaid : Prop := Claim7.holds Tryd.pinned (.plain (OpenSpec.upto callsTimersSpec)) callsTimersUptoCard
end Rows
end Go.Proofs.YtnjihofdmncckaaDoor
