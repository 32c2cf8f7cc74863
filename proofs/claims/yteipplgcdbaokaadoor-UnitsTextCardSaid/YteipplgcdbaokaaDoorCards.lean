/-
  DERIVED. GIVEN WITH THE SEED: THE CARDS: each row of YteipplgcdbaokaaDoorRows.lean that lists a variable, with what it lists TIED to the program's text (the seventh form; the later family's looks); each row that meets fmt, with fmt's text TOLD by the authors' own Lean function (tested against real Go, not proved from fmt's source: count such statements apart). THE CARD IS WHAT COUNTS. Prove the row's statement (the work); the ties are given (YteipplgcdbaokaaDoorTie.lean); close each card by the builder's one call (the guide's Derived/Test/ToyasCard.lean, 'card_holds'). Laid BY PROGRAM, IN A SANDBOX (cutbox-door.mjs). By AI agents, Wed Nov 11 2026. No macro, syntax, notation, axiom, sorry.
-/
import Derived.Test.YteipplgcdbaokaaDoorRows
import GoSem.ClaimSeven
namespace Go.Proofs.YteipplgcdbaokaaDoor
namespace Rows

/-- THE TIED CARD OF 'pointcodelaw04.UnitsCheck'. -/
def unitsCheckCard : Claim7 := { stood := { row := unitsCheckRow, standIns := [], harness := (true, "bc221724be420598b280654cbac63916db0563c7eed65111461687bae8c7e760"), looks := false }, kinds := [], alts := [], laidByText := true, laidKinds := [.data, .data, .data], laidTests := true, laidLooks := .later }
def UnitsCheckCardSaid : Prop := Claim7.holds Tryd.pinned (.plain (OpenSpec.ofChange unitsCheckSpec)) unitsCheckCard

/-- THE TIED CARD OF 'pointcodelaw04.UnitsDecode'. -/
def unitsDecodeCard : Claim7 := { stood := { row := unitsDecodeRow, standIns := [], harness := (true, "bc221724be420598b280654cbac63916db0563c7eed65111461687bae8c7e760"), looks := false }, kinds := [], alts := [], laidByText := true, laidKinds := [.data, .data, .data], laidTests := true, laidLooks := .later }
def UnitsDecodeCardSaid : Prop := Claim7.holds Tryd.pinned (.plain (OpenSpec.ofChange unitsDecodeSpec)) unitsDecodeCard

/-- THE TIED CARD OF 'pointcodelaw04.UnitsSame'. -/
def unitsSameCard : Claim7 := { stood := { row := unitsSameRow, standIns := [], harness := (true, "bc221724be420598b280654cbac63916db0563c7eed65111461687bae8c7e760"), looks := false }, kinds := [], alts := [], laidByText := true, laidKinds := [.data, .data, .data], laidTests := true, laidLooks := .later }
def UnitsSameCardSaid : Prop := Claim7.holds Tryd.pinned (.plain (OpenSpec.ofChange unitsSameSpec)) unitsSameCard

/-- THE TIED CARD OF 'pointcodelaw04.UnitsNumbers'. -/
def unitsNumbersCard : Claim7 := { stood := { row := unitsNumbersRow, standIns := [], harness := (true, "bc221724be420598b280654cbac63916db0563c7eed65111461687bae8c7e760"), looks := false }, kinds := [], alts := [], laidByText := true, laidKinds := [.data, .data, .data], laidTests := true, laidLooks := .later }
def UnitsNumbersCardSaid : Prop := Claim7.holds Tryd.pinned (.plain (OpenSpec.ofChange unitsNumbersSpec)) unitsNumbersCard

/-- THE TIED CARD OF 'pointcodelaw04.UnitsText'. -/
def unitsTextCard : Claim7 := { stood := { row := unitsTextRow, standIns := [], harness := (true, "bc221724be420598b280654cbac63916db0563c7eed65111461687bae8c7e760"), looks := false }, kinds := [], alts := [], laidByText := true, laidKinds := [.data, .data, .data], laidTests := true, laidLooks := .later }
def UnitsTextCardSaid : Prop := Claim7.holds Tryd.pinned (.plain (OpenSpec.ofChange unitsTextSpec)) unitsTextCard

/-- THE SECOND FORM's CARD OF 'pointcodelaw04.UnitsCheck'. -/
def unitsCheckUptoCard : Claim7 := { stood := { row := unitsCheckUptoRow, standIns := [], harness := (true, "bc221724be420598b280654cbac63916db0563c7eed65111461687bae8c7e760"), looks := false }, kinds := [], alts := [], laidByText := true, laidKinds := [.data, .data, .data], laidTests := true, laidLooks := .later }
def UnitsCheckUptoCardSaid : Prop := Claim7.holds Tryd.pinned (.plain (OpenSpec.upto unitsCheckSpec)) unitsCheckUptoCard

/-- THE SECOND FORM's CARD OF 'pointcodelaw04.UnitsDecode'. -/
def unitsDecodeUptoCard : Claim7 := { stood := { row := unitsDecodeUptoRow, standIns := [], harness := (true, "bc221724be420598b280654cbac63916db0563c7eed65111461687bae8c7e760"), looks := false }, kinds := [], alts := [], laidByText := true, laidKinds := [.data, .data, .data], laidTests := true, laidLooks := .later }
def UnitsDecodeUptoCardSaid : Prop := Claim7.holds Tryd.pinned (.plain (OpenSpec.upto unitsDecodeSpec)) unitsDecodeUptoCard

/-- THE SECOND FORM's CARD OF 'pointcodelaw04.UnitsSame'. -/
def unitsSameUptoCard : Claim7 := { stood := { row := unitsSameUptoRow, standIns := [], harness := (true, "bc221724be420598b280654cbac63916db0563c7eed65111461687bae8c7e760"), looks := false }, kinds := [], alts := [], laidByText := true, laidKinds := [.data, .data, .data], laidTests := true, laidLooks := .later }
def UnitsSameUptoCardSaid : Prop := Claim7.holds Tryd.pinned (.plain (OpenSpec.upto unitsSameSpec)) unitsSameUptoCard

/-- THE SECOND FORM's CARD OF 'pointcodelaw04.UnitsNumbers'. -/
def unitsNumbersUptoCard : Claim7 := { stood := { row := unitsNumbersUptoRow, standIns := [], harness := (true, "bc221724be420598b280654cbac63916db0563c7eed65111461687bae8c7e760"), looks := false }, kinds := [], alts := [], laidByText := true, laidKinds := [.data, .data, .data], laidTests := true, laidLooks := .later }
def UnitsNumbersUptoCardSaid : Prop := Claim7.holds Tryd.pinned (.plain (OpenSpec.upto unitsNumbersSpec)) unitsNumbersUptoCard

/-- THE SECOND FORM's CARD OF 'pointcodelaw04.UnitsText'. -/
def unitsTextUptoCard : Claim7 := { stood := { row := unitsTextUptoRow, standIns := [], harness := (true, "bc221724be420598b280654cbac63916db0563c7eed65111461687bae8c7e760"), looks := false }, kinds := [], alts := [], laidByText := true, laidKinds := [.data, .data, .data], laidTests := true, laidLooks := .later }
def UnitsTextUptoCardSaid : Prop := Claim7.holds Tryd.pinned (.plain (OpenSpec.upto unitsTextSpec)) unitsTextUptoCard
end Rows
end Go.Proofs.YteipplgcdbaokaaDoor
