/-
  DERIVED. GIVEN WITH THE SEED: THE CARDS: each row of YtgdkkpjmjnknoaaDoorRows.lean that lists a variable, with what it lists TIED to the program's text (the seventh form; the later family's looks); each row that meets fmt, with fmt's text TOLD by the authors' own Lean function (tested against real Go, not proved from fmt's source: count such statements apart). THE CARD IS WHAT COUNTS. Prove the row's statement (the work); the ties are given (YtgdkkpjmjnknoaaDoorTie.lean); close each card by the builder's one call (the guide's Derived/Test/ToyasCard.lean, 'card_holds'). Laid BY PROGRAM, IN A SANDBOX (cutbox-door.mjs). By AI agents, Wed Nov 11 2026. No macro, syntax, notation, axiom, sorry.
-/
import Derived.Test.YtgdkkpjmjnknoaaDoorRows
import GoSem.ClaimSeven
namespace Go.Proofs.YtgdkkpjmjnknoaaDoor
namespace Rows

/-- THE TIED CARD OF 'pointcodelaw12.LabelsText'. -/
def labelsTextCard : Claim7 := { stood := { row := labelsTextRow, standIns := [], harness := (true, "6d120d0dc0cf04cd1c7d2200f98381bbdec4f3233e57836433f316984a270c5f"), looks := false }, kinds := [], alts := [], laidByText := true, laidKinds := [.data, .data, .data, .data, .pinned], laidTests := true, laidLooks := .later }
def LabelsTextCardSaid : Prop := Claim7.holds Tryd.pinned (.plain (OpenSpec.ofChange labelsTextSpec)) labelsTextCard

/-- THE TIED CARD OF 'pointcodelaw12.LabelsParse'. -/
def labelsParseCard : Claim7 := { stood := { row := labelsParseRow, standIns := [], harness := (true, "6d120d0dc0cf04cd1c7d2200f98381bbdec4f3233e57836433f316984a270c5f"), looks := false }, kinds := [], alts := [], laidByText := true, laidKinds := [.data, .data, .data, .data, .pinned], laidTests := true, laidLooks := .later }
def LabelsParseCardSaid : Prop := Claim7.holds Tryd.pinned (.plain (OpenSpec.ofChange labelsParseSpec)) labelsParseCard

/-- THE TIED CARD OF 'pointcodelaw12.LabelsCheck'. -/
def labelsCheckCard : Claim7 := { stood := { row := labelsCheckRow, standIns := [], harness := (true, "6d120d0dc0cf04cd1c7d2200f98381bbdec4f3233e57836433f316984a270c5f"), looks := false }, kinds := [], alts := [], laidByText := true, laidKinds := [.data, .data, .data, .data, .pinned], laidTests := true, laidLooks := .later }
def LabelsCheckCardSaid : Prop := Claim7.holds Tryd.pinned (.plain (OpenSpec.ofChange labelsCheckSpec)) labelsCheckCard

/-- THE TIED CARD OF 'pointcodelaw12.LabelsRotate'. -/
def labelsRotateCard : Claim7 := { stood := { row := labelsRotateRow, standIns := [], harness := (true, "6d120d0dc0cf04cd1c7d2200f98381bbdec4f3233e57836433f316984a270c5f"), looks := false }, kinds := [], alts := [], laidByText := true, laidKinds := [.data, .data, .data, .data, .pinned], laidTests := true, laidLooks := .later }
def LabelsRotateCardSaid : Prop := Claim7.holds Tryd.pinned (.plain (OpenSpec.ofChange labelsRotateSpec)) labelsRotateCard

/-- THE TIED CARD OF 'pointcodelaw12.LabelsLinks'. -/
def labelsLinksCard : Claim7 := { stood := { row := labelsLinksRow, standIns := [], harness := (true, "6d120d0dc0cf04cd1c7d2200f98381bbdec4f3233e57836433f316984a270c5f"), looks := false }, kinds := [], alts := [], laidByText := true, laidKinds := [.data, .data, .data, .data, .pinned], laidTests := true, laidLooks := .later }
def LabelsLinksCardSaid : Prop := Claim7.holds Tryd.pinned (.plain (OpenSpec.ofChange labelsLinksSpec)) labelsLinksCard

/-- THE TIED CARD OF 'pointcodelaw12.LabelsBack'. -/
def labelsBackCard : Claim7 := { stood := { row := labelsBackRow, standIns := [], harness := (true, "6d120d0dc0cf04cd1c7d2200f98381bbdec4f3233e57836433f316984a270c5f"), looks := false }, kinds := [], alts := [], laidByText := true, laidKinds := [.data, .data, .data, .data, .pinned], laidTests := true, laidLooks := .later }
def LabelsBackCardSaid : Prop := Claim7.holds Tryd.pinned (.plain (OpenSpec.ofChange labelsBackSpec)) labelsBackCard

/-- THE TIED CARD OF 'pointcodelaw12.LabelsSame'. -/
def labelsSameCard : Claim7 := { stood := { row := labelsSameRow, standIns := [], harness := (true, "6d120d0dc0cf04cd1c7d2200f98381bbdec4f3233e57836433f316984a270c5f"), looks := false }, kinds := [], alts := [], laidByText := true, laidKinds := [.data, .data, .data, .data, .pinned], laidTests := true, laidLooks := .later }
def LabelsSameCardSaid : Prop := Claim7.holds Tryd.pinned (.plain (OpenSpec.ofChange labelsSameSpec)) labelsSameCard

/-- THE TIED CARD OF 'pointcodelaw12.LabelsOrder'. -/
def labelsOrderCard : Claim7 := { stood := { row := labelsOrderRow, standIns := [], harness := (true, "6d120d0dc0cf04cd1c7d2200f98381bbdec4f3233e57836433f316984a270c5f"), looks := false }, kinds := [], alts := [], laidByText := true, laidKinds := [.data, .data, .data, .data, .pinned], laidTests := true, laidLooks := .later }
def LabelsOrderCardSaid : Prop := Claim7.holds Tryd.pinned (.plain (OpenSpec.ofChange labelsOrderSpec)) labelsOrderCard

/-- THE SECOND FORM's CARD OF 'pointcodelaw12.LabelsText'. -/
def labelsTextUptoCard : Claim7 := { stood := { row := labelsTextUptoRow, standIns := [], harness := (true, "6d120d0dc0cf04cd1c7d2200f98381bbdec4f3233e57836433f316984a270c5f"), looks := false }, kinds := [], alts := [], laidByText := true, laidKinds := [.data, .data, .data, .data, .pinned], laidTests := true, laidLooks := .later }
def LabelsTextUptoCardSaid : Prop := Claim7.holds Tryd.pinned (.plain (OpenSpec.upto labelsTextSpec)) labelsTextUptoCard

/-- THE SECOND FORM's CARD OF 'pointcodelaw12.LabelsParse'. -/
def labelsParseUptoCard : Claim7 := { stood := { row := labelsParseUptoRow, standIns := [], harness := (true, "6d120d0dc0cf04cd1c7d2200f98381bbdec4f3233e57836433f316984a270c5f"), looks := false }, kinds := [], alts := [], laidByText := true, laidKinds := [.data, .data, .data, .data, .pinned], laidTests := true, laidLooks := .later }
def LabelsParseUptoCardSaid : Prop := Claim7.holds Tryd.pinned (.plain (OpenSpec.upto labelsParseSpec)) labelsParseUptoCard

/-- THE SECOND FORM's CARD OF 'pointcodelaw12.LabelsCheck'. -/
def labelsCheckUptoCard : Claim7 := { stood := { row := labelsCheckUptoRow, standIns := [], harness := (true, "6d120d0dc0cf04cd1c7d2200f98381bbdec4f3233e57836433f316984a270c5f"), looks := false }, kinds := [], alts := [], laidByText := true, laidKinds := [.data, .data, .data, .data, .pinned], laidTests := true, laidLooks := .later }
def LabelsCheckUptoCardSaid : Prop := Claim7.holds Tryd.pinned (.plain (OpenSpec.upto labelsCheckSpec)) labelsCheckUptoCard

/-- THE SECOND FORM's CARD OF 'pointcodelaw12.LabelsRotate'. -/
def labelsRotateUptoCard : Claim7 := { stood := { row := labelsRotateUptoRow, standIns := [], harness := (true, "6d120d0dc0cf04cd1c7d2200f98381bbdec4f3233e57836433f316984a270c5f"), looks := false }, kinds := [], alts := [], laidByText := true, laidKinds := [.data, .data, .data, .data, .pinned], laidTests := true, laidLooks := .later }
def LabelsRotateUptoCardSaid : Prop := Claim7.holds Tryd.pinned (.plain (OpenSpec.upto labelsRotateSpec)) labelsRotateUptoCard

/-- THE SECOND FORM's CARD OF 'pointcodelaw12.LabelsLinks'. -/
def labelsLinksUptoCard : Claim7 := { stood := { row := labelsLinksUptoRow, standIns := [], harness := (true, "6d120d0dc0cf04cd1c7d2200f98381bbdec4f3233e57836433f316984a270c5f"), looks := false }, kinds := [], alts := [], laidByText := true, laidKinds := [.data, .data, .data, .data, .pinned], laidTests := true, laidLooks := .later }
def LabelsLinksUptoCardSaid : Prop := Claim7.holds Tryd.pinned (.plain (OpenSpec.upto labelsLinksSpec)) labelsLinksUptoCard

/-- THE SECOND FORM's CARD OF 'pointcodelaw12.LabelsBack'. -/
def labelsBackUptoCard : Claim7 := { stood := { row := labelsBackUptoRow, standIns := [], harness := (true, "6d120d0dc0cf04cd1c7d2200f98381bbdec4f3233e57836433f316984a270c5f"), looks := false }, kinds := [], alts := [], laidByText := true, laidKinds := [.data, .data, .data, .data, .pinned], laidTests := true, laidLooks := .later }
def LabelsBackUptoCardSaid : Prop := Claim7.holds Tryd.pinned (.plain (OpenSpec.upto labelsBackSpec)) labelsBackUptoCard

/-- THE SECOND FORM's CARD OF 'pointcodelaw12.LabelsSame'. -/
def labelsSameUptoCard : Claim7 := { stood := { row := labelsSameUptoRow, standIns := [], harness := (true, "6d120d0dc0cf04cd1c7d2200f98381bbdec4f3233e57836433f316984a270c5f"), looks := false }, kinds := [], alts := [], laidByText := true, laidKinds := [.data, .data, .data, .data, .pinned], laidTests := true, laidLooks := .later }
def LabelsSameUptoCardSaid : Prop := Claim7.holds Tryd.pinned (.plain (OpenSpec.upto labelsSameSpec)) labelsSameUptoCard

/-- THE SECOND FORM's CARD OF 'pointcodelaw12.LabelsOrder'. -/
def labelsOrderUptoCard : Claim7 := { stood := { row := labelsOrderUptoRow, standIns := [], harness := (true, "6d120d0dc0cf04cd1c7d2200f98381bbdec4f3233e57836433f316984a270c5f"), looks := false }, kinds := [], alts := [], laidByText := true, laidKinds := [.data, .data, .data, .data, .pinned], laidTests := true, laidLooks := .later }
def LabelsOrderUptoCardSaid : Prop := Claim7.holds Tryd.pinned (.plain (OpenSpec.upto labelsOrderSpec)) labelsOrderUptoCard
end Rows
end Go.Proofs.YtgdkkpjmjnknoaaDoor
