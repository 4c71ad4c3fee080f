/-
  DERIVED. GIVEN WITH THE SEED: THE CARDS: each row of YtfjheckgigppiaaDoorRows.lean that lists a variable, with what it lists TIED to the program's text (the seventh form; the later family's looks); each row that meets fmt, with fmt's text TOLD by the authors' own Lean function (tested against real Go, not proved from fmt's source: count such statements apart). THE CARD IS WHAT COUNTS. Prove the row's statement (the work); the ties are given (YtfjheckgigppiaaDoorTie.lean); close each card by the builder's one call (the guide's Derived/Test/ToyasCard.lean, 'card_holds'). Laid BY PROGRAM, IN A SANDBOX (cutbox-door.mjs). By AI agents, Wed Nov 11 2026. No macro, syntax, notation, axiom, sorry.
-/
import Derived.Test.YtfjheckgigppiaaDoorRows
import GoSem.ClaimSeven
namespace Go.Proofs.YtfjheckgigppiaaDoor
namespace Rows

/-- THE TIED CARD OF 'laws.FnExactNoteOf'. -/
def fnExactNoteOfCard : Claim7 := { stood := { row := fnExactNoteOfRow, standIns := [], harness := (true, "30cc55b5aed273f05f019f208069cf22f964abdeaf56acf0e892f81fb22564d7"), looks := false }, kinds := [], alts := [], laidByText := true, laidKinds := [.data, .pinned], laidTests := true, laidLooks := .later }
def FnExactNoteOfCardSaid : Prop := Claim7.holds Tryd.pinned (.plain (OpenSpec.ofChange fnExactNoteOfSpec)) fnExactNoteOfCard

/-- THE TIED CARD OF 'laws.FnMild'. -/
def fnMildCard : Claim7 := { stood := { row := fnMildRow, standIns := [], harness := (true, "30cc55b5aed273f05f019f208069cf22f964abdeaf56acf0e892f81fb22564d7"), looks := false }, kinds := [], alts := [], laidByText := true, laidKinds := [.data, .pinned], laidTests := true, laidLooks := .later }
def FnMildCardSaid : Prop := Claim7.holds Tryd.pinned (.plain (OpenSpec.ofChange fnMildSpec)) fnMildCard

/-- THE TIED CARD OF 'laws.FnNotes'. -/
def fnNotesCard : Claim7 := { stood := { row := fnNotesRow, standIns := [], harness := (true, "30cc55b5aed273f05f019f208069cf22f964abdeaf56acf0e892f81fb22564d7"), looks := false }, kinds := [], alts := [], laidByText := true, laidKinds := [.data, .pinned], laidTests := true, laidLooks := .later }
def FnNotesCardSaid : Prop := Claim7.holds Tryd.pinned (.plain (OpenSpec.ofChange fnNotesSpec)) fnNotesCard

/-- THE SECOND FORM's CARD OF 'laws.FnExactNoteOf'. -/
def fnExactNoteOfUptoCard : Claim7 := { stood := { row := fnExactNoteOfUptoRow, standIns := [], harness := (true, "30cc55b5aed273f05f019f208069cf22f964abdeaf56acf0e892f81fb22564d7"), looks := false }, kinds := [], alts := [], laidByText := true, laidKinds := [.data, .pinned], laidTests := true, laidLooks := .later }
def FnExactNoteOfUptoCardSaid : Prop := Claim7.holds Tryd.pinned (.plain (OpenSpec.upto fnExactNoteOfSpec)) fnExactNoteOfUptoCard

/-- THE SECOND FORM's CARD OF 'laws.FnMild'. -/
def fnMildUptoCard : Claim7 := { stood := { row := fnMildUptoRow, standIns := [], harness := (true, "30cc55b5aed273f05f019f208069cf22f964abdeaf56acf0e892f81fb22564d7"), looks := false }, kinds := [], alts := [], laidByText := true, laidKinds := [.data, .pinned], laidTests := true, laidLooks := .later }
def FnMildUptoCardSaid : Prop := Claim7.holds Tryd.pinned (.plain (OpenSpec.upto fnMildSpec)) fnMildUptoCard

/-- THE SECOND FORM's CARD OF 'laws.FnNotes'. -/
def fnNotesUptoCard : Claim7 := { stood := { row := fnNotesUptoRow, standIns := [], harness := (true, "30cc55b5aed273f05f019f208069cf22f964abdeaf56acf0e892f81fb22564d7"), looks := false }, kinds := [], alts := [], laidByText := true, laidKinds := [.data, .pinned], laidTests := true, laidLooks := .later }
def FnNotesUptoCardSaid : Prop := Claim7.holds Tryd.pinned (.plain (OpenSpec.upto fnNotesSpec)) fnNotesUptoCard
end Rows
end Go.Proofs.YtfjheckgigppiaaDoor
