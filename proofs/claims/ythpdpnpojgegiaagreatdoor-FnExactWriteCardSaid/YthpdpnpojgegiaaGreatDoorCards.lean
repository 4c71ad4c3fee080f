/-
  DERIVED. GIVEN WITH THE SEED: THE CARDS: each row of YthpdpnpojgegiaaGreatDoorRows.lean that lists a variable, with what it lists TIED to the program's text (the seventh form; the later family's looks); each row that meets fmt, with fmt's text TOLD by the authors' own Lean function (tested against real Go, not proved from fmt's source: count such statements apart). THE CARD IS WHAT COUNTS. Prove the row's statement (the work); the ties are given (YthpdpnpojgegiaaGreatDoorTie.lean); close each card by the builder's one call (the guide's Derived/Test/ToyasCard.lean, 'card_holds'). Laid BY PROGRAM, IN A SANDBOX (cutbox-door.mjs). By AI agents, Wed Nov 11 2026. No macro, syntax, notation, axiom, sorry.
-/
import Derived.Test.YthpdpnpojgegiaaGreatDoorRows
import GoSem.ClaimSeven
namespace Go.Proofs.YthpdpnpojgegiaaGreatDoor
namespace Rows

/-- THE TIED CARD OF 'laws.FnExactElSaid'. -/
def fnExactElSaidCard : Claim7 := { stood := { row := fnExactElSaidRow, standIns := [], harness := (true, "93d339baef9a5b87834d1c1fbf4c34243f5ab653ae7709786d50faf2e6bd0035"), looks := false }, kinds := [], alts := [], laidByText := true, laidKinds := [.data, .pinned], laidTests := true, laidLooks := .later }
def FnExactElSaidCardSaid : Prop := Claim7.holds Tryz.pinned (.plain (OpenSpec.ofChange fnExactElSaidSpec)) fnExactElSaidCard

/-- THE TIED CARD OF 'laws.FnExactWrite'. -/
def fnExactWriteCard : Claim7 := { stood := { row := fnExactWriteRow, standIns := [], harness := (true, "93d339baef9a5b87834d1c1fbf4c34243f5ab653ae7709786d50faf2e6bd0035"), looks := false }, kinds := [], alts := [], laidByText := true, laidKinds := [.data, .pinned], laidTests := true, laidLooks := .later }
def FnExactWriteCardSaid : Prop := Claim7.holds Tryz.pinned (.plain (OpenSpec.ofChange fnExactWriteSpec)) fnExactWriteCard

/-- THE SECOND FORM's CARD OF 'laws.FnExactElSaid'. -/
def fnExactElSaidUptoCard : Claim7 := { stood := { row := fnExactElSaidUptoRow, standIns := [], harness := (true, "93d339baef9a5b87834d1c1fbf4c34243f5ab653ae7709786d50faf2e6bd0035"), looks := false }, kinds := [], alts := [], laidByText := true, laidKinds := [.data, .pinned], laidTests := true, laidLooks := .later }
def FnExactElSaidUptoCardSaid : Prop := Claim7.holds Tryz.pinned (.plain (OpenSpec.upto fnExactElSaidSpec)) fnExactElSaidUptoCard

/-- THE SECOND FORM's CARD OF 'laws.FnExactWrite'. -/
def fnExactWriteUptoCard : Claim7 := { stood := { row := fnExactWriteUptoRow, standIns := [], harness := (true, "93d339baef9a5b87834d1c1fbf4c34243f5ab653ae7709786d50faf2e6bd0035"), looks := false }, kinds := [], alts := [], laidByText := true, laidKinds := [.data, .pinned], laidTests := true, laidLooks := .later }
def FnExactWriteUptoCardSaid : Prop := Claim7.holds Tryz.pinned (.plain (OpenSpec.upto fnExactWriteSpec)) fnExactWriteUptoCard
end Rows
end Go.Proofs.YthpdpnpojgegiaaGreatDoor
