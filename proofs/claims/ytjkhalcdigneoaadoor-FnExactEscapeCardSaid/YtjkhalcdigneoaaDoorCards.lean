/-
  DERIVED. GIVEN WITH THE SEED: THE CARDS: each row of YtjkhalcdigneoaaDoorRows.lean that lists a variable, with what it lists TIED to the program's text (the seventh form; the later family's looks); each row that meets fmt, with fmt's text TOLD by the authors' own Lean function (tested against real Go, not proved from fmt's source: count such statements apart). THE CARD IS WHAT COUNTS. Prove the row's statement (the work); the ties are given (YtjkhalcdigneoaaDoorTie.lean); close each card by the builder's one call (the guide's Derived/Test/ToyasCard.lean, 'card_holds'). Laid BY PROGRAM, IN A SANDBOX (cutbox-door.mjs). By AI agents, Wed Nov 11 2026. No macro, syntax, notation, axiom, sorry.
-/
import Derived.Test.YtjkhalcdigneoaaDoorRows
import GoSem.ClaimSeven
namespace Go.Proofs.YtjkhalcdigneoaaDoor
namespace Rows

/-- THE TIED CARD OF 'laws.FnExactEscape'. -/
def fnExactEscapeCard : Claim7 := { stood := { row := fnExactEscapeRow, standIns := [], harness := (true, "b38df47d86bfb1242eae0b7988848912410c62d36318e8feecd01fa525e36244"), looks := false }, kinds := [], alts := [], laidByText := true, laidKinds := [.data, .pinned], laidTests := true, laidLooks := .later }
def FnExactEscapeCardSaid : Prop := Claim7.holds Tryd.pinned (.plain (OpenSpec.ofChange fnExactEscapeSpec)) fnExactEscapeCard

/-- THE SECOND FORM's CARD OF 'laws.FnExactEscape'. -/
def fnExactEscapeUptoCard : Claim7 := { stood := { row := fnExactEscapeUptoRow, standIns := [], harness := (true, "b38df47d86bfb1242eae0b7988848912410c62d36318e8feecd01fa525e36244"), looks := false }, kinds := [], alts := [], laidByText := true, laidKinds := [.data, .pinned], laidTests := true, laidLooks := .later }
def FnExactEscapeUptoCardSaid : Prop := Claim7.holds Tryd.pinned (.plain (OpenSpec.upto fnExactEscapeSpec)) fnExactEscapeUptoCard
end Rows
end Go.Proofs.YtjkhalcdigneoaaDoor
