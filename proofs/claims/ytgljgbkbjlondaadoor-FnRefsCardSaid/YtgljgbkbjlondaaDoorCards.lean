/-
  DERIVED. GIVEN WITH THE SEED: THE CARDS: each row of YtgljgbkbjlondaaDoorRows.lean that lists a variable, with what it lists TIED to the program's text (the seventh form; the later family's looks); each row that meets fmt, with fmt's text TOLD by the authors' own Lean function (tested against real Go, not proved from fmt's source: count such statements apart). THE CARD IS WHAT COUNTS. Prove the row's statement (the work); the ties are given (YtgljgbkbjlondaaDoorTie.lean); close each card by the builder's one call (the guide's Derived/Test/ToyasCard.lean, 'card_holds'). Laid BY PROGRAM, IN A SANDBOX (cutbox-door.mjs). By AI agents, Wed Nov 11 2026. No macro, syntax, notation, axiom, sorry.
-/
import Derived.Test.YtgljgbkbjlondaaDoorRows
import GoSem.ClaimSeven
namespace Go.Proofs.YtgljgbkbjlondaaDoor
namespace Rows

/-- THE TIED CARD OF 'laws.FnExactXmlRef'. -/
def fnExactXmlRefCard : Claim7 := { stood := { row := fnExactXmlRefRow, standIns := [], harness := (true, "ad8cc5c10f9d6a48e7a1f27afc05818f7c8754de9b22c6561c8529775b75c56a"), looks := true }, kinds := [], alts := [], laidByText := true, laidKinds := [.data, .data, .data, .sentinel, .sentinel], laidTests := true, laidLooks := .later }
def FnExactXmlRefCardSaid : Prop := Claim7.holds Tryd.pinned (.plain (OpenSpec.ofChange fnExactXmlRefSpec)) fnExactXmlRefCard

/-- THE TIED CARD OF 'laws.FnExactXmlText'. -/
def fnExactXmlTextCard : Claim7 := { stood := { row := fnExactXmlTextRow, standIns := [], harness := (true, "ad8cc5c10f9d6a48e7a1f27afc05818f7c8754de9b22c6561c8529775b75c56a"), looks := true }, kinds := [], alts := [], laidByText := true, laidKinds := [.data, .data, .data, .sentinel, .sentinel], laidTests := true, laidLooks := .later }
def FnExactXmlTextCardSaid : Prop := Claim7.holds Tryd.pinned (.plain (OpenSpec.ofChange fnExactXmlTextSpec)) fnExactXmlTextCard

/-- THE TIED CARD OF 'laws.FnRefs'. -/
def fnRefsCard : Claim7 := { stood := { row := fnRefsRow, standIns := [], harness := (true, "ad8cc5c10f9d6a48e7a1f27afc05818f7c8754de9b22c6561c8529775b75c56a"), looks := true }, kinds := [], alts := [], laidByText := true, laidKinds := [.data, .pinned], laidTests := true, laidLooks := .later }
def FnRefsCardSaid : Prop := Claim7.holds Tryd.pinned (.plain (OpenSpec.ofChange fnRefsSpec)) fnRefsCard

/-- THE TIED CARD OF 'laws.FnExactPageText'. -/
def fnExactPageTextCard : Claim7 := { stood := { row := fnExactPageTextRow, standIns := [], harness := (true, "ad8cc5c10f9d6a48e7a1f27afc05818f7c8754de9b22c6561c8529775b75c56a"), looks := true }, kinds := [], alts := [], laidByText := true, laidKinds := [.data, .pinned], laidTests := true, laidLooks := .later }
def FnExactPageTextCardSaid : Prop := Claim7.holds Tryd.pinned (.plain (OpenSpec.ofChange fnExactPageTextSpec)) fnExactPageTextCard

/-- THE SECOND FORM's CARD OF 'laws.FnExactXmlRef'. -/
def fnExactXmlRefUptoCard : Claim7 := { stood := { row := fnExactXmlRefUptoRow, standIns := [], harness := (true, "ad8cc5c10f9d6a48e7a1f27afc05818f7c8754de9b22c6561c8529775b75c56a"), looks := true }, kinds := [], alts := [], laidByText := true, laidKinds := [.data, .data, .data, .sentinel, .sentinel], laidTests := true, laidLooks := .later }
def FnExactXmlRefUptoCardSaid : Prop := Claim7.holds Tryd.pinned (.plain (OpenSpec.upto fnExactXmlRefSpec)) fnExactXmlRefUptoCard

/-- THE SECOND FORM's CARD OF 'laws.FnExactXmlText'. -/
def fnExactXmlTextUptoCard : Claim7 := { stood := { row := fnExactXmlTextUptoRow, standIns := [], harness := (true, "ad8cc5c10f9d6a48e7a1f27afc05818f7c8754de9b22c6561c8529775b75c56a"), looks := true }, kinds := [], alts := [], laidByText := true, laidKinds := [.data, .data, .data, .sentinel, .sentinel], laidTests := true, laidLooks := .later }
def FnExactXmlTextUptoCardSaid : Prop := Claim7.holds Tryd.pinned (.plain (OpenSpec.upto fnExactXmlTextSpec)) fnExactXmlTextUptoCard

/-- THE SECOND FORM's CARD OF 'laws.FnRefs'. -/
def fnRefsUptoCard : Claim7 := { stood := { row := fnRefsUptoRow, standIns := [], harness := (true, "ad8cc5c10f9d6a48e7a1f27afc05818f7c8754de9b22c6561c8529775b75c56a"), looks := true }, kinds := [], alts := [], laidByText := true, laidKinds := [.data, .pinned], laidTests := true, laidLooks := .later }
def FnRefsUptoCardSaid : Prop := Claim7.holds Tryd.pinned (.plain (OpenSpec.upto fnRefsSpec)) fnRefsUptoCard

/-- THE SECOND FORM's CARD OF 'laws.FnExactPageText'. -/
def fnExactPageTextUptoCard : Claim7 := { stood := { row := fnExactPageTextUptoRow, standIns := [], harness := (true, "ad8cc5c10f9d6a48e7a1f27afc05818f7c8754de9b22c6561c8529775b75c56a"), looks := true }, kinds := [], alts := [], laidByText := true, laidKinds := [.data, .pinned], laidTests := true, laidLooks := .later }
def FnExactPageTextUptoCardSaid : Prop := Claim7.holds Tryd.pinned (.plain (OpenSpec.upto fnExactPageTextSpec)) fnExactPageTextUptoCard
end Rows
end Go.Proofs.YtgljgbkbjlondaaDoor
