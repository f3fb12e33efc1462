/-
  DERIVED. GIVEN WITH THE SEED: THE CARDS: each row of YtmofhelddcnecaaGreatDoorRows.lean that lists a variable, with what it lists TIED to the program's text (the seventh form; the later family's looks); each row that meets fmt, with fmt's text TOLD by the authors' own Lean function (tested against real Go, not proved from fmt's source: count such statements apart). THE CARD IS WHAT COUNTS. Prove the row's statement (the work); the ties are given (YtmofhelddcnecaaGreatDoorTie.lean); close each card by the builder's one call (the guide's Derived/Test/ToyasCard.lean, 'card_holds'). Laid BY PROGRAM, IN A SANDBOX (cutbox-door.mjs). By AI agents, Wed Nov 11 2026. No macro, syntax, notation, axiom, sorry.
-/
import Derived.Test.YtmofhelddcnecaaGreatDoorRows
import GoSem.ClaimSeven
namespace Go.Proofs.YtmofhelddcnecaaGreatDoor
namespace Rows

/-- THE TIED CARD OF 'codesearchlaw12.SyntaxModules'. -/
def syntaxModulesCard : Claim7 := { stood := { row := syntaxModulesRow, standIns := [], harness := (true, "a65200350d3a53a8f8d7946790ac10d677dd7a4a5f3c44198743329856e32ef1"), looks := true }, kinds := [], alts := [], laidByText := true, laidKinds := [.data, .listed, .data, .pinned], laidTests := true, laidLooks := .later }
def SyntaxModulesCardSaid : Prop := Claim7.holds Tryz.pinned (.plain (OpenSpec.ofChange syntaxModulesSpec)) syntaxModulesCard

/-- THE TIED CARD OF 'codesearchlaw12.SyntaxFragments'. -/
def syntaxFragmentsCard : Claim7 := { stood := { row := syntaxFragmentsRow, standIns := [], harness := (true, "a65200350d3a53a8f8d7946790ac10d677dd7a4a5f3c44198743329856e32ef1"), looks := true }, kinds := [], alts := [], laidByText := true, laidKinds := [.data, .listed, .data, .pinned], laidTests := true, laidLooks := .later }
def SyntaxFragmentsCardSaid : Prop := Claim7.holds Tryz.pinned (.plain (OpenSpec.ofChange syntaxFragmentsSpec)) syntaxFragmentsCard

/-- THE TIED CARD OF 'codesearchlaw12.SyntaxNested'. -/
def syntaxNestedCard : Claim7 := { stood := { row := syntaxNestedRow, standIns := [], harness := (true, "a65200350d3a53a8f8d7946790ac10d677dd7a4a5f3c44198743329856e32ef1"), looks := true }, kinds := [], alts := [], laidByText := true, laidKinds := [.data, .listed, .data, .pinned], laidTests := true, laidLooks := .later }
def SyntaxNestedCardSaid : Prop := Claim7.holds Tryz.pinned (.plain (OpenSpec.ofChange syntaxNestedSpec)) syntaxNestedCard

/-- THE TIED CARD OF 'codesearchlaw12.SyntaxLooks'. -/
def syntaxLooksCard : Claim7 := { stood := { row := syntaxLooksRow, standIns := [], harness := (true, "a65200350d3a53a8f8d7946790ac10d677dd7a4a5f3c44198743329856e32ef1"), looks := true }, kinds := [], alts := [], laidByText := true, laidKinds := [.data, .listed, .data, .pinned], laidTests := true, laidLooks := .later }
def SyntaxLooksCardSaid : Prop := Claim7.holds Tryz.pinned (.plain (OpenSpec.ofChange syntaxLooksSpec)) syntaxLooksCard

/-- THE TIED CARD OF 'codesearchlaw12.SyntaxShapes'. -/
def syntaxShapesCard : Claim7 := { stood := { row := syntaxShapesRow, standIns := [], harness := (true, "a65200350d3a53a8f8d7946790ac10d677dd7a4a5f3c44198743329856e32ef1"), looks := true }, kinds := [], alts := [], laidByText := true, laidKinds := [.data, .listed, .data, .pinned], laidTests := true, laidLooks := .later }
def SyntaxShapesCardSaid : Prop := Claim7.holds Tryz.pinned (.plain (OpenSpec.ofChange syntaxShapesSpec)) syntaxShapesCard

/-- THE TIED CARD OF 'codesearchlaw12.SyntaxBlanks'. -/
def syntaxBlanksCard : Claim7 := { stood := { row := syntaxBlanksRow, standIns := [], harness := (true, "a65200350d3a53a8f8d7946790ac10d677dd7a4a5f3c44198743329856e32ef1"), looks := true }, kinds := [], alts := [], laidByText := true, laidKinds := [.data, .listed, .data, .pinned], laidTests := true, laidLooks := .later }
def SyntaxBlanksCardSaid : Prop := Claim7.holds Tryz.pinned (.plain (OpenSpec.ofChange syntaxBlanksSpec)) syntaxBlanksCard

/-- THE TIED CARD OF 'codesearchlaw12.SyntaxPieces'. -/
def syntaxPiecesCard : Claim7 := { stood := { row := syntaxPiecesRow, standIns := [], harness := (true, "a65200350d3a53a8f8d7946790ac10d677dd7a4a5f3c44198743329856e32ef1"), looks := true }, kinds := [], alts := [], laidByText := true, laidKinds := [.data, .listed, .data, .pinned], laidTests := true, laidLooks := .later }
def SyntaxPiecesCardSaid : Prop := Claim7.holds Tryz.pinned (.plain (OpenSpec.ofChange syntaxPiecesSpec)) syntaxPiecesCard

/-- THE SECOND FORM's CARD OF 'codesearchlaw12.SyntaxModules'. -/
def syntaxModulesUptoCard : Claim7 := { stood := { row := syntaxModulesUptoRow, standIns := [], harness := (true, "a65200350d3a53a8f8d7946790ac10d677dd7a4a5f3c44198743329856e32ef1"), looks := true }, kinds := [], alts := [], laidByText := true, laidKinds := [.data, .listed, .data, .pinned], laidTests := true, laidLooks := .later }
def SyntaxModulesUptoCardSaid : Prop := Claim7.holds Tryz.pinned (.plain (OpenSpec.upto syntaxModulesSpec)) syntaxModulesUptoCard

/-- THE SECOND FORM's CARD OF 'codesearchlaw12.SyntaxFragments'. -/
def syntaxFragmentsUptoCard : Claim7 := { stood := { row := syntaxFragmentsUptoRow, standIns := [], harness := (true, "a65200350d3a53a8f8d7946790ac10d677dd7a4a5f3c44198743329856e32ef1"), looks := true }, kinds := [], alts := [], laidByText := true, laidKinds := [.data, .listed, .data, .pinned], laidTests := true, laidLooks := .later }
def SyntaxFragmentsUptoCardSaid : Prop := Claim7.holds Tryz.pinned (.plain (OpenSpec.upto syntaxFragmentsSpec)) syntaxFragmentsUptoCard

/-- THE SECOND FORM's CARD OF 'codesearchlaw12.SyntaxNested'. -/
def syntaxNestedUptoCard : Claim7 := { stood := { row := syntaxNestedUptoRow, standIns := [], harness := (true, "a65200350d3a53a8f8d7946790ac10d677dd7a4a5f3c44198743329856e32ef1"), looks := true }, kinds := [], alts := [], laidByText := true, laidKinds := [.data, .listed, .data, .pinned], laidTests := true, laidLooks := .later }
def SyntaxNestedUptoCardSaid : Prop := Claim7.holds Tryz.pinned (.plain (OpenSpec.upto syntaxNestedSpec)) syntaxNestedUptoCard

/-- THE SECOND FORM's CARD OF 'codesearchlaw12.SyntaxLooks'. -/
def syntaxLooksUptoCard : Claim7 := { stood := { row := syntaxLooksUptoRow, standIns := [], harness := (true, "a65200350d3a53a8f8d7946790ac10d677dd7a4a5f3c44198743329856e32ef1"), looks := true }, kinds := [], alts := [], laidByText := true, laidKinds := [.data, .listed, .data, .pinned], laidTests := true, laidLooks := .later }
def SyntaxLooksUptoCardSaid : Prop := Claim7.holds Tryz.pinned (.plain (OpenSpec.upto syntaxLooksSpec)) syntaxLooksUptoCard

/-- THE SECOND FORM's CARD OF 'codesearchlaw12.SyntaxShapes'. -/
def syntaxShapesUptoCard : Claim7 := { stood := { row := syntaxShapesUptoRow, standIns := [], harness := (true, "a65200350d3a53a8f8d7946790ac10d677dd7a4a5f3c44198743329856e32ef1"), looks := true }, kinds := [], alts := [], laidByText := true, laidKinds := [.data, .listed, .data, .pinned], laidTests := true, laidLooks := .later }
def SyntaxShapesUptoCardSaid : Prop := Claim7.holds Tryz.pinned (.plain (OpenSpec.upto syntaxShapesSpec)) syntaxShapesUptoCard

/-- THE SECOND FORM's CARD OF 'codesearchlaw12.SyntaxBlanks'. -/
def syntaxBlanksUptoCard : Claim7 := { stood := { row := syntaxBlanksUptoRow, standIns := [], harness := (true, "a65200350d3a53a8f8d7946790ac10d677dd7a4a5f3c44198743329856e32ef1"), looks := true }, kinds := [], alts := [], laidByText := true, laidKinds := [.data, .listed, .data, .pinned], laidTests := true, laidLooks := .later }
def SyntaxBlanksUptoCardSaid : Prop := Claim7.holds Tryz.pinned (.plain (OpenSpec.upto syntaxBlanksSpec)) syntaxBlanksUptoCard

/-- THE SECOND FORM's CARD OF 'codesearchlaw12.SyntaxPieces'. -/
def syntaxPiecesUptoCard : Claim7 := { stood := { row := syntaxPiecesUptoRow, standIns := [], harness := (true, "a65200350d3a53a8f8d7946790ac10d677dd7a4a5f3c44198743329856e32ef1"), looks := true }, kinds := [], alts := [], laidByText := true, laidKinds := [.data, .listed, .data, .pinned], laidTests := true, laidLooks := .later }
def SyntaxPiecesUptoCardSaid : Prop := Claim7.holds Tryz.pinned (.plain (OpenSpec.upto syntaxPiecesSpec)) syntaxPiecesUptoCard
end Rows
end Go.Proofs.YtmofhelddcnecaaGreatDoor
