/-
  DERIVED. GIVEN WITH THE SEED: THE CARDS: each row of YtkccabajcdphkaaDoorRows.lean that lists a variable, with what it lists TIED to the program's text (the seventh form; the later family's looks); each row that meets fmt, with fmt's text TOLD by the authors' own Lean function (tested against real Go, not proved from fmt's source: count such statements apart). THE CARD IS WHAT COUNTS. Prove the row's statement (the work); the ties are given (YtkccabajcdphkaaDoorTie.lean); close each card by the builder's one call (the guide's Derived/Test/ToyasCard.lean, 'card_holds'). Laid BY PROGRAM, IN A SANDBOX (cutbox-door.mjs). By AI agents, Wed Nov 11 2026. No macro, syntax, notation, axiom, sorry.
-/
import Derived.Test.YtkccabajcdphkaaDoorRows
import GoSem.ClaimSeven
namespace Go.Proofs.YtkccabajcdphkaaDoor
namespace Rows

/-- THE TIED CARD OF 'laws.FnPolys'. -/
def fnPolysCard : Claim7 := { stood := { row := fnPolysRow, standIns := [], harness := (true, "cebc15bcfff8deb379f33d5e24dd3fa1666f4a84a6169d02de90e4a8ab51044a"), looks := false }, kinds := [], alts := [], laidByText := true, laidKinds := [.data, .data, .data], laidTests := true, laidLooks := .later }
def FnPolysCardSaid : Prop := Claim7.holds Tryd.pinned (.plain (OpenSpec.ofChange fnPolysSpec)) fnPolysCard

/-- THE TIED CARD OF 'laws.FnPolarity'. -/
def fnPolarityCard : Claim7 := { stood := { row := fnPolarityRow, standIns := [], harness := (true, "cebc15bcfff8deb379f33d5e24dd3fa1666f4a84a6169d02de90e4a8ab51044a"), looks := false }, kinds := [], alts := [], laidByText := true, laidKinds := [.data, .pinned], laidTests := true, laidLooks := .later }
def FnPolarityCardSaid : Prop := Claim7.holds Tryd.pinned (.plain (OpenSpec.ofChange fnPolaritySpec)) fnPolarityCard

/-- THE TIED CARD OF 'laws.FnSchemes'. -/
def fnSchemesCard : Claim7 := { stood := { row := fnSchemesRow, standIns := [], harness := (true, "cebc15bcfff8deb379f33d5e24dd3fa1666f4a84a6169d02de90e4a8ab51044a"), looks := false }, kinds := [], alts := [], laidByText := true, laidKinds := [.data], laidTests := true, laidLooks := .later }
def FnSchemesCardSaid : Prop := Claim7.holds Tryd.pinned (.plain (OpenSpec.ofChange fnSchemesSpec)) fnSchemesCard

/-- THE TIED CARD OF 'laws.FnFregeChanges'. -/
def fnFregeChangesCard : Claim7 := { stood := { row := fnFregeChangesRow, standIns := [], harness := (true, "cebc15bcfff8deb379f33d5e24dd3fa1666f4a84a6169d02de90e4a8ab51044a"), looks := false }, kinds := [], alts := [], laidByText := true, laidKinds := [.data, .data, .pinned], laidTests := true, laidLooks := .later }
def FnFregeChangesCardSaid : Prop := Claim7.holds Tryd.pinned (.plain (OpenSpec.ofChange fnFregeChangesSpec)) fnFregeChangesCard

/-- THE SECOND FORM's CARD OF 'laws.FnPolys'. -/
def fnPolysUptoCard : Claim7 := { stood := { row := fnPolysUptoRow, standIns := [], harness := (true, "cebc15bcfff8deb379f33d5e24dd3fa1666f4a84a6169d02de90e4a8ab51044a"), looks := false }, kinds := [], alts := [], laidByText := true, laidKinds := [.data, .data, .data], laidTests := true, laidLooks := .later }
def FnPolysUptoCardSaid : Prop := Claim7.holds Tryd.pinned (.plain (OpenSpec.upto fnPolysSpec)) fnPolysUptoCard

/-- THE SECOND FORM's CARD OF 'laws.FnPolarity'. -/
def fnPolarityUptoCard : Claim7 := { stood := { row := fnPolarityUptoRow, standIns := [], harness := (true, "cebc15bcfff8deb379f33d5e24dd3fa1666f4a84a6169d02de90e4a8ab51044a"), looks := false }, kinds := [], alts := [], laidByText := true, laidKinds := [.data, .pinned], laidTests := true, laidLooks := .later }
def FnPolarityUptoCardSaid : Prop := Claim7.holds Tryd.pinned (.plain (OpenSpec.upto fnPolaritySpec)) fnPolarityUptoCard

/-- THE SECOND FORM's CARD OF 'laws.FnSchemes'. -/
def fnSchemesUptoCard : Claim7 := { stood := { row := fnSchemesUptoRow, standIns := [], harness := (true, "cebc15bcfff8deb379f33d5e24dd3fa1666f4a84a6169d02de90e4a8ab51044a"), looks := false }, kinds := [], alts := [], laidByText := true, laidKinds := [.data], laidTests := true, laidLooks := .later }
def FnSchemesUptoCardSaid : Prop := Claim7.holds Tryd.pinned (.plain (OpenSpec.upto fnSchemesSpec)) fnSchemesUptoCard

/-- THE SECOND FORM's CARD OF 'laws.FnFregeChanges'. -/
def fnFregeChangesUptoCard : Claim7 := { stood := { row := fnFregeChangesUptoRow, standIns := [], harness := (true, "cebc15bcfff8deb379f33d5e24dd3fa1666f4a84a6169d02de90e4a8ab51044a"), looks := false }, kinds := [], alts := [], laidByText := true, laidKinds := [.data, .data, .pinned], laidTests := true, laidLooks := .later }
def FnFregeChangesUptoCardSaid : Prop := Claim7.holds Tryd.pinned (.plain (OpenSpec.upto fnFregeChangesSpec)) fnFregeChangesUptoCard
end Rows
end Go.Proofs.YtkccabajcdphkaaDoor
