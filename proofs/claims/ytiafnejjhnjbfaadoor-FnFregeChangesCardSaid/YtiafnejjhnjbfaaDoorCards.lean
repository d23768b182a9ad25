/-
  DERIVED. GIVEN WITH THE SEED: THE CARDS: each row of YtiafnejjhnjbfaaDoorRows.lean that lists a variable, with what it lists TIED to the program's text (the seventh form; the later family's looks); each row that meets fmt, with fmt's text TOLD by the authors' own Lean function (tested against real Go, not proved from fmt's source: count such statements apart). THE CARD IS WHAT COUNTS. Prove the row's statement (the work); the ties are given (YtiafnejjhnjbfaaDoorTie.lean); close each card by the builder's one call (the guide's Derived/Test/ToyasCard.lean, 'card_holds'). Laid BY PROGRAM, IN A SANDBOX (cutbox-door.mjs). By AI agents, Wed Nov 11 2026. No macro, syntax, notation, axiom, sorry.
-/
import Derived.Test.YtiafnejjhnjbfaaDoorRows
import GoSem.ClaimSeven
namespace Go.Proofs.YtiafnejjhnjbfaaDoor
namespace Rows

/-- THE TIED CARD OF 'laws.FnPolarity'. -/
def fnPolarityCard : Claim7 := { stood := { row := fnPolarityRow, standIns := [], harness := (true, "cbd2f5cfcdacadffba97d68011489842180982904ef4b05137bf1951557638ab"), looks := false }, kinds := [], alts := [], laidByText := true, laidKinds := [.data, .pinned], laidTests := true, laidLooks := .later }
def FnPolarityCardSaid : Prop := Claim7.holds Tryd.pinned (.plain (OpenSpec.ofChange fnPolaritySpec)) fnPolarityCard

/-- THE TIED CARD OF 'laws.FnFregeChanges'. -/
def fnFregeChangesCard : Claim7 := { stood := { row := fnFregeChangesRow, standIns := [], harness := (true, "cbd2f5cfcdacadffba97d68011489842180982904ef4b05137bf1951557638ab"), looks := false }, kinds := [], alts := [], laidByText := true, laidKinds := [.data, .data, .pinned], laidTests := true, laidLooks := .later }
def FnFregeChangesCardSaid : Prop := Claim7.holds Tryd.pinned (.plain (OpenSpec.ofChange fnFregeChangesSpec)) fnFregeChangesCard

/-- THE SECOND FORM's CARD OF 'laws.FnPolarity'. -/
def fnPolarityUptoCard : Claim7 := { stood := { row := fnPolarityUptoRow, standIns := [], harness := (true, "cbd2f5cfcdacadffba97d68011489842180982904ef4b05137bf1951557638ab"), looks := false }, kinds := [], alts := [], laidByText := true, laidKinds := [.data, .pinned], laidTests := true, laidLooks := .later }
def FnPolarityUptoCardSaid : Prop := Claim7.holds Tryd.pinned (.plain (OpenSpec.upto fnPolaritySpec)) fnPolarityUptoCard

/-- THE SECOND FORM's CARD OF 'laws.FnFregeChanges'. -/
def fnFregeChangesUptoCard : Claim7 := { stood := { row := fnFregeChangesUptoRow, standIns := [], harness := (true, "cbd2f5cfcdacadffba97d68011489842180982904ef4b05137bf1951557638ab"), looks := false }, kinds := [], alts := [], laidByText := true, laidKinds := [.data, .data, .pinned], laidTests := true, laidLooks := .later }
def FnFregeChangesUptoCardSaid : Prop := Claim7.holds Tryd.pinned (.plain (OpenSpec.upto fnFregeChangesSpec)) fnFregeChangesUptoCard
end Rows
end Go.Proofs.YtiafnejjhnjbfaaDoor
