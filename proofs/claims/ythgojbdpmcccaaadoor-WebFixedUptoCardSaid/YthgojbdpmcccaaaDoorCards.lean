/-
  DERIVED. GIVEN WITH THE SEED: THE CARDS: each row of YthgojbdpmcccaaaDoorRows.lean that lists a variable, with what it lists TIED to the program's text (the seventh form; the later family's looks); each row that meets fmt, with fmt's text TOLD by the authors' own Lean function (tested against real Go, not proved from fmt's source: count such statements apart). THE CARD IS WHAT COUNTS. Prove the row's statement (the work); the ties are given (YthgojbdpmcccaaaDoorTie.lean); close each card by the builder's one call (the guide's Derived/Test/ToyasCard.lean, 'card_holds'). Laid BY PROGRAM, IN A SANDBOX (cutbox-door.mjs). By AI agents, Wed Nov 11 2026. No macro, syntax, notation, axiom, sorry.
-/
import Derived.Test.YthgojbdpmcccaaaDoorRows
import GoSem.ClaimSeven
namespace Go.Proofs.YthgojbdpmcccaaaDoor
namespace Rows

/-- THE TIED CARD OF 'ledgerlaw14.WebTables'. -/
def webTablesCard : Claim7 := { stood := { row := webTablesRow, standIns := [], harness := (true, "b6268117273e2fff2d4d3dc77affb6e4409c2e0949c867ef5094436bf395a3cd"), looks := true }, kinds := [], alts := [], laidByText := true, laidKinds := [.data, .data, .data, .data, .data], laidTests := true, laidLooks := .later }
def WebTablesCardSaid : Prop := Claim7.holds Tryd.pinned (.plain (OpenSpec.ofChange webTablesSpec)) webTablesCard

/-- THE TIED CARD OF 'ledgerlaw14.WebEscapes'. -/
def webEscapesCard : Claim7 := { stood := { row := webEscapesRow, standIns := [], harness := (true, "b6268117273e2fff2d4d3dc77affb6e4409c2e0949c867ef5094436bf395a3cd"), looks := true }, kinds := [], alts := [], laidByText := true, laidKinds := [.sentinel, .sentinel, .sentinel, .sentinel, .sentinel, .sentinel, .sentinel, .sentinel, .sentinel, .sentinel, .sentinel], laidTests := true, laidLooks := .later }
def WebEscapesCardSaid : Prop := Claim7.holds Tryd.pinned (.plain (OpenSpec.ofChange webEscapesSpec)) webEscapesCard

/-- THE TIED CARD OF 'ledgerlaw14.WebFixed'. -/
def webFixedCard : Claim7 := { stood := { row := webFixedRow, standIns := [], harness := (true, "b6268117273e2fff2d4d3dc77affb6e4409c2e0949c867ef5094436bf395a3cd"), looks := true }, kinds := [], alts := [], laidByText := true, laidKinds := [.data, .sentinel, .sentinel, .sentinel, .sentinel, .sentinel, .sentinel, .sentinel, .sentinel, .sentinel, .sentinel, .sentinel, .sentinel, .data, .pinned], laidTests := true, laidLooks := .later }
def WebFixedCardSaid : Prop := Claim7.holds Tryd.pinned (.plain (OpenSpec.ofChange webFixedSpec)) webFixedCard

/-- THE SECOND FORM's CARD OF 'ledgerlaw14.WebTables'. -/
def webTablesUptoCard : Claim7 := { stood := { row := webTablesUptoRow, standIns := [], harness := (true, "b6268117273e2fff2d4d3dc77affb6e4409c2e0949c867ef5094436bf395a3cd"), looks := true }, kinds := [], alts := [], laidByText := true, laidKinds := [.data, .data, .data, .data, .data], laidTests := true, laidLooks := .later }
def WebTablesUptoCardSaid : Prop := Claim7.holds Tryd.pinned (.plain (OpenSpec.upto webTablesSpec)) webTablesUptoCard

/-- THE SECOND FORM's CARD OF 'ledgerlaw14.WebEscapes'. -/
def webEscapesUptoCard : Claim7 := { stood := { row := webEscapesUptoRow, standIns := [], harness := (true, "b6268117273e2fff2d4d3dc77affb6e4409c2e0949c867ef5094436bf395a3cd"), looks := true }, kinds := [], alts := [], laidByText := true, laidKinds := [.sentinel, .sentinel, .sentinel, .sentinel, .sentinel, .sentinel, .sentinel, .sentinel, .sentinel, .sentinel, .sentinel], laidTests := true, laidLooks := .later }
def WebEscapesUptoCardSaid : Prop := Claim7.holds Tryd.pinned (.plain (OpenSpec.upto webEscapesSpec)) webEscapesUptoCard

/-- THE SECOND FORM's CARD OF 'ledgerlaw14.WebFixed'. -/
def webFixedUptoCard : Claim7 := { stood := { row := webFixedUptoRow, standIns := [], harness := (true, "b6268117273e2fff2d4d3dc77affb6e4409c2e0949c867ef5094436bf395a3cd"), looks := true }, kinds := [], alts := [], laidByText := true, laidKinds := [.data, .sentinel, .sentinel, .sentinel, .sentinel, .sentinel, .sentinel, .sentinel, .sentinel, .sentinel, .sentinel, .sentinel, .sentinel, .data, .pinned], laidTests := true, laidLooks := .later }
def WebFixedUptoCardSaid : Prop := Claim7.holds Tryd.pinned (.plain (OpenSpec.upto webFixedSpec)) webFixedUptoCard
end Rows
end Go.Proofs.YthgojbdpmcccaaaDoor
