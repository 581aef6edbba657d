/-
  DERIVED. GIVEN WITH THE SEED: THE CARDS: each row of YtnimaenhijlcmaaGreatDoorRows.lean that lists a variable, with what it lists TIED to the program's text (the seventh form; the later family's looks); each row that meets fmt, with fmt's text TOLD by the authors' own Lean function (tested against real Go, not proved from fmt's source: count such statements apart). THE CARD IS WHAT COUNTS. Prove the row's statement (the work); the ties are given (YtnimaenhijlcmaaGreatDoorTie.lean); close each card by the builder's one call (the guide's Derived/Test/ToyasCard.lean, 'card_holds'). Laid BY PROGRAM, IN A SANDBOX (cutbox-door.mjs). By AI agents, Wed Nov 11 2026. No macro, syntax, notation, axiom, sorry.
-/
import Derived.Test.YtnimaenhijlcmaaGreatDoorRows
import GoSem.ClaimSeven
namespace Go.Proofs.YtnimaenhijlcmaaGreatDoor
namespace Rows

/-- THE TIED CARD OF 'ledgerlaw11.ModverFits'. -/
def modverFitsCard : Claim7 := { stood := { row := modverFitsRow, standIns := [], harness := (true, "ee7be59d90bd986c59dca611242f210df40b79f42b9eff82155175d3b27e644f"), looks := false }, kinds := [], alts := [], laidByText := true, laidKinds := [.data, .data, .data, .data, .pinned, .pinned], laidTests := true, laidLooks := .later }
def ModverFitsCardSaid : Prop := Claim7.holds Tryz.pinned (.plain (OpenSpec.ofChange modverFitsSpec)) modverFitsCard

/-- THE TIED CARD OF 'ledgerlaw11.ModverKeeps'. -/
def modverKeepsCard : Claim7 := { stood := { row := modverKeepsRow, standIns := [], harness := (true, "ee7be59d90bd986c59dca611242f210df40b79f42b9eff82155175d3b27e644f"), looks := false }, kinds := [], alts := [], laidByText := true, laidKinds := [.data, .data, .data, .data, .pinned, .pinned], laidTests := true, laidLooks := .later }
def ModverKeepsCardSaid : Prop := Claim7.holds Tryz.pinned (.plain (OpenSpec.ofChange modverKeepsSpec)) modverKeepsCard

/-- THE TIED CARD OF 'ledgerlaw11.ModverSorts'. -/
def modverSortsCard : Claim7 := { stood := { row := modverSortsRow, standIns := [], harness := (true, "ee7be59d90bd986c59dca611242f210df40b79f42b9eff82155175d3b27e644f"), looks := false }, kinds := [], alts := [], laidByText := true, laidKinds := [.data, .data, .data, .pinned, .pinned], laidTests := true, laidLooks := .later }
def ModverSortsCardSaid : Prop := Claim7.holds Tryz.pinned (.plain (OpenSpec.ofChange modverSortsSpec)) modverSortsCard

/-- THE TIED CARD OF 'ledgerlaw11.ModverAll'. -/
def modverAllCard : Claim7 := { stood := { row := modverAllRow, standIns := [], harness := (true, "ee7be59d90bd986c59dca611242f210df40b79f42b9eff82155175d3b27e644f"), looks := false }, kinds := [], alts := [], laidByText := true, laidKinds := [.data, .data, .data, .data, .pinned, .pinned], laidTests := true, laidLooks := .later }
def ModverAllCardSaid : Prop := Claim7.holds Tryz.pinned (.plain (OpenSpec.ofChange modverAllSpec)) modverAllCard

/-- THE TIED CARD OF 'ledgerlaw11.ModverTexts'. -/
def modverTextsCard : Claim7 := { stood := { row := modverTextsRow, standIns := [], harness := (true, "ee7be59d90bd986c59dca611242f210df40b79f42b9eff82155175d3b27e644f"), looks := false }, kinds := [], alts := [], laidByText := true, laidKinds := [.data, .data, .data, .data, .pinned, .pinned], laidTests := true, laidLooks := .later }
def ModverTextsCardSaid : Prop := Claim7.holds Tryz.pinned (.plain (OpenSpec.ofChange modverTextsSpec)) modverTextsCard

/-- THE SECOND FORM's CARD OF 'ledgerlaw11.ModverFits'. -/
def modverFitsUptoCard : Claim7 := { stood := { row := modverFitsUptoRow, standIns := [], harness := (true, "ee7be59d90bd986c59dca611242f210df40b79f42b9eff82155175d3b27e644f"), looks := false }, kinds := [], alts := [], laidByText := true, laidKinds := [.data, .data, .data, .data, .pinned, .pinned], laidTests := true, laidLooks := .later }
def ModverFitsUptoCardSaid : Prop := Claim7.holds Tryz.pinned (.plain (OpenSpec.upto modverFitsSpec)) modverFitsUptoCard

/-- THE SECOND FORM's CARD OF 'ledgerlaw11.ModverKeeps'. -/
def modverKeepsUptoCard : Claim7 := { stood := { row := modverKeepsUptoRow, standIns := [], harness := (true, "ee7be59d90bd986c59dca611242f210df40b79f42b9eff82155175d3b27e644f"), looks := false }, kinds := [], alts := [], laidByText := true, laidKinds := [.data, .data, .data, .data, .pinned, .pinned], laidTests := true, laidLooks := .later }
def ModverKeepsUptoCardSaid : Prop := Claim7.holds Tryz.pinned (.plain (OpenSpec.upto modverKeepsSpec)) modverKeepsUptoCard

/-- THE SECOND FORM's CARD OF 'ledgerlaw11.ModverSorts'. -/
def modverSortsUptoCard : Claim7 := { stood := { row := modverSortsUptoRow, standIns := [], harness := (true, "ee7be59d90bd986c59dca611242f210df40b79f42b9eff82155175d3b27e644f"), looks := false }, kinds := [], alts := [], laidByText := true, laidKinds := [.data, .data, .data, .pinned, .pinned], laidTests := true, laidLooks := .later }
def ModverSortsUptoCardSaid : Prop := Claim7.holds Tryz.pinned (.plain (OpenSpec.upto modverSortsSpec)) modverSortsUptoCard

/-- THE SECOND FORM's CARD OF 'ledgerlaw11.ModverAll'. -/
def modverAllUptoCard : Claim7 := { stood := { row := modverAllUptoRow, standIns := [], harness := (true, "ee7be59d90bd986c59dca611242f210df40b79f42b9eff82155175d3b27e644f"), looks := false }, kinds := [], alts := [], laidByText := true, laidKinds := [.data, .data, .data, .data, .pinned, .pinned], laidTests := true, laidLooks := .later }
def ModverAllUptoCardSaid : Prop := Claim7.holds Tryz.pinned (.plain (OpenSpec.upto modverAllSpec)) modverAllUptoCard

/-- THE SECOND FORM's CARD OF 'ledgerlaw11.ModverTexts'. -/
def modverTextsUptoCard : Claim7 := { stood := { row := modverTextsUptoRow, standIns := [], harness := (true, "ee7be59d90bd986c59dca611242f210df40b79f42b9eff82155175d3b27e644f"), looks := false }, kinds := [], alts := [], laidByText := true, laidKinds := [.data, .data, .data, .data, .pinned, .pinned], laidTests := true, laidLooks := .later }
def ModverTextsUptoCardSaid : Prop := Claim7.holds Tryz.pinned (.plain (OpenSpec.upto modverTextsSpec)) modverTextsUptoCard
end Rows
end Go.Proofs.YtnimaenhijlcmaaGreatDoor
