/-
  DERIVED. GIVEN WITH THE SEED: THE CARDS: each row of YtnimaenhijlcmaaDoorRows.lean that lists a variable, with what it lists TIED to the program's text (the seventh form; the later family's looks); each row that meets fmt, with fmt's text TOLD by the authors' own Lean function (tested against real Go, not proved from fmt's source: count such statements apart). THE CARD IS WHAT COUNTS. Prove the row's statement (the work); the ties are given (YtnimaenhijlcmaaDoorTie.lean); close each card by the builder's one call (the guide's Derived/Test/ToyasCard.lean, 'card_holds'). Laid BY PROGRAM, IN A SANDBOX (cutbox-door.mjs). By AI agents, Wed Nov 11 2026. No macro, syntax, notation, axiom, sorry.
-/
import Derived.Test.YtnimaenhijlcmaaDoorRows
import GoSem.ClaimSeven
namespace Go.Proofs.YtnimaenhijlcmaaDoor
namespace Rows

/-- THE TIED CARD OF 'ledgerlaw11.ModverNumbers'. -/
def modverNumbersCard : Claim7 := { stood := { row := modverNumbersRow, standIns := [], harness := (true, "4b9403df76348173c1175b551b9578d1ead22ef5e143d2fa4ef7a4ffd6cce68a"), looks := false }, kinds := [], alts := [], laidByText := true, laidKinds := [.data, .data, .data, .data, .pinned], laidTests := true, laidLooks := .later }
def ModverNumbersCardSaid : Prop := Claim7.holds Tryd.pinned (.plain (OpenSpec.ofChange modverNumbersSpec)) modverNumbersCard

/-- THE TIED CARD OF 'ledgerlaw11.ModverCompares'. -/
def modverComparesCard : Claim7 := { stood := { row := modverComparesRow, standIns := [], harness := (true, "4b9403df76348173c1175b551b9578d1ead22ef5e143d2fa4ef7a4ffd6cce68a"), looks := false }, kinds := [], alts := [], laidByText := true, laidKinds := [.data, .data, .data, .pinned, .pinned], laidTests := true, laidLooks := .later }
def ModverComparesCardSaid : Prop := Claim7.holds Tryd.pinned (.plain (OpenSpec.ofChange modverComparesSpec)) modverComparesCard

/-- THE TIED CARD OF 'ledgerlaw11.ModverOrders'. -/
def modverOrdersCard : Claim7 := { stood := { row := modverOrdersRow, standIns := [], harness := (true, "4b9403df76348173c1175b551b9578d1ead22ef5e143d2fa4ef7a4ffd6cce68a"), looks := false }, kinds := [], alts := [], laidByText := true, laidKinds := [.data, .data, .data, .pinned, .pinned], laidTests := true, laidLooks := .later }
def ModverOrdersCardSaid : Prop := Claim7.holds Tryd.pinned (.plain (OpenSpec.ofChange modverOrdersSpec)) modverOrdersCard

/-- THE TIED CARD OF 'ledgerlaw11.ModverFolds'. -/
def modverFoldsCard : Claim7 := { stood := { row := modverFoldsRow, standIns := [], harness := (true, "4b9403df76348173c1175b551b9578d1ead22ef5e143d2fa4ef7a4ffd6cce68a"), looks := false }, kinds := [], alts := [], laidByText := true, laidKinds := [.data, .data, .data, .pinned, .pinned], laidTests := true, laidLooks := .later }
def ModverFoldsCardSaid : Prop := Claim7.holds Tryd.pinned (.plain (OpenSpec.ofChange modverFoldsSpec)) modverFoldsCard

/-- THE TIED CARD OF 'ledgerlaw11.ModverMajors'. -/
def modverMajorsCard : Claim7 := { stood := { row := modverMajorsRow, standIns := [], harness := (true, "4b9403df76348173c1175b551b9578d1ead22ef5e143d2fa4ef7a4ffd6cce68a"), looks := false }, kinds := [], alts := [], laidByText := true, laidKinds := [.data, .data, .data, .pinned, .pinned], laidTests := true, laidLooks := .later }
def ModverMajorsCardSaid : Prop := Claim7.holds Tryd.pinned (.plain (OpenSpec.ofChange modverMajorsSpec)) modverMajorsCard

/-- THE TIED CARD OF 'ledgerlaw11.ModverBytes'. -/
def modverBytesCard : Claim7 := { stood := { row := modverBytesRow, standIns := [], harness := (true, "4b9403df76348173c1175b551b9578d1ead22ef5e143d2fa4ef7a4ffd6cce68a"), looks := false }, kinds := [], alts := [], laidByText := true, laidKinds := [.data, .data, .data, .pinned, .pinned], laidTests := true, laidLooks := .later }
def ModverBytesCardSaid : Prop := Claim7.holds Tryd.pinned (.plain (OpenSpec.ofChange modverBytesSpec)) modverBytesCard

/-- THE TIED CARD OF 'ledgerlaw11.ModverOnce'. -/
def modverOnceCard : Claim7 := { stood := { row := modverOnceRow, standIns := [], harness := (true, "4b9403df76348173c1175b551b9578d1ead22ef5e143d2fa4ef7a4ffd6cce68a"), looks := false }, kinds := [], alts := [], laidByText := true, laidKinds := [.data, .data, .data, .pinned, .pinned], laidTests := true, laidLooks := .later }
def ModverOnceCardSaid : Prop := Claim7.holds Tryd.pinned (.plain (OpenSpec.ofChange modverOnceSpec)) modverOnceCard

/-- THE TIED CARD OF 'ledgerlaw11.ModverBack'. -/
def modverBackCard : Claim7 := { stood := { row := modverBackRow, standIns := [], harness := (true, "4b9403df76348173c1175b551b9578d1ead22ef5e143d2fa4ef7a4ffd6cce68a"), looks := false }, kinds := [], alts := [], laidByText := true, laidKinds := [.data, .data, .data, .pinned, .pinned], laidTests := true, laidLooks := .later }
def ModverBackCardSaid : Prop := Claim7.holds Tryd.pinned (.plain (OpenSpec.ofChange modverBackSpec)) modverBackCard

/-- THE SECOND FORM's CARD OF 'ledgerlaw11.ModverNumbers'. -/
def modverNumbersUptoCard : Claim7 := { stood := { row := modverNumbersUptoRow, standIns := [], harness := (true, "4b9403df76348173c1175b551b9578d1ead22ef5e143d2fa4ef7a4ffd6cce68a"), looks := false }, kinds := [], alts := [], laidByText := true, laidKinds := [.data, .data, .data, .data, .pinned], laidTests := true, laidLooks := .later }
def ModverNumbersUptoCardSaid : Prop := Claim7.holds Tryd.pinned (.plain (OpenSpec.upto modverNumbersSpec)) modverNumbersUptoCard

/-- THE SECOND FORM's CARD OF 'ledgerlaw11.ModverCompares'. -/
def modverComparesUptoCard : Claim7 := { stood := { row := modverComparesUptoRow, standIns := [], harness := (true, "4b9403df76348173c1175b551b9578d1ead22ef5e143d2fa4ef7a4ffd6cce68a"), looks := false }, kinds := [], alts := [], laidByText := true, laidKinds := [.data, .data, .data, .pinned, .pinned], laidTests := true, laidLooks := .later }
def ModverComparesUptoCardSaid : Prop := Claim7.holds Tryd.pinned (.plain (OpenSpec.upto modverComparesSpec)) modverComparesUptoCard

/-- THE SECOND FORM's CARD OF 'ledgerlaw11.ModverOrders'. -/
def modverOrdersUptoCard : Claim7 := { stood := { row := modverOrdersUptoRow, standIns := [], harness := (true, "4b9403df76348173c1175b551b9578d1ead22ef5e143d2fa4ef7a4ffd6cce68a"), looks := false }, kinds := [], alts := [], laidByText := true, laidKinds := [.data, .data, .data, .pinned, .pinned], laidTests := true, laidLooks := .later }
def ModverOrdersUptoCardSaid : Prop := Claim7.holds Tryd.pinned (.plain (OpenSpec.upto modverOrdersSpec)) modverOrdersUptoCard

/-- THE SECOND FORM's CARD OF 'ledgerlaw11.ModverFolds'. -/
def modverFoldsUptoCard : Claim7 := { stood := { row := modverFoldsUptoRow, standIns := [], harness := (true, "4b9403df76348173c1175b551b9578d1ead22ef5e143d2fa4ef7a4ffd6cce68a"), looks := false }, kinds := [], alts := [], laidByText := true, laidKinds := [.data, .data, .data, .pinned, .pinned], laidTests := true, laidLooks := .later }
def ModverFoldsUptoCardSaid : Prop := Claim7.holds Tryd.pinned (.plain (OpenSpec.upto modverFoldsSpec)) modverFoldsUptoCard

/-- THE SECOND FORM's CARD OF 'ledgerlaw11.ModverMajors'. -/
def modverMajorsUptoCard : Claim7 := { stood := { row := modverMajorsUptoRow, standIns := [], harness := (true, "4b9403df76348173c1175b551b9578d1ead22ef5e143d2fa4ef7a4ffd6cce68a"), looks := false }, kinds := [], alts := [], laidByText := true, laidKinds := [.data, .data, .data, .pinned, .pinned], laidTests := true, laidLooks := .later }
def ModverMajorsUptoCardSaid : Prop := Claim7.holds Tryd.pinned (.plain (OpenSpec.upto modverMajorsSpec)) modverMajorsUptoCard

/-- THE SECOND FORM's CARD OF 'ledgerlaw11.ModverBytes'. -/
def modverBytesUptoCard : Claim7 := { stood := { row := modverBytesUptoRow, standIns := [], harness := (true, "4b9403df76348173c1175b551b9578d1ead22ef5e143d2fa4ef7a4ffd6cce68a"), looks := false }, kinds := [], alts := [], laidByText := true, laidKinds := [.data, .data, .data, .pinned, .pinned], laidTests := true, laidLooks := .later }
def ModverBytesUptoCardSaid : Prop := Claim7.holds Tryd.pinned (.plain (OpenSpec.upto modverBytesSpec)) modverBytesUptoCard

/-- THE SECOND FORM's CARD OF 'ledgerlaw11.ModverOnce'. -/
def modverOnceUptoCard : Claim7 := { stood := { row := modverOnceUptoRow, standIns := [], harness := (true, "4b9403df76348173c1175b551b9578d1ead22ef5e143d2fa4ef7a4ffd6cce68a"), looks := false }, kinds := [], alts := [], laidByText := true, laidKinds := [.data, .data, .data, .pinned, .pinned], laidTests := true, laidLooks := .later }
def ModverOnceUptoCardSaid : Prop := Claim7.holds Tryd.pinned (.plain (OpenSpec.upto modverOnceSpec)) modverOnceUptoCard

/-- THE SECOND FORM's CARD OF 'ledgerlaw11.ModverBack'. -/
def modverBackUptoCard : Claim7 := { stood := { row := modverBackUptoRow, standIns := [], harness := (true, "4b9403df76348173c1175b551b9578d1ead22ef5e143d2fa4ef7a4ffd6cce68a"), looks := false }, kinds := [], alts := [], laidByText := true, laidKinds := [.data, .data, .data, .pinned, .pinned], laidTests := true, laidLooks := .later }
def ModverBackUptoCardSaid : Prop := Claim7.holds Tryd.pinned (.plain (OpenSpec.upto modverBackSpec)) modverBackUptoCard
end Rows
end Go.Proofs.YtnimaenhijlcmaaDoor
