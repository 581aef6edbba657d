/-
  DERIVED. GIVEN WITH THE SEED: THE CARDS: each row of YthgojbdpmcccaaaGreatDoorRows.lean that lists a variable, with what it lists TIED to the program's text (the seventh form; the later family's looks); each row that meets fmt, with fmt's text TOLD by the authors' own Lean function (tested against real Go, not proved from fmt's source: count such statements apart). THE CARD IS WHAT COUNTS. Prove the row's statement (the work); the ties are given (YthgojbdpmcccaaaGreatDoorTie.lean); close each card by the builder's one call (the guide's Derived/Test/ToyasCard.lean, 'card_holds'). Laid BY PROGRAM, IN A SANDBOX (cutbox-door.mjs). By AI agents, Wed Nov 11 2026. No macro, syntax, notation, axiom, sorry.
-/
import Derived.Test.YthgojbdpmcccaaaGreatDoorRows
import GoSem.ClaimSeven
namespace Go.Proofs.YthgojbdpmcccaaaGreatDoor
namespace Rows

/-- THE TIED CARD OF 'ledgerlaw14.WebWhole'. -/
def webWholeCard : Claim7 := { stood := { row := webWholeRow, standIns := [], harness := (true, "c392e600e3cc32f3b34bac08dee6e68fd9a7d2a66c642d2f8e02cd28940008b6"), looks := true }, kinds := [], alts := [], laidByText := true, laidKinds := [.data, .data, .data, .data, .sentinel, .sentinel, .sentinel, .sentinel, .sentinel, .sentinel, .sentinel, .sentinel, .sentinel, .sentinel, .sentinel, .data, .pinned], laidTests := true, laidLooks := .later }
def WebWholeCardSaid : Prop := Claim7.holds Tryz.pinned (.plain (OpenSpec.ofChange webWholeSpec)) webWholeCard

/-- THE TIED CARD OF 'ledgerlaw14.WebStreams'. -/
def webStreamsCard : Claim7 := { stood := { row := webStreamsRow, standIns := [], harness := (true, "c392e600e3cc32f3b34bac08dee6e68fd9a7d2a66c642d2f8e02cd28940008b6"), looks := true }, kinds := [], alts := [], laidByText := true, laidKinds := [.data, .data, .data, .data, .sentinel, .sentinel, .sentinel, .sentinel, .sentinel, .sentinel, .sentinel, .sentinel, .sentinel, .sentinel, .sentinel, .data, .pinned], laidTests := true, laidLooks := .later }
def WebStreamsCardSaid : Prop := Claim7.holds Tryz.pinned (.plain (OpenSpec.ofChange webStreamsSpec)) webStreamsCard

/-- THE TIED CARD OF 'ledgerlaw14.WebSmuggles'. -/
def webSmugglesCard : Claim7 := { stood := { row := webSmugglesRow, standIns := [], harness := (true, "c392e600e3cc32f3b34bac08dee6e68fd9a7d2a66c642d2f8e02cd28940008b6"), looks := true }, kinds := [], alts := [], laidByText := true, laidKinds := [.data, .data, .data, .data, .sentinel, .sentinel, .sentinel, .sentinel, .sentinel, .sentinel, .sentinel, .sentinel, .sentinel, .sentinel, .sentinel, .data, .data, .pinned], laidTests := true, laidLooks := .later }
def WebSmugglesCardSaid : Prop := Claim7.holds Tryz.pinned (.plain (OpenSpec.ofChange webSmugglesSpec)) webSmugglesCard

/-- THE TIED CARD OF 'ledgerlaw14.WebChunks'. -/
def webChunksCard : Claim7 := { stood := { row := webChunksRow, standIns := [], harness := (true, "c392e600e3cc32f3b34bac08dee6e68fd9a7d2a66c642d2f8e02cd28940008b6"), looks := true }, kinds := [], alts := [], laidByText := true, laidKinds := [.data, .data, .data, .data, .sentinel, .sentinel, .sentinel, .sentinel, .sentinel, .sentinel, .sentinel, .sentinel, .sentinel, .sentinel, .sentinel, .sentinel, .data, .pinned], laidTests := true, laidLooks := .later }
def WebChunksCardSaid : Prop := Claim7.holds Tryz.pinned (.plain (OpenSpec.ofChange webChunksSpec)) webChunksCard

/-- THE TIED CARD OF 'ledgerlaw14.WebPrints'. -/
def webPrintsCard : Claim7 := { stood := { row := webPrintsRow, standIns := [], harness := (true, "c392e600e3cc32f3b34bac08dee6e68fd9a7d2a66c642d2f8e02cd28940008b6"), looks := true }, kinds := [], alts := [], laidByText := true, laidKinds := [.data, .data, .data, .data, .data, .data, .data, .data, .sentinel, .sentinel, .sentinel, .sentinel, .sentinel, .sentinel, .sentinel, .sentinel, .sentinel, .sentinel, .sentinel, .sentinel, .data, .pinned], laidTests := true, laidLooks := .later }
def WebPrintsCardSaid : Prop := Claim7.holds Tryz.pinned (.plain (OpenSpec.ofChange webPrintsSpec)) webPrintsCard

/-- THE TIED CARD OF 'ledgerlaw14.WebAnswers'. -/
def webAnswersCard : Claim7 := { stood := { row := webAnswersRow, standIns := [], harness := (true, "c392e600e3cc32f3b34bac08dee6e68fd9a7d2a66c642d2f8e02cd28940008b6"), looks := true }, kinds := [], alts := [], laidByText := true, laidKinds := [.data, .data, .data, .data, .data, .sentinel, .sentinel, .sentinel, .sentinel, .sentinel, .sentinel, .sentinel, .sentinel, .sentinel, .sentinel, .sentinel, .sentinel, .data, .pinned], laidTests := true, laidLooks := .later }
def WebAnswersCardSaid : Prop := Claim7.holds Tryz.pinned (.plain (OpenSpec.ofChange webAnswersSpec)) webAnswersCard

/-- THE TIED CARD OF 'ledgerlaw14.WebRequests'. -/
def webRequestsCard : Claim7 := { stood := { row := webRequestsRow, standIns := [], harness := (true, "c392e600e3cc32f3b34bac08dee6e68fd9a7d2a66c642d2f8e02cd28940008b6"), looks := true }, kinds := [], alts := [], laidByText := true, laidKinds := [.data, .data, .data, .data, .data, .sentinel, .sentinel, .sentinel, .sentinel, .sentinel, .sentinel, .sentinel, .sentinel, .sentinel, .sentinel, .sentinel, .sentinel, .sentinel, .data, .pinned], laidTests := true, laidLooks := .later }
def WebRequestsCardSaid : Prop := Claim7.holds Tryz.pinned (.plain (OpenSpec.ofChange webRequestsSpec)) webRequestsCard

/-- THE TIED CARD OF 'ledgerlaw14.WebResponses'. -/
def webResponsesCard : Claim7 := { stood := { row := webResponsesRow, standIns := [], harness := (true, "c392e600e3cc32f3b34bac08dee6e68fd9a7d2a66c642d2f8e02cd28940008b6"), looks := true }, kinds := [], alts := [], laidByText := true, laidKinds := [.data, .data, .data, .data, .data, .sentinel, .sentinel, .sentinel, .sentinel, .sentinel, .sentinel, .sentinel, .sentinel, .sentinel, .sentinel, .sentinel, .sentinel, .sentinel, .data, .pinned], laidTests := true, laidLooks := .later }
def WebResponsesCardSaid : Prop := Claim7.holds Tryz.pinned (.plain (OpenSpec.ofChange webResponsesSpec)) webResponsesCard

/-- THE TIED CARD OF 'ledgerlaw14.WebKeeps'. -/
def webKeepsCard : Claim7 := { stood := { row := webKeepsRow, standIns := [], harness := (true, "c392e600e3cc32f3b34bac08dee6e68fd9a7d2a66c642d2f8e02cd28940008b6"), looks := true }, kinds := [], alts := [], laidByText := true, laidKinds := [.data, .data, .data, .data, .data, .data, .data, .sentinel, .data, .sentinel, .sentinel, .sentinel, .sentinel, .sentinel, .sentinel, .sentinel, .sentinel, .sentinel, .sentinel, .sentinel, .sentinel, .data, .pinned], laidTests := true, laidLooks := .later }
def WebKeepsCardSaid : Prop := Claim7.holds Tryz.pinned (.plain (OpenSpec.ofChange webKeepsSpec)) webKeepsCard

/-- THE TIED CARD OF 'ledgerlaw14.WebAll'. -/
def webAllCard : Claim7 := { stood := { row := webAllRow, standIns := [], harness := (true, "c392e600e3cc32f3b34bac08dee6e68fd9a7d2a66c642d2f8e02cd28940008b6"), looks := true }, kinds := [], alts := [], laidByText := true, laidKinds := [.data, .data, .data, .data, .data, .data, .data, .sentinel, .data, .sentinel, .sentinel, .sentinel, .sentinel, .sentinel, .sentinel, .sentinel, .sentinel, .sentinel, .sentinel, .sentinel, .sentinel, .data, .data, .pinned], laidTests := true, laidLooks := .later }
def WebAllCardSaid : Prop := Claim7.holds Tryz.pinned (.plain (OpenSpec.ofChange webAllSpec)) webAllCard

/-- THE SECOND FORM's CARD OF 'ledgerlaw14.WebWhole'. -/
def webWholeUptoCard : Claim7 := { stood := { row := webWholeUptoRow, standIns := [], harness := (true, "c392e600e3cc32f3b34bac08dee6e68fd9a7d2a66c642d2f8e02cd28940008b6"), looks := true }, kinds := [], alts := [], laidByText := true, laidKinds := [.data, .data, .data, .data, .sentinel, .sentinel, .sentinel, .sentinel, .sentinel, .sentinel, .sentinel, .sentinel, .sentinel, .sentinel, .sentinel, .data, .pinned], laidTests := true, laidLooks := .later }
def WebWholeUptoCardSaid : Prop := Claim7.holds Tryz.pinned (.plain (OpenSpec.upto webWholeSpec)) webWholeUptoCard

/-- THE SECOND FORM's CARD OF 'ledgerlaw14.WebStreams'. -/
def webStreamsUptoCard : Claim7 := { stood := { row := webStreamsUptoRow, standIns := [], harness := (true, "c392e600e3cc32f3b34bac08dee6e68fd9a7d2a66c642d2f8e02cd28940008b6"), looks := true }, kinds := [], alts := [], laidByText := true, laidKinds := [.data, .data, .data, .data, .sentinel, .sentinel, .sentinel, .sentinel, .sentinel, .sentinel, .sentinel, .sentinel, .sentinel, .sentinel, .sentinel, .data, .pinned], laidTests := true, laidLooks := .later }
def WebStreamsUptoCardSaid : Prop := Claim7.holds Tryz.pinned (.plain (OpenSpec.upto webStreamsSpec)) webStreamsUptoCard

/-- THE SECOND FORM's CARD OF 'ledgerlaw14.WebSmuggles'. -/
def webSmugglesUptoCard : Claim7 := { stood := { row := webSmugglesUptoRow, standIns := [], harness := (true, "c392e600e3cc32f3b34bac08dee6e68fd9a7d2a66c642d2f8e02cd28940008b6"), looks := true }, kinds := [], alts := [], laidByText := true, laidKinds := [.data, .data, .data, .data, .sentinel, .sentinel, .sentinel, .sentinel, .sentinel, .sentinel, .sentinel, .sentinel, .sentinel, .sentinel, .sentinel, .data, .data, .pinned], laidTests := true, laidLooks := .later }
def WebSmugglesUptoCardSaid : Prop := Claim7.holds Tryz.pinned (.plain (OpenSpec.upto webSmugglesSpec)) webSmugglesUptoCard

/-- THE SECOND FORM's CARD OF 'ledgerlaw14.WebChunks'. -/
def webChunksUptoCard : Claim7 := { stood := { row := webChunksUptoRow, standIns := [], harness := (true, "c392e600e3cc32f3b34bac08dee6e68fd9a7d2a66c642d2f8e02cd28940008b6"), looks := true }, kinds := [], alts := [], laidByText := true, laidKinds := [.data, .data, .data, .data, .sentinel, .sentinel, .sentinel, .sentinel, .sentinel, .sentinel, .sentinel, .sentinel, .sentinel, .sentinel, .sentinel, .sentinel, .data, .pinned], laidTests := true, laidLooks := .later }
def WebChunksUptoCardSaid : Prop := Claim7.holds Tryz.pinned (.plain (OpenSpec.upto webChunksSpec)) webChunksUptoCard

/-- THE SECOND FORM's CARD OF 'ledgerlaw14.WebPrints'. -/
def webPrintsUptoCard : Claim7 := { stood := { row := webPrintsUptoRow, standIns := [], harness := (true, "c392e600e3cc32f3b34bac08dee6e68fd9a7d2a66c642d2f8e02cd28940008b6"), looks := true }, kinds := [], alts := [], laidByText := true, laidKinds := [.data, .data, .data, .data, .data, .data, .data, .data, .sentinel, .sentinel, .sentinel, .sentinel, .sentinel, .sentinel, .sentinel, .sentinel, .sentinel, .sentinel, .sentinel, .sentinel, .data, .pinned], laidTests := true, laidLooks := .later }
def WebPrintsUptoCardSaid : Prop := Claim7.holds Tryz.pinned (.plain (OpenSpec.upto webPrintsSpec)) webPrintsUptoCard

/-- THE SECOND FORM's CARD OF 'ledgerlaw14.WebAnswers'. -/
def webAnswersUptoCard : Claim7 := { stood := { row := webAnswersUptoRow, standIns := [], harness := (true, "c392e600e3cc32f3b34bac08dee6e68fd9a7d2a66c642d2f8e02cd28940008b6"), looks := true }, kinds := [], alts := [], laidByText := true, laidKinds := [.data, .data, .data, .data, .data, .sentinel, .sentinel, .sentinel, .sentinel, .sentinel, .sentinel, .sentinel, .sentinel, .sentinel, .sentinel, .sentinel, .sentinel, .data, .pinned], laidTests := true, laidLooks := .later }
def WebAnswersUptoCardSaid : Prop := Claim7.holds Tryz.pinned (.plain (OpenSpec.upto webAnswersSpec)) webAnswersUptoCard

/-- THE SECOND FORM's CARD OF 'ledgerlaw14.WebRequests'. -/
def webRequestsUptoCard : Claim7 := { stood := { row := webRequestsUptoRow, standIns := [], harness := (true, "c392e600e3cc32f3b34bac08dee6e68fd9a7d2a66c642d2f8e02cd28940008b6"), looks := true }, kinds := [], alts := [], laidByText := true, laidKinds := [.data, .data, .data, .data, .data, .sentinel, .sentinel, .sentinel, .sentinel, .sentinel, .sentinel, .sentinel, .sentinel, .sentinel, .sentinel, .sentinel, .sentinel, .sentinel, .data, .pinned], laidTests := true, laidLooks := .later }
def WebRequestsUptoCardSaid : Prop := Claim7.holds Tryz.pinned (.plain (OpenSpec.upto webRequestsSpec)) webRequestsUptoCard

/-- THE SECOND FORM's CARD OF 'ledgerlaw14.WebResponses'. -/
def webResponsesUptoCard : Claim7 := { stood := { row := webResponsesUptoRow, standIns := [], harness := (true, "c392e600e3cc32f3b34bac08dee6e68fd9a7d2a66c642d2f8e02cd28940008b6"), looks := true }, kinds := [], alts := [], laidByText := true, laidKinds := [.data, .data, .data, .data, .data, .sentinel, .sentinel, .sentinel, .sentinel, .sentinel, .sentinel, .sentinel, .sentinel, .sentinel, .sentinel, .sentinel, .sentinel, .sentinel, .data, .pinned], laidTests := true, laidLooks := .later }
def WebResponsesUptoCardSaid : Prop := Claim7.holds Tryz.pinned (.plain (OpenSpec.upto webResponsesSpec)) webResponsesUptoCard

/-- THE SECOND FORM's CARD OF 'ledgerlaw14.WebKeeps'. -/
def webKeepsUptoCard : Claim7 := { stood := { row := webKeepsUptoRow, standIns := [], harness := (true, "c392e600e3cc32f3b34bac08dee6e68fd9a7d2a66c642d2f8e02cd28940008b6"), looks := true }, kinds := [], alts := [], laidByText := true, laidKinds := [.data, .data, .data, .data, .data, .data, .data, .sentinel, .data, .sentinel, .sentinel, .sentinel, .sentinel, .sentinel, .sentinel, .sentinel, .sentinel, .sentinel, .sentinel, .sentinel, .sentinel, .data, .pinned], laidTests := true, laidLooks := .later }
def WebKeepsUptoCardSaid : Prop := Claim7.holds Tryz.pinned (.plain (OpenSpec.upto webKeepsSpec)) webKeepsUptoCard

/-- THE SECOND FORM's CARD OF 'ledgerlaw14.WebAll'. -/
def webAllUptoCard : Claim7 := { stood := { row := webAllUptoRow, standIns := [], harness := (true, "c392e600e3cc32f3b34bac08dee6e68fd9a7d2a66c642d2f8e02cd28940008b6"), looks := true }, kinds := [], alts := [], laidByText := true, laidKinds := [.data, .data, .data, .data, .data, .data, .data, .sentinel, .data, .sentinel, .sentinel, .sentinel, .sentinel, .sentinel, .sentinel, .sentinel, .sentinel, .sentinel, .sentinel, .sentinel, .sentinel, .data, .data, .pinned], laidTests := true, laidLooks := .later }
def WebAllUptoCardSaid : Prop := Claim7.holds Tryz.pinned (.plain (OpenSpec.upto webAllSpec)) webAllUptoCard
end Rows
end Go.Proofs.YthgojbdpmcccaaaGreatDoor
