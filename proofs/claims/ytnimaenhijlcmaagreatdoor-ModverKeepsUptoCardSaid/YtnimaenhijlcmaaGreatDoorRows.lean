/-
  NARROWER THAN 'FOR EVERY INPUT', by the rows' own cells (each row's printed sentence says how): ModverFits: laid · ModverKeeps: laid · ModverSorts: laid · ModverAll: laid · ModverTexts: laid.
  DERIVED. THE GIVEN ROWS OF THIS SEAT. 5 by the template 'for every input the law returns true; each argument reads behind the call as it read before'; 0 by the template 'total and deterministic' (their statements: YtnimaenhijlcmaaGreatDoorTotals.lean).
  GIVEN WITH THE SEED: the statements are not yours to turn. If you find one false, say at which input.
  Laid BY PROGRAM, IN A SANDBOX (cutbox-rows.mjs): the forced cells as the released guide's own fill.sh prints them over the translation ebc40f685d31100a… (all of the seat's roots in one cut). By AI agents, Wed Nov 11 2026. No macro, syntax, notation, axiom, sorry.
-/
import Derived.Test.YtnimaenhijlcmaaGreatDoorChecked
import GoSem.PinnedTables
import GoSem.Claim
import GoSem.ClaimJoined
import GoSem.ClaimMapViews
import Derived.JoinedTies
import Derived.KernelRfl
namespace Go.Proofs.YtnimaenhijlcmaaGreatDoor
/- THE CELL 'sum', in the pinned program and in every row, IS THE sha256 OF THE DUMP (.gsa) THAT YtnimaenhijlcmaaGreatDoorProg.lean LOADS. Nothing in Lean hashes anything: it is a label: what it is worth is what the hold of that sum in a sandbox is worth. -/
noncomputable def Tryz.pinned : Pinned := { name := "ytnimaenhijlcmaagreatdoor", sum := "ebc40f685d31100a71e37ed69fd1d0a763cbbba6a84440ce74391fa087c6eda2", checked := Tryz.checked }
namespace Rows
def none {H : Type} : Left H := { results := [], args := [] }

/- WHAT THE LISTED PACKAGE-LEVEL VARIABLES READ AS WHEN THE CALL BEGINS. Each datum BY PROGRAM (the guide's laid-datum.mjs) off the statement by which the dump's own 'gosem.cut.vars' lays the variable. In a bare row this is a premise. The card (YtnimaenhijlcmaaGreatDoorCards.lean) ties it to the program's text. -/
def laid_ledger_ledgerref11_taken {H : Type} : DataW H := .agg [.lit (.string [99, 111, 110]), .lit (.string [112, 114, 110]), .lit (.string [97, 117, 120]), .lit (.string [110, 117, 108]), .lit (.string [99, 111, 109, 49]), .lit (.string [99, 111, 109, 50]), .lit (.string [99, 111, 109, 51]), .lit (.string [99, 111, 109, 52]), .lit (.string [99, 111, 109, 53]), .lit (.string [99, 111, 109, 54]), .lit (.string [99, 111, 109, 55]), .lit (.string [99, 111, 109, 56]), .lit (.string [99, 111, 109, 57]), .lit (.string [108, 112, 116, 49]), .lit (.string [108, 112, 116, 50]), .lit (.string [108, 112, 116, 51]), .lit (.string [108, 112, 116, 52]), .lit (.string [108, 112, 116, 53]), .lit (.string [108, 112, 116, 54]), .lit (.string [108, 112, 116, 55]), .lit (.string [108, 112, 116, 56]), .lit (.string [108, 112, 116, 57])]
def laid_unicode_utf8_acceptRanges {H : Type} : DataW H := .agg [.agg [.lit (.int .u8 128), .lit (.int .u8 191)], .agg [.lit (.int .u8 160), .lit (.int .u8 191)], .agg [.lit (.int .u8 128), .lit (.int .u8 159)], .agg [.lit (.int .u8 144), .lit (.int .u8 191)], .agg [.lit (.int .u8 128), .lit (.int .u8 143)], .agg [.lit (.int .u8 0), .lit (.int .u8 0)], .agg [.lit (.int .u8 0), .lit (.int .u8 0)], .agg [.lit (.int .u8 0), .lit (.int .u8 0)], .agg [.lit (.int .u8 0), .lit (.int .u8 0)], .agg [.lit (.int .u8 0), .lit (.int .u8 0)], .agg [.lit (.int .u8 0), .lit (.int .u8 0)], .agg [.lit (.int .u8 0), .lit (.int .u8 0)], .agg [.lit (.int .u8 0), .lit (.int .u8 0)], .agg [.lit (.int .u8 0), .lit (.int .u8 0)], .agg [.lit (.int .u8 0), .lit (.int .u8 0)], .agg [.lit (.int .u8 0), .lit (.int .u8 0)]]
def laid_ledger_modver_devices {H : Type} : DataW H := .agg [.lit (.string [99, 111, 110]), .lit (.string [112, 114, 110]), .lit (.string [97, 117, 120]), .lit (.string [110, 117, 108]), .lit (.string [99, 111, 109, 49]), .lit (.string [99, 111, 109, 50]), .lit (.string [99, 111, 109, 51]), .lit (.string [99, 111, 109, 52]), .lit (.string [99, 111, 109, 53]), .lit (.string [99, 111, 109, 54]), .lit (.string [99, 111, 109, 55]), .lit (.string [99, 111, 109, 56]), .lit (.string [99, 111, 109, 57]), .lit (.string [108, 112, 116, 49]), .lit (.string [108, 112, 116, 50]), .lit (.string [108, 112, 116, 51]), .lit (.string [108, 112, 116, 52]), .lit (.string [108, 112, 116, 53]), .lit (.string [108, 112, 116, 54]), .lit (.string [108, 112, 116, 55]), .lit (.string [108, 112, 116, 56]), .lit (.string [108, 112, 116, 57])]
def laid_ledger_modver_marks {H : Type} : DataW H := .agg [.lit (.int .i32 45), .lit (.int .i32 46), .lit (.int .i32 95), .lit (.int .i32 126), .lit (.int .i32 47)]
/-- One of Go's own tables, pinned by name: the form's constant. -/
def laid_unicode_CaseRanges : DataW Unit := Go.Pinned.caseRanges
/-- One of Go's own tables, pinned by name: the form's constant. -/
def laid_unicode_utf8_first : DataW Unit := Go.Pinned.utf8First

/-- 'ledgerlaw11.ModverFits': WHATEVER THE INPUT: true; the input reads as it did. -/
def modverFitsSpec : ChangeSpec := { name := "modverFits", fn := fun _ => fun
  | [d1, d2, d3] => { results := [.lit (.bool true)], args := [d1, d2, d3] }
  | _ => none }
def modverFitsRow : OpenClaim := { program := "ytnimaenhijlcmaagreatdoor", sum := "ebc40f685d31100a71e37ed69fd1d0a763cbbba6a84440ce74391fa087c6eda2", func := "ledger/ledgerlaw11.ModverFits", spec := "modverFits", inPlace := ["internal/bytealg.CountString", "internal/bytealg.IndexByteString", "internal/bytealg.IndexString", "internal/abi.NoEscape", "internal/bytealg.MakeNoZero"], unfollowed := true, recurses := true, named := ["ledger/ledgerref11.taken", "ledger/modver.marks", "unicode/utf8.first", "unicode/utf8.acceptRanges", "internal/bytealg.MaxLen", "ledger/modver.devices", "unicode.CaseRanges"], apart := false, laid := [("ledger/ledgerref11.taken", laid_ledger_ledgerref11_taken), ("unicode/utf8.acceptRanges", laid_unicode_utf8_acceptRanges), ("ledger/modver.devices", laid_ledger_modver_devices), ("ledger/modver.marks", laid_ledger_modver_marks), ("unicode.CaseRanges", laid_unicode_CaseRanges), ("unicode/utf8.first", laid_unicode_utf8_first)] }
def ModverFitsSaid : Prop := modverFitsRow.holds Tryz.pinned (OpenSpec.ofChange modverFitsSpec)

/-- ITS FALSE NEIGHBOUR: 'it returns false'. Refute it at one input. -/
def modverFitsWrong : ChangeSpec := { name := "modverFits", fn := fun _ => fun
  | [d1, d2, d3] => { results := [.lit (.bool false)], args := [d1, d2, d3] }
  | _ => none }
def ModverFitsWrongFalsely : Prop := modverFitsRow.holds Tryz.pinned (OpenSpec.ofChange modverFitsWrong)

/-- 'ledgerlaw11.ModverKeeps': WHATEVER THE INPUT: true; the input reads as it did. -/
def modverKeepsSpec : ChangeSpec := { name := "modverKeeps", fn := fun _ => fun
  | [d] => { results := [.lit (.bool true)], args := [d] }
  | _ => none }
def modverKeepsRow : OpenClaim := { program := "ytnimaenhijlcmaagreatdoor", sum := "ebc40f685d31100a71e37ed69fd1d0a763cbbba6a84440ce74391fa087c6eda2", func := "ledger/ledgerlaw11.ModverKeeps", spec := "modverKeeps", inPlace := ["internal/bytealg.CountString", "internal/bytealg.IndexByteString", "internal/bytealg.IndexString", "internal/abi.NoEscape", "internal/bytealg.MakeNoZero"], unfollowed := true, recurses := true, named := ["ledger/ledgerref11.taken", "internal/bytealg.MaxLen", "ledger/modver.marks", "unicode/utf8.first", "unicode/utf8.acceptRanges", "ledger/modver.devices", "unicode.CaseRanges"], apart := false, laid := [("ledger/ledgerref11.taken", laid_ledger_ledgerref11_taken), ("unicode/utf8.acceptRanges", laid_unicode_utf8_acceptRanges), ("ledger/modver.devices", laid_ledger_modver_devices), ("ledger/modver.marks", laid_ledger_modver_marks), ("unicode.CaseRanges", laid_unicode_CaseRanges), ("unicode/utf8.first", laid_unicode_utf8_first)] }
def ModverKeepsSaid : Prop := modverKeepsRow.holds Tryz.pinned (OpenSpec.ofChange modverKeepsSpec)

/-- ITS FALSE NEIGHBOUR: 'it returns false'. Refute it at one input. -/
def modverKeepsWrong : ChangeSpec := { name := "modverKeeps", fn := fun _ => fun
  | [d] => { results := [.lit (.bool false)], args := [d] }
  | _ => none }
def ModverKeepsWrongFalsely : Prop := modverKeepsRow.holds Tryz.pinned (OpenSpec.ofChange modverKeepsWrong)

/-- 'ledgerlaw11.ModverSorts': WHATEVER THE INPUT: true; the input reads as it did. -/
def modverSortsSpec : ChangeSpec := { name := "modverSorts", fn := fun _ => fun
  | [d] => { results := [.lit (.bool true)], args := [d] }
  | _ => none }
def modverSortsRow : OpenClaim := { program := "ytnimaenhijlcmaagreatdoor", sum := "ebc40f685d31100a71e37ed69fd1d0a763cbbba6a84440ce74391fa087c6eda2", func := "ledger/ledgerlaw11.ModverSorts", spec := "modverSorts", inPlace := ["internal/bytealg.CountString", "internal/bytealg.IndexByteString", "internal/bytealg.IndexString", "internal/abi.NoEscape", "internal/bytealg.MakeNoZero"], unfollowed := true, recurses := true, named := ["internal/bytealg.MaxLen", "ledger/modver.marks", "unicode/utf8.first", "unicode/utf8.acceptRanges", "ledger/modver.devices", "unicode.CaseRanges"], apart := false, laid := [("unicode/utf8.acceptRanges", laid_unicode_utf8_acceptRanges), ("ledger/modver.devices", laid_ledger_modver_devices), ("ledger/modver.marks", laid_ledger_modver_marks), ("unicode.CaseRanges", laid_unicode_CaseRanges), ("unicode/utf8.first", laid_unicode_utf8_first)] }
def ModverSortsSaid : Prop := modverSortsRow.holds Tryz.pinned (OpenSpec.ofChange modverSortsSpec)

/-- ITS FALSE NEIGHBOUR: 'it returns false'. Refute it at one input. -/
def modverSortsWrong : ChangeSpec := { name := "modverSorts", fn := fun _ => fun
  | [d] => { results := [.lit (.bool false)], args := [d] }
  | _ => none }
def ModverSortsWrongFalsely : Prop := modverSortsRow.holds Tryz.pinned (OpenSpec.ofChange modverSortsWrong)

/-- 'ledgerlaw11.ModverAll': WHATEVER THE INPUT: true; the input reads as it did. -/
def modverAllSpec : ChangeSpec := { name := "modverAll", fn := fun _ => fun
  | [d] => { results := [.lit (.bool true)], args := [d] }
  | _ => none }
def modverAllRow : OpenClaim := { program := "ytnimaenhijlcmaagreatdoor", sum := "ebc40f685d31100a71e37ed69fd1d0a763cbbba6a84440ce74391fa087c6eda2", func := "ledger/ledgerlaw11.ModverAll", spec := "modverAll", inPlace := ["internal/bytealg.CountString", "internal/bytealg.IndexByteString", "internal/bytealg.IndexString", "internal/abi.NoEscape", "internal/bytealg.MakeNoZero"], unfollowed := true, recurses := true, named := ["ledger/modver.marks", "unicode/utf8.first", "unicode/utf8.acceptRanges", "internal/bytealg.MaxLen", "ledger/modver.devices", "unicode.CaseRanges", "ledger/ledgerref11.taken"], apart := false, laid := [("ledger/ledgerref11.taken", laid_ledger_ledgerref11_taken), ("unicode/utf8.acceptRanges", laid_unicode_utf8_acceptRanges), ("ledger/modver.devices", laid_ledger_modver_devices), ("ledger/modver.marks", laid_ledger_modver_marks), ("unicode.CaseRanges", laid_unicode_CaseRanges), ("unicode/utf8.first", laid_unicode_utf8_first)] }
def ModverAllSaid : Prop := modverAllRow.holds Tryz.pinned (OpenSpec.ofChange modverAllSpec)

/-- ITS FALSE NEIGHBOUR: 'it returns false'. Refute it at one input. -/
def modverAllWrong : ChangeSpec := { name := "modverAll", fn := fun _ => fun
  | [d] => { results := [.lit (.bool false)], args := [d] }
  | _ => none }
def ModverAllWrongFalsely : Prop := modverAllRow.holds Tryz.pinned (OpenSpec.ofChange modverAllWrong)

/-- 'ledgerlaw11.ModverTexts': WHATEVER THE INPUT: true; the input reads as it did. -/
def modverTextsSpec : ChangeSpec := { name := "modverTexts", fn := fun _ => fun
  | [d] => { results := [.lit (.bool true)], args := [d] }
  | _ => none }
def modverTextsRow : OpenClaim := { program := "ytnimaenhijlcmaagreatdoor", sum := "ebc40f685d31100a71e37ed69fd1d0a763cbbba6a84440ce74391fa087c6eda2", func := "ledger/ledgerlaw11.ModverTexts", spec := "modverTexts", inPlace := ["internal/bytealg.CountString", "internal/bytealg.IndexByteString", "internal/bytealg.IndexString", "internal/abi.NoEscape", "internal/bytealg.MakeNoZero"], unfollowed := true, recurses := true, named := ["ledger/modver.marks", "unicode/utf8.first", "unicode/utf8.acceptRanges", "internal/bytealg.MaxLen", "ledger/modver.devices", "unicode.CaseRanges", "ledger/ledgerref11.taken"], apart := false, laid := [("ledger/ledgerref11.taken", laid_ledger_ledgerref11_taken), ("unicode/utf8.acceptRanges", laid_unicode_utf8_acceptRanges), ("ledger/modver.devices", laid_ledger_modver_devices), ("ledger/modver.marks", laid_ledger_modver_marks), ("unicode.CaseRanges", laid_unicode_CaseRanges), ("unicode/utf8.first", laid_unicode_utf8_first)] }
def ModverTextsSaid : Prop := modverTextsRow.holds Tryz.pinned (OpenSpec.ofChange modverTextsSpec)

/-- ITS FALSE NEIGHBOUR: 'it returns false'. Refute it at one input. -/
def modverTextsWrong : ChangeSpec := { name := "modverTexts", fn := fun _ => fun
  | [d] => { results := [.lit (.bool false)], args := [d] }
  | _ => none }
def ModverTextsWrongFalsely : Prop := modverTextsRow.holds Tryz.pinned (OpenSpec.ofChange modverTextsWrong)

/- THE SECOND FORM. 'bulk': how many values and letters a reading holds, each counted each time it is reached (what is shared counts as often as it is met; a slice's spare places count too). A statement '..UptoSaid' is the law's where the arguments, and the package variables that the reading takes, are together of bulk at most 1048576: NARROWER than '..Said'. Prove '..Said' where nothing that the law and all that it calls make is longer than what came in: it says more and counts as full. Else prove '..UptoSaid'. A law counts once. -/
mutual
def uptoBulk {H : Type} : DataW H → Nat
  | .lit (.string bytes) => bytes.length + 1
  | .lit _ => 1
  | .nil => 1
  | .ptr d => uptoBulk d + 1
  | .slice elems spare => uptoBulkAll elems + uptoBulkAll spare + 1
  | .agg parts => uptoBulkAll parts + 1
  | .iface _ d => uptoBulk d + 1
  | .map entries => uptoBulkEntries entries + 1
  | .held _ => 1
def uptoBulkAll {H : Type} : List (DataW H) → Nat
  | [] => 0
  | d :: r => uptoBulk d + uptoBulkAll r
def uptoBulkEntries {H : Type} : List (Lit × DataW H) → Nat
  | [] => 0
  | x :: r => uptoBulkEntry x + uptoBulkEntries r
def uptoBulkEntry {H : Type} : Lit × DataW H → Nat
  | (.string bytes, d) => bytes.length + uptoBulk d + 1
  | (_, d) => uptoBulk d + 1
 end
def uptoSmall : (H : Type) → List (DataW H) → Bool := fun _ ds => decide (uptoBulkAll ds ≤ 1048576)
def OpenSpec.upto (s : _root_.Go.ChangeSpec) : _root_.Go.OpenSpec := { _root_.Go.OpenSpec.ofChange s with cond := some uptoSmall }

/-- 'ledgerlaw11.ModverFits', WHERE WHAT IT READS IS OF BULK AT MOST 1048576: true; the input reads as it did. -/
def modverFitsUptoRow : OpenClaim := { program := "ytnimaenhijlcmaagreatdoor", sum := "ebc40f685d31100a71e37ed69fd1d0a763cbbba6a84440ce74391fa087c6eda2", func := "ledger/ledgerlaw11.ModverFits", spec := "modverFits", inPlace := ["internal/bytealg.CountString", "internal/bytealg.IndexByteString", "internal/bytealg.IndexString", "internal/abi.NoEscape", "internal/bytealg.MakeNoZero"], unfollowed := true, recurses := true, named := ["ledger/ledgerref11.taken", "ledger/modver.marks", "unicode/utf8.first", "unicode/utf8.acceptRanges", "internal/bytealg.MaxLen", "ledger/modver.devices", "unicode.CaseRanges"], apart := false, laid := [("ledger/ledgerref11.taken", laid_ledger_ledgerref11_taken), ("unicode/utf8.acceptRanges", laid_unicode_utf8_acceptRanges), ("ledger/modver.devices", laid_ledger_modver_devices), ("ledger/modver.marks", laid_ledger_modver_marks), ("unicode.CaseRanges", laid_unicode_CaseRanges), ("unicode/utf8.first", laid_unicode_utf8_first)], narrowed := true }
def ModverFitsUptoSaid : Prop := modverFitsUptoRow.holds Tryz.pinned (OpenSpec.upto modverFitsSpec)

/-- 'ledgerlaw11.ModverKeeps', WHERE WHAT IT READS IS OF BULK AT MOST 1048576: true; the input reads as it did. -/
def modverKeepsUptoRow : OpenClaim := { program := "ytnimaenhijlcmaagreatdoor", sum := "ebc40f685d31100a71e37ed69fd1d0a763cbbba6a84440ce74391fa087c6eda2", func := "ledger/ledgerlaw11.ModverKeeps", spec := "modverKeeps", inPlace := ["internal/bytealg.CountString", "internal/bytealg.IndexByteString", "internal/bytealg.IndexString", "internal/abi.NoEscape", "internal/bytealg.MakeNoZero"], unfollowed := true, recurses := true, named := ["ledger/ledgerref11.taken", "internal/bytealg.MaxLen", "ledger/modver.marks", "unicode/utf8.first", "unicode/utf8.acceptRanges", "ledger/modver.devices", "unicode.CaseRanges"], apart := false, laid := [("ledger/ledgerref11.taken", laid_ledger_ledgerref11_taken), ("unicode/utf8.acceptRanges", laid_unicode_utf8_acceptRanges), ("ledger/modver.devices", laid_ledger_modver_devices), ("ledger/modver.marks", laid_ledger_modver_marks), ("unicode.CaseRanges", laid_unicode_CaseRanges), ("unicode/utf8.first", laid_unicode_utf8_first)], narrowed := true }
def ModverKeepsUptoSaid : Prop := modverKeepsUptoRow.holds Tryz.pinned (OpenSpec.upto modverKeepsSpec)

/-- 'ledgerlaw11.ModverSorts', WHERE WHAT IT READS IS OF BULK AT MOST 1048576: true; the input reads as it did. -/
def modverSortsUptoRow : OpenClaim := { program := "ytnimaenhijlcmaagreatdoor", sum := "ebc40f685d31100a71e37ed69fd1d0a763cbbba6a84440ce74391fa087c6eda2", func := "ledger/ledgerlaw11.ModverSorts", spec := "modverSorts", inPlace := ["internal/bytealg.CountString", "internal/bytealg.IndexByteString", "internal/bytealg.IndexString", "internal/abi.NoEscape", "internal/bytealg.MakeNoZero"], unfollowed := true, recurses := true, named := ["internal/bytealg.MaxLen", "ledger/modver.marks", "unicode/utf8.first", "unicode/utf8.acceptRanges", "ledger/modver.devices", "unicode.CaseRanges"], apart := false, laid := [("unicode/utf8.acceptRanges", laid_unicode_utf8_acceptRanges), ("ledger/modver.devices", laid_ledger_modver_devices), ("ledger/modver.marks", laid_ledger_modver_marks), ("unicode.CaseRanges", laid_unicode_CaseRanges), ("unicode/utf8.first", laid_unicode_utf8_first)], narrowed := true }
def ModverSortsUptoSaid : Prop := modverSortsUptoRow.holds Tryz.pinned (OpenSpec.upto modverSortsSpec)

/-- 'ledgerlaw11.ModverAll', WHERE WHAT IT READS IS OF BULK AT MOST 1048576: true; the input reads as it did. -/
def modverAllUptoRow : OpenClaim := { program := "ytnimaenhijlcmaagreatdoor", sum := "ebc40f685d31100a71e37ed69fd1d0a763cbbba6a84440ce74391fa087c6eda2", func := "ledger/ledgerlaw11.ModverAll", spec := "modverAll", inPlace := ["internal/bytealg.CountString", "internal/bytealg.IndexByteString", "internal/bytealg.IndexString", "internal/abi.NoEscape", "internal/bytealg.MakeNoZero"], unfollowed := true, recurses := true, named := ["ledger/modver.marks", "unicode/utf8.first", "unicode/utf8.acceptRanges", "internal/bytealg.MaxLen", "ledger/modver.devices", "unicode.CaseRanges", "ledger/ledgerref11.taken"], apart := false, laid := [("ledger/ledgerref11.taken", laid_ledger_ledgerref11_taken), ("unicode/utf8.acceptRanges", laid_unicode_utf8_acceptRanges), ("ledger/modver.devices", laid_ledger_modver_devices), ("ledger/modver.marks", laid_ledger_modver_marks), ("unicode.CaseRanges", laid_unicode_CaseRanges), ("unicode/utf8.first", laid_unicode_utf8_first)], narrowed := true }
def ModverAllUptoSaid : Prop := modverAllUptoRow.holds Tryz.pinned (OpenSpec.upto modverAllSpec)

/-- 'ledgerlaw11.ModverTexts', WHERE WHAT IT READS IS OF BULK AT MOST 1048576: true; the input reads as it did. -/
def modverTextsUptoRow : OpenClaim := { program := "ytnimaenhijlcmaagreatdoor", sum := "ebc40f685d31100a71e37ed69fd1d0a763cbbba6a84440ce74391fa087c6eda2", func := "ledger/ledgerlaw11.ModverTexts", spec := "modverTexts", inPlace := ["internal/bytealg.CountString", "internal/bytealg.IndexByteString", "internal/bytealg.IndexString", "internal/abi.NoEscape", "internal/bytealg.MakeNoZero"], unfollowed := true, recurses := true, named := ["ledger/modver.marks", "unicode/utf8.first", "unicode/utf8.acceptRanges", "internal/bytealg.MaxLen", "ledger/modver.devices", "unicode.CaseRanges", "ledger/ledgerref11.taken"], apart := false, laid := [("ledger/ledgerref11.taken", laid_ledger_ledgerref11_taken), ("unicode/utf8.acceptRanges", laid_unicode_utf8_acceptRanges), ("ledger/modver.devices", laid_ledger_modver_devices), ("ledger/modver.marks", laid_ledger_modver_marks), ("unicode.CaseRanges", laid_unicode_CaseRanges), ("unicode/utf8.first", laid_unicode_utf8_first)], narrowed := true }
def ModverTextsUptoSaid : Prop := modverTextsUptoRow.holds Tryz.pinned (OpenSpec.upto modverTextsSpec)

end Rows
end Go.Proofs.YtnimaenhijlcmaaGreatDoor
