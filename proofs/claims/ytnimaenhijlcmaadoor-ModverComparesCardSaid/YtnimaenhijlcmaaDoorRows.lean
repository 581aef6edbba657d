/-
  NARROWER THAN 'FOR EVERY INPUT', by the rows' own cells (each row's printed sentence says how): ModverNumbers: laid · ModverCompares: laid · ModverOrders: laid · ModverFolds: laid · ModverMajors: laid · ModverBytes: laid · ModverOnce: laid · ModverBack: laid.
  DERIVED. THE GIVEN ROWS OF THIS SEAT. 8 by the template 'for every input the law returns true; each argument reads behind the call as it read before'; 0 by the template 'total and deterministic' (their statements: YtnimaenhijlcmaaDoorTotals.lean).
  GIVEN WITH THE SEED: the statements are not yours to turn. If you find one false, say at which input.
  Laid BY PROGRAM, IN A SANDBOX (cutbox-rows.mjs): the forced cells as the released guide's own fill.sh prints them over the translation 5867510e2c4b3329… (all of the seat's roots in one cut). By AI agents, Wed Nov 11 2026. No macro, syntax, notation, axiom, sorry.
-/
import Derived.Test.YtnimaenhijlcmaaDoorChecked
import GoSem.PinnedTables
import GoSem.Claim
import GoSem.ClaimJoined
import GoSem.ClaimMapViews
import Derived.JoinedTies
import Derived.KernelRfl
namespace Go.Proofs.YtnimaenhijlcmaaDoor
/- THE CELL 'sum', in the pinned program and in every row, IS THE sha256 OF THE DUMP (.gsa) THAT YtnimaenhijlcmaaDoorProg.lean LOADS. Nothing in Lean hashes anything: it is a label: what it is worth is what the hold of that sum in a sandbox is worth. -/
noncomputable def Tryd.pinned : Pinned := { name := "ytnimaenhijlcmaadoor", sum := "5867510e2c4b33293de444651aabcd37eaa66c7a4a66ab111c7cc2855d33e9c0", checked := Tryd.checked }
namespace Rows
def none {H : Type} : Left H := { results := [], args := [] }

/- WHAT THE LISTED PACKAGE-LEVEL VARIABLES READ AS WHEN THE CALL BEGINS. Each datum BY PROGRAM (the guide's laid-datum.mjs) off the statement by which the dump's own 'gosem.cut.vars' lays the variable. In a bare row this is a premise. The card (YtnimaenhijlcmaaDoorCards.lean) ties it to the program's text. -/
def laid_math_bits_deBruijn32tab {H : Type} : DataW H := .agg [.lit (.int .u8 0), .lit (.int .u8 1), .lit (.int .u8 28), .lit (.int .u8 2), .lit (.int .u8 29), .lit (.int .u8 14), .lit (.int .u8 24), .lit (.int .u8 3), .lit (.int .u8 30), .lit (.int .u8 22), .lit (.int .u8 20), .lit (.int .u8 15), .lit (.int .u8 25), .lit (.int .u8 17), .lit (.int .u8 4), .lit (.int .u8 8), .lit (.int .u8 31), .lit (.int .u8 27), .lit (.int .u8 13), .lit (.int .u8 23), .lit (.int .u8 21), .lit (.int .u8 19), .lit (.int .u8 16), .lit (.int .u8 7), .lit (.int .u8 26), .lit (.int .u8 12), .lit (.int .u8 18), .lit (.int .u8 6), .lit (.int .u8 11), .lit (.int .u8 5), .lit (.int .u8 10), .lit (.int .u8 9)]
def laid_math_bits_deBruijn64tab {H : Type} : DataW H := .agg [.lit (.int .u8 0), .lit (.int .u8 1), .lit (.int .u8 56), .lit (.int .u8 2), .lit (.int .u8 57), .lit (.int .u8 49), .lit (.int .u8 28), .lit (.int .u8 3), .lit (.int .u8 61), .lit (.int .u8 58), .lit (.int .u8 42), .lit (.int .u8 50), .lit (.int .u8 38), .lit (.int .u8 29), .lit (.int .u8 17), .lit (.int .u8 4), .lit (.int .u8 62), .lit (.int .u8 47), .lit (.int .u8 59), .lit (.int .u8 36), .lit (.int .u8 45), .lit (.int .u8 43), .lit (.int .u8 51), .lit (.int .u8 22), .lit (.int .u8 53), .lit (.int .u8 39), .lit (.int .u8 33), .lit (.int .u8 30), .lit (.int .u8 24), .lit (.int .u8 18), .lit (.int .u8 12), .lit (.int .u8 5), .lit (.int .u8 63), .lit (.int .u8 55), .lit (.int .u8 48), .lit (.int .u8 27), .lit (.int .u8 60), .lit (.int .u8 41), .lit (.int .u8 37), .lit (.int .u8 16), .lit (.int .u8 46), .lit (.int .u8 35), .lit (.int .u8 44), .lit (.int .u8 21), .lit (.int .u8 52), .lit (.int .u8 32), .lit (.int .u8 23), .lit (.int .u8 11), .lit (.int .u8 54), .lit (.int .u8 26), .lit (.int .u8 40), .lit (.int .u8 15), .lit (.int .u8 34), .lit (.int .u8 20), .lit (.int .u8 31), .lit (.int .u8 10), .lit (.int .u8 25), .lit (.int .u8 14), .lit (.int .u8 19), .lit (.int .u8 9), .lit (.int .u8 13), .lit (.int .u8 8), .lit (.int .u8 7), .lit (.int .u8 6)]
def laid_internal_strconv_uint64pow10 {H : Type} : DataW H := .agg [.lit (.int .u64 1), .lit (.int .u64 10), .lit (.int .u64 100), .lit (.int .u64 1000), .lit (.int .u64 10000), .lit (.int .u64 100000), .lit (.int .u64 1000000), .lit (.int .u64 10000000), .lit (.int .u64 100000000), .lit (.int .u64 1000000000), .lit (.int .u64 10000000000), .lit (.int .u64 100000000000), .lit (.int .u64 1000000000000), .lit (.int .u64 10000000000000), .lit (.int .u64 100000000000000), .lit (.int .u64 1000000000000000), .lit (.int .u64 10000000000000000), .lit (.int .u64 100000000000000000), .lit (.int .u64 1000000000000000000), .lit (.int .u64 10000000000000000000)]
def laid_unicode_utf8_acceptRanges {H : Type} : DataW H := .agg [.agg [.lit (.int .u8 128), .lit (.int .u8 191)], .agg [.lit (.int .u8 160), .lit (.int .u8 191)], .agg [.lit (.int .u8 128), .lit (.int .u8 159)], .agg [.lit (.int .u8 144), .lit (.int .u8 191)], .agg [.lit (.int .u8 128), .lit (.int .u8 143)], .agg [.lit (.int .u8 0), .lit (.int .u8 0)], .agg [.lit (.int .u8 0), .lit (.int .u8 0)], .agg [.lit (.int .u8 0), .lit (.int .u8 0)], .agg [.lit (.int .u8 0), .lit (.int .u8 0)], .agg [.lit (.int .u8 0), .lit (.int .u8 0)], .agg [.lit (.int .u8 0), .lit (.int .u8 0)], .agg [.lit (.int .u8 0), .lit (.int .u8 0)], .agg [.lit (.int .u8 0), .lit (.int .u8 0)], .agg [.lit (.int .u8 0), .lit (.int .u8 0)], .agg [.lit (.int .u8 0), .lit (.int .u8 0)], .agg [.lit (.int .u8 0), .lit (.int .u8 0)]]
/-- One of Go's own tables, pinned by name: the form's constant. -/
def laid_unicode_utf8_first : DataW Unit := Go.Pinned.utf8First
def laid_ledger_modver_devices {H : Type} : DataW H := .agg [.lit (.string [99, 111, 110]), .lit (.string [112, 114, 110]), .lit (.string [97, 117, 120]), .lit (.string [110, 117, 108]), .lit (.string [99, 111, 109, 49]), .lit (.string [99, 111, 109, 50]), .lit (.string [99, 111, 109, 51]), .lit (.string [99, 111, 109, 52]), .lit (.string [99, 111, 109, 53]), .lit (.string [99, 111, 109, 54]), .lit (.string [99, 111, 109, 55]), .lit (.string [99, 111, 109, 56]), .lit (.string [99, 111, 109, 57]), .lit (.string [108, 112, 116, 49]), .lit (.string [108, 112, 116, 50]), .lit (.string [108, 112, 116, 51]), .lit (.string [108, 112, 116, 52]), .lit (.string [108, 112, 116, 53]), .lit (.string [108, 112, 116, 54]), .lit (.string [108, 112, 116, 55]), .lit (.string [108, 112, 116, 56]), .lit (.string [108, 112, 116, 57])]
def laid_ledger_modver_marks {H : Type} : DataW H := .agg [.lit (.int .i32 45), .lit (.int .i32 46), .lit (.int .i32 95), .lit (.int .i32 126), .lit (.int .i32 47)]
/-- One of Go's own tables, pinned by name: the form's constant. -/
def laid_unicode_CaseRanges : DataW Unit := Go.Pinned.caseRanges

/-- 'ledgerlaw11.ModverNumbers': WHATEVER THE INPUT: true; the input reads as it did. -/
def modverNumbersSpec : ChangeSpec := { name := "modverNumbers", fn := fun _ => fun
  | [d1, d2] => { results := [.lit (.bool true)], args := [d1, d2] }
  | _ => none }
def modverNumbersRow : OpenClaim := { program := "ytnimaenhijlcmaadoor", sum := "5867510e2c4b33293de444651aabcd37eaa66c7a4a66ab111c7cc2855d33e9c0", func := "ledger/ledgerlaw11.ModverNumbers", spec := "modverNumbers", inPlace := ["internal/bytealg.IndexByteString", "internal/bytealg.IndexString", "internal/bytealg.CountString"], unfollowed := true, recurses := true, named := ["internal/strconv.uint64pow10", "math/bits.deBruijn32tab", "math/bits.deBruijn64tab", "internal/bytealg.MaxLen", "unicode/utf8.first", "unicode/utf8.acceptRanges"], apart := false, laid := [("math/bits.deBruijn32tab", laid_math_bits_deBruijn32tab), ("math/bits.deBruijn64tab", laid_math_bits_deBruijn64tab), ("internal/strconv.uint64pow10", laid_internal_strconv_uint64pow10), ("unicode/utf8.acceptRanges", laid_unicode_utf8_acceptRanges), ("unicode/utf8.first", laid_unicode_utf8_first)] }
def ModverNumbersSaid : Prop := modverNumbersRow.holds Tryd.pinned (OpenSpec.ofChange modverNumbersSpec)

/-- ITS FALSE NEIGHBOUR: 'it returns false'. Refute it at one input. -/
def modverNumbersWrong : ChangeSpec := { name := "modverNumbers", fn := fun _ => fun
  | [d1, d2] => { results := [.lit (.bool false)], args := [d1, d2] }
  | _ => none }
def ModverNumbersWrongFalsely : Prop := modverNumbersRow.holds Tryd.pinned (OpenSpec.ofChange modverNumbersWrong)

/-- 'ledgerlaw11.ModverCompares': WHATEVER THE INPUT: true; the input reads as it did. -/
def modverComparesSpec : ChangeSpec := { name := "modverCompares", fn := fun _ => fun
  | [d1, d2] => { results := [.lit (.bool true)], args := [d1, d2] }
  | _ => none }
def modverComparesRow : OpenClaim := { program := "ytnimaenhijlcmaadoor", sum := "5867510e2c4b33293de444651aabcd37eaa66c7a4a66ab111c7cc2855d33e9c0", func := "ledger/ledgerlaw11.ModverCompares", spec := "modverCompares", inPlace := ["internal/bytealg.CountString", "internal/bytealg.IndexByteString", "internal/bytealg.IndexString", "internal/abi.NoEscape", "internal/bytealg.MakeNoZero"], unfollowed := true, recurses := true, named := ["ledger/modver.marks", "unicode/utf8.first", "unicode/utf8.acceptRanges", "internal/bytealg.MaxLen", "ledger/modver.devices", "unicode.CaseRanges"], apart := false, laid := [("unicode/utf8.acceptRanges", laid_unicode_utf8_acceptRanges), ("ledger/modver.devices", laid_ledger_modver_devices), ("ledger/modver.marks", laid_ledger_modver_marks), ("unicode.CaseRanges", laid_unicode_CaseRanges), ("unicode/utf8.first", laid_unicode_utf8_first)] }
def ModverComparesSaid : Prop := modverComparesRow.holds Tryd.pinned (OpenSpec.ofChange modverComparesSpec)

/-- ITS FALSE NEIGHBOUR: 'it returns false'. Refute it at one input. -/
def modverComparesWrong : ChangeSpec := { name := "modverCompares", fn := fun _ => fun
  | [d1, d2] => { results := [.lit (.bool false)], args := [d1, d2] }
  | _ => none }
def ModverComparesWrongFalsely : Prop := modverComparesRow.holds Tryd.pinned (OpenSpec.ofChange modverComparesWrong)

/-- 'ledgerlaw11.ModverOrders': WHATEVER THE INPUT: true; the input reads as it did. -/
def modverOrdersSpec : ChangeSpec := { name := "modverOrders", fn := fun _ => fun
  | [d1, d2, d3] => { results := [.lit (.bool true)], args := [d1, d2, d3] }
  | _ => none }
def modverOrdersRow : OpenClaim := { program := "ytnimaenhijlcmaadoor", sum := "5867510e2c4b33293de444651aabcd37eaa66c7a4a66ab111c7cc2855d33e9c0", func := "ledger/ledgerlaw11.ModverOrders", spec := "modverOrders", inPlace := ["internal/bytealg.IndexByteString", "internal/bytealg.IndexString", "internal/bytealg.CountString", "internal/abi.NoEscape", "internal/bytealg.MakeNoZero"], unfollowed := true, recurses := true, named := ["internal/bytealg.MaxLen", "unicode/utf8.first", "unicode/utf8.acceptRanges", "ledger/modver.marks", "ledger/modver.devices", "unicode.CaseRanges"], apart := false, laid := [("unicode/utf8.acceptRanges", laid_unicode_utf8_acceptRanges), ("ledger/modver.devices", laid_ledger_modver_devices), ("ledger/modver.marks", laid_ledger_modver_marks), ("unicode.CaseRanges", laid_unicode_CaseRanges), ("unicode/utf8.first", laid_unicode_utf8_first)] }
def ModverOrdersSaid : Prop := modverOrdersRow.holds Tryd.pinned (OpenSpec.ofChange modverOrdersSpec)

/-- ITS FALSE NEIGHBOUR: 'it returns false'. Refute it at one input. -/
def modverOrdersWrong : ChangeSpec := { name := "modverOrders", fn := fun _ => fun
  | [d1, d2, d3] => { results := [.lit (.bool false)], args := [d1, d2, d3] }
  | _ => none }
def ModverOrdersWrongFalsely : Prop := modverOrdersRow.holds Tryd.pinned (OpenSpec.ofChange modverOrdersWrong)

/-- 'ledgerlaw11.ModverFolds': WHATEVER THE INPUT: true; the input reads as it did. -/
def modverFoldsSpec : ChangeSpec := { name := "modverFolds", fn := fun _ => fun
  | [d1, d2] => { results := [.lit (.bool true)], args := [d1, d2] }
  | _ => none }
def modverFoldsRow : OpenClaim := { program := "ytnimaenhijlcmaadoor", sum := "5867510e2c4b33293de444651aabcd37eaa66c7a4a66ab111c7cc2855d33e9c0", func := "ledger/ledgerlaw11.ModverFolds", spec := "modverFolds", inPlace := ["internal/bytealg.CountString", "internal/bytealg.IndexByteString", "internal/bytealg.IndexString", "internal/abi.NoEscape", "internal/bytealg.MakeNoZero"], unfollowed := true, recurses := true, named := ["internal/bytealg.MaxLen", "unicode/utf8.first", "unicode/utf8.acceptRanges", "ledger/modver.marks", "ledger/modver.devices", "unicode.CaseRanges"], apart := false, laid := [("unicode/utf8.acceptRanges", laid_unicode_utf8_acceptRanges), ("ledger/modver.devices", laid_ledger_modver_devices), ("ledger/modver.marks", laid_ledger_modver_marks), ("unicode.CaseRanges", laid_unicode_CaseRanges), ("unicode/utf8.first", laid_unicode_utf8_first)] }
def ModverFoldsSaid : Prop := modverFoldsRow.holds Tryd.pinned (OpenSpec.ofChange modverFoldsSpec)

/-- ITS FALSE NEIGHBOUR: 'it returns false'. Refute it at one input. -/
def modverFoldsWrong : ChangeSpec := { name := "modverFolds", fn := fun _ => fun
  | [d1, d2] => { results := [.lit (.bool false)], args := [d1, d2] }
  | _ => none }
def ModverFoldsWrongFalsely : Prop := modverFoldsRow.holds Tryd.pinned (OpenSpec.ofChange modverFoldsWrong)

/-- 'ledgerlaw11.ModverMajors': WHATEVER THE INPUT: true; the input reads as it did. -/
def modverMajorsSpec : ChangeSpec := { name := "modverMajors", fn := fun _ => fun
  | [d] => { results := [.lit (.bool true)], args := [d] }
  | _ => none }
def modverMajorsRow : OpenClaim := { program := "ytnimaenhijlcmaadoor", sum := "5867510e2c4b33293de444651aabcd37eaa66c7a4a66ab111c7cc2855d33e9c0", func := "ledger/ledgerlaw11.ModverMajors", spec := "modverMajors", inPlace := ["internal/bytealg.CountString", "internal/bytealg.IndexByteString", "internal/bytealg.IndexString", "internal/abi.NoEscape", "internal/bytealg.MakeNoZero"], unfollowed := true, recurses := true, named := ["internal/bytealg.MaxLen", "unicode/utf8.first", "unicode/utf8.acceptRanges", "ledger/modver.marks", "ledger/modver.devices", "unicode.CaseRanges"], apart := false, laid := [("unicode/utf8.acceptRanges", laid_unicode_utf8_acceptRanges), ("ledger/modver.devices", laid_ledger_modver_devices), ("ledger/modver.marks", laid_ledger_modver_marks), ("unicode.CaseRanges", laid_unicode_CaseRanges), ("unicode/utf8.first", laid_unicode_utf8_first)] }
def ModverMajorsSaid : Prop := modverMajorsRow.holds Tryd.pinned (OpenSpec.ofChange modverMajorsSpec)

/-- ITS FALSE NEIGHBOUR: 'it returns false'. Refute it at one input. -/
def modverMajorsWrong : ChangeSpec := { name := "modverMajors", fn := fun _ => fun
  | [d] => { results := [.lit (.bool false)], args := [d] }
  | _ => none }
def ModverMajorsWrongFalsely : Prop := modverMajorsRow.holds Tryd.pinned (OpenSpec.ofChange modverMajorsWrong)

/-- 'ledgerlaw11.ModverBytes': WHATEVER THE INPUT: true; the input reads as it did. -/
def modverBytesSpec : ChangeSpec := { name := "modverBytes", fn := fun _ => fun
  | [d1, d2, d3] => { results := [.lit (.bool true)], args := [d1, d2, d3] }
  | _ => none }
def modverBytesRow : OpenClaim := { program := "ytnimaenhijlcmaadoor", sum := "5867510e2c4b33293de444651aabcd37eaa66c7a4a66ab111c7cc2855d33e9c0", func := "ledger/ledgerlaw11.ModverBytes", spec := "modverBytes", inPlace := ["internal/bytealg.CountString", "internal/bytealg.IndexByteString", "internal/bytealg.IndexString", "internal/abi.NoEscape", "internal/bytealg.MakeNoZero"], unfollowed := true, recurses := true, named := ["internal/bytealg.MaxLen", "unicode/utf8.first", "unicode/utf8.acceptRanges", "ledger/modver.marks", "ledger/modver.devices", "unicode.CaseRanges"], apart := false, laid := [("unicode/utf8.acceptRanges", laid_unicode_utf8_acceptRanges), ("ledger/modver.devices", laid_ledger_modver_devices), ("ledger/modver.marks", laid_ledger_modver_marks), ("unicode.CaseRanges", laid_unicode_CaseRanges), ("unicode/utf8.first", laid_unicode_utf8_first)] }
def ModverBytesSaid : Prop := modverBytesRow.holds Tryd.pinned (OpenSpec.ofChange modverBytesSpec)

/-- ITS FALSE NEIGHBOUR: 'it returns false'. Refute it at one input. -/
def modverBytesWrong : ChangeSpec := { name := "modverBytes", fn := fun _ => fun
  | [d1, d2, d3] => { results := [.lit (.bool false)], args := [d1, d2, d3] }
  | _ => none }
def ModverBytesWrongFalsely : Prop := modverBytesRow.holds Tryd.pinned (OpenSpec.ofChange modverBytesWrong)

/-- 'ledgerlaw11.ModverOnce': WHATEVER THE INPUT: true; the input reads as it did. -/
def modverOnceSpec : ChangeSpec := { name := "modverOnce", fn := fun _ => fun
  | [d] => { results := [.lit (.bool true)], args := [d] }
  | _ => none }
def modverOnceRow : OpenClaim := { program := "ytnimaenhijlcmaadoor", sum := "5867510e2c4b33293de444651aabcd37eaa66c7a4a66ab111c7cc2855d33e9c0", func := "ledger/ledgerlaw11.ModverOnce", spec := "modverOnce", inPlace := ["internal/bytealg.CountString", "internal/bytealg.IndexByteString", "internal/bytealg.IndexString", "internal/abi.NoEscape", "internal/bytealg.MakeNoZero"], unfollowed := true, recurses := true, named := ["internal/bytealg.MaxLen", "unicode/utf8.first", "unicode/utf8.acceptRanges", "ledger/modver.marks", "ledger/modver.devices", "unicode.CaseRanges"], apart := false, laid := [("unicode/utf8.acceptRanges", laid_unicode_utf8_acceptRanges), ("ledger/modver.devices", laid_ledger_modver_devices), ("ledger/modver.marks", laid_ledger_modver_marks), ("unicode.CaseRanges", laid_unicode_CaseRanges), ("unicode/utf8.first", laid_unicode_utf8_first)] }
def ModverOnceSaid : Prop := modverOnceRow.holds Tryd.pinned (OpenSpec.ofChange modverOnceSpec)

/-- ITS FALSE NEIGHBOUR: 'it returns false'. Refute it at one input. -/
def modverOnceWrong : ChangeSpec := { name := "modverOnce", fn := fun _ => fun
  | [d] => { results := [.lit (.bool false)], args := [d] }
  | _ => none }
def ModverOnceWrongFalsely : Prop := modverOnceRow.holds Tryd.pinned (OpenSpec.ofChange modverOnceWrong)

/-- 'ledgerlaw11.ModverBack': WHATEVER THE INPUT: true; the input reads as it did. -/
def modverBackSpec : ChangeSpec := { name := "modverBack", fn := fun _ => fun
  | [d1, d2, d3] => { results := [.lit (.bool true)], args := [d1, d2, d3] }
  | _ => none }
def modverBackRow : OpenClaim := { program := "ytnimaenhijlcmaadoor", sum := "5867510e2c4b33293de444651aabcd37eaa66c7a4a66ab111c7cc2855d33e9c0", func := "ledger/ledgerlaw11.ModverBack", spec := "modverBack", inPlace := ["internal/bytealg.CountString", "internal/bytealg.IndexByteString", "internal/bytealg.IndexString", "internal/abi.NoEscape", "internal/bytealg.MakeNoZero"], unfollowed := true, recurses := true, named := ["internal/bytealg.MaxLen", "unicode/utf8.first", "unicode/utf8.acceptRanges", "ledger/modver.marks", "ledger/modver.devices", "unicode.CaseRanges"], apart := false, laid := [("unicode/utf8.acceptRanges", laid_unicode_utf8_acceptRanges), ("ledger/modver.devices", laid_ledger_modver_devices), ("ledger/modver.marks", laid_ledger_modver_marks), ("unicode.CaseRanges", laid_unicode_CaseRanges), ("unicode/utf8.first", laid_unicode_utf8_first)] }
def ModverBackSaid : Prop := modverBackRow.holds Tryd.pinned (OpenSpec.ofChange modverBackSpec)

/-- ITS FALSE NEIGHBOUR: 'it returns false'. Refute it at one input. -/
def modverBackWrong : ChangeSpec := { name := "modverBack", fn := fun _ => fun
  | [d1, d2, d3] => { results := [.lit (.bool false)], args := [d1, d2, d3] }
  | _ => none }
def ModverBackWrongFalsely : Prop := modverBackRow.holds Tryd.pinned (OpenSpec.ofChange modverBackWrong)

/- THE SECOND FORM. 'bulk': how many values and letters a reading holds, each counted each time it is reached (what is shared counts as often as it is met; a slice's spare places count too). A statement '..UptoSaid' is the law's where the arguments, and the package variables that the reading takes, are together of bulk at most 1048576: NARROWER than '..Said'. Prove '..Said' where nothing that the law and all that it calls make is longer than what came in: it says more and counts as full. Else prove '..UptoSaid'. A law counts once. -/
mutual
def uptoBulk {H : Type} : DataW H → Nat
  | .lit (.string bytes) => bytes.length + 1
  | .lit _ => 1
  | .nil => 1
  | .ptr d => uptoBulk d + 1
  | .slice elems spare => uptoBulkAll elems + uptoBulkAll spare + 1
  | .agg parts => uptoBulkAll parts + 1
  | .iface _ d => uptoBulk d + 1
  | .map entries => uptoBulkEntries entries + 1
  | .held _ => 1
def uptoBulkAll {H : Type} : List (DataW H) → Nat
  | [] => 0
  | d :: r => uptoBulk d + uptoBulkAll r
def uptoBulkEntries {H : Type} : List (Lit × DataW H) → Nat
  | [] => 0
  | x :: r => uptoBulkEntry x + uptoBulkEntries r
def uptoBulkEntry {H : Type} : Lit × DataW H → Nat
  | (.string bytes, d) => bytes.length + uptoBulk d + 1
  | (_, d) => uptoBulk d + 1
 end
def uptoSmall : (H : Type) → List (DataW H) → Bool := fun _ ds => decide (uptoBulkAll ds ≤ 1048576)
def OpenSpec.upto (s : _root_.Go.ChangeSpec) : _root_.Go.OpenSpec := { _root_.Go.OpenSpec.ofChange s with cond := some uptoSmall }

/-- 'ledgerlaw11.ModverNumbers', WHERE WHAT IT READS IS OF BULK AT MOST 1048576: true; the input reads as it did. -/
def modverNumbersUptoRow : OpenClaim := { program := "ytnimaenhijlcmaadoor", sum := "5867510e2c4b33293de444651aabcd37eaa66c7a4a66ab111c7cc2855d33e9c0", func := "ledger/ledgerlaw11.ModverNumbers", spec := "modverNumbers", inPlace := ["internal/bytealg.IndexByteString", "internal/bytealg.IndexString", "internal/bytealg.CountString"], unfollowed := true, recurses := true, named := ["internal/strconv.uint64pow10", "math/bits.deBruijn32tab", "math/bits.deBruijn64tab", "internal/bytealg.MaxLen", "unicode/utf8.first", "unicode/utf8.acceptRanges"], apart := false, laid := [("math/bits.deBruijn32tab", laid_math_bits_deBruijn32tab), ("math/bits.deBruijn64tab", laid_math_bits_deBruijn64tab), ("internal/strconv.uint64pow10", laid_internal_strconv_uint64pow10), ("unicode/utf8.acceptRanges", laid_unicode_utf8_acceptRanges), ("unicode/utf8.first", laid_unicode_utf8_first)], narrowed := true }
def ModverNumbersUptoSaid : Prop := modverNumbersUptoRow.holds Tryd.pinned (OpenSpec.upto modverNumbersSpec)

/-- 'ledgerlaw11.ModverCompares', WHERE WHAT IT READS IS OF BULK AT MOST 1048576: true; the input reads as it did. -/
def modverComparesUptoRow : OpenClaim := { program := "ytnimaenhijlcmaadoor", sum := "5867510e2c4b33293de444651aabcd37eaa66c7a4a66ab111c7cc2855d33e9c0", func := "ledger/ledgerlaw11.ModverCompares", spec := "modverCompares", inPlace := ["internal/bytealg.CountString", "internal/bytealg.IndexByteString", "internal/bytealg.IndexString", "internal/abi.NoEscape", "internal/bytealg.MakeNoZero"], unfollowed := true, recurses := true, named := ["ledger/modver.marks", "unicode/utf8.first", "unicode/utf8.acceptRanges", "internal/bytealg.MaxLen", "ledger/modver.devices", "unicode.CaseRanges"], apart := false, laid := [("unicode/utf8.acceptRanges", laid_unicode_utf8_acceptRanges), ("ledger/modver.devices", laid_ledger_modver_devices), ("ledger/modver.marks", laid_ledger_modver_marks), ("unicode.CaseRanges", laid_unicode_CaseRanges), ("unicode/utf8.first", laid_unicode_utf8_first)], narrowed := true }
def ModverComparesUptoSaid : Prop := modverComparesUptoRow.holds Tryd.pinned (OpenSpec.upto modverComparesSpec)

/-- 'ledgerlaw11.ModverOrders', WHERE WHAT IT READS IS OF BULK AT MOST 1048576: true; the input reads as it did. -/
def modverOrdersUptoRow : OpenClaim := { program := "ytnimaenhijlcmaadoor", sum := "5867510e2c4b33293de444651aabcd37eaa66c7a4a66ab111c7cc2855d33e9c0", func := "ledger/ledgerlaw11.ModverOrders", spec := "modverOrders", inPlace := ["internal/bytealg.IndexByteString", "internal/bytealg.IndexString", "internal/bytealg.CountString", "internal/abi.NoEscape", "internal/bytealg.MakeNoZero"], unfollowed := true, recurses := true, named := ["internal/bytealg.MaxLen", "unicode/utf8.first", "unicode/utf8.acceptRanges", "ledger/modver.marks", "ledger/modver.devices", "unicode.CaseRanges"], apart := false, laid := [("unicode/utf8.acceptRanges", laid_unicode_utf8_acceptRanges), ("ledger/modver.devices", laid_ledger_modver_devices), ("ledger/modver.marks", laid_ledger_modver_marks), ("unicode.CaseRanges", laid_unicode_CaseRanges), ("unicode/utf8.first", laid_unicode_utf8_first)], narrowed := true }
def ModverOrdersUptoSaid : Prop := modverOrdersUptoRow.holds Tryd.pinned (OpenSpec.upto modverOrdersSpec)

/-- 'ledgerlaw11.ModverFolds', WHERE WHAT IT READS IS OF BULK AT MOST 1048576: true; the input reads as it did. -/
def modverFoldsUptoRow : OpenClaim := { program := "ytnimaenhijlcmaadoor", sum := "5867510e2c4b33293de444651aabcd37eaa66c7a4a66ab111c7cc2855d33e9c0", func := "ledger/ledgerlaw11.ModverFolds", spec := "modverFolds", inPlace := ["internal/bytealg.CountString", "internal/bytealg.IndexByteString", "internal/bytealg.IndexString", "internal/abi.NoEscape", "internal/bytealg.MakeNoZero"], unfollowed := true, recurses := true, named := ["internal/bytealg.MaxLen", "unicode/utf8.first", "unicode/utf8.acceptRanges", "ledger/modver.marks", "ledger/modver.devices", "unicode.CaseRanges"], apart := false, laid := [("unicode/utf8.acceptRanges", laid_unicode_utf8_acceptRanges), ("ledger/modver.devices", laid_ledger_modver_devices), ("ledger/modver.marks", laid_ledger_modver_marks), ("unicode.CaseRanges", laid_unicode_CaseRanges), ("unicode/utf8.first", laid_unicode_utf8_first)], narrowed := true }
def ModverFoldsUptoSaid : Prop := modverFoldsUptoRow.holds Tryd.pinned (OpenSpec.upto modverFoldsSpec)

/-- 'ledgerlaw11.ModverMajors', WHERE WHAT IT READS IS OF BULK AT MOST 1048576: true; the input reads as it did. -/
def modverMajorsUptoRow : OpenClaim := { program := "ytnimaenhijlcmaadoor", sum := "5867510e2c4b33293de444651aabcd37eaa66c7a4a66ab111c7cc2855d33e9c0", func := "ledger/ledgerlaw11.ModverMajors", spec := "modverMajors", inPlace := ["internal/bytealg.CountString", "internal/bytealg.IndexByteString", "internal/bytealg.IndexString", "internal/abi.NoEscape", "internal/bytealg.MakeNoZero"], unfollowed := true, recurses := true, named := ["internal/bytealg.MaxLen", "unicode/utf8.first", "unicode/utf8.acceptRanges", "ledger/modver.marks", "ledger/modver.devices", "unicode.CaseRanges"], apart := false, laid := [("unicode/utf8.acceptRanges", laid_unicode_utf8_acceptRanges), ("ledger/modver.devices", laid_ledger_modver_devices), ("ledger/modver.marks", laid_ledger_modver_marks), ("unicode.CaseRanges", laid_unicode_CaseRanges), ("unicode/utf8.first", laid_unicode_utf8_first)], narrowed := true }
def ModverMajorsUptoSaid : Prop := modverMajorsUptoRow.holds Tryd.pinned (OpenSpec.upto modverMajorsSpec)

/-- 'ledgerlaw11.ModverBytes', WHERE WHAT IT READS IS OF BULK AT MOST 1048576: true; the input reads as it did. -/
def modverBytesUptoRow : OpenClaim := { program := "ytnimaenhijlcmaadoor", sum := "5867510e2c4b33293de444651aabcd37eaa66c7a4a66ab111c7cc2855d33e9c0", func := "ledger/ledgerlaw11.ModverBytes", spec := "modverBytes", inPlace := ["internal/bytealg.CountString", "internal/bytealg.IndexByteString", "internal/bytealg.IndexString", "internal/abi.NoEscape", "internal/bytealg.MakeNoZero"], unfollowed := true, recurses := true, named := ["internal/bytealg.MaxLen", "unicode/utf8.first", "unicode/utf8.acceptRanges", "ledger/modver.marks", "ledger/modver.devices", "unicode.CaseRanges"], apart := false, laid := [("unicode/utf8.acceptRanges", laid_unicode_utf8_acceptRanges), ("ledger/modver.devices", laid_ledger_modver_devices), ("ledger/modver.marks", laid_ledger_modver_marks), ("unicode.CaseRanges", laid_unicode_CaseRanges), ("unicode/utf8.first", laid_unicode_utf8_first)], narrowed := true }
def ModverBytesUptoSaid : Prop := modverBytesUptoRow.holds Tryd.pinned (OpenSpec.upto modverBytesSpec)

/-- 'ledgerlaw11.ModverOnce', WHERE WHAT IT READS IS OF BULK AT MOST 1048576: true; the input reads as it did. -/
def modverOnceUptoRow : OpenClaim := { program := "ytnimaenhijlcmaadoor", sum := "5867510e2c4b33293de444651aabcd37eaa66c7a4a66ab111c7cc2855d33e9c0", func := "ledger/ledgerlaw11.ModverOnce", spec := "modverOnce", inPlace := ["internal/bytealg.CountString", "internal/bytealg.IndexByteString", "internal/bytealg.IndexString", "internal/abi.NoEscape", "internal/bytealg.MakeNoZero"], unfollowed := true, recurses := true, named := ["internal/bytealg.MaxLen", "unicode/utf8.first", "unicode/utf8.acceptRanges", "ledger/modver.marks", "ledger/modver.devices", "unicode.CaseRanges"], apart := false, laid := [("unicode/utf8.acceptRanges", laid_unicode_utf8_acceptRanges), ("ledger/modver.devices", laid_ledger_modver_devices), ("ledger/modver.marks", laid_ledger_modver_marks), ("unicode.CaseRanges", laid_unicode_CaseRanges), ("unicode/utf8.first", laid_unicode_utf8_first)], narrowed := true }
def ModverOnceUptoSaid : Prop := modverOnceUptoRow.holds Tryd.pinned (OpenSpec.upto modverOnceSpec)

/-- 'ledgerlaw11.ModverBack', WHERE WHAT IT READS IS OF BULK AT MOST 1048576: true; the input reads as it did. -/
def modverBackUptoRow : OpenClaim := { program := "ytnimaenhijlcmaadoor", sum := "5867510e2c4b33293de444651aabcd37eaa66c7a4a66ab111c7cc2855d33e9c0", func := "ledger/ledgerlaw11.ModverBack", spec := "modverBack", inPlace := ["internal/bytealg.CountString", "internal/bytealg.IndexByteString", "internal/bytealg.IndexString", "internal/abi.NoEscape", "internal/bytealg.MakeNoZero"], unfollowed := true, recurses := true, named := ["internal/bytealg.MaxLen", "unicode/utf8.first", "unicode/utf8.acceptRanges", "ledger/modver.marks", "ledger/modver.devices", "unicode.CaseRanges"], apart := false, laid := [("unicode/utf8.acceptRanges", laid_unicode_utf8_acceptRanges), ("ledger/modver.devices", laid_ledger_modver_devices), ("ledger/modver.marks", laid_ledger_modver_marks), ("unicode.CaseRanges", laid_unicode_CaseRanges), ("unicode/utf8.first", laid_unicode_utf8_first)], narrowed := true }
def ModverBackUptoSaid : Prop := modverBackUptoRow.holds Tryd.pinned (OpenSpec.upto modverBackSpec)

end Rows
end Go.Proofs.YtnimaenhijlcmaaDoor
