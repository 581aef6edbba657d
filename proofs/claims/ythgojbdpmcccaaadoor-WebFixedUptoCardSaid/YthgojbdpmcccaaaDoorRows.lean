/-
  NARROWER THAN 'FOR EVERY INPUT', by the rows' own cells (each row's printed sentence says how): WebTables: laid · WebEscapes: laid · WebFixed: laid.
  DERIVED. THE GIVEN ROWS OF THIS SEAT. 3 by the template 'for every input the law returns true; each argument reads behind the call as it read before'; 0 by the template 'total and deterministic' (their statements: YthgojbdpmcccaaaDoorTotals.lean).
  GIVEN WITH THE SEED: the statements are not yours to turn. If you find one false, say at which input.
  Laid BY PROGRAM, IN A SANDBOX (cutbox-rows.mjs): the forced cells as the released guide's own fill.sh prints them over the translation e8200193e9f6abf2… (all of the seat's roots in one cut). By AI agents, Wed Nov 11 2026. No macro, syntax, notation, axiom, sorry.
-/
import Derived.Test.YthgojbdpmcccaaaDoorChecked
import GoSem.PinnedTables
import GoSem.Claim
import GoSem.ClaimJoined
import GoSem.ClaimMapViews
import Derived.JoinedTies
import Derived.KernelRfl
namespace Go.Proofs.YthgojbdpmcccaaaDoor
/- THE CELL 'sum', in the pinned program and in every row, IS THE sha256 OF THE DUMP (.gsa) THAT YthgojbdpmcccaaaDoorProg.lean LOADS. Nothing in Lean hashes anything: it is a label: what it is worth is what the hold of that sum in a sandbox is worth. -/
noncomputable def Tryd.pinned : Pinned := { name := "ythgojbdpmcccaaadoor", sum := "e8200193e9f6abf245d4134c47b32f287c4ee53ac33a11b94caa53c0584ba8ab", checked := Tryd.checked }
namespace Rows
def none {H : Type} : Left H := { results := [], args := [] }

/- WHAT THE LISTED PACKAGE-LEVEL VARIABLES READ AS WHEN THE CALL BEGINS. Each datum BY PROGRAM (the guide's laid-datum.mjs) off the statement by which the dump's own 'gosem.cut.vars' lays the variable. In a bare row this is a premise. The card (YthgojbdpmcccaaaDoorCards.lean) ties it to the program's text. -/
def laid_math_bits_deBruijn32tab {H : Type} : DataW H := .agg [.lit (.int .u8 0), .lit (.int .u8 1), .lit (.int .u8 28), .lit (.int .u8 2), .lit (.int .u8 29), .lit (.int .u8 14), .lit (.int .u8 24), .lit (.int .u8 3), .lit (.int .u8 30), .lit (.int .u8 22), .lit (.int .u8 20), .lit (.int .u8 15), .lit (.int .u8 25), .lit (.int .u8 17), .lit (.int .u8 4), .lit (.int .u8 8), .lit (.int .u8 31), .lit (.int .u8 27), .lit (.int .u8 13), .lit (.int .u8 23), .lit (.int .u8 21), .lit (.int .u8 19), .lit (.int .u8 16), .lit (.int .u8 7), .lit (.int .u8 26), .lit (.int .u8 12), .lit (.int .u8 18), .lit (.int .u8 6), .lit (.int .u8 11), .lit (.int .u8 5), .lit (.int .u8 10), .lit (.int .u8 9)]
def laid_math_bits_deBruijn64tab {H : Type} : DataW H := .agg [.lit (.int .u8 0), .lit (.int .u8 1), .lit (.int .u8 56), .lit (.int .u8 2), .lit (.int .u8 57), .lit (.int .u8 49), .lit (.int .u8 28), .lit (.int .u8 3), .lit (.int .u8 61), .lit (.int .u8 58), .lit (.int .u8 42), .lit (.int .u8 50), .lit (.int .u8 38), .lit (.int .u8 29), .lit (.int .u8 17), .lit (.int .u8 4), .lit (.int .u8 62), .lit (.int .u8 47), .lit (.int .u8 59), .lit (.int .u8 36), .lit (.int .u8 45), .lit (.int .u8 43), .lit (.int .u8 51), .lit (.int .u8 22), .lit (.int .u8 53), .lit (.int .u8 39), .lit (.int .u8 33), .lit (.int .u8 30), .lit (.int .u8 24), .lit (.int .u8 18), .lit (.int .u8 12), .lit (.int .u8 5), .lit (.int .u8 63), .lit (.int .u8 55), .lit (.int .u8 48), .lit (.int .u8 27), .lit (.int .u8 60), .lit (.int .u8 41), .lit (.int .u8 37), .lit (.int .u8 16), .lit (.int .u8 46), .lit (.int .u8 35), .lit (.int .u8 44), .lit (.int .u8 21), .lit (.int .u8 52), .lit (.int .u8 32), .lit (.int .u8 23), .lit (.int .u8 11), .lit (.int .u8 54), .lit (.int .u8 26), .lit (.int .u8 40), .lit (.int .u8 15), .lit (.int .u8 34), .lit (.int .u8 20), .lit (.int .u8 31), .lit (.int .u8 10), .lit (.int .u8 25), .lit (.int .u8 14), .lit (.int .u8 19), .lit (.int .u8 9), .lit (.int .u8 13), .lit (.int .u8 8), .lit (.int .u8 7), .lit (.int .u8 6)]
def laid_internal_strconv_uint64pow10 {H : Type} : DataW H := .agg [.lit (.int .u64 1), .lit (.int .u64 10), .lit (.int .u64 100), .lit (.int .u64 1000), .lit (.int .u64 10000), .lit (.int .u64 100000), .lit (.int .u64 1000000), .lit (.int .u64 10000000), .lit (.int .u64 100000000), .lit (.int .u64 1000000000), .lit (.int .u64 10000000000), .lit (.int .u64 100000000000), .lit (.int .u64 1000000000000), .lit (.int .u64 10000000000000), .lit (.int .u64 100000000000000), .lit (.int .u64 1000000000000000), .lit (.int .u64 10000000000000000), .lit (.int .u64 100000000000000000), .lit (.int .u64 1000000000000000000), .lit (.int .u64 10000000000000000000)]
def laid_ledger_web_reasons {H : Type} : DataW H := .agg [.agg [.lit (.int .i64 100), .lit (.string [67, 111, 110, 116, 105, 110, 117, 101])], .agg [.lit (.int .i64 200), .lit (.string [79, 75])], .agg [.lit (.int .i64 204), .lit (.string [78, 111, 32, 67, 111, 110, 116, 101, 110, 116])], .agg [.lit (.int .i64 301), .lit (.string [77, 111, 118, 101, 100, 32, 80, 101, 114, 109, 97, 110, 101, 110, 116, 108, 121])], .agg [.lit (.int .i64 302), .lit (.string [70, 111, 117, 110, 100])], .agg [.lit (.int .i64 304), .lit (.string [78, 111, 116, 32, 77, 111, 100, 105, 102, 105, 101, 100])], .agg [.lit (.int .i64 400), .lit (.string [66, 97, 100, 32, 82, 101, 113, 117, 101, 115, 116])], .agg [.lit (.int .i64 403), .lit (.string [70, 111, 114, 98, 105, 100, 100, 101, 110])], .agg [.lit (.int .i64 404), .lit (.string [78, 111, 116, 32, 70, 111, 117, 110, 100])], .agg [.lit (.int .i64 405), .lit (.string [77, 101, 116, 104, 111, 100, 32, 78, 111, 116, 32, 65, 108, 108, 111, 119, 101, 100])], .agg [.lit (.int .i64 408), .lit (.string [82, 101, 113, 117, 101, 115, 116, 32, 84, 105, 109, 101, 111, 117, 116])], .agg [.lit (.int .i64 409), .lit (.string [67, 111, 110, 102, 108, 105, 99, 116])], .agg [.lit (.int .i64 410), .lit (.string [71, 111, 110, 101])], .agg [.lit (.int .i64 411), .lit (.string [76, 101, 110, 103, 116, 104, 32, 82, 101, 113, 117, 105, 114, 101, 100])], .agg [.lit (.int .i64 413), .lit (.string [67, 111, 110, 116, 101, 110, 116, 32, 84, 111, 111, 32, 76, 97, 114, 103, 101])], .agg [.lit (.int .i64 414), .lit (.string [85, 82, 73, 32, 84, 111, 111, 32, 76, 111, 110, 103])], .agg [.lit (.int .i64 429), .lit (.string [84, 111, 111, 32, 77, 97, 110, 121, 32, 82, 101, 113, 117, 101, 115, 116, 115])], .agg [.lit (.int .i64 431), .lit (.string [82, 101, 113, 117, 101, 115, 116, 32, 72, 101, 97, 100, 101, 114, 32, 70, 105, 101, 108, 100, 115, 32, 84, 111, 111, 32, 76, 97, 114, 103, 101])], .agg [.lit (.int .i64 500), .lit (.string [73, 110, 116, 101, 114, 110, 97, 108, 32, 83, 101, 114, 118, 101, 114, 32, 69, 114, 114, 111, 114])], .agg [.lit (.int .i64 501), .lit (.string [78, 111, 116, 32, 73, 109, 112, 108, 101, 109, 101, 110, 116, 101, 100])], .agg [.lit (.int .i64 502), .lit (.string [66, 97, 100, 32, 71, 97, 116, 101, 119, 97, 121])], .agg [.lit (.int .i64 503), .lit (.string [83, 101, 114, 118, 105, 99, 101, 32, 85, 110, 97, 118, 97, 105, 108, 97, 98, 108, 101])], .agg [.lit (.int .i64 504), .lit (.string [71, 97, 116, 101, 119, 97, 121, 32, 84, 105, 109, 101, 111, 117, 116])], .agg [.lit (.int .i64 505), .lit (.string [72, 84, 84, 80, 32, 86, 101, 114, 115, 105, 111, 110, 32, 78, 111, 116, 32, 83, 117, 112, 112, 111, 114, 116, 101, 100])]]
def laid_ledger_web_statuses {H : Type} : DataW H := .agg [.agg [.lit (.int .i64 0), .lit (.int .i64 200)], .agg [.lit (.int .i64 140), .lit (.int .i64 400)], .agg [.lit (.int .i64 141), .lit (.int .i64 400)], .agg [.lit (.int .i64 143), .lit (.int .i64 400)], .agg [.lit (.int .i64 144), .lit (.int .i64 400)], .agg [.lit (.int .i64 146), .lit (.int .i64 400)], .agg [.lit (.int .i64 145), .lit (.int .i64 413)], .agg [.lit (.int .i64 147), .lit (.int .i64 414)], .agg [.lit (.int .i64 2), .lit (.int .i64 431)], .agg [.lit (.int .i64 148), .lit (.int .i64 501)], .agg [.lit (.int .i64 142), .lit (.int .i64 505)]]
def laid_ledger_web_errArg {H : Type} : DataW H := .iface "*errors.errorString" (.ptr (.agg [.lit (.string [97, 32, 110, 117, 109, 98, 101, 114, 32, 116, 104, 97, 116, 32, 109, 97, 121, 32, 110, 111, 116, 32, 98, 101])]))
def laid_ledger_web_errLong {H : Type} : DataW H := .iface "*errors.errorString" (.ptr (.agg [.lit (.string [116, 111, 111, 32, 108, 111, 110, 103])]))
def laid_ledger_web_errShort {H : Type} : DataW H := .iface "*errors.errorString" (.ptr (.agg [.lit (.string [116, 104, 101, 32, 109, 101, 115, 115, 97, 103, 101, 32, 101, 110, 100, 115, 32, 116, 111, 111, 32, 101, 97, 114, 108, 121])]))
def laid_ledger_web_errStart {H : Type} : DataW H := .iface "*errors.errorString" (.ptr (.agg [.lit (.string [116, 104, 101, 32, 102, 105, 114, 115, 116, 32, 108, 105, 110, 101])]))
def laid_ledger_web_errProtocol {H : Type} : DataW H := .iface "*errors.errorString" (.ptr (.agg [.lit (.string [116, 104, 101, 32, 118, 101, 114, 115, 105, 111, 110])]))
def laid_ledger_web_errField {H : Type} : DataW H := .iface "*errors.errorString" (.ptr (.agg [.lit (.string [97, 32, 102, 105, 101, 108, 100])]))
def laid_ledger_web_errHost {H : Type} : DataW H := .iface "*errors.errorString" (.ptr (.agg [.lit (.string [116, 104, 101, 32, 104, 111, 115, 116])]))
def laid_ledger_web_errLength {H : Type} : DataW H := .iface "*errors.errorString" (.ptr (.agg [.lit (.string [116, 104, 101, 32, 108, 101, 110, 103, 116, 104, 32, 111, 102, 32, 116, 104, 101, 32, 98, 111, 100, 121])]))
def laid_ledger_web_errChunk {H : Type} : DataW H := .iface "*errors.errorString" (.ptr (.agg [.lit (.string [97, 32, 99, 104, 117, 110, 107])]))
def laid_ledger_web_errTarget {H : Type} : DataW H := .iface "*errors.errorString" (.ptr (.agg [.lit (.string [116, 104, 101, 32, 116, 97, 114, 103, 101, 116])]))
def laid_ledger_web_errMethod {H : Type} : DataW H := .iface "*errors.errorString" (.ptr (.agg [.lit (.string [116, 104, 101, 32, 109, 101, 116, 104, 111, 100])]))
def laid_unicode_utf8_acceptRanges {H : Type} : DataW H := .agg [.agg [.lit (.int .u8 128), .lit (.int .u8 191)], .agg [.lit (.int .u8 160), .lit (.int .u8 191)], .agg [.lit (.int .u8 128), .lit (.int .u8 159)], .agg [.lit (.int .u8 144), .lit (.int .u8 191)], .agg [.lit (.int .u8 128), .lit (.int .u8 143)], .agg [.lit (.int .u8 0), .lit (.int .u8 0)], .agg [.lit (.int .u8 0), .lit (.int .u8 0)], .agg [.lit (.int .u8 0), .lit (.int .u8 0)], .agg [.lit (.int .u8 0), .lit (.int .u8 0)], .agg [.lit (.int .u8 0), .lit (.int .u8 0)], .agg [.lit (.int .u8 0), .lit (.int .u8 0)], .agg [.lit (.int .u8 0), .lit (.int .u8 0)], .agg [.lit (.int .u8 0), .lit (.int .u8 0)], .agg [.lit (.int .u8 0), .lit (.int .u8 0)], .agg [.lit (.int .u8 0), .lit (.int .u8 0)], .agg [.lit (.int .u8 0), .lit (.int .u8 0)]]
def laid_ledger_web_errStatus {H : Type} : DataW H := .iface "*errors.errorString" (.ptr (.agg [.lit (.string [116, 104, 101, 32, 115, 116, 97, 116, 117, 115])]))
def laid_ledger_web_methods {H : Type} : DataW H := .agg [.lit (.string [71, 69, 84]), .lit (.string [72, 69, 65, 68]), .lit (.string [80, 79, 83, 84]), .lit (.string [80, 85, 84]), .lit (.string [68, 69, 76, 69, 84, 69]), .lit (.string [67, 79, 78, 78, 69, 67, 84]), .lit (.string [79, 80, 84, 73, 79, 78, 83]), .lit (.string [84, 82, 65, 67, 69]), .lit (.string [80, 65, 84, 67, 72])]
/-- One of Go's own tables, pinned by name: the form's constant. -/
def laid_unicode_utf8_first : DataW Unit := Go.Pinned.utf8First

/-- 'ledgerlaw14.WebTables': WHATEVER THE INPUT: true; the input reads as it did. -/
def webTablesSpec : ChangeSpec := { name := "webTables", fn := fun _ => fun
  | [] => { results := [.lit (.bool true)], args := [] }
  | _ => none }
def webTablesRow : OpenClaim := { program := "ythgojbdpmcccaaadoor", sum := "e8200193e9f6abf245d4134c47b32f287c4ee53ac33a11b94caa53c0584ba8ab", func := "ledger/ledgerlaw14.WebTables", spec := "webTables", named := ["ledger/web.statuses", "ledger/web.reasons", "internal/strconv.uint64pow10", "math/bits.deBruijn32tab", "math/bits.deBruijn64tab"], apart := false, laid := [("math/bits.deBruijn32tab", laid_math_bits_deBruijn32tab), ("math/bits.deBruijn64tab", laid_math_bits_deBruijn64tab), ("internal/strconv.uint64pow10", laid_internal_strconv_uint64pow10), ("ledger/web.reasons", laid_ledger_web_reasons), ("ledger/web.statuses", laid_ledger_web_statuses)] }
def WebTablesSaid : Prop := webTablesRow.holds Tryd.pinned (OpenSpec.ofChange webTablesSpec)

/-- ITS FALSE NEIGHBOUR: 'it returns false'. Refute it at one input. -/
def webTablesWrong : ChangeSpec := { name := "webTables", fn := fun _ => fun
  | [] => { results := [.lit (.bool false)], args := [] }
  | _ => none }
def WebTablesWrongFalsely : Prop := webTablesRow.holds Tryd.pinned (OpenSpec.ofChange webTablesWrong)

/-- 'ledgerlaw14.WebEscapes': WHATEVER THE INPUT: true; the input reads as it did. -/
def webEscapesSpec : ChangeSpec := { name := "webEscapes", fn := fun _ => fun
  | [d] => { results := [.lit (.bool true)], args := [d] }
  | _ => none }
def webEscapesRow : OpenClaim := { program := "ythgojbdpmcccaaadoor", sum := "e8200193e9f6abf245d4134c47b32f287c4ee53ac33a11b94caa53c0584ba8ab", func := "ledger/ledgerlaw14.WebEscapes", spec := "webEscapes", inPlace := ["internal/bytealg.IndexByteString", "internal/bytealg.IndexString", "internal/reflectlite.TypeOf"], unfollowed := true, recurses := true, named := ["ledger/web.errTarget", "internal/bytealg.MaxLen", "ledger/web.errArg", "ledger/web.errLong", "ledger/web.errShort", "ledger/web.errStart", "ledger/web.errProtocol", "ledger/web.errField", "ledger/web.errHost", "ledger/web.errLength", "ledger/web.errChunk", "ledger/web.errMethod"], apart := false, laid := [("ledger/web.errArg", laid_ledger_web_errArg), ("ledger/web.errLong", laid_ledger_web_errLong), ("ledger/web.errShort", laid_ledger_web_errShort), ("ledger/web.errStart", laid_ledger_web_errStart), ("ledger/web.errProtocol", laid_ledger_web_errProtocol), ("ledger/web.errField", laid_ledger_web_errField), ("ledger/web.errHost", laid_ledger_web_errHost), ("ledger/web.errLength", laid_ledger_web_errLength), ("ledger/web.errChunk", laid_ledger_web_errChunk), ("ledger/web.errTarget", laid_ledger_web_errTarget), ("ledger/web.errMethod", laid_ledger_web_errMethod)] }
def WebEscapesSaid : Prop := webEscapesRow.holds Tryd.pinned (OpenSpec.ofChange webEscapesSpec)

/-- ITS FALSE NEIGHBOUR: 'it returns false'. Refute it at one input. -/
def webEscapesWrong : ChangeSpec := { name := "webEscapes", fn := fun _ => fun
  | [d] => { results := [.lit (.bool false)], args := [d] }
  | _ => none }
def WebEscapesWrongFalsely : Prop := webEscapesRow.holds Tryd.pinned (OpenSpec.ofChange webEscapesWrong)

/-- 'ledgerlaw14.WebFixed': WHATEVER THE INPUT: true; the input reads as it did. -/
def webFixedSpec : ChangeSpec := { name := "webFixed", fn := fun _ => fun
  | [d1, d2] => { results := [.lit (.bool true)], args := [d1, d2] }
  | _ => none }
def webFixedRow : OpenClaim := { program := "ythgojbdpmcccaaadoor", sum := "e8200193e9f6abf245d4134c47b32f287c4ee53ac33a11b94caa53c0584ba8ab", func := "ledger/ledgerlaw14.WebFixed", spec := "webFixed", inPlace := ["internal/bytealg.IndexByte", "internal/bytealg.CountString", "internal/bytealg.IndexByteString", "internal/bytealg.IndexString", "internal/reflectlite.TypeOf"], unfollowed := true, recurses := true, named := ["ledger/web.errTarget", "ledger/web.errStart", "ledger/web.errMethod", "ledger/web.errProtocol", "ledger/web.errShort", "ledger/web.errLong", "unicode/utf8.first", "unicode/utf8.acceptRanges", "internal/bytealg.MaxLen", "ledger/web.methods", "ledger/web.errField", "ledger/web.errHost", "ledger/web.errLength", "ledger/web.errChunk", "ledger/web.errArg", "ledger/web.errStatus"], apart := false, laid := [("unicode/utf8.acceptRanges", laid_unicode_utf8_acceptRanges), ("ledger/web.errArg", laid_ledger_web_errArg), ("ledger/web.errLong", laid_ledger_web_errLong), ("ledger/web.errShort", laid_ledger_web_errShort), ("ledger/web.errStart", laid_ledger_web_errStart), ("ledger/web.errProtocol", laid_ledger_web_errProtocol), ("ledger/web.errField", laid_ledger_web_errField), ("ledger/web.errHost", laid_ledger_web_errHost), ("ledger/web.errLength", laid_ledger_web_errLength), ("ledger/web.errChunk", laid_ledger_web_errChunk), ("ledger/web.errTarget", laid_ledger_web_errTarget), ("ledger/web.errMethod", laid_ledger_web_errMethod), ("ledger/web.errStatus", laid_ledger_web_errStatus), ("ledger/web.methods", laid_ledger_web_methods), ("unicode/utf8.first", laid_unicode_utf8_first)] }
def WebFixedSaid : Prop := webFixedRow.holds Tryd.pinned (OpenSpec.ofChange webFixedSpec)

/-- ITS FALSE NEIGHBOUR: 'it returns false'. Refute it at one input. -/
def webFixedWrong : ChangeSpec := { name := "webFixed", fn := fun _ => fun
  | [d1, d2] => { results := [.lit (.bool false)], args := [d1, d2] }
  | _ => none }
def WebFixedWrongFalsely : Prop := webFixedRow.holds Tryd.pinned (OpenSpec.ofChange webFixedWrong)

/- THE SECOND FORM. 'bulk': how many values and letters a reading holds, each counted each time it is reached (what is shared counts as often as it is met; a slice's spare places count too). A statement '..UptoSaid' is the law's where the arguments, and the package variables that the reading takes, are together of bulk at most 1048576: NARROWER than '..Said'. Prove '..Said' where nothing that the law and all that it calls make is longer than what came in: it says more and counts as full. Else prove '..UptoSaid'. A law counts once. -/
mutual
def uptoBulk {H : Type} : DataW H → Nat
  | .lit (.string bytes) => bytes.length + 1
  | .lit _ => 1
  | .nil => 1
  | .ptr d => uptoBulk d + 1
  | .slice elems spare => uptoBulkAll elems + uptoBulkAll spare + 1
  | .agg parts => uptoBulkAll parts + 1
  | .iface _ d => uptoBulk d + 1
  | .map entries => uptoBulkEntries entries + 1
  | .held _ => 1
def uptoBulkAll {H : Type} : List (DataW H) → Nat
  | [] => 0
  | d :: r => uptoBulk d + uptoBulkAll r
def uptoBulkEntries {H : Type} : List (Lit × DataW H) → Nat
  | [] => 0
  | x :: r => uptoBulkEntry x + uptoBulkEntries r
def uptoBulkEntry {H : Type} : Lit × DataW H → Nat
  | (.string bytes, d) => bytes.length + uptoBulk d + 1
  | (_, d) => uptoBulk d + 1
 end
def uptoSmall : (H : Type) → List (DataW H) → Bool := fun _ ds => decide (uptoBulkAll ds ≤ 1048576)
def OpenSpec.upto (s : _root_.Go.ChangeSpec) : _root_.Go.OpenSpec := { _root_.Go.OpenSpec.ofChange s with cond := some uptoSmall }

/-- 'ledgerlaw14.WebTables', WHERE WHAT IT READS IS OF BULK AT MOST 1048576: true; the input reads as it did. -/
def webTablesUptoRow : OpenClaim := { program := "ythgojbdpmcccaaadoor", sum := "e8200193e9f6abf245d4134c47b32f287c4ee53ac33a11b94caa53c0584ba8ab", func := "ledger/ledgerlaw14.WebTables", spec := "webTables", named := ["ledger/web.statuses", "ledger/web.reasons", "internal/strconv.uint64pow10", "math/bits.deBruijn32tab", "math/bits.deBruijn64tab"], apart := false, laid := [("math/bits.deBruijn32tab", laid_math_bits_deBruijn32tab), ("math/bits.deBruijn64tab", laid_math_bits_deBruijn64tab), ("internal/strconv.uint64pow10", laid_internal_strconv_uint64pow10), ("ledger/web.reasons", laid_ledger_web_reasons), ("ledger/web.statuses", laid_ledger_web_statuses)], narrowed := true }
def WebTablesUptoSaid : Prop := webTablesUptoRow.holds Tryd.pinned (OpenSpec.upto webTablesSpec)

/-- 'ledgerlaw14.WebEscapes', WHERE WHAT IT READS IS OF BULK AT MOST 1048576: true; the input reads as it did. -/
def webEscapesUptoRow : OpenClaim := { program := "ythgojbdpmcccaaadoor", sum := "e8200193e9f6abf245d4134c47b32f287c4ee53ac33a11b94caa53c0584ba8ab", func := "ledger/ledgerlaw14.WebEscapes", spec := "webEscapes", inPlace := ["internal/bytealg.IndexByteString", "internal/bytealg.IndexString", "internal/reflectlite.TypeOf"], unfollowed := true, recurses := true, named := ["ledger/web.errTarget", "internal/bytealg.MaxLen", "ledger/web.errArg", "ledger/web.errLong", "ledger/web.errShort", "ledger/web.errStart", "ledger/web.errProtocol", "ledger/web.errField", "ledger/web.errHost", "ledger/web.errLength", "ledger/web.errChunk", "ledger/web.errMethod"], apart := false, laid := [("ledger/web.errArg", laid_ledger_web_errArg), ("ledger/web.errLong", laid_ledger_web_errLong), ("ledger/web.errShort", laid_ledger_web_errShort), ("ledger/web.errStart", laid_ledger_web_errStart), ("ledger/web.errProtocol", laid_ledger_web_errProtocol), ("ledger/web.errField", laid_ledger_web_errField), ("ledger/web.errHost", laid_ledger_web_errHost), ("ledger/web.errLength", laid_ledger_web_errLength), ("ledger/web.errChunk", laid_ledger_web_errChunk), ("ledger/web.errTarget", laid_ledger_web_errTarget), ("ledger/web.errMethod", laid_ledger_web_errMethod)], narrowed := true }
def WebEscapesUptoSaid : Prop := webEscapesUptoRow.holds Tryd.pinned (OpenSpec.upto webEscapesSpec)

/-- 'ledgerlaw14.WebFixed', WHERE WHAT IT READS IS OF BULK AT MOST 1048576: true; the input reads as it did. -/
def webFixedUptoRow : OpenClaim := { program := "ythgojbdpmcccaaadoor", sum := "e8200193e9f6abf245d4134c47b32f287c4ee53ac33a11b94caa53c0584ba8ab", func := "ledger/ledgerlaw14.WebFixed", spec := "webFixed", inPlace := ["internal/bytealg.IndexByte", "internal/bytealg.CountString", "internal/bytealg.IndexByteString", "internal/bytealg.IndexString", "internal/reflectlite.TypeOf"], unfollowed := true, recurses := true, named := ["ledger/web.errTarget", "ledger/web.errStart", "ledger/web.errMethod", "ledger/web.errProtocol", "ledger/web.errShort", "ledger/web.errLong", "unicode/utf8.first", "unicode/utf8.acceptRanges", "internal/bytealg.MaxLen", "ledger/web.methods", "ledger/web.errField", "ledger/web.errHost", "ledger/web.errLength", "ledger/web.errChunk", "ledger/web.errArg", "ledger/web.errStatus"], apart := false, laid := [("unicode/utf8.acceptRanges", laid_unicode_utf8_acceptRanges), ("ledger/web.errArg", laid_ledger_web_errArg), ("ledger/web.errLong", laid_ledger_web_errLong), ("ledger/web.errShort", laid_ledger_web_errShort), ("ledger/web.errStart", laid_ledger_web_errStart), ("ledger/web.errProtocol", laid_ledger_web_errProtocol), ("ledger/web.errField", laid_ledger_web_errField), ("ledger/web.errHost", laid_ledger_web_errHost), ("ledger/web.errLength", laid_ledger_web_errLength), ("ledger/web.errChunk", laid_ledger_web_errChunk), ("ledger/web.errTarget", laid_ledger_web_errTarget), ("ledger/web.errMethod", laid_ledger_web_errMethod), ("ledger/web.errStatus", laid_ledger_web_errStatus), ("ledger/web.methods", laid_ledger_web_methods), ("unicode/utf8.first", laid_unicode_utf8_first)], narrowed := true }
def WebFixedUptoSaid : Prop := webFixedUptoRow.holds Tryd.pinned (OpenSpec.upto webFixedSpec)

end Rows
end Go.Proofs.YthgojbdpmcccaaaDoor
