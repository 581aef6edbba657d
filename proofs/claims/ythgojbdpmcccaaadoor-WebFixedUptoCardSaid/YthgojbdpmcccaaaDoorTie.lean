/-
  DERIVED. GIVEN WITH THE SEED: THE PROGRAM's TIES (one call each: nine closed facts by the kernel) AND EACH ROW's TIE, after the 31st guide's Derived/Test/Toyas{Tie, Card}.lean. No idea stands in it: it is a product of the set-up. Laid BY PROGRAM, IN A SANDBOX (cutbox-door.mjs). By AI agents, Wed Nov 11 2026. No macro, syntax, notation, axiom, sorry.
-/
import Derived.Test.YthgojbdpmcccaaaDoorRows
import Derived.LaidByTextLater
import Derived.SevenTiedAt
import Derived.LaidSub
import Derived.LaidOnce
namespace Go.Proofs.YthgojbdpmcccaaaDoor
open Go
set_option maxRecDepth 100000
theorem seatTie1 : Tryd.prog.laidByTextLater [("math/bits.deBruijn32tab", Rows.laid_math_bits_deBruijn32tab), ("math/bits.deBruijn64tab", Rows.laid_math_bits_deBruijn64tab), ("internal/strconv.uint64pow10", Rows.laid_internal_strconv_uint64pow10), ("ledger/web.reasons", Rows.laid_ledger_web_reasons), ("ledger/web.statuses", Rows.laid_ledger_web_statuses)] [.data, .data, .data, .data, .data] true :=
  Program.laidByTextLater_by_one 312 8 65 (by kernel_rfl) (by kernel_rfl) (by kernel_rfl) (by kernel_rfl) (by kernel_rfl) (by kernel_rfl) (fun _ _ => by kernel_rfl)
theorem seatTie2 : Tryd.prog.laidByTextLater [("unicode/utf8.acceptRanges", Rows.laid_unicode_utf8_acceptRanges), ("ledger/web.errArg", Rows.laid_ledger_web_errArg), ("ledger/web.errLong", Rows.laid_ledger_web_errLong), ("ledger/web.errShort", Rows.laid_ledger_web_errShort), ("ledger/web.errStart", Rows.laid_ledger_web_errStart), ("ledger/web.errProtocol", Rows.laid_ledger_web_errProtocol), ("ledger/web.errField", Rows.laid_ledger_web_errField), ("ledger/web.errHost", Rows.laid_ledger_web_errHost), ("ledger/web.errLength", Rows.laid_ledger_web_errLength), ("ledger/web.errChunk", Rows.laid_ledger_web_errChunk), ("ledger/web.errTarget", Rows.laid_ledger_web_errTarget), ("ledger/web.errMethod", Rows.laid_ledger_web_errMethod), ("ledger/web.errStatus", Rows.laid_ledger_web_errStatus), ("ledger/web.methods", Rows.laid_ledger_web_methods)] [.data, .sentinel, .sentinel, .sentinel, .sentinel, .sentinel, .sentinel, .sentinel, .sentinel, .sentinel, .sentinel, .sentinel, .sentinel, .data] true :=
  Program.laidByTextLater_by_one 312 8 65 (by kernel_rfl) (by kernel_rfl) (by kernel_rfl) (by kernel_rfl) (by kernel_rfl) (by kernel_rfl) (fun _ _ => by kernel_rfl)
theorem pin_laid_unicode_utf8_first : Tryd.pinned.checked.prog.pinnedFits "unicode/utf8.first" = true := by kernel_rfl
theorem noOwnUnsafe : Tryd.pinned.checked.prog.headLifts.contains "ownunsafe" = false := by kernel_rfl
theorem tie : Tryd.prog.laidByTextLater [("math/bits.deBruijn32tab", Rows.laid_math_bits_deBruijn32tab), ("math/bits.deBruijn64tab", Rows.laid_math_bits_deBruijn64tab), ("internal/strconv.uint64pow10", Rows.laid_internal_strconv_uint64pow10), ("ledger/web.reasons", Rows.laid_ledger_web_reasons), ("ledger/web.statuses", Rows.laid_ledger_web_statuses)] [.data, .data, .data, .data, .data] true :=
  Program.laidByTextLater.sub seatTie1 ["math/bits.deBruijn32tab", "math/bits.deBruijn64tab", "internal/strconv.uint64pow10", "ledger/web.reasons", "ledger/web.statuses"] (by kernel_rfl) (by kernel_rfl)
theorem webTables_row_tie : Rows.webTablesRow.laidByTextAt .later Tryd.pinned [.data, .data, .data, .data, .data] true :=
  OpenClaim.laidByTextAt_later rfl rfl tie noOwnUnsafe
theorem tie2 : Tryd.prog.laidByTextLater [("ledger/web.errArg", Rows.laid_ledger_web_errArg), ("ledger/web.errLong", Rows.laid_ledger_web_errLong), ("ledger/web.errShort", Rows.laid_ledger_web_errShort), ("ledger/web.errStart", Rows.laid_ledger_web_errStart), ("ledger/web.errProtocol", Rows.laid_ledger_web_errProtocol), ("ledger/web.errField", Rows.laid_ledger_web_errField), ("ledger/web.errHost", Rows.laid_ledger_web_errHost), ("ledger/web.errLength", Rows.laid_ledger_web_errLength), ("ledger/web.errChunk", Rows.laid_ledger_web_errChunk), ("ledger/web.errTarget", Rows.laid_ledger_web_errTarget), ("ledger/web.errMethod", Rows.laid_ledger_web_errMethod)] [.sentinel, .sentinel, .sentinel, .sentinel, .sentinel, .sentinel, .sentinel, .sentinel, .sentinel, .sentinel, .sentinel] true :=
  Program.laidByTextLater.sub seatTie2 ["ledger/web.errArg", "ledger/web.errLong", "ledger/web.errShort", "ledger/web.errStart", "ledger/web.errProtocol", "ledger/web.errField", "ledger/web.errHost", "ledger/web.errLength", "ledger/web.errChunk", "ledger/web.errTarget", "ledger/web.errMethod"] (by kernel_rfl) (by kernel_rfl)
theorem webEscapes_row_tie : Rows.webEscapesRow.laidByTextAt .later Tryd.pinned [.sentinel, .sentinel, .sentinel, .sentinel, .sentinel, .sentinel, .sentinel, .sentinel, .sentinel, .sentinel, .sentinel] true :=
  OpenClaim.laidByTextAt_later rfl rfl tie2 noOwnUnsafe
theorem fits3 : Tryd.pinned.checked.prog.listedFits [("unicode/utf8.acceptRanges", Rows.laid_unicode_utf8_acceptRanges), ("ledger/web.errArg", Rows.laid_ledger_web_errArg), ("ledger/web.errLong", Rows.laid_ledger_web_errLong), ("ledger/web.errShort", Rows.laid_ledger_web_errShort), ("ledger/web.errStart", Rows.laid_ledger_web_errStart), ("ledger/web.errProtocol", Rows.laid_ledger_web_errProtocol), ("ledger/web.errField", Rows.laid_ledger_web_errField), ("ledger/web.errHost", Rows.laid_ledger_web_errHost), ("ledger/web.errLength", Rows.laid_ledger_web_errLength), ("ledger/web.errChunk", Rows.laid_ledger_web_errChunk), ("ledger/web.errTarget", Rows.laid_ledger_web_errTarget), ("ledger/web.errMethod", Rows.laid_ledger_web_errMethod), ("ledger/web.errStatus", Rows.laid_ledger_web_errStatus), ("ledger/web.methods", Rows.laid_ledger_web_methods), ("unicode/utf8.first", Rows.laid_unicode_utf8_first)] = true := by
  unfold Program.listedFits
  rw [noOwnUnsafe]
  kernel_rfl
theorem tie3 : Tryd.prog.laidByTextLater [("unicode/utf8.acceptRanges", Rows.laid_unicode_utf8_acceptRanges), ("ledger/web.errArg", Rows.laid_ledger_web_errArg), ("ledger/web.errLong", Rows.laid_ledger_web_errLong), ("ledger/web.errShort", Rows.laid_ledger_web_errShort), ("ledger/web.errStart", Rows.laid_ledger_web_errStart), ("ledger/web.errProtocol", Rows.laid_ledger_web_errProtocol), ("ledger/web.errField", Rows.laid_ledger_web_errField), ("ledger/web.errHost", Rows.laid_ledger_web_errHost), ("ledger/web.errLength", Rows.laid_ledger_web_errLength), ("ledger/web.errChunk", Rows.laid_ledger_web_errChunk), ("ledger/web.errTarget", Rows.laid_ledger_web_errTarget), ("ledger/web.errMethod", Rows.laid_ledger_web_errMethod), ("ledger/web.errStatus", Rows.laid_ledger_web_errStatus), ("ledger/web.methods", Rows.laid_ledger_web_methods)] [.data, .sentinel, .sentinel, .sentinel, .sentinel, .sentinel, .sentinel, .sentinel, .sentinel, .sentinel, .sentinel, .sentinel, .sentinel, .data] true :=
  Program.laidByTextLater.sub seatTie2 ["unicode/utf8.acceptRanges", "ledger/web.errArg", "ledger/web.errLong", "ledger/web.errShort", "ledger/web.errStart", "ledger/web.errProtocol", "ledger/web.errField", "ledger/web.errHost", "ledger/web.errLength", "ledger/web.errChunk", "ledger/web.errTarget", "ledger/web.errMethod", "ledger/web.errStatus", "ledger/web.methods"] (by kernel_rfl) (by kernel_rfl)
theorem webFixed_row_tie : Rows.webFixedRow.laidByTextAt .later Tryd.pinned [.data, .sentinel, .sentinel, .sentinel, .sentinel, .sentinel, .sentinel, .sentinel, .sentinel, .sentinel, .sentinel, .sentinel, .sentinel, .data, .pinned] true :=
  OpenClaim.laidByTextAt_pinned rfl rfl tie3 rfl rfl rfl rfl (fun y hy _e => by
    simp only [Rows.webFixedRow, List.zip_cons_cons, List.zip_nil_right, List.mem_cons, List.mem_nil_iff, or_false] at hy
    rcases hy with rfl | rfl | rfl | rfl | rfl | rfl | rfl | rfl | rfl | rfl | rfl | rfl | rfl | rfl | rfl
    · cases _e
    · cases _e
    · cases _e
    · cases _e
    · cases _e
    · cases _e
    · cases _e
    · cases _e
    · cases _e
    · cases _e
    · cases _e
    · cases _e
    · cases _e
    · cases _e
    · exact ⟨pin_laid_unicode_utf8_first, by kernel_rfl⟩) fits3
theorem webTablesUpto_row_tie : Rows.webTablesUptoRow.laidByTextAt .later Tryd.pinned [.data, .data, .data, .data, .data] true :=
  OpenClaim.laidByTextAt_later rfl rfl tie noOwnUnsafe
theorem webEscapesUpto_row_tie : Rows.webEscapesUptoRow.laidByTextAt .later Tryd.pinned [.sentinel, .sentinel, .sentinel, .sentinel, .sentinel, .sentinel, .sentinel, .sentinel, .sentinel, .sentinel, .sentinel] true :=
  OpenClaim.laidByTextAt_later rfl rfl tie2 noOwnUnsafe
theorem webFixedUpto_row_tie : Rows.webFixedUptoRow.laidByTextAt .later Tryd.pinned [.data, .sentinel, .sentinel, .sentinel, .sentinel, .sentinel, .sentinel, .sentinel, .sentinel, .sentinel, .sentinel, .sentinel, .sentinel, .data, .pinned] true :=
  OpenClaim.laidByTextAt_pinned rfl rfl tie3 rfl rfl rfl rfl (fun y hy _e => by
    simp only [Rows.webFixedUptoRow, List.zip_cons_cons, List.zip_nil_right, List.mem_cons, List.mem_nil_iff, or_false] at hy
    rcases hy with rfl | rfl | rfl | rfl | rfl | rfl | rfl | rfl | rfl | rfl | rfl | rfl | rfl | rfl | rfl
    · cases _e
    · cases _e
    · cases _e
    · cases _e
    · cases _e
    · cases _e
    · cases _e
    · cases _e
    · cases _e
    · cases _e
    · cases _e
    · cases _e
    · cases _e
    · cases _e
    · exact ⟨pin_laid_unicode_utf8_first, by kernel_rfl⟩) fits3
end Go.Proofs.YthgojbdpmcccaaaDoor
