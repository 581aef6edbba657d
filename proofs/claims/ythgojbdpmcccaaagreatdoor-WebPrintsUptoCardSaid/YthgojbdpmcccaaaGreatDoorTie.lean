/-
  DERIVED. GIVEN WITH THE SEED: THE PROGRAM's TIES (one call each: nine closed facts by the kernel) AND EACH ROW's TIE, after the 31st guide's Derived/Test/Toyas{Tie, Card}.lean. No idea stands in it: it is a product of the set-up. Laid BY PROGRAM, IN A SANDBOX (cutbox-door.mjs). By AI agents, Wed Nov 11 2026. No macro, syntax, notation, axiom, sorry.
-/
import Derived.Test.YthgojbdpmcccaaaGreatDoorRows
import Derived.LaidByTextLater
import Derived.SevenTiedAt
import Derived.LaidSub
import Derived.LaidOnce
namespace Go.Proofs.YthgojbdpmcccaaaGreatDoor
open Go
set_option maxRecDepth 100000
theorem seatTie1 : Tryz.prog.laidByTextLater [("ledger/ledgerref14.methods", Rows.laid_ledger_ledgerref14_methods), ("math/bits.deBruijn32tab", Rows.laid_math_bits_deBruijn32tab), ("math/bits.deBruijn64tab", Rows.laid_math_bits_deBruijn64tab), ("internal/strconv.uint64pow10", Rows.laid_internal_strconv_uint64pow10), ("unicode/utf8.acceptRanges", Rows.laid_unicode_utf8_acceptRanges), ("bytes.ErrTooLarge", Rows.laid_bytes_ErrTooLarge), ("ledger/web.errArg", Rows.laid_ledger_web_errArg), ("ledger/web.errLong", Rows.laid_ledger_web_errLong), ("ledger/web.errShort", Rows.laid_ledger_web_errShort), ("ledger/web.errStart", Rows.laid_ledger_web_errStart), ("ledger/web.errProtocol", Rows.laid_ledger_web_errProtocol), ("ledger/web.errField", Rows.laid_ledger_web_errField), ("ledger/web.errHost", Rows.laid_ledger_web_errHost), ("ledger/web.errLength", Rows.laid_ledger_web_errLength), ("ledger/web.errChunk", Rows.laid_ledger_web_errChunk), ("ledger/web.errTarget", Rows.laid_ledger_web_errTarget), ("ledger/web.errMethod", Rows.laid_ledger_web_errMethod), ("ledger/web.errStatus", Rows.laid_ledger_web_errStatus), ("ledger/web.statuses", Rows.laid_ledger_web_statuses), ("ledger/web.methods", Rows.laid_ledger_web_methods)] [.data, .data, .data, .data, .data, .sentinel, .sentinel, .sentinel, .sentinel, .sentinel, .sentinel, .sentinel, .sentinel, .sentinel, .sentinel, .sentinel, .sentinel, .sentinel, .data, .data] true :=
  Program.laidByTextLater_by_one 346 8 65 (by kernel_rfl) (by kernel_rfl) (by kernel_rfl) (by kernel_rfl) (by kernel_rfl) (by kernel_rfl) (fun _ _ => by kernel_rfl)
theorem seatTie2 : Tryz.prog.laidByTextLater [("ledger/ledgerref14.statuses", Rows.laid_ledger_ledgerref14_statuses), ("ledger/ledgerref14.reasons", Rows.laid_ledger_ledgerref14_reasons), ("ledger/ledgerref14.methods", Rows.laid_ledger_ledgerref14_methods), ("math/bits.deBruijn32tab", Rows.laid_math_bits_deBruijn32tab), ("math/bits.deBruijn64tab", Rows.laid_math_bits_deBruijn64tab), ("internal/strconv.uint64pow10", Rows.laid_internal_strconv_uint64pow10), ("unicode/utf8.acceptRanges", Rows.laid_unicode_utf8_acceptRanges), ("ledger/web.reasons", Rows.laid_ledger_web_reasons), ("ledger/web.errArg", Rows.laid_ledger_web_errArg), ("ledger/web.errLong", Rows.laid_ledger_web_errLong), ("ledger/web.errShort", Rows.laid_ledger_web_errShort), ("ledger/web.errStart", Rows.laid_ledger_web_errStart), ("ledger/web.errProtocol", Rows.laid_ledger_web_errProtocol), ("ledger/web.errField", Rows.laid_ledger_web_errField), ("ledger/web.errHost", Rows.laid_ledger_web_errHost), ("ledger/web.errLength", Rows.laid_ledger_web_errLength), ("ledger/web.errChunk", Rows.laid_ledger_web_errChunk), ("ledger/web.errTarget", Rows.laid_ledger_web_errTarget), ("ledger/web.errMethod", Rows.laid_ledger_web_errMethod), ("ledger/web.errStatus", Rows.laid_ledger_web_errStatus), ("ledger/web.methods", Rows.laid_ledger_web_methods)] [.data, .data, .data, .data, .data, .data, .data, .data, .sentinel, .sentinel, .sentinel, .sentinel, .sentinel, .sentinel, .sentinel, .sentinel, .sentinel, .sentinel, .sentinel, .sentinel, .data] true :=
  Program.laidByTextLater_by_one 346 8 65 (by kernel_rfl) (by kernel_rfl) (by kernel_rfl) (by kernel_rfl) (by kernel_rfl) (by kernel_rfl) (fun _ _ => by kernel_rfl)
theorem seatTie3 : Tryz.prog.laidByTextLater [("math/bits.deBruijn32tab", Rows.laid_math_bits_deBruijn32tab), ("math/bits.deBruijn64tab", Rows.laid_math_bits_deBruijn64tab), ("internal/strconv.uint64pow10", Rows.laid_internal_strconv_uint64pow10), ("unicode/utf8.acceptRanges", Rows.laid_unicode_utf8_acceptRanges), ("ledger/web.reasons", Rows.laid_ledger_web_reasons), ("ledger/web.errArg", Rows.laid_ledger_web_errArg), ("ledger/web.errLong", Rows.laid_ledger_web_errLong), ("ledger/web.errShort", Rows.laid_ledger_web_errShort), ("ledger/web.errStart", Rows.laid_ledger_web_errStart), ("ledger/web.errProtocol", Rows.laid_ledger_web_errProtocol), ("ledger/web.errField", Rows.laid_ledger_web_errField), ("ledger/web.errHost", Rows.laid_ledger_web_errHost), ("ledger/web.errLength", Rows.laid_ledger_web_errLength), ("ledger/web.errChunk", Rows.laid_ledger_web_errChunk), ("ledger/web.errTarget", Rows.laid_ledger_web_errTarget), ("ledger/web.errMethod", Rows.laid_ledger_web_errMethod), ("ledger/web.errStatus", Rows.laid_ledger_web_errStatus), ("ledger/web.methods", Rows.laid_ledger_web_methods)] [.data, .data, .data, .data, .data, .sentinel, .sentinel, .sentinel, .sentinel, .sentinel, .sentinel, .sentinel, .sentinel, .sentinel, .sentinel, .sentinel, .sentinel, .data] true :=
  Program.laidByTextLater_by_one 346 8 65 (by kernel_rfl) (by kernel_rfl) (by kernel_rfl) (by kernel_rfl) (by kernel_rfl) (by kernel_rfl) (fun _ _ => by kernel_rfl)
theorem seatTie4 : Tryz.prog.laidByTextLater [("ledger/ledgerref14.statuses", Rows.laid_ledger_ledgerref14_statuses), ("ledger/ledgerref14.reasons", Rows.laid_ledger_ledgerref14_reasons), ("ledger/ledgerref14.methods", Rows.laid_ledger_ledgerref14_methods), ("math/bits.deBruijn32tab", Rows.laid_math_bits_deBruijn32tab), ("math/bits.deBruijn64tab", Rows.laid_math_bits_deBruijn64tab), ("internal/strconv.uint64pow10", Rows.laid_internal_strconv_uint64pow10), ("unicode/utf8.acceptRanges", Rows.laid_unicode_utf8_acceptRanges), ("bytes.ErrTooLarge", Rows.laid_bytes_ErrTooLarge), ("ledger/web.reasons", Rows.laid_ledger_web_reasons), ("ledger/web.errArg", Rows.laid_ledger_web_errArg), ("ledger/web.errLong", Rows.laid_ledger_web_errLong), ("ledger/web.errShort", Rows.laid_ledger_web_errShort), ("ledger/web.errStart", Rows.laid_ledger_web_errStart), ("ledger/web.errProtocol", Rows.laid_ledger_web_errProtocol), ("ledger/web.errField", Rows.laid_ledger_web_errField), ("ledger/web.errHost", Rows.laid_ledger_web_errHost), ("ledger/web.errLength", Rows.laid_ledger_web_errLength), ("ledger/web.errChunk", Rows.laid_ledger_web_errChunk), ("ledger/web.errTarget", Rows.laid_ledger_web_errTarget), ("ledger/web.errMethod", Rows.laid_ledger_web_errMethod), ("ledger/web.errStatus", Rows.laid_ledger_web_errStatus), ("ledger/web.methods", Rows.laid_ledger_web_methods)] [.data, .data, .data, .data, .data, .data, .data, .sentinel, .data, .sentinel, .sentinel, .sentinel, .sentinel, .sentinel, .sentinel, .sentinel, .sentinel, .sentinel, .sentinel, .sentinel, .sentinel, .data] true :=
  Program.laidByTextLater_by_one 346 8 65 (by kernel_rfl) (by kernel_rfl) (by kernel_rfl) (by kernel_rfl) (by kernel_rfl) (by kernel_rfl) (fun _ _ => by kernel_rfl)
theorem seatTie5 : Tryz.prog.laidByTextLater [("ledger/ledgerref14.statuses", Rows.laid_ledger_ledgerref14_statuses), ("ledger/ledgerref14.reasons", Rows.laid_ledger_ledgerref14_reasons), ("ledger/ledgerref14.methods", Rows.laid_ledger_ledgerref14_methods), ("math/bits.deBruijn32tab", Rows.laid_math_bits_deBruijn32tab), ("math/bits.deBruijn64tab", Rows.laid_math_bits_deBruijn64tab), ("internal/strconv.uint64pow10", Rows.laid_internal_strconv_uint64pow10), ("unicode/utf8.acceptRanges", Rows.laid_unicode_utf8_acceptRanges), ("bytes.ErrTooLarge", Rows.laid_bytes_ErrTooLarge), ("ledger/web.reasons", Rows.laid_ledger_web_reasons), ("ledger/web.errArg", Rows.laid_ledger_web_errArg), ("ledger/web.errLong", Rows.laid_ledger_web_errLong), ("ledger/web.errShort", Rows.laid_ledger_web_errShort), ("ledger/web.errStart", Rows.laid_ledger_web_errStart), ("ledger/web.errProtocol", Rows.laid_ledger_web_errProtocol), ("ledger/web.errField", Rows.laid_ledger_web_errField), ("ledger/web.errHost", Rows.laid_ledger_web_errHost), ("ledger/web.errLength", Rows.laid_ledger_web_errLength), ("ledger/web.errChunk", Rows.laid_ledger_web_errChunk), ("ledger/web.errTarget", Rows.laid_ledger_web_errTarget), ("ledger/web.errMethod", Rows.laid_ledger_web_errMethod), ("ledger/web.errStatus", Rows.laid_ledger_web_errStatus), ("ledger/web.statuses", Rows.laid_ledger_web_statuses), ("ledger/web.methods", Rows.laid_ledger_web_methods)] [.data, .data, .data, .data, .data, .data, .data, .sentinel, .data, .sentinel, .sentinel, .sentinel, .sentinel, .sentinel, .sentinel, .sentinel, .sentinel, .sentinel, .sentinel, .sentinel, .sentinel, .data, .data] true :=
  Program.laidByTextLater_by_one 346 8 65 (by kernel_rfl) (by kernel_rfl) (by kernel_rfl) (by kernel_rfl) (by kernel_rfl) (by kernel_rfl) (fun _ _ => by kernel_rfl)
theorem pin_laid_unicode_utf8_first : Tryz.pinned.checked.prog.pinnedFits "unicode/utf8.first" = true := by kernel_rfl
theorem noOwnUnsafe : Tryz.pinned.checked.prog.headLifts.contains "ownunsafe" = false := by kernel_rfl
theorem fits1 : Tryz.pinned.checked.prog.listedFits [("math/bits.deBruijn32tab", Rows.laid_math_bits_deBruijn32tab), ("math/bits.deBruijn64tab", Rows.laid_math_bits_deBruijn64tab), ("internal/strconv.uint64pow10", Rows.laid_internal_strconv_uint64pow10), ("unicode/utf8.acceptRanges", Rows.laid_unicode_utf8_acceptRanges), ("ledger/web.errArg", Rows.laid_ledger_web_errArg), ("ledger/web.errLong", Rows.laid_ledger_web_errLong), ("ledger/web.errShort", Rows.laid_ledger_web_errShort), ("ledger/web.errStart", Rows.laid_ledger_web_errStart), ("ledger/web.errProtocol", Rows.laid_ledger_web_errProtocol), ("ledger/web.errField", Rows.laid_ledger_web_errField), ("ledger/web.errHost", Rows.laid_ledger_web_errHost), ("ledger/web.errLength", Rows.laid_ledger_web_errLength), ("ledger/web.errChunk", Rows.laid_ledger_web_errChunk), ("ledger/web.errTarget", Rows.laid_ledger_web_errTarget), ("ledger/web.errMethod", Rows.laid_ledger_web_errMethod), ("ledger/web.methods", Rows.laid_ledger_web_methods), ("unicode/utf8.first", Rows.laid_unicode_utf8_first)] = true := by
  unfold Program.listedFits
  rw [noOwnUnsafe]
  kernel_rfl
theorem tie : Tryz.prog.laidByTextLater [("math/bits.deBruijn32tab", Rows.laid_math_bits_deBruijn32tab), ("math/bits.deBruijn64tab", Rows.laid_math_bits_deBruijn64tab), ("internal/strconv.uint64pow10", Rows.laid_internal_strconv_uint64pow10), ("unicode/utf8.acceptRanges", Rows.laid_unicode_utf8_acceptRanges), ("ledger/web.errArg", Rows.laid_ledger_web_errArg), ("ledger/web.errLong", Rows.laid_ledger_web_errLong), ("ledger/web.errShort", Rows.laid_ledger_web_errShort), ("ledger/web.errStart", Rows.laid_ledger_web_errStart), ("ledger/web.errProtocol", Rows.laid_ledger_web_errProtocol), ("ledger/web.errField", Rows.laid_ledger_web_errField), ("ledger/web.errHost", Rows.laid_ledger_web_errHost), ("ledger/web.errLength", Rows.laid_ledger_web_errLength), ("ledger/web.errChunk", Rows.laid_ledger_web_errChunk), ("ledger/web.errTarget", Rows.laid_ledger_web_errTarget), ("ledger/web.errMethod", Rows.laid_ledger_web_errMethod), ("ledger/web.methods", Rows.laid_ledger_web_methods)] [.data, .data, .data, .data, .sentinel, .sentinel, .sentinel, .sentinel, .sentinel, .sentinel, .sentinel, .sentinel, .sentinel, .sentinel, .sentinel, .data] true :=
  Program.laidByTextLater.sub seatTie1 ["math/bits.deBruijn32tab", "math/bits.deBruijn64tab", "internal/strconv.uint64pow10", "unicode/utf8.acceptRanges", "ledger/web.errArg", "ledger/web.errLong", "ledger/web.errShort", "ledger/web.errStart", "ledger/web.errProtocol", "ledger/web.errField", "ledger/web.errHost", "ledger/web.errLength", "ledger/web.errChunk", "ledger/web.errTarget", "ledger/web.errMethod", "ledger/web.methods"] (by kernel_rfl) (by kernel_rfl)
theorem webWhole_row_tie : Rows.webWholeRow.laidByTextAt .later Tryz.pinned [.data, .data, .data, .data, .sentinel, .sentinel, .sentinel, .sentinel, .sentinel, .sentinel, .sentinel, .sentinel, .sentinel, .sentinel, .sentinel, .data, .pinned] true :=
  OpenClaim.laidByTextAt_pinned rfl rfl tie rfl rfl rfl rfl (fun y hy _e => by
    simp only [Rows.webWholeRow, List.zip_cons_cons, List.zip_nil_right, List.mem_cons, List.mem_nil_iff, or_false] at hy
    rcases hy with rfl | rfl | rfl | rfl | rfl | rfl | rfl | rfl | rfl | rfl | rfl | rfl | rfl | rfl | rfl | rfl | rfl
    · cases _e
    · cases _e
    · cases _e
    · cases _e
    · cases _e
    · cases _e
    · cases _e
    · cases _e
    · cases _e
    · cases _e
    · cases _e
    · cases _e
    · cases _e
    · cases _e
    · cases _e
    · cases _e
    · exact ⟨pin_laid_unicode_utf8_first, by kernel_rfl⟩) fits1
theorem webStreams_row_tie : Rows.webStreamsRow.laidByTextAt .later Tryz.pinned [.data, .data, .data, .data, .sentinel, .sentinel, .sentinel, .sentinel, .sentinel, .sentinel, .sentinel, .sentinel, .sentinel, .sentinel, .sentinel, .data, .pinned] true :=
  OpenClaim.laidByTextAt_pinned rfl rfl tie rfl rfl rfl rfl (fun y hy _e => by
    simp only [Rows.webStreamsRow, List.zip_cons_cons, List.zip_nil_right, List.mem_cons, List.mem_nil_iff, or_false] at hy
    rcases hy with rfl | rfl | rfl | rfl | rfl | rfl | rfl | rfl | rfl | rfl | rfl | rfl | rfl | rfl | rfl | rfl | rfl
    · cases _e
    · cases _e
    · cases _e
    · cases _e
    · cases _e
    · cases _e
    · cases _e
    · cases _e
    · cases _e
    · cases _e
    · cases _e
    · cases _e
    · cases _e
    · cases _e
    · cases _e
    · cases _e
    · exact ⟨pin_laid_unicode_utf8_first, by kernel_rfl⟩) fits1
theorem fits2 : Tryz.pinned.checked.prog.listedFits [("math/bits.deBruijn32tab", Rows.laid_math_bits_deBruijn32tab), ("math/bits.deBruijn64tab", Rows.laid_math_bits_deBruijn64tab), ("internal/strconv.uint64pow10", Rows.laid_internal_strconv_uint64pow10), ("unicode/utf8.acceptRanges", Rows.laid_unicode_utf8_acceptRanges), ("ledger/web.errArg", Rows.laid_ledger_web_errArg), ("ledger/web.errLong", Rows.laid_ledger_web_errLong), ("ledger/web.errShort", Rows.laid_ledger_web_errShort), ("ledger/web.errStart", Rows.laid_ledger_web_errStart), ("ledger/web.errProtocol", Rows.laid_ledger_web_errProtocol), ("ledger/web.errField", Rows.laid_ledger_web_errField), ("ledger/web.errHost", Rows.laid_ledger_web_errHost), ("ledger/web.errLength", Rows.laid_ledger_web_errLength), ("ledger/web.errChunk", Rows.laid_ledger_web_errChunk), ("ledger/web.errTarget", Rows.laid_ledger_web_errTarget), ("ledger/web.errMethod", Rows.laid_ledger_web_errMethod), ("ledger/web.statuses", Rows.laid_ledger_web_statuses), ("ledger/web.methods", Rows.laid_ledger_web_methods), ("unicode/utf8.first", Rows.laid_unicode_utf8_first)] = true := by
  unfold Program.listedFits
  rw [noOwnUnsafe]
  kernel_rfl
theorem tie2 : Tryz.prog.laidByTextLater [("math/bits.deBruijn32tab", Rows.laid_math_bits_deBruijn32tab), ("math/bits.deBruijn64tab", Rows.laid_math_bits_deBruijn64tab), ("internal/strconv.uint64pow10", Rows.laid_internal_strconv_uint64pow10), ("unicode/utf8.acceptRanges", Rows.laid_unicode_utf8_acceptRanges), ("ledger/web.errArg", Rows.laid_ledger_web_errArg), ("ledger/web.errLong", Rows.laid_ledger_web_errLong), ("ledger/web.errShort", Rows.laid_ledger_web_errShort), ("ledger/web.errStart", Rows.laid_ledger_web_errStart), ("ledger/web.errProtocol", Rows.laid_ledger_web_errProtocol), ("ledger/web.errField", Rows.laid_ledger_web_errField), ("ledger/web.errHost", Rows.laid_ledger_web_errHost), ("ledger/web.errLength", Rows.laid_ledger_web_errLength), ("ledger/web.errChunk", Rows.laid_ledger_web_errChunk), ("ledger/web.errTarget", Rows.laid_ledger_web_errTarget), ("ledger/web.errMethod", Rows.laid_ledger_web_errMethod), ("ledger/web.statuses", Rows.laid_ledger_web_statuses), ("ledger/web.methods", Rows.laid_ledger_web_methods)] [.data, .data, .data, .data, .sentinel, .sentinel, .sentinel, .sentinel, .sentinel, .sentinel, .sentinel, .sentinel, .sentinel, .sentinel, .sentinel, .data, .data] true :=
  Program.laidByTextLater.sub seatTie1 ["math/bits.deBruijn32tab", "math/bits.deBruijn64tab", "internal/strconv.uint64pow10", "unicode/utf8.acceptRanges", "ledger/web.errArg", "ledger/web.errLong", "ledger/web.errShort", "ledger/web.errStart", "ledger/web.errProtocol", "ledger/web.errField", "ledger/web.errHost", "ledger/web.errLength", "ledger/web.errChunk", "ledger/web.errTarget", "ledger/web.errMethod", "ledger/web.statuses", "ledger/web.methods"] (by kernel_rfl) (by kernel_rfl)
theorem webSmuggles_row_tie : Rows.webSmugglesRow.laidByTextAt .later Tryz.pinned [.data, .data, .data, .data, .sentinel, .sentinel, .sentinel, .sentinel, .sentinel, .sentinel, .sentinel, .sentinel, .sentinel, .sentinel, .sentinel, .data, .data, .pinned] true :=
  OpenClaim.laidByTextAt_pinned rfl rfl tie2 rfl rfl rfl rfl (fun y hy _e => by
    simp only [Rows.webSmugglesRow, List.zip_cons_cons, List.zip_nil_right, List.mem_cons, List.mem_nil_iff, or_false] at hy
    rcases hy with rfl | rfl | rfl | rfl | rfl | rfl | rfl | rfl | rfl | rfl | rfl | rfl | rfl | rfl | rfl | rfl | rfl | rfl
    · cases _e
    · cases _e
    · cases _e
    · cases _e
    · cases _e
    · cases _e
    · cases _e
    · cases _e
    · cases _e
    · cases _e
    · cases _e
    · cases _e
    · cases _e
    · cases _e
    · cases _e
    · cases _e
    · cases _e
    · exact ⟨pin_laid_unicode_utf8_first, by kernel_rfl⟩) fits2
theorem fits3 : Tryz.pinned.checked.prog.listedFits [("math/bits.deBruijn32tab", Rows.laid_math_bits_deBruijn32tab), ("math/bits.deBruijn64tab", Rows.laid_math_bits_deBruijn64tab), ("internal/strconv.uint64pow10", Rows.laid_internal_strconv_uint64pow10), ("unicode/utf8.acceptRanges", Rows.laid_unicode_utf8_acceptRanges), ("bytes.ErrTooLarge", Rows.laid_bytes_ErrTooLarge), ("ledger/web.errArg", Rows.laid_ledger_web_errArg), ("ledger/web.errLong", Rows.laid_ledger_web_errLong), ("ledger/web.errShort", Rows.laid_ledger_web_errShort), ("ledger/web.errStart", Rows.laid_ledger_web_errStart), ("ledger/web.errProtocol", Rows.laid_ledger_web_errProtocol), ("ledger/web.errField", Rows.laid_ledger_web_errField), ("ledger/web.errHost", Rows.laid_ledger_web_errHost), ("ledger/web.errLength", Rows.laid_ledger_web_errLength), ("ledger/web.errChunk", Rows.laid_ledger_web_errChunk), ("ledger/web.errTarget", Rows.laid_ledger_web_errTarget), ("ledger/web.errMethod", Rows.laid_ledger_web_errMethod), ("ledger/web.methods", Rows.laid_ledger_web_methods), ("unicode/utf8.first", Rows.laid_unicode_utf8_first)] = true := by
  unfold Program.listedFits
  rw [noOwnUnsafe]
  kernel_rfl
theorem tie3 : Tryz.prog.laidByTextLater [("math/bits.deBruijn32tab", Rows.laid_math_bits_deBruijn32tab), ("math/bits.deBruijn64tab", Rows.laid_math_bits_deBruijn64tab), ("internal/strconv.uint64pow10", Rows.laid_internal_strconv_uint64pow10), ("unicode/utf8.acceptRanges", Rows.laid_unicode_utf8_acceptRanges), ("bytes.ErrTooLarge", Rows.laid_bytes_ErrTooLarge), ("ledger/web.errArg", Rows.laid_ledger_web_errArg), ("ledger/web.errLong", Rows.laid_ledger_web_errLong), ("ledger/web.errShort", Rows.laid_ledger_web_errShort), ("ledger/web.errStart", Rows.laid_ledger_web_errStart), ("ledger/web.errProtocol", Rows.laid_ledger_web_errProtocol), ("ledger/web.errField", Rows.laid_ledger_web_errField), ("ledger/web.errHost", Rows.laid_ledger_web_errHost), ("ledger/web.errLength", Rows.laid_ledger_web_errLength), ("ledger/web.errChunk", Rows.laid_ledger_web_errChunk), ("ledger/web.errTarget", Rows.laid_ledger_web_errTarget), ("ledger/web.errMethod", Rows.laid_ledger_web_errMethod), ("ledger/web.methods", Rows.laid_ledger_web_methods)] [.data, .data, .data, .data, .sentinel, .sentinel, .sentinel, .sentinel, .sentinel, .sentinel, .sentinel, .sentinel, .sentinel, .sentinel, .sentinel, .sentinel, .data] true :=
  Program.laidByTextLater.sub seatTie1 ["math/bits.deBruijn32tab", "math/bits.deBruijn64tab", "internal/strconv.uint64pow10", "unicode/utf8.acceptRanges", "bytes.ErrTooLarge", "ledger/web.errArg", "ledger/web.errLong", "ledger/web.errShort", "ledger/web.errStart", "ledger/web.errProtocol", "ledger/web.errField", "ledger/web.errHost", "ledger/web.errLength", "ledger/web.errChunk", "ledger/web.errTarget", "ledger/web.errMethod", "ledger/web.methods"] (by kernel_rfl) (by kernel_rfl)
theorem webChunks_row_tie : Rows.webChunksRow.laidByTextAt .later Tryz.pinned [.data, .data, .data, .data, .sentinel, .sentinel, .sentinel, .sentinel, .sentinel, .sentinel, .sentinel, .sentinel, .sentinel, .sentinel, .sentinel, .sentinel, .data, .pinned] true :=
  OpenClaim.laidByTextAt_pinned rfl rfl tie3 rfl rfl rfl rfl (fun y hy _e => by
    simp only [Rows.webChunksRow, List.zip_cons_cons, List.zip_nil_right, List.mem_cons, List.mem_nil_iff, or_false] at hy
    rcases hy with rfl | rfl | rfl | rfl | rfl | rfl | rfl | rfl | rfl | rfl | rfl | rfl | rfl | rfl | rfl | rfl | rfl | rfl
    · cases _e
    · cases _e
    · cases _e
    · cases _e
    · cases _e
    · cases _e
    · cases _e
    · cases _e
    · cases _e
    · cases _e
    · cases _e
    · cases _e
    · cases _e
    · cases _e
    · cases _e
    · cases _e
    · cases _e
    · exact ⟨pin_laid_unicode_utf8_first, by kernel_rfl⟩) fits3
theorem fits4 : Tryz.pinned.checked.prog.listedFits [("ledger/ledgerref14.statuses", Rows.laid_ledger_ledgerref14_statuses), ("ledger/ledgerref14.reasons", Rows.laid_ledger_ledgerref14_reasons), ("ledger/ledgerref14.methods", Rows.laid_ledger_ledgerref14_methods), ("math/bits.deBruijn32tab", Rows.laid_math_bits_deBruijn32tab), ("math/bits.deBruijn64tab", Rows.laid_math_bits_deBruijn64tab), ("internal/strconv.uint64pow10", Rows.laid_internal_strconv_uint64pow10), ("unicode/utf8.acceptRanges", Rows.laid_unicode_utf8_acceptRanges), ("ledger/web.reasons", Rows.laid_ledger_web_reasons), ("ledger/web.errArg", Rows.laid_ledger_web_errArg), ("ledger/web.errLong", Rows.laid_ledger_web_errLong), ("ledger/web.errShort", Rows.laid_ledger_web_errShort), ("ledger/web.errStart", Rows.laid_ledger_web_errStart), ("ledger/web.errProtocol", Rows.laid_ledger_web_errProtocol), ("ledger/web.errField", Rows.laid_ledger_web_errField), ("ledger/web.errHost", Rows.laid_ledger_web_errHost), ("ledger/web.errLength", Rows.laid_ledger_web_errLength), ("ledger/web.errChunk", Rows.laid_ledger_web_errChunk), ("ledger/web.errTarget", Rows.laid_ledger_web_errTarget), ("ledger/web.errMethod", Rows.laid_ledger_web_errMethod), ("ledger/web.errStatus", Rows.laid_ledger_web_errStatus), ("ledger/web.methods", Rows.laid_ledger_web_methods), ("unicode/utf8.first", Rows.laid_unicode_utf8_first)] = true := by
  unfold Program.listedFits
  rw [noOwnUnsafe]
  kernel_rfl
theorem tie4 : Tryz.prog.laidByTextLater [("ledger/ledgerref14.statuses", Rows.laid_ledger_ledgerref14_statuses), ("ledger/ledgerref14.reasons", Rows.laid_ledger_ledgerref14_reasons), ("ledger/ledgerref14.methods", Rows.laid_ledger_ledgerref14_methods), ("math/bits.deBruijn32tab", Rows.laid_math_bits_deBruijn32tab), ("math/bits.deBruijn64tab", Rows.laid_math_bits_deBruijn64tab), ("internal/strconv.uint64pow10", Rows.laid_internal_strconv_uint64pow10), ("unicode/utf8.acceptRanges", Rows.laid_unicode_utf8_acceptRanges), ("ledger/web.reasons", Rows.laid_ledger_web_reasons), ("ledger/web.errArg", Rows.laid_ledger_web_errArg), ("ledger/web.errLong", Rows.laid_ledger_web_errLong), ("ledger/web.errShort", Rows.laid_ledger_web_errShort), ("ledger/web.errStart", Rows.laid_ledger_web_errStart), ("ledger/web.errProtocol", Rows.laid_ledger_web_errProtocol), ("ledger/web.errField", Rows.laid_ledger_web_errField), ("ledger/web.errHost", Rows.laid_ledger_web_errHost), ("ledger/web.errLength", Rows.laid_ledger_web_errLength), ("ledger/web.errChunk", Rows.laid_ledger_web_errChunk), ("ledger/web.errTarget", Rows.laid_ledger_web_errTarget), ("ledger/web.errMethod", Rows.laid_ledger_web_errMethod), ("ledger/web.errStatus", Rows.laid_ledger_web_errStatus), ("ledger/web.methods", Rows.laid_ledger_web_methods)] [.data, .data, .data, .data, .data, .data, .data, .data, .sentinel, .sentinel, .sentinel, .sentinel, .sentinel, .sentinel, .sentinel, .sentinel, .sentinel, .sentinel, .sentinel, .sentinel, .data] true :=
  Program.laidByTextLater.sub seatTie2 ["ledger/ledgerref14.statuses", "ledger/ledgerref14.reasons", "ledger/ledgerref14.methods", "math/bits.deBruijn32tab", "math/bits.deBruijn64tab", "internal/strconv.uint64pow10", "unicode/utf8.acceptRanges", "ledger/web.reasons", "ledger/web.errArg", "ledger/web.errLong", "ledger/web.errShort", "ledger/web.errStart", "ledger/web.errProtocol", "ledger/web.errField", "ledger/web.errHost", "ledger/web.errLength", "ledger/web.errChunk", "ledger/web.errTarget", "ledger/web.errMethod", "ledger/web.errStatus", "ledger/web.methods"] (by kernel_rfl) (by kernel_rfl)
theorem webPrints_row_tie : Rows.webPrintsRow.laidByTextAt .later Tryz.pinned [.data, .data, .data, .data, .data, .data, .data, .data, .sentinel, .sentinel, .sentinel, .sentinel, .sentinel, .sentinel, .sentinel, .sentinel, .sentinel, .sentinel, .sentinel, .sentinel, .data, .pinned] true :=
  OpenClaim.laidByTextAt_pinned rfl rfl tie4 rfl rfl rfl rfl (fun y hy _e => by
    simp only [Rows.webPrintsRow, List.zip_cons_cons, List.zip_nil_right, List.mem_cons, List.mem_nil_iff, or_false] at hy
    rcases hy with rfl | rfl | rfl | rfl | rfl | rfl | rfl | rfl | rfl | rfl | rfl | rfl | rfl | rfl | rfl | rfl | rfl | rfl | rfl | rfl | rfl | rfl
    · cases _e
    · cases _e
    · cases _e
    · cases _e
    · cases _e
    · cases _e
    · cases _e
    · cases _e
    · cases _e
    · cases _e
    · cases _e
    · cases _e
    · cases _e
    · cases _e
    · cases _e
    · cases _e
    · cases _e
    · cases _e
    · cases _e
    · cases _e
    · cases _e
    · exact ⟨pin_laid_unicode_utf8_first, by kernel_rfl⟩) fits4
theorem fits5 : Tryz.pinned.checked.prog.listedFits [("math/bits.deBruijn32tab", Rows.laid_math_bits_deBruijn32tab), ("math/bits.deBruijn64tab", Rows.laid_math_bits_deBruijn64tab), ("internal/strconv.uint64pow10", Rows.laid_internal_strconv_uint64pow10), ("unicode/utf8.acceptRanges", Rows.laid_unicode_utf8_acceptRanges), ("ledger/web.reasons", Rows.laid_ledger_web_reasons), ("ledger/web.errArg", Rows.laid_ledger_web_errArg), ("ledger/web.errLong", Rows.laid_ledger_web_errLong), ("ledger/web.errShort", Rows.laid_ledger_web_errShort), ("ledger/web.errStart", Rows.laid_ledger_web_errStart), ("ledger/web.errProtocol", Rows.laid_ledger_web_errProtocol), ("ledger/web.errField", Rows.laid_ledger_web_errField), ("ledger/web.errHost", Rows.laid_ledger_web_errHost), ("ledger/web.errLength", Rows.laid_ledger_web_errLength), ("ledger/web.errChunk", Rows.laid_ledger_web_errChunk), ("ledger/web.errTarget", Rows.laid_ledger_web_errTarget), ("ledger/web.errMethod", Rows.laid_ledger_web_errMethod), ("ledger/web.errStatus", Rows.laid_ledger_web_errStatus), ("ledger/web.methods", Rows.laid_ledger_web_methods), ("unicode/utf8.first", Rows.laid_unicode_utf8_first)] = true := by
  unfold Program.listedFits
  rw [noOwnUnsafe]
  kernel_rfl
theorem tie5 : Tryz.prog.laidByTextLater [("math/bits.deBruijn32tab", Rows.laid_math_bits_deBruijn32tab), ("math/bits.deBruijn64tab", Rows.laid_math_bits_deBruijn64tab), ("internal/strconv.uint64pow10", Rows.laid_internal_strconv_uint64pow10), ("unicode/utf8.acceptRanges", Rows.laid_unicode_utf8_acceptRanges), ("ledger/web.reasons", Rows.laid_ledger_web_reasons), ("ledger/web.errArg", Rows.laid_ledger_web_errArg), ("ledger/web.errLong", Rows.laid_ledger_web_errLong), ("ledger/web.errShort", Rows.laid_ledger_web_errShort), ("ledger/web.errStart", Rows.laid_ledger_web_errStart), ("ledger/web.errProtocol", Rows.laid_ledger_web_errProtocol), ("ledger/web.errField", Rows.laid_ledger_web_errField), ("ledger/web.errHost", Rows.laid_ledger_web_errHost), ("ledger/web.errLength", Rows.laid_ledger_web_errLength), ("ledger/web.errChunk", Rows.laid_ledger_web_errChunk), ("ledger/web.errTarget", Rows.laid_ledger_web_errTarget), ("ledger/web.errMethod", Rows.laid_ledger_web_errMethod), ("ledger/web.errStatus", Rows.laid_ledger_web_errStatus), ("ledger/web.methods", Rows.laid_ledger_web_methods)] [.data, .data, .data, .data, .data, .sentinel, .sentinel, .sentinel, .sentinel, .sentinel, .sentinel, .sentinel, .sentinel, .sentinel, .sentinel, .sentinel, .sentinel, .data] true :=
  Program.laidByTextLater.sub seatTie3 ["math/bits.deBruijn32tab", "math/bits.deBruijn64tab", "internal/strconv.uint64pow10", "unicode/utf8.acceptRanges", "ledger/web.reasons", "ledger/web.errArg", "ledger/web.errLong", "ledger/web.errShort", "ledger/web.errStart", "ledger/web.errProtocol", "ledger/web.errField", "ledger/web.errHost", "ledger/web.errLength", "ledger/web.errChunk", "ledger/web.errTarget", "ledger/web.errMethod", "ledger/web.errStatus", "ledger/web.methods"] (by kernel_rfl) (by kernel_rfl)
theorem webAnswers_row_tie : Rows.webAnswersRow.laidByTextAt .later Tryz.pinned [.data, .data, .data, .data, .data, .sentinel, .sentinel, .sentinel, .sentinel, .sentinel, .sentinel, .sentinel, .sentinel, .sentinel, .sentinel, .sentinel, .sentinel, .data, .pinned] true :=
  OpenClaim.laidByTextAt_pinned rfl rfl tie5 rfl rfl rfl rfl (fun y hy _e => by
    simp only [Rows.webAnswersRow, List.zip_cons_cons, List.zip_nil_right, List.mem_cons, List.mem_nil_iff, or_false] at hy
    rcases hy with rfl | rfl | rfl | rfl | rfl | rfl | rfl | rfl | rfl | rfl | rfl | rfl | rfl | rfl | rfl | rfl | rfl | rfl | rfl
    · cases _e
    · cases _e
    · cases _e
    · cases _e
    · cases _e
    · cases _e
    · cases _e
    · cases _e
    · cases _e
    · cases _e
    · cases _e
    · cases _e
    · cases _e
    · cases _e
    · cases _e
    · cases _e
    · cases _e
    · cases _e
    · exact ⟨pin_laid_unicode_utf8_first, by kernel_rfl⟩) fits5
theorem fits6 : Tryz.pinned.checked.prog.listedFits [("ledger/ledgerref14.methods", Rows.laid_ledger_ledgerref14_methods), ("math/bits.deBruijn32tab", Rows.laid_math_bits_deBruijn32tab), ("math/bits.deBruijn64tab", Rows.laid_math_bits_deBruijn64tab), ("internal/strconv.uint64pow10", Rows.laid_internal_strconv_uint64pow10), ("unicode/utf8.acceptRanges", Rows.laid_unicode_utf8_acceptRanges), ("bytes.ErrTooLarge", Rows.laid_bytes_ErrTooLarge), ("ledger/web.errArg", Rows.laid_ledger_web_errArg), ("ledger/web.errLong", Rows.laid_ledger_web_errLong), ("ledger/web.errShort", Rows.laid_ledger_web_errShort), ("ledger/web.errStart", Rows.laid_ledger_web_errStart), ("ledger/web.errProtocol", Rows.laid_ledger_web_errProtocol), ("ledger/web.errField", Rows.laid_ledger_web_errField), ("ledger/web.errHost", Rows.laid_ledger_web_errHost), ("ledger/web.errLength", Rows.laid_ledger_web_errLength), ("ledger/web.errChunk", Rows.laid_ledger_web_errChunk), ("ledger/web.errTarget", Rows.laid_ledger_web_errTarget), ("ledger/web.errMethod", Rows.laid_ledger_web_errMethod), ("ledger/web.errStatus", Rows.laid_ledger_web_errStatus), ("ledger/web.methods", Rows.laid_ledger_web_methods), ("unicode/utf8.first", Rows.laid_unicode_utf8_first)] = true := by
  unfold Program.listedFits
  rw [noOwnUnsafe]
  kernel_rfl
theorem tie6 : Tryz.prog.laidByTextLater [("ledger/ledgerref14.methods", Rows.laid_ledger_ledgerref14_methods), ("math/bits.deBruijn32tab", Rows.laid_math_bits_deBruijn32tab), ("math/bits.deBruijn64tab", Rows.laid_math_bits_deBruijn64tab), ("internal/strconv.uint64pow10", Rows.laid_internal_strconv_uint64pow10), ("unicode/utf8.acceptRanges", Rows.laid_unicode_utf8_acceptRanges), ("bytes.ErrTooLarge", Rows.laid_bytes_ErrTooLarge), ("ledger/web.errArg", Rows.laid_ledger_web_errArg), ("ledger/web.errLong", Rows.laid_ledger_web_errLong), ("ledger/web.errShort", Rows.laid_ledger_web_errShort), ("ledger/web.errStart", Rows.laid_ledger_web_errStart), ("ledger/web.errProtocol", Rows.laid_ledger_web_errProtocol), ("ledger/web.errField", Rows.laid_ledger_web_errField), ("ledger/web.errHost", Rows.laid_ledger_web_errHost), ("ledger/web.errLength", Rows.laid_ledger_web_errLength), ("ledger/web.errChunk", Rows.laid_ledger_web_errChunk), ("ledger/web.errTarget", Rows.laid_ledger_web_errTarget), ("ledger/web.errMethod", Rows.laid_ledger_web_errMethod), ("ledger/web.errStatus", Rows.laid_ledger_web_errStatus), ("ledger/web.methods", Rows.laid_ledger_web_methods)] [.data, .data, .data, .data, .data, .sentinel, .sentinel, .sentinel, .sentinel, .sentinel, .sentinel, .sentinel, .sentinel, .sentinel, .sentinel, .sentinel, .sentinel, .sentinel, .data] true :=
  Program.laidByTextLater.sub seatTie1 ["ledger/ledgerref14.methods", "math/bits.deBruijn32tab", "math/bits.deBruijn64tab", "internal/strconv.uint64pow10", "unicode/utf8.acceptRanges", "bytes.ErrTooLarge", "ledger/web.errArg", "ledger/web.errLong", "ledger/web.errShort", "ledger/web.errStart", "ledger/web.errProtocol", "ledger/web.errField", "ledger/web.errHost", "ledger/web.errLength", "ledger/web.errChunk", "ledger/web.errTarget", "ledger/web.errMethod", "ledger/web.errStatus", "ledger/web.methods"] (by kernel_rfl) (by kernel_rfl)
theorem webRequests_row_tie : Rows.webRequestsRow.laidByTextAt .later Tryz.pinned [.data, .data, .data, .data, .data, .sentinel, .sentinel, .sentinel, .sentinel, .sentinel, .sentinel, .sentinel, .sentinel, .sentinel, .sentinel, .sentinel, .sentinel, .sentinel, .data, .pinned] true :=
  OpenClaim.laidByTextAt_pinned rfl rfl tie6 rfl rfl rfl rfl (fun y hy _e => by
    simp only [Rows.webRequestsRow, List.zip_cons_cons, List.zip_nil_right, List.mem_cons, List.mem_nil_iff, or_false] at hy
    rcases hy with rfl | rfl | rfl | rfl | rfl | rfl | rfl | rfl | rfl | rfl | rfl | rfl | rfl | rfl | rfl | rfl | rfl | rfl | rfl | rfl
    · cases _e
    · cases _e
    · cases _e
    · cases _e
    · cases _e
    · cases _e
    · cases _e
    · cases _e
    · cases _e
    · cases _e
    · cases _e
    · cases _e
    · cases _e
    · cases _e
    · cases _e
    · cases _e
    · cases _e
    · cases _e
    · cases _e
    · exact ⟨pin_laid_unicode_utf8_first, by kernel_rfl⟩) fits6
theorem webResponses_row_tie : Rows.webResponsesRow.laidByTextAt .later Tryz.pinned [.data, .data, .data, .data, .data, .sentinel, .sentinel, .sentinel, .sentinel, .sentinel, .sentinel, .sentinel, .sentinel, .sentinel, .sentinel, .sentinel, .sentinel, .sentinel, .data, .pinned] true :=
  OpenClaim.laidByTextAt_pinned rfl rfl tie6 rfl rfl rfl rfl (fun y hy _e => by
    simp only [Rows.webResponsesRow, List.zip_cons_cons, List.zip_nil_right, List.mem_cons, List.mem_nil_iff, or_false] at hy
    rcases hy with rfl | rfl | rfl | rfl | rfl | rfl | rfl | rfl | rfl | rfl | rfl | rfl | rfl | rfl | rfl | rfl | rfl | rfl | rfl | rfl
    · cases _e
    · cases _e
    · cases _e
    · cases _e
    · cases _e
    · cases _e
    · cases _e
    · cases _e
    · cases _e
    · cases _e
    · cases _e
    · cases _e
    · cases _e
    · cases _e
    · cases _e
    · cases _e
    · cases _e
    · cases _e
    · cases _e
    · exact ⟨pin_laid_unicode_utf8_first, by kernel_rfl⟩) fits6
theorem fits7 : Tryz.pinned.checked.prog.listedFits [("ledger/ledgerref14.statuses", Rows.laid_ledger_ledgerref14_statuses), ("ledger/ledgerref14.reasons", Rows.laid_ledger_ledgerref14_reasons), ("ledger/ledgerref14.methods", Rows.laid_ledger_ledgerref14_methods), ("math/bits.deBruijn32tab", Rows.laid_math_bits_deBruijn32tab), ("math/bits.deBruijn64tab", Rows.laid_math_bits_deBruijn64tab), ("internal/strconv.uint64pow10", Rows.laid_internal_strconv_uint64pow10), ("unicode/utf8.acceptRanges", Rows.laid_unicode_utf8_acceptRanges), ("bytes.ErrTooLarge", Rows.laid_bytes_ErrTooLarge), ("ledger/web.reasons", Rows.laid_ledger_web_reasons), ("ledger/web.errArg", Rows.laid_ledger_web_errArg), ("ledger/web.errLong", Rows.laid_ledger_web_errLong), ("ledger/web.errShort", Rows.laid_ledger_web_errShort), ("ledger/web.errStart", Rows.laid_ledger_web_errStart), ("ledger/web.errProtocol", Rows.laid_ledger_web_errProtocol), ("ledger/web.errField", Rows.laid_ledger_web_errField), ("ledger/web.errHost", Rows.laid_ledger_web_errHost), ("ledger/web.errLength", Rows.laid_ledger_web_errLength), ("ledger/web.errChunk", Rows.laid_ledger_web_errChunk), ("ledger/web.errTarget", Rows.laid_ledger_web_errTarget), ("ledger/web.errMethod", Rows.laid_ledger_web_errMethod), ("ledger/web.errStatus", Rows.laid_ledger_web_errStatus), ("ledger/web.methods", Rows.laid_ledger_web_methods), ("unicode/utf8.first", Rows.laid_unicode_utf8_first)] = true := by
  unfold Program.listedFits
  rw [noOwnUnsafe]
  kernel_rfl
theorem tie7 : Tryz.prog.laidByTextLater [("ledger/ledgerref14.statuses", Rows.laid_ledger_ledgerref14_statuses), ("ledger/ledgerref14.reasons", Rows.laid_ledger_ledgerref14_reasons), ("ledger/ledgerref14.methods", Rows.laid_ledger_ledgerref14_methods), ("math/bits.deBruijn32tab", Rows.laid_math_bits_deBruijn32tab), ("math/bits.deBruijn64tab", Rows.laid_math_bits_deBruijn64tab), ("internal/strconv.uint64pow10", Rows.laid_internal_strconv_uint64pow10), ("unicode/utf8.acceptRanges", Rows.laid_unicode_utf8_acceptRanges), ("bytes.ErrTooLarge", Rows.laid_bytes_ErrTooLarge), ("ledger/web.reasons", Rows.laid_ledger_web_reasons), ("ledger/web.errArg", Rows.laid_ledger_web_errArg), ("ledger/web.errLong", Rows.laid_ledger_web_errLong), ("ledger/web.errShort", Rows.laid_ledger_web_errShort), ("ledger/web.errStart", Rows.laid_ledger_web_errStart), ("ledger/web.errProtocol", Rows.laid_ledger_web_errProtocol), ("ledger/web.errField", Rows.laid_ledger_web_errField), ("ledger/web.errHost", Rows.laid_ledger_web_errHost), ("ledger/web.errLength", Rows.laid_ledger_web_errLength), ("ledger/web.errChunk", Rows.laid_ledger_web_errChunk), ("ledger/web.errTarget", Rows.laid_ledger_web_errTarget), ("ledger/web.errMethod", Rows.laid_ledger_web_errMethod), ("ledger/web.errStatus", Rows.laid_ledger_web_errStatus), ("ledger/web.methods", Rows.laid_ledger_web_methods)] [.data, .data, .data, .data, .data, .data, .data, .sentinel, .data, .sentinel, .sentinel, .sentinel, .sentinel, .sentinel, .sentinel, .sentinel, .sentinel, .sentinel, .sentinel, .sentinel, .sentinel, .data] true :=
  Program.laidByTextLater.sub seatTie4 ["ledger/ledgerref14.statuses", "ledger/ledgerref14.reasons", "ledger/ledgerref14.methods", "math/bits.deBruijn32tab", "math/bits.deBruijn64tab", "internal/strconv.uint64pow10", "unicode/utf8.acceptRanges", "bytes.ErrTooLarge", "ledger/web.reasons", "ledger/web.errArg", "ledger/web.errLong", "ledger/web.errShort", "ledger/web.errStart", "ledger/web.errProtocol", "ledger/web.errField", "ledger/web.errHost", "ledger/web.errLength", "ledger/web.errChunk", "ledger/web.errTarget", "ledger/web.errMethod", "ledger/web.errStatus", "ledger/web.methods"] (by kernel_rfl) (by kernel_rfl)
theorem webKeeps_row_tie : Rows.webKeepsRow.laidByTextAt .later Tryz.pinned [.data, .data, .data, .data, .data, .data, .data, .sentinel, .data, .sentinel, .sentinel, .sentinel, .sentinel, .sentinel, .sentinel, .sentinel, .sentinel, .sentinel, .sentinel, .sentinel, .sentinel, .data, .pinned] true :=
  OpenClaim.laidByTextAt_pinned rfl rfl tie7 rfl rfl rfl rfl (fun y hy _e => by
    simp only [Rows.webKeepsRow, List.zip_cons_cons, List.zip_nil_right, List.mem_cons, List.mem_nil_iff, or_false] at hy
    rcases hy with rfl | rfl | rfl | rfl | rfl | rfl | rfl | rfl | rfl | rfl | rfl | rfl | rfl | rfl | rfl | rfl | rfl | rfl | rfl | rfl | rfl | rfl | rfl
    · cases _e
    · cases _e
    · cases _e
    · cases _e
    · cases _e
    · cases _e
    · cases _e
    · cases _e
    · cases _e
    · cases _e
    · cases _e
    · cases _e
    · cases _e
    · cases _e
    · cases _e
    · cases _e
    · cases _e
    · cases _e
    · cases _e
    · cases _e
    · cases _e
    · cases _e
    · exact ⟨pin_laid_unicode_utf8_first, by kernel_rfl⟩) fits7
theorem fits8 : Tryz.pinned.checked.prog.listedFits [("ledger/ledgerref14.statuses", Rows.laid_ledger_ledgerref14_statuses), ("ledger/ledgerref14.reasons", Rows.laid_ledger_ledgerref14_reasons), ("ledger/ledgerref14.methods", Rows.laid_ledger_ledgerref14_methods), ("math/bits.deBruijn32tab", Rows.laid_math_bits_deBruijn32tab), ("math/bits.deBruijn64tab", Rows.laid_math_bits_deBruijn64tab), ("internal/strconv.uint64pow10", Rows.laid_internal_strconv_uint64pow10), ("unicode/utf8.acceptRanges", Rows.laid_unicode_utf8_acceptRanges), ("bytes.ErrTooLarge", Rows.laid_bytes_ErrTooLarge), ("ledger/web.reasons", Rows.laid_ledger_web_reasons), ("ledger/web.errArg", Rows.laid_ledger_web_errArg), ("ledger/web.errLong", Rows.laid_ledger_web_errLong), ("ledger/web.errShort", Rows.laid_ledger_web_errShort), ("ledger/web.errStart", Rows.laid_ledger_web_errStart), ("ledger/web.errProtocol", Rows.laid_ledger_web_errProtocol), ("ledger/web.errField", Rows.laid_ledger_web_errField), ("ledger/web.errHost", Rows.laid_ledger_web_errHost), ("ledger/web.errLength", Rows.laid_ledger_web_errLength), ("ledger/web.errChunk", Rows.laid_ledger_web_errChunk), ("ledger/web.errTarget", Rows.laid_ledger_web_errTarget), ("ledger/web.errMethod", Rows.laid_ledger_web_errMethod), ("ledger/web.errStatus", Rows.laid_ledger_web_errStatus), ("ledger/web.statuses", Rows.laid_ledger_web_statuses), ("ledger/web.methods", Rows.laid_ledger_web_methods), ("unicode/utf8.first", Rows.laid_unicode_utf8_first)] = true := by
  unfold Program.listedFits
  rw [noOwnUnsafe]
  kernel_rfl
theorem tie8 : Tryz.prog.laidByTextLater [("ledger/ledgerref14.statuses", Rows.laid_ledger_ledgerref14_statuses), ("ledger/ledgerref14.reasons", Rows.laid_ledger_ledgerref14_reasons), ("ledger/ledgerref14.methods", Rows.laid_ledger_ledgerref14_methods), ("math/bits.deBruijn32tab", Rows.laid_math_bits_deBruijn32tab), ("math/bits.deBruijn64tab", Rows.laid_math_bits_deBruijn64tab), ("internal/strconv.uint64pow10", Rows.laid_internal_strconv_uint64pow10), ("unicode/utf8.acceptRanges", Rows.laid_unicode_utf8_acceptRanges), ("bytes.ErrTooLarge", Rows.laid_bytes_ErrTooLarge), ("ledger/web.reasons", Rows.laid_ledger_web_reasons), ("ledger/web.errArg", Rows.laid_ledger_web_errArg), ("ledger/web.errLong", Rows.laid_ledger_web_errLong), ("ledger/web.errShort", Rows.laid_ledger_web_errShort), ("ledger/web.errStart", Rows.laid_ledger_web_errStart), ("ledger/web.errProtocol", Rows.laid_ledger_web_errProtocol), ("ledger/web.errField", Rows.laid_ledger_web_errField), ("ledger/web.errHost", Rows.laid_ledger_web_errHost), ("ledger/web.errLength", Rows.laid_ledger_web_errLength), ("ledger/web.errChunk", Rows.laid_ledger_web_errChunk), ("ledger/web.errTarget", Rows.laid_ledger_web_errTarget), ("ledger/web.errMethod", Rows.laid_ledger_web_errMethod), ("ledger/web.errStatus", Rows.laid_ledger_web_errStatus), ("ledger/web.statuses", Rows.laid_ledger_web_statuses), ("ledger/web.methods", Rows.laid_ledger_web_methods)] [.data, .data, .data, .data, .data, .data, .data, .sentinel, .data, .sentinel, .sentinel, .sentinel, .sentinel, .sentinel, .sentinel, .sentinel, .sentinel, .sentinel, .sentinel, .sentinel, .sentinel, .data, .data] true :=
  Program.laidByTextLater.sub seatTie5 ["ledger/ledgerref14.statuses", "ledger/ledgerref14.reasons", "ledger/ledgerref14.methods", "math/bits.deBruijn32tab", "math/bits.deBruijn64tab", "internal/strconv.uint64pow10", "unicode/utf8.acceptRanges", "bytes.ErrTooLarge", "ledger/web.reasons", "ledger/web.errArg", "ledger/web.errLong", "ledger/web.errShort", "ledger/web.errStart", "ledger/web.errProtocol", "ledger/web.errField", "ledger/web.errHost", "ledger/web.errLength", "ledger/web.errChunk", "ledger/web.errTarget", "ledger/web.errMethod", "ledger/web.errStatus", "ledger/web.statuses", "ledger/web.methods"] (by kernel_rfl) (by kernel_rfl)
theorem webAll_row_tie : Rows.webAllRow.laidByTextAt .later Tryz.pinned [.data, .data, .data, .data, .data, .data, .data, .sentinel, .data, .sentinel, .sentinel, .sentinel, .sentinel, .sentinel, .sentinel, .sentinel, .sentinel, .sentinel, .sentinel, .sentinel, .sentinel, .data, .data, .pinned] true :=
  OpenClaim.laidByTextAt_pinned rfl rfl tie8 rfl rfl rfl rfl (fun y hy _e => by
    simp only [Rows.webAllRow, List.zip_cons_cons, List.zip_nil_right, List.mem_cons, List.mem_nil_iff, or_false] at hy
    rcases hy with rfl | rfl | rfl | rfl | rfl | rfl | rfl | rfl | rfl | rfl | rfl | rfl | rfl | rfl | rfl | rfl | rfl | rfl | rfl | rfl | rfl | rfl | rfl | rfl
    · cases _e
    · cases _e
    · cases _e
    · cases _e
    · cases _e
    · cases _e
    · cases _e
    · cases _e
    · cases _e
    · cases _e
    · cases _e
    · cases _e
    · cases _e
    · cases _e
    · cases _e
    · cases _e
    · cases _e
    · cases _e
    · cases _e
    · cases _e
    · cases _e
    · cases _e
    · cases _e
    · exact ⟨pin_laid_unicode_utf8_first, by kernel_rfl⟩) fits8
theorem webWholeUpto_row_tie : Rows.webWholeUptoRow.laidByTextAt .later Tryz.pinned [.data, .data, .data, .data, .sentinel, .sentinel, .sentinel, .sentinel, .sentinel, .sentinel, .sentinel, .sentinel, .sentinel, .sentinel, .sentinel, .data, .pinned] true :=
  OpenClaim.laidByTextAt_pinned rfl rfl tie rfl rfl rfl rfl (fun y hy _e => by
    simp only [Rows.webWholeUptoRow, List.zip_cons_cons, List.zip_nil_right, List.mem_cons, List.mem_nil_iff, or_false] at hy
    rcases hy with rfl | rfl | rfl | rfl | rfl | rfl | rfl | rfl | rfl | rfl | rfl | rfl | rfl | rfl | rfl | rfl | rfl
    · cases _e
    · cases _e
    · cases _e
    · cases _e
    · cases _e
    · cases _e
    · cases _e
    · cases _e
    · cases _e
    · cases _e
    · cases _e
    · cases _e
    · cases _e
    · cases _e
    · cases _e
    · cases _e
    · exact ⟨pin_laid_unicode_utf8_first, by kernel_rfl⟩) fits1
theorem webStreamsUpto_row_tie : Rows.webStreamsUptoRow.laidByTextAt .later Tryz.pinned [.data, .data, .data, .data, .sentinel, .sentinel, .sentinel, .sentinel, .sentinel, .sentinel, .sentinel, .sentinel, .sentinel, .sentinel, .sentinel, .data, .pinned] true :=
  OpenClaim.laidByTextAt_pinned rfl rfl tie rfl rfl rfl rfl (fun y hy _e => by
    simp only [Rows.webStreamsUptoRow, List.zip_cons_cons, List.zip_nil_right, List.mem_cons, List.mem_nil_iff, or_false] at hy
    rcases hy with rfl | rfl | rfl | rfl | rfl | rfl | rfl | rfl | rfl | rfl | rfl | rfl | rfl | rfl | rfl | rfl | rfl
    · cases _e
    · cases _e
    · cases _e
    · cases _e
    · cases _e
    · cases _e
    · cases _e
    · cases _e
    · cases _e
    · cases _e
    · cases _e
    · cases _e
    · cases _e
    · cases _e
    · cases _e
    · cases _e
    · exact ⟨pin_laid_unicode_utf8_first, by kernel_rfl⟩) fits1
theorem webSmugglesUpto_row_tie : Rows.webSmugglesUptoRow.laidByTextAt .later Tryz.pinned [.data, .data, .data, .data, .sentinel, .sentinel, .sentinel, .sentinel, .sentinel, .sentinel, .sentinel, .sentinel, .sentinel, .sentinel, .sentinel, .data, .data, .pinned] true :=
  OpenClaim.laidByTextAt_pinned rfl rfl tie2 rfl rfl rfl rfl (fun y hy _e => by
    simp only [Rows.webSmugglesUptoRow, List.zip_cons_cons, List.zip_nil_right, List.mem_cons, List.mem_nil_iff, or_false] at hy
    rcases hy with rfl | rfl | rfl | rfl | rfl | rfl | rfl | rfl | rfl | rfl | rfl | rfl | rfl | rfl | rfl | rfl | rfl | rfl
    · cases _e
    · cases _e
    · cases _e
    · cases _e
    · cases _e
    · cases _e
    · cases _e
    · cases _e
    · cases _e
    · cases _e
    · cases _e
    · cases _e
    · cases _e
    · cases _e
    · cases _e
    · cases _e
    · cases _e
    · exact ⟨pin_laid_unicode_utf8_first, by kernel_rfl⟩) fits2
theorem webChunksUpto_row_tie : Rows.webChunksUptoRow.laidByTextAt .later Tryz.pinned [.data, .data, .data, .data, .sentinel, .sentinel, .sentinel, .sentinel, .sentinel, .sentinel, .sentinel, .sentinel, .sentinel, .sentinel, .sentinel, .sentinel, .data, .pinned] true :=
  OpenClaim.laidByTextAt_pinned rfl rfl tie3 rfl rfl rfl rfl (fun y hy _e => by
    simp only [Rows.webChunksUptoRow, List.zip_cons_cons, List.zip_nil_right, List.mem_cons, List.mem_nil_iff, or_false] at hy
    rcases hy with rfl | rfl | rfl | rfl | rfl | rfl | rfl | rfl | rfl | rfl | rfl | rfl | rfl | rfl | rfl | rfl | rfl | rfl
    · cases _e
    · cases _e
    · cases _e
    · cases _e
    · cases _e
    · cases _e
    · cases _e
    · cases _e
    · cases _e
    · cases _e
    · cases _e
    · cases _e
    · cases _e
    · cases _e
    · cases _e
    · cases _e
    · cases _e
    · exact ⟨pin_laid_unicode_utf8_first, by kernel_rfl⟩) fits3
theorem webPrintsUpto_row_tie : Rows.webPrintsUptoRow.laidByTextAt .later Tryz.pinned [.data, .data, .data, .data, .data, .data, .data, .data, .sentinel, .sentinel, .sentinel, .sentinel, .sentinel, .sentinel, .sentinel, .sentinel, .sentinel, .sentinel, .sentinel, .sentinel, .data, .pinned] true :=
  OpenClaim.laidByTextAt_pinned rfl rfl tie4 rfl rfl rfl rfl (fun y hy _e => by
    simp only [Rows.webPrintsUptoRow, List.zip_cons_cons, List.zip_nil_right, List.mem_cons, List.mem_nil_iff, or_false] at hy
    rcases hy with rfl | rfl | rfl | rfl | rfl | rfl | rfl | rfl | rfl | rfl | rfl | rfl | rfl | rfl | rfl | rfl | rfl | rfl | rfl | rfl | rfl | rfl
    · cases _e
    · cases _e
    · cases _e
    · cases _e
    · cases _e
    · cases _e
    · cases _e
    · cases _e
    · cases _e
    · cases _e
    · cases _e
    · cases _e
    · cases _e
    · cases _e
    · cases _e
    · cases _e
    · cases _e
    · cases _e
    · cases _e
    · cases _e
    · cases _e
    · exact ⟨pin_laid_unicode_utf8_first, by kernel_rfl⟩) fits4
theorem webAnswersUpto_row_tie : Rows.webAnswersUptoRow.laidByTextAt .later Tryz.pinned [.data, .data, .data, .data, .data, .sentinel, .sentinel, .sentinel, .sentinel, .sentinel, .sentinel, .sentinel, .sentinel, .sentinel, .sentinel, .sentinel, .sentinel, .data, .pinned] true :=
  OpenClaim.laidByTextAt_pinned rfl rfl tie5 rfl rfl rfl rfl (fun y hy _e => by
    simp only [Rows.webAnswersUptoRow, List.zip_cons_cons, List.zip_nil_right, List.mem_cons, List.mem_nil_iff, or_false] at hy
    rcases hy with rfl | rfl | rfl | rfl | rfl | rfl | rfl | rfl | rfl | rfl | rfl | rfl | rfl | rfl | rfl | rfl | rfl | rfl | rfl
    · cases _e
    · cases _e
    · cases _e
    · cases _e
    · cases _e
    · cases _e
    · cases _e
    · cases _e
    · cases _e
    · cases _e
    · cases _e
    · cases _e
    · cases _e
    · cases _e
    · cases _e
    · cases _e
    · cases _e
    · cases _e
    · exact ⟨pin_laid_unicode_utf8_first, by kernel_rfl⟩) fits5
theorem webRequestsUpto_row_tie : Rows.webRequestsUptoRow.laidByTextAt .later Tryz.pinned [.data, .data, .data, .data, .data, .sentinel, .sentinel, .sentinel, .sentinel, .sentinel, .sentinel, .sentinel, .sentinel, .sentinel, .sentinel, .sentinel, .sentinel, .sentinel, .data, .pinned] true :=
  OpenClaim.laidByTextAt_pinned rfl rfl tie6 rfl rfl rfl rfl (fun y hy _e => by
    simp only [Rows.webRequestsUptoRow, List.zip_cons_cons, List.zip_nil_right, List.mem_cons, List.mem_nil_iff, or_false] at hy
    rcases hy with rfl | rfl | rfl | rfl | rfl | rfl | rfl | rfl | rfl | rfl | rfl | rfl | rfl | rfl | rfl | rfl | rfl | rfl | rfl | rfl
    · cases _e
    · cases _e
    · cases _e
    · cases _e
    · cases _e
    · cases _e
    · cases _e
    · cases _e
    · cases _e
    · cases _e
    · cases _e
    · cases _e
    · cases _e
    · cases _e
    · cases _e
    · cases _e
    · cases _e
    · cases _e
    · cases _e
    · exact ⟨pin_laid_unicode_utf8_first, by kernel_rfl⟩) fits6
theorem webResponsesUpto_row_tie : Rows.webResponsesUptoRow.laidByTextAt .later Tryz.pinned [.data, .data, .data, .data, .data, .sentinel, .sentinel, .sentinel, .sentinel, .sentinel, .sentinel, .sentinel, .sentinel, .sentinel, .sentinel, .sentinel, .sentinel, .sentinel, .data, .pinned] true :=
  OpenClaim.laidByTextAt_pinned rfl rfl tie6 rfl rfl rfl rfl (fun y hy _e => by
    simp only [Rows.webResponsesUptoRow, List.zip_cons_cons, List.zip_nil_right, List.mem_cons, List.mem_nil_iff, or_false] at hy
    rcases hy with rfl | rfl | rfl | rfl | rfl | rfl | rfl | rfl | rfl | rfl | rfl | rfl | rfl | rfl | rfl | rfl | rfl | rfl | rfl | rfl
    · cases _e
    · cases _e
    · cases _e
    · cases _e
    · cases _e
    · cases _e
    · cases _e
    · cases _e
    · cases _e
    · cases _e
    · cases _e
    · cases _e
    · cases _e
    · cases _e
    · cases _e
    · cases _e
    · cases _e
    · cases _e
    · cases _e
    · exact ⟨pin_laid_unicode_utf8_first, by kernel_rfl⟩) fits6
theorem webKeepsUpto_row_tie : Rows.webKeepsUptoRow.laidByTextAt .later Tryz.pinned [.data, .data, .data, .data, .data, .data, .data, .sentinel, .data, .sentinel, .sentinel, .sentinel, .sentinel, .sentinel, .sentinel, .sentinel, .sentinel, .sentinel, .sentinel, .sentinel, .sentinel, .data, .pinned] true :=
  OpenClaim.laidByTextAt_pinned rfl rfl tie7 rfl rfl rfl rfl (fun y hy _e => by
    simp only [Rows.webKeepsUptoRow, List.zip_cons_cons, List.zip_nil_right, List.mem_cons, List.mem_nil_iff, or_false] at hy
    rcases hy with rfl | rfl | rfl | rfl | rfl | rfl | rfl | rfl | rfl | rfl | rfl | rfl | rfl | rfl | rfl | rfl | rfl | rfl | rfl | rfl | rfl | rfl | rfl
    · cases _e
    · cases _e
    · cases _e
    · cases _e
    · cases _e
    · cases _e
    · cases _e
    · cases _e
    · cases _e
    · cases _e
    · cases _e
    · cases _e
    · cases _e
    · cases _e
    · cases _e
    · cases _e
    · cases _e
    · cases _e
    · cases _e
    · cases _e
    · cases _e
    · cases _e
    · exact ⟨pin_laid_unicode_utf8_first, by kernel_rfl⟩) fits7
theorem webAllUpto_row_tie : Rows.webAllUptoRow.laidByTextAt .later Tryz.pinned [.data, .data, .data, .data, .data, .data, .data, .sentinel, .data, .sentinel, .sentinel, .sentinel, .sentinel, .sentinel, .sentinel, .sentinel, .sentinel, .sentinel, .sentinel, .sentinel, .sentinel, .data, .data, .pinned] true :=
  OpenClaim.laidByTextAt_pinned rfl rfl tie8 rfl rfl rfl rfl (fun y hy _e => by
    simp only [Rows.webAllUptoRow, List.zip_cons_cons, List.zip_nil_right, List.mem_cons, List.mem_nil_iff, or_false] at hy
    rcases hy with rfl | rfl | rfl | rfl | rfl | rfl | rfl | rfl | rfl | rfl | rfl | rfl | rfl | rfl | rfl | rfl | rfl | rfl | rfl | rfl | rfl | rfl | rfl | rfl
    · cases _e
    · cases _e
    · cases _e
    · cases _e
    · cases _e
    · cases _e
    · cases _e
    · cases _e
    · cases _e
    · cases _e
    · cases _e
    · cases _e
    · cases _e
    · cases _e
    · cases _e
    · cases _e
    · cases _e
    · cases _e
    · cases _e
    · cases _e
    · cases _e
    · cases _e
    · cases _e
    · exact ⟨pin_laid_unicode_utf8_first, by kernel_rfl⟩) fits8
end Go.Proofs.YthgojbdpmcccaaaGreatDoor
