/- The decoder's two tables: what their listing gives the walks, and a world for the witness in which they are laid as well. -/
import Derived.Test.YtljinjgamgmocaaDoorLaid
import Derived.KernelRfl
namespace Go.Proofs.YtljinjgamgmocaaDoor.Laid
open Go.ChangeShapes Go.WideShapes Go.ChangeAt Go.RowKit
open Go.Proofs.YtljinjgamgmocaaDoor.G
open Go.Lib (VarReads)

theorem extraU : Go.Proofs.U8Extra Tryd.prog Tryd.lays260_ren := ⟨by kernel_rfl, by kernel_rfl, by kernel_rfl, by kernel_rfl, by kernel_rfl, by kernel_rfl, by kernel_rfl⟩
theorem acceptEq : Rows.laid_unicode_utf8_acceptRanges = Lib.acceptData := by kernel_rfl
theorem layU {W : World} (h1 : VarReads Tryd.prog W "unicode/utf8.first" Rows.laid_unicode_utf8_first) (h2 : VarReads Tryd.prog W "unicode/utf8.acceptRanges" Rows.laid_unicode_utf8_acceptRanges) : LayU W := by
  have e1 : Rows.laid_unicode_utf8_first = Lib.firstData := by kernel_rfl
  rw [e1] at h1
  rw [acceptEq] at h2
  have t : Lib.Utf8Tabs 1 2 W := Go.Proofs.utf8Tabs_of_reads Tryd.lays260 extraU h1 h2
  exact ⟨World.block_lt_of_cell? W _ (t.1 0 (by decide)), World.block_lt_of_cell? W _ (t.2 0 (by decide)).1, t⟩
noncomputable def worldU (os : Os) : World :=
  let w0 := world os
  { w0 with heap := (w0.heap.modify 2 (put (accs.map (Value.int .u8)))).modify 1 (put (Lib.firstTab.map (Value.int .u8))) }
end Go.Proofs.YtljinjgamgmocaaDoor.Laid
