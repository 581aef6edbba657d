/- Joined texts of mine, 6: RowWhlF. -/
import Derived.Test.YthgojbdpmcccaaaGreatDoorCards
import Derived.JoinedOf
import Derived.JoinedCond
import Derived.ProofKit
import Derived.WalkKit
import Derived.Test.YthgojbdpmcccaaaGreatDoorWhl5
section
namespace Go.Proofs.YthgojbdpmcccaaaGreatDoor.webWhole
set_option linter.unusedVariables false
theorem k_in : (Rows.webWholeUptoRow.inPlace == Tryz.pinned.checked.prog.inPlace 3) = true := by kernel_rfl
theorem k_un : (Rows.webWholeUptoRow.unfollowed == Tryz.pinned.checked.prog.unfollowed 3) = true := by kernel_rfl
theorem k_re : (Rows.webWholeUptoRow.recurses == Tryz.pinned.checked.prog.recurses 3) = true := by kernel_rfl
theorem k_na : (Rows.webWholeUptoRow.named == Tryz.pinned.checked.prog.varsNamed 3) = true := by kernel_rfl
theorem joined : joinedFacts Tryz.pinned.checked.prog 3 Tryz.f3 (Rows.OpenSpec.upto Rows.webWholeSpec).bare Rows.webWholeUptoRow = true := by
  unfold joinedFacts
  rw [k_in, k_un, k_re, k_na]
  kernel_rfl
end Go.Proofs.YthgojbdpmcccaaaGreatDoor.webWhole
end
