/- Joined texts of mine, 6: RowPrtF. -/
import Derived.Test.YthgojbdpmcccaaaGreatDoorCards
import Derived.JoinedOf
import Derived.JoinedCond
import Derived.ProofKit
import Derived.WalkKit
import Derived.Test.YthgojbdpmcccaaaGreatDoorXp5
section
namespace Go.Proofs.YthgojbdpmcccaaaGreatDoor.webPrints
set_option linter.unusedVariables false
theorem k_in : (Rows.webPrintsUptoRow.inPlace == Tryz.pinned.checked.prog.inPlace 7) = true := by kernel_rfl
theorem k_un : (Rows.webPrintsUptoRow.unfollowed == Tryz.pinned.checked.prog.unfollowed 7) = true := by kernel_rfl
theorem k_re : (Rows.webPrintsUptoRow.recurses == Tryz.pinned.checked.prog.recurses 7) = true := by kernel_rfl
theorem k_na : (Rows.webPrintsUptoRow.named == Tryz.pinned.checked.prog.varsNamed 7) = true := by kernel_rfl
theorem joined : joinedFacts Tryz.pinned.checked.prog 7 Tryz.f7 (Rows.OpenSpec.upto Rows.webPrintsSpec).bare Rows.webPrintsUptoRow = true := by
  unfold joinedFacts
  rw [k_in, k_un, k_re, k_na]
  kernel_rfl
end Go.Proofs.YthgojbdpmcccaaaGreatDoor.webPrints
end
