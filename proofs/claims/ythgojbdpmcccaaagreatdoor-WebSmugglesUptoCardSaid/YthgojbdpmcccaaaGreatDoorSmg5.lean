/- Joined texts of mine, 5: RowSmgF. -/
import Derived.Test.YthgojbdpmcccaaaGreatDoorCards
import Derived.JoinedOf
import Derived.JoinedCond
import Derived.ProofKit
import Derived.WalkKit
import Derived.Test.YthgojbdpmcccaaaGreatDoorSmg4
section
namespace Go.Proofs.YthgojbdpmcccaaaGreatDoor.webSmuggles
set_option linter.unusedVariables false
theorem k_in : (Rows.webSmugglesUptoRow.inPlace == Tryz.pinned.checked.prog.inPlace 5) = true := by kernel_rfl
theorem k_un : (Rows.webSmugglesUptoRow.unfollowed == Tryz.pinned.checked.prog.unfollowed 5) = true := by kernel_rfl
theorem k_re : (Rows.webSmugglesUptoRow.recurses == Tryz.pinned.checked.prog.recurses 5) = true := by kernel_rfl
theorem k_na : (Rows.webSmugglesUptoRow.named == Tryz.pinned.checked.prog.varsNamed 5) = true := by kernel_rfl
theorem joined : joinedFacts Tryz.pinned.checked.prog 5 Tryz.f5 (Rows.OpenSpec.upto Rows.webSmugglesSpec).bare Rows.webSmugglesUptoRow = true := by
  unfold joinedFacts
  rw [k_in, k_un, k_re, k_na]
  kernel_rfl
end Go.Proofs.YthgojbdpmcccaaaGreatDoor.webSmuggles
end
