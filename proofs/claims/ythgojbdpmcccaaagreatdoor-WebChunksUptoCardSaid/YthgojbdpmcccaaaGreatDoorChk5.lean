/- Joined texts of mine, 5: RowChkF. -/
import Derived.Test.YthgojbdpmcccaaaGreatDoorCards
import Derived.JoinedOf
import Derived.JoinedCond
import Derived.ProofKit
import Derived.WalkKit
import Derived.Test.YthgojbdpmcccaaaGreatDoorChk4
section
namespace Go.Proofs.YthgojbdpmcccaaaGreatDoor.webChunks
set_option linter.unusedVariables false
theorem k_in : (Rows.webChunksUptoRow.inPlace == Tryz.pinned.checked.prog.inPlace 6) = true := by kernel_rfl
theorem k_un : (Rows.webChunksUptoRow.unfollowed == Tryz.pinned.checked.prog.unfollowed 6) = true := by kernel_rfl
theorem k_re : (Rows.webChunksUptoRow.recurses == Tryz.pinned.checked.prog.recurses 6) = true := by kernel_rfl
theorem k_na : (Rows.webChunksUptoRow.named == Tryz.pinned.checked.prog.varsNamed 6) = true := by kernel_rfl
theorem joined : joinedFacts Tryz.pinned.checked.prog 6 Tryz.f6 (Rows.OpenSpec.upto Rows.webChunksSpec).bare Rows.webChunksUptoRow = true := by
  unfold joinedFacts
  rw [k_in, k_un, k_re, k_na]
  kernel_rfl
end Go.Proofs.YthgojbdpmcccaaaGreatDoor.webChunks
end
