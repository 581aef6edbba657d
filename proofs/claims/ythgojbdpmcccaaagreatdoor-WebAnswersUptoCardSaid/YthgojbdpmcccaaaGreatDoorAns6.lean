/- Joined texts of mine, 6: RowAnsF. -/
import Derived.Test.YthgojbdpmcccaaaGreatDoorCards
import Derived.JoinedOf
import Derived.JoinedCond
import Derived.ProofKit
import Derived.WalkKit
import Derived.Test.YthgojbdpmcccaaaGreatDoorAns5
section
namespace Go.Proofs.YthgojbdpmcccaaaGreatDoor.webAnswers
set_option linter.unusedVariables false
theorem k_in : (Rows.webAnswersUptoRow.inPlace == Tryz.pinned.checked.prog.inPlace 8) = true := by kernel_rfl
theorem k_un : (Rows.webAnswersUptoRow.unfollowed == Tryz.pinned.checked.prog.unfollowed 8) = true := by kernel_rfl
theorem k_re : (Rows.webAnswersUptoRow.recurses == Tryz.pinned.checked.prog.recurses 8) = true := by kernel_rfl
theorem k_na : (Rows.webAnswersUptoRow.named == Tryz.pinned.checked.prog.varsNamed 8) = true := by kernel_rfl
theorem joined : joinedFacts Tryz.pinned.checked.prog 8 Tryz.f8 (Rows.OpenSpec.upto Rows.webAnswersSpec).bare Rows.webAnswersUptoRow = true := by
  unfold joinedFacts
  rw [k_in, k_un, k_re, k_na]
  kernel_rfl
end Go.Proofs.YthgojbdpmcccaaaGreatDoor.webAnswers
end
