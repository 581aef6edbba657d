/- The machine side of the seat's functions, written by this session's program gen.py (over the kit's print). Nothing here is trusted: Lean checks it. -/
import Derived.Test.YthgojbdpmcccaaaProg
import Derived.Below
import Derived.Deep.Draws
import Derived.Deep.AppendLies
import Derived.Maps.AppendAt
import Derived.OwnWalk
import Derived.Laws.BytesArg
import Derived.Laws.MakeOwn
import Derived.Laws.OwnMore
import Derived.Deep.OwnRows
import Derived.Tactics
import Derived.Lib.ConvBytes
import Derived.Laws.Slices
import Derived.WalkKit
import Derived.KernelRfl
import Derived.RowKit3
import Derived.Deep.LoopGhost
import Derived.Deep.QuietTactic
import Derived.BigQuiet
import Derived.WideLaws
import Derived.Deep.DeepCutAuto
import Derived.Deep.CutBlock
import Derived.Deep.RegionHeld3
import Derived.Laws.Rows
import Derived.Lib.AppendStr
import Derived.ArgAppend
import Derived.Laws.IdiomCopy
import Derived.OrdersHeld
import Derived.Laws.BitsLemmas
import Derived.RowKit
import Derived.Test.YthgojbdpmcccaaaExt
import Derived.Test.YthgojbdpmcccaaaGxD0
import Derived.Test.YthgojbdpmcccaaaWWords
import Derived.Test.YthgojbdpmcccaaaWLast
import Derived.Test.YthgojbdpmcccaaaWTab
import Derived.Test.YthgojbdpmcccaaaWFour
import Derived.Test.YthgojbdpmcccaaaWQPut
import Derived.Test.YthgojbdpmcccaaaWApart
import Derived.Test.YthgojbdpmcccaaaWArr
import Derived.Test.YthgojbdpmcccaaaWZeros
import Derived.Test.YthgojbdpmcccaaaWFoot
import Derived.Test.YthgojbdpmcccaaaWKept
import Derived.Test.YthgojbdpmcccaaaWShare
import Derived.Test.YthgojbdpmcccaaaWN
import Derived.Test.YthgojbdpmcccaaaWFootNe
import Derived.Test.YthgojbdpmcccaaaWAt
import Derived.Test.YthgojbdpmcccaaaWEqStruct
import Derived.Test.YthgojbdpmcccaaaWRepsOne
import Derived.Test.YthgojbdpmcccaaaWInv
import Derived.Test.YthgojbdpmcccaaaWInvWords
import Derived.Test.YthgojbdpmcccaaaWGuard
import Derived.Test.YthgojbdpmcccaaaWNEv
import Derived.Test.YthgojbdpmcccaaaWMore
namespace Go.Proofs.Ythgojbdpmcccaaa.G
open Go.RowKit Go.Proofs.YthgojbdpmcccaaaW.PrintWords Go.Proofs.YthgojbdpmcccaaaW.PrintLast Go.Proofs.YthgojbdpmcccaaaW.PrintMore
attribute [local go_sem] max2_int min2_int max_two min_two max_three min_three max_four min_four   -- for this text's walks alone
set_option linter.unusedVariables false
set_option linter.unusedSimpArgs false

theorem info5 : (Try.prog.info? 5).map (fun i => (i.zero, i.size, i.bytes)) = some (some (.int .u8 0), 1, 1) := by kernel_rfl
theorem info26 : (Try.prog.info? 26).map (fun i => (i.zero, i.size, i.bytes)) = some (some (.agg #[(.string ⟨#[]⟩), (.string ⟨#[]⟩)]), 2, 32) := by kernel_rfl
end Go.Proofs.Ythgojbdpmcccaaa.G
