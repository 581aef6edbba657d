/- The machine side of the seat's functions, written by this session's program gen.py (over the kit's print). Nothing here is trusted: Lean checks it. -/
import Derived.Test.YtljinjgamgmocaaDoorProg
import Derived.Below
import Derived.Deep.Draws
import Derived.Deep.AppendLies
import Derived.Maps.AppendAt
import Derived.OwnWalk
import Derived.Laws.BytesArg
import Derived.Laws.MakeOwn
import Derived.Laws.OwnMore
import Derived.Deep.OwnRows
import Derived.Tactics
import Derived.Lib.ConvBytes
import Derived.Laws.Slices
import Derived.WalkKit
import Derived.KernelRfl
import Derived.RowKit3
import Derived.Deep.LoopGhost
import Derived.Deep.QuietTactic
import Derived.BigQuiet
import Derived.WideLaws
import Derived.Deep.DeepCutAuto
import Derived.Deep.CutBlock
import Derived.Deep.RegionHeld3
import Derived.Laws.Rows
import Derived.Lib.AppendStr
import Derived.ArgAppend
import Derived.Laws.IdiomCopy
import Derived.OrdersHeld
import Derived.Laws.BitsLemmas
import Derived.RowKit
import Derived.Test.YtljinjgamgmocaaDoorExt
import Derived.Test.YtljinjgamgmocaaDoorExtH
import Derived.Test.YtljinjgamgmocaaDoorGxD0
import Derived.Test.YtljinjgamgmocaaDoorWWords
import Derived.Test.YtljinjgamgmocaaDoorWLast
import Derived.Test.YtljinjgamgmocaaDoorWTab
import Derived.Test.YtljinjgamgmocaaDoorWFour
import Derived.Test.YtljinjgamgmocaaDoorWQPut
import Derived.Test.YtljinjgamgmocaaDoorWApart
import Derived.Test.YtljinjgamgmocaaDoorWArr
import Derived.Test.YtljinjgamgmocaaDoorWZeros
import Derived.Test.YtljinjgamgmocaaDoorWFoot
import Derived.Test.YtljinjgamgmocaaDoorWKept
import Derived.Test.YtljinjgamgmocaaDoorWShare
import Derived.Test.YtljinjgamgmocaaDoorWN
import Derived.Test.YtljinjgamgmocaaDoorWFootNe
import Derived.Test.YtljinjgamgmocaaDoorWAt
import Derived.Test.YtljinjgamgmocaaDoorWEqStruct
import Derived.Test.YtljinjgamgmocaaDoorWRepsOne
import Derived.Test.YtljinjgamgmocaaDoorWInv
import Derived.Test.YtljinjgamgmocaaDoorWInvWords
import Derived.Test.YtljinjgamgmocaaDoorWGuard
import Derived.Test.YtljinjgamgmocaaDoorWNEv
import Derived.Test.YtljinjgamgmocaaDoorWMore
namespace Go.Proofs.YtljinjgamgmocaaDoor.G
open Go.RowKit Go.Proofs.YtljinjgamgmocaaDoorW.PrintWords Go.Proofs.YtljinjgamgmocaaDoorW.PrintLast Go.Proofs.YtljinjgamgmocaaDoorW.PrintMore
attribute [local go_sem] max2_int min2_int max_two min_two max_three min_three max_four min_four   -- for this text's walks alone
set_option linter.unusedVariables false
set_option linter.unusedSimpArgs false

theorem info3 : (Tryd.prog.info? 3).map (fun i => (i.zero, i.size, i.bytes)) = some (some (.int .i64 0), 1, 8) := by kernel_rfl
theorem info5 : (Tryd.prog.info? 5).map (fun i => (i.zero, i.size, i.bytes)) = some (some (.int .u8 0), 1, 1) := by kernel_rfl
theorem info9 : (Tryd.prog.info? 9).map (fun i => (i.zero, i.size, i.bytes)) = some (some (.string ⟨#[]⟩), 1, 16) := by kernel_rfl
end Go.Proofs.YtljinjgamgmocaaDoor.G
