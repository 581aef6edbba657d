/- The machine side of the seat's functions, written by this session's program gen.py (over the kit's print). Nothing here is trusted: Lean checks it. -/
import Derived.Test.YtljinjgamgmocaaProg
import Derived.Below
import Derived.Deep.Draws
import Derived.Deep.AppendLies
import Derived.Maps.AppendAt
import Derived.OwnWalk
import Derived.Laws.BytesArg
import Derived.Laws.MakeOwn
import Derived.Laws.OwnMore
import Derived.Deep.OwnRows
import Derived.Tactics
import Derived.Lib.ConvBytes
import Derived.Laws.Slices
import Derived.WalkKit
import Derived.KernelRfl
import Derived.RowKit3
import Derived.Deep.LoopGhost
import Derived.Deep.QuietTactic
import Derived.BigQuiet
import Derived.WideLaws
import Derived.Deep.DeepCutAuto
import Derived.Deep.CutBlock
import Derived.Deep.RegionHeld3
import Derived.Laws.Rows
import Derived.Lib.AppendStr
import Derived.ArgAppend
import Derived.Laws.IdiomCopy
import Derived.OrdersHeld
import Derived.Laws.BitsLemmas
import Derived.RowKit
import Derived.Test.YtljinjgamgmocaaExt
import Derived.Test.YtljinjgamgmocaaGxD0
import Derived.Test.YtljinjgamgmocaaWWords
import Derived.Test.YtljinjgamgmocaaWLast
import Derived.Test.YtljinjgamgmocaaWTab
import Derived.Test.YtljinjgamgmocaaWFour
import Derived.Test.YtljinjgamgmocaaWQPut
import Derived.Test.YtljinjgamgmocaaWApart
import Derived.Test.YtljinjgamgmocaaWArr
import Derived.Test.YtljinjgamgmocaaWZeros
import Derived.Test.YtljinjgamgmocaaWFoot
import Derived.Test.YtljinjgamgmocaaWKept
import Derived.Test.YtljinjgamgmocaaWShare
import Derived.Test.YtljinjgamgmocaaWN
import Derived.Test.YtljinjgamgmocaaWFootNe
import Derived.Test.YtljinjgamgmocaaWAt
import Derived.Test.YtljinjgamgmocaaWEqStruct
import Derived.Test.YtljinjgamgmocaaWRepsOne
import Derived.Test.YtljinjgamgmocaaWInv
import Derived.Test.YtljinjgamgmocaaWInvWords
import Derived.Test.YtljinjgamgmocaaWGuard
import Derived.Test.YtljinjgamgmocaaWNEv
import Derived.Test.YtljinjgamgmocaaWMore
namespace Go.Proofs.Ytljinjgamgmocaa.G
open Go.RowKit Go.Proofs.YtljinjgamgmocaaW.PrintWords Go.Proofs.YtljinjgamgmocaaW.PrintLast Go.Proofs.YtljinjgamgmocaaW.PrintMore
attribute [local go_sem] max2_int min2_int max_two min_two max_three min_three max_four min_four   -- for this text's walks alone
set_option linter.unusedVariables false
set_option linter.unusedSimpArgs false

end Go.Proofs.Ytljinjgamgmocaa.G
