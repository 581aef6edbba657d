/- The machine side of the seat's functions, written by this session's program gen.py (over the kit's print). Nothing here is trusted: Lean checks it. -/
import Derived.Test.YtljinjgamgmocaaExtD
import Derived.Test.YtljinjgamgmocaaWWords
import Derived.Test.YtljinjgamgmocaaWLast
import Derived.Test.YtljinjgamgmocaaWTab
import Derived.Test.YtljinjgamgmocaaWFour
import Derived.Test.YtljinjgamgmocaaWQPut
import Derived.Test.YtljinjgamgmocaaWApart
import Derived.Test.YtljinjgamgmocaaWArr
import Derived.Test.YtljinjgamgmocaaWZeros
import Derived.Test.YtljinjgamgmocaaWFoot
import Derived.Test.YtljinjgamgmocaaWKept
import Derived.Test.YtljinjgamgmocaaWShare
import Derived.Test.YtljinjgamgmocaaWN
import Derived.Test.YtljinjgamgmocaaWFootNe
import Derived.Test.YtljinjgamgmocaaWAt
import Derived.Test.YtljinjgamgmocaaWEqStruct
import Derived.Test.YtljinjgamgmocaaWRepsOne
import Derived.Test.YtljinjgamgmocaaWInv
import Derived.Test.YtljinjgamgmocaaWInvWords
import Derived.Test.YtljinjgamgmocaaWGuard
import Derived.Test.YtljinjgamgmocaaWNEv
import Derived.Test.YtljinjgamgmocaaWMore
namespace Go.Proofs.Ytljinjgamgmocaa.G
open Go.RowKit Go.Proofs.YtljinjgamgmocaaW.PrintWords Go.Proofs.YtljinjgamgmocaaW.PrintLast Go.Proofs.YtljinjgamgmocaaW.PrintMore
set_option linter.unusedVariables false
set_option linter.unusedSimpArgs false



def errW : Option Int → Value
  | none => .nilIface
  | some c => .iface 0 (.int .i64 c)
theorem errW_none : errW none = .nilIface := rfl
theorem errW_some (c : Int) : errW (some c) = .iface 0 (.int .i64 c) := rfl

-- the values' own types

end Go.Proofs.Ytljinjgamgmocaa.G
