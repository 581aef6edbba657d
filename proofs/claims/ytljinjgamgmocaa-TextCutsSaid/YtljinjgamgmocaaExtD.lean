/- What the call that is proved by hand computes. -/
import Derived.Test.YtljinjgamgmocaaWMore
import Derived.Lib.LastIndexLaws
namespace Go.Proofs.Ytljinjgamgmocaa.G
open Go.RowKit Go.Proofs.YtljinjgamgmocaaW.PrintWords Go.Proofs.YtljinjgamgmocaaW.PrintLast Go.Proofs.YtljinjgamgmocaaW.PrintMore
def strings_LastIndex.f (a0 a1 : ByteArray) : Option Int := if a0.size < 4611686018427387904 then some (Lib.lastIndex a0.data.toList a1.data.toList) else none
end Go.Proofs.Ytljinjgamgmocaa.G
