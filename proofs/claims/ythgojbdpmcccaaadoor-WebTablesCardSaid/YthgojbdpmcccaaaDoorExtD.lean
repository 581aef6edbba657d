/- What the call that is proved by hand computes: A to Z made small. -/
import Derived.Test.YthgojbdpmcccaaaDoorWMore
namespace Go.Proofs.YthgojbdpmcccaaaDoor.G
open Go.RowKit Go.Proofs.YthgojbdpmcccaaaDoorW.PrintWords Go.Proofs.YthgojbdpmcccaaaDoorW.PrintLast Go.Proofs.YthgojbdpmcccaaaDoorW.PrintMore
/-- One byte made small. -/
def low1 (c : Int) : Int := if 65 ≤ c then (if c ≤ 90 then c + 32 else c) else c
def web_lower.f (a0 : ByteArray) : Option ByteArray := if a0.size ≤ 140737488351232 then some (strOfNums ((bytesOf a0).map low1)) else none
end Go.Proofs.YthgojbdpmcccaaaDoor.G
