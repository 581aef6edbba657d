/- Joined texts of mine, 8: LaidY. -/
import Derived.Test.YthgojbdpmcccaaaGreatDoorXs7
section
namespace Go.Proofs.YthgojbdpmcccaaaGreatDoor.LaidY
open Go.ChangeShapes Go.WideShapes Go.ChangeAt Go.RowKit
open Go.Proofs.YthgojbdpmcccaaaGreatDoor.K Go.Proofs.YthgojbdpmcccaaaGreatDoor.Wb Go.Proofs.YthgojbdpmcccaaaGreatDoor.LaidT Go.Proofs.YthgojbdpmcccaaaGreatDoor.LaidF
open Go.Lib (VarReads)
set_option linter.unusedVariables false
set_option linter.unusedSimpArgs false
def rsB : List ByteArray := reT.map (·.2)
def rsC : Array Value := (rsB.map Value.string).toArray
def rsI : List Int := reT.map (·.1)
noncomputable def world (os : Os) : World :=
  let w0 := LaidZ.world os
  { w0 with heap := ((w0.heap.modify 14 (LaidF.put meC.toList)).modify 15 (LaidF.put (rsI.map (Value.int .i64)))).modify 16 (LaidF.put rsC.toList) }
end Go.Proofs.YthgojbdpmcccaaaGreatDoor.LaidY
end
