/- Joined texts of mine, 7: LaidY. -/
import Derived.Test.YthgojbdpmcccaaaGreatDoorXq6
section
namespace Go.Proofs.YthgojbdpmcccaaaGreatDoor.LaidY
open Go.ChangeShapes Go.WideShapes Go.ChangeAt Go.RowKit
open Go.Proofs.YthgojbdpmcccaaaGreatDoor.K Go.Proofs.YthgojbdpmcccaaaGreatDoor.Wb Go.Proofs.YthgojbdpmcccaaaGreatDoor.LaidT Go.Proofs.YthgojbdpmcccaaaGreatDoor.LaidF
open Go.Lib (VarReads)
set_option linter.unusedVariables false
set_option linter.unusedSimpArgs false
theorem rmData : Rows.laid_ledger_ledgerref14_methods = .agg (meB.map ldT) := by kernel_rfl
theorem layRM {W : World} (h : VarReads Tryz.prog W "ledger/ledgerref14.methods" Rows.laid_ledger_ledgerref14_methods) : ∃ t fr, W.heap[14]? = some (.cells meC t fr) := by
  rw [rmData] at h
  obtain ⟨g', t', cs, fuel, p, hg', ht', hvar, hd⟩ := h
  obtain rfl := Option.some.inj ((show Tryz.prog.globalNamed "ledger/ledgerref14.methods" = some 14 by kernel_rfl).symm.trans hg')
  obtain rfl := Option.some.inj ((show (Tryz.prog.globals[14]?).map (·.type) = some 208 by kernel_rfl).symm.trans ht')
  have e := cells_of_texts Tryz.underlying208 Tryz.underlying9 (by kernel_rfl) (by kernel_rfl) rfl hd
  have e2 : cs = meC := by
    rw [← Array.toList_inj, e]; rfl
  rw [e2] at hvar
  exact LaidF.heap_of_var (by kernel_rfl) hvar
def rsB : List ByteArray := reT.map (·.2)
def rsC : Array Value := (rsB.map Value.string).toArray
def rsI : List Int := reT.map (·.1)
noncomputable def world (os : Os) : World :=
  let w0 := LaidZ.world os
  { w0 with heap := ((w0.heap.modify 14 (LaidF.put meC.toList)).modify 15 (LaidF.put (rsI.map (Value.int .i64)))).modify 16 (LaidF.put rsC.toList) }
end Go.Proofs.YthgojbdpmcccaaaGreatDoor.LaidY
end
