/- Joined texts of mine, 7: LaidY, LaidX. -/
import Derived.Test.YthgojbdpmcccaaaGreatDoorXp6
section
namespace Go.Proofs.YthgojbdpmcccaaaGreatDoor.LaidY
open Go.ChangeShapes Go.WideShapes Go.ChangeAt Go.RowKit
open Go.Proofs.YthgojbdpmcccaaaGreatDoor.K Go.Proofs.YthgojbdpmcccaaaGreatDoor.Wb Go.Proofs.YthgojbdpmcccaaaGreatDoor.LaidT Go.Proofs.YthgojbdpmcccaaaGreatDoor.LaidF
open Go.Lib (VarReads)
set_option linter.unusedVariables false
set_option linter.unusedSimpArgs false
theorem rmData : Rows.laid_ledger_ledgerref14_methods = .agg (meB.map ldT) := by kernel_rfl
theorem layRM {W : World} (h : VarReads Tryz.prog W "ledger/ledgerref14.methods" Rows.laid_ledger_ledgerref14_methods) : ∃ t fr, W.heap[14]? = some (.cells meC t fr) := by
  rw [rmData] at h
  obtain ⟨g', t', cs, fuel, p, hg', ht', hvar, hd⟩ := h
  obtain rfl := Option.some.inj ((show Tryz.prog.globalNamed "ledger/ledgerref14.methods" = some 14 by kernel_rfl).symm.trans hg')
  obtain rfl := Option.some.inj ((show (Tryz.prog.globals[14]?).map (·.type) = some 208 by kernel_rfl).symm.trans ht')
  have e := cells_of_texts Tryz.underlying208 Tryz.underlying9 (by kernel_rfl) (by kernel_rfl) rfl hd
  have e2 : cs = meC := by
    rw [← Array.toList_inj, e]; rfl
  rw [e2] at hvar
  exact LaidF.heap_of_var (by kernel_rfl) hvar
def rsB : List ByteArray := reT.map (·.2)
def rsC : Array Value := (rsB.map Value.string).toArray
theorem rrData : Rows.laid_ledger_ledgerref14_reasons = .agg (rsB.map ldT) := by kernel_rfl
theorem layRR {W : World} (h : VarReads Tryz.prog W "ledger/ledgerref14.reasons" Rows.laid_ledger_ledgerref14_reasons) : ∃ t fr, W.heap[16]? = some (.cells rsC t fr) := by
  rw [rrData] at h
  obtain ⟨g', t', cs, fuel, p, hg', ht', hvar, hd⟩ := h
  obtain rfl := Option.some.inj ((show Tryz.prog.globalNamed "ledger/ledgerref14.reasons" = some 16 by kernel_rfl).symm.trans hg')
  obtain rfl := Option.some.inj ((show (Tryz.prog.globals[16]?).map (·.type) = some 211 by kernel_rfl).symm.trans ht')
  have e := cells_of_texts Tryz.underlying211 Tryz.underlying9 (by kernel_rfl) (by kernel_rfl) rfl hd
  have e2 : cs = rsC := by
    rw [← Array.toList_inj, e]; rfl
  rw [e2] at hvar
  exact LaidF.heap_of_var (by kernel_rfl) hvar
def rsI : List Int := reT.map (·.1)
theorem riData : Rows.laid_ledger_ledgerref14_statuses = Lib.tabData (H := Unit) .i64 rsI := by kernel_rfl
theorem gRi : Tryz.prog.globalNamed "ledger/ledgerref14.statuses" = some 15 := by kernel_rfl
noncomputable def world (os : Os) : World :=
  let w0 := LaidZ.world os
  { w0 with heap := ((w0.heap.modify 14 (LaidF.put meC.toList)).modify 15 (LaidF.put (rsI.map (Value.int .i64)))).modify 16 (LaidF.put rsC.toList) }
end Go.Proofs.YthgojbdpmcccaaaGreatDoor.LaidY
end
section
namespace Go.Proofs.YthgojbdpmcccaaaGreatDoor.LaidY
open Go.ChangeShapes Go.WideShapes Go.ChangeAt Go.RowKit
open Go.Proofs.YthgojbdpmcccaaaGreatDoor.K Go.Proofs.YthgojbdpmcccaaaGreatDoor.Wb Go.Proofs.YthgojbdpmcccaaaGreatDoor.LaidT Go.Proofs.YthgojbdpmcccaaaGreatDoor.LaidF
open Go.Lib (VarReads)
set_option linter.unusedVariables false
set_option linter.unusedSimpArgs false
theorem layRI {W : World} (h : VarReads Tryz.prog W "ledger/ledgerref14.statuses" Rows.laid_ledger_ledgerref14_statuses) : Lib.TabIs Tryz.prog W "ledger/ledgerref14.statuses" .i64 rsI := by
  rw [riData] at h
  exact LaidT.tabIs_of_reads gRi (show (Tryz.prog.globals[15]?).map (·.type) = some 210 by kernel_rfl) Tryz.underlying210 Tryz.underlying3 (show Tryz.prog.cellsOf 3 = 1 by kernel_rfl) (by kernel_rfl) h
theorem layTR {W : World} (hI : VarReads Tryz.prog W "ledger/ledgerref14.statuses" Rows.laid_ledger_ledgerref14_statuses) (hS : VarReads Tryz.prog W "ledger/ledgerref14.reasons" Rows.laid_ledger_ledgerref14_reasons) : Ref.TabR W := by
  have t := layRI hI
  obtain ⟨t2, fr, hc⟩ := layRR hS
  have hl : reT.length = 24 := by decide +kernel
  refine ⟨fun k hk => ?_, fun k hk => ?_⟩
  · have := t.cell gRi k (by show k < rsI.length; unfold rsI; rw [List.length_map, hl]; exact hk)
    rw [this]
    unfold rsI reE
    simp [List.getD_eq_getElem?_getD, List.getElem?_eq_getElem (show k < reT.length by omega)]
  · simp only [World.cell?, hc]
    unfold rsC rsB reE
    simp [List.getD_eq_getElem?_getD, List.getElem?_eq_getElem (show k < reT.length by omega)]
end Go.Proofs.YthgojbdpmcccaaaGreatDoor.LaidY
end
