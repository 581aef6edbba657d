/- The variables of the rows with paths: what their listing gives, and a world for the witness in which each is laid. -/
import Derived.Test.YtnimaenhijlcmaaGreatDoorCards
import Derived.Test.YtnimaenhijlcmaaGreatDoorFf
import Derived.LaidLaws
import Derived.ChangeSame
import Derived.ChangeArms
import Derived.OpenShut
import Derived.Lay
import Derived.Deep.DeepWitnessRowRef
import Derived.Lib.LaidU8
import Derived.Lib.LaidTab
import Derived.ProofKit
import Derived.WalkKit
namespace Go.Proofs.YtnimaenhijlcmaaGreatDoor.LaidZ
open Go.ChangeShapes Go.WideShapes Go.ChangeAt Go.RowKit
open Go.Proofs.YtnimaenhijlcmaaGreatDoor.K Go.Proofs.YtnimaenhijlcmaaGreatDoor.Mb
open Go.Lib (VarReads)
set_option linter.unusedVariables false
set_option linter.unusedSimpArgs false

theorem own : ownKnob Tryz.prog.godebug = none := by kernel_rfl
def ldT (s : ByteArray) : DataW Unit := .lit (.string s.data.toList)
theorem text_in {W : World} {m : Nat} {t : TypeId} {c : List Value} {y : DataW Unit × List MemPlace} {s : ByteArray} (ht : Tryz.prog.underlying t = some .string) (h : DataW.trod (fun _ => ()) Tryz.prog W 0 (fun _ => true) false m t c = some y) (hy : y.1 = ldT s) : c = [.string s] := by
  obtain ⟨s', rfl, rfl, _⟩ := DataW.trod_string ht h
  simp [ldT] at hy
  have : s' = s := by
    cases s; cases s'
    simp only [ByteArray.mk.injEq]
    exact Array.toList_inj.1 (by simpa using hy)
  rw [this]
theorem cells_of_texts {W : World} {fuel n : Nat} {arr E : TypeId} {cs : List Value} {p : List MemPlace} {T : List ByteArray} (ht : Tryz.prog.underlying arr = some (.array n E)) (hE : Tryz.prog.underlying E = some .string) (kE : Tryz.prog.cellsOf E = 1) (kA : Tryz.prog.cellsOf arr = n) (hn : T.length = n)
    (h : DataW.trod (fun _ => ()) Tryz.prog W 0 (fun _ => true) false fuel arr cs = some (.agg (T.map ldT), p)) : cs = T.map Value.string := by
  obtain ⟨xs, m, _, hx, hl, hxl, hall⟩ := DataW.trod_array ht h
  have hmap : xs.map (·.1) = T.map ldT := by
    have := congrArg Prod.fst hx
    simpa using this.symm
  refine List.ext_getElem? fun i => ?_
  by_cases hi : i < n
  · have hiT : i < T.length := by omega
    have hxi : i < xs.length := by omega
    have ha := hall i hi
    rw [List.getElem?_eq_getElem hxi, kE, Nat.mul_one] at ha
    have he : (xs[i]).1 = ldT T[i] := by
      have := congrArg (fun l => l[i]?) hmap
      simp only [List.getElem?_map, List.getElem?_eq_getElem hxi, List.getElem?_eq_getElem hiT, Option.map_some, Option.some.injEq] at this
      exact this
    have h1 := congrArg (fun l => l[0]?) (text_in hE ha he)
    simp only [List.getElem?_map, List.getElem?_eq_getElem hiT, Option.map_some] at h1 ⊢
    rw [List.getElem?_take_of_lt (by omega), List.getElem?_drop] at h1
    simpa using h1
  · rw [List.getElem?_eq_none (by omega), List.getElem?_eq_none (by rw [List.length_map]; omega)]
theorem heap_of_var {W : World} {nm : String} {g : Nat} {cs : Array Value} (hg : Tryz.prog.globalNamed nm = some g) (h : W.var? Tryz.prog nm = some cs) : ∃ t fr, W.heap[g]? = some (.cells cs t fr) := by
  unfold World.var? at h
  rw [hg, Option.bind_some] at h
  cases hx : W.heap[g]? with
  | none => rw [hx] at h; cases h
  | some o =>
    rw [hx] at h
    cases o <;> simp at h
    subst h
    exact ⟨_, _, rfl⟩
theorem deData : Rows.laid_ledger_modver_devices = .agg (deB.map ldT) := by kernel_rfl
theorem layD {W : World} (h : VarReads Tryz.prog W "ledger/modver.devices" Rows.laid_ledger_modver_devices) : ∃ t fr, W.heap[2]? = some (.cells deC t fr) := by
  rw [deData] at h
  obtain ⟨g', t', cs, fuel, p, hg', ht', hvar, hd⟩ := h
  obtain rfl := Option.some.inj ((show Tryz.prog.globalNamed "ledger/modver.devices" = some 2 by kernel_rfl).symm.trans hg')
  obtain rfl := Option.some.inj ((show (Tryz.prog.globals[2]?).map (·.type) = some 138 by kernel_rfl).symm.trans ht')
  have e := cells_of_texts Tryz.underlying138 Tryz.underlying9 (by kernel_rfl) (by kernel_rfl) rfl hd
  have e2 : cs = deC := by
    rw [← Array.toList_inj, e]; rfl
  rw [e2] at hvar
  exact heap_of_var (by kernel_rfl) hvar
theorem taData : Rows.laid_ledger_ledgerref11_taken = .agg (deB.map ldT) := by kernel_rfl
theorem layT {W : World} (h : VarReads Tryz.prog W "ledger/ledgerref11.taken" Rows.laid_ledger_ledgerref11_taken) : ∃ t fr, W.heap[3]? = some (.cells deC t fr) := by
  rw [taData] at h
  obtain ⟨g', t', cs, fuel, p, hg', ht', hvar, hd⟩ := h
  obtain rfl := Option.some.inj ((show Tryz.prog.globalNamed "ledger/ledgerref11.taken" = some 3 by kernel_rfl).symm.trans hg')
  obtain rfl := Option.some.inj ((show (Tryz.prog.globals[3]?).map (·.type) = some 138 by kernel_rfl).symm.trans ht')
  have e := cells_of_texts Tryz.underlying138 Tryz.underlying9 (by kernel_rfl) (by kernel_rfl) rfl hd
  have e2 : cs = deC := by
    rw [← Array.toList_inj, e]; rfl
  rw [e2] at hvar
  exact heap_of_var (by kernel_rfl) hvar
theorem mkData : Rows.laid_ledger_modver_marks = Lib.tabData (H := Unit) .i32 mkL := by kernel_rfl
theorem layK {W : World} (h : VarReads Tryz.prog W "ledger/modver.marks" Rows.laid_ledger_modver_marks) : ∃ t fr, W.heap[1]? = some (.cells mkC t fr) := by
  rw [mkData] at h
  obtain ⟨g', t', cs, fuel, p, hg', ht', hvar, hd⟩ := h
  obtain rfl := Option.some.inj ((show Tryz.prog.globalNamed "ledger/modver.marks" = some 1 by kernel_rfl).symm.trans hg')
  obtain rfl := Option.some.inj ((show (Tryz.prog.globals[1]?).map (·.type) = some 137 by kernel_rfl).symm.trans ht')
  have e := Lib.cells_of_tab Tryz.underlying137 Tryz.underlying21 (show Tryz.prog.cellsOf 21 = 1 by kernel_rfl) (show Tryz.prog.cellsOf 137 = 5 by kernel_rfl) hd
  have e2 : cs = mkC := by
    rw [← Array.toList_inj, e]; rfl
  rw [e2] at hvar
  exact heap_of_var (by kernel_rfl) hvar
theorem maxLen_cell {w : World} (h : w.ShapedOpen Tryz.prog) : ∃ m, w.cell? ⟨0, 0, none⟩ = some (.int .i64 m) :=
  Go.Proofs.cell_of_shapedOpen_int (zero := #[.int .i64 0]) (t := 3) h (of_decide_eq_true (by kernel_rfl)) (by kernel_rfl) rfl (by kernel_rfl) (by kernel_rfl) Tryz.underlying3
theorem laidOut : laidOutB Tryz.prog = true := by kernel_rfl
noncomputable def world (os : Os) : World := World.laidAll Tryz.prog os Rows.modverFitsRow.laid
theorem world_os (os : Os) : (world os).os = os := World.laidAll_os _ _ _
set_option maxRecDepth 100000 in
theorem met (os : Os) (args : Array Value) : laidMet Tryz.prog Rows.modverFitsRow.laid ((world os).forCall (fun _ _ => 0) ⟨#[], args, []⟩).memory :=
  laidMet_laidAll _ (by kernel_rfl) (by kernel_rfl)
end Go.Proofs.YtnimaenhijlcmaaGreatDoor.LaidZ
