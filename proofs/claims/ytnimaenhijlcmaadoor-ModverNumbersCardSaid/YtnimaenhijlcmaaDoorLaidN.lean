/- The variables of the row of numbers: what their listing gives, and a world for the witness in which each is laid; arrays of three numbers, opened. -/
import Derived.Test.YtnimaenhijlcmaaDoorCards
import Derived.Test.YtnimaenhijlcmaaDoorNb
import Derived.LaidLaws
import Derived.ChangeSame
import Derived.ChangeArms
import Derived.OpenShut
import Derived.Lay
import Derived.Deep.DeepWitnessRowRef
import Derived.Deep.DeepHandedRow
import Derived.Lib.LaidU8
import Derived.Lib.LaidTab
import Derived.ProofKit
import Derived.WalkKit
import Derived.ShutString
import Derived.ChangeSlices
namespace Go.Proofs.YtnimaenhijlcmaaDoor.LaidN
open Go.ChangeShapes Go.WideShapes Go.ChangeAt Go.RowKit
open Go.Proofs.YtnimaenhijlcmaaDoor.K Go.Proofs.YtnimaenhijlcmaaDoor.K.Num Go.Proofs.YtnimaenhijlcmaaDoor.Mb Go.Proofs.YtnimaenhijlcmaaDoorW.PrintWords
open Go.Lib (VarReads)
set_option linter.unusedVariables false
set_option linter.unusedSimpArgs false

theorem own : ownKnob Tryd.prog.godebug = none := by kernel_rfl
theorem var?_below {w w' : World} {B : Nat} {nm : String} {g : Nat} {v : Array Value} (hb : Below B w w') (hg : Tryd.prog.globalNamed nm = some g) (hlt : g < B) (h : w.var? Tryd.prog nm = some v) : w'.var? Tryd.prog nm = some v := by
  unfold World.var? at h ⊢
  rw [hg, Option.bind_some] at h ⊢
  rw [hb.block g hlt]
  exact h
theorem tabIs_of_reads {P : Program} {W : World} {name : String} {k : IntKind} {zs : List Int} {g : Nat} {t e : TypeId} {n : Nat}
    (hg : P.globalNamed name = some g) (hty : (P.globals[g]?).map (·.type) = some t) (ht : P.underlying t = some (.array n e)) (he : P.underlying e = some (.int k)) (hce : P.cellsOf e = 1) (hct : P.cellsOf t = n)
    (h : VarReads P W name (Lib.tabData k zs)) : Lib.TabIs P W name k zs := by
  obtain ⟨g', t', cs, fuel, p, hg', ht', hvar, hd⟩ := h
  obtain rfl := Option.some.inj (hg.symm.trans hg')
  obtain rfl := Option.some.inj (hty.symm.trans ht')
  unfold Lib.TabIs
  rw [hvar, ← Lib.cells_of_tab ht he hce hct hd]
theorem gPow : Tryd.prog.globalNamed "internal/strconv.uint64pow10" = some 3 := by kernel_rfl
theorem powData : Rows.laid_internal_strconv_uint64pow10 = Lib.tabData (H := Unit) .u64 Lib.pow10Tab := by kernel_rfl
theorem layP {W : World} (h : VarReads Tryd.prog W "internal/strconv.uint64pow10" Rows.laid_internal_strconv_uint64pow10) : ∀ w', Below W.heap.size W w' → Lib.TabIs Tryd.prog w' "internal/strconv.uint64pow10" .u64 Lib.pow10Tab := by
  rw [powData] at h
  have t : Lib.TabIs Tryd.prog W "internal/strconv.uint64pow10" .u64 Lib.pow10Tab := tabIs_of_reads gPow (show (Tryd.prog.globals[3]?).map (·.type) = some 112 by kernel_rfl) Tryd.underlying112 Tryd.underlying53 (show Tryd.prog.cellsOf 53 = 1 by kernel_rfl) (show Tryd.prog.cellsOf 112 = 20 by kernel_rfl) h
  have hlt := World.block_lt_of_cell? W _ (t.cell gPow 0 (by rw [Lib.pow10Tab_length]; omega))
  exact fun w' hb => var?_below hb gPow hlt t
theorem maxLen_cell {w : World} (h : w.ShapedOpen Tryd.prog) : ∃ m, w.cell? ⟨2, 0, none⟩ = some (.int .i64 m) :=
  Go.Proofs.cell_of_shapedOpen_int (zero := #[.int .i64 0]) (t := 3) h (of_decide_eq_true (by kernel_rfl)) (by kernel_rfl) rfl (by kernel_rfl) (by kernel_rfl) Tryd.underlying3
theorem laidOut : laidOutB Tryd.prog = true := by kernel_rfl
noncomputable def world (os : Os) : World := World.laidAll Tryd.prog os Rows.modverNumbersRow.laid
theorem world_os (os : Os) : (world os).os = os := World.laidAll_os _ _ _
set_option maxRecDepth 100000 in
theorem met (os : Os) (args : Array Value) : laidMet Tryd.prog Rows.modverNumbersRow.laid ((world os).forCall (fun _ _ => 0) ⟨#[], args, []⟩).memory :=
  laidMet_laidAll _ (by kernel_rfl) (by kernel_rfl)
def zOf : Value → Int | .int _ z => z | _ => 0
section
variable {H : Type} {enc : TypeId × Value → H} {P : Program} {W : World} {spare : Nat → Bool} {held : Bool}
theorem ints_in {k : IntKind} {t e : TypeId} {n fuel : Nat} {cs : List Value} {x : DataW H × List MemPlace} (ht : P.underlying t = some (.array n e)) (he : P.underlying e = some (.int k)) (ke : P.cellsOf e = 1) (kt : P.cellsOf t = n)
    (h : DataW.trod enc P W 0 spare held fuel t cs = some x) : ∃ zs : List Int, cs = zs.map (Value.int k) ∧ zs.length = n ∧ ∀ z ∈ zs, (Lit.int k z).wf = true := by
  obtain ⟨xs, m, _, _, hl, hxl, hall⟩ := DataW.trod_array ht h
  have hc : ∀ i, i < n → ∃ z, cs[i]? = some (.int k z) ∧ (Lit.int k z).wf = true := by
    intro i hi
    have ha := hall i hi
    rw [List.getElem?_eq_getElem (by omega), ke, Nat.mul_one] at ha
    obtain ⟨z, hz, _, wz⟩ := DataW.trod_int he ha
    refine ⟨z, ?_, wz⟩
    have h1 := congrArg (fun l => l[0]?) hz
    rw [List.getElem?_take_of_lt (by omega), List.getElem?_drop] at h1
    simpa using h1
  refine ⟨cs.map zOf, List.ext_getElem? fun i => ?_, by rw [List.length_map, hl, kt], fun z hz => ?_⟩
  · by_cases hi : i < n
    · obtain ⟨z, h1, _⟩ := hc i hi
      rw [List.getElem?_map, List.getElem?_map, h1]
      rfl
    · rw [List.getElem?_eq_none (by omega), List.getElem?_eq_none (by rw [List.length_map, List.length_map]; omega)]
  · obtain ⟨v, hv, rfl⟩ := List.mem_map.1 hz
    obtain ⟨i, hi, rfl⟩ := List.getElem_of_mem hv
    obtain ⟨z, h1, h2⟩ := hc i (by omega)
    rw [List.getElem?_eq_getElem hi, Option.some.injEq] at h1
    rw [h1]
    exact h2
theorem agg_in {r : Reach} {base : Nat} {t : TypeId} {n : Nat} {e : TypeId} {v : Value} (ht : P.underlying t = some (.array n e)) (h : Value.okWide P W r base t v) : ∃ cs, v = .agg cs := by
  simp only [Value.okWide, ht] at h
  obtain ⟨cs, h1, _⟩ := h
  exact ⟨cs, h1⟩
end
theorem u32_in {z : Int} (h : (Lit.int .u32 z).wf = true) : 0 ≤ z ∧ z < 4294967296 := by
  have := bounds_u32 h
  omega
set_option maxRecDepth 100000 in
theorem open_three {H : Type} {enc : TypeId × Value → H} {W : World} {spare : Nat → Bool} {held : Bool} {r : Reach} {base : Nat} {v : Value} {d : DataW H} {p : List MemPlace} (hv : Value.okWide Tryd.prog W r base 23 v) (h : DataW.Trod enc Tryd.prog W 0 spare held 23 v d p) :
    ∃ a b c : Nat, v = .agg (triA a b c).toArray ∧ a < 4294967296 ∧ b < 4294967296 ∧ c < 4294967296 := by
  obtain ⟨cs, rfl⟩ := agg_in Tryd.underlying23 hv
  obtain ⟨fuel, hf⟩ := h
  obtain ⟨zs, e, hl, hw⟩ := ints_in Tryd.underlying23 Tryd.underlying22 (show Tryd.prog.cellsOf 22 = 1 by kernel_rfl) (show Tryd.prog.cellsOf 23 = 3 by kernel_rfl) hf
  obtain ⟨x, y, z, rfl⟩ : ∃ x y z, zs = [x, y, z] := by
    match zs, hl with
    | [x, y, z], _ => exact ⟨x, y, z, rfl⟩
  have hx := u32_in (hw x (by simp))
  have hy := u32_in (hw y (by simp))
  have hz := u32_in (hw z (by simp))
  refine ⟨x.toNat, y.toNat, z.toNat, ?_, by omega, by omega, by omega⟩
  congr 1
  rw [← Array.toList_inj]
  have e : cs.toList = [.int .u32 x, .int .u32 y, .int .u32 z] := e
  rw [e]
  show _ = [Value.int .u32 (x.toNat : Int), .int .u32 (y.toNat : Int), .int .u32 (z.toNat : Int)]
  rw [Int.toNat_of_nonneg hx.1, Int.toNat_of_nonneg hy.1, Int.toNat_of_nonneg hz.1]
end Go.Proofs.YtnimaenhijlcmaaDoor.LaidN
