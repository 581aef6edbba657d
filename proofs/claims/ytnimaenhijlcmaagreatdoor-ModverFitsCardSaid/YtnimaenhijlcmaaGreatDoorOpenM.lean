/- What comes in of arrays of numbers: opened. -/
import Derived.Test.YtnimaenhijlcmaaGreatDoorVx
import Derived.WalkKit
import Derived.ProofKit
import Derived.OpenShut
import Derived.ShutString
import Derived.ChangeSlices
import Derived.Deep.DeepHandedRow
namespace Go.Proofs.YtnimaenhijlcmaaGreatDoor.LaidM
open Go.ChangeShapes Go.WideShapes Go.ChangeAt Go.RowKit
open Go.Proofs.YtnimaenhijlcmaaGreatDoor.K Go.Proofs.YtnimaenhijlcmaaGreatDoor.Mb Go.Proofs.YtnimaenhijlcmaaGreatDoor.Q Go.Proofs.YtnimaenhijlcmaaGreatDoorW.PrintWords
set_option linter.unusedVariables false
set_option linter.unusedSimpArgs false

def zOf : Value → Int | .int _ z => z | _ => 0
section
variable {H : Type} {enc : TypeId × Value → H} {P : Program} {W : World} {spare : Nat → Bool} {held : Bool}
theorem ints_in {k : IntKind} {t e : TypeId} {n fuel : Nat} {cs : List Value} {x : DataW H × List MemPlace} (ht : P.underlying t = some (.array n e)) (he : P.underlying e = some (.int k)) (ke : P.cellsOf e = 1) (kt : P.cellsOf t = n)
    (h : DataW.trod enc P W 0 spare held fuel t cs = some x) : ∃ zs : List Int, cs = zs.map (Value.int k) ∧ zs.length = n ∧ ∀ z ∈ zs, (Lit.int k z).wf = true := by
  obtain ⟨xs, m, _, _, hl, hxl, hall⟩ := DataW.trod_array ht h
  have hc : ∀ i, i < n → ∃ z, cs[i]? = some (.int k z) ∧ (Lit.int k z).wf = true := by
    intro i hi
    have ha := hall i hi
    rw [List.getElem?_eq_getElem (by omega), ke, Nat.mul_one] at ha
    obtain ⟨z, hz, _, wz⟩ := DataW.trod_int he ha
    refine ⟨z, ?_, wz⟩
    have h1 := congrArg (fun l => l[0]?) hz
    rw [List.getElem?_take_of_lt (by omega), List.getElem?_drop] at h1
    simpa using h1
  refine ⟨cs.map zOf, List.ext_getElem? fun i => ?_, by rw [List.length_map, hl, kt], fun z hz => ?_⟩
  · by_cases hi : i < n
    · obtain ⟨z, h1, _⟩ := hc i hi
      rw [List.getElem?_map, List.getElem?_map, h1]
      rfl
    · rw [List.getElem?_eq_none (by omega), List.getElem?_eq_none (by rw [List.length_map, List.length_map]; omega)]
  · obtain ⟨v, hv, rfl⟩ := List.mem_map.1 hz
    obtain ⟨i, hi, rfl⟩ := List.getElem_of_mem hv
    obtain ⟨z, h1, h2⟩ := hc i (by omega)
    rw [List.getElem?_eq_getElem hi, Option.some.injEq] at h1
    rw [h1]
    exact h2
theorem agg_in {r : Reach} {base : Nat} {t : TypeId} {n : Nat} {e : TypeId} {v : Value} (ht : P.underlying t = some (.array n e)) (h : Value.okWide P W r base t v) : ∃ cs, v = .agg cs := by
  simp only [Value.okWide, ht] at h
  obtain ⟨cs, h1, _⟩ := h
  exact ⟨cs, h1⟩
end
set_option maxRecDepth 100000 in
theorem open_sums {H : Type} {enc : TypeId × Value → H} {W : World} {spare : Nat → Bool} {held : Bool} {r : Reach} {base : Nat} {v : Value} {d : DataW H} {p : List MemPlace} (hv : Value.okWide Tryz.prog W r base 23 v) (h : DataW.Trod enc Tryz.prog W 0 spare held 23 v d p) :
    ∃ A B : L, v = .agg (nums .u8 (A ++ B)).toArray ∧ Bytes A ∧ A.length = 32 ∧ Bytes B ∧ B.length = 32 := by
  obtain ⟨cs, rfl⟩ := agg_in Tryz.underlying23 hv
  obtain ⟨fuel, hf⟩ := h
  obtain ⟨xs, m, _, _, hl, hxl, hall⟩ := DataW.trod_array Tryz.underlying23 hf
  have k1 : Tryz.prog.cellsOf 22 = 32 := by kernel_rfl
  have k2 : Tryz.prog.cellsOf 23 = 64 := by kernel_rfl
  have k3 : Tryz.prog.cellsOf 5 = 1 := by kernel_rfl
  have h0 := hall 0 (by decide)
  have h1 := hall 1 (by decide)
  rw [List.getElem?_eq_getElem (by omega), k1] at h0 h1
  rw [k2] at hl
  obtain ⟨A, eA, lA, wA⟩ := ints_in Tryz.underlying22 Tryz.underlying5 k3 k1 h0
  obtain ⟨B, eB, lB, wB⟩ := ints_in Tryz.underlying22 Tryz.underlying5 k3 k1 h1
  have hc : (Value.cells (.agg cs)).toList = cs.toList := rfl
  rw [hc] at hl eA eB
  refine ⟨A, B, ?_, fun z hz => bounds_u8 (wA z hz), lA, fun z hz => bounds_u8 (wB z hz), lB⟩
  congr 1
  rw [← Array.toList_inj]
  show cs.toList = nums .u8 (A ++ B)
  unfold nums
  rw [List.map_append, show A.map (fun x => Value.int .u8 x) = _ from eA.symm, show B.map (fun x => Value.int .u8 x) = _ from eB.symm]
  simp only [Nat.zero_mul, List.drop_zero, Nat.one_mul]
  rw [List.take_of_length_le (l := cs.toList.drop 32) (by rw [List.length_drop]; omega), List.take_append_drop]
end Go.Proofs.YtnimaenhijlcmaaGreatDoor.LaidM
