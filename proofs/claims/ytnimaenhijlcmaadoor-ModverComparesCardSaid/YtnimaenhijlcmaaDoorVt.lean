/- The tables of the program's records. -/
import Derived.Test.YtnimaenhijlcmaaDoorVc
namespace Go.Proofs.YtnimaenhijlcmaaDoor.K
open Go.Proofs.YtnimaenhijlcmaaDoor.Q
set_option linter.unusedVariables false

def rt : Nat → Option (List Value)
  | 56 => some [.string ⟨#[]⟩, .string ⟨#[]⟩, .string ⟨#[]⟩, .slice none 0 0, .bool false]
  | _ => none
theorem recOk0 : RecOk Tryd.prog 56 [.string ⟨#[]⟩, .string ⟨#[]⟩, .string ⟨#[]⟩, .slice none 0 0, .bool false] := ⟨⟨_, Tryd.underlying56, rfl⟩, by kernel_rfl⟩
theorem recs : Recs Tryd.prog rt := by
  intro t zs h
  unfold rt at h
  split at h
  · cases h; exact recOk0
  · cases h
def fo : Nat → Nat → Option Nat
  | 56, 0 => some 0
  | 56, 1 => some 3
  | 56, 2 => some 4
  | _, _ => none
theorem fld0 : fldB Tryd.prog 56 0 = some 0 := by kernel_rfl
theorem fld1 : fldB Tryd.prog 56 1 = some 3 := by kernel_rfl
theorem fld2 : fldB Tryd.prog 56 2 = some 4 := by kernel_rfl
theorem flds : Flds Tryd.prog fo := by
  intro t k o h
  unfold fo at h
  split at h
  · cases h; exact fld0
  · cases h; exact fld1
  · cases h; exact fld2
  · cases h
def tx : Nat → Option Ty
  | 36 => some (.slc 9 1)
  | 116 => some (.slc 3 1)
  | 26 => some (.int .i64)
  | t => ty t
theorem slcOk0 : TyOk Tryd.prog 36 (.slc 9 1) := by
  have h : (Tryd.prog.info? 9).map (·.size) = some 1 := by kernel_rfl
  obtain ⟨i0, hi, hz⟩ := Option.map_eq_some_iff.1 h
  exact ⟨Tryd.underlying36, i0, hi, hz⟩
theorem slcOk1 : TyOk Tryd.prog 116 (.slc 3 1) := by
  have h : (Tryd.prog.info? 3).map (·.size) = some 1 := by kernel_rfl
  obtain ⟨i0, hi, hz⟩ := Option.map_eq_some_iff.1 h
  exact ⟨Tryd.underlying116, i0, hi, hz⟩
theorem txs : Tys Tryd.prog tx := by
  intro t k h
  unfold tx at h
  split at h
  · cases h; exact slcOk0
  · cases h; exact slcOk1
  · cases h; exact Tryd.underlying26
  · exact tys t k h
theorem one0_0 : (Tryd.prog.info? 3).map (·.size) = some 1 := by kernel_rfl
theorem one0_1 : (Tryd.prog.info? 5).map (·.size) = some 1 := by kernel_rfl
theorem one0_2 : (Tryd.prog.info? 21).map (·.size) = some 1 := by kernel_rfl
theorem one0_3 : (Tryd.prog.info? 4).map (·.size) = some 1 := by kernel_rfl
theorem one0_4 : (Tryd.prog.info? 9).map (·.size) = some 1 := by kernel_rfl
theorem one0_5 : (Tryd.prog.info? 38).map (·.size) = some 1 := by kernel_rfl
theorem one1_0 : (Tryd.prog.info? 36).map (·.size) = some 1 := by kernel_rfl
theorem one1_1 : (Tryd.prog.info? 116).map (·.size) = some 1 := by kernel_rfl
theorem one1_2 : (Tryd.prog.info? 26).map (·.size) = some 1 := by kernel_rfl
theorem ones0 : Ones Tryd.prog ty := by
  intro t k h
  unfold ty at h
  split at h
  · exact one0_0
  · exact one0_1
  · exact one0_2
  · exact one0_3
  · exact one0_4
  · exact one0_5
  · cases h
theorem ones : Ones Tryd.prog tx := by
  intro t k h
  unfold tx at h
  split at h
  · exact one1_0
  · exact one1_1
  · exact one1_2
  · exact ones0 t k h
end Go.Proofs.YtnimaenhijlcmaaDoor.K
