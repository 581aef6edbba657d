/- The tables of the program's records. -/
import Derived.Test.YtnimaenhijlcmaaGreatDoorVc
namespace Go.Proofs.YtnimaenhijlcmaaGreatDoor.K
open Go.Proofs.YtnimaenhijlcmaaGreatDoor.Q
set_option linter.unusedVariables false

def rt : Nat → Option (List Value)
  | 91 => some [.string ⟨#[]⟩, .string ⟨#[]⟩, .string ⟨#[]⟩, .slice none 0 0, .bool false]
  | _ => none
theorem recOk0 : RecOk Tryz.prog 91 [.string ⟨#[]⟩, .string ⟨#[]⟩, .string ⟨#[]⟩, .slice none 0 0, .bool false] := ⟨⟨_, Tryz.underlying91, rfl⟩, by kernel_rfl⟩
theorem recs : Recs Tryz.prog rt := by
  intro t zs h
  unfold rt at h
  split at h
  · cases h; exact recOk0
  · cases h
def fo : Nat → Nat → Option Nat
  | 91, 0 => some 0
  | 91, 1 => some 3
  | 91, 2 => some 4
  | _, _ => none
theorem fld0 : fldB Tryz.prog 91 0 = some 0 := by kernel_rfl
theorem fld1 : fldB Tryz.prog 91 1 = some 3 := by kernel_rfl
theorem fld2 : fldB Tryz.prog 91 2 = some 4 := by kernel_rfl
theorem flds : Flds Tryz.prog fo := by
  intro t k o h
  unfold fo at h
  split at h
  · cases h; exact fld0
  · cases h; exact fld1
  · cases h; exact fld2
  · cases h
def tx : Nat → Option Ty
  | 25 => some (.slc 9 1)
  | 98 => some (.slc 3 1)
  | 35 => some (.int .i64)
  | t => ty t
theorem slcOk0 : TyOk Tryz.prog 25 (.slc 9 1) := by
  have h : (Tryz.prog.info? 9).map (·.size) = some 1 := by kernel_rfl
  obtain ⟨i0, hi, hz⟩ := Option.map_eq_some_iff.1 h
  exact ⟨Tryz.underlying25, i0, hi, hz⟩
theorem slcOk1 : TyOk Tryz.prog 98 (.slc 3 1) := by
  have h : (Tryz.prog.info? 3).map (·.size) = some 1 := by kernel_rfl
  obtain ⟨i0, hi, hz⟩ := Option.map_eq_some_iff.1 h
  exact ⟨Tryz.underlying98, i0, hi, hz⟩
theorem txs : Tys Tryz.prog tx := by
  intro t k h
  unfold tx at h
  split at h
  · cases h; exact slcOk0
  · cases h; exact slcOk1
  · cases h; exact Tryz.underlying35
  · exact tys t k h
theorem one0_0 : (Tryz.prog.info? 3).map (·.size) = some 1 := by kernel_rfl
theorem one0_1 : (Tryz.prog.info? 5).map (·.size) = some 1 := by kernel_rfl
theorem one0_2 : (Tryz.prog.info? 21).map (·.size) = some 1 := by kernel_rfl
theorem one0_3 : (Tryz.prog.info? 4).map (·.size) = some 1 := by kernel_rfl
theorem one0_4 : (Tryz.prog.info? 9).map (·.size) = some 1 := by kernel_rfl
theorem one0_5 : (Tryz.prog.info? 34).map (·.size) = some 1 := by kernel_rfl
theorem one1_0 : (Tryz.prog.info? 25).map (·.size) = some 1 := by kernel_rfl
theorem one1_1 : (Tryz.prog.info? 98).map (·.size) = some 1 := by kernel_rfl
theorem one1_2 : (Tryz.prog.info? 35).map (·.size) = some 1 := by kernel_rfl
theorem ones0 : Ones Tryz.prog ty := by
  intro t k h
  unfold ty at h
  split at h
  · exact one0_0
  · exact one0_1
  · exact one0_2
  · exact one0_3
  · exact one0_4
  · exact one0_5
  · cases h
theorem ones : Ones Tryz.prog tx := by
  intro t k h
  unfold tx at h
  split at h
  · exact one1_0
  · exact one1_1
  · exact one1_2
  · exact ones0 t k h
end Go.Proofs.YtnimaenhijlcmaaGreatDoor.K
