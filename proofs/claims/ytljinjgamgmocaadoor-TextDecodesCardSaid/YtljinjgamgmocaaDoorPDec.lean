/- TextDecodes: what the law computes is true. -/
import Derived.Test.YtljinjgamgmocaaDoorPUnq
import Derived.Test.YtljinjgamgmocaaDoorPB64C
namespace Go.Proofs.YtljinjgamgmocaaDoor.Pure
open Go.RowKit Go.Proofs.YtljinjgamgmocaaDoor.G Go.Proofs.YtljinjgamgmocaaDoorW.PrintWords Go.Proofs.YtljinjgamgmocaaDoorW.PrintLast Go.Proofs.YtljinjgamgmocaaDoorW.PrintMore
set_option linter.unusedSimpArgs false
set_option linter.unusedVariables false

theorem decodes_64 (s : ByteArray) (l : List Int) (a b : Int) (k : Nat) (hk : 50331648 ≤ k) (hs : s.size ≤ 1048576) : ledgerlaw06_decodes.f k 2 s l a b = some true := by
  obtain ⟨r, h1, h2⟩ := dec64_f s k (by omega)
  obtain ⟨q, h3, h4⟩ := refDec_f s k (by omega)
  obtain rfl := b64Is_unique h2 h4
  unfold ledgerlaw06_decodes.f
  rw [if_pos rfl, h1, h3]
  simp [ledgerlaw06_sameBytes.f]
theorem decodes_64' (s : ByteArray) (l : List Int) (a b : Int) (k : Nat) (hs : ¬ s.size ≤ 1048576) : ledgerlaw06_decodes.f k 2 s l a b = some true := by
  have c1 : (s.size : Int) > 1048576 := by omega
  unfold ledgerlaw06_decodes.f text_DecodeBase64.f ledgerref06_DecodeBase64.f
  rw [if_pos rfl, if_pos c1, if_pos c1]
  simp [ledgerlaw06_sameBytes.f]
theorem decodes_hex (s : ByteArray) (l : List Int) (a b : Int) (k : Nat) (hk : 50331648 ≤ k) : ledgerlaw06_decodes.f k 4 s l a b = some true := by
  obtain ⟨h1, h2⟩ := decHex s k (by omega)
  unfold ledgerlaw06_decodes.f
  rw [if_neg (by decide), if_pos rfl, h1, h2]
  simp [ledgerlaw06_sameBytes.f]
theorem decodes_quo (s : ByteArray) (l : List Int) (a b : Int) (k : Nat) (hk : 50331648 ≤ k) : ledgerlaw06_decodes.f k 12 s l a b = some true := by
  obtain ⟨r, h1, h2⟩ := unq_f s k (by omega)
  obtain ⟨q, h3, h4⟩ := refUnq_f s k (by omega)
  obtain rfl := quoIs_unique h2 h4
  unfold ledgerlaw06_decodes.f
  rw [if_neg (by decide), if_neg (by decide), h1, h3]
  simp [ledgerlaw06_sameBytes.f]
theorem textDecodes_true (s : ByteArray) : ledgerlaw06_TextDecodes.f 50331648 s = some true := by
  have h2 : ledgerlaw06_decodes.f 50331648 2 s [] 0 0 = some true := by
    by_cases h : s.size ≤ 1048576
    · exact decodes_64 s [] 0 0 _ (Nat.le_refl _) h
    · exact decodes_64' s [] 0 0 _ h
  have h4 := decodes_hex s [] 0 0 50331648 (Nat.le_refl _)
  have h12 := decodes_quo s [] 0 0 50331648 (Nat.le_refl _)
  have he := encHex (l := [165]) (Bytes.mk (by omega) (by omega) Bytes.nil) (by simp) 50331648 (by simp)
  unfold ledgerlaw06_TextDecodes.f
  rw [h2]
  simp only [Option.bind_some]
  rw [if_pos trivial, h4]
  simp only [Option.bind_some]
  rw [if_pos trivial, h12]
  simp only [Option.bind_some]
  rw [if_pos trivial, he]
  simp only [Option.bind_some]
  congr 1
  rw [beq_iff_eq, show ([97, 53] : List UInt8) = (⟨#[97, 53]⟩ : ByteArray).toList from by decide +kernel, toList_iff]
  decide +kernel
theorem textDecodes_some (s : ByteArray) : ∃ k, ledgerlaw06_TextDecodes.f k s = some true := ⟨_, textDecodes_true s⟩
end Go.Proofs.YtljinjgamgmocaaDoor.Pure
