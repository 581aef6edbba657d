/- TextOnce: what a reading call takes the writing call gives back. -/
import Derived.Test.YtljinjgamgmocaaDoorPUnq
import Derived.Test.YtljinjgamgmocaaDoorPB64B
import Derived.Test.YtljinjgamgmocaaDoorPNum
namespace Go.Proofs.YtljinjgamgmocaaDoor.Pure
open Go.RowKit Go.Proofs.YtljinjgamgmocaaDoor.G Go.Proofs.YtljinjgamgmocaaDoorW.PrintWords Go.Proofs.YtljinjgamgmocaaDoorW.PrintLast Go.Proofs.YtljinjgamgmocaaDoorW.PrintMore
set_option linter.unusedSimpArgs false
set_option linter.unusedVariables false

theorem once_64 (s : ByteArray) (k : Nat) (hk : 50331648 ≤ k) (r : List Int × Int) (h : text_DecodeBase64.f k s = some r) (h0 : r.2 = 0) : text_EncodeBase64.f k r.1 = some s := by
  by_cases hs : s.size ≤ 1048576
  · obtain ⟨q, h1, h2⟩ := dec64_f s k (by omega)
    rw [h] at h1
    obtain rfl := Option.some.inj h1
    rcases h2 with ⟨g, rfl⟩ | ⟨g, ⟨l, hb, he, rfl⟩ | ⟨_, rfl⟩⟩
    · omega
    · have hl := enc64_length l
      rw [he, bytesOf_length] at hl
      rw [enc64_f hb (by omega) k (by omega), he, str_bytesOf]
    · simp at h0
  · have c1 : (s.size : Int) > 1048576 := by omega
    unfold text_DecodeBase64.f at h
    rw [if_pos c1] at h
    obtain rfl := Option.some.inj h
    simp at h0
theorem once_hex (s : ByteArray) (k : Nat) (hk : 50331648 ≤ k) (r : List Int × Int) (h : text_DecodeHex.f k s = some r) (h0 : r.2 = 0) : text_EncodeHex.f k r.1 = some s := by
  rw [(decHex s k (by omega)).1] at h
  obtain rfl := Option.some.inj h
  have hl := bytesOf_length s
  unfold hexTold at h0 ⊢
  by_cases hs : s.size > 1048576
  · rw [if_pos hs] at h0; simp at h0
  · rw [if_neg hs] at h0 ⊢
    cases hu : unhex (bytesOf s) with
    | none => rw [hu] at h0; simp at h0
    | some l =>
      obtain ⟨e1, e2⟩ := hex_unhex _ _ hu
      have := hexOf_length l
      rw [e1, hl] at this
      simp only
      rw [encHex e2 (by omega) k (by omega), e1, str_bytesOf]
theorem once_quo (s : ByteArray) (k : Nat) (hk : 50331648 ≤ k) (r : List Int × Int) (h : text_Unquote.f k s = some r) (h0 : r.2 = 0) : text_Quote.f k r.1 = some s := by
  obtain ⟨q, h1, h2⟩ := unq_f s k (by omega)
  rw [h] at h1
  obtain rfl := Option.some.inj h1
  rcases h2 with ⟨g, rfl⟩ | ⟨g, ⟨l, hb, he, rfl⟩ | ⟨_, rfl⟩⟩
  · simp at h0
  · have hl := (qOf_length l).1
    have hz := congrArg List.length he
    simp only [quoteOf, List.length_cons, List.length_append, List.length_nil, bytesOf_length] at hz
    rw [quote_f hb (by omega) k (by omega), he, str_bytesOf]
  · simp at h0
theorem bne_self (s : ByteArray) : (s.toList != s.toList) = false := by simp
theorem once_tail (s : ByteArray) (k : Nat) (hk : 50331648 ≤ k) : ledgerlaw06_TextOnce.j0 (k + 4) s false = some true := by
  have hj3 : ledgerlaw06_TextOnce.j3 (k + 1) s false = some true := by
    rw [ledgerlaw06_TextOnce.j3, if_neg (by simp)]
    unfold text_ParseNumber.f
    simp only [Option.bind_some]
    by_cases h0 : (parseNum s 9223372036854775807).2 = 0
    · rw [if_pos h0, format_parse s 9223372036854775807 (parseNum s 9223372036854775807).1 (by rw [← h0])]
      simp
    · rw [if_neg h0]
  have hj2 : ledgerlaw06_TextOnce.j2 (k + 2) s false = some true := by
    rw [ledgerlaw06_TextOnce.j2, if_neg (by simp)]
    obtain ⟨r, h1, _⟩ := unq_f s (k + 1) (by omega)
    rw [h1]
    simp only [Option.bind_some]
    by_cases h0 : r.2 = 0
    · rw [if_pos h0, once_quo s (k + 1) (by omega) r h1 h0]
      simp only [Option.bind_some, bne_self]
      exact hj3
    · rw [if_neg h0]
      exact hj3
  have hj1 : ledgerlaw06_TextOnce.j1 (k + 3) s false = some true := by
    rw [ledgerlaw06_TextOnce.j1, if_neg (by simp)]
    have h1 := (decHex s (k + 2) (by omega)).1
    rw [h1]
    simp only [Option.bind_some]
    by_cases h0 : (hexTold s).2 = 0
    · rw [if_pos h0, once_hex s (k + 2) (by omega) _ h1 h0]
      simp only [Option.bind_some, bne_self]
      exact hj2
    · rw [if_neg h0]
      exact hj2
  rw [ledgerlaw06_TextOnce.j0, if_neg (by simp)]
  obtain ⟨r, h1⟩ : ∃ r, text_DecodeBase64.f (k + 3) s = some r := by
    by_cases hs : s.size ≤ 1048576
    · obtain ⟨r, h1, _⟩ := dec64_f s (k + 3) (by omega)
      exact ⟨r, h1⟩
    · have c1 : (s.size : Int) > 1048576 := by omega
      unfold text_DecodeBase64.f
      rw [if_pos c1]
      exact ⟨_, rfl⟩
  rw [h1]
  simp only [Option.bind_some]
  by_cases h0 : r.2 = 0
  · rw [if_pos h0, once_64 s (k + 3) (by omega) r h1 h0]
    simp only [Option.bind_some, bne_self]
    exact hj1
  · rw [if_neg h0]
    exact hj1
theorem bytes_255 : Bytes [255] := Bytes.mk (by omega) (by omega) Bytes.nil
theorem head_64 (k : Nat) (hk : 50331648 ≤ k) : text_DecodeBase64.f k (⟨#[47, 119, 61, 61]⟩ : ByteArray) = some ([255], 0) := by
  have hz : (⟨#[47, 119, 61, 61]⟩ : ByteArray).size = 4 := rfl
  obtain ⟨q, h1, h2⟩ := dec64_f (⟨#[47, 119, 61, 61]⟩ : ByteArray) k (by rw [hz]; omega)
  rw [h1, b64Is_unique h2 (.inr ⟨by rw [hz]; omega, .inl ⟨[255], bytes_255, by decide +kernel, rfl⟩⟩)]
theorem head_hex (k : Nat) (hk : 50331648 ≤ k) : text_DecodeHex.f k (⟨#[102, 102]⟩ : ByteArray) = some ([255], 0) := by
  rw [(decHex _ k (by omega)).1]
  congr 1
theorem head_quo (k : Nat) (hk : 50331648 ≤ k) : text_Unquote.f k (⟨#[34, 92, 120, 102, 102, 34]⟩ : ByteArray) = some ([255], 0) := by
  have hz : (⟨#[34, 92, 120, 102, 102, 34]⟩ : ByteArray).size = 6 := rfl
  obtain ⟨q, h1, h2⟩ := unq_f (⟨#[34, 92, 120, 102, 102, 34]⟩ : ByteArray) k (by omega)
  rw [h1, quoIs_unique h2 (.inr ⟨by rw [hz]; omega, .inl ⟨[255], bytes_255, by decide +kernel, rfl⟩⟩)]
theorem head_num : text_ParseNumber.f (⟨#[50, 53, 53]⟩ : ByteArray) 255 = some (255, 0) := by
  unfold text_ParseNumber.f
  have h := parse_format 255 255 (by omega) (by omega)
  have e : Lib.itoa 255 = [50, 53, 53] := by
    unfold Lib.itoa
    rw [if_neg (by omega), show (255 : Int).toNat = 255 from rfl, decDigits_big (by omega), decDigits_big (by omega), decDigits_small (by omega)]
    rfl
  rw [e] at h
  rw [show (⟨#[50, 53, 53]⟩ : ByteArray) = ⟨([50, 53, 53] : List UInt8).toArray⟩ from rfl, h]
  rfl
theorem textOnce_at (s : ByteArray) (k : Nat) (hk : 50331648 ≤ k) : ledgerlaw06_TextOnce.f (k + 4) s = some true := by
  unfold ledgerlaw06_TextOnce.f
  rw [head_64 _ (by omega), head_hex _ (by omega), head_quo _ (by omega), head_num]
  simp only [Option.bind_some, List.length_cons, List.length_nil, rd_zero]
  repeat rw [if_pos (by first | trivial | omega | decide)]
  rw [show ((255 : Int) != 255) = false from by decide]
  exact once_tail s k hk
theorem textOnce_some (s : ByteArray) : ∃ k, ledgerlaw06_TextOnce.f k s = some true := ⟨_, textOnce_at s _ (Nat.le_refl _)⟩
end Go.Proofs.YtljinjgamgmocaaDoor.Pure
