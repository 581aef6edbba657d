/- Plain texts: the document's letter and the decoder's; TextPlain. -/
import Derived.Test.YtljinjgamgmocaaDoorPBase
import Derived.Test.YtljinjgamgmocaaDoorExtU
import Derived.Test.YtljinjgamgmocaaDoorGxD1
namespace Go.Proofs.YtljinjgamgmocaaDoor.Pure
open Go.RowKit Go.Proofs.YtljinjgamgmocaaDoor.G Go.Proofs.YtljinjgamgmocaaDoorW.PrintWords Go.Proofs.YtljinjgamgmocaaDoorW.PrintLast Go.Proofs.YtljinjgamgmocaaDoorW.PrintMore
set_option linter.unusedSimpArgs false
set_option linter.unusedVariables false

def by' (t : ByteArray) (i : Nat) : Nat := (t.get! i).toNat
theorem by_lt (t : ByteArray) (i : Nat) : by' t i < 256 := UInt8.toNat_lt _
theorem bt_by (t : ByteArray) (i : Nat) (h : i < t.size) : bt t (i : Int) = (by' t i : Int) := by
  rw [← rd_bytesOf]
  unfold rd bytesOf by'
  have hl : i < t.data.toList.length := by rw [Array.length_toList]; exact h
  rw [Int.toNat_natCast, List.getD_eq_getElem?_getD, List.getElem?_map, List.getElem?_eq_getElem hl]
  simp only [Option.map_some, Option.getD_some, Array.getElem_toList]
  congr 2
  show t.data[i] = t.get! i
  simp [ByteArray.get!, getElem!_pos, h]
def decF (t : ByteArray) : Nat × Nat :=
  if by' t 0 < 128 then (by' t 0, 1)
  else if by' t 0 / 32 = 6 ∧ 1 < t.size ∧ by' t 1 / 64 = 2 then
    (if by' t 0 % 32 * 64 + by' t 1 % 64 ≥ 128 then (by' t 0 % 32 * 64 + by' t 1 % 64, 2) else (65533, 1))
  else if by' t 0 / 16 = 14 ∧ (1 < t.size ∧ by' t 1 / 64 = 2) ∧ 2 < t.size ∧ by' t 2 / 64 = 2 then
    (if by' t 0 % 16 * 4096 + by' t 1 % 64 * 64 + by' t 2 % 64 ≥ 2048 ∧ (by' t 0 % 16 * 4096 + by' t 1 % 64 * 64 + by' t 2 % 64 < 55296 ∨ 57344 ≤ by' t 0 % 16 * 4096 + by' t 1 % 64 * 64 + by' t 2 % 64) then (by' t 0 % 16 * 4096 + by' t 1 % 64 * 64 + by' t 2 % 64, 3) else (65533, 1))
  else if by' t 0 / 8 = 30 ∧ (1 < t.size ∧ by' t 1 / 64 = 2) ∧ (2 < t.size ∧ by' t 2 / 64 = 2) ∧ 3 < t.size ∧ by' t 3 / 64 = 2 then
    (if by' t 0 % 8 * 262144 + by' t 1 % 64 * 4096 + by' t 2 % 64 * 64 + by' t 3 % 64 ≥ 65536 ∧ by' t 0 % 8 * 262144 + by' t 1 % 64 * 4096 + by' t 2 % 64 * 64 + by' t 3 % 64 ≤ 1114111 then (by' t 0 % 8 * 262144 + by' t 1 % 64 * 4096 + by' t 2 % 64 * 64 + by' t 3 % 64, 4) else (65533, 1))
  else (65533, 1)
theorem valid_iff (c : Nat) : Utf8.valid (c : Int) = true ↔ c < 55296 ∨ (57344 ≤ c ∧ c ≤ 1114111) := by
  unfold Utf8.valid
  simp only [Bool.or_eq_true, Bool.and_eq_true, decide_eq_true_eq]
  omega
theorem decF_eq (t : ByteArray) : Utf8.decode t 0 = decF t := by
  have e : ∀ i, (t.get! i).toNat = by' t i := fun i => rfl
  have h0 := by_lt t 0
  have h1 := by_lt t 1
  have h2 := by_lt t 2
  have h3 := by_lt t 3
  unfold Utf8.decode decF
  simp only [e, Bool.and_eq_true, decide_eq_true_eq, beq_iff_eq, Nat.zero_add, valid_iff, Utf8.runeError, and_assoc]
  generalize by' t 0 = a at *
  generalize by' t 1 = b at *
  generalize by' t 2 = c at *
  generalize by' t 3 = d at *
  by_cases g0 : a < 128
  · rw [if_pos g0, if_pos g0]
  rw [if_neg g0, if_neg g0]
  by_cases g1 : a / 32 = 6 ∧ 1 < t.size ∧ b / 64 = 2
  · rw [if_pos g1, if_pos g1]
  rw [if_neg g1, if_neg g1]
  by_cases g2 : a / 16 = 14 ∧ 1 < t.size ∧ b / 64 = 2 ∧ 2 < t.size ∧ c / 64 = 2
  · rw [if_pos g2, if_pos g2]
    by_cases g : a % 16 * 4096 + b % 64 * 64 + c % 64 ≥ 2048 ∧ (a % 16 * 4096 + b % 64 * 64 + c % 64 < 55296 ∨ 57344 ≤ a % 16 * 4096 + b % 64 * 64 + c % 64)
    · rw [if_pos g, if_pos (by omega)]
    · rw [if_neg g, if_neg (by omega)]
  rw [if_neg g2, if_neg g2]
  by_cases g3 : a / 8 = 30 ∧ 1 < t.size ∧ b / 64 = 2 ∧ 2 < t.size ∧ c / 64 = 2 ∧ 3 < t.size ∧ d / 64 = 2
  · rw [if_pos g3, if_pos g3]
    by_cases g : a % 8 * 262144 + b % 64 * 4096 + c % 64 * 64 + d % 64 ≥ 65536 ∧ a % 8 * 262144 + b % 64 * 4096 + c % 64 * 64 + d % 64 ≤ 1114111
    · rw [if_pos g, if_pos (by omega)]
    · rw [if_neg g, if_neg (by omega)]
  rw [if_neg g3, if_neg g3]

theorem let_step (t : ByteArray) (x4 v x6 : Int) (i k : Nat) (h : (i : Int) ≤ x4) (hi : i < t.size) (h3 : i ≤ 3) (v0 : 0 ≤ v) (v1 : v ≤ 1000000) :
    ledgerref06_letter.l0 (k + 1) t x4 v x6 (i : Int) = if by' t i / 64 = 2 then ledgerref06_letter.l0 k t x4 (64 * v + ((by' t i % 64 : Nat) : Int)) x6 ((i + 1 : Nat) : Int) else some 0 := by
  have hb := by_lt t i
  have w1 := Aside0.mk (w64 (x := 64 * v) (by omega) (by omega))
  have w2 := Aside0.mk (show wrap64 (Int.tmod (by' t i : Int) 64) = ((by' t i % 64 : Nat) : Int) by rw [Int.tmod_eq_emod_of_nonneg (by omega), w64 (by omega) (by omega)]; omega)
  have w3 := Aside0.mk (w64 (x := 64 * v + ((by' t i % 64 : Nat) : Int)) (by omega) (by omega))
  have w4 := Aside0.mk (show wrap64 ((i : Int) + 1) = ((i + 1 : Nat) : Int) by rw [w64 (by omega) (by omega)]; omega)
  have w5 := Aside0.mk (show Int.tdiv (by' t i : Int) 64 % 256 = ((by' t i / 64 : Nat) : Int) by rw [Int.tdiv_eq_ediv_of_nonneg (by omega)]; omega)
  rw [ledgerref06_letter.l0, if_pos h, if_pos (by omega), if_pos (by omega), bt_by t i hi, w1.out, w2.out, w3.out, w4.out, w5.out]
  by_cases g : by' t i / 64 = 2
  · rw [if_pos (by omega), if_pos g]
  · rw [if_neg (by omega), if_neg g]
theorem let_end (t : ByteArray) (x4 v x6 i : Int) (k : Nat) (h : ¬ i ≤ x4) (h4 : 0 ≤ x4) (h5 : x4 ≤ 10) :
    ledgerref06_letter.l0 (k + 1) t x4 v x6 i = some (if v < x6 ∨ v > 1114111 ∨ (55296 ≤ v ∧ v ≤ 57343) then 0 else x4 + 1) := by
  have w1 := Aside0.mk (w64 (x := x4 + 1) (by omega) (by omega))
  rw [ledgerref06_letter.l0, if_neg h, w1.out]
  by_cases g1 : v < x6
  · rw [if_pos g1, if_pos (.inl g1)]
  rw [if_neg g1]
  by_cases g2 : v > 1114111
  · rw [if_pos g2, if_pos (.inr (.inl g2))]
  rw [if_neg g2]
  by_cases g3 : v ≥ 55296
  · rw [if_pos g3]
    by_cases g4 : v ≤ 57343
    · rw [if_pos g4, if_pos (.inr (.inr ⟨g3, g4⟩))]
    · rw [if_neg g4, if_neg (by omega)]
  · rw [if_neg g3, if_neg (by omega)]
def letW (p : Nat × Nat) : Int := if p.1 = 65533 ∧ p.2 = 1 then 0 else (p.2 : Int)
theorem letter_f (t : ByteArray) (h : 0 < t.size) (k : Nat) : ledgerref06_letter.f (k + 12) t = some (letW (Utf8.decode t 0)) := by
  have hb0 := by_lt t 0
  have hb1 := by_lt t 1
  have hb2 := by_lt t 2
  have hb3 := by_lt t 3
  have hw := Aside0.mk (show wrap64 (bt t 0) = (by' t 0 : Int) by rw [show (0 : Int) = ((0 : Nat) : Int) from rfl, bt_by t 0 h, w64 (by omega) (by omega)])
  rw [decF_eq]
  unfold ledgerref06_letter.f decF
  rw [if_pos (by omega), hw.out]
  by_cases g0 : by' t 0 < 128
  · rw [if_pos (by omega), if_pos g0]
    unfold letW
    rw [if_neg (by simp only; omega)]
    rfl
  rw [if_neg (by omega), if_neg g0]
  have bad : some (letW (65533, 1)) = some 0 := rfl
  have m32 : Int.tmod (by' t 0 : Int) 32 = ((by' t 0 % 32 : Nat) : Int) := by rw [Int.tmod_eq_emod_of_nonneg (by omega)]; omega
  have m16 : Int.tmod (by' t 0 : Int) 16 = ((by' t 0 % 16 : Nat) : Int) := by rw [Int.tmod_eq_emod_of_nonneg (by omega)]; omega
  have m8 : Int.tmod (by' t 0 : Int) 8 = ((by' t 0 % 8 : Nat) : Int) := by rw [Int.tmod_eq_emod_of_nonneg (by omega)]; omega
  by_cases g1 : by' t 0 < 192
  · rw [if_neg (by omega), ledgerref06_letter.j0, if_neg (by simp), if_neg (by omega), ledgerref06_letter.j1, if_neg (by simp), if_neg (by omega), if_neg (by omega), if_neg (by omega), if_neg (by omega)]
    rfl
  rw [if_pos (by omega)]
  by_cases g2 : by' t 0 < 224
  · rw [decide_eq_true (by omega : (by' t 0 : Int) < 224), ledgerref06_letter.j0, if_pos rfl, m32, ledgerref06_letter.j2]
    by_cases s1 : 1 < t.size
    · have st := let_step t 1 ((by' t 0 % 32 : Nat) : Int) 128 1 (k + 9) (by omega) s1 (by omega) (by omega) (by omega)
      rw [if_neg (by omega)]
      refine st.trans ?_
      by_cases c1 : by' t 1 / 64 = 2
      · rw [if_pos c1, if_pos ⟨by omega, s1, c1⟩, let_end _ _ _ _ _ _ (by omega) (by omega) (by omega)]
        by_cases v : by' t 0 % 32 * 64 + by' t 1 % 64 ≥ 128
        · rw [if_neg (by omega), if_pos v]
          unfold letW
          rw [if_neg (by simp only; omega)]
          rfl
        · rw [if_pos (by omega), if_neg v]; rfl
      · rw [if_neg c1, if_neg (fun e => c1 e.2.2), if_neg (by omega), if_neg (by omega)]; rfl
    · rw [if_pos (by omega), if_neg (fun e => s1 e.2.1), if_neg (by omega), if_neg (by omega)]; rfl
  rw [decide_eq_false (by omega : ¬ (by' t 0 : Int) < 224), ledgerref06_letter.j0, if_neg (by simp)]
  by_cases g3 : by' t 0 < 240
  · rw [if_pos (by omega), decide_eq_true (by omega : (by' t 0 : Int) < 240), ledgerref06_letter.j1, if_pos rfl, m16, ledgerref06_letter.j2]
    by_cases s2 : 2 < t.size
    · have st := let_step t 2 ((by' t 0 % 16 : Nat) : Int) 2048 1 (k + 8) (by omega) (by omega) (by omega) (by omega) (by omega)
      rw [if_neg (by omega)]
      refine st.trans ?_
      by_cases c1 : by' t 1 / 64 = 2
      · have st2 := let_step t 2 (64 * ((by' t 0 % 16 : Nat) : Int) + ((by' t 1 % 64 : Nat) : Int)) 2048 2 (k + 7) (by omega) s2 (by omega) (by omega) (by omega)
        rw [if_pos c1]
        refine st2.trans ?_
        by_cases c2 : by' t 2 / 64 = 2
        · rw [if_pos c2, if_neg (by omega), if_pos ⟨by omega, ⟨by omega, c1⟩, s2, c2⟩, let_end _ _ _ _ _ _ (by omega) (by omega) (by omega)]
          by_cases v : by' t 0 % 16 * 4096 + by' t 1 % 64 * 64 + by' t 2 % 64 ≥ 2048 ∧ (by' t 0 % 16 * 4096 + by' t 1 % 64 * 64 + by' t 2 % 64 < 55296 ∨ 57344 ≤ by' t 0 % 16 * 4096 + by' t 1 % 64 * 64 + by' t 2 % 64)
          · rw [if_neg (by omega), if_pos v]
            unfold letW
            rw [if_neg (by simp only; omega)]
            rfl
          · rw [if_pos (by omega), if_neg v]; rfl
        · rw [if_neg c2, if_neg (by omega), if_neg (fun e => c2 e.2.2.2), if_neg (by omega)]; rfl
      · rw [if_neg c1, if_neg (by omega), if_neg (fun e => c1 e.2.1.2), if_neg (by omega)]; rfl
    · rw [if_pos (by omega), if_neg (by omega), if_neg (fun e => s2 e.2.2.1), if_neg (by omega)]; rfl
  rw [if_pos (by omega), decide_eq_false (by omega : ¬ (by' t 0 : Int) < 240), ledgerref06_letter.j1, if_neg (by simp), if_pos (by omega)]
  by_cases g4 : by' t 0 < 248
  · rw [if_pos (by omega), m8, ledgerref06_letter.j2]
    by_cases s3 : 3 < t.size
    · have st := let_step t 3 ((by' t 0 % 8 : Nat) : Int) 65536 1 (k + 8) (by omega) (by omega) (by omega) (by omega) (by omega)
      rw [if_neg (by omega)]
      refine st.trans ?_
      by_cases c1 : by' t 1 / 64 = 2
      · have st2 := let_step t 3 (64 * ((by' t 0 % 8 : Nat) : Int) + ((by' t 1 % 64 : Nat) : Int)) 65536 2 (k + 7) (by omega) (by omega) (by omega) (by omega) (by omega)
        rw [if_pos c1]
        refine st2.trans ?_
        by_cases c2 : by' t 2 / 64 = 2
        · have st3 := let_step t 3 (64 * (64 * ((by' t 0 % 8 : Nat) : Int) + ((by' t 1 % 64 : Nat) : Int)) + ((by' t 2 % 64 : Nat) : Int)) 65536 3 (k + 6) (by omega) s3 (by omega) (by omega) (by omega)
          rw [if_pos c2]
          refine st3.trans ?_
          by_cases c3 : by' t 3 / 64 = 2
          · rw [if_pos c3, if_neg (by omega), if_neg (by omega), if_pos ⟨by omega, ⟨by omega, c1⟩, ⟨by omega, c2⟩, s3, c3⟩, let_end _ _ _ _ _ _ (by omega) (by omega) (by omega)]
            by_cases v : by' t 0 % 8 * 262144 + by' t 1 % 64 * 4096 + by' t 2 % 64 * 64 + by' t 3 % 64 ≥ 65536 ∧ by' t 0 % 8 * 262144 + by' t 1 % 64 * 4096 + by' t 2 % 64 * 64 + by' t 3 % 64 ≤ 1114111
            · rw [if_neg (by omega), if_pos v]
              unfold letW
              rw [if_neg (by simp only; omega)]
              rfl
            · rw [if_pos (by omega), if_neg v]; rfl
          · rw [if_neg c3, if_neg (by omega), if_neg (by omega), if_neg (fun e => c3 e.2.2.2.2)]; rfl
        · rw [if_neg c2, if_neg (by omega), if_neg (by omega), if_neg (fun e => c2 e.2.2.1.2)]; rfl
      · rw [if_neg c1, if_neg (by omega), if_neg (by omega), if_neg (fun e => c1 e.2.1.2)]; rfl
    · rw [if_pos (by omega), if_neg (by omega), if_neg (by omega), if_neg (fun e => s3 e.2.2.2.1)]; rfl
  · rw [if_neg (by omega), if_neg (by omega), if_neg (by omega), if_neg (by omega)]; rfl

theorem width_le (s : ByteArray) (pos : Nat) : (Utf8.decode s pos).2 ≤ 4 := by
  have hd : Utf8.decode (s.extract pos s.size) 0 = Utf8.decode s pos := Lib.tail_decode s pos 0
  rw [← hd, decF_eq]
  unfold decF
  repeat' split
  all_goals simp
/-- The document's call is the program's. -/
theorem plain_loop (s : ByteArray) (hm : s.size ≤ 1048576) (n : Nat) : ∀ (pos k : Nat), s.size < pos + n → pos ≤ 1048580 → n + 20 ≤ k → ledgerref06_Plain.l0 k s (pos : Int) = some (plainGo s n pos) := by
  induction n with
  | zero =>
    intro pos k h1 h2 hk
    obtain ⟨k, rfl⟩ : ∃ m, k = m + 1 := ⟨k - 1, by omega⟩
    rw [ledgerref06_Plain.l0, if_neg (by omega)]
    rfl
  | succ n ih =>
    intro pos k h1 h2 hk
    obtain ⟨k, rfl⟩ : ∃ m, k = m + 1 := ⟨k - 1, by omega⟩
    obtain ⟨j, hj⟩ : ∃ j, k = j + 12 := ⟨k - 12, by omega⟩
    rw [ledgerref06_Plain.l0, plainGo]
    by_cases h : pos < s.size
    · have hx : (s.extract pos s.size).size = s.size - pos := by rw [ByteArray.size_extract]; omega
      have hl := letter_f (s.extract pos s.size) (by omega) j
      have hd : Utf8.decode (s.extract pos s.size) 0 = Utf8.decode s pos := Lib.tail_decode s pos 0
      rw [hd, ← hj] at hl
      have hb := bt_by s pos h
      have he : by' s pos = (s[pos]'h).toNat := by
        have := bt_at s (pos : Int) h
        rw [hb] at this
        exact (Int.ofNat.inj this).symm
      have hlow : by' s pos < 128 → Utf8.decode s pos = (by' s pos, 1) := by
        intro hh
        rw [decode_ascii s pos h (by omega), he]
      have hhigh : ¬ by' s pos < 128 → 128 ≤ (Utf8.decode s pos).1 := fun hh => (decode_high s pos h (by omega)).1
      have hwp := width_pos s pos h
      have hwl := width_le s pos
      rw [if_pos (by omega), if_pos (by omega), if_pos (by omega), Int.toNat_natCast, hl]
      simp only [Option.bind_some]
      rw [if_pos h, hb]
      clear hl hd hx hb he hj
      generalize Utf8.decode s pos = dn at hlow hhigh hwp hwl ⊢
      obtain ⟨d, m⟩ := dn
      simp only at hlow hhigh hwp hwl ⊢
      unfold letW
      simp only
      have hw := Aside0.mk (show wrap64 ((pos : Int) + (m : Int)) = ((pos + m : Nat) : Int) by rw [w64 (by omega) (by omega)]; omega)
      have ih' := ih (pos + m) k (by omega) (by omega) (by omega)
      by_cases gd : d = 65533 ∧ m = 1
      · rw [if_pos gd, if_pos rfl, if_pos (.inl gd)]
      rw [if_neg gd, if_neg (by omega), hw.out, ih']
      by_cases gb : by' s pos < 128
      · have e := hlow gb
        have e1 : d = by' s pos := congrArg Prod.fst e
        subst e1
        by_cases g1 : (by' s pos : Int) = 127
        · rw [if_pos g1, if_pos (.inr (.inr (by omega)))]
        rw [if_neg g1]
        by_cases g2 : (by' s pos : Int) < 32
        · rw [if_pos g2]
          by_cases g3 : (by' s pos : Int) = 10
          · rw [if_pos g3, if_neg (by omega)]
          · rw [if_neg g3, if_pos (.inr (.inl ⟨by omega, by omega⟩))]
        · rw [if_neg g2, if_neg (by omega)]
      · have e := hhigh gb
        rw [if_neg (by omega), if_neg (by omega), if_neg (by omega)]
    · rw [if_neg (by omega), if_neg h]
theorem refPlain_f (s : ByteArray) (k : Nat) (hk : 1048700 ≤ k) : ledgerref06_Plain.f k s = text_Plain.f s := by
  unfold ledgerref06_Plain.f text_Plain.f
  by_cases hm : (s.size : Int) > 1048576
  · rw [if_pos hm, if_pos hm]
  · rw [if_neg hm, if_neg hm]
    exact plain_loop s (by omega) (s.size + 1) 0 k (by omega) (by omega) (by omega)
theorem textPlain_some (s : ByteArray) : ∃ k, ledgerlaw06_TextPlain.f k s = some true := by
  refine ⟨1048700, ?_⟩
  have h2 : text_Plain.f (⟨#[97, 9]⟩ : ByteArray) = some 65 := by decide +kernel
  unfold ledgerlaw06_TextPlain.f
  rw [h2, refPlain_f s _ (Nat.le_refl _)]
  unfold text_Plain.f
  simp
end Go.Proofs.YtljinjgamgmocaaDoor.Pure
