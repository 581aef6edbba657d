/- TextCuts: what the law computes is true. -/
import Derived.Test.YtljinjgamgmocaaGxD1
import Derived.Laws.BytesArg
import Derived.Lib.Strings
import Derived.Lib.LastIndexLaws
namespace Go.Proofs.Ytljinjgamgmocaa.Pure
open Go.RowKit Go.Proofs.Ytljinjgamgmocaa.G Go.Proofs.YtljinjgamgmocaaW.PrintWords Go.Proofs.YtljinjgamgmocaaW.PrintLast Go.Proofs.YtljinjgamgmocaaW.PrintMore
set_option linter.unusedSimpArgs false
set_option linter.unusedVariables false

theorem w64 {x : Int} (h0 : -9223372036854775808 ≤ x) (h1 : x ≤ 9223372036854775807) : wrap64 x = x := by unfold wrap64; omega
/-- The byte at a place. -/
def ch (l : List UInt8) (i : Nat) : Nat := (l.getD i 0).toNat
theorem bt_ch (s : ByteArray) (i : Nat) (h : i < s.size) : bt s (i : Int) = (ch s.data.toList i : Int) := by
  rw [← rd_bytesOf]
  unfold rd bytesOf ch
  have hl : i < s.data.toList.length := by rw [Array.length_toList]; exact h
  rw [Int.toNat_natCast, List.getD_eq_getElem?_getD, List.getD_eq_getElem?_getD, List.getElem?_map, List.getElem?_eq_getElem hl]
  rfl
theorem len_data (s : ByteArray) : s.data.toList.length = s.size := by rw [Array.length_toList]; rfl
/-- Two ends at a place. -/
def two (l : List UInt8) (i : Nat) : Prop := i + 1 < l.length ∧ ch l i = 10 ∧ ch l (i + 1) = 10
theorem blank_loop (s : ByteArray) (hm : s.size ≤ 4611686018427387904) (n : Nat) : ∀ (i k : Nat), s.size ≤ i + n → i ≤ s.size + 1 → n + 1 ≤ k →
    ∃ b, ledgerlaw06_blank.l0 k s (i : Int) = some b ∧ (b = true ↔ ∃ j, i ≤ j ∧ two s.data.toList j) := by
  induction n with
  | zero =>
    intro i k h1 h2 hk
    obtain ⟨k, rfl⟩ : ∃ m, k = m + 1 := ⟨k - 1, by omega⟩
    have hw := w64 (x := (i : Int) + 1) (by omega) (by omega)
    refine ⟨false, ?_, ⟨fun h => (by cases h), fun ⟨j, hj, h3, _⟩ => ?_⟩⟩
    · rw [ledgerlaw06_blank.l0, hw, if_neg (by omega)]
    · rw [len_data] at h3; omega
  | succ n ih =>
    intro i k h1 h2 hk
    obtain ⟨k, rfl⟩ : ∃ m, k = m + 1 := ⟨k - 1, by omega⟩
    have hw := w64 (x := (i : Int) + 1) (by omega) (by omega)
    by_cases h : i + 1 < s.size
    · obtain ⟨b, hb, hi⟩ := ih (i + 1) k (by omega) (by omega) (by omega)
      have hb0 := bt_ch s i (by omega)
      have hb1 := bt_ch s (i + 1) h
      have e1 : ((i + 1 : Nat) : Int) = (i : Int) + 1 := by omega
      rw [e1] at hb hb1
      rw [ledgerlaw06_blank.l0, hw, if_pos (by omega), if_pos (by omega), if_pos (by omega), hb0]
      have next : ¬ two s.data.toList i → (∃ j, i + 1 ≤ j ∧ two s.data.toList j) = (∃ j, i ≤ j ∧ two s.data.toList j) := by
        intro hn
        refine propext ⟨fun ⟨j, hj, ht⟩ => ⟨j, by omega, ht⟩, fun ⟨j, hj, ht⟩ => ⟨j, ?_, ht⟩⟩
        rcases Nat.lt_or_ge i j with h' | h'
        · exact h'
        · obtain rfl : j = i := by omega
          exact absurd ht hn
      by_cases g1 : (ch s.data.toList i : Int) = 10
      · rw [if_pos g1, if_pos (by omega), hb1]
        by_cases g2 : (ch s.data.toList (i + 1) : Int) = 10
        · rw [if_pos g2]
          exact ⟨true, rfl, ⟨fun _ => ⟨i, Nat.le_refl _, by rw [len_data]; exact h, by omega, by omega⟩, fun _ => rfl⟩⟩
        · rw [if_neg g2]
          exact ⟨b, hb, by rw [hi, next (fun ht => g2 (by have := ht.2.2; omega))]⟩
      · rw [if_neg g1]
        exact ⟨b, hb, by rw [hi, next (fun ht => g1 (by have := ht.2.1; omega))]⟩
    · refine ⟨false, ?_, ⟨fun h => (by cases h), fun ⟨j, hj, h3, _⟩ => ?_⟩⟩
      · rw [ledgerlaw06_blank.l0, hw, if_neg (by omega)]
      · rw [len_data] at h3; omega
theorem blank_f (s : ByteArray) (hm : s.size ≤ 4611686018427387904) (k : Nat) (hk : s.size + 1 ≤ k) : ∃ b, ledgerlaw06_blank.f k s = some b ∧ (b = true ↔ ∃ j, two s.data.toList j) := by
  obtain ⟨b, h1, h2⟩ := blank_loop s hm s.size 0 k (by omega) (by omega) hk
  exact ⟨b, h1, by rw [h2]; exact ⟨fun ⟨j, _, h⟩ => ⟨j, h⟩, fun ⟨j, h⟩ => ⟨j, Nat.zero_le _, h⟩⟩⟩
theorem occ_two (l : List UInt8) (i : Nat) : Lib.occAt l [10, 10] i = true ↔ two l i := by
  unfold Lib.occAt two ch
  rw [List.isPrefixOf_iff_prefix]
  constructor
  · rintro ⟨t, ht⟩
    have hl := congrArg List.length ht
    simp only [List.length_append, List.length_cons, List.length_nil, List.length_drop] at hl
    have h0 : l[i]? = some 10 := by
      have := congrArg (·[0]?) ht
      simp only [List.getElem?_drop] at this
      simpa using this.symm
    have h1 : l[i + 1]? = some 10 := by
      have := congrArg (·[1]?) ht
      simp only [List.getElem?_drop] at this
      simpa using this.symm
    refine ⟨by omega, ?_, ?_⟩
    · rw [List.getD_eq_getElem?_getD, h0]; rfl
    · rw [List.getD_eq_getElem?_getD, h1]; rfl
  · rintro ⟨h, h0, h1⟩
    rw [List.getD_eq_getElem?_getD, List.getElem?_eq_getElem (by omega)] at h0 h1
    have e0 : l[i] = 10 := UInt8.toNat_inj.1 h0
    have e1 : l[i + 1] = 10 := UInt8.toNat_inj.1 h1
    refine ⟨l.drop (i + 2), ?_⟩
    rw [List.drop_eq_getElem_cons (show i < l.length by omega), List.drop_eq_getElem_cons h, e0, e1]
    rfl
theorem data_app (a b : ByteArray) : (a ++ b).data.toList = a.data.toList ++ b.data.toList := by simp [ByteArray.data_append]
theorem data_ext (a : ByteArray) (i j : Nat) : (a.extract i j).data.toList = (a.data.toList.drop i).take (j - i) := by simp [ByteArray.data_extract]
theorem size_data (s : ByteArray) : s.size = s.data.toList.length := (len_data s).symm
theorem textCuts_some (s : ByteArray) (hm : s.size ≤ 140737488351232) : ∃ k, ledgerlaw06_TextCuts.f k s = some true := by
  obtain ⟨k, hk⟩ : ∃ k, s.size + 1000 ≤ k := ⟨_, Nat.le_refl _⟩
  refine ⟨k + 1, ?_⟩
  obtain ⟨b, hb, hbi⟩ := blank_f s (by omega) (k + 1) (by omega)
  unfold ledgerlaw06_TextCuts.f text_Cut.f
  by_cases hs : (s.size : Int) > 1048576
  · rw [if_pos hs]
    simp only [Option.bind_some]
    rw [if_pos hs, ledgerlaw06_TextCuts.j0, if_pos rfl, if_neg (by simp), if_pos (by decide +kernel)]
    decide +kernel
  rw [if_neg hs]
  unfold strings_LastIndex.f
  rw [if_pos (by omega)]
  simp only [Option.bind_some]
  rw [hb]
  simp only [Option.bind_some]
  have hlen := len_data s
  have hspec : (Lib.lastIndex s.data.toList [10, 10] = -1 ∧ ∀ j, ¬ two s.data.toList j) ∨ ∃ i : Nat, Lib.lastIndex s.data.toList [10, 10] = i ∧ two s.data.toList i ∧ ∀ j, i < j → ¬ two s.data.toList j := by
    unfold Lib.lastIndex
    simp only [List.length_cons, List.length_nil]
    by_cases h2 : 0 + 1 + 1 ≤ s.data.toList.length
    · rw [if_pos h2]
      rcases Lib.lastOcc_spec s.data.toList [10, 10] (s.data.toList.length - (0 + 1 + 1) + 1) with ⟨h3, h4⟩ | ⟨i, h3, h4, h5, h6⟩
      · refine .inl ⟨h3, fun j hj => ?_⟩
        have := h4 j (by have := hj.1; omega)
        rw [(occ_two _ _).2 hj] at this
        cases this
      · refine .inr ⟨i, h4, (occ_two _ _).1 h5, fun j hij hj => ?_⟩
        have := h6 j hij (by have := hj.1; omega)
        rw [(occ_two _ _).2 hj] at this
        cases this
    · rw [if_neg h2]
      exact .inl ⟨rfl, fun j hj => by have := hj.1; omega⟩
  rcases hspec with ⟨h1, h2⟩ | ⟨i, h1, h2, h3⟩
  · have hbf : b = false := by
      cases hb' : b with
      | false => rfl
      | true => obtain ⟨j, hj⟩ := hbi.1 hb'; exact absurd hj (h2 j)
    rw [h1, if_pos (by omega)]
    simp only [Option.bind_some]
    rw [if_neg hs, hbf, ledgerlaw06_TextCuts.j0, if_pos (by simp), if_neg (by simp), if_pos (by decide +kernel)]
    decide +kernel
  · have hbt : b = true := hbi.2 ⟨i, h2⟩
    obtain ⟨t1, t2, t3⟩ := h2
    rw [hlen] at t1
    have w1 := w64 (x := (i : Int) + 1) (by omega) (by omega)
    have w2 := w64 (x := (i : Int) + 2) (by omega) (by omega)
    rw [h1, if_neg (by omega), w1, if_pos (by omega), if_pos (by omega), w2, if_pos (by omega), if_pos (by omega)]
    simp only [Option.bind_some]
    rw [if_neg hs, hbt, show ((i : Int) + 1).toNat = i + 1 from by omega, show ((i : Int) + 2).toNat = i + 2 from by omega]
    have z1 : (s.extract 0 (i + 1)).size = i + 1 := by rw [ByteArray.size_extract]; omega
    have z2 : (s.extract (i + 2) s.size).size = s.size - (i + 2) := by rw [ByteArray.size_extract]; omega
    have d1 : (s.extract 0 (i + 1)).data.toList = s.data.toList.take (i + 1) := by rw [data_ext]; simp
    have d2 : (s.extract (i + 2) s.size).data.toList = s.data.toList.drop (i + 2) := by rw [data_ext, ← hlen]; exact List.take_of_length_le (by rw [List.length_drop]; omega)
    have w3 := w64 (x := ((i + 1 : Nat) : Int) - 1) (by omega) (by omega)
    have g1 : s.data.toList[i + 1]'(by omega) = 10 := by
      unfold ch at t3
      rw [List.getD_eq_getElem?_getD, List.getElem?_eq_getElem (by omega)] at t3
      exact UInt8.toNat_inj.1 t3
    have hjoin : ((s.extract 0 (i + 1) ++ (⟨#[10]⟩ : ByteArray)) ++ s.extract (i + 2) s.size).toList = s.toList := by
      rw [Lib.toList_data, Lib.toList_data, data_app, data_app, d1, d2]
      show s.data.toList.take (i + 1) ++ [10] ++ s.data.toList.drop (i + 2) = _
      conv => rhs; rw [← List.take_append_drop (i + 1) s.data.toList]
      rw [List.drop_eq_getElem_cons (show i + 1 < s.data.toList.length by omega), g1]
      simp
    have hlast : bt (s.extract 0 (i + 1)) (((i + 1 : Nat) : Int) - 1) = 10 := by
      have := bt_ch (s.extract 0 (i + 1)) i (by omega)
      rw [show ((i + 1 : Nat) : Int) - 1 = (i : Int) from by omega, this, d1]
      unfold ch at t2 ⊢
      rw [List.getD_eq_getElem?_getD, List.getElem?_take_of_lt (by omega), ← List.getD_eq_getElem?_getD, t2]
      rfl
    have hne : ¬ (s.extract 0 (i + 1)).toList = ([] : List UInt8) := by
      rw [Lib.toList_data]
      intro e
      have := len_data (s.extract 0 (i + 1))
      rw [e, z1] at this
      simp at this
    have hrest : ∃ c, ledgerlaw06_blank.f k ((⟨#[10]⟩ : ByteArray) ++ s.extract (i + 2) s.size) = some c ∧ c = false := by
      have hz : ((⟨#[10]⟩ : ByteArray) ++ s.extract (i + 2) s.size).size = 1 + (s.size - (i + 2)) := by rw [ByteArray.size_append, z2]; rfl
      obtain ⟨c, hc, hci⟩ := blank_f ((⟨#[10]⟩ : ByteArray) ++ s.extract (i + 2) s.size) (by omega) k (by omega)
      refine ⟨c, hc, ?_⟩
      cases hc' : c with
      | false => rfl
      | true =>
        obtain ⟨j, hj⟩ := hci.1 hc'
        rw [data_app, d2] at hj
        have he : (⟨#[10]⟩ : ByteArray).data.toList ++ s.data.toList.drop (i + 2) = s.data.toList.drop (i + 1) := by
          rw [List.drop_eq_getElem_cons (show i + 1 < s.data.toList.length by omega), g1]
          rfl
        rw [he] at hj
        obtain ⟨j1, j2, j3⟩ := hj
        rw [List.length_drop] at j1
        have hch : ∀ m, ch (s.data.toList.drop (i + 1)) m = ch s.data.toList (i + 1 + m) := by
          intro m
          unfold ch
          rw [List.getD_eq_getElem?_getD, List.getD_eq_getElem?_getD, List.getElem?_drop]
        rw [hch] at j2 j3
        exact absurd ⟨by omega, j2, by rw [show i + 1 + j + 1 = i + 1 + (j + 1) from by omega]; exact j3⟩ (h3 (i + 1 + j) (by omega))
    obtain ⟨c, hc, rfl⟩ := hrest
    rw [ledgerlaw06_TextCuts.j0, if_neg (by simp), if_pos rfl, if_neg hne, z1, w3, if_pos (by omega), if_pos (by omega), hlast, if_pos rfl, if_pos (by omega), if_pos (by rw [ByteArray.size_append, z1, z2]; show i + 1 + 1 + (s.size - (i + 2)) ≤ _; omega), if_pos hjoin, z2, if_pos (by omega), hc]
    rfl
end Go.Proofs.Ytljinjgamgmocaa.Pure
