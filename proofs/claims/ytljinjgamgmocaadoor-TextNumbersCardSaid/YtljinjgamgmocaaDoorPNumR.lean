/- Numbers: what the document's calls compute; TextNumbers. -/
import Derived.Test.YtljinjgamgmocaaDoorPNum
namespace Go.Proofs.YtljinjgamgmocaaDoor.Pure
open Go.RowKit Go.Proofs.YtljinjgamgmocaaDoor.G Go.Proofs.YtljinjgamgmocaaDoorW.PrintWords Go.Proofs.YtljinjgamgmocaaDoorW.PrintLast Go.Proofs.YtljinjgamgmocaaDoorW.PrintMore
set_option linter.unusedSimpArgs false
set_option linter.unusedVariables false

def numsOf (l : List UInt8) : List Int := l.map fun b => (b.toNat : Int)
theorem bytesOf_list (l : List UInt8) : bytesOf ⟨l.toArray⟩ = numsOf l := by simp [bytesOf, numsOf]
theorem numsOf_bytes (l : List UInt8) : Bytes (numsOf l) := by rw [← bytesOf_list]; exact bytesOf_bytes _
theorem str_nums (l : List UInt8) : strOfNums (numsOf l) = ⟨l.toArray⟩ := by rw [← bytesOf_list, str_bytesOf]
/-- The digits, the last ahead. -/
def rdig (u : Nat) : List Int := (numsOf (Lib.decDigits u)).reverse
theorem rdig_small {u : Nat} (h : u < 10) : rdig u = [48 + (u : Int)] := by
  unfold rdig numsOf
  rw [decDigits_small h]
  simp only [List.map_cons, List.map_nil, List.reverse_cons, List.reverse_nil, List.nil_append]
  rw [u8_of u h]
  congr 1
theorem rdig_big {u : Nat} (h : ¬ u < 10) : rdig u = (48 + ((u % 10 : Nat) : Int)) :: rdig (u / 10) := by
  unfold rdig numsOf
  rw [decDigits_big h]
  simp only [List.map_append, List.map_cons, List.map_nil, List.reverse_append, List.reverse_cons, List.reverse_nil, List.nil_append, List.singleton_append]
  rw [u8_of _ (by omega)]
  congr 1
theorem rdig_length (u : Nat) : (rdig u).length = Lib.nDigits u := by simp [rdig, numsOf, Lib.decDigits_length]
theorem down_10 (u : Nat) (h : u ≤ 9223372036854775808) : wrap64 (Int.tdiv (-(u : Int)) 10) = -((u / 10 : Nat) : Int) := by
  rw [Int.neg_tdiv, Int.tdiv_eq_ediv_of_nonneg (by omega), w64 (by omega) (by omega)]
  omega
theorem digit_10 (u : Nat) : wrap64 (48 - Int.tmod (-(u : Int)) 10) % 256 = 48 + ((u % 10 : Nat) : Int) := by
  rw [Int.neg_tmod, Int.tmod_eq_emod_of_nonneg (by omega), w64 (by omega) (by omega)]
  omega
def fmtEnd (k : Nat) (x0 : Int) (l : List Int) : Option ByteArray := if x0 < 0 then ledgerref06_FormatNumber.j2 k l [45] else ledgerref06_FormatNumber.j2 k l []
theorem fmt_zero (k : Nat) (x0 : Int) (acc : List Int) (h : acc ≠ []) : ledgerref06_FormatNumber.l0 (k + 1) x0 0 acc = fmtEnd k x0 acc := by
  have hl : 0 < acc.length := List.length_pos_iff.2 h
  rw [ledgerref06_FormatNumber.l0, if_neg (by omega), if_pos rfl]
  unfold fmtEnd
  simp
theorem fmt_step (k : Nat) (x0 : Int) (acc : List Int) (u : Nat) (hu : u ≤ 9223372036854775808) (h : acc = [] ∨ 0 < u) (hl : acc.length ≤ 1000) :
    ledgerref06_FormatNumber.l0 (k + 1) x0 (-(u : Int)) acc = ledgerref06_FormatNumber.l0 k x0 (-((u / 10 : Nat) : Int)) (acc ++ [48 + ((u % 10 : Nat) : Int)]) := by
  have e1 := Aside0.mk (down_10 u hu)
  have e2 := Aside0.mk (digit_10 u)
  rw [ledgerref06_FormatNumber.l0, e1.out, e2.out]
  rcases h with rfl | h
  · rw [if_pos (by simp), if_pos (by simp)]
  · by_cases h0 : (acc.length : Int) = 0
    · rw [if_pos h0, if_pos (by omega)]
    · rw [if_neg h0, if_neg (by omega), if_pos (by omega)]
theorem fmt_loop (x0 : Int) (k : Nat) : ∀ (u : Nat) (acc : List Int), u ≤ 9223372036854775808 → (acc = [] ∨ 0 < u) → acc.length + Lib.nDigits u ≤ 900 →
    ledgerref06_FormatNumber.l0 (k + 1 + Lib.nDigits u) x0 (-(u : Int)) acc = fmtEnd k x0 (acc ++ rdig u) := by
  intro u
  induction u using Nat.strongRecOn with
  | _ u ih =>
    intro acc hu h hl
    by_cases h1 : u < 10
    · rw [Lib.nDigits_small h1] at hl ⊢
      rw [fmt_step _ _ _ _ hu h (by omega), show u / 10 = 0 from by omega, show u % 10 = u from by omega, rdig_small h1]
      exact fmt_zero k x0 _ (by simp)
    · rw [Lib.nDigits_big h1] at hl ⊢
      rw [show k + 1 + (Lib.nDigits (u / 10) + 1) = k + 1 + Lib.nDigits (u / 10) + 1 from by omega, fmt_step _ _ _ _ hu h (by omega), ih (u / 10) (by omega) _ (by omega) (.inr (by omega)) (by simp; omega), rdig_big h1]
      simp
theorem rev_loop (x4 : List Int) (hl : x4.length ≤ 1000) : ∀ (n k : Nat) (x5 : List Int), n ≤ x4.length → x5.length + n ≤ 2000 →
    ledgerref06_FormatNumber.l1 (k + n + 1) x4 x5 ((n : Int) - 1) = some (strOfNums (x5 ++ (x4.take n).reverse))
  | 0, k, x5, _, _ => by
    rw [ledgerref06_FormatNumber.l1, if_neg (by omega)]
    simp
  | n + 1, k, x5, h, h5 => by
    have e1 := Aside0.mk (w64 (x := ((n + 1 : Nat) : Int) - 1 - 1) (by omega) (by omega))
    have ih := rev_loop x4 hl n k (x5 ++ [rd x4 (n : Int)]) (by omega) (by simp; omega)
    rw [show k + (n + 1) + 1 = (k + n + 1) + 1 from by omega, ledgerref06_FormatNumber.l1, e1.out, if_pos (by omega), if_pos (by omega), if_pos (by omega), if_pos (by omega),
      show ((n + 1 : Nat) : Int) - 1 - 1 = (n : Int) - 1 from by omega, show ((n + 1 : Nat) : Int) - 1 = (n : Int) from by omega, ih]
    congr 2
    have hr : rd x4 (n : Int) = x4[n] := by
      simp only [rd, List.getD_eq_getElem?_getD, Int.toNat_natCast]
      rw [List.getElem?_eq_getElem (by omega)]
      rfl
    rw [hr, List.take_succ_eq_append_getElem (by omega), List.reverse_append]
    simp
theorem refFmt_f (n : Int) (h0 : -9223372036854775808 ≤ n) (h1 : n ≤ 9223372036854775807) (k : Nat) (hk : 100 ≤ k) : ledgerref06_FormatNumber.f k n = some ⟨(Lib.itoa n).toArray⟩ := by
  have hd := nDigits_le 19 n.natAbs (by have : (10 : Nat) ^ 19 = 10000000000000000000 := by decide
                                        omega)
  obtain ⟨j, rfl⟩ : ∃ j, k = (j + (Lib.nDigits n.natAbs) + 1 + 1) + 1 + Lib.nDigits n.natAbs + 1 := ⟨k - (2 * Lib.nDigits n.natAbs + 4), by omega⟩
  have hj : ledgerref06_FormatNumber.f ((j + (Lib.nDigits n.natAbs) + 1 + 1) + 1 + Lib.nDigits n.natAbs + 1) n = ledgerref06_FormatNumber.l0 ((j + (Lib.nDigits n.natAbs) + 1 + 1) + 1 + Lib.nDigits n.natAbs) n (-(n.natAbs : Int)) [] := by
    unfold ledgerref06_FormatNumber.f
    by_cases hn : n > 0
    · rw [if_pos hn, w64 (by omega) (by omega), ledgerref06_FormatNumber.j0, show -n = -(n.natAbs : Int) from by omega]
    · rw [if_neg hn, ledgerref06_FormatNumber.j0]
      congr 1
      omega
  rw [hj, fmt_loop n _ n.natAbs [] (by omega) (.inl rfl) (by simp only [List.length_nil]; omega)]
  have hlen := rdig_length n.natAbs
  have e1 := Aside0.mk (w64 (x := ((rdig n.natAbs).length : Int) - 1) (by omega) (by omega))
  have hrev : ∀ x5 : List Int, x5.length ≤ 1 → ledgerref06_FormatNumber.j2 (j + Lib.nDigits n.natAbs + 1 + 1) ([] ++ rdig n.natAbs) x5 = some (strOfNums (x5 ++ numsOf (Lib.decDigits n.natAbs))) := by
    intro x5 h5
    rw [List.nil_append, ledgerref06_FormatNumber.j2, e1.out]
    have := rev_loop (rdig n.natAbs) (by omega) (rdig n.natAbs).length j x5 (by omega) (by omega)
    rw [List.take_length] at this
    rw [← hlen, this]
    simp [rdig]
  unfold fmtEnd
  by_cases hn : n < 0
  · rw [if_pos hn, hrev [45] (by simp)]
    have : [45] ++ numsOf (Lib.decDigits n.natAbs) = numsOf (Lib.itoa n) := by rw [itoa_neg hn]; rfl
    rw [this, str_nums]
  · rw [if_neg hn, hrev [] (by simp)]
    have : [] ++ numsOf (Lib.decDigits n.natAbs) = numsOf (Lib.itoa n) := by
      unfold Lib.itoa
      rw [if_neg hn, List.nil_append, show n.toNat = n.natAbs from by omega]
    rw [this, str_nums]

/-! The document's reading of a number. -/
theorem bytesOf_data (s : ByteArray) : bytesOf s = numsOf s.data.toList := rfl
theorem dig_loop (s : ByteArray) (mx : Int) (k : Nat) (hs : s.size ≤ 1048576) : ∀ (l : List UInt8) (pre : List Int), bytesOf s = pre ++ numsOf l →
    ledgerref06_ParseNumber.l0 (k + l.length + 1) s mx (pre.length : Int) = if allDig l = true then ledgerref06_ParseNumber.l0 (k + 1) s mx (s.size : Int) else some (0, 62)
  | [], pre, h => by
    have hz := size_of h
    simp only [numsOf, List.map_nil, List.append_nil] at hz
    rw [if_pos (show allDig [] = true from rfl), hz]
    rfl
  | c :: r, pre, h => by
    have h' : bytesOf s = pre ++ (c.toNat : Int) :: numsOf r := h
    have hz := size_of h'
    simp only [List.length_append, List.length_cons] at hz
    have e1 := Aside0.mk (show wrap64 ((pre.length : Int) + 1) = ((pre ++ [(c.toNat : Int)]).length : Int) by rw [w64 (by omega) (by omega)]; simp)
    have ih := dig_loop s mx k hs r (pre ++ [(c.toNat : Int)]) (by rw [h']; simp)
    rw [show k + (c :: r).length + 1 = (k + r.length + 1) + 1 from rfl, ledgerref06_ParseNumber.l0, if_pos (by omega), if_pos (by omega), bt_mid h', e1.out, ih]
    by_cases h1 : (c.toNat : Int) < 48
    · rw [if_pos h1, if_neg (fun e => by have := ((allDig_cons c r).1 e).1; omega)]
    by_cases h2 : (c.toNat : Int) > 57
    · rw [if_neg h1, if_pos h2, if_neg (fun e => by have := ((allDig_cons c r).1 e).1; omega)]
    · rw [if_neg h1, if_neg h2]
      by_cases h3 : allDig r = true
      · rw [if_pos h3, if_pos ((allDig_cons c r).2 ⟨by omega, h3⟩)]
      · rw [if_neg h3, if_neg (fun e => h3 ((allDig_cons c r).1 e).2)]
theorem val_loop (s : ByteArray) (k : Nat) (hs : s.size ≤ 1048576) : ∀ (l : List UInt8) (pre : List Int) (a : Nat), bytesOf s = pre ++ numsOf l → allDig l = true → dv a l < 9223372036854775808 →
    ledgerref06_ParseNumber.l1 (k + l.length + 1) s (a : Int) (pre.length : Int) = some ((dv a l : Int), 0)
  | [], pre, a, h, _, _ => by
    have hz := size_of h
    simp only [numsOf, List.map_nil, List.append_nil] at hz
    rw [List.length_nil, Nat.add_zero, ledgerref06_ParseNumber.l1, if_neg (by omega), dv_nil]
  | c :: r, pre, a, h, hd, hv => by
    have h' : bytesOf s = pre ++ (c.toNat : Int) :: numsOf r := h
    obtain ⟨hc, hr⟩ := (allDig_cons c r).1 hd
    have hz := size_of h'
    simp only [List.length_append, List.length_cons] at hz
    rw [dv_cons] at hv ⊢
    have hle := dv_le r (a * 10 + (c.toNat - 48))
    have e1 := Aside0.mk (show wrap64 ((pre.length : Int) + 1) = ((pre ++ [(c.toNat : Int)]).length : Int) by rw [w64 (by omega) (by omega)]; simp)
    have e2 := Aside0.mk (w64 (x := 10 * (a : Int)) (by omega) (by omega))
    have e3 := Aside0.mk (show wrap64 (10 * (a : Int) + ((c.toNat : Int) - 48) % 256) = ((a * 10 + (c.toNat - 48) : Nat) : Int) by rw [w64 (by omega) (by omega)]; omega)
    have ih := val_loop s k hs r (pre ++ [(c.toNat : Int)]) (a * 10 + (c.toNat - 48)) (by rw [h']; simp) hr hv
    rw [show k + (c :: r).length + 1 = (k + r.length + 1) + 1 from rfl, ledgerref06_ParseNumber.l1, if_pos (by omega), if_pos (by omega), bt_mid h', e1.out, e2.out, e3.out, ih]
theorem refParse_f (s : ByteArray) (mx : Int) (h1 : mx ≤ 9223372036854775807) (k : Nat) (hk : 2098000 ≤ k) : ledgerref06_ParseNumber.f k s mx = some (parseNum s mx) := by
  have hl : s.data.toList.length = s.size := by rw [Array.length_toList]; rfl
  unfold ledgerref06_ParseNumber.f
  by_cases hs : s.size ≤ 1048576
  · rw [if_neg (by omega)]
    by_cases he : s.toList = []
    · have h0 : s.size = 0 := by rw [toList_nil_iff] at he; have := bytesOf_length s; rw [he] at this; simpa using this.symm
      rw [if_pos he]
      rcases canon_or s mx hs with ⟨hc, _⟩ | ⟨_, hc⟩
      · exact absurd (List.length_eq_zero_iff.1 (by omega)) hc
      · rw [hc]
    rw [if_neg he]
    have hpos : 0 < s.size := by
      rcases Nat.eq_zero_or_pos s.size with h | h
      · exact absurd ((toList_nil_iff s).2 (List.length_eq_zero_iff.1 (by rw [bytesOf_length]; exact h))) he
      · exact h
    obtain ⟨j, rfl⟩ : ∃ j, k = (j + s.data.toList.length + 300) + s.data.toList.length + 1 := ⟨k - 2 * s.data.toList.length - 301, by omega⟩
    have hd := dig_loop s mx (j + s.data.toList.length + 300) hs s.data.toList [] rfl
    rw [show ((([] : List Int).length : Nat) : Int) = 0 from rfl] at hd
    rw [hd]
    by_cases hdig : allDig s.data.toList = true
    · rw [if_pos hdig, ledgerref06_ParseNumber.l0, if_neg (by omega), if_pos (by omega)]
      by_cases hz : bt s 0 = 48 ∧ 1 < s.size
      · rw [if_pos hz.1, decide_eq_true (by omega : (s.size : Int) > 1), show j + s.data.toList.length + 300 = (j + s.data.toList.length + 299) + 1 from rfl, ledgerref06_ParseNumber.j1, if_pos rfl]
        unfold parseNum
        rw [if_neg (by omega), if_neg (by rw [hdig]; simp), if_pos (.inr ⟨hz.2, hz.1⟩)]
      have hc : Canon s.data.toList := by
        refine ⟨fun e => ?_, hdig, fun hl' r e => hz ⟨?_, by omega⟩⟩
        · rw [e] at hl; simp only [List.length_nil] at hl; omega
        · exact bt_mid (p := []) (r := r.map fun b => (b.toNat : Int)) (by simp only [bytesOf, e]; rfl)
      have hj : (if bt s 0 = 48 then ledgerref06_ParseNumber.j1 (j + s.data.toList.length + 300) s mx (decide ((s.size : Int) > 1)) else ledgerref06_ParseNumber.j1 (j + s.data.toList.length + 300) s mx false) = ledgerref06_ParseNumber.j1 (j + s.data.toList.length + 300) s mx false := by
        by_cases h48 : bt s 0 = 48
        · have : ¬ 1 < s.size := fun h => hz ⟨h48, h⟩
          rw [if_pos h48, decide_eq_false (by omega : ¬ (s.size : Int) > 1)]
        · rw [if_neg h48]
      rw [hj, show j + s.data.toList.length + 300 = (j + s.data.toList.length + 299) + 1 from rfl, ledgerref06_ParseNumber.j1, if_neg (by simp), parseNum_dig s mx hs hc]
      by_cases hm : mx < 0
      · rw [if_pos hm, if_neg (by omega)]
      have he' : Lib.itoa mx = Lib.decDigits mx.toNat := by unfold Lib.itoa; rw [if_neg hm]
      rw [if_neg hm, refFmt_f mx (by omega) h1 _ (by omega), he']
      simp only [Option.bind_some, Lib.toList_data]
      have hg := canon_gt s.data.toList mx.toNat hc
      rw [hl] at hg
      have ht : (⟨(Lib.decDigits mx.toNat).toArray⟩ : ByteArray).size = (Lib.decDigits mx.toNat).length := size_of_list _
      have hyes : mx.toNat < dv 0 s.data.toList → ledgerref06_ParseNumber.j2 (j + s.data.toList.length + 299) s true = some (if dv 0 s.data.toList < 9223372036854775808 ∧ (dv 0 s.data.toList : Int) ≤ mx then ((dv 0 s.data.toList : Int), 0) else (0, 63)) := by
        intro h
        rw [if_neg (by omega), show j + s.data.toList.length + 299 = (j + s.data.toList.length + 298) + 1 from rfl, ledgerref06_ParseNumber.j2, if_pos rfl]
      have hno : ¬ mx.toNat < dv 0 s.data.toList → ledgerref06_ParseNumber.j2 (j + s.data.toList.length + 299) s false = some (if dv 0 s.data.toList < 9223372036854775808 ∧ (dv 0 s.data.toList : Int) ≤ mx then ((dv 0 s.data.toList : Int), 0) else (0, 63)) := by
        intro h
        rw [if_pos (by omega), show j + s.data.toList.length + 299 = ((j + 297) + s.data.toList.length + 1) + 1 from by omega, ledgerref06_ParseNumber.j2, if_neg (by simp)]
        exact val_loop s (j + 297) hs s.data.toList [] 0 rfl hdig (by omega)
      rw [ht]
      by_cases g1 : (s.size : Int) > ((Lib.decDigits mx.toNat).length : Int)
      · rw [if_pos g1]
        exact hyes (hg.1 (.inl (by omega)))
      rw [if_neg g1]
      by_cases g2 : (s.size : Int) = ((Lib.decDigits mx.toNat).length : Int)
      · rw [if_pos g2]
        by_cases g3 : Op.bytesLess s.data.toList (Lib.decDigits mx.toNat) = true
        · rw [if_pos g3]
          refine hno (fun h => ?_)
          rcases hg.2 h with h' | ⟨_, h', _⟩
          · omega
          · rw [g3] at h'; cases h'
        rw [if_neg g3]
        by_cases g4 : s.data.toList = Lib.decDigits mx.toNat
        · rw [if_pos g4]
          refine hno (fun h => ?_)
          rcases hg.2 h with h' | ⟨_, _, h'⟩
          · omega
          · exact h' g4
        · rw [if_neg g4]
          exact hyes (hg.1 (.inr ⟨by omega, by simpa using g3, g4⟩))
      · rw [if_neg g2]
        refine hno (fun h => ?_)
        rcases hg.2 h with h' | ⟨h', _⟩
        · omega
        · omega
    · rw [if_neg hdig]
      unfold parseNum
      rw [if_neg (by omega), if_pos (by simpa using hdig)]
  · rw [if_pos (by omega)]
    unfold parseNum
    rw [if_pos (by omega)]
theorem textNumbers_true (s : ByteArray) (n mx : Int) (h0 : -9223372036854775808 ≤ n) (h1 : n ≤ 9223372036854775807) (h2 : mx ≤ 9223372036854775807) : ∃ k, ledgerlaw06_TextNumbers.f k s n mx = some true := by
  refine ⟨2098000, ?_⟩
  unfold ledgerlaw06_TextNumbers.f text_ParseNumber.f text_FormatNumber.f
  rw [refParse_f s mx h2 _ (Nat.le_refl _), refFmt_f n h0 h1 _ (by omega), if_pos h0, if_pos h1]
  simp
theorem textNumbers_row (s : ByteArray) (n mx : Int) (h0 : -9223372036854775808 ≤ n) (h1 : n ≤ 9223372036854775807) (_ : -9223372036854775808 ≤ mx) (h2 : mx ≤ 9223372036854775807) : ∃ k, ledgerlaw06_TextNumbers.f k s n mx = some true := textNumbers_true s n mx h0 h1 h2
end Go.Proofs.YtljinjgamgmocaaDoor.Pure
