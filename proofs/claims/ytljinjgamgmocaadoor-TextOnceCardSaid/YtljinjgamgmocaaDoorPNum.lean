/- Numbers and their texts: digits, values, the order; what the document's calls compute. -/
import Derived.Test.YtljinjgamgmocaaDoorPHex
import Derived.Test.YtljinjgamgmocaaDoorExtP
import Derived.Lib.ItoaNum
namespace Go.Proofs.YtljinjgamgmocaaDoor.Pure
open Go.RowKit Go.Proofs.YtljinjgamgmocaaDoor.G Go.Proofs.YtljinjgamgmocaaDoorW.PrintWords Go.Proofs.YtljinjgamgmocaaDoorW.PrintLast Go.Proofs.YtljinjgamgmocaaDoorW.PrintMore
set_option linter.unusedSimpArgs false
set_option linter.unusedVariables false

/-- No zero ahead. -/
def Canon (l : List UInt8) : Prop := l ≠ [] ∧ allDig l = true ∧ (1 < l.length → ∀ r, l ≠ 48 :: r)
theorem u8_of (n : Nat) (h : n < 10) : (UInt8.ofNat (48 + n)).toNat = 48 + n := by
  rw [UInt8.toNat_ofNat']
  omega
theorem decDigits_small {u : Nat} (h : u < 10) : Lib.decDigits u = [UInt8.ofNat (48 + u)] := by rw [Lib.decDigits, dif_pos h]
theorem decDigits_big {u : Nat} (h : ¬ u < 10) : Lib.decDigits u = Lib.decDigits (u / 10) ++ [UInt8.ofNat (48 + u % 10)] := by rw [Lib.decDigits, dif_neg h]
theorem dv_one (a : Nat) {n : Nat} (h : n < 10) : dv a [UInt8.ofNat (48 + n)] = a * 10 + n := by
  rw [dv_cons, dv_nil, u8_of n h]
  omega
theorem decDigits_good (u : Nat) : dv 0 (Lib.decDigits u) = u ∧ allDig (Lib.decDigits u) = true ∧ Lib.decDigits u ≠ [] ∧ ((∃ r, Lib.decDigits u = 48 :: r) → u = 0) := by
  induction u using Nat.strongRecOn with
  | _ u ih =>
    by_cases h : u < 10
    · rw [decDigits_small h]
      refine ⟨by rw [dv_one 0 h]; omega, (allDig_cons _ _).2 ⟨by rw [u8_of u h]; omega, rfl⟩, by simp, ?_⟩
      rintro ⟨r, hr⟩
      have := congrArg UInt8.toNat (List.cons.inj hr).1
      rw [u8_of u h] at this
      have e : (48 : UInt8).toNat = 48 := rfl
      omega
    · obtain ⟨h1, h2, h3, h4⟩ := ih (u / 10) (by omega)
      rw [decDigits_big h]
      refine ⟨by rw [dv_append, h1, dv_one _ (by omega)]; omega, (allDig_append _ _).2 ⟨h2, (allDig_cons _ _).2 ⟨by rw [u8_of _ (by omega)]; omega, rfl⟩⟩, by simp, ?_⟩
      rintro ⟨r, hr⟩
      cases hd : Lib.decDigits (u / 10) with
      | nil => exact absurd hd h3
      | cons c r' =>
        rw [hd, List.cons_append] at hr
        have := h4 ⟨r', by rw [hd, (List.cons.inj hr).1]⟩
        omega
theorem decDigits_canon (u : Nat) : Canon (Lib.decDigits u) := by
  obtain ⟨h1, h2, h3, h4⟩ := decDigits_good u
  refine ⟨h3, h2, fun hl r e => ?_⟩
  have := h4 ⟨r, e⟩
  subst this
  rw [decDigits_small (by omega)] at hl
  simp at hl
theorem canon_dec : ∀ (n : Nat) (l : List UInt8), l.length = n → Canon l → Lib.decDigits (dv 0 l) = l
  | n, l, hn, ⟨h1, h2, h3⟩ => by
    induction n using Nat.strongRecOn generalizing l with
    | _ n ih =>
      obtain ⟨l', c, rfl⟩ : ∃ l' c, l = l' ++ [c] := ⟨l.dropLast, l.getLast h1, (List.dropLast_concat_getLast h1).symm⟩
      obtain ⟨d1, d2⟩ := (allDig_append l' [c]).1 h2
      obtain ⟨hc, _⟩ := (allDig_cons c []).1 d2
      have ec : UInt8.ofNat (48 + (c.toNat - 48)) = c := by
        apply UInt8.toNat_inj.1
        rw [u8_of _ (by omega)]
        omega
      rw [dv_append, dv_cons, dv_nil]
      simp only [List.length_append, List.length_cons, List.length_nil] at hn h3
      by_cases he : l' = []
      · subst he
        simp only [dv_nil, Nat.zero_mul, Nat.zero_add, List.nil_append]
        rw [decDigits_small (by omega), ec]
      · have hpos : 0 < l'.length := List.length_pos_iff.2 he
        have hcan : 1 < l'.length → ∀ r, l' ≠ 48 :: r := fun _ r e => h3 (by omega) (r ++ [c]) (by rw [e]; rfl)
        have hd := ih l'.length (by omega) l' rfl he d1 hcan
        have hv : 1 ≤ dv 0 l' := by
          rcases Nat.eq_zero_or_pos (dv 0 l') with hz | hz
          · rw [hz, decDigits_small (by omega)] at hd
            exact absurd (by rw [← hd]; rfl) (h3 (by omega) [c])
          · exact hz
        rw [decDigits_big (by omega), show (dv 0 l' * 10 + (c.toNat - 48)) / 10 = dv 0 l' from by omega, hd, show (dv 0 l' * 10 + (c.toNat - 48)) % 10 = c.toNat - 48 from by omega, ec]
theorem nDigits_mono : ∀ (u w : Nat), u ≤ w → Lib.nDigits u ≤ Lib.nDigits w := by
  intro u
  induction u using Nat.strongRecOn with
  | _ u ih =>
    intro w h
    by_cases h1 : u < 10
    · rw [Lib.nDigits_small h1]; exact Lib.nDigits_pos w
    · rw [Lib.nDigits_big h1, Lib.nDigits_big (u := w) (by omega)]
      have := ih (u / 10) (by omega) (w / 10) (by omega)
      omega
theorem nDigits_le : ∀ (n u : Nat), u < 10 ^ n → Lib.nDigits u ≤ n + 1
  | 0, u, h => by
    rw [Nat.pow_zero] at h
    rw [Lib.nDigits_small (by omega)]
    exact Nat.le_refl _
  | n + 1, u, h => by
    by_cases h1 : u < 10
    · rw [Lib.nDigits_small h1]; omega
    · rw [Lib.nDigits_big h1]
      have := nDigits_le n (u / 10) (by rw [Nat.pow_succ] at h; omega)
      omega
/-- Texts of the same length: the order of the digits is the order of the numbers. -/
theorem less_dv (x : List UInt8) : ∀ (y : List UInt8) (a b : Nat), x.length = y.length → allDig x = true → allDig y = true → (a < b → dv a x < dv b y) ∧ (b < a → dv b y < dv a x) ∧ (a = b → (Op.bytesLess x y = true ↔ dv a x < dv b y)) := by
  induction x with
  | nil =>
    intro y a b h _ _
    obtain rfl : y = [] := List.length_eq_zero_iff.1 h.symm
    rw [dv_nil, dv_nil]
    refine ⟨fun h => h, fun h => h, fun h => ?_⟩
    rw [h]
    simp [Op.bytesLess]
  | cons c x ih =>
    intro y a b h hx hy
    match y, h, hy with
    | d :: y, h, hy =>
      obtain ⟨hc, hx'⟩ := (allDig_cons c x).1 hx
      obtain ⟨hd, hy'⟩ := (allDig_cons d y).1 hy
      obtain ⟨i1, i2, i3⟩ := ih y (a * 10 + (c.toNat - 48)) (b * 10 + (d.toNat - 48)) (by simpa using h) hx' hy'
      rw [dv_cons, dv_cons]
      refine ⟨fun hab => i1 (by omega), fun hab => i2 (by omega), fun hab => ?_⟩
      have hb : Op.bytesLess (c :: x) (d :: y) = true ↔ (c.toNat < d.toNat ∨ (c = d ∧ Op.bytesLess x y = true)) := by
        rw [Op.bytesLess, Bool.or_eq_true, Bool.and_eq_true, decide_eq_true_iff, beq_iff_eq, UInt8.lt_iff_toNat_lt]
      rw [hb]
      constructor
      · rintro (h1 | ⟨h1, h2⟩)
        · exact i1 (by omega)
        · exact (i3 (by rw [hab, h1])).1 h2
      · intro h1
        rcases Nat.lt_trichotomy c.toNat d.toNat with hl | he | hg
        · exact .inl hl
        · exact .inr ⟨UInt8.toNat_inj.1 he, (i3 (by rw [hab, he])).2 h1⟩
        · have := i2 (by omega)
          omega
/-- Is the text longer, or as long and behind? Then its number is greater. -/
theorem canon_gt (x : List UInt8) (m : Nat) (hx : Canon x) : (x.length > (Lib.decDigits m).length ∨ (x.length = (Lib.decDigits m).length ∧ Op.bytesLess x (Lib.decDigits m) = false ∧ x ≠ Lib.decDigits m)) ↔ m < dv 0 x := by
  have e := canon_dec x.length x rfl hx
  have hl : x.length = Lib.nDigits (dv 0 x) := by rw [← Lib.decDigits_length, e]
  obtain ⟨g1, g2, g3, g4⟩ := decDigits_good m
  rw [Lib.decDigits_length]
  constructor
  · rintro (h | ⟨h1, h2, h3⟩)
    · rcases Nat.lt_or_ge m (dv 0 x) with h' | h'
      · exact h'
      · have := nDigits_mono _ _ h'; omega
    · have hL := ((less_dv x (Lib.decDigits m) 0 0 (by rw [Lib.decDigits_length]; exact h1) hx.2.1 g2).2.2 rfl)
      rw [g1] at hL
      rcases Nat.lt_trichotomy m (dv 0 x) with h' | h' | h'
      · exact h'
      · exact absurd (by rw [h', e]) h3
      · rw [hL.2 h'] at h2; cases h2
  · intro h
    have h1 := nDigits_mono m (dv 0 x) (by omega)
    rcases Nat.lt_or_ge (Lib.nDigits m) x.length with h' | h'
    · exact .inl h'
    · have h2 : x.length = Lib.nDigits m := by omega
      refine .inr ⟨h2, ?_, fun e' => ?_⟩
      · have hL := ((less_dv x (Lib.decDigits m) 0 0 (by rw [Lib.decDigits_length]; exact h2) hx.2.1 g2).2.2 rfl)
        rw [g1] at hL
        cases hb : Op.bytesLess x (Lib.decDigits m) with
        | false => rfl
        | true => have := hL.1 hb; omega
      · rw [e', g1] at h; omega

/-- What is read of digits. -/
theorem parseNum_dig (s : ByteArray) (mx : Int) (hs : s.size ≤ 1048576) (hc : Canon s.data.toList) : parseNum s mx = if dv 0 s.data.toList < 9223372036854775808 ∧ (dv 0 s.data.toList : Int) ≤ mx then ((dv 0 s.data.toList : Int), 0) else (0, 63) := by
  obtain ⟨h1, h2, h3⟩ := hc
  have hl : s.data.toList.length = s.size := by rw [Array.length_toList]; rfl
  have hz : ¬ (s.size = 0 ∨ (1 < s.size ∧ bt s 0 = 48)) := by
    rintro (h | ⟨h, hb⟩)
    · exact h1 (List.length_eq_zero_iff.1 (by omega))
    · cases hd : s.data.toList with
      | nil => exact h1 hd
      | cons c r =>
        have hb' : bt s 0 = c.toNat := bt_mid (p := []) (r := r.map fun b => (b.toNat : Int)) (by simp only [bytesOf, hd]; rfl)
        refine h3 (by omega) r ?_
        rw [hd]
        congr 1
        apply UInt8.toNat_inj.1
        have e : (48 : UInt8).toNat = 48 := rfl
        omega
  unfold parseNum
  rw [if_neg (by omega), if_neg (by rw [h2]; simp), if_neg hz, parseIntB_dig _ h1 h2]
  by_cases h : dv 0 s.data.toList < 9223372036854775808
  · rw [if_pos h]
    simp only
    by_cases h' : (dv 0 s.data.toList : Int) ≤ mx
    · rw [if_neg (by omega), if_pos ⟨h, h'⟩]
    · rw [if_pos (by omega), if_neg (fun g => h' g.2)]
  · rw [if_neg h, if_neg (fun g => h g.1)]
theorem canon_or (s : ByteArray) (mx : Int) (hs : s.size ≤ 1048576) : Canon s.data.toList ∨ ((allDig s.data.toList = false ∨ s.size = 0 ∨ (1 < s.size ∧ bt s 0 = 48)) ∧ parseNum s mx = (0, 62)) := by
  have hl : s.data.toList.length = s.size := by rw [Array.length_toList]; rfl
  by_cases h1 : allDig s.data.toList = false
  · refine .inr ⟨.inl h1, ?_⟩
    unfold parseNum
    rw [if_neg (by omega), if_pos h1]
  by_cases h2 : s.size = 0 ∨ (1 < s.size ∧ bt s 0 = 48)
  · refine .inr ⟨.inr h2, ?_⟩
    unfold parseNum
    rw [if_neg (by omega), if_neg h1, if_pos h2]
  · refine .inl ⟨fun e => h2 (.inl (by rw [e] at hl; simpa using hl.symm)), by simpa using h1, fun hl' r e => h2 (.inr ⟨by omega, ?_⟩)⟩
    exact bt_mid (p := []) (r := r.map fun b => (b.toNat : Int)) (by simp only [bytesOf, e]; rfl)

/-! TextBounds and the part of TextOnce that speaks of numbers. -/
theorem size_of_list (l : List UInt8) : (⟨l.toArray⟩ : ByteArray).size = l.length := by simp [ByteArray.size]
theorem decDigits_short {u : Nat} (h : u ≤ 9223372036854775808) : (Lib.decDigits u).length ≤ 20 := by
  rw [Lib.decDigits_length]
  exact nDigits_le 19 u (by have : (10 : Nat) ^ 19 = 10000000000000000000 := by decide
                            omega)
theorem bt_first (c : UInt8) (r : List UInt8) : bt (⟨(c :: r).toArray⟩ : ByteArray) 0 = (c.toNat : Int) :=
  bt_mid (p := []) (r := r.map fun b => (b.toNat : Int)) (by simp [bytesOf])
theorem parse_format (n mx : Int) (h0 : 0 ≤ n) (h1 : n ≤ 9223372036854775807) : parseNum ⟨(Lib.itoa n).toArray⟩ mx = if n ≤ mx then (n, 0) else (0, 63) := by
  have he : Lib.itoa n = Lib.decDigits n.toNat := by unfold Lib.itoa; rw [if_neg (by omega)]
  have hs := decDigits_short (u := n.toNat) (by omega)
  have hp := parseNum_dig ⟨(Lib.itoa n).toArray⟩ mx (by rw [size_of_list, he]; omega) (by rw [he]; exact decDigits_canon _)
  rw [hp]
  simp only [he, (decDigits_good n.toNat).1]
  rw [Int.toNat_of_nonneg h0]
  by_cases h : n ≤ mx
  · rw [if_pos ⟨by omega, h⟩, if_pos h]
  · rw [if_neg (fun g => h g.2), if_neg h]
theorem itoa_neg {n : Int} (h : n < 0) : Lib.itoa n = 45 :: Lib.decDigits n.natAbs := by unfold Lib.itoa; rw [if_pos h]
theorem textBounds_true (n mx : Int) (h0 : -9223372036854775808 ≤ n) (h1 : n ≤ 9223372036854775807) : ledgerlaw06_TextBounds.f n mx = some true := by
  unfold ledgerlaw06_TextBounds.f text_FormatNumber.f text_ParseNumber.f
  rw [if_pos h0, if_pos h1]
  simp only [Option.bind_some]
  by_cases hn : n < 0
  · have hs := decDigits_short (u := n.natAbs) (by omega)
    have h3 := (decDigits_good n.natAbs).2.2.1
    have hpos : 0 < (Lib.decDigits n.natAbs).length := List.length_pos_iff.2 h3
    have hsz : (⟨(Lib.itoa n).toArray⟩ : ByteArray).size = (Lib.decDigits n.natAbs).length + 1 := by rw [size_of_list, itoa_neg hn, List.length_cons]
    have hp : parseNum ⟨(Lib.itoa n).toArray⟩ mx = (0, 62) := by
      rcases canon_or ⟨(Lib.itoa n).toArray⟩ mx (by omega) with hc | hc
      · have := hc.2.1
        simp only [itoa_neg hn] at this
        have := ((allDig_cons 45 _).1 this).1.1
        exact absurd this (by decide)
      · exact hc.2
    rw [if_pos hn, hp]
    simp only
    rw [if_pos trivial, if_pos trivial, hsz, if_pos (by omega), if_pos (by omega)]
    rw [itoa_neg hn, bt_first]
    rfl
  · rw [if_neg hn, parse_format n mx (by omega) h1]
    by_cases h : n ≤ mx
    · rw [if_neg (by omega), if_pos h]
      simp
    · rw [if_pos (by omega), if_neg h]
      simp
/-- What is read is the number's text. -/
theorem format_parse (s : ByteArray) (mx v : Int) (h : parseNum s mx = (v, 0)) : text_FormatNumber.f v = some s := by
  by_cases hs : s.size ≤ 1048576
  · rcases canon_or s mx hs with hc | ⟨_, hc⟩
    · rw [parseNum_dig s mx hs hc] at h
      split at h
      · rename_i h1
        have hv : (dv 0 s.data.toList : Int) = v := (Prod.mk.inj h).1
        subst hv
        have hr : Lib.itoa (dv 0 s.data.toList : Int) = s.data.toList := by
          unfold Lib.itoa
          rw [if_neg (by omega), Int.toNat_natCast, canon_dec _ _ rfl hc]
        unfold text_FormatNumber.f
        rw [if_pos (by omega), if_pos (by omega), hr]
      · have := (Prod.mk.inj h).2
        omega
    · rw [hc] at h
      have := (Prod.mk.inj h).2
      omega
  · unfold parseNum at h
    rw [if_pos (by omega)] at h
    have := (Prod.mk.inj h).2
    omega
theorem textBounds_row (n mx : Int) (h0 : -9223372036854775808 ≤ n) (h1 : n ≤ 9223372036854775807) (_ : -9223372036854775808 ≤ mx) (_ : mx ≤ 9223372036854775807) : ledgerlaw06_TextBounds.f n mx = some true := textBounds_true n mx h0 h1
end Go.Proofs.YtljinjgamgmocaaDoor.Pure
