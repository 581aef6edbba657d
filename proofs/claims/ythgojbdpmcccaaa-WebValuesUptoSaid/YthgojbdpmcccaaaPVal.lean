/- WebValues, the plain law: the value of a name is that of the first field of it, whatever the case. No program in sight. -/
import Derived.Test.YthgojbdpmcccaaaGxD1
namespace Go.Proofs.Ythgojbdpmcccaaa.Pure
open Go.RowKit Go.Proofs.YthgojbdpmcccaaaW.PrintWords Go.Proofs.YthgojbdpmcccaaaW.PrintLast Go.Proofs.YthgojbdpmcccaaaW.PrintMore Go.Proofs.Ythgojbdpmcccaaa.G
set_option linter.unusedVariables false
set_option linter.unusedSimpArgs false

def lowF (s : ByteArray) : ByteArray := strOfNums ((bytesOf s).map low1)
theorem lower_some (s : ByteArray) (h : s.size ≤ 140737488351232) : web_lower.f s = some (lowF s) := by
  unfold web_lower.f
  rw [if_pos h]; rfl
theorem low_l (s : ByteArray) (hs : s.size ≤ 1048576) : ∀ (d k i : Nat) (x3 : List Int), d = s.size - i → i ≤ s.size → d < k → x3 = ((bytesOf s).take i).map low1 → ledgerlaw14_lower.l0 k s x3 (i : Int) = some (lowF s)
  | d, 0, i, x3, _, _, hk, _ => by omega
  | d, k + 1, i, x3, hd, hi, hk, hx => by
    have hlen : x3.length = i := by rw [hx, List.length_map, List.length_take, bytesOf_length]; omega
    unfold ledgerlaw14_lower.l0
    by_cases h : i < s.size
    · have hw : wrap64 ((i : Int) + 1) = ((i + 1 : Nat) : Int) := by unfold wrap64; omega
      have hr := bt_range s (i : Int)
      have hstep : x3 ++ [low1 (bt s (i : Int))] = ((bytesOf s).take (i + 1)).map low1 := by
        have hl : i < (bytesOf s).length := by rw [bytesOf_length]; exact h
        rw [List.take_add_one, List.map_append, ← hx, List.getElem?_eq_getElem hl]
        congr 1
        rw [← rd_bytesOf]
        simp [rd, List.getD_eq_getElem?_getD, List.getElem?_eq_getElem hl]
      have ih := low_l s hs (d - 1) k (i + 1) _ (by omega) (by omega) (by omega) hstep
      rw [if_pos (by omega), if_pos (by omega), hw]
      by_cases h1 : 65 ≤ bt s (i : Int)
      · rw [if_pos h1]
        by_cases h2 : bt s (i : Int) ≤ 90
        · have e : (bt s (i : Int) + 32) % 256 = low1 (bt s (i : Int)) := by unfold low1; rw [if_pos h1, if_pos h2]; omega
          rw [if_pos h2, if_pos (by omega), e, ih]
        · have e : bt s (i : Int) = low1 (bt s (i : Int)) := by unfold low1; rw [if_pos h1, if_neg h2]
          rw [if_neg h2, if_pos (by omega)]
          rw [← e] at ih
          exact ih
      · have e : bt s (i : Int) = low1 (bt s (i : Int)) := by unfold low1; rw [if_neg h1]
        rw [if_neg (by omega), if_pos (by omega)]
        rw [← e] at ih
        exact ih
    · rw [if_neg (by omega), hx, List.take_of_length_le (by rw [bytesOf_length]; omega)]; rfl
theorem low_f (s : ByteArray) (hs : s.size ≤ 1048576) (k : Nat) (hk : s.size < k) : ledgerlaw14_lower.f k s = some (lowF s) :=
  low_l s hs s.size k 0 [] rfl (Nat.zero_le _) hk rfl
/-- The first field of a name. -/
def firstV (want : ByteArray) : List S26 → ByteArray × Bool
  | [] => (⟨#[]⟩, false)
  | f :: r => if (lowF f.f0).toList = want.toList then (f.f1, true) else firstV want r
theorem drop_rd (l : List S26) (i : Nat) (h : i < l.length) : l.drop i = rd_T26 l (i : Int) :: l.drop (i + 1) := by
  rw [List.drop_eq_getElem_cons h]
  congr 1
  simp [rd_T26, List.getD_eq_getElem?_getD, List.getElem?_eq_getElem h]
theorem rd_mem (l : List S26) (i : Nat) (h : i < l.length) : rd_T26 l (i : Int) ∈ l := by
  have : rd_T26 l (i : Int) = l[i] := by simp [rd_T26, List.getD_eq_getElem?_getD, List.getElem?_eq_getElem h]
  rw [this]; exact List.getElem_mem h
theorem value_l (want : ByteArray) (l : List S26) (hl : l.length ≤ 1048576) (hn : ∀ x ∈ l, x.f0.size ≤ 1048576) : ∀ (d k i : Nat), d = l.length - i → i ≤ l.length → d < k → web_Value.l0 k want l (l.length : Int) (i : Int) = some (firstV want (l.drop i))
  | d, 0, i, _, _, hk => by omega
  | d, k + 1, i, hd, hi, hk => by
    unfold web_Value.l0
    by_cases h : i < l.length
    · have hw : wrap64 ((i : Int) + 1) = ((i + 1 : Nat) : Int) := by unfold wrap64; omega
      have hm := hn _ (rd_mem l i h)
      rw [if_pos (by omega), if_pos (by omega), if_pos (by omega), lower_some _ (by omega), Option.bind_some, drop_rd l i h, firstV, hw, value_l want l hl hn (d - 1) k (i + 1) (by omega) (by omega) (by omega)]
      split <;> rfl
    · rw [if_neg (by omega), List.drop_eq_nil_of_le (by omega)]; rfl
theorem value_f (l : List S26) (hl : l.length ≤ 1048576) (hn : ∀ x ∈ l, x.f0.size ≤ 1048576) (name : ByteArray) (hs : name.size ≤ 1048576) (k : Nat) (hk : l.length < k) : web_Value.f k l name = some (firstV (lowF name) l) := by
  unfold web_Value.f
  rw [lower_some _ (by omega), Option.bind_some]
  exact value_l _ l hl hn l.length k 0 rfl (Nat.zero_le _) hk
theorem last_value (k : Nat) (hk : 1 < k) : web_Value.f k [(⟨⟨#[97, 66]⟩, ⟨#[99]⟩⟩ : S26)] ⟨#[65, 98]⟩ = some (⟨#[99]⟩, true) := by
  rw [value_f _ (by simp) (by intro x hx; rw [List.mem_singleton.1 hx]; decide) _ (by decide) k (by simpa using hk)]
  have : (lowF ⟨#[97, 66]⟩).toList = (lowF ⟨#[65, 98]⟩).toList := by decide +kernel
  rw [firstV, if_pos this]
theorem law_l1 (x2 : ByteArray) (hs : x2.size ≤ 1048576) (l : List S26) (hl : l.length ≤ 1048576) (hn : ∀ x ∈ l, x.f0.size ≤ 1048576) (x9 : ByteArray) (x10 : Bool) : ∀ (d k i : Nat), d = l.length - i → i ≤ l.length → d + 1048577 < k → firstV (lowF x2) (l.drop i) = (x9, x10) → ledgerlaw14_WebValues.l1 k x2 l x9 x10 (i : Int) = some true
  | d, 0, i, _, _, hk, _ => by omega
  | d, k + 1, i, hd, hi, hk, hv => by
    unfold ledgerlaw14_WebValues.l1
    by_cases h : i < l.length
    · have hw : wrap64 ((i : Int) + 1) = ((i + 1 : Nat) : Int) := by unfold wrap64; omega
      have hm := hn _ (rd_mem l i h)
      rw [drop_rd l i h, firstV] at hv
      rw [if_pos (by omega), if_pos (by omega), low_f _ hm k (by omega), Option.bind_some, low_f _ hs k (by omega), Option.bind_some]
      by_cases hq : (lowF (rd_T26 l (i : Int)).f0).toList = (lowF x2).toList
      · rw [if_pos hq] at hv
        obtain ⟨rfl, rfl⟩ := Prod.mk.inj hv
        rw [if_pos hq, if_pos rfl]
        simp
      · rw [if_neg hq] at hv
        rw [if_neg hq, hw]
        exact law_l1 x2 hs l hl hn x9 x10 (d - 1) k (i + 1) (by omega) (by omega) (by omega) hv
    · rw [List.drop_eq_nil_of_le (by omega), firstV] at hv
      obtain ⟨rfl, rfl⟩ := Prod.mk.inj hv
      rw [if_neg (by omega), last_value k (by omega), Option.bind_some, if_neg (by simp), if_pos (by decide +kernel), if_pos rfl]
      decide +kernel
theorem law_l0 (x0 x1 : List ByteArray) (x2 : ByteArray) (h0 : x0.length ≤ 1048576) (hn : ∀ x ∈ x0, x.size ≤ 1048576) (hs : x2.size ≤ 1048576) : ∀ (d k i : Nat) (x7 : List S26), d = x0.length - i → i ≤ x0.length → d + 2200000 < k → x7.length = i → (∀ x ∈ x7, x.f0.size ≤ 1048576) → ledgerlaw14_WebValues.l0 k x0 x1 x2 x7 (i : Int) = some true
  | d, 0, i, x7, _, _, hk, _, _ => by omega
  | d, k + 1, i, x7, hd, hi, hk, hl, hm => by
    unfold ledgerlaw14_WebValues.l0
    by_cases h : i < x0.length
    · have hw : wrap64 ((i : Int) + 1) = ((i + 1 : Nat) : Int) := by unfold wrap64; omega
      have hv : ∃ t, ledgerlaw14_value.f x1 (i : Int) = some t := by
        unfold ledgerlaw14_value.f
        split
        · rw [if_pos (by omega)]; exact ⟨_, rfl⟩
        · exact ⟨_, rfl⟩
      obtain ⟨t, ht⟩ := hv
      rw [if_pos (by omega), if_pos (by omega), ht, Option.bind_some, if_pos (by omega), hw]
      refine law_l0 x0 x1 x2 h0 hn hs (d - 1) k (i + 1) _ (by omega) (by omega) (by omega) (by simp [hl]) ?_
      intro x hx
      rcases List.mem_append.1 hx with hx | hx
      · exact hm x hx
      · rw [List.mem_singleton.1 hx]
        have : rdOf ByteArray.empty x0 (i : Int) = x0[i] := by simp [rdOf, List.getD_eq_getElem?_getD, List.getElem?_eq_getElem h]
        show (rdOf ByteArray.empty x0 (i : Int)).size ≤ 1048576
        rw [this]
        exact hn _ (List.getElem_mem h)
    · rw [if_neg (by omega), value_f x7 (by omega) hm x2 hs k (by omega), Option.bind_some]
      exact law_l1 x2 hs x7 (by omega) hm _ _ x7.length k 0 rfl (Nat.zero_le _) (by omega) rfl
theorem webValues_some (x0 x1 : List ByteArray) (x2 : ByteArray) (h0 : x0.length ≤ 1048576) (hn : ∀ x ∈ x0, x.size ≤ 1048576) (hs : x2.size ≤ 1048576) : ∃ k, ledgerlaw14_WebValues.f k x0 x1 x2 = some true :=
  ⟨4000000, law_l0 x0 x1 x2 h0 hn hs x0.length 4000000 0 [] rfl (Nat.zero_le _) (by omega) rfl (by simp)⟩
end Go.Proofs.Ythgojbdpmcccaaa.Pure
