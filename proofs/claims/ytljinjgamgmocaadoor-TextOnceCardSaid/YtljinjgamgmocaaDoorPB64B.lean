/- Base64: what the program's reading call computes. -/
import Derived.Test.YtljinjgamgmocaaDoorPB64
namespace Go.Proofs.YtljinjgamgmocaaDoor.Pure
open Go.RowKit Go.Proofs.YtljinjgamgmocaaDoor.G Go.Proofs.YtljinjgamgmocaaDoorW.PrintWords Go.Proofs.YtljinjgamgmocaaDoorW.PrintLast Go.Proofs.YtljinjgamgmocaaDoorW.PrintMore
set_option linter.unusedSimpArgs false
set_option linter.unusedVariables false

/-- The whole loop. -/
theorem dloop : ∀ (r : List Int) (s : ByteArray) (pre acc : List Int) (k : Nat), bytesOf s = pre ++ r → s.size ≤ 1048576 → acc.length + r.length ≤ 1048576 → r.length % 4 ≠ 1 → r.length + 8 ≤ k →
    text_DecodeBase64.l0 k s acc 0 0 (s.size : Int) (pre.length : Int) = some (match dec64 r with | some l => (acc ++ l, 0) | none => ([], 60))
  | [], s, pre, acc, k, hs, hm, ha, h4, hk => by
    obtain ⟨k, rfl⟩ := rounds (n := 0) (k := k) (by omega)
    have hz := size_of hs
    simp only [List.append_nil] at hz
    simp only [text_DecodeBase64.l0, dec64]
    rw [if_neg (by omega)]
    simp
  | [_], _, _, _, _, _, _, _, h4, _ => by simp at h4
  | [a, b], s, pre, acc, k, hs, hm, ha, h4, hk => by
    simp only [List.length_cons, List.length_nil] at ha hk
    obtain ⟨k, rfl⟩ : ∃ m, k = m + 3 := ⟨k - 3, by omega⟩
    have hz := size_of hs
    simp only [List.length_append, List.length_cons, List.length_nil] at hz
    rcases val_cases a with va | ⟨a0, a1, a2⟩
    · rw [dstep_bad hs (by omega) acc 0 0 (k + 2) (by omega)]
      simp only [dec64]; rw [if_pos (by omega)]
    rw [dstep_0 hs hm a0 a1 acc (k + 2) (by omega)]
    have hs1 : bytesOf s = (pre ++ [a]) ++ b :: [] := by rw [hs]; simp
    rcases val_cases b with vb | ⟨b0, b1, b2⟩
    · rw [dstep_bad hs1 (by omega) acc _ _ (k + 1) (by omega)]
      simp only [dec64]; rw [if_neg (by omega), if_pos (by omega)]
    rw [dstep_n hs1 hm b0 b1 acc (val a) 6 4 (by omega) (by omega) a0 a1 (by omega) (k + 1) (by omega)]
    have hs2 : bytesOf s = (pre ++ [a] ++ [b]) ++ [] := by rw [hs]; simp
    have hz2 := size_of hs2
    simp only [text_DecodeBase64.l0, dec64]
    rw [if_neg (show ¬ (((pre ++ [a] ++ [b]).length : Nat) : Int) < (s.size : Int) by rw [hz2]; simp)]
    by_cases e : val b % 16 = 0
    · rw [if_pos (by omega), if_neg (by omega), if_neg (by omega), if_pos e, show (val a * 64 + val b) / 2 ^ 4 % 256 = val a * 4 + val b / 16 from by omega]
    · rw [if_neg (by omega), if_neg (by omega), if_neg (by omega), if_neg e]
  | [a, b, c], s, pre, acc, k, hs, hm, ha, h4, hk => by
    simp only [List.length_cons, List.length_nil] at ha hk
    obtain ⟨k, rfl⟩ : ∃ m, k = m + 4 := ⟨k - 4, by omega⟩
    have hz := size_of hs
    simp only [List.length_append, List.length_cons, List.length_nil] at hz
    rcases val_cases a with va | ⟨a0, a1, a2⟩
    · rw [dstep_bad hs (by omega) acc 0 0 (k + 3) (by omega)]
      simp only [dec64]; rw [if_pos (by omega)]
    rw [dstep_0 hs hm a0 a1 acc (k + 3) (by omega)]
    have hs1 : bytesOf s = (pre ++ [a]) ++ b :: [c] := by rw [hs]; simp
    rcases val_cases b with vb | ⟨b0, b1, b2⟩
    · rw [dstep_bad hs1 (by omega) acc _ _ (k + 2) (by omega)]
      simp only [dec64]; rw [if_neg (by omega), if_pos (by omega)]
    rw [dstep_n hs1 hm b0 b1 acc (val a) 6 4 (by omega) (by omega) a0 a1 (by omega) (k + 2) (by omega)]
    have hs2 : bytesOf s = (pre ++ [a] ++ [b]) ++ c :: [] := by rw [hs]; simp
    rcases val_cases c with vc | ⟨c0, c1, c2⟩
    · rw [dstep_bad hs2 (by omega) _ _ _ (k + 1) (by omega)]
      simp only [dec64]; rw [if_neg (by omega), if_neg (by omega), if_pos (by omega)]
    rw [dstep_n hs2 hm c0 c1 _ ((val a * 64 + val b) % 2 ^ 4) ((4 : Nat) : Int) 2 (by omega) (by omega) (by omega) (by omega) (by simp; omega) (k + 1) (by omega)]
    have hs3 : bytesOf s = (pre ++ [a] ++ [b] ++ [c]) ++ [] := by rw [hs]; simp
    have hz3 := size_of hs3
    simp only [text_DecodeBase64.l0, dec64]
    rw [if_neg (show ¬ (((pre ++ [a] ++ [b] ++ [c]).length : Nat) : Int) < (s.size : Int) by rw [hz3]; simp)]
    by_cases e : val c % 4 = 0
    · rw [if_pos (by omega), if_neg (by omega), if_neg (by omega), if_neg (by omega), if_pos e, show (val a * 64 + val b) / 2 ^ 4 % 256 = val a * 4 + val b / 16 from by omega, show ((val a * 64 + val b) % 2 ^ 4 * 64 + val c) / 2 ^ 2 % 256 = val b % 16 * 16 + val c / 4 from by omega]
      simp
    · rw [if_neg (by omega), if_neg (by omega), if_neg (by omega), if_neg (by omega), if_neg e]
  | a :: b :: c :: d :: r, s, pre, acc, k, hs, hm, ha, h4, hk => by
    simp only [List.length_cons] at ha hk h4
    obtain ⟨k, rfl⟩ : ∃ m, k = m + 4 := ⟨k - 4, by omega⟩
    have hz := size_of hs
    simp only [List.length_append, List.length_cons] at hz
    rcases val_cases a with va | ⟨a0, a1, a2⟩
    · rw [dstep_bad hs (by omega) acc 0 0 (k + 3) (by omega)]
      simp only [dec64]; rw [if_pos (by omega)]
    rw [dstep_0 hs hm a0 a1 acc (k + 3) (by omega)]
    have hs1 : bytesOf s = (pre ++ [a]) ++ b :: c :: d :: r := by rw [hs]; simp
    rcases val_cases b with vb | ⟨b0, b1, b2⟩
    · rw [dstep_bad hs1 (by omega) acc _ _ (k + 2) (by omega)]
      simp only [dec64]; rw [if_neg (by omega), if_pos (by omega)]
    rw [dstep_n hs1 hm b0 b1 acc (val a) 6 4 (by omega) (by omega) a0 a1 (by omega) (k + 2) (by omega)]
    have hs2 : bytesOf s = (pre ++ [a] ++ [b]) ++ c :: d :: r := by rw [hs]; simp
    rcases val_cases c with vc | ⟨c0, c1, c2⟩
    · rw [dstep_bad hs2 (by omega) _ _ _ (k + 1) (by omega)]
      simp only [dec64]; rw [if_neg (by omega), if_neg (by omega), if_pos (by omega)]
    rw [dstep_n hs2 hm c0 c1 _ ((val a * 64 + val b) % 2 ^ 4) ((4 : Nat) : Int) 2 (by omega) (by omega) (by omega) (by omega) (by simp; omega) (k + 1) (by omega)]
    have hs3 : bytesOf s = (pre ++ [a] ++ [b] ++ [c]) ++ d :: r := by rw [hs]; simp
    rcases val_cases d with vd | ⟨d0, d1, d2⟩
    · rw [dstep_bad hs3 (by omega) _ _ _ k (by omega)]
      simp only [dec64]; rw [if_neg (by omega), if_neg (by omega), if_neg (by omega), if_pos (by omega)]
    rw [dstep_n hs3 hm d0 d1 _ (((val a * 64 + val b) % 2 ^ 4 * 64 + val c) % 2 ^ 2) ((2 : Nat) : Int) 0 (by omega) (by omega) (by omega) (by omega) (by simp; omega) k (by omega)]
    have hs4 : bytesOf s = (pre ++ [a] ++ [b] ++ [c] ++ [d]) ++ r := by rw [hs]; simp
    have ih := dloop r s _ (acc ++ [(val a * 64 + val b) / 2 ^ 4 % 256] ++ [((val a * 64 + val b) % 2 ^ 4 * 64 + val c) / 2 ^ 2 % 256] ++ [(((val a * 64 + val b) % 2 ^ 4 * 64 + val c) % 2 ^ 2 * 64 + val d) / 2 ^ 0 % 256]) k hs4 hm (by simp; omega) (by omega) (by omega)
    rw [show ((((val a * 64 + val b) % 2 ^ 4 * 64 + val c) % 2 ^ 2 * 64 + val d) % 2 ^ 0 : Int) = 0 from by omega, show (((0 : Nat) : Int)) = 0 from rfl, ih]
    simp only [dec64]
    rw [if_neg (by omega), if_neg (by omega), if_neg (by omega), if_neg (by omega)]
    rw [show (val a * 64 + val b) / 2 ^ 4 % 256 = val a * 4 + val b / 16 from by omega, show ((val a * 64 + val b) % 2 ^ 4 * 64 + val c) / 2 ^ 2 % 256 = val b % 16 * 16 + val c / 4 from by omega, show (((val a * 64 + val b) % 2 ^ 4 * 64 + val c) % 2 ^ 2 * 64 + val d) / 2 ^ 0 % 256 = val c % 4 * 64 + val d from by omega]
    cases dec64 r with
    | none => rfl
    | some l => simp

/-- One '=' less behind. -/
def trim1 (s : ByteArray) : ByteArray := if 1 ≤ s.size ∧ bt s ((s.size : Int) - 1) = 61 then s.extract 0 (s.size - 1) else s
theorem trim_f (s : ByteArray) (hm : s.size ≤ 1048576) : strings_TrimSuffix.f s (⟨#[61]⟩ : ByteArray) = some (trim1 s) := by
  have hw1 := Aside0.mk (w64 (x := (s.size : Int) - 1) (by omega) (by omega))
  have h1 : ((⟨#[61]⟩ : ByteArray).size : Int) = 1 := rfl
  unfold strings_TrimSuffix.f stringslite_TrimSuffix.f stringslite_HasSuffix.f trim1
  simp only [h1, hw1.out]
  by_cases h0 : 1 ≤ s.size
  · rw [if_pos (by omega), if_pos (by omega), if_pos (by omega)]
    simp only [Option.bind_some]
    have hx : ((s.extract (((s.size : Int) - 1).toNat) s.size).toList == (⟨#[61]⟩ : ByteArray).toList) = decide (bt s ((s.size : Int) - 1) = 61) := by
      rw [Bool.eq_iff_iff, beq_iff_eq, decide_eq_true_iff, toList_iff, bytesOf_extract, ← rd_bytesOf]
      have hl := bytesOf_length s
      have hd : (bytesOf s).drop (((s.size : Int) - 1).toNat) = [rd (bytesOf s) ((s.size : Int) - 1)] := by
        rw [List.drop_eq_getElem_cons (by omega), List.drop_eq_nil_of_le (by omega)]
        simp only [rd, List.getD_eq_getElem?_getD]
        rw [List.getElem?_eq_getElem (by omega)]
        rfl
      rw [hd, show s.size - ((s.size : Int) - 1).toNat = 1 from by omega]
      simp [bytesOf]
    rw [hx]
    by_cases e : bt s ((s.size : Int) - 1) = 61
    · rw [if_pos (by simpa using e), if_pos (by omega), if_pos (by omega), if_pos ⟨h0, e⟩]
      simp only [Option.bind_some]
      rw [show ((s.size : Int) - 1).toNat = s.size - 1 from by omega]
    · rw [if_neg (by simpa using e), if_neg (fun h => e h.2)]
      rfl
  · rw [if_neg (by omega)]
    simp only [Option.bind_some]
    rw [if_neg (by simp), if_neg (fun h => h0 h.1)]
    rfl
theorem trim1_size (s : ByteArray) : (trim1 s).size ≤ s.size := by
  unfold trim1
  split
  · rw [ByteArray.size_extract]; omega
  · omega
theorem trim1_eq {s : ByteArray} {l : List Int} (h : bytesOf s = l ++ [61]) : bytesOf (trim1 s) = l := by
  have hz := size_of h
  simp only [List.length_append, List.length_cons, List.length_nil] at hz
  unfold trim1
  rw [if_pos ⟨by omega, by rw [show (s.size : Int) - 1 = (l.length : Int) from by omega]; exact bt_mid (r := []) h⟩]
  rw [bytesOf_extract, h]
  simp [hz]
theorem trim1_ne {s : ByteArray} (h : ∀ l, bytesOf s ≠ l ++ [61]) : trim1 s = s := by
  unfold trim1
  rw [if_neg]
  rintro ⟨h1, h2⟩
  have hl := bytesOf_length s
  apply h ((bytesOf s).dropLast)
  have hne : bytesOf s ≠ [] := fun e => by rw [e] at hl; simp at hl; omega
  rw [← rd_bytesOf] at h2
  refine (List.dropLast_concat_getLast hne).symm.trans ?_
  congr 2
  rw [List.getLast_eq_getElem]
  rw [← h2]
  simp only [rd, List.getD_eq_getElem?_getD]
  rw [List.getElem?_eq_getElem (by omega)]
  simp only [Option.getD_some]
  congr 1
  omega
theorem trim1_cases (s : ByteArray) : (∃ l, bytesOf s = l ++ [61] ∧ bytesOf (trim1 s) = l) ∨ ((∀ l, bytesOf s ≠ l ++ [61]) ∧ trim1 s = s) := by
  by_cases h : ∃ l, bytesOf s = l ++ [61]
  · obtain ⟨l, h⟩ := h
    exact .inl ⟨l, h, trim1_eq h⟩
  · have h' : ∀ l, bytesOf s ≠ l ++ [61] := fun l e => h ⟨l, e⟩
    exact .inr ⟨h', trim1_ne h'⟩

/-- What a text is read as. -/
def b64Is (s : ByteArray) (r : List Int × Int) : Prop :=
  (s.size > 1048576 ∧ r = ([], 2)) ∨ (s.size ≤ 1048576 ∧ ((∃ l, Bytes l ∧ enc64 l = bytesOf s ∧ r = (l, 0)) ∨ ((∀ l, Bytes l → enc64 l ≠ bytesOf s) ∧ r = ([], 60))))
theorem enc64_inj {a b : List Int} (ha : Bytes a) (hb : Bytes b) (h : enc64 a = enc64 b) : a = b := by
  obtain ⟨s, e1, e2, e3⟩ := enc64_body ha
  obtain ⟨t, f1, f2, f3⟩ := enc64_body hb
  have key : ∀ (s t : List Int) (m n : Nat), s ++ pads m = t ++ pads n → (s ≠ [] → ∃ s' x, s = s' ++ [x] ∧ x ≠ (61 : Int)) → (t ≠ [] → ∃ s' x, t = s' ++ [x] ∧ x ≠ (61 : Int)) → s = t := by
    intro s t m n h hs ht
    have hp : ∀ n, ∃ k, pads n = List.replicate k 61 := by
      intro n
      unfold pads
      split
      · exact ⟨2, rfl⟩
      split
      · exact ⟨1, rfl⟩
      · exact ⟨0, rfl⟩
    obtain ⟨k1, h1⟩ := hp m
    obtain ⟨k2, h2⟩ := hp n
    rw [h1, h2] at h
    have hd : ∀ (s : List Int) (k : Nat), (s ≠ [] → ∃ s' x, s = s' ++ [x] ∧ x ≠ (61 : Int)) → (s ++ List.replicate k 61).reverse.dropWhile (· == 61) = s.reverse := by
      intro s k hs
      rw [List.reverse_append, List.reverse_replicate]
      have : ∀ k, (List.replicate k (61 : Int) ++ s.reverse).dropWhile (· == 61) = s.reverse.dropWhile (· == 61) := by
        intro k
        induction k with
        | zero => rfl
        | succ k ih => rw [List.replicate_succ, List.cons_append, List.dropWhile_cons_of_pos (by simp), ih]
      rw [this]
      by_cases e : s = []
      · subst e; rfl
      · obtain ⟨s', x, rfl, hx⟩ := hs e
        rw [List.reverse_append]
        simp only [List.reverse_cons, List.reverse_nil, List.nil_append, List.singleton_append]
        rw [List.dropWhile_cons_of_neg (by simpa using hx)]
    have := hd s k1 hs
    rw [h, hd t k2 ht] at this
    exact List.reverse_inj.1 this.symm
  have : s = t := key s t _ _ (by rw [← e1, ← f1, h]) e3 f3
  subst this
  rw [e2] at f2
  exact Option.some.inj f2
theorem b64Is_unique {s : ByteArray} {r q : List Int × Int} (h : b64Is s r) (g : b64Is s q) : r = q := by
  rcases h with ⟨h, rfl⟩ | ⟨h, h'⟩ <;> rcases g with ⟨g, rfl⟩ | ⟨g, g'⟩
  · rfl
  · omega
  · omega
  rcases h' with ⟨l, h1, h2, rfl⟩ | ⟨h1, rfl⟩ <;> rcases g' with ⟨m, g1, g2, rfl⟩ | ⟨g1, rfl⟩
  · rw [enc64_inj h1 g1 (h2.trans g2.symm)]
  · exact absurd h2 (g1 l h1)
  · exact absurd g2 (h1 m g1)
  · rfl
theorem pads_cases (n : Nat) : pads n = [] ∨ pads n = [61] ∨ pads n = [61, 61] := by
  unfold pads
  split
  · exact .inr (.inr rfl)
  split
  · exact .inr (.inl rfl)
  · exact .inl rfl
/-- The two trims: what is left, and how much went. -/
theorem trims (s : ByteArray) : ∃ j, j ≤ 2 ∧ bytesOf s = bytesOf (trim1 (trim1 s)) ++ List.replicate j 61 := by
  rcases trim1_cases s with ⟨l, h1, h2⟩ | ⟨_, h2⟩
  · rcases trim1_cases (trim1 s) with ⟨m, h3, h4⟩ | ⟨_, h4⟩
    · exact ⟨2, by omega, by rw [h1, ← h2, h3, h4]; simp⟩
    · exact ⟨1, by omega, by rw [h4, h1, h2]; rfl⟩
  · rw [h2, h2]
    exact ⟨0, by omega, by simp⟩
theorem trims_of {s : ByteArray} {b : List Int} {n : Nat} (h : bytesOf s = b ++ pads n) (hb : b ≠ [] → ∃ s' x, b = s' ++ [x] ∧ x ≠ (61 : Int)) : bytesOf (trim1 (trim1 s)) = b := by
  have hn : ∀ l, b ≠ l ++ [61] := by
    intro l e
    obtain ⟨s', x, e2, hx⟩ := hb (by rw [e]; simp)
    rw [e] at e2
    exact hx (by simpa using (List.append_inj_right' e2 rfl).symm)
  rcases pads_cases n with e | e | e <;> rw [e] at h
  · rw [List.append_nil] at h
    have h1 : trim1 s = s := trim1_ne (by rw [h]; exact hn)
    rw [h1, h1, h]
  · have h1 := trim1_eq h
    have h2 : trim1 (trim1 s) = trim1 s := trim1_ne (by rw [h1]; exact hn)
    rw [h2, h1]
  · have h1 : bytesOf (trim1 s) = b ++ [61] := trim1_eq (by rw [h]; simp)
    exact trim1_eq h1
def dec64r (s : ByteArray) : List Int × Int := match dec64 (bytesOf (trim1 (trim1 s))) with | some l => (l, 0) | none => ([], 60)
theorem dec64r_is (s : ByteArray) (hm : s.size ≤ 1048576) (h4 : s.size % 4 = 0) : b64Is s (dec64r s) := by
  obtain ⟨j, hj, hs⟩ := trims s
  have hz := size_of hs
  rw [List.length_append, List.length_replicate] at hz
  refine .inr ⟨hm, ?_⟩
  unfold dec64r
  cases he : dec64 (bytesOf (trim1 (trim1 s))) with
  | some l =>
    obtain ⟨h1, h2, h3⟩ := dec64_sound _ _ he
    refine .inl ⟨l, h1, ?_, rfl⟩
    rw [h2, hs]
    congr 1
    rcases pads_cases l.length with e | e | e <;> rw [e] at h3 ⊢ <;> simp only [List.length_nil, List.length_cons] at h3
    · rw [show j = 0 from by omega]; rfl
    · rw [show j = 1 from by omega]; rfl
    · rw [show j = 2 from by omega]; rfl
  | none =>
    refine .inr ⟨fun l hb hl => ?_, rfl⟩
    obtain ⟨b, e1, e2, e3⟩ := enc64_body hb
    have := trims_of (hl.symm.trans e1) e3
    rw [this, e2] at he
    cases he
theorem dec64_main (s : ByteArray) (hm : s.size ≤ 1048576) (h4 : s.size % 4 = 0) (k : Nat) (hk : s.size + 9 ≤ k) : text_DecodeBase64.l0 k (trim1 (trim1 s)) [] 0 0 ((trim1 (trim1 s)).size : Int) 0 = some (dec64r s) := by
  have hm2 := trim1_size s
  have hm3 := trim1_size (trim1 s)
  obtain ⟨j, hj, hs⟩ := trims s
  have hz := size_of hs
  rw [List.length_append, List.length_replicate] at hz
  have hl := bytesOf_length (trim1 (trim1 s))
  have hd := dloop (bytesOf (trim1 (trim1 s))) (trim1 (trim1 s)) [] [] k rfl (by omega) (by simp only [List.length_nil]; omega) (by omega) (by omega)
  unfold dec64r
  simp only [List.length_nil, List.nil_append] at hd
  exact hd
theorem dec64_in (s : ByteArray) (hm : s.size ≤ 1048576) (h4 : s.size % 4 = 0) (k : Nat) (hk : s.size + 9 ≤ k) : text_DecodeBase64.f k s = some (dec64r s) := by
  have hm2 := trim1_size s
  have hw1 := Aside0.mk (w64 (x := (s.size : Int) / 4) (by omega) (by omega))
  have hw2 := Aside0.mk (w64 (x := (s.size : Int) / 4 * 3) (by omega) (by omega))
  have hmain := dec64_main s hm h4 k hk
  have t1 := trim_f s hm
  have t2 := trim_f (trim1 s) (by omega)
  have c1 : ¬ (s.size : Int) > 1048576 := by omega
  have c2 : (s.size : Int) % 4 = 0 := by omega
  have c3 : 0 ≤ (s.size : Int) / 4 * 3 := by omega
  have c4 : ((s.size : Int) / 4 * 3).toNat ≤ 281474976710656 := by omega
  unfold text_DecodeBase64.f
  rw [if_neg c1, if_pos c2, t1, Option.bind_some, t2, Option.bind_some, hw1.out, hw2.out, if_pos c3, if_pos c4]
  exact hmain
theorem dec64_f (s : ByteArray) (k : Nat) (hk : s.size + 9 ≤ k) : ∃ r, text_DecodeBase64.f k s = some r ∧ b64Is s r := by
  by_cases hm : s.size ≤ 1048576
  · by_cases h4 : s.size % 4 = 0
    · exact ⟨_, dec64_in s hm h4 k hk, dec64r_is s hm h4⟩
    · have c1 : ¬ (s.size : Int) > 1048576 := by omega
      have c2 : ¬ (s.size : Int) % 4 = 0 := by omega
      refine ⟨([], 60), ?_, .inr ⟨hm, .inr ⟨fun l hb hl => ?_, rfl⟩⟩⟩
      · unfold text_DecodeBase64.f
        rw [if_neg c1, if_neg c2]
      · have h1 := enc64_length l
        rw [hl, bytesOf_length] at h1
        omega
  · have c1 : (s.size : Int) > 1048576 := by omega
    refine ⟨([], 2), ?_, .inl ⟨by omega, rfl⟩⟩
    unfold text_DecodeBase64.f
    rw [if_pos c1]
end Go.Proofs.YtljinjgamgmocaaDoor.Pure
