/- TextPlains: plain and plain is plain; no control characters. -/
import Derived.Test.YtljinjgamgmocaaDoorPPlain
namespace Go.Proofs.YtljinjgamgmocaaDoor.Pure
open Go.RowKit Go.Proofs.YtljinjgamgmocaaDoor.G Go.Proofs.YtljinjgamgmocaaDoorW.PrintWords Go.Proofs.YtljinjgamgmocaaDoorW.PrintLast Go.Proofs.YtljinjgamgmocaaDoorW.PrintMore
set_option linter.unusedSimpArgs false
set_option linter.unusedVariables false

/-- What the decoder tells at a place, where it is no fault. -/
theorem dec_cases (t : ByteArray) (p : Nat) : Utf8.decode t p = (65533, 1) ∨ (by' t p < 128 ∧ Utf8.decode t p = (by' t p, 1)) ∨
    (by' t p / 32 = 6 ∧ p + 1 < t.size ∧ by' t (p + 1) / 64 = 2 ∧ by' t p % 32 * 64 + by' t (p + 1) % 64 ≥ 128 ∧ Utf8.decode t p = (by' t p % 32 * 64 + by' t (p + 1) % 64, 2)) ∨
    (by' t p / 16 = 14 ∧ p + 1 < t.size ∧ by' t (p + 1) / 64 = 2 ∧ p + 2 < t.size ∧ by' t (p + 2) / 64 = 2 ∧ by' t p % 16 * 4096 + by' t (p + 1) % 64 * 64 + by' t (p + 2) % 64 ≥ 2048 ∧ Utf8.valid ((by' t p % 16 * 4096 + by' t (p + 1) % 64 * 64 + by' t (p + 2) % 64 : Nat) : Int) = true ∧ Utf8.decode t p = (by' t p % 16 * 4096 + by' t (p + 1) % 64 * 64 + by' t (p + 2) % 64, 3)) ∨
    (by' t p / 8 = 30 ∧ p + 1 < t.size ∧ by' t (p + 1) / 64 = 2 ∧ p + 2 < t.size ∧ by' t (p + 2) / 64 = 2 ∧ p + 3 < t.size ∧ by' t (p + 3) / 64 = 2 ∧ by' t p % 8 * 262144 + by' t (p + 1) % 64 * 4096 + by' t (p + 2) % 64 * 64 + by' t (p + 3) % 64 ≥ 65536 ∧ Utf8.valid ((by' t p % 8 * 262144 + by' t (p + 1) % 64 * 4096 + by' t (p + 2) % 64 * 64 + by' t (p + 3) % 64 : Nat) : Int) = true ∧ Utf8.decode t p = (by' t p % 8 * 262144 + by' t (p + 1) % 64 * 4096 + by' t (p + 2) % 64 * 64 + by' t (p + 3) % 64, 4)) := by
  have e : ∀ i, (t.get! i).toNat = by' t i := fun i => rfl
  unfold Utf8.decode
  simp only [e, Nat.add_zero, Bool.and_eq_true, decide_eq_true_eq, beq_iff_eq, Utf8.runeError]
  generalize by' t p = a
  generalize by' t (p + 1) = b
  generalize by' t (p + 2) = c
  generalize by' t (p + 3) = d
  by_cases g0 : a < 128
  · rw [if_pos g0]; exact .inr (.inl ⟨g0, rfl⟩)
  rw [if_neg g0]
  by_cases g1 : a / 32 = 6 ∧ p + 1 < t.size ∧ b / 64 = 2
  · rw [if_pos g1]
    by_cases g : a % 32 * 64 + b % 64 ≥ 128
    · rw [if_pos g]; exact .inr (.inr (.inl ⟨g1.1, g1.2.1, g1.2.2, g, rfl⟩))
    · rw [if_neg g]; exact .inl rfl
  rw [if_neg g1]
  by_cases g2 : (a / 16 = 14 ∧ p + 1 < t.size ∧ b / 64 = 2) ∧ p + 2 < t.size ∧ c / 64 = 2
  · rw [if_pos g2]
    by_cases g : a % 16 * 4096 + b % 64 * 64 + c % 64 ≥ 2048 ∧ Utf8.valid ((a % 16 * 4096 + b % 64 * 64 + c % 64 : Nat) : Int) = true
    · rw [if_pos g]; exact .inr (.inr (.inr (.inl ⟨g2.1.1, g2.1.2.1, g2.1.2.2, g2.2.1, g2.2.2, g.1, g.2, rfl⟩)))
    · rw [if_neg g]; exact .inl rfl
  rw [if_neg g2]
  by_cases g3 : ((a / 8 = 30 ∧ p + 1 < t.size ∧ b / 64 = 2) ∧ p + 2 < t.size ∧ c / 64 = 2) ∧ p + 3 < t.size ∧ d / 64 = 2
  · rw [if_pos g3]
    by_cases g : a % 8 * 262144 + b % 64 * 4096 + c % 64 * 64 + d % 64 ≥ 65536 ∧ Utf8.valid ((a % 8 * 262144 + b % 64 * 4096 + c % 64 * 64 + d % 64 : Nat) : Int) = true
    · rw [if_pos g]; exact .inr (.inr (.inr (.inr ⟨g3.1.1.1, g3.1.1.2.1, g3.1.1.2.2, g3.1.2.1, g3.1.2.2, g3.2.1, g3.2.2, g.1, g.2, rfl⟩)))
    · rw [if_neg g]; exact .inl rfl
  rw [if_neg g3]
  exact .inl rfl
theorem dec_one (t : ByteArray) (p : Nat) (h : by' t p < 128) : Utf8.decode t p = (by' t p, 1) := by
  have e : ∀ i, (t.get! i).toNat = by' t i := fun i => rfl
  unfold Utf8.decode
  simp only [e, Nat.add_zero]
  rw [if_pos h]
theorem dec_two (t : ByteArray) (p : Nat) (h0 : by' t p / 32 = 6) (h1 : p + 1 < t.size) (h2 : by' t (p + 1) / 64 = 2) (h3 : by' t p % 32 * 64 + by' t (p + 1) % 64 ≥ 128) : Utf8.decode t p = (by' t p % 32 * 64 + by' t (p + 1) % 64, 2) := by
  have e : ∀ i, (t.get! i).toNat = by' t i := fun i => rfl
  unfold Utf8.decode
  simp only [e, Nat.add_zero, Bool.and_eq_true, decide_eq_true_eq, beq_iff_eq]
  rw [if_neg (by omega), if_pos ⟨h0, h1, h2⟩, if_pos h3]
theorem dec_three (t : ByteArray) (p : Nat) (h0 : by' t p / 16 = 14) (h1 : p + 1 < t.size) (h2 : by' t (p + 1) / 64 = 2) (h3 : p + 2 < t.size) (h4 : by' t (p + 2) / 64 = 2)
    (h5 : by' t p % 16 * 4096 + by' t (p + 1) % 64 * 64 + by' t (p + 2) % 64 ≥ 2048) (h6 : Utf8.valid ((by' t p % 16 * 4096 + by' t (p + 1) % 64 * 64 + by' t (p + 2) % 64 : Nat) : Int) = true) : Utf8.decode t p = (by' t p % 16 * 4096 + by' t (p + 1) % 64 * 64 + by' t (p + 2) % 64, 3) := by
  have e : ∀ i, (t.get! i).toNat = by' t i := fun i => rfl
  unfold Utf8.decode
  simp only [e, Nat.add_zero, Bool.and_eq_true, decide_eq_true_eq, beq_iff_eq]
  rw [if_neg (by omega), if_neg (by omega), if_pos ⟨⟨h0, h1, h2⟩, h3, h4⟩, if_pos ⟨h5, h6⟩]
theorem dec_four (t : ByteArray) (p : Nat) (h0 : by' t p / 8 = 30) (h1 : p + 1 < t.size) (h2 : by' t (p + 1) / 64 = 2) (h3 : p + 2 < t.size) (h4 : by' t (p + 2) / 64 = 2) (h5 : p + 3 < t.size) (h6 : by' t (p + 3) / 64 = 2)
    (h7 : by' t p % 8 * 262144 + by' t (p + 1) % 64 * 4096 + by' t (p + 2) % 64 * 64 + by' t (p + 3) % 64 ≥ 65536) (h8 : Utf8.valid ((by' t p % 8 * 262144 + by' t (p + 1) % 64 * 4096 + by' t (p + 2) % 64 * 64 + by' t (p + 3) % 64 : Nat) : Int) = true) :
    Utf8.decode t p = (by' t p % 8 * 262144 + by' t (p + 1) % 64 * 4096 + by' t (p + 2) % 64 * 64 + by' t (p + 3) % 64, 4) := by
  have e : ∀ i, (t.get! i).toNat = by' t i := fun i => rfl
  unfold Utf8.decode
  simp only [e, Nat.add_zero, Bool.and_eq_true, decide_eq_true_eq, beq_iff_eq]
  rw [if_neg (by omega), if_neg (by omega), if_neg (by omega), if_pos ⟨⟨⟨h0, h1, h2⟩, h3, h4⟩, h5, h6⟩, if_pos ⟨h7, h8⟩]
/-- A letter that is no fault: where it ends, and what stands in it; and it is read so wherever these bytes stand. -/
theorem dec_good (t : ByteArray) (p : Nat) (hp : p < t.size) (hg : Utf8.decode t p ≠ (65533, 1)) :
    p + (Utf8.decode t p).2 ≤ t.size ∧ (∀ i, 1 ≤ i → i < (Utf8.decode t p).2 → 128 ≤ by' t (p + i)) ∧
    (∀ (t' : ByteArray) (p' : Nat), p' < t'.size → (∀ i, p + i < t.size → p' + i < t'.size ∧ by' t' (p' + i) = by' t (p + i)) → Utf8.decode t' p' = Utf8.decode t p) := by
  rcases dec_cases t p with h | ⟨h0, h⟩ | ⟨h0, h1, h2, h3, h⟩ | ⟨h0, h1, h2, h3, h4, h5, h6, h⟩ | ⟨h0, h1, h2, h3, h4, h5, h6, h7, h8, h⟩
  · exact absurd h hg
  · rw [h]
    refine ⟨hp, fun i a b => by simp only at b; omega, fun t' p' _ hh => ?_⟩
    have e0 := (hh 0 hp).2
    simp only [Nat.add_zero] at e0
    rw [dec_one t' p' (by omega), e0]
  · rw [h]
    refine ⟨by simp only; omega, fun i a b => ?_, fun t' p' _ hh => ?_⟩
    · simp only at b
      obtain rfl : i = 1 := by omega
      omega
    · have e0 := (hh 0 hp).2
      simp only [Nat.add_zero] at e0
      obtain ⟨s1, e1⟩ := hh 1 h1
      rw [dec_two t' p' (by omega) s1 (by omega) (by rw [e0, e1]; exact h3), e0, e1]
  · rw [h]
    refine ⟨by simp only; omega, fun i a b => ?_, fun t' p' _ hh => ?_⟩
    · simp only at b
      rcases (by omega : i = 1 ∨ i = 2) with rfl | rfl <;> omega
    · have e0 := (hh 0 hp).2
      simp only [Nat.add_zero] at e0
      obtain ⟨s1, e1⟩ := hh 1 h1
      obtain ⟨s2, e2⟩ := hh 2 h3
      rw [dec_three t' p' (by omega) s1 (by omega) s2 (by omega) (by rw [e0, e1, e2]; exact h5) (by rw [e0, e1, e2]; exact h6), e0, e1, e2]
  · rw [h]
    refine ⟨by simp only; omega, fun i a b => ?_, fun t' p' _ hh => ?_⟩
    · simp only at b
      rcases (by omega : i = 1 ∨ i = 2 ∨ i = 3) with rfl | rfl | rfl <;> omega
    · have e0 := (hh 0 hp).2
      simp only [Nat.add_zero] at e0
      obtain ⟨s1, e1⟩ := hh 1 h1
      obtain ⟨s2, e2⟩ := hh 2 h3
      obtain ⟨s3, e3⟩ := hh 3 h5
      rw [dec_four t' p' (by omega) s1 (by omega) s2 (by omega) s3 (by omega) (by rw [e0, e1, e2, e3]; exact h7) (by rw [e0, e1, e2, e3]; exact h8), e0, e1, e2, e3]
/-- The test of one letter. -/
def Bad (dn : Nat × Nat) : Prop := dn.1 = 65533 ∧ dn.2 = 1 ∨ dn.1 < 32 ∧ dn.1 ≠ 10 ∨ dn.1 = 127
instance (dn : Nat × Nat) : Decidable (Bad dn) := by unfold Bad; infer_instance
theorem plainGo_step (s : ByteArray) (f p : Nat) (h : p < s.size) : plainGo s (f + 1) p = if Bad (Utf8.decode s p) then 65 else plainGo s f (p + (Utf8.decode s p).2) := by
  rw [plainGo, if_pos h]
  rfl
theorem not_bad_ne {dn : Nat × Nat} (h : ¬ Bad dn) : dn ≠ (65533, 1) := fun e => h (.inl ⟨by rw [e], by rw [e]⟩)
theorem by_app_left (a b : ByteArray) (i : Nat) (h : i < a.size) : by' (a ++ b) i = by' a i := by
  have h1 := bt_by (a ++ b) i (by rw [ByteArray.size_append]; omega)
  have h2 := bt_by a i h
  rw [← rd_bytesOf, bytesOf_append] at h1
  rw [← rd_bytesOf] at h2
  have : rd (bytesOf a ++ bytesOf b) (i : Int) = rd (bytesOf a) (i : Int) := by
    unfold rd
    rw [Int.toNat_natCast, List.getD_eq_getElem?_getD, List.getD_eq_getElem?_getD, List.getElem?_append_left (by rw [bytesOf_length]; exact h)]
  omega
theorem by_app_right (a b : ByteArray) (i : Nat) (h : i < b.size) : by' (a ++ b) (a.size + i) = by' b i := by
  have h1 := bt_by (a ++ b) (a.size + i) (by rw [ByteArray.size_append]; omega)
  have h2 := bt_by b i h
  rw [← rd_bytesOf, bytesOf_append] at h1
  rw [← rd_bytesOf] at h2
  have := rd_app (bytesOf a) (bytesOf b) i
  rw [bytesOf_length] at this
  omega
/-- What is told does not hang on how far one may go. -/
theorem plainGo_fuel (s : ByteArray) : ∀ (f g p : Nat), s.size < p + f → s.size < p + g → plainGo s f p = plainGo s g p := by
  intro f
  induction f with
  | zero => intro g p h1 h2; rw [plainGo_end s 0 p (by omega), plainGo_end s g p (by omega)]
  | succ f ih =>
    intro g p h1 h2
    by_cases h : p < s.size
    · obtain ⟨g, rfl⟩ : ∃ m, g = m + 1 := ⟨g - 1, by omega⟩
      have hw := width_pos s p h
      rw [plainGo_step s f p h, plainGo_step s g p h, ih g _ (by omega) (by omega)]
    · rw [plainGo_end s _ p h, plainGo_end s _ p h]
theorem plain_right (a b : ByteArray) : ∀ (f p : Nat), b.size < p + f → plainGo b f p = 0 → plainGo (a ++ b) f (a.size + p) = 0 := by
  intro f
  induction f with
  | zero => intro p h1 _; exact plainGo_end _ _ _ (by rw [ByteArray.size_append]; omega)
  | succ f ih =>
    intro p h1 h
    by_cases hp : p < b.size
    · rw [plainGo_step b f p hp] at h
      by_cases hb : Bad (Utf8.decode b p)
      · rw [if_pos hb] at h; cases h
      rw [if_neg hb] at h
      have hw := width_pos b p hp
      have hd := (dec_good b p hp (not_bad_ne hb)).2.2 (a ++ b) (a.size + p) (by rw [ByteArray.size_append]; omega) (fun i hi => ⟨by rw [ByteArray.size_append]; omega, by rw [Nat.add_assoc]; exact by_app_right a b (p + i) hi⟩)
      rw [plainGo_step (a ++ b) f _ (by rw [ByteArray.size_append]; omega), hd, if_neg hb, Nat.add_assoc]
      exact ih _ (by omega) h
    · exact plainGo_end _ _ _ (by rw [ByteArray.size_append]; omega)
theorem plain_left (a b : ByteArray) (hb0 : plainGo b (b.size + 1) 0 = 0) : ∀ (f p : Nat), a.size < p + f → p ≤ a.size → plainGo a f p = 0 → plainGo (a ++ b) (f + b.size + 1) p = 0 := by
  have hend : ∀ g, b.size < g → plainGo (a ++ b) g a.size = 0 := by
    intro g hg
    have := plain_right a b g 0 (by omega) (by rw [plainGo_fuel b g (b.size + 1) 0 (by omega) (by omega)]; exact hb0)
    simpa using this
  intro f
  induction f with
  | zero =>
    intro p h1 h2 _
    omega
  | succ f ih =>
    intro p h1 h2 h
    by_cases hp : p < a.size
    · rw [plainGo_step a f p hp] at h
      by_cases hb : Bad (Utf8.decode a p)
      · rw [if_pos hb] at h; cases h
      rw [if_neg hb] at h
      have hw := width_pos a p hp
      obtain ⟨g1, _, g3⟩ := dec_good a p hp (not_bad_ne hb)
      have hd := g3 (a ++ b) p (by rw [ByteArray.size_append]; omega) (fun i hi => ⟨by rw [ByteArray.size_append]; omega, by_app_left a b (p + i) hi⟩)
      rw [show f + 1 + b.size + 1 = (f + b.size + 1) + 1 from by omega, plainGo_step (a ++ b) _ _ (by rw [ByteArray.size_append]; omega), hd, if_neg hb]
      exact ih _ (by omega) g1 h
    · obtain rfl : p = a.size := by omega
      exact hend _ (by omega)
theorem plain_join (a b : ByteArray) (ha : plainGo a (a.size + 1) 0 = 0) (hb : plainGo b (b.size + 1) 0 = 0) : plainGo (a ++ b) ((a ++ b).size + 1) 0 = 0 := by
  rw [plainGo_fuel (a ++ b) _ (a.size + 1 + b.size + 1) 0 (by omega) (by rw [ByteArray.size_append]; omega)]
  exact plain_left a b hb (a.size + 1) 0 (by omega) (by omega) ha
/-- A control character. -/
def Ctl (c : Nat) : Prop := c = 127 ∨ c < 32 ∧ c ≠ 10
theorem plain_no_ctl (s : ByteArray) : ∀ (f p : Nat), s.size < p + f → plainGo s f p = 0 → ∀ i, p ≤ i → i < s.size → ¬ Ctl (by' s i) := by
  intro f
  induction f with
  | zero => intro p h1 _ i h2 h3; omega
  | succ f ih =>
    intro p h1 h i hi hs
    have hp : p < s.size := by omega
    rw [plainGo_step s f p hp] at h
    by_cases hb : Bad (Utf8.decode s p)
    · rw [if_pos hb] at h; cases h
    rw [if_neg hb] at h
    have hw := width_pos s p hp
    obtain ⟨g1, g2, _⟩ := dec_good s p hp (not_bad_ne hb)
    by_cases h4 : p + (Utf8.decode s p).2 ≤ i
    · exact ih _ (by omega) h i h4 hs
    · intro hc
      by_cases h5 : i = p
      · subst h5
        have hlt : by' s i < 128 := by rcases hc with h | h <;> omega
        rw [dec_one s i hlt] at hb
        apply hb
        rcases hc with h | h
        · exact .inr (.inr h)
        · exact .inr (.inl h)
      · have := g2 (i - p) (by omega) (by omega)
        rw [show p + (i - p) = i from by omega] at this
        rcases hc with h | h <;> omega
theorem plain_small (s : ByteArray) (hs : ∀ i, i < s.size → by' s i < 128 ∧ ¬ Ctl (by' s i)) : ∀ (f p : Nat), plainGo s f p = 0 := by
  intro f
  induction f with
  | zero => intro p; rfl
  | succ f ih =>
    intro p
    by_cases hp : p < s.size
    · obtain ⟨h1, h2⟩ := hs p hp
      rw [plainGo_step s f p hp, dec_one s p h1, if_neg]
      · exact ih _
      · rintro (h | h | h)
        · have := h.1; simp only at this; omega
        · exact h2 (.inr h)
        · exact h2 (.inl h)
    · exact plainGo_end s _ p hp
/-- The law's own loop: small: are all so far of one byte? control: was one a control character? -/
theorem plains_loop (s : ByteArray) (hm : s.size ≤ 1048576) (n : Nat) : ∀ (i k : Nat) (x8 x9 : Bool), s.size = i + n → n + 1 ≤ k → (x8 = true → ∀ j, j < i → by' s j < 128) → (x9 = true ↔ ∃ j, j < i ∧ Ctl (by' s j)) →
    ledgerlaw06_TextPlains.l0 k s (plainGo s (s.size + 1) 0) x8 x9 (i : Int) = some true := by
  induction n with
  | zero =>
    intro i k x8 x9 h hk h8 h9
    obtain ⟨k, rfl⟩ : ∃ m, k = m + 1 := ⟨k - 1, by omega⟩
    rw [ledgerlaw06_TextPlains.l0, if_neg (by omega)]
    have c1 : x9 = true → plainGo s (s.size + 1) 0 ≠ 0 := by
      intro hx e
      obtain ⟨j, hj, hc⟩ := h9.1 hx
      exact plain_no_ctl s _ 0 (by omega) e j (by omega) (by omega) hc
    have c2 : x8 = true → x9 = false → plainGo s (s.size + 1) 0 = 0 := by
      intro h1 h2
      refine plain_small s (fun j hj => ⟨h8 h1 j (by omega), fun hc => ?_⟩) _ _
      have := h9.2 ⟨j, by omega, hc⟩
      rw [h2] at this
      cases this
    cases x8 <;> cases x9 <;> simp_all
  | succ n ih =>
    intro i k x8 x9 h hk h8 h9
    obtain ⟨k, rfl⟩ : ∃ m, k = m + 1 := ⟨k - 1, by omega⟩
    have hi : i < s.size := by omega
    have hw := Aside0.mk (show wrap64 ((i : Int) + 1) = ((i + 1 : Nat) : Int) by rw [w64 (by omega) (by omega)]; omega)
    have hlt : ∀ j, j < i + 1 → j < i ∨ j = i := fun j hj => by omega
    rw [ledgerlaw06_TextPlains.l0, if_pos (by omega), if_pos (by omega), bt_by s i hi, hw.out]
    have go : ∀ x8' x9' : Bool, (x8' = true → x8 = true ∧ by' s i < 128) → (x9' = true ↔ x9 = true ∨ Ctl (by' s i)) → ledgerlaw06_TextPlains.l0 k s (plainGo s (s.size + 1) 0) x8' x9' ((i + 1 : Nat) : Int) = some true := by
      intro x8' x9' e8 e9
      refine ih (i + 1) k x8' x9' (by omega) (by omega) (fun hx j hj => ?_) ⟨fun hx => ?_, fun ⟨j, hj, hc⟩ => ?_⟩
      · rcases hlt j hj with h1 | rfl
        · exact h8 (e8 hx).1 j h1
        · exact (e8 hx).2
      · rcases e9.1 hx with h1 | h1
        · obtain ⟨j, hj, hc⟩ := h9.1 h1
          exact ⟨j, by omega, hc⟩
        · exact ⟨i, by omega, h1⟩
      · rcases hlt j hj with h1 | rfl
        · exact e9.2 (.inl (h9.2 ⟨j, h1, hc⟩))
        · exact e9.2 (.inr hc)
    by_cases g1 : (by' s i : Int) ≥ 128
    · rw [if_pos g1, if_neg (by omega), if_neg (by omega)]
      exact go false x9 (fun h => by cases h) ⟨.inl, fun h => h.elim id (fun hc => by rcases hc with h | h <;> omega)⟩
    · rw [if_neg g1]
      by_cases g2 : (by' s i : Int) = 127
      · rw [if_pos g2]
        exact go x8 true (fun h => ⟨h, by omega⟩) ⟨fun _ => .inr (.inl (by omega)), fun _ => rfl⟩
      rw [if_neg g2]
      by_cases g3 : (by' s i : Int) < 32
      · rw [if_pos g3]
        by_cases g4 : (by' s i : Int) = 10
        · rw [if_pos g4]
          exact go x8 x9 (fun h => ⟨h, by omega⟩) ⟨.inl, fun h => h.elim id (fun hc => by rcases hc with h | h <;> omega)⟩
        · rw [if_neg g4]
          exact go x8 true (fun h => ⟨h, by omega⟩) ⟨fun _ => .inr (.inr ⟨by omega, by omega⟩), fun _ => rfl⟩
      · rw [if_neg g3]
        exact go x8 x9 (fun h => ⟨h, by omega⟩) ⟨.inl, fun h => h.elim id (fun hc => by rcases hc with h | h <;> omega)⟩
theorem plains_j1 (a : ByteArray) (k : Nat) (hk : 1048600 ≤ k) (r : Int) (hr : text_Plain.f a = some r) : ledgerlaw06_TextPlains.j1 k a r = some true := by
  obtain ⟨k, rfl⟩ : ∃ m, k = m + 1 := ⟨k - 1, by omega⟩
  unfold text_Plain.f at hr
  rw [ledgerlaw06_TextPlains.j1]
  by_cases h : (a.size : Int) > 1048576
  · rw [if_pos h] at hr ⊢
    rw [← Option.some.inj hr]
    rfl
  · rw [if_neg h] at hr ⊢
    rw [← Option.some.inj hr]
    exact plains_loop a (by omega) a.size 0 k true false (by omega) (by omega) (fun _ j hj => by omega) ⟨fun h => (by cases h), fun ⟨j, hj, _⟩ => by omega⟩
theorem textPlains_some (a b : ByteArray) : ∃ k, ledgerlaw06_TextPlains.f k a b = some true := by
  obtain ⟨k, hk⟩ : ∃ k, 1048600 ≤ k := ⟨_, Nat.le_refl _⟩
  refine ⟨k + 1, ?_⟩
  obtain ⟨r, hr⟩ : ∃ r, text_Plain.f a = some r := ⟨_, rfl⟩
  obtain ⟨q, hq⟩ : ∃ q, text_Plain.f b = some q := ⟨_, rfl⟩
  have hj := plains_j1 a k hk r hr
  have hfalse : ledgerlaw06_TextPlains.j0 (k + 1) a b r false = some true := by
    rw [ledgerlaw06_TextPlains.j0, if_neg (by simp)]
    exact hj
  unfold ledgerlaw06_TextPlains.f
  rw [hr, hq]
  simp only [Option.bind_some]
  by_cases g1 : r = 0
  · rw [if_pos g1]
    by_cases g2 : q = 0
    · rw [if_pos g2]
      by_cases g3 : wrap64 ((a.size : Int) + (b.size : Int)) ≤ 1048576
      · rw [decide_eq_true g3, ledgerlaw06_TextPlains.j0, if_pos rfl]
        subst g1 g2
        have za : ¬ (a.size : Int) > 1048576 ∧ plainGo a (a.size + 1) 0 = 0 := by
          unfold text_Plain.f at hr
          by_cases h : (a.size : Int) > 1048576
          · rw [if_pos h] at hr; cases hr
          · rw [if_neg h] at hr; exact ⟨h, Option.some.inj hr⟩
        have zb : ¬ (b.size : Int) > 1048576 ∧ plainGo b (b.size + 1) 0 = 0 := by
          unfold text_Plain.f at hq
          by_cases h : (b.size : Int) > 1048576
          · rw [if_pos h] at hq; cases hq
          · rw [if_neg h] at hq; exact ⟨h, Option.some.inj hq⟩
        have hab : text_Plain.f (a ++ b) = some 0 := by
          rw [w64 (by omega) (by omega)] at g3
          unfold text_Plain.f
          rw [if_neg (by rw [ByteArray.size_append]; omega), plain_join a b za.2 zb.2]
        rw [if_pos (by omega), hab]
        simp only [Option.bind_some]
        rw [if_pos trivial]
        exact hj
      · rw [decide_eq_false g3]
        exact hfalse
    · rw [if_neg g2]
      exact hfalse
  · rw [if_neg g1]
    exact hfalse
end Go.Proofs.YtljinjgamgmocaaDoor.Pure
