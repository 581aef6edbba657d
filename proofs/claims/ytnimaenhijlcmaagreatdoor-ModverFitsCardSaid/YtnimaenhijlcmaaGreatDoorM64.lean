/- Base64 by plain lists of bytes. No program and no memory here. -/
import Derived.Test.YtnimaenhijlcmaaGreatDoorMLaw
namespace Go.Proofs.YtnimaenhijlcmaaGreatDoor.Mb
set_option linter.unusedVariables false
set_option linter.unusedSimpArgs false

def Byt (l : L) : Prop := ∀ x ∈ l, 0 ≤ x ∧ x ≤ 255
theorem Byt.nil : Byt [] := fun x h => by cases h
theorem Byt.mk {a : Int} {l : L} (h0 : 0 ≤ a) (h1 : a ≤ 255) (h : Byt l) : Byt (a :: l) := fun x hx => by
  rcases List.mem_cons.1 hx with rfl | hx
  · exact ⟨h0, h1⟩
  · exact h x hx
/-- A letter. -/
def lt (x : Int) : Int := if x < 26 then x + 65 else if x < 52 then x + 71 else if x < 62 then x - 4 else if x = 62 then 43 else 47
/-- What a letter is worth; -1: it is none. -/
def val (c : Int) : Int := if 65 ≤ c ∧ c ≤ 90 then c - 65 else if 97 ≤ c ∧ c ≤ 122 then c - 97 + 26 else if 48 ≤ c ∧ c ≤ 57 then c - 48 + 52 else if c = 43 then 62 else if c = 47 then 63 else -1
def enc64 : L → L
  | [] => []
  | [a] => [lt (a / 4), lt (a % 4 * 16), 61, 61]
  | [a, b] => [lt (a / 4), lt (a % 4 * 16 + b / 16), lt (b % 16 * 4), 61]
  | a :: b :: c :: r => lt (a / 4) :: lt (a % 4 * 16 + b / 16) :: lt (b % 16 * 4 + c / 64) :: lt (c % 64) :: enc64 r
theorem lt_at {x : Int} (h0 : 0 ≤ x) (h1 : x < 64) : 0 ≤ lt x ∧ lt x ≤ 255 ∧ val (lt x) = x := by
  unfold lt val
  (repeat' split) <;> omega
theorem val_61 : val 61 = -1 := by decide
theorem val_cases (c : Int) : val c = -1 ∨ (0 ≤ val c ∧ val c < 64 ∧ lt (val c) = c) := by
  unfold lt val
  (repeat' split) <;> omega
theorem enc64_length : ∀ l : L, (enc64 l).length = (l.length + 2) / 3 * 4
  | [] => rfl
  | [_] => by simp [enc64]
  | [_, _] => by simp [enc64]
  | a :: b :: c :: r => by simp only [enc64, List.length_cons, enc64_length r]; omega
theorem enc64_append : ∀ (a b : L), a.length % 3 = 0 → enc64 (a ++ b) = enc64 a ++ enc64 b
  | [], _, _ => rfl
  | [_], _, h => by simp at h
  | [_, _], _, h => by simp at h
  | x :: y :: z :: a, b, h => by
    simp only [List.cons_append, enc64]
    rw [enc64_append a b (by simp only [List.length_cons] at h; omega)]
theorem enc64_bytes : ∀ {l : L}, Byt l → Byt (enc64 l)
  | [], _ => Byt.nil
  | [a], h => by
    have ha := h a (by simp)
    have h1 := lt_at (x := a / 4) (by omega) (by omega)
    have h2 := lt_at (x := a % 4 * 16) (by omega) (by omega)
    exact Byt.mk h1.1 h1.2.1 (Byt.mk h2.1 h2.2.1 (Byt.mk (by omega) (by omega) (Byt.mk (by omega) (by omega) Byt.nil)))
  | [a, b], h => by
    have ha := h a (by simp)
    have hb := h b (by simp)
    have h1 := lt_at (x := a / 4) (by omega) (by omega)
    have h2 := lt_at (x := a % 4 * 16 + b / 16) (by omega) (by omega)
    have h3 := lt_at (x := b % 16 * 4) (by omega) (by omega)
    exact Byt.mk h1.1 h1.2.1 (Byt.mk h2.1 h2.2.1 (Byt.mk h3.1 h3.2.1 (Byt.mk (by omega) (by omega) Byt.nil)))
  | a :: b :: c :: r, h => by
    have ha := h a (by simp)
    have hb := h b (by simp)
    have hc := h c (by simp)
    have h1 := lt_at (x := a / 4) (by omega) (by omega)
    have h2 := lt_at (x := a % 4 * 16 + b / 16) (by omega) (by omega)
    have h3 := lt_at (x := b % 16 * 4 + c / 64) (by omega) (by omega)
    have h4 := lt_at (x := c % 64) (by omega) (by omega)
    exact Byt.mk h1.1 h1.2.1 (Byt.mk h2.1 h2.2.1 (Byt.mk h3.1 h3.2.1 (Byt.mk h4.1 h4.2.1 (enc64_bytes (fun x hx => h x (by simp [hx]))))))

/-- Letters read, four by four. -/
def dec64 : L → Option (L)
  | [] => some []
  | [_] => none
  | [a, b] => if val a < 0 then none else if val b < 0 then none else if val b % 16 = 0 then some [val a * 4 + val b / 16] else none
  | [a, b, c] => if val a < 0 then none else if val b < 0 then none else if val c < 0 then none else if val c % 4 = 0 then some [val a * 4 + val b / 16, val b % 16 * 16 + val c / 4] else none
  | a :: b :: c :: d :: r => if val a < 0 then none else if val b < 0 then none else if val c < 0 then none else if val d < 0 then none else
      (dec64 r).map fun l => (val a * 4 + val b / 16) :: (val b % 16 * 16 + val c / 4) :: (val c % 4 * 64 + val d) :: l
def pads (n : Nat) : L := if n % 3 = 1 then [61, 61] else if n % 3 = 2 then [61] else []
theorem dec64_sound : ∀ (s l : L), dec64 s = some l → Byt l ∧ enc64 l = s ++ pads l.length ∧ (s.length + (pads l.length).length) % 4 = 0
  | [], l, h => by
    simp only [dec64, Option.some.injEq] at h
    subst h
    exact ⟨Byt.nil, rfl, rfl⟩
  | [_], l, h => by simp [dec64] at h
  | [a, b], l, h => by
    simp only [dec64] at h
    rcases val_cases a with ha | ⟨a0, a1, a2⟩
    · rw [if_pos (by omega)] at h; cases h
    rcases val_cases b with hb | ⟨b0, b1, b2⟩
    · rw [if_neg (by omega), if_pos (by omega)] at h; cases h
    rw [if_neg (by omega), if_neg (by omega)] at h
    split at h
    · rename_i hm
      obtain rfl := Option.some.inj h
      refine ⟨Byt.mk (by omega) (by omega) Byt.nil, ?_, by simp [pads]⟩
      simp only [enc64, pads, List.length_cons, List.length_nil]
      rw [show (val a * 4 + val b / 16) / 4 = val a from by omega, show (val a * 4 + val b / 16) % 4 * 16 = val b from by omega, a2, b2]
      rfl
    · cases h
  | [a, b, c], l, h => by
    simp only [dec64] at h
    rcases val_cases a with ha | ⟨a0, a1, a2⟩
    · rw [if_pos (by omega)] at h; cases h
    rcases val_cases b with hb | ⟨b0, b1, b2⟩
    · rw [if_neg (by omega), if_pos (by omega)] at h; cases h
    rcases val_cases c with hc | ⟨c0, c1, c2⟩
    · rw [if_neg (by omega), if_neg (by omega), if_pos (by omega)] at h; cases h
    rw [if_neg (by omega), if_neg (by omega), if_neg (by omega)] at h
    split at h
    · rename_i hm
      obtain rfl := Option.some.inj h
      refine ⟨Byt.mk (by omega) (by omega) (Byt.mk (by omega) (by omega) Byt.nil), ?_, by simp [pads]⟩
      simp only [enc64, pads, List.length_cons, List.length_nil]
      rw [show (val a * 4 + val b / 16) / 4 = val a from by omega, show (val a * 4 + val b / 16) % 4 * 16 + (val b % 16 * 16 + val c / 4) / 16 = val b from by omega, show (val b % 16 * 16 + val c / 4) % 16 * 4 = val c from by omega, a2, b2, c2]
      rfl
    · cases h
  | a :: b :: c :: d :: r, l, h => by
    simp only [dec64] at h
    rcases val_cases a with ha | ⟨a0, a1, a2⟩
    · rw [if_pos (by omega)] at h; cases h
    rcases val_cases b with hb | ⟨b0, b1, b2⟩
    · rw [if_neg (by omega), if_pos (by omega)] at h; cases h
    rcases val_cases c with hc | ⟨c0, c1, c2⟩
    · rw [if_neg (by omega), if_neg (by omega), if_pos (by omega)] at h; cases h
    rcases val_cases d with hd | ⟨d0, d1, d2⟩
    · rw [if_neg (by omega), if_neg (by omega), if_neg (by omega), if_pos (by omega)] at h; cases h
    rw [if_neg (by omega), if_neg (by omega), if_neg (by omega), if_neg (by omega)] at h
    obtain ⟨m, hm, rfl⟩ := Option.map_eq_some_iff.1 h
    obtain ⟨h1, h2, h3⟩ := dec64_sound r m hm
    refine ⟨Byt.mk (by omega) (by omega) (Byt.mk (by omega) (by omega) (Byt.mk (by omega) (by omega) h1)), ?_, ?_⟩
    · have hp : pads (m.length + 1 + 1 + 1) = pads m.length := by unfold pads; rw [show (m.length + 1 + 1 + 1) % 3 = m.length % 3 from by omega]
      simp only [enc64, List.length_cons, hp, h2, List.cons_append]
      rw [show (val a * 4 + val b / 16) / 4 = val a from by omega, show (val a * 4 + val b / 16) % 4 * 16 + (val b % 16 * 16 + val c / 4) / 16 = val b from by omega, show (val b % 16 * 16 + val c / 4) % 16 * 4 + (val c % 4 * 64 + val d) / 64 = val c from by omega, show (val c % 4 * 64 + val d) % 64 = val d from by omega, a2, b2, c2, d2]
    · have hp : pads (m.length + 1 + 1 + 1) = pads m.length := by unfold pads; rw [show (m.length + 1 + 1 + 1) % 3 = m.length % 3 from by omega]
      simp only [List.length_cons, hp]
      omega
/-- Every list of bytes: its letters without the padding. -/
theorem enc64_body : ∀ {l : L}, Byt l → ∃ s, enc64 l = s ++ pads l.length ∧ dec64 s = some l ∧ (s ≠ [] → ∃ s' x, s = s' ++ [x] ∧ x ≠ 61)
  | [], _ => ⟨[], rfl, rfl, fun h => absurd rfl h⟩
  | [a], h => by
    have ha := h a (by simp)
    have h1 := lt_at (x := a / 4) (by omega) (by omega)
    have h2 := lt_at (x := a % 4 * 16) (by omega) (by omega)
    refine ⟨[lt (a / 4), lt (a % 4 * 16)], rfl, ?_, fun _ => ⟨[lt (a / 4)], _, rfl, fun e => ?_⟩⟩
    · simp only [dec64, h1.2.2, h2.2.2]
      rw [if_neg (by omega), if_neg (by omega), if_pos (by omega), show a / 4 * 4 + a % 4 * 16 / 16 = a from by omega]
    · have := h2.2.2; rw [e, val_61] at this; omega
  | [a, b], h => by
    have ha := h a (by simp)
    have hb := h b (by simp)
    have h1 := lt_at (x := a / 4) (by omega) (by omega)
    have h2 := lt_at (x := a % 4 * 16 + b / 16) (by omega) (by omega)
    have h3 := lt_at (x := b % 16 * 4) (by omega) (by omega)
    refine ⟨[lt (a / 4), lt (a % 4 * 16 + b / 16), lt (b % 16 * 4)], rfl, ?_, fun _ => ⟨[lt (a / 4), lt (a % 4 * 16 + b / 16)], _, rfl, fun e => ?_⟩⟩
    · simp only [dec64, h1.2.2, h2.2.2, h3.2.2]
      rw [if_neg (by omega), if_neg (by omega), if_neg (by omega), if_pos (by omega), show a / 4 * 4 + (a % 4 * 16 + b / 16) / 16 = a from by omega, show (a % 4 * 16 + b / 16) % 16 * 16 + b % 16 * 4 / 4 = b from by omega]
    · have := h3.2.2; rw [e, val_61] at this; omega
  | a :: b :: c :: r, h => by
    have ha := h a (by simp)
    have hb := h b (by simp)
    have hc := h c (by simp)
    have h1 := lt_at (x := a / 4) (by omega) (by omega)
    have h2 := lt_at (x := a % 4 * 16 + b / 16) (by omega) (by omega)
    have h3 := lt_at (x := b % 16 * 4 + c / 64) (by omega) (by omega)
    have h4 := lt_at (x := c % 64) (by omega) (by omega)
    obtain ⟨s, e1, e2, e3⟩ := enc64_body (l := r) (fun x hx => h x (by simp [hx]))
    have hp : pads (r.length + 1 + 1 + 1) = pads r.length := by unfold pads; rw [show (r.length + 1 + 1 + 1) % 3 = r.length % 3 from by omega]
    refine ⟨lt (a / 4) :: lt (a % 4 * 16 + b / 16) :: lt (b % 16 * 4 + c / 64) :: lt (c % 64) :: s, ?_, ?_, fun _ => ?_⟩
    · simp only [enc64, e1, List.length_cons, hp, List.cons_append]
    · simp only [dec64, h1.2.2, h2.2.2, h3.2.2, h4.2.2, e2]
      rw [if_neg (by omega), if_neg (by omega), if_neg (by omega), if_neg (by omega)]
      simp only [Option.map_some]
      rw [show a / 4 * 4 + (a % 4 * 16 + b / 16) / 16 = a from by omega, show (a % 4 * 16 + b / 16) % 16 * 16 + (b % 16 * 4 + c / 64) / 4 = b from by omega, show (b % 16 * 4 + c / 64) % 4 * 64 + c % 64 = c from by omega]
    · by_cases hs : s = []
      · subst hs
        refine ⟨[lt (a / 4), lt (a % 4 * 16 + b / 16), lt (b % 16 * 4 + c / 64)], _, rfl, fun e => ?_⟩
        have := h4.2.2; rw [e, val_61] at this; omega
      · obtain ⟨s', x, e4, e5⟩ := e3 hs
        exact ⟨lt (a / 4) :: lt (a % 4 * 16 + b / 16) :: lt (b % 16 * 4 + c / 64) :: lt (c % 64) :: s', x, by rw [e4]; rfl, e5⟩

theorem enc64_inj {a b : L} (ha : Byt a) (hb : Byt b) (h : enc64 a = enc64 b) : a = b := by
  obtain ⟨s, e1, e2, e3⟩ := enc64_body ha
  obtain ⟨t, f1, f2, f3⟩ := enc64_body hb
  have key : ∀ (s t : L) (m n : Nat), s ++ pads m = t ++ pads n → (s ≠ [] → ∃ s' x, s = s' ++ [x] ∧ x ≠ (61 : Int)) → (t ≠ [] → ∃ s' x, t = s' ++ [x] ∧ x ≠ (61 : Int)) → s = t := by
    intro s t m n h hs ht
    have hp : ∀ n, ∃ k, pads n = List.replicate k 61 := by
      intro n
      unfold pads
      split
      · exact ⟨2, rfl⟩
      split
      · exact ⟨1, rfl⟩
      · exact ⟨0, rfl⟩
    obtain ⟨k1, h1⟩ := hp m
    obtain ⟨k2, h2⟩ := hp n
    rw [h1, h2] at h
    have hd : ∀ (s : L) (k : Nat), (s ≠ [] → ∃ s' x, s = s' ++ [x] ∧ x ≠ (61 : Int)) → (s ++ List.replicate k 61).reverse.dropWhile (· == 61) = s.reverse := by
      intro s k hs
      rw [List.reverse_append, List.reverse_replicate]
      have : ∀ k, (List.replicate k (61 : Int) ++ s.reverse).dropWhile (· == 61) = s.reverse.dropWhile (· == 61) := by
        intro k
        induction k with
        | zero => rfl
        | succ k ih => rw [List.replicate_succ, List.cons_append, List.dropWhile_cons_of_pos (by simp), ih]
      rw [this]
      by_cases e : s = []
      · subst e; rfl
      · obtain ⟨s', x, rfl, hx⟩ := hs e
        rw [List.reverse_append]
        simp only [List.reverse_cons, List.reverse_nil, List.nil_append, List.singleton_append]
        rw [List.dropWhile_cons_of_neg (by simpa using hx)]
    have := hd s k1 hs
    rw [h, hd t k2 ht] at this
    exact List.reverse_inj.1 this.symm
  have : s = t := key s t _ _ (by rw [← e1, ← f1, h]) e3 f3
  subst this
  rw [e2] at f2
  exact Option.some.inj f2

/-! The reading loop: 'bits' held back, 'n' of them (0, 2, 4, 6). -/
def decG : L → Int → Nat → Option L
  | [], b, _ => if b = 0 then some [] else none
  | c :: r, b, n => if val c < 0 then none else if n = 0 then decG r (b * 64 + val c) 6 else (decG r ((b * 64 + val c) % 2 ^ (n - 2)) (n - 2)).map ((b * 64 + val c) / 2 ^ (n - 2) % 256 :: ·)
theorem decG_bad {c : Int} (r : L) (b : Int) (n : Nat) (h : val c < 0) : decG (c :: r) b n = none := if_pos h
theorem decG_0 {c : Int} (r : L) (b : Int) (h : ¬ val c < 0) : decG (c :: r) b 0 = decG r (b * 64 + val c) 6 := by rw [decG, if_neg h, if_pos rfl]
theorem decG_n {c : Int} (r : L) (b : Int) {n : Nat} (h : ¬ val c < 0) (hn : n ≠ 0) : decG (c :: r) b n = (decG r ((b * 64 + val c) % 2 ^ (n - 2)) (n - 2)).map ((b * 64 + val c) / 2 ^ (n - 2) % 256 :: ·) := by rw [decG, if_neg h, if_neg hn]
theorem decG_4 {c : Int} (r : L) (b : Int) (h : ¬ val c < 0) : decG (c :: r) b 6 = (decG r ((b * 64 + val c) % 16) 4).map ((b * 64 + val c) / 16 % 256 :: ·) := decG_n r b h (by decide)
theorem decG_2 {c : Int} (r : L) (b : Int) (h : ¬ val c < 0) : decG (c :: r) b 4 = (decG r ((b * 64 + val c) % 4) 2).map ((b * 64 + val c) / 4 % 256 :: ·) := decG_n r b h (by decide)
theorem decG_1 {c : Int} (r : L) (b : Int) (h : ¬ val c < 0) : decG (c :: r) b 2 = (decG r ((b * 64 + val c) % 1) 0).map ((b * 64 + val c) / 1 % 256 :: ·) := decG_n r b h (by decide)
theorem decG_nil (b : Int) (n : Nat) : decG [] b n = if b = 0 then some [] else none := rfl
theorem decG_dec : ∀ (s : L), s.length % 4 ≠ 1 → decG s 0 0 = dec64 s
  | [], _ => rfl
  | [_], h => by simp at h
  | [a, b], _ => by
    unfold dec64
    rcases val_cases a with ha | ⟨a0, a1, a2⟩
    · rw [decG_bad _ _ _ (by omega), if_pos (by omega)]
    rw [decG_0 _ _ (by omega), if_neg (by omega)]
    rcases val_cases b with hb | ⟨b0, b1, b2⟩
    · rw [decG_bad _ _ _ (by omega), if_pos (by omega)]
    rw [decG_4 _ _ (by omega), if_neg (by omega), decG_nil]
    have e1 : ((0 * 64 + val a) * 64 + val b) % 16 = val b % 16 := by omega
    have e2 : ((0 * 64 + val a) * 64 + val b) / 16 % 256 = val a * 4 + val b / 16 := by omega
    rw [e1, e2]
    by_cases e : val b % 16 = 0
    · rw [if_pos e, if_pos e]; rfl
    · rw [if_neg e, if_neg e]; rfl
  | [a, b, c], _ => by
    unfold dec64
    rcases val_cases a with ha | ⟨a0, a1, a2⟩
    · rw [decG_bad _ _ _ (by omega), if_pos (by omega)]
    rw [decG_0 _ _ (by omega), if_neg (by omega)]
    rcases val_cases b with hb | ⟨b0, b1, b2⟩
    · rw [decG_bad _ _ _ (by omega), if_pos (by omega)]
    rw [decG_4 _ _ (by omega), if_neg (by omega)]
    rcases val_cases c with hc | ⟨c0, c1, c2⟩
    · rw [decG_bad _ _ _ (by omega), if_pos (by omega)]; rfl
    rw [decG_2 _ _ (by omega), if_neg (by omega), decG_nil]
    have e1 : (((0 * 64 + val a) * 64 + val b) % 16 * 64 + val c) % 4 = val c % 4 := by omega
    have e2 : ((0 * 64 + val a) * 64 + val b) / 16 % 256 = val a * 4 + val b / 16 := by omega
    have e3 : (((0 * 64 + val a) * 64 + val b) % 16 * 64 + val c) / 4 % 256 = val b % 16 * 16 + val c / 4 := by omega
    rw [e1, e2, e3]
    by_cases e : val c % 4 = 0
    · rw [if_pos e, if_pos e]; rfl
    · rw [if_neg e, if_neg e]; rfl
  | a :: b :: c :: d :: r, h => by
    have ih := decG_dec r (by simp only [List.length_cons] at h; omega)
    unfold dec64
    rcases val_cases a with ha | ⟨a0, a1, a2⟩
    · rw [decG_bad _ _ _ (by omega), if_pos (by omega)]
    rw [decG_0 _ _ (by omega), if_neg (by omega)]
    rcases val_cases b with hb | ⟨b0, b1, b2⟩
    · rw [decG_bad _ _ _ (by omega), if_pos (by omega)]
    rw [decG_4 _ _ (by omega), if_neg (by omega)]
    rcases val_cases c with hc | ⟨c0, c1, c2⟩
    · rw [decG_bad _ _ _ (by omega), if_pos (by omega)]; rfl
    rw [decG_2 _ _ (by omega), if_neg (by omega)]
    rcases val_cases d with hd | ⟨d0, d1, d2⟩
    · rw [decG_bad _ _ _ (by omega), if_pos (by omega)]; rfl
    rw [decG_1 _ _ (by omega), if_neg (by omega)]
    have e1 : ((((0 * 64 + val a) * 64 + val b) % 16 * 64 + val c) % 4 * 64 + val d) % 1 = 0 := by omega
    have e2 : ((0 * 64 + val a) * 64 + val b) / 16 % 256 = val a * 4 + val b / 16 := by omega
    have e3 : (((0 * 64 + val a) * 64 + val b) % 16 * 64 + val c) / 4 % 256 = val b % 16 * 16 + val c / 4 := by omega
    have e4 : ((((0 * 64 + val a) * 64 + val b) % 16 * 64 + val c) % 4 * 64 + val d) / 1 % 256 = val c % 4 * 64 + val d := by omega
    rw [e1, e2, e3, e4, ih]
    cases dec64 r with
    | none => rfl
    | some l => rfl
def trimE (s : L) : L := (endCut s [61]).getD s
theorem trimE_eq (l : L) : trimE (l ++ [61]) = l := by unfold trimE; rw [endCut_app]; rfl
theorem trimE_ne {s : L} (h : ∀ l, s ≠ l ++ [61]) : trimE s = s := by
  unfold trimE
  cases e : endCut s [61] with
  | none => rfl
  | some x => exact absurd (endCut_some e) (h x)
theorem trimE_cases (s : L) : (∃ l, s = l ++ [61] ∧ trimE s = l) ∨ ((∀ l, s ≠ l ++ [61]) ∧ trimE s = s) := by
  by_cases h : ∃ l, s = l ++ [61]
  · obtain ⟨l, rfl⟩ := h
    exact .inl ⟨l, rfl, trimE_eq l⟩
  · have h' : ∀ l, s ≠ l ++ [61] := fun l e => h ⟨l, e⟩
    exact .inr ⟨h', trimE_ne h'⟩
theorem pads_cases (n : Nat) : pads n = [] ∨ pads n = [61] ∨ pads n = [61, 61] := by
  unfold pads
  split
  · exact .inr (.inr rfl)
  split
  · exact .inr (.inl rfl)
  · exact .inl rfl
/-- The two trims: what is left, and how much went. -/
theorem trims (s : L) : ∃ j, j ≤ 2 ∧ s = trimE (trimE s) ++ List.replicate j 61 := by
  rcases trimE_cases s with ⟨l, h1, h2⟩ | ⟨_, h2⟩
  · rcases trimE_cases (trimE s) with ⟨m, h3, h4⟩ | ⟨_, h4⟩
    · exact ⟨2, by omega, by rw [h4]; rw [h1, ← h2, h3]; simp⟩
    · exact ⟨1, by omega, by rw [h4, h2]; exact h1⟩
  · rw [h2, h2]
    exact ⟨0, by omega, by simp⟩
theorem trims_of {s b : L} {n : Nat} (h : s = b ++ pads n) (hb : b ≠ [] → ∃ s' x, b = s' ++ [x] ∧ x ≠ (61 : Int)) : trimE (trimE s) = b := by
  have hn : ∀ l, b ≠ l ++ [61] := by
    intro l e
    obtain ⟨s', x, e2, hx⟩ := hb (by rw [e]; simp)
    rw [e] at e2
    exact hx (by simpa using (List.append_inj_right' e2 rfl).symm)
  rcases pads_cases n with e | e | e <;> rw [e] at h
  · rw [List.append_nil] at h
    subst h
    rw [trimE_ne hn, trimE_ne hn]
  · subst h
    rw [trimE_eq, trimE_ne hn]
  · subst h
    rw [show b ++ [61, 61] = (b ++ [61]) ++ [61] by simp, trimE_eq, trimE_eq]
/-- What a text is read as. -/
def b64D (s : L) : Option L := if s.length % 4 = 0 then decG (trimE (trimE s)) 0 0 else none
theorem b64D_dec {s : L} (h : s.length % 4 = 0) : b64D s = dec64 (trimE (trimE s)) := by
  unfold b64D
  rw [if_pos h]
  obtain ⟨j, hj, hs⟩ := trims s
  have hz := congrArg List.length hs
  rw [List.length_append, List.length_replicate] at hz
  exact decG_dec _ (by omega)
theorem b64D_enc {l : L} (hb : Byt l) : b64D (enc64 l) = some l := by
  have hl := enc64_length l
  rw [b64D_dec (by omega)]
  obtain ⟨b, e1, e2, e3⟩ := enc64_body hb
  rw [trims_of e1 e3, e2]
theorem b64D_sound {s l : L} (h : b64D s = some l) : Byt l ∧ enc64 l = s := by
  by_cases h4 : s.length % 4 = 0
  · rw [b64D_dec h4] at h
    obtain ⟨h1, h2, h3⟩ := dec64_sound _ _ h
    refine ⟨h1, ?_⟩
    obtain ⟨j, hj, hs⟩ := trims s
    have hz := congrArg List.length hs
    rw [List.length_append, List.length_replicate] at hz
    rw [h2]
    refine Eq.trans ?_ hs.symm
    congr 1
    rcases pads_cases l.length with e | e | e <;> rw [e] at h3 ⊢ <;> simp only [List.length_nil, List.length_cons] at h3
    · rw [show j = 0 from by omega]; rfl
    · rw [show j = 1 from by omega]; rfl
    · rw [show j = 2 from by omega]; rfl
  · unfold b64D at h
    rw [if_neg h4] at h
    cases h
end Go.Proofs.YtnimaenhijlcmaaGreatDoor.Mb
