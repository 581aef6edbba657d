/- Web messages by plain lists of bytes: what a head, a field line, a body are. No program and no memory here. -/
namespace Go.Proofs.YthgojbdpmcccaaaDoor.Wb
set_option linter.unusedVariables false
set_option linter.unusedSimpArgs false

abbrev L := List Int

/-! Kinds of bytes -/
def digB (c : Int) : Bool := decide (48 ≤ c) && decide (c ≤ 57)
def letB (c : Int) : Bool := (decide (97 ≤ c) && decide (c ≤ 122)) || (decide (65 ≤ c) && decide (c ≤ 90))
def tokB (c : Int) : Bool := letB c || digB c || [33, 35, 36, 37, 38, 39, 42, 43, 45, 46, 94, 95, 96, 124, 126].contains c
def visB (c : Int) : Bool := decide (33 ≤ c) && decide (c ≤ 126)
def valB (c : Int) : Bool := decide (c = 9) || (decide (32 ≤ c) && decide (c ≤ 126)) || decide (128 ≤ c)
def plnB (c : Int) : Bool := letB c || digB c || [45, 46, 95, 126, 33, 36, 38, 39, 40, 41, 42, 43, 44, 59, 61, 58, 64, 47].contains c
def blkB (c : Int) : Bool := decide (c = 32) || decide (c = 9)
def hostB (c : Int) : Bool := visB c && !([47, 63, 35, 64, 92].contains c)
def lowB (c : Int) : Int := if 65 ≤ c ∧ c ≤ 90 then c + 32 else c

def lowS (s : L) : L := s.map lowB
def tokS (s : L) : Bool := !s.isEmpty && s.all tokB
def trimR (s : L) : L := (s.reverse.dropWhile blkB).reverse
def trimS (s : L) : L := trimR (s.dropWhile blkB)

/-- Cut at the first c. -/
def cutC (c : Int) : L → Option (L × L)
  | [] => none
  | x :: r => if x = c then some ([], r) else match cutC c r with
    | none => none
    | some (a, b) => some (x :: a, b)
/-- The pieces between the c's. -/
def splitC (c : Int) : L → List L
  | [] => [[]]
  | x :: r => if x = c then [] :: splitC c r else match splitC c r with
    | [] => [[x]]
    | p :: q => (x :: p) :: q

/-! A line, a head -/
def chop (l : L) : L := if l.getLast? = some 13 then l.dropLast else l
def lineS (b : L) : Option (L × L) := (cutC 10 b).map fun p => (chop p.1, p.2)
/-- The lines up to the empty one, and what stands behind. -/
def linesS : Nat → L → Option (List L × L)
  | 0, _ => none
  | f + 1, b => match lineS b with
    | none => none
    | some ([], r) => some ([], r)
    | some (x :: l, r) => match linesS f r with
      | none => none
      | some (ls, q) => some ((x :: l) :: ls, q)
def cutS (tl : Nat) (b : L) : Except Nat (L × List L × L) :=
  match lineS b with
  | none => if 8001 < b.length then .error tl else .error 140
  | some (first, rest) =>
    if 8000 < first.length then .error tl
    else match linesS (rest.length + 1) rest with
      | none => if 16384 < rest.length then .error 2 else .error 140
      | some (ls, r) => if 16384 < rest.length - r.length then .error 2 else .ok (first, ls, r)

theorem cutC_some {c : Int} : ∀ {b p r : L}, cutC c b = some (p, r) → b = p ++ c :: r ∧ c ∉ p
  | [], _, _, h => by simp [cutC] at h
  | x :: b, p, r, h => by
    unfold cutC at h
    by_cases e : x = c
    · rw [if_pos e] at h
      simp only [Option.some.injEq, Prod.mk.injEq] at h
      obtain ⟨rfl, rfl⟩ := h
      exact ⟨by simp [e], by simp⟩
    · rw [if_neg e] at h
      cases hc : cutC c b with
      | none => rw [hc] at h; cases h
      | some q =>
        obtain ⟨a, s⟩ := q
        rw [hc] at h
        simp only [Option.some.injEq, Prod.mk.injEq] at h
        obtain ⟨rfl, rfl⟩ := h
        obtain ⟨h1, h2⟩ := cutC_some hc
        refine ⟨by simp [h1], ?_⟩
        simp only [List.mem_cons, not_or]
        exact ⟨fun h => e h.symm, h2⟩
theorem cutC_none {c : Int} : ∀ {b : L}, cutC c b = none → c ∉ b
  | [], _ => by simp
  | x :: b, h => by
    unfold cutC at h
    by_cases e : x = c
    · rw [if_pos e] at h; cases h
    · rw [if_neg e] at h
      cases hc : cutC c b with
      | none =>
        simp only [List.mem_cons, not_or]
        exact ⟨fun h => e h.symm, cutC_none hc⟩
      | some q => rw [hc] at h; cases h
theorem cutC_mk {c : Int} : ∀ {p : L} (r : L), c ∉ p → cutC c (p ++ c :: r) = some (p, r)
  | [], r, _ => by simp [cutC]
  | x :: p, r, h => by
    simp only [List.mem_cons, not_or] at h
    simp only [List.cons_append, cutC]
    rw [if_neg (fun e => h.1 e.symm), cutC_mk r h.2]
theorem cutC_app {c : Int} {b p r : L} (h : cutC c b = some (p, r)) (t : L) : cutC c (b ++ t) = some (p, r ++ t) := by
  obtain ⟨h1, h2⟩ := cutC_some h
  rw [h1, List.append_assoc, List.cons_append]
  exact cutC_mk _ h2
theorem cutC_over {c : Int} {b t p r : L} (h : cutC c b = none) (h2 : cutC c (b ++ t) = some (p, r)) : ∃ q, p = b ++ q ∧ cutC c t = some (q, r) := by
  have hb := cutC_none h
  cases ht : cutC c t with
  | none =>
    have := cutC_none ht
    obtain ⟨h3, h4⟩ := cutC_some h2
    have : c ∈ b ++ t := by rw [h3]; simp
    rcases List.mem_append.1 this with h5 | h5
    · exact absurd h5 hb
    · exact absurd h5 (cutC_none ht)
  | some q =>
    obtain ⟨a, s⟩ := q
    obtain ⟨h5, h6⟩ := cutC_some ht
    have : cutC c (b ++ t) = some (b ++ a, s) := by
      rw [h5, ← List.append_assoc]
      exact cutC_mk _ (by simp [hb, h6])
    rw [this] at h2
    simp only [Option.some.injEq, Prod.mk.injEq] at h2
    exact ⟨a, h2.1.symm, by rw [h2.2]⟩

theorem chop_length (l : L) : l.length ≤ (chop l).length + 1 ∧ (chop l).length ≤ l.length := by
  unfold chop
  split
  · simp; omega
  · omega
theorem lineS_some {b p r : L} (h : lineS b = some (p, r)) : ∃ q, b = q ++ 10 :: r ∧ (10 : Int) ∉ q ∧ p = chop q := by
  unfold lineS at h
  cases hc : cutC 10 b with
  | none => rw [hc] at h; cases h
  | some q =>
    obtain ⟨a, s⟩ := q
    rw [hc] at h
    simp only [Option.map_some, Option.some.injEq, Prod.mk.injEq] at h
    obtain ⟨rfl, rfl⟩ := h
    obtain ⟨h1, h2⟩ := cutC_some hc
    exact ⟨a, h1, h2, rfl⟩
theorem lineS_mk {q : L} (r : L) (h : (10 : Int) ∉ q) : lineS (q ++ 10 :: r) = some (chop q, r) := by
  unfold lineS
  rw [cutC_mk r h]
  rfl
theorem lineS_app {b p r : L} (h : lineS b = some (p, r)) (t : L) : lineS (b ++ t) = some (p, r ++ t) := by
  obtain ⟨q, rfl, h2, rfl⟩ := lineS_some h
  rw [List.append_assoc, List.cons_append]
  exact lineS_mk _ h2
theorem lineS_none {b : L} (h : lineS b = none) : (10 : Int) ∉ b := by
  unfold lineS at h
  cases hc : cutC 10 b with
  | none => exact cutC_none hc
  | some q => rw [hc] at h; cases h
theorem lineS_none_mk {b : L} (h : (10 : Int) ∉ b) : lineS b = none := by
  unfold lineS
  cases hc : cutC 10 b with
  | none => rfl
  | some q =>
    obtain ⟨a, s⟩ := q
    obtain ⟨h1, _⟩ := cutC_some hc
    exact absurd (by rw [h1]; simp) h
/-- A line that only comes with more bytes is at least as long as what was there, less one. -/
theorem lineS_over {b t p r : L} (h : lineS b = none) (h2 : lineS (b ++ t) = some (p, r)) : b.length ≤ p.length + 1 ∧ r.length < t.length ∧ r.length + b.length < (b ++ t).length := by
  have hb := lineS_none h
  obtain ⟨q, h3, h4, rfl⟩ := lineS_some h2
  have hq : ∃ q2, q = b ++ q2 ∧ t = q2 ++ 10 :: r := by
    rcases List.append_eq_append_iff.1 h3 with ⟨as, h5, h6⟩ | ⟨bs, h5, h6⟩
    · exact ⟨as, h5, h6⟩
    · cases bs with
      | nil => exact ⟨[], by simpa using h5.symm, by simpa using h6.symm⟩
      | cons y ys =>
        simp only [List.cons_append, List.cons.injEq] at h6
        exact absurd (by rw [h5, h6.1]; simp) hb
  obtain ⟨q2, rfl, rfl⟩ := hq
  have := chop_length (b ++ q2)
  simp only [List.length_append, List.length_cons] at *
  omega

theorem linesS_rest : ∀ {f : Nat} {b : L} {ls : List L} {r : L}, linesS f b = some (ls, r) → r.length < b.length ∧ ∃ p, b = p ++ r
  | 0, b, ls, r, h => by simp [linesS] at h
  | f + 1, b, ls, r, h => by
    unfold linesS at h
    cases hl : lineS b with
    | none => rw [hl] at h; cases h
    | some q =>
      obtain ⟨a, s⟩ := q
      rw [hl] at h
      obtain ⟨q, h1, _, _⟩ := lineS_some hl
      cases a with
      | nil =>
        simp only [Option.some.injEq, Prod.mk.injEq] at h
        obtain ⟨_, rfl⟩ := h
        exact ⟨by rw [h1]; simp; omega, q ++ [10], by rw [h1]; simp⟩
      | cons x l =>
        simp only at h
        cases hr : linesS f s with
        | none => rw [hr] at h; cases h
        | some z =>
          obtain ⟨m, n⟩ := z
          rw [hr] at h
          simp only [Option.some.injEq, Prod.mk.injEq] at h
          obtain ⟨_, rfl⟩ := h
          obtain ⟨h3, p, h4⟩ := linesS_rest hr
          refine ⟨by rw [h1]; simp; omega, q ++ 10 :: p, by rw [h1, h4]; simp⟩
/-- More fuel, more bytes: the same lines. -/
theorem linesS_app : ∀ {f : Nat} {b : L} {ls : List L} {r : L} (g : Nat) (t : L), linesS f b = some (ls, r) → f ≤ g → linesS g (b ++ t) = some (ls, r ++ t)
  | 0, b, ls, r, g, t, h, _ => by simp [linesS] at h
  | f + 1, b, ls, r, 0, t, h, hg => by omega
  | f + 1, b, ls, r, g + 1, t, h, hg => by
    unfold linesS at h ⊢
    cases hl : lineS b with
    | none => rw [hl] at h; cases h
    | some q =>
      obtain ⟨a, s⟩ := q
      rw [hl] at h
      rw [lineS_app hl t]
      cases a with
      | nil =>
        simp only [Option.some.injEq, Prod.mk.injEq] at h ⊢
        exact ⟨h.1, by rw [h.2]⟩
      | cons x l =>
        simp only at h ⊢
        cases hr : linesS f s with
        | none => rw [hr] at h; cases h
        | some z =>
          obtain ⟨m, n⟩ := z
          rw [hr] at h
          rw [linesS_app g t hr (by omega)]
          simp only [Option.some.injEq, Prod.mk.injEq] at h ⊢
          exact ⟨h.1, by rw [h.2]⟩
/-- Lines that only come with more bytes end behind what was there. -/
theorem linesS_over : ∀ {f : Nat} {b t : L} {ls : List L} {r : L} (g : Nat), b.length < f → linesS f b = none → linesS g (b ++ t) = some (ls, r) → r.length < t.length
  | 0, b, t, ls, r, g, hf, _, _ => by omega
  | f + 1, b, t, ls, r, 0, hf, h, h2 => by simp [linesS] at h2
  | f + 1, b, t, ls, r, g + 1, hf, h, h2 => by
    unfold linesS at h h2
    cases hl : lineS b with
    | none =>
      rw [hl] at h
      cases hl2 : lineS (b ++ t) with
      | none => rw [hl2] at h2; cases h2
      | some q =>
        obtain ⟨a, s⟩ := q
        rw [hl2] at h2
        have h3 := lineS_over hl hl2
        cases a with
        | nil =>
          simp only [Option.some.injEq, Prod.mk.injEq] at h2
          rw [← h2.2]
          exact h3.2.1
        | cons x l =>
          simp only at h2
          cases hr : linesS g s with
          | none => rw [hr] at h2; cases h2
          | some z =>
            obtain ⟨m, n⟩ := z
            rw [hr] at h2
            simp only [Option.some.injEq, Prod.mk.injEq] at h2
            have := (linesS_rest hr).1
            rw [← h2.2]
            omega
    | some q =>
      obtain ⟨a, s⟩ := q
      rw [hl] at h
      rw [lineS_app hl t] at h2
      cases a with
      | nil => simp at h
      | cons x l =>
        simp only at h h2
        obtain ⟨q, h1, _, _⟩ := lineS_some hl
        have hs : s.length < f := by rw [h1] at hf; simp at hf; omega
        cases hr : linesS f s with
        | some z =>
          obtain ⟨m, n⟩ := z
          rw [hr] at h; cases h
        | none =>
          cases hr2 : linesS g (s ++ t) with
          | none => rw [hr2] at h2; cases h2
          | some z =>
            obtain ⟨m, n⟩ := z
            rw [hr2] at h2
            simp only [Option.some.injEq, Prod.mk.injEq] at h2
            rw [← h2.2]
            exact linesS_over g hs hr hr2
theorem linesS_fuel {f g : Nat} {b : L} (hf : b.length < f) (hg : b.length < g) : linesS f b = linesS g b := by
  cases h : linesS f b with
  | some z =>
    obtain ⟨ls, r⟩ := z
    cases h2 : linesS g b with
    | some z2 =>
      obtain ⟨ls2, r2⟩ := z2
      rcases Nat.le_total f g with h3 | h3
      · have := linesS_app g [] h h3
        simp only [List.append_nil] at this
        rw [h2] at this
        exact this.symm
      · have := linesS_app f [] h2 h3
        simp only [List.append_nil] at this
        rw [h] at this
        exact this
    | none =>
      have := linesS_over (t := []) f hg h2 (by simpa using h)
      simp at this
  | none =>
    cases h2 : linesS g b with
    | none => rfl
    | some z2 =>
      obtain ⟨ls2, r2⟩ := z2
      have := linesS_over (t := []) g hf h (by simpa using h2)
      simp at this

/-- A head that was read, or refused, is so with whatever stands behind it. -/
theorem cutS_app {tl : Nat} {b : L} (t : L) (h : cutS tl b ≠ .error 140) :
    cutS tl (b ++ t) = match cutS tl b with | .ok (f, ls, r) => .ok (f, ls, r ++ t) | .error e => .error e := by
  unfold cutS at h ⊢
  cases hl : lineS b with
  | none =>
    rw [hl] at h
    simp only at h ⊢
    by_cases hb : 8001 < b.length
    · rw [if_pos hb] at h ⊢
      cases hl2 : lineS (b ++ t) with
      | none =>
        simp only
        rw [if_pos (by simp; omega)]
      | some q =>
        obtain ⟨a, s⟩ := q
        simp only
        have := lineS_over hl hl2
        rw [if_pos (by omega)]
    · rw [if_neg hb] at h
      exact absurd rfl h
  | some q =>
    obtain ⟨a, s⟩ := q
    rw [hl] at h
    rw [lineS_app hl t]
    simp only at h ⊢
    by_cases ha : 8000 < a.length
    · rw [if_pos ha, if_pos ha]
    · rw [if_neg ha] at h ⊢
      rw [if_neg ha]
      cases hr : linesS (s.length + 1) s with
      | none =>
        rw [hr] at h
        simp only at h ⊢
        by_cases hs : 16384 < s.length
        · rw [if_pos hs] at h ⊢
          cases hr2 : linesS ((s ++ t).length + 1) (s ++ t) with
          | none =>
            simp only
            rw [if_pos (by simp; omega)]
          | some z =>
            obtain ⟨m, n⟩ := z
            simp only
            have := linesS_over (t := t) _ (Nat.lt_succ_self _) hr hr2
            rw [if_pos (by simp; omega)]
        · rw [if_neg hs] at h
          exact absurd rfl h
      | some z =>
        obtain ⟨m, n⟩ := z
        rw [linesS_app ((s ++ t).length + 1) t hr (by simp)]
        simp only
        have e : (s ++ t).length - (n ++ t).length = s.length - n.length := by simp; omega
        rw [e]
        split <;> rfl
theorem cutS_rest {tl : Nat} {b f : L} {ls : List L} {r : L} (h : cutS tl b = .ok (f, ls, r)) : r.length < b.length ∧ ∃ p, b = p ++ r := by
  unfold cutS at h
  cases hl : lineS b with
  | none => rw [hl] at h; simp only at h; split at h <;> cases h
  | some q =>
    obtain ⟨a, s⟩ := q
    rw [hl] at h
    simp only at h
    split at h
    · cases h
    · cases hr : linesS (s.length + 1) s with
      | none => rw [hr] at h; simp only at h; split at h <;> cases h
      | some z =>
        obtain ⟨m, n⟩ := z
        rw [hr] at h
        simp only at h
        split at h
        · cases h
        · simp only [Except.ok.injEq, Prod.mk.injEq] at h
          obtain ⟨_, _, rfl⟩ := h
          obtain ⟨q, h1, _, _⟩ := lineS_some hl
          obtain ⟨h3, p, h4⟩ := linesS_rest hr
          exact ⟨by rw [h1]; simp; omega, q ++ 10 :: p, by rw [h1, h4]; simp⟩
end Go.Proofs.YthgojbdpmcccaaaDoor.Wb
