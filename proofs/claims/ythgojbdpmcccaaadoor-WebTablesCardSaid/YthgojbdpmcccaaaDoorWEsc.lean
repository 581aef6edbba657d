/- Targets by plain lists of bytes: a path as it is escaped, and as it is read back. -/
import Derived.Test.YthgojbdpmcccaaaDoorWChunk
namespace Go.Proofs.YthgojbdpmcccaaaDoor.Wb
set_option linter.unusedVariables false
set_option linter.unusedSimpArgs false

def ctlB (c : Int) : Bool := decide (c < 32) || decide (c = 127)
def hexU (d : Int) : Int := if d < 10 then 48 + d else 55 + d
def esc1 (c : Int) : L := if plnB c then [c] else [37, hexU (c / 16), hexU (c % 16)]
def escL (p : L) : L := p.flatMap esc1
def escapeS (p : L) : Option L := if p.head? = some 47 ∧ p.any ctlB = false then some (escL p) else none
def qryB (c : Int) : Bool := plnB c || decide (c = 37) || decide (c = 63)
def decodeS : Nat → L → Option L
  | 0, _ => none
  | f + 1, s => match s with
    | [] => some []
    | c :: r =>
      if c = 37 then match r with
        | a :: b :: q => match hexV a, hexV b with
          | some x, some y => if ctlB ((16 * x + y : Nat) : Int) = true ∨ ((16 * x + y : Nat) : Int) = 47 then none else (decodeS f q).map (((16 * x + y : Nat) : Int) :: ·)
          | _, _ => none
        | _ => none
      else if plnB c = false then none else (decodeS f r).map (c :: ·)
def pathS (t : L) : Option (L × L) :=
  if t.head? = some 47 ∧ (behindC 63 t).all qryB = true then (decodeS ((aheadC 63 t).length + 1) (aheadC 63 t)).map fun p => (p, behindC 63 t) else none

theorem hexU_V {d : Int} (h0 : 0 ≤ d) (h1 : d < 16) : hexV (hexU d) = some d.toNat := by
  unfold hexU hexV
  by_cases h : d < 10
  · rw [if_pos h, if_pos (by omega)]; congr 1; omega
  · rw [if_neg h, if_neg (by omega), if_neg (by omega), if_pos (by omega)]; congr 1; omega
theorem hexU_pln {d : Int} (h0 : 0 ≤ d) (h1 : d < 16) : plnB (hexU d) = true := by
  unfold hexU plnB letB digB
  split <;> simp only [Bool.or_eq_true, Bool.and_eq_true, decide_eq_true_eq] <;> omega
theorem pln_vis {c : Int} (h : plnB c = true) : 33 ≤ c ∧ c ≤ 126 ∧ c ≠ 63 ∧ c ≠ 35 ∧ c ≠ 37 := by
  refine ⟨?_, ?_, ?_, ?_, ?_⟩
  · unfold plnB letB digB at h
    simp only [Bool.or_eq_true, Bool.and_eq_true, decide_eq_true_eq, List.contains_eq_mem, List.mem_cons, List.not_mem_nil, or_false] at h
    omega
  · unfold plnB letB digB at h
    simp only [Bool.or_eq_true, Bool.and_eq_true, decide_eq_true_eq, List.contains_eq_mem, List.mem_cons, List.not_mem_nil, or_false] at h
    omega
  all_goals (rintro rfl; revert h; decide)
theorem pln_ctl {c : Int} (h : plnB c = true) : ctlB c = false := by
  have := pln_vis h
  unfold ctlB
  simp only [Bool.or_eq_false_iff, decide_eq_false_iff_not]
  omega
theorem decode_pln (f : Nat) {c : Int} (r : L) (h : plnB c = true) : decodeS (f + 1) (c :: r) = (decodeS f r).map (c :: ·) := by
  have := pln_vis h
  simp only [decodeS]
  rw [if_neg (by omega), if_neg (by rw [h]; simp)]
theorem decode_esc : ∀ (p : L) (f : Nat), (∀ x ∈ p, 0 ≤ x ∧ x ≤ 255) → p.any ctlB = false → (escL p).length < f → decodeS f (escL p) = some p
  | [], 0, _, _, h => by omega
  | [], f + 1, _, _, _ => rfl
  | c :: p, 0, _, _, h => by omega
  | c :: p, f + 1, hb, hc, h => by
    rw [List.any_cons, Bool.or_eq_false_iff] at hc
    have hc0 := hb c (by simp)
    have ih := decode_esc p f (fun x hx => hb x (by simp [hx])) hc.2
    have e : escL (c :: p) = esc1 c ++ escL p := rfl
    rw [e] at h ⊢
    unfold esc1 at h ⊢
    by_cases hp : plnB c = true
    · rw [if_pos hp] at h ⊢
      show decodeS (f + 1) (c :: escL p) = _
      rw [decode_pln f _ hp, ih (by simp at h; omega)]
      rfl
    · rw [if_neg hp] at h ⊢
      show decodeS (f + 1) (37 :: hexU (c / 16) :: hexU (c % 16) :: escL p) = _
      simp only [decodeS]
      rw [if_pos trivial, hexU_V (by omega) (by omega), hexU_V (by omega) (by omega)]
      simp only
      have e2 : ((16 * (c / 16).toNat + (c % 16).toNat : Nat) : Int) = c := by omega
      rw [e2, if_neg, ih (by simp at h; omega)]
      · rfl
      · rintro (h1 | h1)
        · rw [hc.1] at h1; cases h1
        · rw [h1] at hp; exact hp (by decide)
theorem escL_vis : ∀ {p : L}, (∀ x ∈ p, 0 ≤ x ∧ x ≤ 255) → ∀ x ∈ escL p, 33 ≤ x ∧ x ≤ 126 ∧ x ≠ 63 ∧ x ≠ 35 := by
  intro p hb x hx
  unfold escL at hx
  obtain ⟨c, hc, h⟩ := List.mem_flatMap.1 hx
  have hc0 := hb c hc
  unfold esc1 at h
  split at h
  · rename_i hp
    simp only [List.mem_singleton] at h
    subst h
    have := pln_vis hp
    omega
  · simp only [List.mem_cons, List.not_mem_nil, or_false] at h
    rcases h with rfl | rfl | rfl
    · omega
    · have := pln_vis (hexU_pln (d := c / 16) (by omega) (by omega)); omega
    · have := pln_vis (hexU_pln (d := c % 16) (by omega) (by omega)); omega
theorem escape_back {p t : L} (hb : ∀ x ∈ p, 0 ≤ x ∧ x ≤ 255) (h : escapeS p = some t) : pathS t = some (p, []) ∧ ∀ x ∈ t, 33 ≤ x ∧ x ≤ 126 ∧ x ≠ 63 ∧ x ≠ 35 := by
  unfold escapeS at h
  split at h
  · rename_i h1
    simp only [Option.some.injEq] at h
    subst h
    have hv := escL_vis hb
    refine ⟨?_, hv⟩
    have hn : (63 : Int) ∉ escL p := fun hm => (hv 63 hm).2.2.1 rfl
    have hc := cutC_none_mk hn
    unfold pathS aheadC behindC
    rw [hc]
    simp only
    have hh : (escL p).head? = some 47 := by
      cases p with
      | nil => simp at h1
      | cons c p =>
        simp only [List.head?_cons, Option.some.injEq] at h1
        rw [h1.1]
        rfl
    rw [if_pos ⟨hh, rfl⟩, decode_esc p _ hb h1.2 (by omega)]
    rfl
  · cases h
theorem decode_good : ∀ {f : Nat} {s p : L}, decodeS f s = some p → (∀ x ∈ s, 0 ≤ x ∧ x ≤ 255) → p.any ctlB = false ∧ (∀ x ∈ p, 0 ≤ x ∧ x ≤ 255) ∧ (s.head? = some 47 → p.head? = some 47)
  | 0, _, _, h, _ => by simp [decodeS] at h
  | f + 1, [], p, h, _ => by
    simp only [decodeS, Option.some.injEq] at h
    subst h
    exact ⟨rfl, by simp, by simp⟩
  | f + 1, c :: r, p, h, hb => by
    simp only [decodeS] at h
    by_cases e : c = 37
    · rw [if_pos e] at h
      subst e
      match r, h with
      | [], h => simp at h
      | [a], h => simp at h
      | a :: b :: q, h =>
        simp only at h
        cases hx : hexV a with
        | none => rw [hx] at h; simp at h
        | some x =>
          cases hy : hexV b with
          | none => rw [hx, hy] at h; simp at h
          | some y =>
            rw [hx, hy] at h
            simp only at h
            split at h
            · cases h
            · rename_i hn
              simp only [not_or] at hn
              cases hd : decodeS f q with
              | none => rw [hd] at h; cases h
              | some p2 =>
                rw [hd] at h
                simp only [Option.map_some, Option.some.injEq] at h
                subst h
                obtain ⟨g1, g2, g3⟩ := decode_good hd (fun z hz => hb z (by simp [hz]))
                have hxl : x ≤ 15 := by unfold hexV at hx; (repeat' split at hx) <;> simp at hx <;> omega
                have hyl : y ≤ 15 := by unfold hexV at hy; (repeat' split at hy) <;> simp at hy <;> omega
                refine ⟨by rw [List.any_cons, g1]; simpa using hn.1, ?_, by simp⟩
                intro z hz
                rcases List.mem_cons.1 hz with rfl | hz
                · omega
                · exact g2 z hz
    · rw [if_neg e] at h
      split at h
      · cases h
      · rename_i hp
        rw [Bool.not_eq_false] at hp
        cases hd : decodeS f r with
        | none => rw [hd] at h; cases h
        | some p2 =>
          rw [hd] at h
          simp only [Option.map_some, Option.some.injEq] at h
          subst h
          obtain ⟨g1, g2, g3⟩ := decode_good hd (fun z hz => hb z (by simp [hz]))
          refine ⟨by rw [List.any_cons, g1, pln_ctl hp]; rfl, ?_, by simp⟩
          intro z hz
          rcases List.mem_cons.1 hz with rfl | hz
          · exact hb z (by simp)
          · exact g2 z hz
theorem ahead_sub (c : Int) (s : L) : ∀ x ∈ aheadC c s, x ∈ s := by
  intro x hx
  unfold aheadC at hx
  split at hx
  · rename_i a b hc
    rw [(cutC_some hc).1]
    simp [hx]
  · exact hx
theorem ahead_head {c : Int} {s : L} {x : Int} (h : s.head? = some x) (hx : x ≠ c) : (aheadC c s).head? = some x := by
  unfold aheadC
  split
  · rename_i a b hc
    have h1 := (cutC_some hc).1
    rw [h1] at h
    cases a with
    | nil => simp at h; exact absurd h.symm hx
    | cons y a => simpa using h
  · exact h
/-- A path that a target tells can be escaped, and is read back. -/
theorem path_back {s p q : L} (hb : ∀ x ∈ s, 0 ≤ x ∧ x ≤ 255) (h : pathS s = some (p, q)) : ∃ t, escapeS p = some t ∧ pathS t = some (p, []) := by
  unfold pathS at h
  split at h
  · rename_i h1
    cases hd : decodeS ((aheadC 63 s).length + 1) (aheadC 63 s) with
    | none => rw [hd] at h; cases h
    | some p2 =>
      rw [hd] at h
      simp only [Option.map_some, Option.some.injEq, Prod.mk.injEq] at h
      obtain ⟨rfl, _⟩ := h
      obtain ⟨g1, g2, g3⟩ := decode_good hd (fun x hx => hb x (ahead_sub _ _ x hx))
      have he : escapeS p2 = some (escL p2) := by
        unfold escapeS
        rw [if_pos ⟨g3 (ahead_head h1.1 (by decide)), g1⟩]
      exact ⟨_, he, (escape_back g2 he).1⟩
  · cases h
end Go.Proofs.YthgojbdpmcccaaaDoor.Wb
