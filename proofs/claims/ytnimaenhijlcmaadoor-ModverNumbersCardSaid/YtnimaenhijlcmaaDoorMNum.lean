/- What the law of numbers says, all of it. No program and no memory here. -/
import Derived.Test.YtnimaenhijlcmaaDoorMLaw
namespace Go.Proofs.YtnimaenhijlcmaaDoor.Mb
set_option linter.unusedVariables false
set_option linter.unusedSimpArgs false

theorem parse_odd_no {a b c : L} (ha : numB a = true) (hb : numB b = true) (hc : numB c = true) (h : a = [48] ∨ a = [49]) : parseV (verText a b c none true) = none := by
  have da := (numB_dig ha).1
  have db := (numB_dig hb).1
  have dc := (numB_dig hc).1
  have hcore2 : (45 : Int) ∉ a ++ 46 :: (b ++ 46 :: c) := by
    simp only [List.mem_append, List.mem_cons, not_or]
    exact ⟨dig_not da (by decide), by decide, dig_not db (by decide), by decide, dig_not dc (by decide)⟩
  have hsplit : splitC 46 (a ++ 46 :: (b ++ 46 :: c)) = [a, b, c] := by
    rw [splitC_cut _ (dig_not da (by decide)), splitC_cut _ (dig_not db (by decide)), splitC_none (dig_not dc (by decide))]
  have e : verText a b c none true = 118 :: ((a ++ 46 :: (b ++ 46 :: c)) ++ incompat) := by unfold verText; simp [preT]
  rw [e]
  unfold parseV
  split
  · rfl
  simp only
  rw [endCut_app]
  simp only [Option.getD_some, Option.isSome_some]
  have hah : aheadC 45 (a ++ 46 :: (b ++ 46 :: c)) = a ++ 46 :: (b ++ 46 :: c) := by
    unfold aheadC
    rw [cutC_none_mk hcore2]
  rw [cutC_none_mk hcore2, hah, hsplit]
  split
  · rfl
  simp only
  rw [if_neg]
  rcases h with rfl | rfl <;> simp
theorem side_refl (a b c : Nat) : side3 a b c a b c = 0 := by
  unfold side3 cmpI
  (repeat' split) <;> omega
theorem side_range (a b c x y z : Nat) : side3 a b c x y z = -1 ∨ side3 a b c x y z = 0 ∨ side3 a b c x y z = 1 := by
  unfold side3 cmpI
  (repeat' split) <;> omega
def p0 : L := [45, 48]
def pa9 : L := [45, 97, 46, 57]
def pa10 : L := [45, 97, 46, 49, 48]
def prc : L := [45, 114, 99, 46, 49]
structure NumF (a b c x y z : Nat) : Prop where
  qa : (parseV (threeS a b c)).isSome = true
  qb : compareS (threeS a b c) (threeS x y z) = side3 a b c x y z
  qc : compareS (threeS a b c ++ p0) (threeS a b c) = -1
  qd : compareS (threeS a b c ++ pa9) (threeS a b c ++ pa10) = -1
  qe : compareS (threeS a b c ++ prc) (threeS x y z) = if side3 a b c x y z ≤ 0 then -1 else 1
  qf : a < 2 → parseV (threeS a b c ++ incompat) = none
  qg : ¬ a < 2 → (parseV (threeS a b c ++ incompat)).isSome = true ∧ compareS (threeS a b c ++ incompat) (threeS a b c) = 0 ∧ compareS (threeS a b c ++ incompat) (threeS x y z) = side3 a b c x y z
theorem num_facts {a b c x y z : Nat} (ha : a < 2 ^ 32) (hb : b < 2 ^ 32) (hc : c < 2 ^ 32) (hx : x < 2 ^ 32) (hy : y < 2 ^ 32) (hz : z < 2 ^ 32) : NumF a b c x y z := by
  have hr := side_range a b c x y z
  have hs := side_refl a b c
  have w0 : ∀ w ∈ verWords none, wordB w = true := fun w h => by cases h
  have w1 : ∀ w ∈ verWords (some [48]), wordB w = true := by
    have : (verWords (some [48])).all wordB = true := by decide +kernel
    exact List.all_eq_true.1 this
  have w2 : ∀ w ∈ verWords (some [97, 46, 57]), wordB w = true := by
    have : (verWords (some [97, 46, 57])).all wordB = true := by decide +kernel
    exact List.all_eq_true.1 this
  have w3 : ∀ w ∈ verWords (some [97, 46, 49, 48]), wordB w = true := by
    have : (verWords (some [97, 46, 49, 48])).all wordB = true := by decide +kernel
    exact List.all_eq_true.1 this
  have w4 : ∀ w ∈ verWords (some [114, 99, 46, 49]), wordB w = true := by
    have : (verWords (some [114, 99, 46, 49])).all wordB = true := by decide +kernel
    exact List.all_eq_true.1 this
  have n0 : ∀ l : L, l ++ preT none ++ (if (false : Bool) = true then incompat else []) = l := fun l => by simp [preT]
  have n1 : ∀ l q : L, l ++ preT (some q) ++ (if (false : Bool) = true then incompat else []) = l ++ 45 :: q := fun l q => by simp [preT]
  have n2 : ∀ l : L, l ++ preT none ++ (if (true : Bool) = true then incompat else []) = l ++ incompat := fun l => by simp [preT]
  refine ⟨?_, ?_, ?_, ?_, ?_, fun h2 => ?_, fun h2 => ⟨?_, ?_, ?_⟩⟩
  · have := parse_three ha hb hc none false w0 (by simp) (by simp)
    rw [n0] at this
    rw [this]; rfl
  · have := compare_three ha hb hc hx hy hz none none false false w0 (by simp) w0 (by simp) (by simp) (by simp)
    rw [n0, n0] at this
    rw [this]
    split
    · rfl
    · rename_i h
      rw [Classical.not_not.1 h]
      rfl
  · have := compare_three ha hb hc ha hb hc (some [48]) none false false w1 (by simp) w0 (by simp) (by simp) (by simp)
    rw [n0, n1, hs] at this
    rw [show p0 = 45 :: [48] from rfl, this]
    decide +kernel
  · have := compare_three ha hb hc ha hb hc (some [97, 46, 57]) (some [97, 46, 49, 48]) false false w2 (by simp) w3 (by simp) (by simp) (by simp)
    rw [n1, n1, hs] at this
    rw [show pa9 = 45 :: [97, 46, 57] from rfl, show pa10 = 45 :: [97, 46, 49, 48] from rfl, this]
    decide +kernel
  · have := compare_three ha hb hc hx hy hz (some [114, 99, 46, 49]) none false false w4 (by simp) w0 (by simp) (by simp) (by simp)
    rw [n0, n1] at this
    rw [show prc = 45 :: [114, 99, 46, 49] from rfl, this]
    have hc : cmpP (verWords (some [114, 99, 46, 49])) (verWords none) = -1 := by decide +kernel
    rw [hc]
    (repeat' split) <;> omega
  · have hn : decS a = [48] ∨ decS a = [49] := by
      rw [decS_lt (by omega)]
      rcases (by omega : a = 0 ∨ a = 1) with rfl | rfl
      · exact .inl rfl
      · exact .inr rfl
    have := parse_odd_no (decS_num a) (decS_num b) (decS_num c) hn
    rw [← threeS_text, n2] at this
    exact this
  · have := parse_three ha hb hc none true w0 (by simp) (fun _ => by omega)
    rw [n2] at this
    rw [this]; rfl
  · have := compare_three ha hb hc ha hb hc none none true false w0 (by simp) w0 (by simp) (fun _ => by omega) (by simp)
    rw [n2, n0, hs] at this
    rw [this]
    rfl
  · have := compare_three ha hb hc hx hy hz none none true false w0 (by simp) w0 (by simp) (fun _ => by omega) (by simp)
    rw [n2, n0] at this
    rw [this]
    split
    · rfl
    · rename_i h
      rw [Classical.not_not.1 h]
      rfl
end Go.Proofs.YtnimaenhijlcmaaDoor.Mb
