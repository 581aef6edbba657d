/- Digits and what they spell; strconv.ParseInt's plain function on digits. -/
import Derived.Test.YtljinjgamgmocaaDoorExtD
namespace Go.Proofs.YtljinjgamgmocaaDoor.G
open Go.RowKit Go.Proofs.YtljinjgamgmocaaDoorW.PrintWords Go.Proofs.YtljinjgamgmocaaDoorW.PrintLast Go.Proofs.YtljinjgamgmocaaDoorW.PrintMore
set_option linter.unusedSimpArgs false
set_option linter.unusedVariables false

/-- What digits spell, behind a number. -/
def dstp (a : Nat) (c : UInt8) : Nat := a * 10 + (c.toNat - 48)
def dv (a : Nat) (l : List UInt8) : Nat := l.foldl dstp a
theorem dv_nil (a : Nat) : dv a [] = a := by unfold dv; rw [List.foldl_nil]
theorem dv_cons (a : Nat) (c : UInt8) (r : List UInt8) : dv a (c :: r) = dv (a * 10 + (c.toNat - 48)) r := by unfold dv; rw [List.foldl_cons, dstp]
theorem dv_le (l : List UInt8) : ∀ a : Nat, a ≤ dv a l := by
  induction l with
  | nil => intro a; rw [dv_nil]; exact Nat.le_refl a
  | cons c r ih =>
    intro a
    have := ih (a * 10 + (c.toNat - 48))
    rw [dv_cons]
    omega
theorem dv_append (l m : List UInt8) : ∀ a : Nat, dv a (l ++ m) = dv (dv a l) m := by
  induction l with
  | nil => intro a; rw [dv_nil]; rfl
  | cons c r ih => intro a; rw [List.cons_append, dv_cons, dv_cons, ih]
theorem dig_iff (c : UInt8) : (48 ≤ c && c ≤ 57) = true ↔ 48 ≤ c.toNat ∧ c.toNat ≤ 57 := by
  simp only [Bool.and_eq_true, decide_eq_true_eq, UInt8.le_iff_toNat_le]
  have e1 : (48 : UInt8).toNat = 48 := rfl
  have e2 : (57 : UInt8).toNat = 57 := rfl
  rw [e1, e2]
theorem allDig_cons (c : UInt8) (r : List UInt8) : allDig (c :: r) = true ↔ (48 ≤ c.toNat ∧ c.toNat ≤ 57) ∧ allDig r = true := by
  unfold allDig
  rw [List.all_cons, Bool.and_eq_true, dig_iff]
theorem allDig_append (l m : List UInt8) : allDig (l ++ m) = true ↔ allDig l = true ∧ allDig m = true := by
  unfold allDig
  rw [List.all_append, Bool.and_eq_true]
theorem parseUintM_dig (M : Nat) (hM : M ≤ 18446744073709551615) (l : List UInt8) : ∀ a : Nat, allDig l = true → a ≤ M → Lib.parseUintM M a l = if dv a l ≤ M then .ok (dv a l) else .range := by
  induction l with
  | nil => intro a _ ha; rw [Lib.parseUintM, dv_nil, if_pos ha]
  | cons c r ih =>
    intro a h ha
    obtain ⟨hc, hr⟩ := (allDig_cons c r).1 h
    have hle := dv_le r (a * 10 + (c.toNat - 48))
    rw [Lib.parseUintM, dv_cons]
    rw [if_pos hc]
    by_cases h1 : 1844674407370955162 ≤ a
    · rw [if_pos h1, if_neg (show ¬ dv (a * 10 + (c.toNat - 48)) r ≤ M by omega)]
    rw [if_neg h1]
    by_cases h2 : M < a * 10 + (c.toNat - 48)
    · rw [if_pos h2, if_neg (show ¬ dv (a * 10 + (c.toNat - 48)) r ≤ M by omega)]
    rw [if_neg h2, ih _ hr (by omega)]
theorem parseIntB_dig (l : List UInt8) (hne : l ≠ []) (h : allDig l = true) : Lib.parseIntB 64 l = if dv 0 l < 9223372036854775808 then .ok (dv 0 l : Int) else .range := by
  match l, hne, h with
  | c :: r, _, h =>
    obtain ⟨hc, _⟩ := (allDig_cons c r).1 h
    have hU := parseUintM_dig (2 ^ 64 - 1) (by decide) (c :: r) 0 h (by omega)
    unfold Lib.parseIntB
    simp only
    rw [if_neg (by omega)]
    unfold Lib.parseUintB
    rw [if_neg (by simp), hU]
    have e1 : (2 ^ 64 - 1 : Nat) = 18446744073709551615 := by decide
    have e2 : (2 ^ (64 - 1) : Nat) = 9223372036854775808 := by decide
    rw [e1, e2]
    have hn : ¬ c.toNat = 45 := by omega
    by_cases h1 : dv 0 (c :: r) ≤ 18446744073709551615
    · rw [if_pos h1]
      simp only [hn, not_false_eq_true, true_and, false_and, if_false]
      by_cases h2 : dv 0 (c :: r) < 9223372036854775808
      · rw [if_neg (by omega), if_pos h2]
      · rw [if_pos (by omega), if_neg h2]
    · rw [if_neg h1, if_neg (by omega)]

end Go.Proofs.YtljinjgamgmocaaDoor.G
