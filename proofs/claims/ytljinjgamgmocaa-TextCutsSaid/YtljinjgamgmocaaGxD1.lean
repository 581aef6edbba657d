/- The machine side of the seat's functions, written by this session's program gen.py (over the kit's print). Nothing here is trusted: Lean checks it. -/
import Derived.Test.YtljinjgamgmocaaGxD0
namespace Go.Proofs.Ytljinjgamgmocaa.G
open Go.RowKit Go.Proofs.YtljinjgamgmocaaW.PrintWords Go.Proofs.YtljinjgamgmocaaW.PrintLast Go.Proofs.YtljinjgamgmocaaW.PrintMore
set_option linter.unusedVariables false
set_option linter.unusedSimpArgs false

/-! ### text_Cut: function 5 -/
def text_Cut.f (a0 : ByteArray) : Option (ByteArray × ByteArray × Bool) := if (a0.size : Int) > 1048576 then (some ((⟨#[]⟩ : ByteArray), (⟨#[]⟩ : ByteArray), false)) else ((strings_LastIndex.f a0 (⟨#[10, 10]⟩ : ByteArray)).bind fun t101 => (if t101 < 0 then (some ((⟨#[]⟩ : ByteArray), (⟨#[]⟩ : ByteArray), false)) else (if 0 ≤ (wrap64 (t101 + 1)) then (if (wrap64 (t101 + 1)) ≤ (a0.size : Int) then (if 0 ≤ (wrap64 (t101 + 2)) then (if (wrap64 (t101 + 2)) ≤ (a0.size : Int) then (some (a0.extract 0 ((wrap64 (t101 + 1)) : Int).toNat, a0.extract ((wrap64 (t101 + 2)) : Int).toNat a0.size, true)) else (none)) else (none)) else (none)) else (none))))

/-! ### ledgerlaw06_blank: function 6 -/
def ledgerlaw06_blank.l0 : Nat → ByteArray → Int → Option (Bool)
  | 0, _, _ => none
  | k + 1, x0, x3 => if (wrap64 (x3 + 1)) < (x0.size : Int) then (if 0 ≤ x3 then (if x3 < (x0.size : Int) then (if (bt x0 x3) = 10 then (if 0 ≤ (wrap64 (x3 + 1)) then (if (bt x0 (wrap64 (x3 + 1))) = 10 then (some true) else (ledgerlaw06_blank.l0 k x0 (wrap64 (x3 + 1)))) else (none)) else (ledgerlaw06_blank.l0 k x0 (wrap64 (x3 + 1)))) else (none)) else (none)) else (some false)
def ledgerlaw06_blank.f (k : Nat) (a0 : ByteArray) : Option (Bool) := ledgerlaw06_blank.l0 k a0 0
theorem ledgerlaw06_blank.mono_l : ∀ k, (∀ y0 y1, LeO (ledgerlaw06_blank.l0 k y0 y1) (ledgerlaw06_blank.l0 (k + 1) y0 y1))
  | 0 => fun _ _ r h => by simp [ledgerlaw06_blank.l0] at h
  | k + 1 => by
    have ih0 := ledgerlaw06_blank.mono_l k
    · intro y0 y1
      unfold ledgerlaw06_blank.l0
      repeat' first
      | (with_reducible exact ih0 _ _)
      | (with_reducible exact LeO.refl _)
      | (with_reducible exact LeO.none _)
      | (with_reducible refine LeO.ite ?_ ?_)
      | (with_reducible refine LeO.bind ?_ (fun _ => ?_))
      | exact ih0 _ _
      | exact LeO.none _
      | refine LeO.ite ?_ ?_
      | refine LeO.bind ?_ (fun _ => ?_)
theorem ledgerlaw06_blank.mono : ∀ a0 k, LeO (ledgerlaw06_blank.f k a0) (ledgerlaw06_blank.f (k + 1) a0) := by
  intro a0 k
  have ih0 := ledgerlaw06_blank.mono_l k
  unfold ledgerlaw06_blank.f
  repeat' first
      | (with_reducible exact ih0 _ _)
      | (with_reducible exact LeO.refl _)
      | (with_reducible exact LeO.none _)
      | (with_reducible refine LeO.ite ?_ ?_)
      | (with_reducible refine LeO.bind ?_ (fun _ => ?_))
      | exact ih0 _ _
      | exact LeO.none _
      | refine LeO.ite ?_ ?_
      | refine LeO.bind ?_ (fun _ => ?_)

/-! ### ledgerlaw06_TextCuts: function 3 -/
def ledgerlaw06_TextCuts.j0 : Nat → ByteArray → ByteArray → ByteArray → Bool → Bool → Option (Bool)
  | 0, _, _, _, _, _ => none
  | k + 1, x0, x3, x4, x5, x19 => if x19 = true then (if x5 = true then (some false) else (if x3.toList = ([] : List UInt8) then (some (x4.toList == ([] : List UInt8))) else (some false))) else (if x5 = true then (if x3.toList = ([] : List UInt8) then (some false) else (if 0 ≤ (wrap64 ((x3.size : Int) - 1)) then (if (wrap64 ((x3.size : Int) - 1)) < (x3.size : Int) then (if (bt x3 (wrap64 ((x3.size : Int) - 1))) = 10 then (if x3.size + 1 ≤ 9223372036854775807 then (if (x3 ++ (⟨#[10]⟩ : ByteArray)).size + x4.size ≤ 9223372036854775807 then (if ((x3 ++ (⟨#[10]⟩ : ByteArray)) ++ x4).toList = x0.toList then (if 1 + x4.size ≤ 9223372036854775807 then ((ledgerlaw06_blank.f k ((⟨#[10]⟩ : ByteArray) ++ x4)).bind fun t106 => (some (!t106))) else (none)) else (some false)) else (none)) else (none)) else (some false)) else (none)) else (none))) else (some false))
def ledgerlaw06_TextCuts.f (k : Nat) (a0 : ByteArray) : Option (Bool) := (text_Cut.f a0).bind fun bt102 => (if (a0.size : Int) > 1048576 then (ledgerlaw06_TextCuts.j0 k a0 bt102.1 bt102.2.1 bt102.2.2 true) else ((ledgerlaw06_blank.f k a0).bind fun t105 => (ledgerlaw06_TextCuts.j0 k a0 bt102.1 bt102.2.1 bt102.2.2 (!t105))))
theorem ledgerlaw06_TextCuts.mono_l : ∀ k, (∀ y0 y1 y2 y3 y4, LeO (ledgerlaw06_TextCuts.j0 k y0 y1 y2 y3 y4) (ledgerlaw06_TextCuts.j0 (k + 1) y0 y1 y2 y3 y4))
  | 0 => fun _ _ _ _ _ r h => by simp [ledgerlaw06_TextCuts.j0] at h
  | k + 1 => by
    have ih0 := ledgerlaw06_TextCuts.mono_l k
    · intro y0 y1 y2 y3 y4
      unfold ledgerlaw06_TextCuts.j0
      repeat' first
      | (with_reducible exact ih0 _ _ _ _ _)
      | (with_reducible exact ledgerlaw06_blank.mono _ _)
      | (with_reducible exact LeO.refl _)
      | (with_reducible exact LeO.none _)
      | (with_reducible refine LeO.ite ?_ ?_)
      | (with_reducible refine LeO.bind ?_ (fun _ => ?_))
      | exact ih0 _ _ _ _ _
      | exact ledgerlaw06_blank.mono _ _
      | exact LeO.none _
      | refine LeO.ite ?_ ?_
      | refine LeO.bind ?_ (fun _ => ?_)
theorem ledgerlaw06_TextCuts.mono : ∀ a0 k, LeO (ledgerlaw06_TextCuts.f k a0) (ledgerlaw06_TextCuts.f (k + 1) a0) := by
  intro a0 k
  have ih0 := ledgerlaw06_TextCuts.mono_l k
  unfold ledgerlaw06_TextCuts.f
  repeat' first
      | (with_reducible exact ih0 _ _ _ _ _)
      | (with_reducible exact ledgerlaw06_blank.mono _ _)
      | (with_reducible exact LeO.refl _)
      | (with_reducible exact LeO.none _)
      | (with_reducible refine LeO.ite ?_ ?_)
      | (with_reducible refine LeO.bind ?_ (fun _ => ?_))
      | exact ih0 _ _ _ _ _
      | exact ledgerlaw06_blank.mono _ _
      | exact LeO.none _
      | refine LeO.ite ?_ ?_
      | refine LeO.bind ?_ (fun _ => ?_)

end Go.Proofs.Ytljinjgamgmocaa.G
