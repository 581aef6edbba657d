/- The machine side of the seat's functions, written by this session's program gen.py (over the kit's print). Nothing here is trusted: Lean checks it. -/
import Derived.Test.YthgojbdpmcccaaaGxD0
namespace Go.Proofs.Ythgojbdpmcccaaa.G
open Go.RowKit Go.Proofs.YthgojbdpmcccaaaW.PrintWords Go.Proofs.YthgojbdpmcccaaaW.PrintLast Go.Proofs.YthgojbdpmcccaaaW.PrintMore
set_option linter.unusedVariables false
set_option linter.unusedSimpArgs false

/-! ### ledgerlaw14_value: function 4 -/
def ledgerlaw14_value.f (l0 : List ByteArray) (a1 : Int) : Option (ByteArray) := if a1 < (l0.length : Int) then (if 0 ≤ a1 then (some (rdOf ByteArray.empty l0 a1)) else (none)) else (some (⟨#[]⟩ : ByteArray))

/-! ### web_Value: function 5 -/
def web_Value.l0 : Nat → ByteArray → List (S26) → Int → Int → Option (ByteArray × Bool)
  | 0, _, _, _, _ => none
  | k + 1, x6, x11, x12, x13 => if x13 < x12 then (if 0 ≤ x13 then (if x13 < (x11.length : Int) then ((web_lower.f ((rd_T26 x11 x13).f0)).bind fun t105 => (if t105.toList = x6.toList then (some ((rd_T26 x11 x13).f1, true)) else (web_Value.l0 k x6 x11 x12 (wrap64 (x13 + 1))))) else (none)) else (none)) else (some ((⟨#[]⟩ : ByteArray), false))
def web_Value.f (k : Nat) (l0 : List (S26)) (a1 : ByteArray) : Option (ByteArray × Bool) := (web_lower.f a1).bind fun t102 => (web_Value.l0 k t102 l0 (l0.length : Int) 0)
theorem web_Value.mono_l : ∀ k, (∀ y0 y1 y2 y3, LeO (web_Value.l0 k y0 y1 y2 y3) (web_Value.l0 (k + 1) y0 y1 y2 y3))
  | 0 => fun _ _ _ _ r h => by simp [web_Value.l0] at h
  | k + 1 => by
    have ih0 := web_Value.mono_l k
    · intro y0 y1 y2 y3
      unfold web_Value.l0
      repeat' first
      | (with_reducible exact ih0 _ _ _ _)
      | (with_reducible exact LeO.refl _)
      | (with_reducible exact LeO.none _)
      | (with_reducible refine LeO.ite ?_ ?_)
      | (with_reducible refine LeO.bind ?_ (fun _ => ?_))
      | exact ih0 _ _ _ _
      | exact LeO.none _
      | refine LeO.ite ?_ ?_
      | refine LeO.bind ?_ (fun _ => ?_)
theorem web_Value.mono : ∀ a0 a1 k, LeO (web_Value.f k a0 a1) (web_Value.f (k + 1) a0 a1) := by
  intro a0 a1 k
  have ih0 := web_Value.mono_l k
  unfold web_Value.f
  repeat' first
      | (with_reducible exact ih0 _ _ _ _)
      | (with_reducible exact LeO.refl _)
      | (with_reducible exact LeO.none _)
      | (with_reducible refine LeO.ite ?_ ?_)
      | (with_reducible refine LeO.bind ?_ (fun _ => ?_))
      | exact ih0 _ _ _ _
      | exact LeO.none _
      | refine LeO.ite ?_ ?_
      | refine LeO.bind ?_ (fun _ => ?_)

/-! ### ledgerlaw14_lower: function 6 -/
def ledgerlaw14_lower.l0 : Nat → ByteArray → List Int → Int → Option (ByteArray)
  | 0, _, _, _ => none
  | k + 1, x0, x3, x4 => if x4 < (x0.size : Int) then (if 0 ≤ x4 then (if (bt x0 x4) ≥ 65 then (if (bt x0 x4) ≤ 90 then (if x3.length < 140737488355328 then (ledgerlaw14_lower.l0 k x0 (x3 ++ [((bt x0 x4) + 32) % 256]) (wrap64 (x4 + 1))) else (none)) else (if x3.length < 140737488355328 then (ledgerlaw14_lower.l0 k x0 (x3 ++ [bt x0 x4]) (wrap64 (x4 + 1))) else (none))) else (if x3.length < 140737488355328 then (ledgerlaw14_lower.l0 k x0 (x3 ++ [bt x0 x4]) (wrap64 (x4 + 1))) else (none))) else (none)) else (some (strOfNums x3))
def ledgerlaw14_lower.f (k : Nat) (a0 : ByteArray) : Option (ByteArray) := ledgerlaw14_lower.l0 k a0 ([] : List Int) 0
theorem ledgerlaw14_lower.mono_l : ∀ k, (∀ y0 y1 y2, LeO (ledgerlaw14_lower.l0 k y0 y1 y2) (ledgerlaw14_lower.l0 (k + 1) y0 y1 y2))
  | 0 => fun _ _ _ r h => by simp [ledgerlaw14_lower.l0] at h
  | k + 1 => by
    have ih0 := ledgerlaw14_lower.mono_l k
    · intro y0 y1 y2
      unfold ledgerlaw14_lower.l0
      repeat' first
      | (with_reducible exact ih0 _ _ _)
      | (with_reducible exact LeO.refl _)
      | (with_reducible exact LeO.none _)
      | (with_reducible refine LeO.ite ?_ ?_)
      | (with_reducible refine LeO.bind ?_ (fun _ => ?_))
      | exact ih0 _ _ _
      | exact LeO.none _
      | refine LeO.ite ?_ ?_
      | refine LeO.bind ?_ (fun _ => ?_)
theorem ledgerlaw14_lower.mono : ∀ a0 k, LeO (ledgerlaw14_lower.f k a0) (ledgerlaw14_lower.f (k + 1) a0) := by
  intro a0 k
  have ih0 := ledgerlaw14_lower.mono_l k
  unfold ledgerlaw14_lower.f
  repeat' first
      | (with_reducible exact ih0 _ _ _)
      | (with_reducible exact LeO.refl _)
      | (with_reducible exact LeO.none _)
      | (with_reducible refine LeO.ite ?_ ?_)
      | (with_reducible refine LeO.bind ?_ (fun _ => ?_))
      | exact ih0 _ _ _
      | exact LeO.none _
      | refine LeO.ite ?_ ?_
      | refine LeO.bind ?_ (fun _ => ?_)

/-! ### ledgerlaw14_WebValues: function 3 -/
mutual
def ledgerlaw14_WebValues.l0 : Nat → List ByteArray → List ByteArray → ByteArray → List (S26) → Int → Option (Bool)
  | 0, _, _, _, _, _ => none
  | k + 1, x0, x1, x2, x7, x8 => if x8 < (x0.length : Int) then (if 0 ≤ x8 then ((ledgerlaw14_value.f x1 x8).bind fun t116 => (if x7.length < 4398046511104 then (ledgerlaw14_WebValues.l0 k x0 x1 x2 (x7 ++ [(⟨rdOf ByteArray.empty x0 x8, t116⟩ : S26)]) (wrap64 (x8 + 1))) else (none))) else (none)) else ((web_Value.f k x7 x2).bind fun bt120 => (ledgerlaw14_WebValues.l1 k x2 x7 bt120.1 bt120.2 0))
def ledgerlaw14_WebValues.l1 : Nat → ByteArray → List (S26) → ByteArray → Bool → Int → Option (Bool)
  | 0, _, _, _, _, _ => none
  | k + 1, x2, x7, x9, x10, x11 => if x11 < (x7.length : Int) then (if 0 ≤ x11 then ((ledgerlaw14_lower.f k ((rd_T26 x7 x11).f0)).bind fun t128 => ((ledgerlaw14_lower.f k x2).bind fun t129 => (if t128.toList = t129.toList then (if x10 = true then (some (x9.toList == ((rd_T26 x7 x11).f1).toList)) else (some false)) else (ledgerlaw14_WebValues.l1 k x2 x7 x9 x10 (wrap64 (x11 + 1)))))) else (none)) else ((web_Value.f k (([(⟨(⟨#[97, 66]⟩ : ByteArray), (⟨#[99]⟩ : ByteArray)⟩ : S26)] : List (S26))) (⟨#[65, 98]⟩ : ByteArray)).bind fun bt125 => (if x10 = true then (some false) else (if x9.toList = ([] : List UInt8) then (if bt125.2 = true then (some (bt125.1.toList == ([99] : List UInt8))) else (some false)) else (some false))))
end
def ledgerlaw14_WebValues.f (k : Nat) (l0 : List ByteArray) (l1 : List ByteArray) (a2 : ByteArray) : Option (Bool) := ledgerlaw14_WebValues.l0 k l0 l1 a2 ([] : List (S26)) 0
theorem ledgerlaw14_WebValues.mono_l : ∀ k, (∀ y0 y1 y2 y3 y4, LeO (ledgerlaw14_WebValues.l0 k y0 y1 y2 y3 y4) (ledgerlaw14_WebValues.l0 (k + 1) y0 y1 y2 y3 y4)) ∧ (∀ y0 y1 y2 y3 y4, LeO (ledgerlaw14_WebValues.l1 k y0 y1 y2 y3 y4) (ledgerlaw14_WebValues.l1 (k + 1) y0 y1 y2 y3 y4))
  | 0 => ⟨fun _ _ _ _ _ r h => by simp [ledgerlaw14_WebValues.l0] at h, fun _ _ _ _ _ r h => by simp [ledgerlaw14_WebValues.l1] at h⟩
  | k + 1 => by
    obtain ⟨ih0, ih1⟩ := ledgerlaw14_WebValues.mono_l k
    refine ⟨?_, ?_⟩
    · intro y0 y1 y2 y3 y4
      unfold ledgerlaw14_WebValues.l0
      repeat' first
      | (with_reducible exact ih0 _ _ _ _ _)
      | (with_reducible exact ih1 _ _ _ _ _)
      | (with_reducible exact ledgerlaw14_lower.mono _ _)
      | (with_reducible exact web_Value.mono _ _ _)
      | (with_reducible exact LeO.refl _)
      | (with_reducible exact LeO.none _)
      | (with_reducible refine LeO.ite ?_ ?_)
      | (with_reducible refine LeO.bind ?_ (fun _ => ?_))
      | exact ih0 _ _ _ _ _
      | exact ih1 _ _ _ _ _
      | exact ledgerlaw14_lower.mono _ _
      | exact web_Value.mono _ _ _
      | exact LeO.none _
      | refine LeO.ite ?_ ?_
      | refine LeO.bind ?_ (fun _ => ?_)
    · intro y0 y1 y2 y3 y4
      unfold ledgerlaw14_WebValues.l1
      repeat' first
      | (with_reducible exact ih0 _ _ _ _ _)
      | (with_reducible exact ih1 _ _ _ _ _)
      | (with_reducible exact ledgerlaw14_lower.mono _ _)
      | (with_reducible exact web_Value.mono _ _ _)
      | (with_reducible exact LeO.refl _)
      | (with_reducible exact LeO.none _)
      | (with_reducible refine LeO.ite ?_ ?_)
      | (with_reducible refine LeO.bind ?_ (fun _ => ?_))
      | exact ih0 _ _ _ _ _
      | exact ih1 _ _ _ _ _
      | exact ledgerlaw14_lower.mono _ _
      | exact web_Value.mono _ _ _
      | exact LeO.none _
      | refine LeO.ite ?_ ?_
      | refine LeO.bind ?_ (fun _ => ?_)
theorem ledgerlaw14_WebValues.mono : ∀ a0 a1 a2 k, LeO (ledgerlaw14_WebValues.f k a0 a1 a2) (ledgerlaw14_WebValues.f (k + 1) a0 a1 a2) := by
  intro a0 a1 a2 k
  obtain ⟨ih0, ih1⟩ := ledgerlaw14_WebValues.mono_l k
  unfold ledgerlaw14_WebValues.f
  repeat' first
      | (with_reducible exact ih0 _ _ _ _ _)
      | (with_reducible exact ih1 _ _ _ _ _)
      | (with_reducible exact ledgerlaw14_lower.mono _ _)
      | (with_reducible exact web_Value.mono _ _ _)
      | (with_reducible exact LeO.refl _)
      | (with_reducible exact LeO.none _)
      | (with_reducible refine LeO.ite ?_ ?_)
      | (with_reducible refine LeO.bind ?_ (fun _ => ?_))
      | exact ih0 _ _ _ _ _
      | exact ih1 _ _ _ _ _
      | exact ledgerlaw14_lower.mono _ _
      | exact web_Value.mono _ _ _
      | exact LeO.none _
      | refine LeO.ite ?_ ?_
      | refine LeO.bind ?_ (fun _ => ?_)

end Go.Proofs.Ythgojbdpmcccaaa.G
