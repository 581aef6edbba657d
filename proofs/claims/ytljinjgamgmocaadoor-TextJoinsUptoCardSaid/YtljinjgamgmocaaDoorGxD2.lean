/- The machine side of the seat's functions, written by this session's program gen.py (over the kit's print). Nothing here is trusted: Lean checks it. -/
import Derived.Test.YtljinjgamgmocaaDoorGxD0
import Derived.Test.YtljinjgamgmocaaDoorGxD1
namespace Go.Proofs.YtljinjgamgmocaaDoor.G
open Go.RowKit Go.Proofs.YtljinjgamgmocaaDoorW.PrintWords Go.Proofs.YtljinjgamgmocaaDoorW.PrintLast Go.Proofs.YtljinjgamgmocaaDoorW.PrintMore
set_option linter.unusedVariables false
set_option linter.unusedSimpArgs false

/-! ### ledgerlaw06_TextOnce: function 10 -/
mutual
def ledgerlaw06_TextOnce.j0 : Nat → ByteArray → Bool → Option (Bool)
  | 0, _, _ => none
  | k + 1, x0, x69 => if x69 = true then (some false) else ((text_DecodeBase64.f k x0).bind fun bt432 => (if bt432.2 = 0 then ((text_EncodeBase64.f k bt432.1).bind fun t436 => (ledgerlaw06_TextOnce.j1 k x0 (t436.toList != x0.toList))) else (ledgerlaw06_TextOnce.j1 k x0 false)))
def ledgerlaw06_TextOnce.j1 : Nat → ByteArray → Bool → Option (Bool)
  | 0, _, _ => none
  | k + 1, x0, x82 => if x82 = true then (some false) else ((text_DecodeHex.f k x0).bind fun bt437 => (if bt437.2 = 0 then ((text_EncodeHex.f k bt437.1).bind fun t441 => (ledgerlaw06_TextOnce.j2 k x0 (t441.toList != x0.toList))) else (ledgerlaw06_TextOnce.j2 k x0 false)))
def ledgerlaw06_TextOnce.j2 : Nat → ByteArray → Bool → Option (Bool)
  | 0, _, _ => none
  | k + 1, x0, x95 => if x95 = true then (some false) else ((text_Unquote.f k x0).bind fun bt442 => (if bt442.2 = 0 then ((text_Quote.f k bt442.1).bind fun t446 => (ledgerlaw06_TextOnce.j3 k x0 (t446.toList != x0.toList))) else (ledgerlaw06_TextOnce.j3 k x0 false)))
def ledgerlaw06_TextOnce.j3 : Nat → ByteArray → Bool → Option (Bool)
  | 0, _, _ => none
  | k + 1, x0, x108 => if x108 = true then (some false) else ((text_ParseNumber.f x0 9223372036854775807).bind fun bt447 => (if bt447.2 = 0 then ((text_FormatNumber.f bt447.1).bind fun t449 => (some (t449.toList == x0.toList))) else (some true)))
end
def ledgerlaw06_TextOnce.f (k : Nat) (a0 : ByteArray) : Option (Bool) := (text_DecodeBase64.f k (⟨#[47, 119, 61, 61]⟩ : ByteArray)).bind fun bt417 => ((text_DecodeHex.f k (⟨#[102, 102]⟩ : ByteArray)).bind fun bt421 => ((text_Unquote.f k (⟨#[34, 92, 120, 102, 102, 34]⟩ : ByteArray)).bind fun bt425 => ((text_ParseNumber.f (⟨#[50, 53, 53]⟩ : ByteArray) 255).bind fun bt429 => (if bt417.2 = 0 then (if bt421.2 = 0 then (if bt425.2 = 0 then (if bt429.2 = 0 then (if (bt417.1.length : Int) = 1 then (if 0 < (bt417.1.length : Int) then (if (rd bt417.1 0) = 255 then (if (strOfNums bt421.1).toList = (strOfNums bt417.1).toList then (if (strOfNums bt425.1).toList = (strOfNums bt417.1).toList then (ledgerlaw06_TextOnce.j0 k a0 (bt429.1 != 255)) else (ledgerlaw06_TextOnce.j0 k a0 true)) else (ledgerlaw06_TextOnce.j0 k a0 true)) else (ledgerlaw06_TextOnce.j0 k a0 true)) else (none)) else (ledgerlaw06_TextOnce.j0 k a0 true)) else (ledgerlaw06_TextOnce.j0 k a0 true)) else (ledgerlaw06_TextOnce.j0 k a0 true)) else (ledgerlaw06_TextOnce.j0 k a0 true)) else (ledgerlaw06_TextOnce.j0 k a0 true)))))
theorem ledgerlaw06_TextOnce.mono_l : ∀ k, (∀ y0 y1, LeO (ledgerlaw06_TextOnce.j0 k y0 y1) (ledgerlaw06_TextOnce.j0 (k + 1) y0 y1)) ∧ (∀ y0 y1, LeO (ledgerlaw06_TextOnce.j1 k y0 y1) (ledgerlaw06_TextOnce.j1 (k + 1) y0 y1)) ∧ (∀ y0 y1, LeO (ledgerlaw06_TextOnce.j2 k y0 y1) (ledgerlaw06_TextOnce.j2 (k + 1) y0 y1)) ∧ (∀ y0 y1, LeO (ledgerlaw06_TextOnce.j3 k y0 y1) (ledgerlaw06_TextOnce.j3 (k + 1) y0 y1))
  | 0 => ⟨fun _ _ r h => by simp [ledgerlaw06_TextOnce.j0] at h, fun _ _ r h => by simp [ledgerlaw06_TextOnce.j1] at h, fun _ _ r h => by simp [ledgerlaw06_TextOnce.j2] at h, fun _ _ r h => by simp [ledgerlaw06_TextOnce.j3] at h⟩
  | k + 1 => by
    obtain ⟨ih0, ih1, ih2, ih3⟩ := ledgerlaw06_TextOnce.mono_l k
    refine ⟨?_, ?_, ?_, ?_⟩
    · intro y0 y1
      unfold ledgerlaw06_TextOnce.j0
      repeat' first
      | (with_reducible exact ih0 _ _)
      | (with_reducible exact ih1 _ _)
      | (with_reducible exact ih2 _ _)
      | (with_reducible exact ih3 _ _)
      | (with_reducible exact text_DecodeBase64.mono _ _)
      | (with_reducible exact text_DecodeHex.mono _ _)
      | (with_reducible exact text_EncodeBase64.mono _ _)
      | (with_reducible exact text_EncodeHex.mono _ _)
      | (with_reducible exact text_Quote.mono _ _)
      | (with_reducible exact text_Unquote.mono _ _)
      | (with_reducible exact LeO.refl _)
      | (with_reducible exact LeO.none _)
      | (with_reducible refine LeO.ite ?_ ?_)
      | (with_reducible refine LeO.bind ?_ (fun _ => ?_))
      | exact ih0 _ _
      | exact ih1 _ _
      | exact ih2 _ _
      | exact ih3 _ _
      | exact text_DecodeBase64.mono _ _
      | exact text_DecodeHex.mono _ _
      | exact text_EncodeBase64.mono _ _
      | exact text_EncodeHex.mono _ _
      | exact text_Quote.mono _ _
      | exact text_Unquote.mono _ _
      | exact LeO.none _
      | refine LeO.ite ?_ ?_
      | refine LeO.bind ?_ (fun _ => ?_)
    · intro y0 y1
      unfold ledgerlaw06_TextOnce.j1
      repeat' first
      | (with_reducible exact ih0 _ _)
      | (with_reducible exact ih1 _ _)
      | (with_reducible exact ih2 _ _)
      | (with_reducible exact ih3 _ _)
      | (with_reducible exact text_DecodeBase64.mono _ _)
      | (with_reducible exact text_DecodeHex.mono _ _)
      | (with_reducible exact text_EncodeBase64.mono _ _)
      | (with_reducible exact text_EncodeHex.mono _ _)
      | (with_reducible exact text_Quote.mono _ _)
      | (with_reducible exact text_Unquote.mono _ _)
      | (with_reducible exact LeO.refl _)
      | (with_reducible exact LeO.none _)
      | (with_reducible refine LeO.ite ?_ ?_)
      | (with_reducible refine LeO.bind ?_ (fun _ => ?_))
      | exact ih0 _ _
      | exact ih1 _ _
      | exact ih2 _ _
      | exact ih3 _ _
      | exact text_DecodeBase64.mono _ _
      | exact text_DecodeHex.mono _ _
      | exact text_EncodeBase64.mono _ _
      | exact text_EncodeHex.mono _ _
      | exact text_Quote.mono _ _
      | exact text_Unquote.mono _ _
      | exact LeO.none _
      | refine LeO.ite ?_ ?_
      | refine LeO.bind ?_ (fun _ => ?_)
    · intro y0 y1
      unfold ledgerlaw06_TextOnce.j2
      repeat' first
      | (with_reducible exact ih0 _ _)
      | (with_reducible exact ih1 _ _)
      | (with_reducible exact ih2 _ _)
      | (with_reducible exact ih3 _ _)
      | (with_reducible exact text_DecodeBase64.mono _ _)
      | (with_reducible exact text_DecodeHex.mono _ _)
      | (with_reducible exact text_EncodeBase64.mono _ _)
      | (with_reducible exact text_EncodeHex.mono _ _)
      | (with_reducible exact text_Quote.mono _ _)
      | (with_reducible exact text_Unquote.mono _ _)
      | (with_reducible exact LeO.refl _)
      | (with_reducible exact LeO.none _)
      | (with_reducible refine LeO.ite ?_ ?_)
      | (with_reducible refine LeO.bind ?_ (fun _ => ?_))
      | exact ih0 _ _
      | exact ih1 _ _
      | exact ih2 _ _
      | exact ih3 _ _
      | exact text_DecodeBase64.mono _ _
      | exact text_DecodeHex.mono _ _
      | exact text_EncodeBase64.mono _ _
      | exact text_EncodeHex.mono _ _
      | exact text_Quote.mono _ _
      | exact text_Unquote.mono _ _
      | exact LeO.none _
      | refine LeO.ite ?_ ?_
      | refine LeO.bind ?_ (fun _ => ?_)
    · intro y0 y1
      unfold ledgerlaw06_TextOnce.j3
      repeat' first
      | (with_reducible exact ih0 _ _)
      | (with_reducible exact ih1 _ _)
      | (with_reducible exact ih2 _ _)
      | (with_reducible exact ih3 _ _)
      | (with_reducible exact text_DecodeBase64.mono _ _)
      | (with_reducible exact text_DecodeHex.mono _ _)
      | (with_reducible exact text_EncodeBase64.mono _ _)
      | (with_reducible exact text_EncodeHex.mono _ _)
      | (with_reducible exact text_Quote.mono _ _)
      | (with_reducible exact text_Unquote.mono _ _)
      | (with_reducible exact LeO.refl _)
      | (with_reducible exact LeO.none _)
      | (with_reducible refine LeO.ite ?_ ?_)
      | (with_reducible refine LeO.bind ?_ (fun _ => ?_))
      | exact ih0 _ _
      | exact ih1 _ _
      | exact ih2 _ _
      | exact ih3 _ _
      | exact text_DecodeBase64.mono _ _
      | exact text_DecodeHex.mono _ _
      | exact text_EncodeBase64.mono _ _
      | exact text_EncodeHex.mono _ _
      | exact text_Quote.mono _ _
      | exact text_Unquote.mono _ _
      | exact LeO.none _
      | refine LeO.ite ?_ ?_
      | refine LeO.bind ?_ (fun _ => ?_)
theorem ledgerlaw06_TextOnce.mono : ∀ a0 k, LeO (ledgerlaw06_TextOnce.f k a0) (ledgerlaw06_TextOnce.f (k + 1) a0) := by
  intro a0 k
  obtain ⟨ih0, ih1, ih2, ih3⟩ := ledgerlaw06_TextOnce.mono_l k
  unfold ledgerlaw06_TextOnce.f
  repeat' first
      | (with_reducible exact ih0 _ _)
      | (with_reducible exact ih1 _ _)
      | (with_reducible exact ih2 _ _)
      | (with_reducible exact ih3 _ _)
      | (with_reducible exact text_DecodeBase64.mono _ _)
      | (with_reducible exact text_DecodeHex.mono _ _)
      | (with_reducible exact text_EncodeBase64.mono _ _)
      | (with_reducible exact text_EncodeHex.mono _ _)
      | (with_reducible exact text_Quote.mono _ _)
      | (with_reducible exact text_Unquote.mono _ _)
      | (with_reducible exact LeO.refl _)
      | (with_reducible exact LeO.none _)
      | (with_reducible refine LeO.ite ?_ ?_)
      | (with_reducible refine LeO.bind ?_ (fun _ => ?_))
      | exact ih0 _ _
      | exact ih1 _ _
      | exact ih2 _ _
      | exact ih3 _ _
      | exact text_DecodeBase64.mono _ _
      | exact text_DecodeHex.mono _ _
      | exact text_EncodeBase64.mono _ _
      | exact text_EncodeHex.mono _ _
      | exact text_Quote.mono _ _
      | exact text_Unquote.mono _ _
      | exact LeO.none _
      | refine LeO.ite ?_ ?_
      | refine LeO.bind ?_ (fun _ => ?_)

/-! ### ledgerlaw06_numbers: function 30 -/
def ledgerlaw06_numbers.f  : Option (Bool) := some true

/-! ### ledgerref06_EncodeHex: function 45 -/
def ledgerref06_EncodeHex.l0 : Nat → List Int → List Int → Int → Option (ByteArray)
  | 0, _, _, _ => none
  | k + 1, x0, x3, x4 => if x4 < (x0.length : Int) then (if 0 ≤ x4 then (if 0 ≤ ((Int.tdiv (rd x0 x4) 16) % 256) then (if ((Int.tdiv (rd x0 x4) 16) % 256) < 16 then (if x3.length < 140737488355328 then ((some (x3 ++ [bt (⟨#[48, 49, 50, 51, 52, 53, 54, 55, 56, 57, 97, 98, 99, 100, 101, 102]⟩ : ByteArray) ((Int.tdiv (rd x0 x4) 16) % 256)] : List Int)).bind fun y451 => (if 0 ≤ (Int.tmod (rd x0 x4) 16) then (if (Int.tmod (rd x0 x4) 16) < 16 then (if y451.length < 140737488355328 then (ledgerref06_EncodeHex.l0 k x0 (y451 ++ [bt (⟨#[48, 49, 50, 51, 52, 53, 54, 55, 56, 57, 97, 98, 99, 100, 101, 102]⟩ : ByteArray) (Int.tmod (rd x0 x4) 16)]) (wrap64 (x4 + 1))) else (none)) else (none)) else (none))) else (none)) else (none)) else (none)) else (none)) else (some (strOfNums x3))
def ledgerref06_EncodeHex.f (k : Nat) (l0 : List Int) : Option (ByteArray) := ledgerref06_EncodeHex.l0 k l0 ([] : List Int) 0
theorem ledgerref06_EncodeHex.mono_l : ∀ k, (∀ y0 y1 y2, LeO (ledgerref06_EncodeHex.l0 k y0 y1 y2) (ledgerref06_EncodeHex.l0 (k + 1) y0 y1 y2))
  | 0 => fun _ _ _ r h => by simp [ledgerref06_EncodeHex.l0] at h
  | k + 1 => by
    have ih0 := ledgerref06_EncodeHex.mono_l k
    · intro y0 y1 y2
      unfold ledgerref06_EncodeHex.l0
      repeat' first
      | (with_reducible exact ih0 _ _ _)
      | (with_reducible exact LeO.refl _)
      | (with_reducible exact LeO.none _)
      | (with_reducible refine LeO.ite ?_ ?_)
      | (with_reducible refine LeO.bind ?_ (fun _ => ?_))
      | exact ih0 _ _ _
      | exact LeO.none _
      | refine LeO.ite ?_ ?_
      | refine LeO.bind ?_ (fun _ => ?_)
theorem ledgerref06_EncodeHex.mono : ∀ a0 k, LeO (ledgerref06_EncodeHex.f k a0) (ledgerref06_EncodeHex.f (k + 1) a0) := by
  intro a0 k
  have ih0 := ledgerref06_EncodeHex.mono_l k
  unfold ledgerref06_EncodeHex.f
  repeat' first
      | (with_reducible exact ih0 _ _ _)
      | (with_reducible exact LeO.refl _)
      | (with_reducible exact LeO.none _)
      | (with_reducible refine LeO.ite ?_ ?_)
      | (with_reducible refine LeO.bind ?_ (fun _ => ?_))
      | exact ih0 _ _ _
      | exact LeO.none _
      | refine LeO.ite ?_ ?_
      | refine LeO.bind ?_ (fun _ => ?_)

/-! ### ledgerref06_Pieces: function 59 -/
def ledgerref06_Pieces.l0 : Nat → ByteArray → List ByteArray → Int → Int → Option (List ByteArray)
  | 0, _, _, _, _ => none
  | k + 1, x0, x3, x4, x5 => if x5 < (x0.size : Int) then (if 0 ≤ x5 then (if (bt x0 x5) = 10 then (if 0 ≤ x4 then (if x4 ≤ x5 then (if x5 ≤ (x0.size : Int) then (if x3.length < 8796093022208 then (ledgerref06_Pieces.l0 k x0 (x3 ++ [x0.extract (x4 : Int).toNat (x5 : Int).toNat]) (wrap64 (x5 + 1)) (wrap64 (x5 + 1))) else (none)) else (none)) else (none)) else (none)) else (ledgerref06_Pieces.l0 k x0 x3 x4 (wrap64 (x5 + 1)))) else (none)) else (if x4 < (x0.size : Int) then (if 0 ≤ x4 then (if x4 ≤ (x0.size : Int) then (if x3.length < 8796093022208 then (some (x3 ++ [x0.extract (x4 : Int).toNat x0.size])) else (none)) else (none)) else (none)) else (some x3))
def ledgerref06_Pieces.f (k : Nat) (a0 : ByteArray) : Option (List ByteArray) := if (a0.size : Int) > 1048576 then (some ([] : List ByteArray)) else (ledgerref06_Pieces.l0 k a0 ([] : List ByteArray) 0 0)
theorem ledgerref06_Pieces.mono_l : ∀ k, (∀ y0 y1 y2 y3, LeO (ledgerref06_Pieces.l0 k y0 y1 y2 y3) (ledgerref06_Pieces.l0 (k + 1) y0 y1 y2 y3))
  | 0 => fun _ _ _ _ r h => by simp [ledgerref06_Pieces.l0] at h
  | k + 1 => by
    have ih0 := ledgerref06_Pieces.mono_l k
    · intro y0 y1 y2 y3
      unfold ledgerref06_Pieces.l0
      repeat' first
      | (with_reducible exact ih0 _ _ _ _)
      | (with_reducible exact LeO.refl _)
      | (with_reducible exact LeO.none _)
      | (with_reducible refine LeO.ite ?_ ?_)
      | (with_reducible refine LeO.bind ?_ (fun _ => ?_))
      | exact ih0 _ _ _ _
      | exact LeO.none _
      | refine LeO.ite ?_ ?_
      | refine LeO.bind ?_ (fun _ => ?_)
theorem ledgerref06_Pieces.mono : ∀ a0 k, LeO (ledgerref06_Pieces.f k a0) (ledgerref06_Pieces.f (k + 1) a0) := by
  intro a0 k
  have ih0 := ledgerref06_Pieces.mono_l k
  unfold ledgerref06_Pieces.f
  repeat' first
      | (with_reducible exact ih0 _ _ _ _)
      | (with_reducible exact LeO.refl _)
      | (with_reducible exact LeO.none _)
      | (with_reducible refine LeO.ite ?_ ?_)
      | (with_reducible refine LeO.bind ?_ (fun _ => ?_))
      | exact ih0 _ _ _ _
      | exact LeO.none _
      | refine LeO.ite ?_ ?_
      | refine LeO.bind ?_ (fun _ => ?_)

/-! ### ledgerref06_Lines: function 56 -/
def ledgerref06_Lines.f (k : Nat) (a0 : ByteArray) : Option (List ByteArray × Int) := if (a0.size : Int) > 1048576 then (some (([] : List ByteArray), 2)) else (if a0.toList = ([] : List UInt8) then ((ledgerref06_Pieces.f k a0).bind fun t464 => (some (t464, 0))) else (if 0 ≤ (wrap64 ((a0.size : Int) - 1)) then (if (wrap64 ((a0.size : Int) - 1)) < (a0.size : Int) then (if (bt a0 (wrap64 ((a0.size : Int) - 1))) = 10 then ((ledgerref06_Pieces.f k a0).bind fun t467 => (some (t467, 0))) else (some (([] : List ByteArray), 64))) else (none)) else (none)))
theorem ledgerref06_Lines.mono : ∀ a0 k, LeO (ledgerref06_Lines.f k a0) (ledgerref06_Lines.f (k + 1) a0) := by
  intro a0 k
  unfold ledgerref06_Lines.f
  repeat' first
      | (with_reducible exact ledgerref06_Pieces.mono _ _)
      | (with_reducible exact LeO.refl _)
      | (with_reducible exact LeO.none _)
      | (with_reducible refine LeO.ite ?_ ?_)
      | (with_reducible refine LeO.bind ?_ (fun _ => ?_))
      | exact ledgerref06_Pieces.mono _ _
      | exact LeO.none _
      | refine LeO.ite ?_ ?_
      | refine LeO.bind ?_ (fun _ => ?_)

/-! ### ledgerlaw06_sameLines: function 57 -/
def ledgerlaw06_sameLines.l0 : Nat → List ByteArray → List ByteArray → Int → Option (Bool)
  | 0, _, _, _ => none
  | k + 1, x0, x1, x5 => if x5 < (x0.length : Int) then (if 0 ≤ x5 then (if x5 < (x1.length : Int) then (if (rdOf ByteArray.empty x0 x5).toList = (rdOf ByteArray.empty x1 x5).toList then (ledgerlaw06_sameLines.l0 k x0 x1 (wrap64 (x5 + 1))) else (some false)) else (none)) else (none)) else (some true)
def ledgerlaw06_sameLines.f (k : Nat) (l0 : List ByteArray) (l1 : List ByteArray) : Option (Bool) := if (l0.length : Int) = (l1.length : Int) then (ledgerlaw06_sameLines.l0 k l0 l1 0) else (some false)
theorem ledgerlaw06_sameLines.mono_l : ∀ k, (∀ y0 y1 y2, LeO (ledgerlaw06_sameLines.l0 k y0 y1 y2) (ledgerlaw06_sameLines.l0 (k + 1) y0 y1 y2))
  | 0 => fun _ _ _ r h => by simp [ledgerlaw06_sameLines.l0] at h
  | k + 1 => by
    have ih0 := ledgerlaw06_sameLines.mono_l k
    · intro y0 y1 y2
      unfold ledgerlaw06_sameLines.l0
      repeat' first
      | (with_reducible exact ih0 _ _ _)
      | (with_reducible exact LeO.refl _)
      | (with_reducible exact LeO.none _)
      | (with_reducible refine LeO.ite ?_ ?_)
      | (with_reducible refine LeO.bind ?_ (fun _ => ?_))
      | exact ih0 _ _ _
      | exact LeO.none _
      | refine LeO.ite ?_ ?_
      | refine LeO.bind ?_ (fun _ => ?_)
theorem ledgerlaw06_sameLines.mono : ∀ a0 a1 k, LeO (ledgerlaw06_sameLines.f k a0 a1) (ledgerlaw06_sameLines.f (k + 1) a0 a1) := by
  intro a0 a1 k
  have ih0 := ledgerlaw06_sameLines.mono_l k
  unfold ledgerlaw06_sameLines.f
  repeat' first
      | (with_reducible exact ih0 _ _ _)
      | (with_reducible exact LeO.refl _)
      | (with_reducible exact LeO.none _)
      | (with_reducible refine LeO.ite ?_ ?_)
      | (with_reducible refine LeO.bind ?_ (fun _ => ?_))
      | exact ih0 _ _ _
      | exact LeO.none _
      | refine LeO.ite ?_ ?_
      | refine LeO.bind ?_ (fun _ => ?_)

/-! ### text_Cut: function 60 -/
def text_Cut.f (a0 : ByteArray) : Option (ByteArray × ByteArray × Bool) := if (a0.size : Int) > 1048576 then (some ((⟨#[]⟩ : ByteArray), (⟨#[]⟩ : ByteArray), false)) else ((strings_LastIndex.f a0 (⟨#[10, 10]⟩ : ByteArray)).bind fun t472 => (if t472 < 0 then (some ((⟨#[]⟩ : ByteArray), (⟨#[]⟩ : ByteArray), false)) else (if 0 ≤ (wrap64 (t472 + 1)) then (if (wrap64 (t472 + 1)) ≤ (a0.size : Int) then (if 0 ≤ (wrap64 (t472 + 2)) then (if (wrap64 (t472 + 2)) ≤ (a0.size : Int) then (some (a0.extract 0 ((wrap64 (t472 + 1)) : Int).toNat, a0.extract ((wrap64 (t472 + 2)) : Int).toNat a0.size, true)) else (none)) else (none)) else (none)) else (none))))

/-! ### ledgerref06_Cut: function 61 -/
def ledgerref06_Cut.l0 : Nat → ByteArray → Int → Option (ByteArray × ByteArray × Bool)
  | 0, _, _ => none
  | k + 1, x0, x5 => if x5 ≥ 0 then (if 0 ≤ x5 then (if x5 < (x0.size : Int) then (if (bt x0 x5) = 10 then (if 0 ≤ (wrap64 (x5 + 1)) then (if (wrap64 (x5 + 1)) < (x0.size : Int) then (if (bt x0 (wrap64 (x5 + 1))) = 10 then (if (wrap64 (x5 + 1)) ≤ (x0.size : Int) then (if 0 ≤ (wrap64 (x5 + 2)) then (if (wrap64 (x5 + 2)) ≤ (x0.size : Int) then (some (x0.extract 0 ((wrap64 (x5 + 1)) : Int).toNat, x0.extract ((wrap64 (x5 + 2)) : Int).toNat x0.size, true)) else (none)) else (none)) else (none)) else (ledgerref06_Cut.l0 k x0 (wrap64 (x5 - 1)))) else (none)) else (none)) else (ledgerref06_Cut.l0 k x0 (wrap64 (x5 - 1)))) else (none)) else (none)) else (some ((⟨#[]⟩ : ByteArray), (⟨#[]⟩ : ByteArray), false))
def ledgerref06_Cut.f (k : Nat) (a0 : ByteArray) : Option (ByteArray × ByteArray × Bool) := if (a0.size : Int) > 1048576 then (some ((⟨#[]⟩ : ByteArray), (⟨#[]⟩ : ByteArray), false)) else (ledgerref06_Cut.l0 k a0 (wrap64 ((a0.size : Int) - 2)))
theorem ledgerref06_Cut.mono_l : ∀ k, (∀ y0 y1, LeO (ledgerref06_Cut.l0 k y0 y1) (ledgerref06_Cut.l0 (k + 1) y0 y1))
  | 0 => fun _ _ r h => by simp [ledgerref06_Cut.l0] at h
  | k + 1 => by
    have ih0 := ledgerref06_Cut.mono_l k
    · intro y0 y1
      unfold ledgerref06_Cut.l0
      repeat' first
      | (with_reducible exact ih0 _ _)
      | (with_reducible exact LeO.refl _)
      | (with_reducible exact LeO.none _)
      | (with_reducible refine LeO.ite ?_ ?_)
      | (with_reducible refine LeO.bind ?_ (fun _ => ?_))
      | exact ih0 _ _
      | exact LeO.none _
      | refine LeO.ite ?_ ?_
      | refine LeO.bind ?_ (fun _ => ?_)
theorem ledgerref06_Cut.mono : ∀ a0 k, LeO (ledgerref06_Cut.f k a0) (ledgerref06_Cut.f (k + 1) a0) := by
  intro a0 k
  have ih0 := ledgerref06_Cut.mono_l k
  unfold ledgerref06_Cut.f
  repeat' first
      | (with_reducible exact ih0 _ _)
      | (with_reducible exact LeO.refl _)
      | (with_reducible exact LeO.none _)
      | (with_reducible refine LeO.ite ?_ ?_)
      | (with_reducible refine LeO.bind ?_ (fun _ => ?_))
      | exact ih0 _ _
      | exact LeO.none _
      | refine LeO.ite ?_ ?_
      | refine LeO.bind ?_ (fun _ => ?_)

/-! ### ledgerlaw06_lines: function 46 -/
def ledgerlaw06_lines.f (k : Nat) (a0_0 : Int) (a0_1 : ByteArray) (l0_2 : List Int) (a0_3 : Int) (a0_4 : Int) : Option (Bool) := if a0_0 = 8 then ((text_Lines.f a0_1).bind fun bt474 => ((ledgerref06_Lines.f k a0_1).bind fun bt478 => ((ledgerlaw06_sameLines.f k bt474.1 bt478.1).bind fun t482 => (if t482 = true then (some (bt474.2 == bt478.2)) else (some false))))) else (if a0_0 = 9 then ((ledgerlaw06_each.f a0_1 a0_4).bind fun bt483 => ((ledgerref06_Pieces.f k a0_1).bind fun t487 => (if a0_4 < (t487.length : Int) then (if a0_4 < 1 then (if bt483.2 = true then ((ledgerlaw06_sameLines.f k bt483.1 ([] : List ByteArray)).bind fun t490 => (some t490)) else (some false)) else (if 0 ≤ a0_4 then (if a0_4 ≤ (t487.length : Int) then (if bt483.2 = true then ((ledgerlaw06_sameLines.f k bt483.1 (t487.take (a0_4 : Int).toNat)).bind fun t494 => (some t494)) else (some false)) else (none)) else (none))) else (if bt483.2 = true then ((ledgerlaw06_sameLines.f k bt483.1 t487).bind fun t495 => (some t495)) else (some false))))) else ((text_Cut.f a0_1).bind fun bt496 => ((ledgerref06_Cut.f k a0_1).bind fun bt499 => (if bt496.1.toList = bt499.1.toList then (if bt496.2.1.toList = bt499.2.1.toList then (some (bt496.2.2 == bt499.2.2)) else (some false)) else (some false)))))
theorem ledgerlaw06_lines.mono : ∀ a0 a1 a2 a3 a4 k, LeO (ledgerlaw06_lines.f k a0 a1 a2 a3 a4) (ledgerlaw06_lines.f (k + 1) a0 a1 a2 a3 a4) := by
  intro a0 a1 a2 a3 a4 k
  unfold ledgerlaw06_lines.f
  repeat' first
      | (with_reducible exact ledgerlaw06_sameLines.mono _ _ _)
      | (with_reducible exact ledgerref06_Cut.mono _ _)
      | (with_reducible exact ledgerref06_Lines.mono _ _)
      | (with_reducible exact ledgerref06_Pieces.mono _ _)
      | (with_reducible exact LeO.refl _)
      | (with_reducible exact LeO.none _)
      | (with_reducible refine LeO.ite ?_ ?_)
      | (with_reducible refine LeO.bind ?_ (fun _ => ?_))
      | exact ledgerlaw06_sameLines.mono _ _ _
      | exact ledgerref06_Cut.mono _ _
      | exact ledgerref06_Lines.mono _ _
      | exact ledgerref06_Pieces.mono _ _
      | exact LeO.none _
      | refine LeO.ite ?_ ?_
      | refine LeO.bind ?_ (fun _ => ?_)

/-! ### ledgerlaw06_plays: function 31 -/
mutual
def ledgerlaw06_plays.j0 : Nat → Int → Bool → Int → ByteArray → List Int → Int → Int → Option (Bool)
  | 0, _, _, _, _, _, _, _ => none
  | k + 1, x8, x27, x503000, x503001, x503002, x503003, x503004 => if x27 = true then ((ledgerlaw06_decodes.f k x503000 x503001 x503002 x503003 x503004).bind fun t507 => (some t507)) else (if x8 = 5 then ((text_FormatNumber.f x503003).bind fun t508 => ((ledgerref06_FormatNumber.f k x503003).bind fun t509 => (some (t508.toList == t509.toList)))) else (if x8 = 6 then ((text_ParseNumber.f x503001 x503004).bind fun bt510 => ((ledgerref06_ParseNumber.f k x503001 x503004).bind fun bt512 => (if bt510.1 = bt512.1 then (some (bt510.2 == bt512.2)) else (some false)))) else (if x8 = 7 then ((text_Plain.f x503001).bind fun t514 => ((ledgerref06_Plain.f k x503001).bind fun t515 => (some (t514 == t515)))) else (if x8 = 8 then (ledgerlaw06_plays.j1 k x8 (x8 == 8) x503000 x503001 x503002 x503003 x503004) else (if x8 = 9 then (ledgerlaw06_plays.j1 k x8 (x8 == 9) x503000 x503001 x503002 x503003 x503004) else (ledgerlaw06_plays.j1 k x8 (x8 == 10) x503000 x503001 x503002 x503003 x503004))))))
def ledgerlaw06_plays.j1 : Nat → Int → Bool → Int → ByteArray → List Int → Int → Int → Option (Bool)
  | 0, _, _, _, _, _, _, _ => none
  | k + 1, x8, x77, x503000, x503001, x503002, x503003, x503004 => if x77 = true then ((ledgerlaw06_lines.f k x503000 x503001 x503002 x503003 x503004).bind fun t516 => (some t516)) else (if x8 = 11 then ((ledgerref06_Quote.f k x503002).bind fun t517 => ((text_Quote.f k x503002).bind fun t518 => (some (t517.toList == t518.toList)))) else (some true))
end
def ledgerlaw06_plays.f (k : Nat) (a0_0 : Int) (a0_1 : ByteArray) (l0_2 : List Int) (a0_3 : Int) (a0_4 : Int) : Option (Bool) := if a0_0 = 1 then ((ledgerref06_EncodeBase64.f k l0_2).bind fun t503 => ((text_EncodeBase64.f k l0_2).bind fun t504 => (some (t503.toList == t504.toList)))) else (if a0_0 = 3 then ((ledgerref06_EncodeHex.f k l0_2).bind fun t505 => ((text_EncodeHex.f k l0_2).bind fun t506 => (some (t505.toList == t506.toList)))) else (if a0_0 = 2 then (ledgerlaw06_plays.j0 k a0_0 (a0_0 == 2) a0_0 a0_1 l0_2 a0_3 a0_4) else (if a0_0 = 4 then (ledgerlaw06_plays.j0 k a0_0 (a0_0 == 4) a0_0 a0_1 l0_2 a0_3 a0_4) else (ledgerlaw06_plays.j0 k a0_0 (a0_0 == 12) a0_0 a0_1 l0_2 a0_3 a0_4))))
theorem ledgerlaw06_plays.mono_l : ∀ k, (∀ y0 y1 y2 y3 y4 y5 y6, LeO (ledgerlaw06_plays.j0 k y0 y1 y2 y3 y4 y5 y6) (ledgerlaw06_plays.j0 (k + 1) y0 y1 y2 y3 y4 y5 y6)) ∧ (∀ y0 y1 y2 y3 y4 y5 y6, LeO (ledgerlaw06_plays.j1 k y0 y1 y2 y3 y4 y5 y6) (ledgerlaw06_plays.j1 (k + 1) y0 y1 y2 y3 y4 y5 y6))
  | 0 => ⟨fun _ _ _ _ _ _ _ r h => by simp [ledgerlaw06_plays.j0] at h, fun _ _ _ _ _ _ _ r h => by simp [ledgerlaw06_plays.j1] at h⟩
  | k + 1 => by
    obtain ⟨ih0, ih1⟩ := ledgerlaw06_plays.mono_l k
    refine ⟨?_, ?_⟩
    · intro y0 y1 y2 y3 y4 y5 y6
      unfold ledgerlaw06_plays.j0
      repeat' first
      | (with_reducible exact ih0 _ _ _ _ _ _ _)
      | (with_reducible exact ih1 _ _ _ _ _ _ _)
      | (with_reducible exact ledgerlaw06_decodes.mono _ _ _ _ _ _)
      | (with_reducible exact ledgerlaw06_lines.mono _ _ _ _ _ _)
      | (with_reducible exact ledgerref06_EncodeBase64.mono _ _)
      | (with_reducible exact ledgerref06_EncodeHex.mono _ _)
      | (with_reducible exact ledgerref06_FormatNumber.mono _ _)
      | (with_reducible exact ledgerref06_ParseNumber.mono _ _ _)
      | (with_reducible exact ledgerref06_Plain.mono _ _)
      | (with_reducible exact ledgerref06_Quote.mono _ _)
      | (with_reducible exact text_EncodeBase64.mono _ _)
      | (with_reducible exact text_EncodeHex.mono _ _)
      | (with_reducible exact text_Quote.mono _ _)
      | (with_reducible exact LeO.refl _)
      | (with_reducible exact LeO.none _)
      | (with_reducible refine LeO.ite ?_ ?_)
      | (with_reducible refine LeO.bind ?_ (fun _ => ?_))
      | exact ih0 _ _ _ _ _ _ _
      | exact ih1 _ _ _ _ _ _ _
      | exact ledgerlaw06_decodes.mono _ _ _ _ _ _
      | exact ledgerlaw06_lines.mono _ _ _ _ _ _
      | exact ledgerref06_EncodeBase64.mono _ _
      | exact ledgerref06_EncodeHex.mono _ _
      | exact ledgerref06_FormatNumber.mono _ _
      | exact ledgerref06_ParseNumber.mono _ _ _
      | exact ledgerref06_Plain.mono _ _
      | exact ledgerref06_Quote.mono _ _
      | exact text_EncodeBase64.mono _ _
      | exact text_EncodeHex.mono _ _
      | exact text_Quote.mono _ _
      | exact LeO.none _
      | refine LeO.ite ?_ ?_
      | refine LeO.bind ?_ (fun _ => ?_)
    · intro y0 y1 y2 y3 y4 y5 y6
      unfold ledgerlaw06_plays.j1
      repeat' first
      | (with_reducible exact ih0 _ _ _ _ _ _ _)
      | (with_reducible exact ih1 _ _ _ _ _ _ _)
      | (with_reducible exact ledgerlaw06_decodes.mono _ _ _ _ _ _)
      | (with_reducible exact ledgerlaw06_lines.mono _ _ _ _ _ _)
      | (with_reducible exact ledgerref06_EncodeBase64.mono _ _)
      | (with_reducible exact ledgerref06_EncodeHex.mono _ _)
      | (with_reducible exact ledgerref06_FormatNumber.mono _ _)
      | (with_reducible exact ledgerref06_ParseNumber.mono _ _ _)
      | (with_reducible exact ledgerref06_Plain.mono _ _)
      | (with_reducible exact ledgerref06_Quote.mono _ _)
      | (with_reducible exact text_EncodeBase64.mono _ _)
      | (with_reducible exact text_EncodeHex.mono _ _)
      | (with_reducible exact text_Quote.mono _ _)
      | (with_reducible exact LeO.refl _)
      | (with_reducible exact LeO.none _)
      | (with_reducible refine LeO.ite ?_ ?_)
      | (with_reducible refine LeO.bind ?_ (fun _ => ?_))
      | exact ih0 _ _ _ _ _ _ _
      | exact ih1 _ _ _ _ _ _ _
      | exact ledgerlaw06_decodes.mono _ _ _ _ _ _
      | exact ledgerlaw06_lines.mono _ _ _ _ _ _
      | exact ledgerref06_EncodeBase64.mono _ _
      | exact ledgerref06_EncodeHex.mono _ _
      | exact ledgerref06_FormatNumber.mono _ _
      | exact ledgerref06_ParseNumber.mono _ _ _
      | exact ledgerref06_Plain.mono _ _
      | exact ledgerref06_Quote.mono _ _
      | exact text_EncodeBase64.mono _ _
      | exact text_EncodeHex.mono _ _
      | exact text_Quote.mono _ _
      | exact LeO.none _
      | refine LeO.ite ?_ ?_
      | refine LeO.bind ?_ (fun _ => ?_)
theorem ledgerlaw06_plays.mono : ∀ a0 a1 a2 a3 a4 k, LeO (ledgerlaw06_plays.f k a0 a1 a2 a3 a4) (ledgerlaw06_plays.f (k + 1) a0 a1 a2 a3 a4) := by
  intro a0 a1 a2 a3 a4 k
  obtain ⟨ih0, ih1⟩ := ledgerlaw06_plays.mono_l k
  unfold ledgerlaw06_plays.f
  repeat' first
      | (with_reducible exact ih0 _ _ _ _ _ _ _)
      | (with_reducible exact ih1 _ _ _ _ _ _ _)
      | (with_reducible exact ledgerlaw06_decodes.mono _ _ _ _ _ _)
      | (with_reducible exact ledgerlaw06_lines.mono _ _ _ _ _ _)
      | (with_reducible exact ledgerref06_EncodeBase64.mono _ _)
      | (with_reducible exact ledgerref06_EncodeHex.mono _ _)
      | (with_reducible exact ledgerref06_FormatNumber.mono _ _)
      | (with_reducible exact ledgerref06_ParseNumber.mono _ _ _)
      | (with_reducible exact ledgerref06_Plain.mono _ _)
      | (with_reducible exact ledgerref06_Quote.mono _ _)
      | (with_reducible exact text_EncodeBase64.mono _ _)
      | (with_reducible exact text_EncodeHex.mono _ _)
      | (with_reducible exact text_Quote.mono _ _)
      | (with_reducible exact LeO.refl _)
      | (with_reducible exact LeO.none _)
      | (with_reducible refine LeO.ite ?_ ?_)
      | (with_reducible refine LeO.bind ?_ (fun _ => ?_))
      | exact ih0 _ _ _ _ _ _ _
      | exact ih1 _ _ _ _ _ _ _
      | exact ledgerlaw06_decodes.mono _ _ _ _ _ _
      | exact ledgerlaw06_lines.mono _ _ _ _ _ _
      | exact ledgerref06_EncodeBase64.mono _ _
      | exact ledgerref06_EncodeHex.mono _ _
      | exact ledgerref06_FormatNumber.mono _ _
      | exact ledgerref06_ParseNumber.mono _ _ _
      | exact ledgerref06_Plain.mono _ _
      | exact ledgerref06_Quote.mono _ _
      | exact text_EncodeBase64.mono _ _
      | exact text_EncodeHex.mono _ _
      | exact text_Quote.mono _ _
      | exact LeO.none _
      | refine LeO.ite ?_ ?_
      | refine LeO.bind ?_ (fun _ => ?_)

/-! ### ledgerlaw06_TextAll: function 11 -/
mutual
def ledgerlaw06_TextAll.j0 : Nat → List (S32) → Bool → Option (Bool)
  | 0, _, _ => none
  | k + 1, x0, x21 => if x21 = true then (some false) else (ledgerlaw06_TextAll.l0 k x0 0)
def ledgerlaw06_TextAll.l0 : Nat → List (S32) → Int → Option (Bool)
  | 0, _, _ => none
  | k + 1, x0, x5 => if x5 < (x0.length : Int) then (if 0 ≤ x5 then ((ledgerlaw06_plays.f k ((rd_T32 x0 x5).f0) ((rd_T32 x0 x5).f1) ((rd_T32 x0 x5).f2) ((rd_T32 x0 x5).f3) ((rd_T32 x0 x5).f4)).bind fun t525 => (if t525 = true then (ledgerlaw06_TextAll.l0 k x0 (wrap64 (x5 + 1))) else (some false))) else (none)) else (some true)
end
def ledgerlaw06_TextAll.f (k : Nat) (l0 : List (S32)) : Option (Bool) := (text_DecodeBase64.f k (⟨#[90, 109, 57, 118]⟩ : ByteArray)).bind fun bt519 => ((ledgerlaw06_numbers.f).bind fun t523 => (if t523 = true then (if bt519.2 = 0 then (ledgerlaw06_TextAll.j0 k l0 ((strOfNums bt519.1).toList != ([102, 111, 111] : List UInt8))) else (ledgerlaw06_TextAll.j0 k l0 true)) else (ledgerlaw06_TextAll.j0 k l0 true)))
theorem ledgerlaw06_TextAll.mono_l : ∀ k, (∀ y0 y1, LeO (ledgerlaw06_TextAll.j0 k y0 y1) (ledgerlaw06_TextAll.j0 (k + 1) y0 y1)) ∧ (∀ y0 y1, LeO (ledgerlaw06_TextAll.l0 k y0 y1) (ledgerlaw06_TextAll.l0 (k + 1) y0 y1))
  | 0 => ⟨fun _ _ r h => by simp [ledgerlaw06_TextAll.j0] at h, fun _ _ r h => by simp [ledgerlaw06_TextAll.l0] at h⟩
  | k + 1 => by
    obtain ⟨ih0, ih1⟩ := ledgerlaw06_TextAll.mono_l k
    refine ⟨?_, ?_⟩
    · intro y0 y1
      unfold ledgerlaw06_TextAll.j0
      repeat' first
      | (with_reducible exact ih0 _ _)
      | (with_reducible exact ih1 _ _)
      | (with_reducible exact ledgerlaw06_plays.mono _ _ _ _ _ _)
      | (with_reducible exact text_DecodeBase64.mono _ _)
      | (with_reducible exact LeO.refl _)
      | (with_reducible exact LeO.none _)
      | (with_reducible refine LeO.ite ?_ ?_)
      | (with_reducible refine LeO.bind ?_ (fun _ => ?_))
      | exact ih0 _ _
      | exact ih1 _ _
      | exact ledgerlaw06_plays.mono _ _ _ _ _ _
      | exact text_DecodeBase64.mono _ _
      | exact LeO.none _
      | refine LeO.ite ?_ ?_
      | refine LeO.bind ?_ (fun _ => ?_)
    · intro y0 y1
      unfold ledgerlaw06_TextAll.l0
      repeat' first
      | (with_reducible exact ih0 _ _)
      | (with_reducible exact ih1 _ _)
      | (with_reducible exact ledgerlaw06_plays.mono _ _ _ _ _ _)
      | (with_reducible exact text_DecodeBase64.mono _ _)
      | (with_reducible exact LeO.refl _)
      | (with_reducible exact LeO.none _)
      | (with_reducible refine LeO.ite ?_ ?_)
      | (with_reducible refine LeO.bind ?_ (fun _ => ?_))
      | exact ih0 _ _
      | exact ih1 _ _
      | exact ledgerlaw06_plays.mono _ _ _ _ _ _
      | exact text_DecodeBase64.mono _ _
      | exact LeO.none _
      | refine LeO.ite ?_ ?_
      | refine LeO.bind ?_ (fun _ => ?_)
theorem ledgerlaw06_TextAll.mono : ∀ a0 k, LeO (ledgerlaw06_TextAll.f k a0) (ledgerlaw06_TextAll.f (k + 1) a0) := by
  intro a0 k
  obtain ⟨ih0, ih1⟩ := ledgerlaw06_TextAll.mono_l k
  unfold ledgerlaw06_TextAll.f
  repeat' first
      | (with_reducible exact ih0 _ _)
      | (with_reducible exact ih1 _ _)
      | (with_reducible exact ledgerlaw06_plays.mono _ _ _ _ _ _)
      | (with_reducible exact text_DecodeBase64.mono _ _)
      | (with_reducible exact LeO.refl _)
      | (with_reducible exact LeO.none _)
      | (with_reducible refine LeO.ite ?_ ?_)
      | (with_reducible refine LeO.bind ?_ (fun _ => ?_))
      | exact ih0 _ _
      | exact ih1 _ _
      | exact ledgerlaw06_plays.mono _ _ _ _ _ _
      | exact text_DecodeBase64.mono _ _
      | exact LeO.none _
      | refine LeO.ite ?_ ?_
      | refine LeO.bind ?_ (fun _ => ?_)

end Go.Proofs.YtljinjgamgmocaaDoor.G
