/- Joined texts of mine, 2: GxD1, Gx1, Gx2. -/
import Derived.Test.YtljinjgamgmocaaDoorPb1
section
namespace Go.Proofs.YtljinjgamgmocaaDoor.G
open Go.RowKit Go.Proofs.YtljinjgamgmocaaDoorW.PrintWords Go.Proofs.YtljinjgamgmocaaDoorW.PrintLast Go.Proofs.YtljinjgamgmocaaDoorW.PrintMore
set_option linter.unusedVariables false
set_option linter.unusedSimpArgs false
def text_EncodeHex.l0 : Nat → List Int → List Int → Int → Int → Option (ByteArray)
  | 0, _, _, _, _ => none
  | k + 1, x3, x10, x11, x12 => if x12 < x11 then (if 0 ≤ x12 then (if x12 < (x10.length : Int) then (if 0 ≤ ((rd x10 x12) / 16) then (if ((rd x10 x12) / 16) < 16 then (if 0 ≤ (Go.bits .and .u8 (rd x10 x12) 15) then (if (Go.bits .and .u8 (rd x10 x12) 15) < 16 then ((some (([rd digitsTab ((rd x10 x12) / 16), rd digitsTab (Go.bits .and .u8 (rd x10 x12) 15)] : List Int) : List Int)).bind fun y107 => (if x3.length + y107.length < 140737488355328 then (text_EncodeHex.l0 k (x3 ++ y107) x10 x11 (wrap64 (x12 + 1))) else (none))) else (none)) else (none)) else (none)) else (none)) else (none)) else (none)) else (some (strOfNums x3))
def text_EncodeHex.f (k : Nat) (l0 : List Int) : Option (ByteArray) := if 0 ≤ (wrap64 (2 * (l0.length : Int))) then (if (wrap64 (2 * (l0.length : Int)) : Int).toNat ≤ 281474976710656 then (text_EncodeHex.l0 k (([] : List Int)) l0 (l0.length : Int) 0) else (none)) else (none)
theorem text_EncodeHex.mono_l : ∀ k, (∀ y0 y1 y2 y3, LeO (text_EncodeHex.l0 k y0 y1 y2 y3) (text_EncodeHex.l0 (k + 1) y0 y1 y2 y3))
  | 0 => fun _ _ _ _ r h => by simp [text_EncodeHex.l0] at h
  | k + 1 => by
    have ih0 := text_EncodeHex.mono_l k
    · intro y0 y1 y2 y3
      unfold text_EncodeHex.l0
      repeat' first
      | (with_reducible exact ih0 _ _ _ _)
      | (with_reducible exact LeO.refl _)
      | (with_reducible exact LeO.none _)
      | (with_reducible refine LeO.ite ?_ ?_)
      | (with_reducible refine LeO.bind ?_ (fun _ => ?_))
      | exact ih0 _ _ _ _
      | exact LeO.none _
      | refine LeO.ite ?_ ?_
      | refine LeO.bind ?_ (fun _ => ?_)
theorem text_EncodeHex.mono : ∀ a0 k, LeO (text_EncodeHex.f k a0) (text_EncodeHex.f (k + 1) a0) := by
  intro a0 k
  have ih0 := text_EncodeHex.mono_l k
  unfold text_EncodeHex.f
  repeat' first
      | (with_reducible exact ih0 _ _ _ _)
      | (with_reducible exact LeO.refl _)
      | (with_reducible exact LeO.none _)
      | (with_reducible refine LeO.ite ?_ ?_)
      | (with_reducible refine LeO.bind ?_ (fun _ => ?_))
      | exact ih0 _ _ _ _
      | exact LeO.none _
      | refine LeO.ite ?_ ?_
      | refine LeO.bind ?_ (fun _ => ?_)
def text_itself.f (a0 : Int) : Option (Bool) := if a0 ≥ 32 then (if a0 ≤ 126 then (if a0 = 34 then (some false) else (some (a0 != 92))) else (some false)) else (some false)
def text_Quote.l0 : Nat → List Int → List Int → Int → Int → Option (ByteArray)
  | 0, _, _, _, _ => none
  | k + 1, x3, x7, x8, x9 => if x9 < x8 then (if 0 ≤ x9 then (if x9 < (x7.length : Int) then ((text_itself.f (rd x7 x9)).bind fun t117 => (if t117 = true then (if x3.length < 140737488355328 then (text_Quote.l0 k (x3 ++ [rd x7 x9]) x7 x8 (wrap64 (x9 + 1))) else (none)) else (if 0 ≤ ((rd x7 x9) / 16) then (if ((rd x7 x9) / 16) < 16 then (if 0 ≤ (Go.bits .and .u8 (rd x7 x9) 15) then (if (Go.bits .and .u8 (rd x7 x9) 15) < 16 then ((some (([92, 120, rd digitsTab ((rd x7 x9) / 16), rd digitsTab (Go.bits .and .u8 (rd x7 x9) 15)] : List Int) : List Int)).bind fun y123 => (if x3.length + y123.length < 140737488355328 then (text_Quote.l0 k (x3 ++ y123) x7 x8 (wrap64 (x9 + 1))) else (none))) else (none)) else (none)) else (none)) else (none)))) else (none)) else (none)) else (if x3.length < 140737488355328 then (some (strOfNums (x3 ++ [34]))) else (none))
def text_Quote.f (k : Nat) (l0 : List Int) : Option (ByteArray) := text_Quote.l0 k (([34] : List Int)) l0 (l0.length : Int) 0
theorem text_Quote.mono_l : ∀ k, (∀ y0 y1 y2 y3, LeO (text_Quote.l0 k y0 y1 y2 y3) (text_Quote.l0 (k + 1) y0 y1 y2 y3))
  | 0 => fun _ _ _ _ r h => by simp [text_Quote.l0] at h
  | k + 1 => by
    have ih0 := text_Quote.mono_l k
    · intro y0 y1 y2 y3
      unfold text_Quote.l0
      repeat' first
      | (with_reducible exact ih0 _ _ _ _)
      | (with_reducible exact LeO.refl _)
      | (with_reducible exact LeO.none _)
      | (with_reducible refine LeO.ite ?_ ?_)
      | (with_reducible refine LeO.bind ?_ (fun _ => ?_))
      | exact ih0 _ _ _ _
      | exact LeO.none _
      | refine LeO.ite ?_ ?_
      | refine LeO.bind ?_ (fun _ => ?_)
theorem text_Quote.mono : ∀ a0 k, LeO (text_Quote.f k a0) (text_Quote.f (k + 1) a0) := by
  intro a0 k
  have ih0 := text_Quote.mono_l k
  unfold text_Quote.f
  repeat' first
      | (with_reducible exact ih0 _ _ _ _)
      | (with_reducible exact LeO.refl _)
      | (with_reducible exact LeO.none _)
      | (with_reducible refine LeO.ite ?_ ?_)
      | (with_reducible refine LeO.bind ?_ (fun _ => ?_))
      | exact ih0 _ _ _ _
      | exact LeO.none _
      | refine LeO.ite ?_ ?_
      | refine LeO.bind ?_ (fun _ => ?_)
def text_EncodeBase64.l0 : Nat → List Int → List Int → Option (ByteArray)
  | 0, _, _ => none
  | k + 1, x0, x3 => if (x0.length : Int) ≥ 3 then (if 0 < (x0.length : Int) then (if 1 < (x0.length : Int) then (if 2 < (x0.length : Int) then (if 0 ≤ ((Go.bits .or .i64 (Go.bits .or .i64 (wrap64 ((wrap64 (rd x0 0)) * 65536)) (wrap64 ((wrap64 (rd x0 1)) * 256))) (wrap64 (rd x0 2))) / 262144) then (if ((Go.bits .or .i64 (Go.bits .or .i64 (wrap64 ((wrap64 (rd x0 0)) * 65536)) (wrap64 ((wrap64 (rd x0 1)) * 256))) (wrap64 (rd x0 2))) / 262144) < 64 then (if 0 ≤ (Go.bits .and .i64 ((Go.bits .or .i64 (Go.bits .or .i64 (wrap64 ((wrap64 (rd x0 0)) * 65536)) (wrap64 ((wrap64 (rd x0 1)) * 256))) (wrap64 (rd x0 2))) / 4096) 63) then (if (Go.bits .and .i64 ((Go.bits .or .i64 (Go.bits .or .i64 (wrap64 ((wrap64 (rd x0 0)) * 65536)) (wrap64 ((wrap64 (rd x0 1)) * 256))) (wrap64 (rd x0 2))) / 4096) 63) < 64 then (if 0 ≤ (Go.bits .and .i64 ((Go.bits .or .i64 (Go.bits .or .i64 (wrap64 ((wrap64 (rd x0 0)) * 65536)) (wrap64 ((wrap64 (rd x0 1)) * 256))) (wrap64 (rd x0 2))) / 64) 63) then (if (Go.bits .and .i64 ((Go.bits .or .i64 (Go.bits .or .i64 (wrap64 ((wrap64 (rd x0 0)) * 65536)) (wrap64 ((wrap64 (rd x0 1)) * 256))) (wrap64 (rd x0 2))) / 64) 63) < 64 then (if 0 ≤ (Go.bits .and .i64 (Go.bits .or .i64 (Go.bits .or .i64 (wrap64 ((wrap64 (rd x0 0)) * 65536)) (wrap64 ((wrap64 (rd x0 1)) * 256))) (wrap64 (rd x0 2))) 63) then (if (Go.bits .and .i64 (Go.bits .or .i64 (Go.bits .or .i64 (wrap64 ((wrap64 (rd x0 0)) * 65536)) (wrap64 ((wrap64 (rd x0 1)) * 256))) (wrap64 (rd x0 2))) 63) < 64 then ((some (([bt (⟨#[65, 66, 67, 68, 69, 70, 71, 72, 73, 74, 75, 76, 77, 78, 79, 80, 81, 82, 83, 84, 85, 86, 87, 88, 89, 90, 97, 98, 99, 100, 101, 102, 103, 104, 105, 106, 107, 108, 109, 110, 111, 112, 113, 114, 115, 116, 117, 118, 119, 120, 121, 122, 48, 49, 50, 51, 52, 53, 54, 55, 56, 57, 43, 47]⟩ : ByteArray) ((Go.bits .or .i64 (Go.bits .or .i64 (wrap64 ((wrap64 (rd x0 0)) * 65536)) (wrap64 ((wrap64 (rd x0 1)) * 256))) (wrap64 (rd x0 2))) / 262144), bt (⟨#[65, 66, 67, 68, 69, 70, 71, 72, 73, 74, 75, 76, 77, 78, 79, 80, 81, 82, 83, 84, 85, 86, 87, 88, 89, 90, 97, 98, 99, 100, 101, 102, 103, 104, 105, 106, 107, 108, 109, 110, 111, 112, 113, 114, 115, 116, 117, 118, 119, 120, 121, 122, 48, 49, 50, 51, 52, 53, 54, 55, 56, 57, 43, 47]⟩ : ByteArray) (Go.bits .and .i64 ((Go.bits .or .i64 (Go.bits .or .i64 (wrap64 ((wrap64 (rd x0 0)) * 65536)) (wrap64 ((wrap64 (rd x0 1)) * 256))) (wrap64 (rd x0 2))) / 4096) 63), bt (⟨#[65, 66, 67, 68, 69, 70, 71, 72, 73, 74, 75, 76, 77, 78, 79, 80, 81, 82, 83, 84, 85, 86, 87, 88, 89, 90, 97, 98, 99, 100, 101, 102, 103, 104, 105, 106, 107, 108, 109, 110, 111, 112, 113, 114, 115, 116, 117, 118, 119, 120, 121, 122, 48, 49, 50, 51, 52, 53, 54, 55, 56, 57, 43, 47]⟩ : ByteArray) (Go.bits .and .i64 ((Go.bits .or .i64 (Go.bits .or .i64 (wrap64 ((wrap64 (rd x0 0)) * 65536)) (wrap64 ((wrap64 (rd x0 1)) * 256))) (wrap64 (rd x0 2))) / 64) 63), bt (⟨#[65, 66, 67, 68, 69, 70, 71, 72, 73, 74, 75, 76, 77, 78, 79, 80, 81, 82, 83, 84, 85, 86, 87, 88, 89, 90, 97, 98, 99, 100, 101, 102, 103, 104, 105, 106, 107, 108, 109, 110, 111, 112, 113, 114, 115, 116, 117, 118, 119, 120, 121, 122, 48, 49, 50, 51, 52, 53, 54, 55, 56, 57, 43, 47]⟩ : ByteArray) (Go.bits .and .i64 (Go.bits .or .i64 (Go.bits .or .i64 (wrap64 ((wrap64 (rd x0 0)) * 65536)) (wrap64 ((wrap64 (rd x0 1)) * 256))) (wrap64 (rd x0 2))) 63)] : List Int) : List Int)).bind fun y138 => (if x3.length + y138.length < 140737488355328 then (if 3 ≤ (x0.length : Int) then (text_EncodeBase64.l0 k (x0.drop 3) (x3 ++ y138)) else (none)) else (none))) else (none)) else (none)) else (none)) else (none)) else (none)) else (none)) else (none)) else (none)) else (none)) else (none)) else (none)) else (if (x0.length : Int) = 1 then (if 0 < (x0.length : Int) then (if 0 ≤ ((wrap64 ((wrap64 (rd x0 0)) * 65536)) / 262144) then (if ((wrap64 ((wrap64 (rd x0 0)) * 65536)) / 262144) < 64 then (if 0 ≤ (Go.bits .and .i64 ((wrap64 ((wrap64 (rd x0 0)) * 65536)) / 4096) 63) then (if (Go.bits .and .i64 ((wrap64 ((wrap64 (rd x0 0)) * 65536)) / 4096) 63) < 64 then ((some (([bt (⟨#[65, 66, 67, 68, 69, 70, 71, 72, 73, 74, 75, 76, 77, 78, 79, 80, 81, 82, 83, 84, 85, 86, 87, 88, 89, 90, 97, 98, 99, 100, 101, 102, 103, 104, 105, 106, 107, 108, 109, 110, 111, 112, 113, 114, 115, 116, 117, 118, 119, 120, 121, 122, 48, 49, 50, 51, 52, 53, 54, 55, 56, 57, 43, 47]⟩ : ByteArray) ((wrap64 ((wrap64 (rd x0 0)) * 65536)) / 262144), bt (⟨#[65, 66, 67, 68, 69, 70, 71, 72, 73, 74, 75, 76, 77, 78, 79, 80, 81, 82, 83, 84, 85, 86, 87, 88, 89, 90, 97, 98, 99, 100, 101, 102, 103, 104, 105, 106, 107, 108, 109, 110, 111, 112, 113, 114, 115, 116, 117, 118, 119, 120, 121, 122, 48, 49, 50, 51, 52, 53, 54, 55, 56, 57, 43, 47]⟩ : ByteArray) (Go.bits .and .i64 ((wrap64 ((wrap64 (rd x0 0)) * 65536)) / 4096) 63), 61, 61] : List Int) : List Int)).bind fun y150 => (if x3.length + y150.length < 140737488355328 then (some (strOfNums (x3 ++ y150))) else (none))) else (none)) else (none)) else (none)) else (none)) else (none)) else (if (x0.length : Int) = 2 then (if 0 < (x0.length : Int) then (if 1 < (x0.length : Int) then (if 0 ≤ ((Go.bits .or .i64 (wrap64 ((wrap64 (rd x0 0)) * 65536)) (wrap64 ((wrap64 (rd x0 1)) * 256))) / 262144) then (if ((Go.bits .or .i64 (wrap64 ((wrap64 (rd x0 0)) * 65536)) (wrap64 ((wrap64 (rd x0 1)) * 256))) / 262144) < 64 then (if 0 ≤ (Go.bits .and .i64 ((Go.bits .or .i64 (wrap64 ((wrap64 (rd x0 0)) * 65536)) (wrap64 ((wrap64 (rd x0 1)) * 256))) / 4096) 63) then (if (Go.bits .and .i64 ((Go.bits .or .i64 (wrap64 ((wrap64 (rd x0 0)) * 65536)) (wrap64 ((wrap64 (rd x0 1)) * 256))) / 4096) 63) < 64 then (if 0 ≤ (Go.bits .and .i64 ((Go.bits .or .i64 (wrap64 ((wrap64 (rd x0 0)) * 65536)) (wrap64 ((wrap64 (rd x0 1)) * 256))) / 64) 63) then (if (Go.bits .and .i64 ((Go.bits .or .i64 (wrap64 ((wrap64 (rd x0 0)) * 65536)) (wrap64 ((wrap64 (rd x0 1)) * 256))) / 64) 63) < 64 then ((some (([bt (⟨#[65, 66, 67, 68, 69, 70, 71, 72, 73, 74, 75, 76, 77, 78, 79, 80, 81, 82, 83, 84, 85, 86, 87, 88, 89, 90, 97, 98, 99, 100, 101, 102, 103, 104, 105, 106, 107, 108, 109, 110, 111, 112, 113, 114, 115, 116, 117, 118, 119, 120, 121, 122, 48, 49, 50, 51, 52, 53, 54, 55, 56, 57, 43, 47]⟩ : ByteArray) ((Go.bits .or .i64 (wrap64 ((wrap64 (rd x0 0)) * 65536)) (wrap64 ((wrap64 (rd x0 1)) * 256))) / 262144), bt (⟨#[65, 66, 67, 68, 69, 70, 71, 72, 73, 74, 75, 76, 77, 78, 79, 80, 81, 82, 83, 84, 85, 86, 87, 88, 89, 90, 97, 98, 99, 100, 101, 102, 103, 104, 105, 106, 107, 108, 109, 110, 111, 112, 113, 114, 115, 116, 117, 118, 119, 120, 121, 122, 48, 49, 50, 51, 52, 53, 54, 55, 56, 57, 43, 47]⟩ : ByteArray) (Go.bits .and .i64 ((Go.bits .or .i64 (wrap64 ((wrap64 (rd x0 0)) * 65536)) (wrap64 ((wrap64 (rd x0 1)) * 256))) / 4096) 63), bt (⟨#[65, 66, 67, 68, 69, 70, 71, 72, 73, 74, 75, 76, 77, 78, 79, 80, 81, 82, 83, 84, 85, 86, 87, 88, 89, 90, 97, 98, 99, 100, 101, 102, 103, 104, 105, 106, 107, 108, 109, 110, 111, 112, 113, 114, 115, 116, 117, 118, 119, 120, 121, 122, 48, 49, 50, 51, 52, 53, 54, 55, 56, 57, 43, 47]⟩ : ByteArray) (Go.bits .and .i64 ((Go.bits .or .i64 (wrap64 ((wrap64 (rd x0 0)) * 65536)) (wrap64 ((wrap64 (rd x0 1)) * 256))) / 64) 63), 61] : List Int) : List Int)).bind fun y158 => (if x3.length + y158.length < 140737488355328 then (some (strOfNums (x3 ++ y158))) else (none))) else (none)) else (none)) else (none)) else (none)) else (none)) else (none)) else (none)) else (none)) else (some (strOfNums x3))))
def text_EncodeBase64.f (k : Nat) (l0 : List Int) : Option (ByteArray) := if 0 ≤ (wrap64 ((wrap64 (Int.tdiv (wrap64 ((l0.length : Int) + 2)) 3)) * 4)) then (if (wrap64 ((wrap64 (Int.tdiv (wrap64 ((l0.length : Int) + 2)) 3)) * 4) : Int).toNat ≤ 281474976710656 then (text_EncodeBase64.l0 k l0 (([] : List Int))) else (none)) else (none)
theorem text_EncodeBase64.mono_l : ∀ k, (∀ y0 y1, LeO (text_EncodeBase64.l0 k y0 y1) (text_EncodeBase64.l0 (k + 1) y0 y1))
  | 0 => fun _ _ r h => by simp [text_EncodeBase64.l0] at h
  | k + 1 => by
    have ih0 := text_EncodeBase64.mono_l k
    · intro y0 y1
      unfold text_EncodeBase64.l0
      repeat' first
      | (with_reducible exact ih0 _ _)
      | (with_reducible exact LeO.refl _)
      | (with_reducible exact LeO.none _)
      | (with_reducible refine LeO.ite ?_ ?_)
      | (with_reducible refine LeO.bind ?_ (fun _ => ?_))
      | exact ih0 _ _
      | exact LeO.none _
      | refine LeO.ite ?_ ?_
      | refine LeO.bind ?_ (fun _ => ?_)
theorem text_EncodeBase64.mono : ∀ a0 k, LeO (text_EncodeBase64.f k a0) (text_EncodeBase64.f (k + 1) a0) := by
  intro a0 k
  have ih0 := text_EncodeBase64.mono_l k
  unfold text_EncodeBase64.f
  repeat' first
      | (with_reducible exact ih0 _ _)
      | (with_reducible exact LeO.refl _)
      | (with_reducible exact LeO.none _)
      | (with_reducible refine LeO.ite ?_ ?_)
      | (with_reducible refine LeO.bind ?_ (fun _ => ?_))
      | exact ih0 _ _
      | exact LeO.none _
      | refine LeO.ite ?_ ?_
      | refine LeO.bind ?_ (fun _ => ?_)
mutual
def ledgerref06_letter.j2 : Nat → ByteArray → Int → Int → Int → Option (Int)
  | 0, _, _, _, _ => none
  | k + 1, x0, x4, x5, x6 => if (x0.size : Int) ≤ x4 then (some 0) else (ledgerref06_letter.l0 k x0 x4 x5 x6 1)
def ledgerref06_letter.l0 : Nat → ByteArray → Int → Int → Int → Int → Option (Int)
  | 0, _, _, _, _, _ => none
  | k + 1, x0, x4, x5, x6, x7 => if x7 ≤ x4 then (if 0 ≤ x7 then (if x7 < (x0.size : Int) then (if ((Int.tdiv (bt x0 x7) 64) % 256) = 2 then (ledgerref06_letter.l0 k x0 x4 (wrap64 ((wrap64 (64 * x5)) + (wrap64 (Int.tmod (bt x0 x7) 64)))) x6 (wrap64 (x7 + 1))) else (some 0)) else (none)) else (none)) else (if x5 < x6 then (some 0) else (if x5 > 1114111 then (some 0) else (if x5 ≥ 55296 then (if x5 ≤ 57343 then (some 0) else (some (wrap64 (x4 + 1)))) else (some (wrap64 (x4 + 1))))))
def ledgerref06_letter.j0 : Nat → ByteArray → Int → Bool → Option (Int)
  | 0, _, _, _ => none
  | k + 1, x0, x3, x15 => if x15 = true then (ledgerref06_letter.j2 k x0 1 (Int.tmod x3 32) 128) else (if x3 ≥ 224 then (ledgerref06_letter.j1 k x0 x3 (decide (x3 < 240))) else (ledgerref06_letter.j1 k x0 x3 false))
def ledgerref06_letter.j1 : Nat → ByteArray → Int → Bool → Option (Int)
  | 0, _, _, _ => none
  | k + 1, x0, x3, x24 => if x24 = true then (ledgerref06_letter.j2 k x0 2 (Int.tmod x3 16) 2048) else (if x3 ≥ 240 then (if x3 < 248 then (ledgerref06_letter.j2 k x0 3 (Int.tmod x3 8) 65536) else (some 0)) else (some 0))
end
def ledgerref06_letter.f (k : Nat) (a0 : ByteArray) : Option (Int) := if 0 < (a0.size : Int) then (if (wrap64 (bt a0 0)) < 128 then (some 1) else (if (wrap64 (bt a0 0)) ≥ 192 then (ledgerref06_letter.j0 k a0 (wrap64 (bt a0 0)) (decide ((wrap64 (bt a0 0)) < 224))) else (ledgerref06_letter.j0 k a0 (wrap64 (bt a0 0)) false))) else (none)
theorem ledgerref06_letter.mono_l : ∀ k, (∀ y0 y1 y2 y3, LeO (ledgerref06_letter.j2 k y0 y1 y2 y3) (ledgerref06_letter.j2 (k + 1) y0 y1 y2 y3)) ∧ (∀ y0 y1 y2 y3 y4, LeO (ledgerref06_letter.l0 k y0 y1 y2 y3 y4) (ledgerref06_letter.l0 (k + 1) y0 y1 y2 y3 y4)) ∧ (∀ y0 y1 y2, LeO (ledgerref06_letter.j0 k y0 y1 y2) (ledgerref06_letter.j0 (k + 1) y0 y1 y2)) ∧ (∀ y0 y1 y2, LeO (ledgerref06_letter.j1 k y0 y1 y2) (ledgerref06_letter.j1 (k + 1) y0 y1 y2))
  | 0 => ⟨fun _ _ _ _ r h => by simp [ledgerref06_letter.j2] at h, fun _ _ _ _ _ r h => by simp [ledgerref06_letter.l0] at h, fun _ _ _ r h => by simp [ledgerref06_letter.j0] at h, fun _ _ _ r h => by simp [ledgerref06_letter.j1] at h⟩
  | k + 1 => by
    obtain ⟨ih0, ih1, ih2, ih3⟩ := ledgerref06_letter.mono_l k
    refine ⟨?_, ?_, ?_, ?_⟩
    · intro y0 y1 y2 y3
      unfold ledgerref06_letter.j2
      repeat' first
      | (with_reducible exact ih0 _ _ _ _)
      | (with_reducible exact ih1 _ _ _ _ _)
      | (with_reducible exact ih2 _ _ _)
      | (with_reducible exact ih3 _ _ _)
      | (with_reducible exact LeO.refl _)
      | (with_reducible exact LeO.none _)
      | (with_reducible refine LeO.ite ?_ ?_)
      | (with_reducible refine LeO.bind ?_ (fun _ => ?_))
      | exact ih0 _ _ _ _
      | exact ih1 _ _ _ _ _
      | exact ih2 _ _ _
      | exact ih3 _ _ _
      | exact LeO.none _
      | refine LeO.ite ?_ ?_
      | refine LeO.bind ?_ (fun _ => ?_)
    · intro y0 y1 y2 y3 y4
      unfold ledgerref06_letter.l0
      repeat' first
      | (with_reducible exact ih0 _ _ _ _)
      | (with_reducible exact ih1 _ _ _ _ _)
      | (with_reducible exact ih2 _ _ _)
      | (with_reducible exact ih3 _ _ _)
      | (with_reducible exact LeO.refl _)
      | (with_reducible exact LeO.none _)
      | (with_reducible refine LeO.ite ?_ ?_)
      | (with_reducible refine LeO.bind ?_ (fun _ => ?_))
      | exact ih0 _ _ _ _
      | exact ih1 _ _ _ _ _
      | exact ih2 _ _ _
      | exact ih3 _ _ _
      | exact LeO.none _
      | refine LeO.ite ?_ ?_
      | refine LeO.bind ?_ (fun _ => ?_)
    · intro y0 y1 y2
      unfold ledgerref06_letter.j0
      repeat' first
      | (with_reducible exact ih0 _ _ _ _)
      | (with_reducible exact ih1 _ _ _ _ _)
      | (with_reducible exact ih2 _ _ _)
      | (with_reducible exact ih3 _ _ _)
      | (with_reducible exact LeO.refl _)
      | (with_reducible exact LeO.none _)
      | (with_reducible refine LeO.ite ?_ ?_)
      | (with_reducible refine LeO.bind ?_ (fun _ => ?_))
      | exact ih0 _ _ _ _
      | exact ih1 _ _ _ _ _
      | exact ih2 _ _ _
      | exact ih3 _ _ _
      | exact LeO.none _
      | refine LeO.ite ?_ ?_
      | refine LeO.bind ?_ (fun _ => ?_)
    · intro y0 y1 y2
      unfold ledgerref06_letter.j1
      repeat' first
      | (with_reducible exact ih0 _ _ _ _)
      | (with_reducible exact ih1 _ _ _ _ _)
      | (with_reducible exact ih2 _ _ _)
      | (with_reducible exact ih3 _ _ _)
      | (with_reducible exact LeO.refl _)
      | (with_reducible exact LeO.none _)
      | (with_reducible refine LeO.ite ?_ ?_)
      | (with_reducible refine LeO.bind ?_ (fun _ => ?_))
      | exact ih0 _ _ _ _
      | exact ih1 _ _ _ _ _
      | exact ih2 _ _ _
      | exact ih3 _ _ _
      | exact LeO.none _
      | refine LeO.ite ?_ ?_
      | refine LeO.bind ?_ (fun _ => ?_)
theorem ledgerref06_letter.mono : ∀ a0 k, LeO (ledgerref06_letter.f k a0) (ledgerref06_letter.f (k + 1) a0) := by
  intro a0 k
  obtain ⟨ih0, ih1, ih2, ih3⟩ := ledgerref06_letter.mono_l k
  unfold ledgerref06_letter.f
  repeat' first
      | (with_reducible exact ih0 _ _ _ _)
      | (with_reducible exact ih1 _ _ _ _ _)
      | (with_reducible exact ih2 _ _ _)
      | (with_reducible exact ih3 _ _ _)
      | (with_reducible exact LeO.refl _)
      | (with_reducible exact LeO.none _)
      | (with_reducible refine LeO.ite ?_ ?_)
      | (with_reducible refine LeO.bind ?_ (fun _ => ?_))
      | exact ih0 _ _ _ _
      | exact ih1 _ _ _ _ _
      | exact ih2 _ _ _
      | exact ih3 _ _ _
      | exact LeO.none _
      | refine LeO.ite ?_ ?_
      | refine LeO.bind ?_ (fun _ => ?_)
def ledgerref06_Plain.l0 : Nat → ByteArray → Int → Option (Int)
  | 0, _, _ => none
  | k + 1, x0, x3 => if x3 < (x0.size : Int) then (if 0 ≤ x3 then (if x3 ≤ (x0.size : Int) then ((ledgerref06_letter.f k (x0.extract (x3 : Int).toNat x0.size)).bind fun t188 => (if t188 = 0 then (some 65) else (if (bt x0 x3) = 127 then (some 65) else (if (bt x0 x3) < 32 then (if (bt x0 x3) = 10 then (ledgerref06_Plain.l0 k x0 (wrap64 (x3 + t188))) else (some 65)) else (ledgerref06_Plain.l0 k x0 (wrap64 (x3 + t188))))))) else (none)) else (none)) else (some 0)
def ledgerref06_Plain.f (k : Nat) (a0 : ByteArray) : Option (Int) := if (a0.size : Int) > 1048576 then (some 2) else (ledgerref06_Plain.l0 k a0 0)
theorem ledgerref06_Plain.mono_l : ∀ k, (∀ y0 y1, LeO (ledgerref06_Plain.l0 k y0 y1) (ledgerref06_Plain.l0 (k + 1) y0 y1))
  | 0 => fun _ _ r h => by simp [ledgerref06_Plain.l0] at h
  | k + 1 => by
    have ih0 := ledgerref06_Plain.mono_l k
    · intro y0 y1
      unfold ledgerref06_Plain.l0
      repeat' first
      | (with_reducible exact ih0 _ _)
      | (with_reducible exact ledgerref06_letter.mono _ _)
      | (with_reducible exact LeO.refl _)
      | (with_reducible exact LeO.none _)
      | (with_reducible refine LeO.ite ?_ ?_)
      | (with_reducible refine LeO.bind ?_ (fun _ => ?_))
      | exact ih0 _ _
      | exact ledgerref06_letter.mono _ _
      | exact LeO.none _
      | refine LeO.ite ?_ ?_
      | refine LeO.bind ?_ (fun _ => ?_)
theorem ledgerref06_Plain.mono : ∀ a0 k, LeO (ledgerref06_Plain.f k a0) (ledgerref06_Plain.f (k + 1) a0) := by
  intro a0 k
  have ih0 := ledgerref06_Plain.mono_l k
  unfold ledgerref06_Plain.f
  repeat' first
      | (with_reducible exact ih0 _ _)
      | (with_reducible exact ledgerref06_letter.mono _ _)
      | (with_reducible exact LeO.refl _)
      | (with_reducible exact LeO.none _)
      | (with_reducible refine LeO.ite ?_ ?_)
      | (with_reducible refine LeO.bind ?_ (fun _ => ?_))
      | exact ih0 _ _
      | exact ledgerref06_letter.mono _ _
      | exact LeO.none _
      | refine LeO.ite ?_ ?_
      | refine LeO.bind ?_ (fun _ => ?_)
def ledgerlaw06_TextPlain.f (k : Nat) (a0 : ByteArray) : Option (Bool) := (text_Plain.f a0).bind fun t189 => ((text_Plain.f (⟨#[97, 9]⟩ : ByteArray)).bind fun t190 => ((ledgerref06_Plain.f k a0).bind fun t191 => (if t189 = t191 then (some (t190 == 65)) else (some false))))
theorem ledgerlaw06_TextPlain.mono : ∀ a0 k, LeO (ledgerlaw06_TextPlain.f k a0) (ledgerlaw06_TextPlain.f (k + 1) a0) := by
  intro a0 k
  unfold ledgerlaw06_TextPlain.f
  repeat' first
      | (with_reducible exact ledgerref06_Plain.mono _ _)
      | (with_reducible exact LeO.refl _)
      | (with_reducible exact LeO.none _)
      | (with_reducible refine LeO.ite ?_ ?_)
      | (with_reducible refine LeO.bind ?_ (fun _ => ?_))
      | exact ledgerref06_Plain.mono _ _
      | exact LeO.none _
      | refine LeO.ite ?_ ?_
      | refine LeO.bind ?_ (fun _ => ?_)
mutual
def ledgerlaw06_TextPlains.j0 : Nat → ByteArray → ByteArray → Int → Bool → Option (Bool)
  | 0, _, _, _, _ => none
  | k + 1, x0, x1, x5, x28 => if x28 = true then (if x0.size + x1.size ≤ 9223372036854775807 then ((text_Plain.f (x0 ++ x1)).bind fun t194 => (if t194 = 0 then (ledgerlaw06_TextPlains.j1 k x0 x5) else (some false))) else (none)) else (ledgerlaw06_TextPlains.j1 k x0 x5)
def ledgerlaw06_TextPlains.j1 : Nat → ByteArray → Int → Option (Bool)
  | 0, _, _ => none
  | k + 1, x0, x5 => if (x0.size : Int) > 1048576 then (some (x5 == 2)) else (ledgerlaw06_TextPlains.l0 k x0 x5 true false 0)
def ledgerlaw06_TextPlains.l0 : Nat → ByteArray → Int → Bool → Bool → Int → Option (Bool)
  | 0, _, _, _, _, _ => none
  | k + 1, x0, x5, x8, x9, x10 => if x10 < (x0.size : Int) then (if 0 ≤ x10 then (if (bt x0 x10) ≥ 128 then (if (bt x0 x10) = 127 then (ledgerlaw06_TextPlains.l0 k x0 x5 false true (wrap64 (x10 + 1))) else (if (bt x0 x10) < 32 then (if (bt x0 x10) = 10 then (ledgerlaw06_TextPlains.l0 k x0 x5 false x9 (wrap64 (x10 + 1))) else (ledgerlaw06_TextPlains.l0 k x0 x5 false true (wrap64 (x10 + 1)))) else (ledgerlaw06_TextPlains.l0 k x0 x5 false x9 (wrap64 (x10 + 1))))) else (if (bt x0 x10) = 127 then (ledgerlaw06_TextPlains.l0 k x0 x5 x8 true (wrap64 (x10 + 1))) else (if (bt x0 x10) < 32 then (if (bt x0 x10) = 10 then (ledgerlaw06_TextPlains.l0 k x0 x5 x8 x9 (wrap64 (x10 + 1))) else (ledgerlaw06_TextPlains.l0 k x0 x5 x8 true (wrap64 (x10 + 1)))) else (ledgerlaw06_TextPlains.l0 k x0 x5 x8 x9 (wrap64 (x10 + 1)))))) else (none)) else (if x8 = true then (if x9 = true then (some (x5 != 0)) else (some (x5 == 0))) else (if x9 = true then (some (x5 != 0)) else (some true)))
end
def ledgerlaw06_TextPlains.f (k : Nat) (a0 : ByteArray) (a1 : ByteArray) : Option (Bool) := (text_Plain.f a0).bind fun t192 => ((text_Plain.f a1).bind fun t193 => (if t192 = 0 then (if t193 = 0 then (ledgerlaw06_TextPlains.j0 k a0 a1 t192 (decide ((wrap64 ((a0.size : Int) + (a1.size : Int))) ≤ 1048576))) else (ledgerlaw06_TextPlains.j0 k a0 a1 t192 false)) else (ledgerlaw06_TextPlains.j0 k a0 a1 t192 false)))
theorem ledgerlaw06_TextPlains.mono_l : ∀ k, (∀ y0 y1 y2 y3, LeO (ledgerlaw06_TextPlains.j0 k y0 y1 y2 y3) (ledgerlaw06_TextPlains.j0 (k + 1) y0 y1 y2 y3)) ∧ (∀ y0 y1, LeO (ledgerlaw06_TextPlains.j1 k y0 y1) (ledgerlaw06_TextPlains.j1 (k + 1) y0 y1)) ∧ (∀ y0 y1 y2 y3 y4, LeO (ledgerlaw06_TextPlains.l0 k y0 y1 y2 y3 y4) (ledgerlaw06_TextPlains.l0 (k + 1) y0 y1 y2 y3 y4))
  | 0 => ⟨fun _ _ _ _ r h => by simp [ledgerlaw06_TextPlains.j0] at h, fun _ _ r h => by simp [ledgerlaw06_TextPlains.j1] at h, fun _ _ _ _ _ r h => by simp [ledgerlaw06_TextPlains.l0] at h⟩
  | k + 1 => by
    obtain ⟨ih0, ih1, ih2⟩ := ledgerlaw06_TextPlains.mono_l k
    refine ⟨?_, ?_, ?_⟩
    · intro y0 y1 y2 y3
      unfold ledgerlaw06_TextPlains.j0
      repeat' first
      | (with_reducible exact ih0 _ _ _ _)
      | (with_reducible exact ih1 _ _)
      | (with_reducible exact ih2 _ _ _ _ _)
      | (with_reducible exact LeO.refl _)
      | (with_reducible exact LeO.none _)
      | (with_reducible refine LeO.ite ?_ ?_)
      | (with_reducible refine LeO.bind ?_ (fun _ => ?_))
      | exact ih0 _ _ _ _
      | exact ih1 _ _
      | exact ih2 _ _ _ _ _
      | exact LeO.none _
      | refine LeO.ite ?_ ?_
      | refine LeO.bind ?_ (fun _ => ?_)
    · intro y0 y1
      unfold ledgerlaw06_TextPlains.j1
      repeat' first
      | (with_reducible exact ih0 _ _ _ _)
      | (with_reducible exact ih1 _ _)
      | (with_reducible exact ih2 _ _ _ _ _)
      | (with_reducible exact LeO.refl _)
      | (with_reducible exact LeO.none _)
      | (with_reducible refine LeO.ite ?_ ?_)
      | (with_reducible refine LeO.bind ?_ (fun _ => ?_))
      | exact ih0 _ _ _ _
      | exact ih1 _ _
      | exact ih2 _ _ _ _ _
      | exact LeO.none _
      | refine LeO.ite ?_ ?_
      | refine LeO.bind ?_ (fun _ => ?_)
    · intro y0 y1 y2 y3 y4
      unfold ledgerlaw06_TextPlains.l0
      repeat' first
      | (with_reducible exact ih0 _ _ _ _)
      | (with_reducible exact ih1 _ _)
      | (with_reducible exact ih2 _ _ _ _ _)
      | (with_reducible exact LeO.refl _)
      | (with_reducible exact LeO.none _)
      | (with_reducible refine LeO.ite ?_ ?_)
      | (with_reducible refine LeO.bind ?_ (fun _ => ?_))
      | exact ih0 _ _ _ _
      | exact ih1 _ _
      | exact ih2 _ _ _ _ _
      | exact LeO.none _
      | refine LeO.ite ?_ ?_
      | refine LeO.bind ?_ (fun _ => ?_)
theorem ledgerlaw06_TextPlains.mono : ∀ a0 a1 k, LeO (ledgerlaw06_TextPlains.f k a0 a1) (ledgerlaw06_TextPlains.f (k + 1) a0 a1) := by
  intro a0 a1 k
  obtain ⟨ih0, ih1, ih2⟩ := ledgerlaw06_TextPlains.mono_l k
  unfold ledgerlaw06_TextPlains.f
  repeat' first
      | (with_reducible exact ih0 _ _ _ _)
      | (with_reducible exact ih1 _ _)
      | (with_reducible exact ih2 _ _ _ _ _)
      | (with_reducible exact LeO.refl _)
      | (with_reducible exact LeO.none _)
      | (with_reducible refine LeO.ite ?_ ?_)
      | (with_reducible refine LeO.bind ?_ (fun _ => ?_))
      | exact ih0 _ _ _ _
      | exact ih1 _ _
      | exact ih2 _ _ _ _ _
      | exact LeO.none _
      | refine LeO.ite ?_ ?_
      | refine LeO.bind ?_ (fun _ => ?_)
def stringslite_HasSuffix.f (a0 : ByteArray) (a1 : ByteArray) : Option (Bool) := if (a0.size : Int) ≥ (a1.size : Int) then (if 0 ≤ (wrap64 ((a0.size : Int) - (a1.size : Int))) then (if (wrap64 ((a0.size : Int) - (a1.size : Int))) ≤ (a0.size : Int) then (some ((a0.extract ((wrap64 ((a0.size : Int) - (a1.size : Int))) : Int).toNat a0.size).toList == a1.toList)) else (none)) else (none)) else (some false)
def stringslite_TrimSuffix.f (a0 : ByteArray) (a1 : ByteArray) : Option (ByteArray) := (stringslite_HasSuffix.f a0 a1).bind fun t195 => (if t195 = true then (if 0 ≤ (wrap64 ((a0.size : Int) - (a1.size : Int))) then (if (wrap64 ((a0.size : Int) - (a1.size : Int))) ≤ (a0.size : Int) then (some (a0.extract 0 ((wrap64 ((a0.size : Int) - (a1.size : Int))) : Int).toNat)) else (none)) else (none)) else (some a0))
def strings_TrimSuffix.f (a0 : ByteArray) (a1 : ByteArray) : Option (ByteArray) := (stringslite_TrimSuffix.f a0 a1).bind fun t196 => (some t196)
mutual
def text_value.j0 : Nat → Int → Bool → Option (Int)
  | 0, _, _ => none
  | k + 1, x0, x3 => if x3 = true then (some ((x0 - 65) % 256)) else (if x0 ≥ 97 then (text_value.j1 k x0 (decide (x0 ≤ 122))) else (text_value.j1 k x0 false))
def text_value.j1 : Nat → Int → Bool → Option (Int)
  | 0, _, _ => none
  | k + 1, x0, x13 => if x13 = true then (some (((x0 - 97) % 256) + 26)) else (if x0 ≥ 48 then (text_value.j2 k x0 (decide (x0 ≤ 57))) else (text_value.j2 k x0 false))
def text_value.j2 : Nat → Int → Bool → Option (Int)
  | 0, _, _ => none
  | k + 1, x0, x24 => if x24 = true then (some (((x0 - 48) % 256) + 52)) else (if x0 = 43 then (some 62) else (if x0 = 47 then (some 63) else (some (-1))))
end
def text_value.f (k : Nat) (a0 : Int) : Option (Int) := if a0 ≥ 65 then (text_value.j0 k a0 (decide (a0 ≤ 90))) else (text_value.j0 k a0 false)
theorem text_value.mono_l : ∀ k, (∀ y0 y1, LeO (text_value.j0 k y0 y1) (text_value.j0 (k + 1) y0 y1)) ∧ (∀ y0 y1, LeO (text_value.j1 k y0 y1) (text_value.j1 (k + 1) y0 y1)) ∧ (∀ y0 y1, LeO (text_value.j2 k y0 y1) (text_value.j2 (k + 1) y0 y1))
  | 0 => ⟨fun _ _ r h => by simp [text_value.j0] at h, fun _ _ r h => by simp [text_value.j1] at h, fun _ _ r h => by simp [text_value.j2] at h⟩
  | k + 1 => by
    obtain ⟨ih0, ih1, ih2⟩ := text_value.mono_l k
    refine ⟨?_, ?_, ?_⟩
    · intro y0 y1
      unfold text_value.j0
      repeat' first
      | (with_reducible exact ih0 _ _)
      | (with_reducible exact ih1 _ _)
      | (with_reducible exact ih2 _ _)
      | (with_reducible exact LeO.refl _)
      | (with_reducible exact LeO.none _)
      | (with_reducible refine LeO.ite ?_ ?_)
      | (with_reducible refine LeO.bind ?_ (fun _ => ?_))
      | exact ih0 _ _
      | exact ih1 _ _
      | exact ih2 _ _
      | exact LeO.none _
      | refine LeO.ite ?_ ?_
      | refine LeO.bind ?_ (fun _ => ?_)
    · intro y0 y1
      unfold text_value.j1
      repeat' first
      | (with_reducible exact ih0 _ _)
      | (with_reducible exact ih1 _ _)
      | (with_reducible exact ih2 _ _)
      | (with_reducible exact LeO.refl _)
      | (with_reducible exact LeO.none _)
      | (with_reducible refine LeO.ite ?_ ?_)
      | (with_reducible refine LeO.bind ?_ (fun _ => ?_))
      | exact ih0 _ _
      | exact ih1 _ _
      | exact ih2 _ _
      | exact LeO.none _
      | refine LeO.ite ?_ ?_
      | refine LeO.bind ?_ (fun _ => ?_)
    · intro y0 y1
      unfold text_value.j2
      repeat' first
      | (with_reducible exact ih0 _ _)
      | (with_reducible exact ih1 _ _)
      | (with_reducible exact ih2 _ _)
      | (with_reducible exact LeO.refl _)
      | (with_reducible exact LeO.none _)
      | (with_reducible refine LeO.ite ?_ ?_)
      | (with_reducible refine LeO.bind ?_ (fun _ => ?_))
      | exact ih0 _ _
      | exact ih1 _ _
      | exact ih2 _ _
      | exact LeO.none _
      | refine LeO.ite ?_ ?_
      | refine LeO.bind ?_ (fun _ => ?_)
theorem text_value.mono : ∀ a0 k, LeO (text_value.f k a0) (text_value.f (k + 1) a0) := by
  intro a0 k
  obtain ⟨ih0, ih1, ih2⟩ := text_value.mono_l k
  unfold text_value.f
  repeat' first
      | (with_reducible exact ih0 _ _)
      | (with_reducible exact ih1 _ _)
      | (with_reducible exact ih2 _ _)
      | (with_reducible exact LeO.refl _)
      | (with_reducible exact LeO.none _)
      | (with_reducible refine LeO.ite ?_ ?_)
      | (with_reducible refine LeO.bind ?_ (fun _ => ?_))
      | exact ih0 _ _
      | exact ih1 _ _
      | exact ih2 _ _
      | exact LeO.none _
      | refine LeO.ite ?_ ?_
      | refine LeO.bind ?_ (fun _ => ?_)
def text_DecodeBase64.l0 : Nat → ByteArray → List Int → Int → Int → Int → Int → Option (List Int × Int)
  | 0, _, _, _, _, _, _ => none
  | k + 1, x4, x5, x6, x7, x26, x27 => if x27 < x26 then (if 0 ≤ x27 then (if x27 < (x4.size : Int) then ((text_value.f k (bt x4 x27)).bind fun t202 => (if t202 < 0 then (some (([] : List Int), 60)) else (if (wrap64 (x7 + 6)) ≥ 8 then (if 0 ≤ (wrap64 ((wrap64 (x7 + 6)) - 8)) then (if x5.length < 140737488355328 then (text_DecodeBase64.l0 k x4 (x5 ++ [(shr .i64 (Go.bits .or .i64 (wrap64 (x6 * 64)) t202) (wrap64 ((wrap64 (x7 + 6)) - 8))) % 256]) (Go.bits .and .i64 (Go.bits .or .i64 (wrap64 (x6 * 64)) t202) (wrap64 ((shl .i64 1 (wrap64 ((wrap64 (x7 + 6)) - 8))) - 1))) (wrap64 ((wrap64 (x7 + 6)) - 8)) x26 (wrap64 (x27 + 1))) else (none)) else (none)) else (text_DecodeBase64.l0 k x4 x5 (Go.bits .or .i64 (wrap64 (x6 * 64)) t202) (wrap64 (x7 + 6)) x26 (wrap64 (x27 + 1)))))) else (none)) else (none)) else (if x6 = 0 then (some (x5, 0)) else (some (([] : List Int), 60)))
def text_DecodeBase64.f (k : Nat) (a0 : ByteArray) : Option (List Int × Int) := if (a0.size : Int) > 1048576 then (some (([] : List Int), 2)) else (if ((a0.size : Int) % 4) = 0 then ((strings_TrimSuffix.f a0 (⟨#[61]⟩ : ByteArray)).bind fun t197 => ((strings_TrimSuffix.f t197 (⟨#[61]⟩ : ByteArray)).bind fun t198 => (if 0 ≤ (wrap64 ((wrap64 ((a0.size : Int) / 4)) * 3)) then (if (wrap64 ((wrap64 ((a0.size : Int) / 4)) * 3) : Int).toNat ≤ 281474976710656 then (text_DecodeBase64.l0 k t198 (([] : List Int)) 0 0 (t198.size : Int) 0) else (none)) else (none)))) else (some (([] : List Int), 60)))
theorem text_DecodeBase64.mono_l : ∀ k, (∀ y0 y1 y2 y3 y4 y5, LeO (text_DecodeBase64.l0 k y0 y1 y2 y3 y4 y5) (text_DecodeBase64.l0 (k + 1) y0 y1 y2 y3 y4 y5))
  | 0 => fun _ _ _ _ _ _ r h => by simp [text_DecodeBase64.l0] at h
  | k + 1 => by
    have ih0 := text_DecodeBase64.mono_l k
    · intro y0 y1 y2 y3 y4 y5
      unfold text_DecodeBase64.l0
      repeat' first
      | (with_reducible exact ih0 _ _ _ _ _ _)
      | (with_reducible exact text_value.mono _ _)
      | (with_reducible exact LeO.refl _)
      | (with_reducible exact LeO.none _)
      | (with_reducible refine LeO.ite ?_ ?_)
      | (with_reducible refine LeO.bind ?_ (fun _ => ?_))
      | exact ih0 _ _ _ _ _ _
      | exact text_value.mono _ _
      | exact LeO.none _
      | refine LeO.ite ?_ ?_
      | refine LeO.bind ?_ (fun _ => ?_)
theorem text_DecodeBase64.mono : ∀ a0 k, LeO (text_DecodeBase64.f k a0) (text_DecodeBase64.f (k + 1) a0) := by
  intro a0 k
  have ih0 := text_DecodeBase64.mono_l k
  unfold text_DecodeBase64.f
  repeat' first
      | (with_reducible exact ih0 _ _ _ _ _ _)
      | (with_reducible exact text_value.mono _ _)
      | (with_reducible exact LeO.refl _)
      | (with_reducible exact LeO.none _)
      | (with_reducible refine LeO.ite ?_ ?_)
      | (with_reducible refine LeO.bind ?_ (fun _ => ?_))
      | exact ih0 _ _ _ _ _ _
      | exact text_value.mono _ _
      | exact LeO.none _
      | refine LeO.ite ?_ ?_
      | refine LeO.bind ?_ (fun _ => ?_)
def text_DecodeHex.l0 : Nat → ByteArray → List Int → Int → Option (List Int × Int)
  | 0, _, _, _ => none
  | k + 1, x0, x4, x5 => if x5 < (x0.size : Int) then (if 0 ≤ x5 then ((text_digit.f (bt x0 x5)).bind fun t209 => (if 0 ≤ (wrap64 (x5 + 1)) then (if (wrap64 (x5 + 1)) < (x0.size : Int) then ((text_digit.f (bt x0 (wrap64 (x5 + 1)))).bind fun t210 => (if t209 < 0 then (some (([] : List Int), 61)) else (if t210 < 0 then (some (([] : List Int), 61)) else (if x4.length < 140737488355328 then (text_DecodeHex.l0 k x0 (x4 ++ [(Go.bits .or .i64 (wrap64 (t209 * 16)) t210) % 256]) (wrap64 (x5 + 2))) else (none))))) else (none)) else (none))) else (none)) else (some (x4, 0))
def text_DecodeHex.f (k : Nat) (a0 : ByteArray) : Option (List Int × Int) := if (a0.size : Int) > 1048576 then (some (([] : List Int), 2)) else (if ((a0.size : Int) % 2) = 0 then (if 0 ≤ (wrap64 ((a0.size : Int) / 2)) then (if (wrap64 ((a0.size : Int) / 2) : Int).toNat ≤ 281474976710656 then (text_DecodeHex.l0 k a0 (([] : List Int)) 0) else (none)) else (none)) else (some (([] : List Int), 61)))
theorem text_DecodeHex.mono_l : ∀ k, (∀ y0 y1 y2, LeO (text_DecodeHex.l0 k y0 y1 y2) (text_DecodeHex.l0 (k + 1) y0 y1 y2))
  | 0 => fun _ _ _ r h => by simp [text_DecodeHex.l0] at h
  | k + 1 => by
    have ih0 := text_DecodeHex.mono_l k
    · intro y0 y1 y2
      unfold text_DecodeHex.l0
      repeat' first
      | (with_reducible exact ih0 _ _ _)
      | (with_reducible exact LeO.refl _)
      | (with_reducible exact LeO.none _)
      | (with_reducible refine LeO.ite ?_ ?_)
      | (with_reducible refine LeO.bind ?_ (fun _ => ?_))
      | exact ih0 _ _ _
      | exact LeO.none _
      | refine LeO.ite ?_ ?_
      | refine LeO.bind ?_ (fun _ => ?_)
theorem text_DecodeHex.mono : ∀ a0 k, LeO (text_DecodeHex.f k a0) (text_DecodeHex.f (k + 1) a0) := by
  intro a0 k
  have ih0 := text_DecodeHex.mono_l k
  unfold text_DecodeHex.f
  repeat' first
      | (with_reducible exact ih0 _ _ _)
      | (with_reducible exact LeO.refl _)
      | (with_reducible exact LeO.none _)
      | (with_reducible refine LeO.ite ?_ ?_)
      | (with_reducible refine LeO.bind ?_ (fun _ => ?_))
      | exact ih0 _ _ _
      | exact LeO.none _
      | refine LeO.ite ?_ ?_
      | refine LeO.bind ?_ (fun _ => ?_)
mutual
def text_Unquote.j0 : Nat → ByteArray → Bool → Option (List Int × Int)
  | 0, _, _ => none
  | k + 1, x0, x25 => if x25 = true then (some (([] : List Int), 66)) else (if 1 ≤ (wrap64 ((x0.size : Int) - 1)) then (if (wrap64 ((x0.size : Int) - 1)) ≤ (x0.size : Int) then (if 0 ≤ ((x0.extract 1 ((wrap64 ((x0.size : Int) - 1)) : Int).toNat).size : Int) then (if (((x0.extract 1 ((wrap64 ((x0.size : Int) - 1)) : Int).toNat).size : Int) : Int).toNat ≤ 281474976710656 then (text_Unquote.l0 k (x0.extract 1 ((wrap64 ((x0.size : Int) - 1)) : Int).toNat) (([] : List Int))) else (none)) else (none)) else (none)) else (none))
def text_Unquote.l0 : Nat → ByteArray → List Int → Option (List Int × Int)
  | 0, _, _ => none
  | k + 1, x0, x4 => if x0.toList = ([] : List UInt8) then (some (x4, 0)) else (if 0 < (x0.size : Int) then ((text_itself.f (bt x0 0)).bind fun t217 => (if t217 = true then (if x4.length < 140737488355328 then (if 1 ≤ (x0.size : Int) then (text_Unquote.l0 k (x0.extract 1 x0.size) (x4 ++ [bt x0 0])) else (none)) else (none)) else (if (x0.size : Int) < 4 then (text_Unquote.j2 k x0 x4 true) else (if 0 ≤ 2 then (if 2 ≤ (x0.size : Int) then (text_Unquote.j2 k x0 x4 ((x0.extract 0 2).toList != ([92, 120] : List UInt8))) else (none)) else (none))))) else (none))
def text_Unquote.j2 : Nat → ByteArray → List Int → Bool → Option (List Int × Int)
  | 0, _, _, _ => none
  | k + 1, x0, x4, x53 => if x53 = true then (some (([] : List Int), 66)) else (if 2 ≤ 4 then (if 4 ≤ (x0.size : Int) then ((text_DecodeHex.f k (x0.extract 2 4)).bind fun bt221 => (if bt221.2 = 0 then (if 0 < (bt221.1.length : Int) then ((text_itself.f (rd bt221.1 0)).bind fun t226 => (if t226 = true then (some (([] : List Int), 66)) else (if x4.length < 140737488355328 then (text_Unquote.l0 k (x0.extract 4 x0.size) (x4 ++ [rd bt221.1 0])) else (none)))) else (none)) else (some (([] : List Int), 66)))) else (none)) else (none))
end
def text_Unquote.f (k : Nat) (a0 : ByteArray) : Option (List Int × Int) := if (a0.size : Int) > 1048576 then (some (([] : List Int), 2)) else (if (a0.size : Int) < 2 then (text_Unquote.j0 k a0 true) else (if 0 < (a0.size : Int) then (if (bt a0 0) = 34 then (if 0 ≤ (wrap64 ((a0.size : Int) - 1)) then (if (wrap64 ((a0.size : Int) - 1)) < (a0.size : Int) then (text_Unquote.j0 k a0 ((bt a0 (wrap64 ((a0.size : Int) - 1))) != 34)) else (none)) else (none)) else (text_Unquote.j0 k a0 true)) else (none)))
theorem text_Unquote.mono_l : ∀ k, (∀ y0 y1, LeO (text_Unquote.j0 k y0 y1) (text_Unquote.j0 (k + 1) y0 y1)) ∧ (∀ y0 y1, LeO (text_Unquote.l0 k y0 y1) (text_Unquote.l0 (k + 1) y0 y1)) ∧ (∀ y0 y1 y2, LeO (text_Unquote.j2 k y0 y1 y2) (text_Unquote.j2 (k + 1) y0 y1 y2))
  | 0 => ⟨fun _ _ r h => by simp [text_Unquote.j0] at h, fun _ _ r h => by simp [text_Unquote.l0] at h, fun _ _ _ r h => by simp [text_Unquote.j2] at h⟩
  | k + 1 => by
    obtain ⟨ih0, ih1, ih2⟩ := text_Unquote.mono_l k
    refine ⟨?_, ?_, ?_⟩
    · intro y0 y1
      unfold text_Unquote.j0
      repeat' first
      | (with_reducible exact ih0 _ _)
      | (with_reducible exact ih1 _ _)
      | (with_reducible exact ih2 _ _ _)
      | (with_reducible exact text_DecodeHex.mono _ _)
      | (with_reducible exact LeO.refl _)
      | (with_reducible exact LeO.none _)
      | (with_reducible refine LeO.ite ?_ ?_)
      | (with_reducible refine LeO.bind ?_ (fun _ => ?_))
      | exact ih0 _ _
      | exact ih1 _ _
      | exact ih2 _ _ _
      | exact text_DecodeHex.mono _ _
      | exact LeO.none _
      | refine LeO.ite ?_ ?_
      | refine LeO.bind ?_ (fun _ => ?_)
    · intro y0 y1
      unfold text_Unquote.l0
      repeat' first
      | (with_reducible exact ih0 _ _)
      | (with_reducible exact ih1 _ _)
      | (with_reducible exact ih2 _ _ _)
      | (with_reducible exact text_DecodeHex.mono _ _)
      | (with_reducible exact LeO.refl _)
      | (with_reducible exact LeO.none _)
      | (with_reducible refine LeO.ite ?_ ?_)
      | (with_reducible refine LeO.bind ?_ (fun _ => ?_))
      | exact ih0 _ _
      | exact ih1 _ _
      | exact ih2 _ _ _
      | exact text_DecodeHex.mono _ _
      | exact LeO.none _
      | refine LeO.ite ?_ ?_
      | refine LeO.bind ?_ (fun _ => ?_)
    · intro y0 y1 y2
      unfold text_Unquote.j2
      repeat' first
      | (with_reducible exact ih0 _ _)
      | (with_reducible exact ih1 _ _)
      | (with_reducible exact ih2 _ _ _)
      | (with_reducible exact text_DecodeHex.mono _ _)
      | (with_reducible exact LeO.refl _)
      | (with_reducible exact LeO.none _)
      | (with_reducible refine LeO.ite ?_ ?_)
      | (with_reducible refine LeO.bind ?_ (fun _ => ?_))
      | exact ih0 _ _
      | exact ih1 _ _
      | exact ih2 _ _ _
      | exact text_DecodeHex.mono _ _
      | exact LeO.none _
      | refine LeO.ite ?_ ?_
      | refine LeO.bind ?_ (fun _ => ?_)
theorem text_Unquote.mono : ∀ a0 k, LeO (text_Unquote.f k a0) (text_Unquote.f (k + 1) a0) := by
  intro a0 k
  obtain ⟨ih0, ih1, ih2⟩ := text_Unquote.mono_l k
  unfold text_Unquote.f
  repeat' first
      | (with_reducible exact ih0 _ _)
      | (with_reducible exact ih1 _ _)
      | (with_reducible exact ih2 _ _ _)
      | (with_reducible exact text_DecodeHex.mono _ _)
      | (with_reducible exact LeO.refl _)
      | (with_reducible exact LeO.none _)
      | (with_reducible refine LeO.ite ?_ ?_)
      | (with_reducible refine LeO.bind ?_ (fun _ => ?_))
      | exact ih0 _ _
      | exact ih1 _ _
      | exact ih2 _ _ _
      | exact text_DecodeHex.mono _ _
      | exact LeO.none _
      | refine LeO.ite ?_ ?_
      | refine LeO.bind ?_ (fun _ => ?_)
mutual
def ledgerref06_bits.l0 : Nat → List Int → List Int → Int → Option (List Int)
  | 0, _, _, _ => none
  | k + 1, x0, x3, x4 => if x4 < (x0.length : Int) then (ledgerref06_bits.l1 k x0 x3 x4 7) else (some x3)
def ledgerref06_bits.l1 : Nat → List Int → List Int → Int → Int → Option (List Int)
  | 0, _, _, _, _ => none
  | k + 1, x0, x3, x4, x5 => if x5 ≥ 0 then (if 0 ≤ x4 then (if x4 < (x0.length : Int) then (if 0 ≤ (IntKind.u64.wrap (x5)) then (if x3.length < 17592186044416 then (ledgerref06_bits.l1 k x0 (x3 ++ [Int.tmod (wrap64 (shr .u8 (rd x0 x4) (IntKind.u64.wrap (x5)))) 2]) x4 (wrap64 (x5 - 1))) else (none)) else (none)) else (none)) else (none)) else (ledgerref06_bits.l0 k x0 x3 (wrap64 (x4 + 1)))
end
def ledgerref06_bits.f (k : Nat) (l0 : List Int) : Option (List Int) := ledgerref06_bits.l0 k l0 ([] : List Int) 0
theorem ledgerref06_bits.mono_l : ∀ k, (∀ y0 y1 y2, LeO (ledgerref06_bits.l0 k y0 y1 y2) (ledgerref06_bits.l0 (k + 1) y0 y1 y2)) ∧ (∀ y0 y1 y2 y3, LeO (ledgerref06_bits.l1 k y0 y1 y2 y3) (ledgerref06_bits.l1 (k + 1) y0 y1 y2 y3))
  | 0 => ⟨fun _ _ _ r h => by simp [ledgerref06_bits.l0] at h, fun _ _ _ _ r h => by simp [ledgerref06_bits.l1] at h⟩
  | k + 1 => by
    obtain ⟨ih0, ih1⟩ := ledgerref06_bits.mono_l k
    refine ⟨?_, ?_⟩
    · intro y0 y1 y2
      unfold ledgerref06_bits.l0
      repeat' first
      | (with_reducible exact ih0 _ _ _)
      | (with_reducible exact ih1 _ _ _ _)
      | (with_reducible exact LeO.refl _)
      | (with_reducible exact LeO.none _)
      | (with_reducible refine LeO.ite ?_ ?_)
      | (with_reducible refine LeO.bind ?_ (fun _ => ?_))
      | exact ih0 _ _ _
      | exact ih1 _ _ _ _
      | exact LeO.none _
      | refine LeO.ite ?_ ?_
      | refine LeO.bind ?_ (fun _ => ?_)
    · intro y0 y1 y2 y3
      unfold ledgerref06_bits.l1
      repeat' first
      | (with_reducible exact ih0 _ _ _)
      | (with_reducible exact ih1 _ _ _ _)
      | (with_reducible exact LeO.refl _)
      | (with_reducible exact LeO.none _)
      | (with_reducible refine LeO.ite ?_ ?_)
      | (with_reducible refine LeO.bind ?_ (fun _ => ?_))
      | exact ih0 _ _ _
      | exact ih1 _ _ _ _
      | exact LeO.none _
      | refine LeO.ite ?_ ?_
      | refine LeO.bind ?_ (fun _ => ?_)
theorem ledgerref06_bits.mono : ∀ a0 k, LeO (ledgerref06_bits.f k a0) (ledgerref06_bits.f (k + 1) a0) := by
  intro a0 k
  obtain ⟨ih0, ih1⟩ := ledgerref06_bits.mono_l k
  unfold ledgerref06_bits.f
  repeat' first
      | (with_reducible exact ih0 _ _ _)
      | (with_reducible exact ih1 _ _ _ _)
      | (with_reducible exact LeO.refl _)
      | (with_reducible exact LeO.none _)
      | (with_reducible refine LeO.ite ?_ ?_)
      | (with_reducible refine LeO.bind ?_ (fun _ => ?_))
      | exact ih0 _ _ _
      | exact ih1 _ _ _ _
      | exact LeO.none _
      | refine LeO.ite ?_ ?_
      | refine LeO.bind ?_ (fun _ => ?_)
mutual
def ledgerref06_EncodeBase64.l0 : Nat → List Int → Option (ByteArray)
  | 0, _ => none
  | k + 1, x3 => if ((x3.length : Int) % 6) = 0 then (ledgerref06_EncodeBase64.l1 k x3 ([] : List Int) 0) else (if x3.length < 17592186044416 then (ledgerref06_EncodeBase64.l0 k (x3 ++ [0])) else (none))
def ledgerref06_EncodeBase64.l1 : Nat → List Int → List Int → Int → Option (ByteArray)
  | 0, _, _, _ => none
  | k + 1, x3, x4, x5 => if x5 < (x3.length : Int) then (ledgerref06_EncodeBase64.l2 k x3 x4 x5 0 0) else (ledgerref06_EncodeBase64.l3 k x4)
def ledgerref06_EncodeBase64.l2 : Nat → List Int → List Int → Int → Int → Int → Option (ByteArray)
  | 0, _, _, _, _, _ => none
  | k + 1, x3, x4, x5, x6, x7 => if x7 < 6 then (if 0 ≤ (wrap64 (x5 + x7)) then (if (wrap64 (x5 + x7)) < (x3.length : Int) then (ledgerref06_EncodeBase64.l2 k x3 x4 x5 (wrap64 ((wrap64 (2 * x6)) + (rd x3 (wrap64 (x5 + x7))))) (wrap64 (x7 + 1))) else (none)) else (none)) else (if 0 ≤ x6 then (if x6 < 64 then (if x4.length < 140737488355328 then (ledgerref06_EncodeBase64.l1 k x3 (x4 ++ [bt (⟨#[65, 66, 67, 68, 69, 70, 71, 72, 73, 74, 75, 76, 77, 78, 79, 80, 81, 82, 83, 84, 85, 86, 87, 88, 89, 90, 97, 98, 99, 100, 101, 102, 103, 104, 105, 106, 107, 108, 109, 110, 111, 112, 113, 114, 115, 116, 117, 118, 119, 120, 121, 122, 48, 49, 50, 51, 52, 53, 54, 55, 56, 57, 43, 47]⟩ : ByteArray) x6]) (wrap64 (x5 + 6))) else (none)) else (none)) else (none))
def ledgerref06_EncodeBase64.l3 : Nat → List Int → Option (ByteArray)
  | 0, _ => none
  | k + 1, x4 => if ((x4.length : Int) % 4) = 0 then (some (strOfNums x4)) else (if x4.length < 140737488355328 then (ledgerref06_EncodeBase64.l3 k (x4 ++ [61])) else (none))
end
def ledgerref06_EncodeBase64.f (k : Nat) (l0 : List Int) : Option (ByteArray) := (ledgerref06_bits.f k l0).bind fun t235 => (ledgerref06_EncodeBase64.l0 k t235)
theorem ledgerref06_EncodeBase64.mono_l : ∀ k, (∀ y0, LeO (ledgerref06_EncodeBase64.l0 k y0) (ledgerref06_EncodeBase64.l0 (k + 1) y0)) ∧ (∀ y0 y1 y2, LeO (ledgerref06_EncodeBase64.l1 k y0 y1 y2) (ledgerref06_EncodeBase64.l1 (k + 1) y0 y1 y2)) ∧ (∀ y0 y1 y2 y3 y4, LeO (ledgerref06_EncodeBase64.l2 k y0 y1 y2 y3 y4) (ledgerref06_EncodeBase64.l2 (k + 1) y0 y1 y2 y3 y4)) ∧ (∀ y0, LeO (ledgerref06_EncodeBase64.l3 k y0) (ledgerref06_EncodeBase64.l3 (k + 1) y0))
  | 0 => ⟨fun _ r h => by simp [ledgerref06_EncodeBase64.l0] at h, fun _ _ _ r h => by simp [ledgerref06_EncodeBase64.l1] at h, fun _ _ _ _ _ r h => by simp [ledgerref06_EncodeBase64.l2] at h, fun _ r h => by simp [ledgerref06_EncodeBase64.l3] at h⟩
  | k + 1 => by
    obtain ⟨ih0, ih1, ih2, ih3⟩ := ledgerref06_EncodeBase64.mono_l k
    refine ⟨?_, ?_, ?_, ?_⟩
    · intro y0
      unfold ledgerref06_EncodeBase64.l0
      repeat' first
      | (with_reducible exact ih0 _)
      | (with_reducible exact ih1 _ _ _)
      | (with_reducible exact ih2 _ _ _ _ _)
      | (with_reducible exact ih3 _)
      | (with_reducible exact ledgerref06_bits.mono _ _)
      | (with_reducible exact LeO.refl _)
      | (with_reducible exact LeO.none _)
      | (with_reducible refine LeO.ite ?_ ?_)
      | (with_reducible refine LeO.bind ?_ (fun _ => ?_))
      | exact ih0 _
      | exact ih1 _ _ _
      | exact ih2 _ _ _ _ _
      | exact ih3 _
      | exact ledgerref06_bits.mono _ _
      | exact LeO.none _
      | refine LeO.ite ?_ ?_
      | refine LeO.bind ?_ (fun _ => ?_)
    · intro y0 y1 y2
      unfold ledgerref06_EncodeBase64.l1
      repeat' first
      | (with_reducible exact ih0 _)
      | (with_reducible exact ih1 _ _ _)
      | (with_reducible exact ih2 _ _ _ _ _)
      | (with_reducible exact ih3 _)
      | (with_reducible exact ledgerref06_bits.mono _ _)
      | (with_reducible exact LeO.refl _)
      | (with_reducible exact LeO.none _)
      | (with_reducible refine LeO.ite ?_ ?_)
      | (with_reducible refine LeO.bind ?_ (fun _ => ?_))
      | exact ih0 _
      | exact ih1 _ _ _
      | exact ih2 _ _ _ _ _
      | exact ih3 _
      | exact ledgerref06_bits.mono _ _
      | exact LeO.none _
      | refine LeO.ite ?_ ?_
      | refine LeO.bind ?_ (fun _ => ?_)
    · intro y0 y1 y2 y3 y4
      unfold ledgerref06_EncodeBase64.l2
      repeat' first
      | (with_reducible exact ih0 _)
      | (with_reducible exact ih1 _ _ _)
      | (with_reducible exact ih2 _ _ _ _ _)
      | (with_reducible exact ih3 _)
      | (with_reducible exact ledgerref06_bits.mono _ _)
      | (with_reducible exact LeO.refl _)
      | (with_reducible exact LeO.none _)
      | (with_reducible refine LeO.ite ?_ ?_)
      | (with_reducible refine LeO.bind ?_ (fun _ => ?_))
      | exact ih0 _
      | exact ih1 _ _ _
      | exact ih2 _ _ _ _ _
      | exact ih3 _
      | exact ledgerref06_bits.mono _ _
      | exact LeO.none _
      | refine LeO.ite ?_ ?_
      | refine LeO.bind ?_ (fun _ => ?_)
    · intro y0
      unfold ledgerref06_EncodeBase64.l3
      repeat' first
      | (with_reducible exact ih0 _)
      | (with_reducible exact ih1 _ _ _)
      | (with_reducible exact ih2 _ _ _ _ _)
      | (with_reducible exact ih3 _)
      | (with_reducible exact ledgerref06_bits.mono _ _)
      | (with_reducible exact LeO.refl _)
      | (with_reducible exact LeO.none _)
      | (with_reducible refine LeO.ite ?_ ?_)
      | (with_reducible refine LeO.bind ?_ (fun _ => ?_))
      | exact ih0 _
      | exact ih1 _ _ _
      | exact ih2 _ _ _ _ _
      | exact ih3 _
      | exact ledgerref06_bits.mono _ _
      | exact LeO.none _
      | refine LeO.ite ?_ ?_
      | refine LeO.bind ?_ (fun _ => ?_)
theorem ledgerref06_EncodeBase64.mono : ∀ a0 k, LeO (ledgerref06_EncodeBase64.f k a0) (ledgerref06_EncodeBase64.f (k + 1) a0) := by
  intro a0 k
  obtain ⟨ih0, ih1, ih2, ih3⟩ := ledgerref06_EncodeBase64.mono_l k
  unfold ledgerref06_EncodeBase64.f
  repeat' first
      | (with_reducible exact ih0 _)
      | (with_reducible exact ih1 _ _ _)
      | (with_reducible exact ih2 _ _ _ _ _)
      | (with_reducible exact ih3 _)
      | (with_reducible exact ledgerref06_bits.mono _ _)
      | (with_reducible exact LeO.refl _)
      | (with_reducible exact LeO.none _)
      | (with_reducible refine LeO.ite ?_ ?_)
      | (with_reducible refine LeO.bind ?_ (fun _ => ?_))
      | exact ih0 _
      | exact ih1 _ _ _
      | exact ih2 _ _ _ _ _
      | exact ih3 _
      | exact ledgerref06_bits.mono _ _
      | exact LeO.none _
      | refine LeO.ite ?_ ?_
      | refine LeO.bind ?_ (fun _ => ?_)
def ledgerref06_place.l0 : Nat → ByteArray → Int → Int → Option (Int)
  | 0, _, _, _ => none
  | k + 1, x0, x1, x5 => if x5 < (x0.size : Int) then (if 0 ≤ x5 then (if (bt x0 x5) = x1 then (some x5) else (ledgerref06_place.l0 k x0 x1 (wrap64 (x5 + 1)))) else (none)) else (some (-1))
def ledgerref06_place.f (k : Nat) (a0 : ByteArray) (a1 : Int) : Option (Int) := ledgerref06_place.l0 k a0 a1 0
theorem ledgerref06_place.mono_l : ∀ k, (∀ y0 y1 y2, LeO (ledgerref06_place.l0 k y0 y1 y2) (ledgerref06_place.l0 (k + 1) y0 y1 y2))
  | 0 => fun _ _ _ r h => by simp [ledgerref06_place.l0] at h
  | k + 1 => by
    have ih0 := ledgerref06_place.mono_l k
    · intro y0 y1 y2
      unfold ledgerref06_place.l0
      repeat' first
      | (with_reducible exact ih0 _ _ _)
      | (with_reducible exact LeO.refl _)
      | (with_reducible exact LeO.none _)
      | (with_reducible refine LeO.ite ?_ ?_)
      | (with_reducible refine LeO.bind ?_ (fun _ => ?_))
      | exact ih0 _ _ _
      | exact LeO.none _
      | refine LeO.ite ?_ ?_
      | refine LeO.bind ?_ (fun _ => ?_)
theorem ledgerref06_place.mono : ∀ a0 a1 k, LeO (ledgerref06_place.f k a0 a1) (ledgerref06_place.f (k + 1) a0 a1) := by
  intro a0 a1 k
  have ih0 := ledgerref06_place.mono_l k
  unfold ledgerref06_place.f
  repeat' first
      | (with_reducible exact ih0 _ _ _)
      | (with_reducible exact LeO.refl _)
      | (with_reducible exact LeO.none _)
      | (with_reducible refine LeO.ite ?_ ?_)
      | (with_reducible refine LeO.bind ?_ (fun _ => ?_))
      | exact ih0 _ _ _
      | exact LeO.none _
      | refine LeO.ite ?_ ?_
      | refine LeO.bind ?_ (fun _ => ?_)
def ledgerref06_DecodeBase64.l0 : Nat → ByteArray → List Int → Int → Int → Int → Option (List Int × Int)
  | 0, _, _, _, _, _ => none
  | k + 1, x0, x4, x5, x6, x7 => if x7 < (x0.size : Int) then (if 0 ≤ x7 then ((ledgerref06_place.f k (⟨#[65, 66, 67, 68, 69, 70, 71, 72, 73, 74, 75, 76, 77, 78, 79, 80, 81, 82, 83, 84, 85, 86, 87, 88, 89, 90, 97, 98, 99, 100, 101, 102, 103, 104, 105, 106, 107, 108, 109, 110, 111, 112, 113, 114, 115, 116, 117, 118, 119, 120, 121, 122, 48, 49, 50, 51, 52, 53, 54, 55, 56, 57, 43, 47]⟩ : ByteArray) (bt x0 x7)).bind fun t249 => (if t249 < 0 then (ledgerref06_DecodeBase64.l0 k x0 x4 x5 x6 (wrap64 (x7 + 1))) else (if (wrap64 (x5 + 6)) ≥ 8 then (if 0 ≤ (IntKind.u64.wrap (wrap64 ((wrap64 (x5 + 6)) - 8))) then (if x4.length < 140737488355328 then (ledgerref06_DecodeBase64.l0 k x0 (x4 ++ [(shr .i64 (wrap64 ((wrap64 ((Int.tmod x6 256) * 64)) + t249)) (IntKind.u64.wrap (wrap64 ((wrap64 (x5 + 6)) - 8)))) % 256]) (wrap64 ((wrap64 (x5 + 6)) - 8)) (wrap64 ((wrap64 ((Int.tmod x6 256) * 64)) + t249)) (wrap64 (x7 + 1))) else (none)) else (none)) else (ledgerref06_DecodeBase64.l0 k x0 x4 (wrap64 (x5 + 6)) (wrap64 ((wrap64 ((Int.tmod x6 256) * 64)) + t249)) (wrap64 (x7 + 1)))))) else (none)) else ((ledgerref06_EncodeBase64.f k x4).bind fun t248 => (if t248.toList = x0.toList then (some (x4, 0)) else (some (([] : List Int), 60))))
def ledgerref06_DecodeBase64.f (k : Nat) (a0 : ByteArray) : Option (List Int × Int) := if (a0.size : Int) > 1048576 then (some (([] : List Int), 2)) else (ledgerref06_DecodeBase64.l0 k a0 ([] : List Int) 0 0 0)
theorem ledgerref06_DecodeBase64.mono_l : ∀ k, (∀ y0 y1 y2 y3 y4, LeO (ledgerref06_DecodeBase64.l0 k y0 y1 y2 y3 y4) (ledgerref06_DecodeBase64.l0 (k + 1) y0 y1 y2 y3 y4))
  | 0 => fun _ _ _ _ _ r h => by simp [ledgerref06_DecodeBase64.l0] at h
  | k + 1 => by
    have ih0 := ledgerref06_DecodeBase64.mono_l k
    · intro y0 y1 y2 y3 y4
      unfold ledgerref06_DecodeBase64.l0
      repeat' first
      | (with_reducible exact ih0 _ _ _ _ _)
      | (with_reducible exact ledgerref06_EncodeBase64.mono _ _)
      | (with_reducible exact ledgerref06_place.mono _ _ _)
      | (with_reducible exact LeO.refl _)
      | (with_reducible exact LeO.none _)
      | (with_reducible refine LeO.ite ?_ ?_)
      | (with_reducible refine LeO.bind ?_ (fun _ => ?_))
      | exact ih0 _ _ _ _ _
      | exact ledgerref06_EncodeBase64.mono _ _
      | exact ledgerref06_place.mono _ _ _
      | exact LeO.none _
      | refine LeO.ite ?_ ?_
      | refine LeO.bind ?_ (fun _ => ?_)
theorem ledgerref06_DecodeBase64.mono : ∀ a0 k, LeO (ledgerref06_DecodeBase64.f k a0) (ledgerref06_DecodeBase64.f (k + 1) a0) := by
  intro a0 k
  have ih0 := ledgerref06_DecodeBase64.mono_l k
  unfold ledgerref06_DecodeBase64.f
  repeat' first
      | (with_reducible exact ih0 _ _ _ _ _)
      | (with_reducible exact ledgerref06_EncodeBase64.mono _ _)
      | (with_reducible exact ledgerref06_place.mono _ _ _)
      | (with_reducible exact LeO.refl _)
      | (with_reducible exact LeO.none _)
      | (with_reducible refine LeO.ite ?_ ?_)
      | (with_reducible refine LeO.bind ?_ (fun _ => ?_))
      | exact ih0 _ _ _ _ _
      | exact ledgerref06_EncodeBase64.mono _ _
      | exact ledgerref06_place.mono _ _ _
      | exact LeO.none _
      | refine LeO.ite ?_ ?_
      | refine LeO.bind ?_ (fun _ => ?_)
def ledgerlaw06_sameBytes.f (l0 : List Int) (l1 : List Int) : Option (Bool) := some ((strOfNums l0).toList == (strOfNums l1).toList)
def ledgerref06_DecodeHex.l0 : Nat → ByteArray → List Int → Int → Option (List Int × Int)
  | 0, _, _, _ => none
  | k + 1, x0, x4, x5 => if (wrap64 (x5 + 1)) < (x0.size : Int) then (if 0 ≤ x5 then (if x5 < (x0.size : Int) then ((ledgerref06_place.f k (⟨#[48, 49, 50, 51, 52, 53, 54, 55, 56, 57, 97, 98, 99, 100, 101, 102]⟩ : ByteArray) (bt x0 x5)).bind fun t253 => (if 0 ≤ (wrap64 (x5 + 1)) then ((ledgerref06_place.f k (⟨#[48, 49, 50, 51, 52, 53, 54, 55, 56, 57, 97, 98, 99, 100, 101, 102]⟩ : ByteArray) (bt x0 (wrap64 (x5 + 1)))).bind fun t254 => (if t253 < 0 then (some (([] : List Int), 61)) else (if t254 < 0 then (some (([] : List Int), 61)) else (if x4.length < 140737488355328 then (ledgerref06_DecodeHex.l0 k x0 (x4 ++ [(wrap64 ((wrap64 (16 * t253)) + t254)) % 256]) (wrap64 (x5 + 2))) else (none))))) else (none))) else (none)) else (none)) else (some (x4, 0))
def ledgerref06_DecodeHex.f (k : Nat) (a0 : ByteArray) : Option (List Int × Int) := if (a0.size : Int) > 1048576 then (some (([] : List Int), 2)) else (if ((a0.size : Int) % 2) = 1 then (some (([] : List Int), 61)) else (ledgerref06_DecodeHex.l0 k a0 ([] : List Int) 0))
theorem ledgerref06_DecodeHex.mono_l : ∀ k, (∀ y0 y1 y2, LeO (ledgerref06_DecodeHex.l0 k y0 y1 y2) (ledgerref06_DecodeHex.l0 (k + 1) y0 y1 y2))
  | 0 => fun _ _ _ r h => by simp [ledgerref06_DecodeHex.l0] at h
  | k + 1 => by
    have ih0 := ledgerref06_DecodeHex.mono_l k
    · intro y0 y1 y2
      unfold ledgerref06_DecodeHex.l0
      repeat' first
      | (with_reducible exact ih0 _ _ _)
      | (with_reducible exact ledgerref06_place.mono _ _ _)
      | (with_reducible exact LeO.refl _)
      | (with_reducible exact LeO.none _)
      | (with_reducible refine LeO.ite ?_ ?_)
      | (with_reducible refine LeO.bind ?_ (fun _ => ?_))
      | exact ih0 _ _ _
      | exact ledgerref06_place.mono _ _ _
      | exact LeO.none _
      | refine LeO.ite ?_ ?_
      | refine LeO.bind ?_ (fun _ => ?_)
theorem ledgerref06_DecodeHex.mono : ∀ a0 k, LeO (ledgerref06_DecodeHex.f k a0) (ledgerref06_DecodeHex.f (k + 1) a0) := by
  intro a0 k
  have ih0 := ledgerref06_DecodeHex.mono_l k
  unfold ledgerref06_DecodeHex.f
  repeat' first
      | (with_reducible exact ih0 _ _ _)
      | (with_reducible exact ledgerref06_place.mono _ _ _)
      | (with_reducible exact LeO.refl _)
      | (with_reducible exact LeO.none _)
      | (with_reducible refine LeO.ite ?_ ?_)
      | (with_reducible refine LeO.bind ?_ (fun _ => ?_))
      | exact ih0 _ _ _
      | exact ledgerref06_place.mono _ _ _
      | exact LeO.none _
      | refine LeO.ite ?_ ?_
      | refine LeO.bind ?_ (fun _ => ?_)
def ledgerref06_Quote.l0 : Nat → List Int → List Int → Int → Option (ByteArray)
  | 0, _, _, _ => none
  | k + 1, x0, x3, x4 => if x4 < (x0.length : Int) then (if 0 ≤ x4 then (if (rd x0 x4) < 32 then (if x3.length < 140737488355328 then ((some (x3 ++ [92] : List Int)).bind fun y262 => (if y262.length < 140737488355328 then ((some (y262 ++ [120] : List Int)).bind fun y265 => (if 0 ≤ ((Int.tdiv (rd x0 x4) 16) % 256) then (if ((Int.tdiv (rd x0 x4) 16) % 256) < 16 then (if y265.length < 140737488355328 then ((some (y265 ++ [bt (⟨#[48, 49, 50, 51, 52, 53, 54, 55, 56, 57, 97, 98, 99, 100, 101, 102]⟩ : ByteArray) ((Int.tdiv (rd x0 x4) 16) % 256)] : List Int)).bind fun y268 => (if 0 ≤ (Int.tmod (rd x0 x4) 16) then (if (Int.tmod (rd x0 x4) 16) < 16 then (if y268.length < 140737488355328 then (ledgerref06_Quote.l0 k x0 (y268 ++ [bt (⟨#[48, 49, 50, 51, 52, 53, 54, 55, 56, 57, 97, 98, 99, 100, 101, 102]⟩ : ByteArray) (Int.tmod (rd x0 x4) 16)]) (wrap64 (x4 + 1))) else (none)) else (none)) else (none))) else (none)) else (none)) else (none))) else (none))) else (none)) else (if (rd x0 x4) > 126 then (if x3.length < 140737488355328 then ((some (x3 ++ [92] : List Int)).bind fun y274 => (if y274.length < 140737488355328 then ((some (y274 ++ [120] : List Int)).bind fun y277 => (if 0 ≤ ((Int.tdiv (rd x0 x4) 16) % 256) then (if ((Int.tdiv (rd x0 x4) 16) % 256) < 16 then (if y277.length < 140737488355328 then ((some (y277 ++ [bt (⟨#[48, 49, 50, 51, 52, 53, 54, 55, 56, 57, 97, 98, 99, 100, 101, 102]⟩ : ByteArray) ((Int.tdiv (rd x0 x4) 16) % 256)] : List Int)).bind fun y280 => (if 0 ≤ (Int.tmod (rd x0 x4) 16) then (if (Int.tmod (rd x0 x4) 16) < 16 then (if y280.length < 140737488355328 then (ledgerref06_Quote.l0 k x0 (y280 ++ [bt (⟨#[48, 49, 50, 51, 52, 53, 54, 55, 56, 57, 97, 98, 99, 100, 101, 102]⟩ : ByteArray) (Int.tmod (rd x0 x4) 16)]) (wrap64 (x4 + 1))) else (none)) else (none)) else (none))) else (none)) else (none)) else (none))) else (none))) else (none)) else (if (rd x0 x4) = 34 then (if x3.length < 140737488355328 then ((some (x3 ++ [92] : List Int)).bind fun y286 => (if y286.length < 140737488355328 then ((some (y286 ++ [120] : List Int)).bind fun y289 => (if 0 ≤ ((Int.tdiv (rd x0 x4) 16) % 256) then (if ((Int.tdiv (rd x0 x4) 16) % 256) < 16 then (if y289.length < 140737488355328 then ((some (y289 ++ [bt (⟨#[48, 49, 50, 51, 52, 53, 54, 55, 56, 57, 97, 98, 99, 100, 101, 102]⟩ : ByteArray) ((Int.tdiv (rd x0 x4) 16) % 256)] : List Int)).bind fun y292 => (if 0 ≤ (Int.tmod (rd x0 x4) 16) then (if (Int.tmod (rd x0 x4) 16) < 16 then (if y292.length < 140737488355328 then (ledgerref06_Quote.l0 k x0 (y292 ++ [bt (⟨#[48, 49, 50, 51, 52, 53, 54, 55, 56, 57, 97, 98, 99, 100, 101, 102]⟩ : ByteArray) (Int.tmod (rd x0 x4) 16)]) (wrap64 (x4 + 1))) else (none)) else (none)) else (none))) else (none)) else (none)) else (none))) else (none))) else (none)) else (if (rd x0 x4) = 92 then (if x3.length < 140737488355328 then ((some (x3 ++ [92] : List Int)).bind fun y298 => (if y298.length < 140737488355328 then ((some (y298 ++ [120] : List Int)).bind fun y301 => (if 0 ≤ ((Int.tdiv (rd x0 x4) 16) % 256) then (if ((Int.tdiv (rd x0 x4) 16) % 256) < 16 then (if y301.length < 140737488355328 then ((some (y301 ++ [bt (⟨#[48, 49, 50, 51, 52, 53, 54, 55, 56, 57, 97, 98, 99, 100, 101, 102]⟩ : ByteArray) ((Int.tdiv (rd x0 x4) 16) % 256)] : List Int)).bind fun y304 => (if 0 ≤ (Int.tmod (rd x0 x4) 16) then (if (Int.tmod (rd x0 x4) 16) < 16 then (if y304.length < 140737488355328 then (ledgerref06_Quote.l0 k x0 (y304 ++ [bt (⟨#[48, 49, 50, 51, 52, 53, 54, 55, 56, 57, 97, 98, 99, 100, 101, 102]⟩ : ByteArray) (Int.tmod (rd x0 x4) 16)]) (wrap64 (x4 + 1))) else (none)) else (none)) else (none))) else (none)) else (none)) else (none))) else (none))) else (none)) else (if x3.length < 140737488355328 then (ledgerref06_Quote.l0 k x0 (x3 ++ [rd x0 x4]) (wrap64 (x4 + 1))) else (none)))))) else (none)) else (if x3.length < 140737488355328 then (some (strOfNums (x3 ++ [34]))) else (none))
def ledgerref06_Quote.f (k : Nat) (l0 : List Int) : Option (ByteArray) := ledgerref06_Quote.l0 k l0 (([34] : List Int)) 0
theorem ledgerref06_Quote.mono_l : ∀ k, (∀ y0 y1 y2, LeO (ledgerref06_Quote.l0 k y0 y1 y2) (ledgerref06_Quote.l0 (k + 1) y0 y1 y2))
  | 0 => fun _ _ _ r h => by simp [ledgerref06_Quote.l0] at h
  | k + 1 => by
    have ih0 := ledgerref06_Quote.mono_l k
    · intro y0 y1 y2
      unfold ledgerref06_Quote.l0
      repeat' first
      | (with_reducible exact ih0 _ _ _)
      | (with_reducible exact LeO.refl _)
      | (with_reducible exact LeO.none _)
      | (with_reducible refine LeO.ite ?_ ?_)
      | (with_reducible refine LeO.bind ?_ (fun _ => ?_))
      | exact ih0 _ _ _
      | exact LeO.none _
      | refine LeO.ite ?_ ?_
      | refine LeO.bind ?_ (fun _ => ?_)
theorem ledgerref06_Quote.mono : ∀ a0 k, LeO (ledgerref06_Quote.f k a0) (ledgerref06_Quote.f (k + 1) a0) := by
  intro a0 k
  have ih0 := ledgerref06_Quote.mono_l k
  unfold ledgerref06_Quote.f
  repeat' first
      | (with_reducible exact ih0 _ _ _)
      | (with_reducible exact LeO.refl _)
      | (with_reducible exact LeO.none _)
      | (with_reducible refine LeO.ite ?_ ?_)
      | (with_reducible refine LeO.bind ?_ (fun _ => ?_))
      | exact ih0 _ _ _
      | exact LeO.none _
      | refine LeO.ite ?_ ?_
      | refine LeO.bind ?_ (fun _ => ?_)
mutual
def ledgerref06_Unquote.l0 : Nat → ByteArray → List Int → Int → Option (List Int × Int)
  | 0, _, _, _ => none
  | k + 1, x0, x4, x5 => if x5 < (wrap64 ((x0.size : Int) - 1)) then (if 0 ≤ x5 then (if x5 < (x0.size : Int) then (if (bt x0 x5) = 92 then (ledgerref06_Unquote.j1 k x0 x4 x5 (decide ((wrap64 (x5 + 3)) < (x0.size : Int)))) else (ledgerref06_Unquote.j1 k x0 x4 x5 false)) else (none)) else (none)) else ((ledgerref06_Quote.f k x4).bind fun t316 => (if t316.toList = x0.toList then (some (x4, 0)) else (some (([] : List Int), 66))))
def ledgerref06_Unquote.j1 : Nat → ByteArray → List Int → Int → Bool → Option (List Int × Int)
  | 0, _, _, _, _ => none
  | k + 1, x0, x4, x5, x27 => if x27 = true then (if 0 ≤ (wrap64 (x5 + 2)) then (if (wrap64 (x5 + 2)) < (x0.size : Int) then ((ledgerref06_place.f k (⟨#[48, 49, 50, 51, 52, 53, 54, 55, 56, 57, 97, 98, 99, 100, 101, 102]⟩ : ByteArray) (bt x0 (wrap64 (x5 + 2)))).bind fun t317 => (if 0 ≤ (wrap64 (x5 + 3)) then (if (wrap64 (x5 + 3)) < (x0.size : Int) then ((ledgerref06_place.f k (⟨#[48, 49, 50, 51, 52, 53, 54, 55, 56, 57, 97, 98, 99, 100, 101, 102]⟩ : ByteArray) (bt x0 (wrap64 (x5 + 3)))).bind fun t318 => (if t317 < 0 then (some (([] : List Int), 66)) else (if t318 < 0 then (some (([] : List Int), 66)) else (if x4.length < 140737488355328 then (ledgerref06_Unquote.l0 k x0 (x4 ++ [(wrap64 ((wrap64 (16 * t317)) + t318)) % 256]) (wrap64 (x5 + 4))) else (none))))) else (none)) else (none))) else (none)) else (none)) else (if 0 ≤ x5 then (if x5 < (x0.size : Int) then (if x4.length < 140737488355328 then (ledgerref06_Unquote.l0 k x0 (x4 ++ [bt x0 x5]) (wrap64 (x5 + 1))) else (none)) else (none)) else (none))
end
def ledgerref06_Unquote.f (k : Nat) (a0 : ByteArray) : Option (List Int × Int) := if (a0.size : Int) > 1048576 then (some (([] : List Int), 2)) else (ledgerref06_Unquote.l0 k a0 ([] : List Int) 1)
theorem ledgerref06_Unquote.mono_l : ∀ k, (∀ y0 y1 y2, LeO (ledgerref06_Unquote.l0 k y0 y1 y2) (ledgerref06_Unquote.l0 (k + 1) y0 y1 y2)) ∧ (∀ y0 y1 y2 y3, LeO (ledgerref06_Unquote.j1 k y0 y1 y2 y3) (ledgerref06_Unquote.j1 (k + 1) y0 y1 y2 y3))
  | 0 => ⟨fun _ _ _ r h => by simp [ledgerref06_Unquote.l0] at h, fun _ _ _ _ r h => by simp [ledgerref06_Unquote.j1] at h⟩
  | k + 1 => by
    obtain ⟨ih0, ih1⟩ := ledgerref06_Unquote.mono_l k
    refine ⟨?_, ?_⟩
    · intro y0 y1 y2
      unfold ledgerref06_Unquote.l0
      repeat' first
      | (with_reducible exact ih0 _ _ _)
      | (with_reducible exact ih1 _ _ _ _)
      | (with_reducible exact ledgerref06_Quote.mono _ _)
      | (with_reducible exact ledgerref06_place.mono _ _ _)
      | (with_reducible exact LeO.refl _)
      | (with_reducible exact LeO.none _)
      | (with_reducible refine LeO.ite ?_ ?_)
      | (with_reducible refine LeO.bind ?_ (fun _ => ?_))
      | exact ih0 _ _ _
      | exact ih1 _ _ _ _
      | exact ledgerref06_Quote.mono _ _
      | exact ledgerref06_place.mono _ _ _
      | exact LeO.none _
      | refine LeO.ite ?_ ?_
      | refine LeO.bind ?_ (fun _ => ?_)
    · intro y0 y1 y2 y3
      unfold ledgerref06_Unquote.j1
      repeat' first
      | (with_reducible exact ih0 _ _ _)
      | (with_reducible exact ih1 _ _ _ _)
      | (with_reducible exact ledgerref06_Quote.mono _ _)
      | (with_reducible exact ledgerref06_place.mono _ _ _)
      | (with_reducible exact LeO.refl _)
      | (with_reducible exact LeO.none _)
      | (with_reducible refine LeO.ite ?_ ?_)
      | (with_reducible refine LeO.bind ?_ (fun _ => ?_))
      | exact ih0 _ _ _
      | exact ih1 _ _ _ _
      | exact ledgerref06_Quote.mono _ _
      | exact ledgerref06_place.mono _ _ _
      | exact LeO.none _
      | refine LeO.ite ?_ ?_
      | refine LeO.bind ?_ (fun _ => ?_)
theorem ledgerref06_Unquote.mono : ∀ a0 k, LeO (ledgerref06_Unquote.f k a0) (ledgerref06_Unquote.f (k + 1) a0) := by
  intro a0 k
  obtain ⟨ih0, ih1⟩ := ledgerref06_Unquote.mono_l k
  unfold ledgerref06_Unquote.f
  repeat' first
      | (with_reducible exact ih0 _ _ _)
      | (with_reducible exact ih1 _ _ _ _)
      | (with_reducible exact ledgerref06_Quote.mono _ _)
      | (with_reducible exact ledgerref06_place.mono _ _ _)
      | (with_reducible exact LeO.refl _)
      | (with_reducible exact LeO.none _)
      | (with_reducible refine LeO.ite ?_ ?_)
      | (with_reducible refine LeO.bind ?_ (fun _ => ?_))
      | exact ih0 _ _ _
      | exact ih1 _ _ _ _
      | exact ledgerref06_Quote.mono _ _
      | exact ledgerref06_place.mono _ _ _
      | exact LeO.none _
      | refine LeO.ite ?_ ?_
      | refine LeO.bind ?_ (fun _ => ?_)
def ledgerlaw06_decodes.f (k : Nat) (a0_0 : Int) (a0_1 : ByteArray) (l0_2 : List Int) (a0_3 : Int) (a0_4 : Int) : Option (Bool) := if a0_0 = 2 then ((text_DecodeBase64.f k a0_1).bind fun bt326 => ((ledgerref06_DecodeBase64.f k a0_1).bind fun bt330 => ((ledgerlaw06_sameBytes.f bt326.1 bt330.1).bind fun t334 => (if t334 = true then (some (bt326.2 == bt330.2)) else (some false))))) else (if a0_0 = 4 then ((text_DecodeHex.f k a0_1).bind fun bt335 => ((ledgerref06_DecodeHex.f k a0_1).bind fun bt339 => ((ledgerlaw06_sameBytes.f bt335.1 bt339.1).bind fun t343 => (if t343 = true then (some (bt335.2 == bt339.2)) else (some false))))) else ((text_Unquote.f k a0_1).bind fun bt344 => ((ledgerref06_Unquote.f k a0_1).bind fun bt348 => ((ledgerlaw06_sameBytes.f bt344.1 bt348.1).bind fun t352 => (if t352 = true then (some (bt344.2 == bt348.2)) else (some false))))))
theorem ledgerlaw06_decodes.mono : ∀ a0 a1 a2 a3 a4 k, LeO (ledgerlaw06_decodes.f k a0 a1 a2 a3 a4) (ledgerlaw06_decodes.f (k + 1) a0 a1 a2 a3 a4) := by
  intro a0 a1 a2 a3 a4 k
  unfold ledgerlaw06_decodes.f
  repeat' first
      | (with_reducible exact ledgerref06_DecodeBase64.mono _ _)
      | (with_reducible exact ledgerref06_DecodeHex.mono _ _)
      | (with_reducible exact ledgerref06_Unquote.mono _ _)
      | (with_reducible exact text_DecodeBase64.mono _ _)
      | (with_reducible exact text_DecodeHex.mono _ _)
      | (with_reducible exact text_Unquote.mono _ _)
      | (with_reducible exact LeO.refl _)
      | (with_reducible exact LeO.none _)
      | (with_reducible refine LeO.ite ?_ ?_)
      | (with_reducible refine LeO.bind ?_ (fun _ => ?_))
      | exact ledgerref06_DecodeBase64.mono _ _
      | exact ledgerref06_DecodeHex.mono _ _
      | exact ledgerref06_Unquote.mono _ _
      | exact text_DecodeBase64.mono _ _
      | exact text_DecodeHex.mono _ _
      | exact text_Unquote.mono _ _
      | exact LeO.none _
      | refine LeO.ite ?_ ?_
      | refine LeO.bind ?_ (fun _ => ?_)
def ledgerlaw06_TextDecodes.f (k : Nat) (a0 : ByteArray) : Option (Bool) := (ledgerlaw06_decodes.f k 2 a0 ([] : List Int) 0 0).bind fun t353 => (if t353 = true then ((ledgerlaw06_decodes.f k 4 a0 ([] : List Int) 0 0).bind fun t354 => (if t354 = true then ((ledgerlaw06_decodes.f k 12 a0 ([] : List Int) 0 0).bind fun t355 => (if t355 = true then ((text_EncodeHex.f k (([165] : List Int))).bind fun t359 => (some (t359.toList == ([97, 53] : List UInt8)))) else (some false))) else (some false))) else (some false))
theorem ledgerlaw06_TextDecodes.mono : ∀ a0 k, LeO (ledgerlaw06_TextDecodes.f k a0) (ledgerlaw06_TextDecodes.f (k + 1) a0) := by
  intro a0 k
  unfold ledgerlaw06_TextDecodes.f
  repeat' first
      | (with_reducible exact ledgerlaw06_decodes.mono _ _ _ _ _ _)
      | (with_reducible exact text_EncodeHex.mono _ _)
      | (with_reducible exact LeO.refl _)
      | (with_reducible exact LeO.none _)
      | (with_reducible refine LeO.ite ?_ ?_)
      | (with_reducible refine LeO.bind ?_ (fun _ => ?_))
      | exact ledgerlaw06_decodes.mono _ _ _ _ _ _
      | exact text_EncodeHex.mono _ _
      | exact LeO.none _
      | refine LeO.ite ?_ ?_
      | refine LeO.bind ?_ (fun _ => ?_)
def ledgerlaw06_lent.l0 : Nat → List Int → Int → Option (List Int)
  | 0, _, _ => none
  | k + 1, x3, x4 => if x4 < 400 then (if x3.length < 140737488355328 then (ledgerlaw06_lent.l0 k (x3 ++ [165]) (wrap64 (x4 + 1))) else (none)) else (some x3)
def ledgerlaw06_lent.f (k : Nat) (l0 : List Int) : Option (List Int) := if ([] : List Int).length + l0.length < 140737488355328 then (ledgerlaw06_lent.l0 k (([] : List Int) ++ l0) 0) else (none)
theorem ledgerlaw06_lent.mono_l : ∀ k, (∀ y0 y1, LeO (ledgerlaw06_lent.l0 k y0 y1) (ledgerlaw06_lent.l0 (k + 1) y0 y1))
  | 0 => fun _ _ r h => by simp [ledgerlaw06_lent.l0] at h
  | k + 1 => by
    have ih0 := ledgerlaw06_lent.mono_l k
    · intro y0 y1
      unfold ledgerlaw06_lent.l0
      repeat' first
      | (with_reducible exact ih0 _ _)
      | (with_reducible exact LeO.refl _)
      | (with_reducible exact LeO.none _)
      | (with_reducible refine LeO.ite ?_ ?_)
      | (with_reducible refine LeO.bind ?_ (fun _ => ?_))
      | exact ih0 _ _
      | exact LeO.none _
      | refine LeO.ite ?_ ?_
      | refine LeO.bind ?_ (fun _ => ?_)
theorem ledgerlaw06_lent.mono : ∀ a0 k, LeO (ledgerlaw06_lent.f k a0) (ledgerlaw06_lent.f (k + 1) a0) := by
  intro a0 k
  have ih0 := ledgerlaw06_lent.mono_l k
  unfold ledgerlaw06_lent.f
  repeat' first
      | (with_reducible exact ih0 _ _)
      | (with_reducible exact LeO.refl _)
      | (with_reducible exact LeO.none _)
      | (with_reducible refine LeO.ite ?_ ?_)
      | (with_reducible refine LeO.bind ?_ (fun _ => ?_))
      | exact ih0 _ _
      | exact LeO.none _
      | refine LeO.ite ?_ ?_
      | refine LeO.bind ?_ (fun _ => ?_)
def ledgerlaw06_untouched.l0 : Nat → List Int → ByteArray → Int → Option (Bool)
  | 0, _, _, _ => none
  | k + 1, x0, x1, x5 => if x5 < (x0.length : Int) then (if 0 ≤ x5 then (if (rd x0 x5) = 165 then (ledgerlaw06_untouched.l0 k x0 x1 (wrap64 (x5 + 1))) else (some false)) else (none)) else (if 0 ≤ (x1.size : Int) then (if (x1.size : Int) ≤ (x0.length : Int) then (some ((strOfNums (x0.take ((x1.size : Int) : Int).toNat)).toList == x1.toList)) else (none)) else (none))
def ledgerlaw06_untouched.f (k : Nat) (l0 : List Int) (a1 : ByteArray) : Option (Bool) := ledgerlaw06_untouched.l0 k l0 a1 (a1.size : Int)
theorem ledgerlaw06_untouched.mono_l : ∀ k, (∀ y0 y1 y2, LeO (ledgerlaw06_untouched.l0 k y0 y1 y2) (ledgerlaw06_untouched.l0 (k + 1) y0 y1 y2))
  | 0 => fun _ _ _ r h => by simp [ledgerlaw06_untouched.l0] at h
  | k + 1 => by
    have ih0 := ledgerlaw06_untouched.mono_l k
    · intro y0 y1 y2
      unfold ledgerlaw06_untouched.l0
      repeat' first
      | (with_reducible exact ih0 _ _ _)
      | (with_reducible exact LeO.refl _)
      | (with_reducible exact LeO.none _)
      | (with_reducible refine LeO.ite ?_ ?_)
      | (with_reducible refine LeO.bind ?_ (fun _ => ?_))
      | exact ih0 _ _ _
      | exact LeO.none _
      | refine LeO.ite ?_ ?_
      | refine LeO.bind ?_ (fun _ => ?_)
theorem ledgerlaw06_untouched.mono : ∀ a0 a1 k, LeO (ledgerlaw06_untouched.f k a0 a1) (ledgerlaw06_untouched.f (k + 1) a0 a1) := by
  intro a0 a1 k
  have ih0 := ledgerlaw06_untouched.mono_l k
  unfold ledgerlaw06_untouched.f
  repeat' first
      | (with_reducible exact ih0 _ _ _)
      | (with_reducible exact LeO.refl _)
      | (with_reducible exact LeO.none _)
      | (with_reducible refine LeO.ite ?_ ?_)
      | (with_reducible refine LeO.bind ?_ (fun _ => ?_))
      | exact ih0 _ _ _
      | exact LeO.none _
      | refine LeO.ite ?_ ?_
      | refine LeO.bind ?_ (fun _ => ?_)
def ledgerlaw06_back.f (a0 : Int) (l1 : List Int) (a2 : Int) (a3 : ByteArray) : Option (Bool) := if a0 > 1048576 then (if a2 = 2 then (some ((l1.length : Int) == 0)) else (some false)) else (if a2 = 0 then (some ((strOfNums l1).toList == a3.toList)) else (some false))
mutual
def ledgerlaw06_Moved_stays.j0 : Nat → Int → ByteArray → Bool → List Int → List Int → Option (Bool)
  | 0, _, _, _, _, _ => none
  | k + 1, x1, x2, x40, x375000, x375001 => if x40 = true then (some false) else (ledgerlaw06_Moved_stays.l0 k x1 x2 0 x375000 x375001)
def ledgerlaw06_Moved_stays.l0 : Nat → Int → ByteArray → Int → List Int → List Int → Option (Bool)
  | 0, _, _, _, _, _ => none
  | k + 1, x1, x2, x7, x375000, x375001 => if x7 < (x375000.length : Int) then (if 0 ≤ x7 then (if x7 < (x2.size : Int) then (if (rd x375000 x7) = (((bt x2 x7) + x1) % 256) then (if x7 < (x375001.length : Int) then (if (rd x375001 x7) = (((bt x2 x7) + x1) % 256) then (ledgerlaw06_Moved_stays.l0 k x1 x2 (wrap64 (x7 + 1)) x375000 x375001) else (some false)) else (none)) else (some false)) else (none)) else (none)) else (some true)
end
def ledgerlaw06_Moved_stays.f (k : Nat) (l0_0 : List Int) (l0_1 : List Int) (a1 : Int) (a2 : ByteArray) : Option (Bool) := if (l0_1.length : Int) = (wrap64 ((l0_0.length : Int) + 1)) then (if 0 ≤ (l0_0.length : Int) then (if (l0_0.length : Int) < (l0_1.length : Int) then (if (rd l0_1 (l0_0.length : Int)) = a1 then (if (l0_0.length : Int) = 0 then (ledgerlaw06_Moved_stays.j0 k a1 a2 false l0_0 l0_1) else (ledgerlaw06_Moved_stays.j0 k a1 a2 ((l0_0.length : Int) != (a2.size : Int)) l0_0 l0_1)) else (ledgerlaw06_Moved_stays.j0 k a1 a2 true l0_0 l0_1)) else (none)) else (none)) else (ledgerlaw06_Moved_stays.j0 k a1 a2 true l0_0 l0_1)
theorem ledgerlaw06_Moved_stays.mono_l : ∀ k, (∀ y0 y1 y2 y3 y4, LeO (ledgerlaw06_Moved_stays.j0 k y0 y1 y2 y3 y4) (ledgerlaw06_Moved_stays.j0 (k + 1) y0 y1 y2 y3 y4)) ∧ (∀ y0 y1 y2 y3 y4, LeO (ledgerlaw06_Moved_stays.l0 k y0 y1 y2 y3 y4) (ledgerlaw06_Moved_stays.l0 (k + 1) y0 y1 y2 y3 y4))
  | 0 => ⟨fun _ _ _ _ _ r h => by simp [ledgerlaw06_Moved_stays.j0] at h, fun _ _ _ _ _ r h => by simp [ledgerlaw06_Moved_stays.l0] at h⟩
  | k + 1 => by
    obtain ⟨ih0, ih1⟩ := ledgerlaw06_Moved_stays.mono_l k
    refine ⟨?_, ?_⟩
    · intro y0 y1 y2 y3 y4
      unfold ledgerlaw06_Moved_stays.j0
      repeat' first
      | (with_reducible exact ih0 _ _ _ _ _)
      | (with_reducible exact ih1 _ _ _ _ _)
      | (with_reducible exact LeO.refl _)
      | (with_reducible exact LeO.none _)
      | (with_reducible refine LeO.ite ?_ ?_)
      | (with_reducible refine LeO.bind ?_ (fun _ => ?_))
      | exact ih0 _ _ _ _ _
      | exact ih1 _ _ _ _ _
      | exact LeO.none _
      | refine LeO.ite ?_ ?_
      | refine LeO.bind ?_ (fun _ => ?_)
    · intro y0 y1 y2 y3 y4
      unfold ledgerlaw06_Moved_stays.l0
      repeat' first
      | (with_reducible exact ih0 _ _ _ _ _)
      | (with_reducible exact ih1 _ _ _ _ _)
      | (with_reducible exact LeO.refl _)
      | (with_reducible exact LeO.none _)
      | (with_reducible refine LeO.ite ?_ ?_)
      | (with_reducible refine LeO.bind ?_ (fun _ => ?_))
      | exact ih0 _ _ _ _ _
      | exact ih1 _ _ _ _ _
      | exact LeO.none _
      | refine LeO.ite ?_ ?_
      | refine LeO.bind ?_ (fun _ => ?_)
theorem ledgerlaw06_Moved_stays.mono : ∀ a0 a1 a2 a3 k, LeO (ledgerlaw06_Moved_stays.f k a0 a1 a2 a3) (ledgerlaw06_Moved_stays.f (k + 1) a0 a1 a2 a3) := by
  intro a0 a1 a2 a3 k
  obtain ⟨ih0, ih1⟩ := ledgerlaw06_Moved_stays.mono_l k
  unfold ledgerlaw06_Moved_stays.f
  repeat' first
      | (with_reducible exact ih0 _ _ _ _ _)
      | (with_reducible exact ih1 _ _ _ _ _)
      | (with_reducible exact LeO.refl _)
      | (with_reducible exact LeO.none _)
      | (with_reducible refine LeO.ite ?_ ?_)
      | (with_reducible refine LeO.bind ?_ (fun _ => ?_))
      | exact ih0 _ _ _ _ _
      | exact ih1 _ _ _ _ _
      | exact LeO.none _
      | refine LeO.ite ?_ ?_
      | refine LeO.bind ?_ (fun _ => ?_)
mutual
def ledgerref06_FormatNumber.j0 : Nat → Int → Int → Option (ByteArray)
  | 0, _, _ => none
  | k + 1, x0, x3 => ledgerref06_FormatNumber.l0 k x0 x3 ([] : List Int)
def ledgerref06_FormatNumber.l0 : Nat → Int → Int → List Int → Option (ByteArray)
  | 0, _, _, _ => none
  | k + 1, x0, x3, x4 => if (x4.length : Int) = 0 then (if x4.length < 140737488355328 then (ledgerref06_FormatNumber.l0 k x0 (wrap64 (Int.tdiv x3 10)) (x4 ++ [(wrap64 (48 - (Int.tmod x3 10))) % 256])) else (none)) else (if x3 = 0 then (if x0 < 0 then (if ([] : List Int).length < 140737488355328 then (ledgerref06_FormatNumber.j2 k x4 (([] : List Int) ++ [45])) else (none)) else (ledgerref06_FormatNumber.j2 k x4 ([] : List Int))) else (if x4.length < 140737488355328 then (ledgerref06_FormatNumber.l0 k x0 (wrap64 (Int.tdiv x3 10)) (x4 ++ [(wrap64 (48 - (Int.tmod x3 10))) % 256])) else (none)))
def ledgerref06_FormatNumber.j2 : Nat → List Int → List Int → Option (ByteArray)
  | 0, _, _ => none
  | k + 1, x4, x5 => ledgerref06_FormatNumber.l1 k x4 x5 (wrap64 ((x4.length : Int) - 1))
def ledgerref06_FormatNumber.l1 : Nat → List Int → List Int → Int → Option (ByteArray)
  | 0, _, _, _ => none
  | k + 1, x4, x5, x6 => if x6 ≥ 0 then (if 0 ≤ x6 then (if x6 < (x4.length : Int) then (if x5.length < 140737488355328 then (ledgerref06_FormatNumber.l1 k x4 (x5 ++ [rd x4 x6]) (wrap64 (x6 - 1))) else (none)) else (none)) else (none)) else (some (strOfNums x5))
end
def ledgerref06_FormatNumber.f (k : Nat) (a0 : Int) : Option (ByteArray) := if a0 > 0 then (ledgerref06_FormatNumber.j0 k a0 (wrap64 (-a0))) else (ledgerref06_FormatNumber.j0 k a0 a0)
theorem ledgerref06_FormatNumber.mono_l : ∀ k, (∀ y0 y1, LeO (ledgerref06_FormatNumber.j0 k y0 y1) (ledgerref06_FormatNumber.j0 (k + 1) y0 y1)) ∧ (∀ y0 y1 y2, LeO (ledgerref06_FormatNumber.l0 k y0 y1 y2) (ledgerref06_FormatNumber.l0 (k + 1) y0 y1 y2)) ∧ (∀ y0 y1, LeO (ledgerref06_FormatNumber.j2 k y0 y1) (ledgerref06_FormatNumber.j2 (k + 1) y0 y1)) ∧ (∀ y0 y1 y2, LeO (ledgerref06_FormatNumber.l1 k y0 y1 y2) (ledgerref06_FormatNumber.l1 (k + 1) y0 y1 y2))
  | 0 => ⟨fun _ _ r h => by simp [ledgerref06_FormatNumber.j0] at h, fun _ _ _ r h => by simp [ledgerref06_FormatNumber.l0] at h, fun _ _ r h => by simp [ledgerref06_FormatNumber.j2] at h, fun _ _ _ r h => by simp [ledgerref06_FormatNumber.l1] at h⟩
  | k + 1 => by
    obtain ⟨ih0, ih1, ih2, ih3⟩ := ledgerref06_FormatNumber.mono_l k
    refine ⟨?_, ?_, ?_, ?_⟩
    · intro y0 y1
      unfold ledgerref06_FormatNumber.j0
      repeat' first
      | (with_reducible exact ih0 _ _)
      | (with_reducible exact ih1 _ _ _)
      | (with_reducible exact ih2 _ _)
      | (with_reducible exact ih3 _ _ _)
      | (with_reducible exact LeO.refl _)
      | (with_reducible exact LeO.none _)
      | (with_reducible refine LeO.ite ?_ ?_)
      | (with_reducible refine LeO.bind ?_ (fun _ => ?_))
      | exact ih0 _ _
      | exact ih1 _ _ _
      | exact ih2 _ _
      | exact ih3 _ _ _
      | exact LeO.none _
      | refine LeO.ite ?_ ?_
      | refine LeO.bind ?_ (fun _ => ?_)
    · intro y0 y1 y2
      unfold ledgerref06_FormatNumber.l0
      repeat' first
      | (with_reducible exact ih0 _ _)
      | (with_reducible exact ih1 _ _ _)
      | (with_reducible exact ih2 _ _)
      | (with_reducible exact ih3 _ _ _)
      | (with_reducible exact LeO.refl _)
      | (with_reducible exact LeO.none _)
      | (with_reducible refine LeO.ite ?_ ?_)
      | (with_reducible refine LeO.bind ?_ (fun _ => ?_))
      | exact ih0 _ _
      | exact ih1 _ _ _
      | exact ih2 _ _
      | exact ih3 _ _ _
      | exact LeO.none _
      | refine LeO.ite ?_ ?_
      | refine LeO.bind ?_ (fun _ => ?_)
    · intro y0 y1
      unfold ledgerref06_FormatNumber.j2
      repeat' first
      | (with_reducible exact ih0 _ _)
      | (with_reducible exact ih1 _ _ _)
      | (with_reducible exact ih2 _ _)
      | (with_reducible exact ih3 _ _ _)
      | (with_reducible exact LeO.refl _)
      | (with_reducible exact LeO.none _)
      | (with_reducible refine LeO.ite ?_ ?_)
      | (with_reducible refine LeO.bind ?_ (fun _ => ?_))
      | exact ih0 _ _
      | exact ih1 _ _ _
      | exact ih2 _ _
      | exact ih3 _ _ _
      | exact LeO.none _
      | refine LeO.ite ?_ ?_
      | refine LeO.bind ?_ (fun _ => ?_)
    · intro y0 y1 y2
      unfold ledgerref06_FormatNumber.l1
      repeat' first
      | (with_reducible exact ih0 _ _)
      | (with_reducible exact ih1 _ _ _)
      | (with_reducible exact ih2 _ _)
      | (with_reducible exact ih3 _ _ _)
      | (with_reducible exact LeO.refl _)
      | (with_reducible exact LeO.none _)
      | (with_reducible refine LeO.ite ?_ ?_)
      | (with_reducible refine LeO.bind ?_ (fun _ => ?_))
      | exact ih0 _ _
      | exact ih1 _ _ _
      | exact ih2 _ _
      | exact ih3 _ _ _
      | exact LeO.none _
      | refine LeO.ite ?_ ?_
      | refine LeO.bind ?_ (fun _ => ?_)
theorem ledgerref06_FormatNumber.mono : ∀ a0 k, LeO (ledgerref06_FormatNumber.f k a0) (ledgerref06_FormatNumber.f (k + 1) a0) := by
  intro a0 k
  obtain ⟨ih0, ih1, ih2, ih3⟩ := ledgerref06_FormatNumber.mono_l k
  unfold ledgerref06_FormatNumber.f
  repeat' first
      | (with_reducible exact ih0 _ _)
      | (with_reducible exact ih1 _ _ _)
      | (with_reducible exact ih2 _ _)
      | (with_reducible exact ih3 _ _ _)
      | (with_reducible exact LeO.refl _)
      | (with_reducible exact LeO.none _)
      | (with_reducible refine LeO.ite ?_ ?_)
      | (with_reducible refine LeO.bind ?_ (fun _ => ?_))
      | exact ih0 _ _
      | exact ih1 _ _ _
      | exact ih2 _ _
      | exact ih3 _ _ _
      | exact LeO.none _
      | refine LeO.ite ?_ ?_
      | refine LeO.bind ?_ (fun _ => ?_)
mutual
def ledgerref06_ParseNumber.l0 : Nat → ByteArray → Int → Int → Option (Int × Int)
  | 0, _, _, _ => none
  | k + 1, x0, x1, x6 => if x6 < (x0.size : Int) then (if 0 ≤ x6 then (if (bt x0 x6) < 48 then (some (0, 62)) else (if (bt x0 x6) > 57 then (some (0, 62)) else (ledgerref06_ParseNumber.l0 k x0 x1 (wrap64 (x6 + 1))))) else (none)) else (if 0 < (x0.size : Int) then (if (bt x0 0) = 48 then (ledgerref06_ParseNumber.j1 k x0 x1 (decide ((x0.size : Int) > 1))) else (ledgerref06_ParseNumber.j1 k x0 x1 false)) else (none))
def ledgerref06_ParseNumber.j1 : Nat → ByteArray → Int → Bool → Option (Int × Int)
  | 0, _, _, _ => none
  | k + 1, x0, x1, x38 => if x38 = true then (some (0, 62)) else (if x1 < 0 then (some (0, 63)) else ((ledgerref06_FormatNumber.f k x1).bind fun t407 => (if (x0.size : Int) > (t407.size : Int) then (ledgerref06_ParseNumber.j2 k x0 true) else (if (x0.size : Int) = (t407.size : Int) then (if (Op.bytesLess x0.toList t407.toList) = true then (ledgerref06_ParseNumber.j2 k x0 false) else (if x0.toList = t407.toList then (ledgerref06_ParseNumber.j2 k x0 false) else (ledgerref06_ParseNumber.j2 k x0 true))) else (ledgerref06_ParseNumber.j2 k x0 false)))))
def ledgerref06_ParseNumber.j2 : Nat → ByteArray → Bool → Option (Int × Int)
  | 0, _, _ => none
  | k + 1, x0, x59 => if x59 = true then (some (0, 63)) else (ledgerref06_ParseNumber.l1 k x0 0 0)
def ledgerref06_ParseNumber.l1 : Nat → ByteArray → Int → Int → Option (Int × Int)
  | 0, _, _, _ => none
  | k + 1, x0, x8, x9 => if x9 < (x0.size : Int) then (if 0 ≤ x9 then (ledgerref06_ParseNumber.l1 k x0 (wrap64 ((wrap64 (10 * x8)) + (((bt x0 x9) - 48) % 256))) (wrap64 (x9 + 1))) else (none)) else (some (x8, 0))
end
def ledgerref06_ParseNumber.f (k : Nat) (a0 : ByteArray) (a1 : Int) : Option (Int × Int) := if (a0.size : Int) > 1048576 then (some (0, 2)) else (if a0.toList = ([] : List UInt8) then (some (0, 62)) else (ledgerref06_ParseNumber.l0 k a0 a1 0))
theorem ledgerref06_ParseNumber.mono_l : ∀ k, (∀ y0 y1 y2, LeO (ledgerref06_ParseNumber.l0 k y0 y1 y2) (ledgerref06_ParseNumber.l0 (k + 1) y0 y1 y2)) ∧ (∀ y0 y1 y2, LeO (ledgerref06_ParseNumber.j1 k y0 y1 y2) (ledgerref06_ParseNumber.j1 (k + 1) y0 y1 y2)) ∧ (∀ y0 y1, LeO (ledgerref06_ParseNumber.j2 k y0 y1) (ledgerref06_ParseNumber.j2 (k + 1) y0 y1)) ∧ (∀ y0 y1 y2, LeO (ledgerref06_ParseNumber.l1 k y0 y1 y2) (ledgerref06_ParseNumber.l1 (k + 1) y0 y1 y2))
  | 0 => ⟨fun _ _ _ r h => by simp [ledgerref06_ParseNumber.l0] at h, fun _ _ _ r h => by simp [ledgerref06_ParseNumber.j1] at h, fun _ _ r h => by simp [ledgerref06_ParseNumber.j2] at h, fun _ _ _ r h => by simp [ledgerref06_ParseNumber.l1] at h⟩
  | k + 1 => by
    obtain ⟨ih0, ih1, ih2, ih3⟩ := ledgerref06_ParseNumber.mono_l k
    refine ⟨?_, ?_, ?_, ?_⟩
    · intro y0 y1 y2
      unfold ledgerref06_ParseNumber.l0
      repeat' first
      | (with_reducible exact ih0 _ _ _)
      | (with_reducible exact ih1 _ _ _)
      | (with_reducible exact ih2 _ _)
      | (with_reducible exact ih3 _ _ _)
      | (with_reducible exact ledgerref06_FormatNumber.mono _ _)
      | (with_reducible exact LeO.refl _)
      | (with_reducible exact LeO.none _)
      | (with_reducible refine LeO.ite ?_ ?_)
      | (with_reducible refine LeO.bind ?_ (fun _ => ?_))
      | exact ih0 _ _ _
      | exact ih1 _ _ _
      | exact ih2 _ _
      | exact ih3 _ _ _
      | exact ledgerref06_FormatNumber.mono _ _
      | exact LeO.none _
      | refine LeO.ite ?_ ?_
      | refine LeO.bind ?_ (fun _ => ?_)
    · intro y0 y1 y2
      unfold ledgerref06_ParseNumber.j1
      repeat' first
      | (with_reducible exact ih0 _ _ _)
      | (with_reducible exact ih1 _ _ _)
      | (with_reducible exact ih2 _ _)
      | (with_reducible exact ih3 _ _ _)
      | (with_reducible exact ledgerref06_FormatNumber.mono _ _)
      | (with_reducible exact LeO.refl _)
      | (with_reducible exact LeO.none _)
      | (with_reducible refine LeO.ite ?_ ?_)
      | (with_reducible refine LeO.bind ?_ (fun _ => ?_))
      | exact ih0 _ _ _
      | exact ih1 _ _ _
      | exact ih2 _ _
      | exact ih3 _ _ _
      | exact ledgerref06_FormatNumber.mono _ _
      | exact LeO.none _
      | refine LeO.ite ?_ ?_
      | refine LeO.bind ?_ (fun _ => ?_)
    · intro y0 y1
      unfold ledgerref06_ParseNumber.j2
      repeat' first
      | (with_reducible exact ih0 _ _ _)
      | (with_reducible exact ih1 _ _ _)
      | (with_reducible exact ih2 _ _)
      | (with_reducible exact ih3 _ _ _)
      | (with_reducible exact ledgerref06_FormatNumber.mono _ _)
      | (with_reducible exact LeO.refl _)
      | (with_reducible exact LeO.none _)
      | (with_reducible refine LeO.ite ?_ ?_)
      | (with_reducible refine LeO.bind ?_ (fun _ => ?_))
      | exact ih0 _ _ _
      | exact ih1 _ _ _
      | exact ih2 _ _
      | exact ih3 _ _ _
      | exact ledgerref06_FormatNumber.mono _ _
      | exact LeO.none _
      | refine LeO.ite ?_ ?_
      | refine LeO.bind ?_ (fun _ => ?_)
    · intro y0 y1 y2
      unfold ledgerref06_ParseNumber.l1
      repeat' first
      | (with_reducible exact ih0 _ _ _)
      | (with_reducible exact ih1 _ _ _)
      | (with_reducible exact ih2 _ _)
      | (with_reducible exact ih3 _ _ _)
      | (with_reducible exact ledgerref06_FormatNumber.mono _ _)
      | (with_reducible exact LeO.refl _)
      | (with_reducible exact LeO.none _)
      | (with_reducible refine LeO.ite ?_ ?_)
      | (with_reducible refine LeO.bind ?_ (fun _ => ?_))
      | exact ih0 _ _ _
      | exact ih1 _ _ _
      | exact ih2 _ _
      | exact ih3 _ _ _
      | exact ledgerref06_FormatNumber.mono _ _
      | exact LeO.none _
      | refine LeO.ite ?_ ?_
      | refine LeO.bind ?_ (fun _ => ?_)
theorem ledgerref06_ParseNumber.mono : ∀ a0 a1 k, LeO (ledgerref06_ParseNumber.f k a0 a1) (ledgerref06_ParseNumber.f (k + 1) a0 a1) := by
  intro a0 a1 k
  obtain ⟨ih0, ih1, ih2, ih3⟩ := ledgerref06_ParseNumber.mono_l k
  unfold ledgerref06_ParseNumber.f
  repeat' first
      | (with_reducible exact ih0 _ _ _)
      | (with_reducible exact ih1 _ _ _)
      | (with_reducible exact ih2 _ _)
      | (with_reducible exact ih3 _ _ _)
      | (with_reducible exact ledgerref06_FormatNumber.mono _ _)
      | (with_reducible exact LeO.refl _)
      | (with_reducible exact LeO.none _)
      | (with_reducible refine LeO.ite ?_ ?_)
      | (with_reducible refine LeO.bind ?_ (fun _ => ?_))
      | exact ih0 _ _ _
      | exact ih1 _ _ _
      | exact ih2 _ _
      | exact ih3 _ _ _
      | exact ledgerref06_FormatNumber.mono _ _
      | exact LeO.none _
      | refine LeO.ite ?_ ?_
      | refine LeO.bind ?_ (fun _ => ?_)
def ledgerlaw06_TextNumbers.f (k : Nat) (a0 : ByteArray) (a1 : Int) (a2 : Int) : Option (Bool) := (text_ParseNumber.f a0 a2).bind fun bt408 => ((ledgerref06_ParseNumber.f k a0 a2).bind fun bt410 => ((text_FormatNumber.f a1).bind fun t412 => ((ledgerref06_FormatNumber.f k a1).bind fun t413 => (if t412.toList = t413.toList then (if bt408.1 = bt410.1 then (some (bt408.2 == bt410.2)) else (some false)) else (some false)))))
theorem ledgerlaw06_TextNumbers.mono : ∀ a0 a1 a2 k, LeO (ledgerlaw06_TextNumbers.f k a0 a1 a2) (ledgerlaw06_TextNumbers.f (k + 1) a0 a1 a2) := by
  intro a0 a1 a2 k
  unfold ledgerlaw06_TextNumbers.f
  repeat' first
      | (with_reducible exact ledgerref06_FormatNumber.mono _ _)
      | (with_reducible exact ledgerref06_ParseNumber.mono _ _ _)
      | (with_reducible exact LeO.refl _)
      | (with_reducible exact LeO.none _)
      | (with_reducible refine LeO.ite ?_ ?_)
      | (with_reducible refine LeO.bind ?_ (fun _ => ?_))
      | exact ledgerref06_FormatNumber.mono _ _
      | exact ledgerref06_ParseNumber.mono _ _ _
      | exact LeO.none _
      | refine LeO.ite ?_ ?_
      | refine LeO.bind ?_ (fun _ => ?_)
def ledgerlaw06_TextBounds.f (a0 : Int) (a1 : Int) : Option (Bool) := (text_FormatNumber.f a0).bind fun t414 => ((text_ParseNumber.f t414 a1).bind fun bt415 => (if a0 < 0 then (if bt415.2 = 62 then (if bt415.1 = 0 then (if (t414.size : Int) > 1 then (if 0 < (t414.size : Int) then (some ((bt t414 0) == 45)) else (none)) else (some false)) else (some false)) else (some false)) else (if a1 < a0 then (if bt415.2 = 63 then (some (bt415.1 == 0)) else (some false)) else (if bt415.2 = 0 then (some (bt415.1 == a0)) else (some false)))))
end Go.Proofs.YtljinjgamgmocaaDoor.G
end
section
namespace Go.Proofs.YtljinjgamgmocaaDoor.G
open Go.RowKit Go.Proofs.YtljinjgamgmocaaDoorW.PrintWords Go.Proofs.YtljinjgamgmocaaDoorW.PrintLast Go.Proofs.YtljinjgamgmocaaDoorW.PrintMore
attribute [local go_sem] max2_int min2_int max_two min_two max_three min_three max_four min_four   -- for this text's walks alone
set_option linter.unusedVariables false
set_option linter.unusedSimpArgs false
def text_EncodeHex.T5 : Bool × List (List Nat × List Nat) := (true, [([], []), ([], []), ([1], [1]), ([2], [2]), ([3], [3]), ([], []), ([5], [5]), ([6], [6]), ([7], [7]), ([4, 8], [4, 8]), ([0, 9], [0, 9]), ([10, 10, 0, 1, 2, 3, 4, 5, 6, 7, 8, 9, 10], [0, 10])])
def text_EncodeHex.B5 : List Nat := [0, 0, 2, 6, 14, 0, 32, 96, 224, 510, 1023, 2047]
theorem text_EncodeHex.tab5 : rtab .any (opsOf Tryd.f12 5) = text_EncodeHex.T5 := by kernel_rfl
theorem text_EncodeHex.bits5 : waitsOk text_EncodeHex.T5.2 text_EncodeHex.B5 = true := by kernel_rfl
set_option maxHeartbeats 8000000 in
set_option maxRecDepth 100000 in
theorem text_EncodeHex.calls (k : Nat) (A0 : Option Addr) (c0 : Nat) (l0 : List Int) (r : ByteArray) (w : World) (hr0 : Kd.C (Kd.int .u8) w A0 l0.length l0) (hc0 : l0.length ≤ c0) (hLD : LayD w) (h : text_EncodeHex.f k l0 = some r) :
    Calls Tryd.prog 12 #[.slice A0 l0.length c0] w fun e w' => e = .returned (.string r) ∧ Below w.heap.size w w' := by
  have HR0 := Aside0.mk hr0
  have HC0 := Aside0.mk hc0
  clear hr0 hc0
  have HB := Aside0.mk (Below.refl w.heap.size w)
  have HLayD := Aside0.mk hLD
  clear hLD
  have HRt0 := Aside0.mk (LayD.digits HLayD.out)
  have H : (if 0 ≤ (wrap64 (2 * (l0.length : Int))) then (if (wrap64 (2 * (l0.length : Int)) : Int).toNat ≤ 281474976710656 then (text_EncodeHex.l0 k (([] : List Int)) l0 (l0.length : Int) 0) else (none)) else (none)) = some r := h
  clear h
  obtain ⟨ji2, hji2⟩ : ∃ j_ : Int, (wrap64 (2 * (l0.length : Int))) = j_ := ⟨_, rfl⟩
  replace H : (if 0 ≤ (ji2) then (if (ji2 : Int).toNat ≤ 281474976710656 then (text_EncodeHex.l0 k (([] : List Int)) l0 (l0.length : Int) 0) else (none)) else (none)) = some r := by first | (rw [hji2] at H; exact H) | (simp only [hji2] at H ⊢; exact H)
  have hji2w : (IntKind.i64.wrap (2 * (l0.length : Int))) = ji2 := (i64_w _).trans hji2
  by_cases c3 : 0 ≤ (ji2)
  · rw [if_pos c3] at H
    have c3b0 := eq_true c3
    have c3b1 : decide (0 ≤ (ji2)) = true := decide_eq_true c3
    clear c3
    by_cases c4 : (ji2 : Int).toNat ≤ 281474976710656
    · rw [if_pos c4] at H
      have c4b0 := eq_true c4
      have c4b1 : decide ((ji2 : Int).toNat ≤ 281474976710656) = true := decide_eq_true c4
      clear c4
      obtain ⟨y101, hy101⟩ : ∃ y_ : List Int, y_ = (([] : List Int)) := ⟨_, rfl⟩
      replace H : (text_EncodeHex.l0 k y101 l0 (l0.length : Int) 0) = some r := by first | (rw [hy101]; with_reducible exact H) | (have H2_ := (Option.bind_some _ _).symm.trans H; rw [hy101]; with_reducible exact H2_) | (have H2_ := (Option.bind_some _ _).symm.trans H; with_reducible exact H2_) | with_reducible exact H | (rw [hy101]; exact H) | exact H
      have Ny101 := Aside0.mk hy101
      clear hy101
      have H' := Aside0.mk H
      clear H
      go_enter Tryd.func12, Tryd.ntmps12
      go_wp2_with (first | ((with_reducible refine gate_dst (N := 9) rfl ?_); refine Kd.R_make0 (Kd.int .u8) _ 5 rfl (N := 9) rfl 22 _ _ rfl ji2 rfl rfl Tryd.underlying22 (.int .u8 0) 1 info5 rfl (by decide) (by omega) (ok := fun _ => True) trivial (of_decide_eq_true (by first | (with_reducible assumption) | assumption)) (Nat.le_trans (Nat.mul_le_mul_right _ (of_decide_eq_true (by first | (with_reducible assumption) | assumption) : ji2.toNat ≤ 281474976710656)) (by omega)) (Below.refl _ _) (Nat.le_refl _) ?_; intro v102 w5 ho6 hb hg_ hnew_; clear hg_ hnew_; (first | rw [← Ny101.out] at ho6 | (simp only [Int.reduceToNat] at ho6; rw [← Ny101.out] at ho6)); have n0_ := Aside0.mk (Kd.R_lower ho6 (below_size (by repeat (first | (with_reducible first | exact HB.out | apply below_alloc | apply pw_below_drewN | apply below_drew1) | exact HB.out)))); have n1_ := Aside0.mk (below_step (by repeat (first | (with_reducible first | exact HB.out | apply below_alloc | apply pw_below_drewN | apply below_drew1) | exact HB.out)) hb); clear HB; have HO103 := n0_; have HB := n1_; clear n0_ n1_; clear hb ho6))
      go_loopg [3, 12] k (fun kq v3 v12 w' => ∃ (x3_1 : List Int) (x12_1 : Int), v12 = .int .i64 x12_1 ∧ Aside0 (text_EncodeHex.l0 kq x3_1 l0 (l0.length : Int) x12_1 = some r) ∧ Aside0 (kq ≤ k) ∧ Aside0 (Kd.R (Kd.int .u8) 5 w' w.heap.size (fun _ => True) v3 x3_1) ∧ Aside0 (Below w.heap.size w w'))
      case atStart => exact ⟨(y101), (0), (by first | rfl | (simp; done) | (simp [*]; done)), H', ⟨Nat.le_refl _⟩, ⟨by (with_reducible repeat (first | apply Kd.R_alloc | apply Kd.R_drewN | apply Kd.R_drew)); exact HO103.out⟩, ⟨by repeat (first | (with_reducible first | exact HB.out | apply below_alloc | apply pw_below_drewN | apply below_drew1) | exact HB.out)⟩⟩
      case round =>
        clear H'
        try clear c1
        try clear p2
        try clear c3
        try clear c3b0
        try clear c3b1
        try clear c4
        try clear c4b0
        try clear c4b1
        try clear p6
        obtain ⟨x3_1, x12_1, rfl, HA, HK1, HO_3, HB⟩ := hrel
        cases gk with
        | zero => exact absurd HA.out (by simp [text_EncodeHex.l0])
        | succ k1 =>
          have H := HA.out
          clear HA
          simp only [text_EncodeHex.l0] at H
          by_cases c7 : x12_1 < (l0.length : Int)
          · rw [if_pos c7] at H
            have c7b0 : decide (x12_1 < (l0.length : Int)) = true := decide_eq_true c7
            clear c7
            by_cases c8 : 0 ≤ x12_1
            · rw [if_pos c8] at H
              have c8b0 : decide (0 ≤ x12_1) = true := decide_eq_true c8
              clear c8
              by_cases c9 : x12_1 < (l0.length : Int)
              · rw [if_pos c9] at H
                have c9b0 : decide (x12_1 < (l0.length : Int)) = true := decide_eq_true c9
                clear c9
                obtain ⟨ji10, hji10⟩ : ∃ j_ : Int, ((rd l0 x12_1) / 16) = j_ := ⟨_, rfl⟩
                replace H : (if 0 ≤ (ji10) then (if (ji10) < 16 then (if 0 ≤ (Go.bits .and .u8 (rd l0 x12_1) 15) then (if (Go.bits .and .u8 (rd l0 x12_1) 15) < 16 then ((some (([rd digitsTab (ji10), rd digitsTab (Go.bits .and .u8 (rd l0 x12_1) 15)] : List Int) : List Int)).bind fun y107 => (if x3_1.length + y107.length < 140737488355328 then (text_EncodeHex.l0 k1 (x3_1 ++ y107) l0 (l0.length : Int) (wrap64 (x12_1 + 1))) else (none))) else (none)) else (none)) else (none)) else (none)) = some r := by first | (rw [hji10] at H; exact H) | (simp only [hji10] at H ⊢; exact H)
                by_cases c11 : 0 ≤ (ji10)
                · rw [if_pos c11] at H
                  have c11b0 : decide (0 ≤ (ji10)) = true := decide_eq_true c11
                  clear c11
                  by_cases c12 : (ji10) < 16
                  · rw [if_pos c12] at H
                    have c12b0 : decide ((ji10) < 16) = true := decide_eq_true c12
                    clear c12
                    by_cases c13 : 0 ≤ (Go.bits .and .u8 (rd l0 x12_1) 15)
                    · rw [if_pos c13] at H
                      have c13b0 : decide (0 ≤ (Go.bits .and .u8 (rd l0 x12_1) 15)) = true := decide_eq_true c13
                      clear c13
                      by_cases c14 : (Go.bits .and .u8 (rd l0 x12_1) 15) < 16
                      · rw [if_pos c14] at H
                        have c14b0 : decide ((Go.bits .and .u8 (rd l0 x12_1) 15) < 16) = true := decide_eq_true c14
                        clear c14
                        obtain ⟨y107, hy107⟩ : ∃ y_ : List Int, y_ = (([rd digitsTab (ji10), rd digitsTab (Go.bits .and .u8 (rd l0 x12_1) 15)] : List Int)) := ⟨_, rfl⟩
                        replace H : (if x3_1.length + y107.length < 140737488355328 then (text_EncodeHex.l0 k1 (x3_1 ++ y107) l0 (l0.length : Int) (wrap64 (x12_1 + 1))) else (none)) = some r := by first | (rw [hy107]; with_reducible exact H) | (have H2_ := (Option.bind_some _ _).symm.trans H; rw [hy107]; with_reducible exact H2_) | (have H2_ := (Option.bind_some _ _).symm.trans H; with_reducible exact H2_) | with_reducible exact H | (rw [hy107]; exact H) | exact H
                        have Ny107 := Aside0.mk hy107
                        clear hy107
                        by_cases c15 : x3_1.length + y107.length < 140737488355328
                        · rw [if_pos c15] at H
                          have LMc15 := Aside0.mk c15
                          clear c15
                          obtain ⟨y110, hy110⟩ : ∃ y_ : List Int, y_ = (x3_1 ++ y107) := ⟨_, rfl⟩
                          replace H : (text_EncodeHex.l0 k1 y110 l0 (l0.length : Int) (wrap64 (x12_1 + 1))) = some r := by first | (rw [hy110]; with_reducible exact H) | (have H2_ := (Option.bind_some _ _).symm.trans H; rw [hy110]; with_reducible exact H2_) | (have H2_ := (Option.bind_some _ _).symm.trans H; with_reducible exact H2_) | with_reducible exact H | (rw [hy110]; exact H) | exact H
                          have Ny110 := Aside0.mk hy110
                          clear hy110
                          have H' := Aside0.mk H
                          clear H
                          have p104 : 0 ≤ (x12_1 : Int) := of_decide_eq_true (by first | (with_reducible assumption) | assumption)
                          have q104 : x12_1 < (l0.length : Int) := of_decide_eq_true (by first | (with_reducible assumption) | assumption)
                          obtain ⟨ad104, e104, hx104_0⟩ := Kd.at_int HR0.out x12_1 p104 q104
                          cases e104
                          replace hx104_0 := (HB.out.cell (World.block_lt_of_cell? w _ hx104_0)).trans hx104_0
                          replace p104 := eq_true p104
                          replace q104 := eq_true q104
                          try go_wp2
                          have n0_ := Aside0.mk (Kd.R_drew HO_3.out)
                          have n1_ := Aside0.mk (below_drew1 HB.out)
                          clear HO_3
                          clear HB
                          have HO_3 := n0_
                          have HB := n1_
                          clear n0_ n1_
                          have p105 : 0 ≤ ((ji10) : Int) := of_decide_eq_true (by first | (with_reducible assumption) | assumption)
                          have q105 : (ji10) < (digitsTab.length : Int) := (by have h_ : ((ji10) : Int) < (16 : Int) := of_decide_eq_true (by first | (with_reducible assumption) | assumption); have e_ := digitsTab_len; omega)
                          have ql105 : (((ji10) : Int) < (16 : Int)) = True := eq_true (of_decide_eq_true (by first | (with_reducible assumption) | assumption))
                          obtain ⟨ad105, e105, hx105_0⟩ := Kd.at_int HRt0.out (ji10) p105 q105
                          have hw105_0 := hx105_0
                          obtain rfl : (⟨0, 0, none⟩ : Addr) = ad105 := (by injection e105)
                          (first | simp only [add_plain] at hx105_0 | simp only [add_at] at hx105_0 | simp only [Addr.add, Nat.zero_add] at hx105_0 | skip)
                          (try rw [add_plain] at hw105_0)
                          replace hx105_0 := (HB.out.cell (World.block_lt_of_cell? w _ hx105_0)).trans hx105_0
                          replace p105 := eq_true p105
                          replace q105 := eq_true q105
                          have p106 : 0 ≤ ((Go.bits .and .u8 (rd l0 x12_1) 15) : Int) := of_decide_eq_true (by first | (with_reducible assumption) | assumption)
                          have q106 : (Go.bits .and .u8 (rd l0 x12_1) 15) < (digitsTab.length : Int) := (by have h_ : ((Go.bits .and .u8 (rd l0 x12_1) 15) : Int) < (16 : Int) := of_decide_eq_true (by first | (with_reducible assumption) | assumption); have e_ := digitsTab_len; omega)
                          have ql106 : (((Go.bits .and .u8 (rd l0 x12_1) 15) : Int) < (16 : Int)) = True := eq_true (of_decide_eq_true (by first | (with_reducible assumption) | assumption))
                          obtain ⟨ad106, e106, hx106_0⟩ := Kd.at_int HRt0.out (Go.bits .and .u8 (rd l0 x12_1) 15) p106 q106
                          have hw106_0 := hx106_0
                          obtain rfl : (⟨0, 0, none⟩ : Addr) = ad106 := (by injection e106)
                          (first | simp only [add_plain] at hx106_0 | simp only [add_at] at hx106_0 | simp only [Addr.add, Nat.zero_add] at hx106_0 | skip)
                          (try rw [add_plain] at hw106_0)
                          replace hx106_0 := (HB.out.cell (World.block_lt_of_cell? w _ hx106_0)).trans hx106_0
                          replace p106 := eq_true p106
                          replace q106 := eq_true q106
                          refine start_ (n := 12) (S := fun w' => w'.cell? ⟨0, ((ji10)).toNat, none⟩ = some (.int .u8 (rd digitsTab (ji10))) ∧ w'.cell? ⟨0, ((Go.bits .and .u8 (rd l0 x12_1) 15)).toNat, none⟩ = some (.int .u8 (rd digitsTab (Go.bits .and .u8 (rd l0 x12_1) 15)))) (ds := []) #[false, false, false, false, false, false, false, false, false, false, false, false] (by kernel_rfl) rfl rfl ⟨((HB.out.cell (World.block_lt_of_cell? w _ hw105_0)).trans hw105_0), ((HB.out.cell (World.block_lt_of_cell? w _ hw106_0)).trans hw106_0)⟩ (fun hHeld => ?_); refine with_tabW text_EncodeHex.tab5 text_EncodeHex.bits5 (fun HT_ HW_ => ?_)
                          generalize wr.drew = w16 at HO_3 HB hx105_0 hx106_0 hHeld ⊢
                          refine pure_ (i := 0) (N := some 16) (v := ?_) (a' := ?_) #[true, false, false, false, false, false, false, false, false, false, false, false] rfl rfl (any_of HT_.out (by kernel_rfl)) (fun _ _ _ h => h) (Or.inl ⟨by rfl, ?_⟩) ?_ ?_
                          rotate_left
                          · intro w'
                            go_simp
                            with_reducible rfl
                          rotate_left
                          · simp only [Act.put, List.setIfInBounds_toArray, List.set_cons_zero, List.set_cons_succ, i64_w, i32_w]
                            rfl
                          refine pure_ (i := 1) (N := some 17) (v := ?_) (a' := ?_) #[true, true, false, false, false, false, false, false, false, false, false, false] rfl rfl (any_of HT_.out (by kernel_rfl)) (fun _ _ _ h => h) (Or.inl ⟨by rfl, ?_⟩) ?_ ?_
                          rotate_left
                          · intro w'
                            go_simp
                            with_reducible rfl
                          rotate_left
                          · simp only [Act.put, List.setIfInBounds_toArray, List.set_cons_zero, List.set_cons_succ, i64_w, i32_w]
                            rfl
                          refine pure_ (i := 2) (N := some 18) (v := ?_) (a' := ?_) #[true, true, true, false, false, false, false, false, false, false, false, false] rfl rfl (any_of HT_.out (by kernel_rfl)) (fun _ _ _ h => h) (Or.inl ⟨by rfl, ?_⟩) ?_ ?_
                          rotate_left
                          · intro w'
                            go_simp
                            with_reducible rfl
                          rotate_left
                          · simp only [Act.put, List.setIfInBounds_toArray, List.set_cons_zero, List.set_cons_succ, i64_w, i32_w]
                            rfl
                          refine pure_ (i := 3) (N := some 19) (v := ?_) (a' := ?_) #[true, true, true, true, false, false, false, false, false, false, false, false] rfl rfl (any_of HT_.out (by kernel_rfl)) (fun _ _ _ h => h) (Or.inl ⟨by rfl, ?_⟩) ?_ ?_
                          rotate_left
                          · intro w'
                            go_simp
                            with_reducible rfl
                          rotate_left
                          · simp only [Act.put, List.setIfInBounds_toArray, List.set_cons_zero, List.set_cons_succ, i64_w, i32_w]
                            rfl
                          refine pure_ (i := 5) (N := some 21) (v := ?_) (a' := ?_) #[true, true, true, true, false, true, false, false, false, false, false, false] rfl rfl (any_of HT_.out (by kernel_rfl)) (fun _ _ _ h => h) (Or.inl ⟨by rfl, ?_⟩) ?_ ?_
                          rotate_left
                          · intro w'
                            go_simp
                            with_reducible rfl
                          rotate_left
                          · simp only [Act.put, List.setIfInBounds_toArray, List.set_cons_zero, List.set_cons_succ, i64_w, i32_w]
                            rfl
                          refine pure_ (i := 6) (N := some 22) (v := ?_) (a' := ?_) #[true, true, true, true, false, true, true, false, false, false, false, false] rfl rfl (any_of HT_.out (by kernel_rfl)) (fun _ _ _ h => h) (Or.inl ⟨by rfl, ?_⟩) ?_ ?_
                          rotate_left
                          · intro w'
                            go_simp
                            with_reducible rfl
                          rotate_left
                          · simp only [Act.put, List.setIfInBounds_toArray, List.set_cons_zero, List.set_cons_succ, i64_w, i32_w]
                            rfl
                          refine pure_ (i := 7) (N := some 23) (v := ?_) (a' := ?_) #[true, true, true, true, false, true, true, true, false, false, false, false] rfl rfl (any_of HT_.out (by kernel_rfl)) (fun _ _ _ h => h) (Or.inl ⟨by rfl, ?_⟩) ?_ ?_
                          rotate_left
                          · intro w'
                            go_simp
                            with_reducible rfl
                          rotate_left
                          · simp only [Act.put, List.setIfInBounds_toArray, List.set_cons_zero, List.set_cons_succ, i64_w, i32_w]
                            rfl
                          refine take_ (i := 4) (N := some 20) (v := ?_) (a' := ?_) #[true, true, true, true, true, true, true, true, false, false, false, false] rfl rfl (take_ofW HT_.out HW_.out (by kernel_rfl)) (fun _ _ _ h => h) (Or.inl ⟨by rfl, ?_⟩) hHeld ?_ ?_
                          rotate_left
                          · rintro w' ⟨s0, s1⟩
                            go_simp
                            with_reducible rfl
                          rotate_left
                          · simp only [Act.put, List.setIfInBounds_toArray, List.set_cons_zero, List.set_cons_succ, i64_w, i32_w]
                            rfl
                          refine take_ (i := 8) (N := some 24) (v := ?_) (a' := ?_) #[true, true, true, true, true, true, true, true, true, false, false, false] rfl rfl (take_ofW HT_.out HW_.out (by kernel_rfl)) (fun _ _ _ h => h) (Or.inl ⟨by rfl, ?_⟩) hHeld ?_ ?_
                          rotate_left
                          · rintro w' ⟨s0, s1⟩
                            go_simp
                            with_reducible rfl
                          rotate_left
                          · simp only [Act.put, List.setIfInBounds_toArray, List.set_cons_zero, List.set_cons_succ, i64_w, i32_w]
                            rfl
                          refine one_ (i := 9) (N := some 25) #[true, true, true, true, true, true, true, true, true, true, false, false] rfl rfl (one_of HT_.out (by kernel_rfl)) (by decide) (fun K hK => ?_)
                          refine Kd.R_lit_step (Kd.int .u8) _ 5 ?hg (N := 25) ?hd (xs := ([rd digitsTab (ji10), rd digitsTab (Go.bits .and .u8 (rd l0 x12_1) 15)] : List Int)) (inner := [.int .u8 (rd digitsTab (ji10)), .int .u8 (rd digitsTab (Go.bits .and .u8 (rd l0 x12_1) 15))]) (ok := fun _ => True) (okp := fun _ => True) ?hr ?hp (fun _ hk => hk) trivial (Below.refl _ _) (Nat.le_refl _) (by simp) ?_; (case hd => rfl); (case hg => rfl); (case hr => first | (go_simp; done) | (go_simp; rfl)); (case hp => exact (Reps.one (show Kd.M (Kd.int .u8) _ _ _ (rd digitsTab (ji10)) [.int .u8 (rd digitsTab (ji10))] from rfl) (Reps.one (show Kd.M (Kd.int .u8) _ _ _ (rd digitsTab (Go.bits .and .u8 (rd l0 x12_1) 15)) [.int .u8 (rd digitsTab (Go.bits .and .u8 (rd l0 x12_1) 15))] from rfl) (Reps.none _ _))))
                          intro v108 w17 ho18 hb hg_ hnew_
                          clear hg_ hnew_
                          (first | rw [← Ny107.out] at ho18 | (simp only [Int.reduceToNat] at ho18; rw [← Ny107.out] at ho18))
                          have n0_ := Aside0.mk (Kd.R_elder' (by (with_reducible repeat (first | apply Kd.R_alloc | apply Kd.R_drewN | apply Kd.R_drew)); exact HO_3.out) (Kd.R_base ho18) hb)
                          have n1_ := Aside0.mk (Kd.R_lower (Kd.R_new' ho18 (Kd.R_lt (by (with_reducible repeat (first | apply Kd.R_alloc | apply Kd.R_drewN | apply Kd.R_drew)); exact HO_3.out))) (below_size (by repeat (first | (with_reducible first | exact HB.out | apply below_alloc | apply pw_below_drewN | apply below_drew1) | exact HB.out))))
                          have n2_ := Aside0.mk (below_step (by repeat (first | (with_reducible first | exact HB.out | apply below_alloc | apply pw_below_drewN | apply below_drew1) | exact HB.out)) hb)
                          clear HO_3
                          clear HB
                          have HO_3 := n0_
                          have HO109 := n1_
                          have HB := n2_
                          clear n0_ n1_ n2_
                          clear hb ho18
                          obtain ⟨Ao20, co20, eo20⟩ := Kd.R_slice HO109.out
                          (first | subst eo20 | (injection eo20 with f1_ f2_ f3_; have f4_ := f1_.symm; have f5_ := f3_.symm; clear f1_ f2_ f3_; subst f4_; subst f5_))
                          refine hK.out _ _ ⟨((HB.out.cell (World.block_lt_of_cell? w _ hw105_0)).trans hw105_0), ((HB.out.cell (World.block_lt_of_cell? w _ hw106_0)).trans hw106_0)⟩ (fun hHeld => ?_)
                          clear hK K
                          refine norm_ (a' := ?_) ?_ ?_
                          rotate_left
                          · show Act.put _ (some 25) _ = _
                            simp only [Act.put, List.setIfInBounds_toArray, List.set_cons_zero, List.set_cons_succ, i64_w, i32_w]
                            rfl
                          refine one_ (i := 10) (N := some 26) #[true, true, true, true, true, true, true, true, true, true, true, false] rfl rfl (one_of HT_.out (by kernel_rfl)) (by decide) (fun K hK => ?_)
                          refine Kd.R_append_rows_step (Kd.int .u8) (w0 := w) w.heap.size (by rfl) (.tmp 16) (.tmp 25) 22 5 (.int .u8 0) 1 rfl Tryd.underlying22 info5 rfl (by decide) (by omega) u3 x3_1 y107 _ _ _ (fun k_ => some k_ ≠ (.slice Ao20 y107.length co20 : Value).ownBlock) (fun _ => False) rfl rfl ?aO ?aR (fun _ _ h => h) (fun _ h => h.elim) ?aF ?aB ?aS ?aL ?_
                          (case aR => repeat (first | exact (Kd.R_reads' HO109.out).2.2 | (with_reducible refine Kd.C_alloc ?_ _) | (with_reducible refine Kd.C_drewN ?_ _) | (with_reducible refine Kd.C_drew ?_)))
                          (case aB => exact (by repeat (first | (with_reducible first | exact HB.out | apply below_alloc | apply pw_below_drewN | apply below_drew1) | exact HB.out)))
                          (case aF => exact (fun k_ hk => Kd.fresh' (Kd.R_lt (by (with_reducible repeat (first | apply Kd.R_alloc | apply Kd.R_drewN | apply Kd.R_drew)); exact HO109.out)) k_ hk))
                          (case aO => exact (by (with_reducible repeat (first | apply Kd.R_alloc | apply Kd.R_drewN | apply Kd.R_drew)); exact Kd.R_mono HO_3.out (fun _ hk => hk.2)))
                          (case aS => exact (below_size (by repeat (first | (with_reducible first | exact HB.out | apply below_alloc | apply pw_below_drewN | apply below_drew1) | exact HB.out))))
                          (case aL => have := LMc15.out; omega)
                          intro v111 w19 ho hb hg hat
                          rw [← Ny110.out] at ho
                          have n0_ := Aside0.mk (Kd.R_after (ok := (fun _ => True)) (by (with_reducible repeat (first | apply Kd.R_alloc | apply Kd.R_drewN | apply Kd.R_drew)); exact HO109.out) hg hat)
                          have n1_ := Aside0.mk (hb)
                          have n2_ := Aside0.mk (ho)
                          clear HO109
                          clear HB
                          clear HO_3
                          have HO109 := n0_
                          have HB := n1_
                          have HO112 := n2_
                          clear n0_ n1_ n2_
                          clear ho hb hg hat
                          refine hK.out _ _ ⟨((HB.out.cell (World.block_lt_of_cell? w _ hw105_0)).trans hw105_0), ((HB.out.cell (World.block_lt_of_cell? w _ hw106_0)).trans hw106_0)⟩ (fun hHeld => ?_)
                          clear hK K
                          refine norm_ (a' := ?_) ?_ ?_
                          rotate_left
                          · show Act.put _ (some 26) _ = _
                            simp only [Act.put, List.setIfInBounds_toArray, List.set_cons_zero, List.set_cons_succ, i64_w, i32_w]
                            rfl
                          refine pure_ (i := 11) (N := some 3) (v := ?_) (a' := ?_) #[true, true, true, true, true, true, true, true, true, true, true, true] rfl rfl (any_of HT_.out (by kernel_rfl)) (fun _ _ _ h => h) (Or.inl ⟨by rfl, ?_⟩) ?_ ?_
                          rotate_left
                          · intro w'
                            go_simp
                            with_reducible rfl
                          rotate_left
                          · simp only [Act.put, List.setIfInBounds_toArray, List.set_cons_zero, List.set_cons_succ, i64_w, i32_w]
                            rfl
                          refine done_ (done_of HT_.out (by kernel_rfl)) ?_
                          try go_wp2
                          go_roundg k1
                          case measure => have := HK1.out; omega
                          case rel => exact ⟨(y110), (wrap64 (x12_1 + 1)), (by first | rfl | (simp; done) | (simp [*]; done)), H', ⟨by have := HK1.out; omega⟩, ⟨by (with_reducible repeat (first | apply Kd.R_alloc | apply Kd.R_drewN | apply Kd.R_drew)); exact Kd.R_mono HO112.out (fun _ hk => trivial)⟩, ⟨by repeat (first | (with_reducible first | exact HB.out | apply below_alloc | apply pw_below_drewN | apply below_drew1) | exact HB.out)⟩⟩
                        · rw [if_neg c15] at H
                          exact absurd H (by simp)
                      · rw [if_neg c14] at H
                        exact absurd H (by simp)
                    · rw [if_neg c13] at H
                      exact absurd H (by simp)
                  · rw [if_neg c12] at H
                    exact absurd H (by simp)
                · rw [if_neg c11] at H
                  exact absurd H (by simp)
              · rw [if_neg c9] at H
                exact absurd H (by simp)
            · rw [if_neg c8] at H
              exact absurd H (by simp)
          · rw [if_neg c7] at H
            have c7b0 : decide (x12_1 < (l0.length : Int)) = false := decide_eq_false c7
            clear c7
            obtain rfl := Option.some.inj H
            have hcv21 := own_string (P := Tryd.prog) Tryd.underlying22 Tryd.underlying5 Tryd.underlying9 (Kd.own_of_R HO_3.out)
            go_wp2
            go_ret
            exact ⟨by first | rfl | (simp [errW_none, errW_some] <;> rfl) | (simp only [← hji2]; first | rfl | (simp [errW_none, errW_some] <;> rfl)) | (simp [*, errW_none, errW_some] <;> rfl), by repeat (first | (with_reducible first | exact HB.out | apply below_alloc | apply pw_below_drewN | apply below_drew1) | exact HB.out)⟩
    · rw [if_neg c4] at H
      exact absurd H (by simp)
  · rw [if_neg c3] at H
    exact absurd H (by simp)
set_option maxHeartbeats 8000000 in
set_option maxRecDepth 100000 in
theorem text_itself.calls (a0 : Int) (r : Bool) (w : World) (h : text_itself.f a0 = some r) :
    Calls Tryd.prog 32 #[.int .u8 a0] w fun e w' => e = .returned (.bool r) ∧ Drawn0 w w' := by
  have H : (if a0 ≥ 32 then (if a0 ≤ 126 then (if a0 = 34 then (some false) else (some (a0 != 92))) else (some false)) else (some false)) = some r := h
  clear h
  by_cases c2 : a0 ≥ 32
  · rw [if_pos c2] at H
    have c2b0 : decide (32 ≤ a0) = true := decide_eq_true c2
    clear c2
    by_cases c3 : a0 ≤ 126
    · rw [if_pos c3] at H
      have c3b0 : decide (a0 ≤ 126) = true := decide_eq_true c3
      clear c3
      by_cases c4 : a0 = 34
      · rw [if_pos c4] at H
        have c4b0 : (a0 == 34) = true := beq_iff_eq.mpr c4
        have c4b1 : (a0 != 34) = false := bne_eq_false_iff_eq.mpr c4
        clear c4
        obtain rfl := Option.some.inj H
        go_enter Tryd.func32, Tryd.ntmps32
        go_wp2
        go_ret
        exact ⟨by first | rfl | (simp; done) | (simp [*]; done), by repeat (first | exact Drawn0.refl _ | apply Drawn0.step)⟩
      · rw [if_neg c4] at H
        have c4b0 : (a0 == 34) = false := beq_eq_false_iff_ne.mpr c4
        have c4b1 : (a0 != 34) = true := bne_iff_ne.mpr c4
        obtain rfl := Option.some.inj H
        go_enter Tryd.func32, Tryd.ntmps32
        go_wp2
        go_ret
        exact ⟨by first | rfl | (simp; done) | (simp [*]; done), by repeat (first | exact Drawn0.refl _ | apply Drawn0.step)⟩
    · rw [if_neg c3] at H
      have c3b0 : decide (a0 ≤ 126) = false := decide_eq_false c3
      clear c3
      obtain rfl := Option.some.inj H
      go_enter Tryd.func32, Tryd.ntmps32
      go_wp2
      go_ret
      exact ⟨by first | rfl | (simp; done) | (simp [*]; done), by repeat (first | exact Drawn0.refl _ | apply Drawn0.step)⟩
  · rw [if_neg c2] at H
    have c2b0 : decide (32 ≤ a0) = false := decide_eq_false c2
    clear c2
    obtain rfl := Option.some.inj H
    go_enter Tryd.func32, Tryd.ntmps32
    go_wp2
    go_ret
    exact ⟨by first | rfl | (simp; done) | (simp [*]; done), by repeat (first | exact Drawn0.refl _ | apply Drawn0.step)⟩
end Go.Proofs.YtljinjgamgmocaaDoor.G
end
section
namespace Go.Proofs.YtljinjgamgmocaaDoor.G
open Go.RowKit Go.Proofs.YtljinjgamgmocaaDoorW.PrintWords Go.Proofs.YtljinjgamgmocaaDoorW.PrintLast Go.Proofs.YtljinjgamgmocaaDoorW.PrintMore
attribute [local go_sem] max2_int min2_int max_two min_two max_three min_three max_four min_four   -- for this text's walks alone
set_option linter.unusedVariables false
set_option linter.unusedSimpArgs false
def text_Quote.T7 : Bool × List (List Nat × List Nat) := (true, [([], []), ([], []), ([1], [1]), ([2], [2]), ([3], [3]), ([], []), ([5], [5]), ([6], [6]), ([7], [7]), ([4, 8], [4, 8]), ([0, 9], [0, 9]), ([10, 10, 0, 1, 2, 3, 4, 5, 6, 7, 8, 9, 10], [0, 10])])
def text_Quote.B7 : List Nat := [0, 0, 2, 6, 14, 0, 32, 96, 224, 510, 1023, 2047]
theorem text_Quote.tab7 : rtab .any (opsOf Tryd.f13 7) = text_Quote.T7 := by kernel_rfl
theorem text_Quote.bits7 : waitsOk text_Quote.T7.2 text_Quote.B7 = true := by kernel_rfl
set_option maxHeartbeats 8000000 in
set_option maxRecDepth 100000 in
theorem text_Quote.calls (k : Nat) (A0 : Option Addr) (c0 : Nat) (l0 : List Int) (r : ByteArray) (w : World) (hr0 : Kd.C (Kd.int .u8) w A0 l0.length l0) (hc0 : l0.length ≤ c0) (hLD : LayD w) (h : text_Quote.f k l0 = some r) :
    Calls Tryd.prog 13 #[.slice A0 l0.length c0] w fun e w' => e = .returned (.string r) ∧ Below w.heap.size w w' := by
  have HR0 := Aside0.mk hr0
  have HC0 := Aside0.mk hc0
  clear hr0 hc0
  have HB := Aside0.mk (Below.refl w.heap.size w)
  have HLayD := Aside0.mk hLD
  clear hLD
  have HRt0 := Aside0.mk (LayD.digits HLayD.out)
  have H : (text_Quote.l0 k (([34] : List Int)) l0 (l0.length : Int) 0) = some r := h
  clear h
  obtain ⟨y113, hy113⟩ : ∃ y_ : List Int, y_ = (([34] : List Int)) := ⟨_, rfl⟩
  replace H : (text_Quote.l0 k y113 l0 (l0.length : Int) 0) = some r := by first | (rw [hy113]; with_reducible exact H) | (have H2_ := (Option.bind_some _ _).symm.trans H; rw [hy113]; with_reducible exact H2_) | (have H2_ := (Option.bind_some _ _).symm.trans H; with_reducible exact H2_) | with_reducible exact H | (rw [hy113]; exact H) | exact H
  have Ny113 := Aside0.mk hy113
  clear hy113
  have H' := Aside0.mk H
  clear H
  go_enter Tryd.func13, Tryd.ntmps13
  go_wp2_with (first | ((with_reducible refine gate_dst (N := 6) rfl ?_); refine Kd.R_lit (Kd.int .u8) _ 5 ?hg (N := 6) ?hd (xs := ([34] : List Int)) (inner := [.int .u8 34]) (ok := fun _ => True) (okp := fun _ => True) ?hr ?hp (fun _ hk => hk) trivial (Below.refl _ _) (Nat.le_refl _) (by simp) ?_; (case hd => rfl); (case hg => rfl); (case hr => first | (go_simp; done) | (go_simp; rfl)); (case hp => exact (Reps.one (show Kd.M (Kd.int .u8) _ _ _ 34 [.int .u8 34] from rfl) (Reps.none _ _))); intro v114 w2 ho3 hb hg_ hnew_; clear hg_ hnew_; (first | rw [← Ny113.out] at ho3 | (simp only [Int.reduceToNat] at ho3; rw [← Ny113.out] at ho3)); have n0_ := Aside0.mk (Kd.R_lower ho3 (below_size (by repeat (first | (with_reducible first | exact HB.out | apply below_alloc | apply pw_below_drewN | apply below_drew1) | exact HB.out)))); have n1_ := Aside0.mk (below_step (by repeat (first | (with_reducible first | exact HB.out | apply below_alloc | apply pw_below_drewN | apply below_drew1) | exact HB.out)) hb); clear HB; have HO115 := n0_; have HB := n1_; clear n0_ n1_; clear hb ho3))
  go_loopg [3, 9] k (fun kq v3 v9 w' => ∃ (x3_1 : List Int) (x9_1 : Int), v9 = .int .i64 x9_1 ∧ Aside0 (text_Quote.l0 kq x3_1 l0 (l0.length : Int) x9_1 = some r) ∧ Aside0 (kq ≤ k) ∧ Aside0 (Kd.R (Kd.int .u8) 5 w' w.heap.size (fun _ => True) v3 x3_1) ∧ Aside0 (Below w.heap.size w w'))
  case atStart => exact ⟨(y113), (0), (by first | rfl | (simp; done) | (simp [*]; done)), H', ⟨Nat.le_refl _⟩, ⟨by (with_reducible repeat (first | apply Kd.R_alloc | apply Kd.R_drewN | apply Kd.R_drew)); exact HO115.out⟩, ⟨by repeat (first | (with_reducible first | exact HB.out | apply below_alloc | apply pw_below_drewN | apply below_drew1) | exact HB.out)⟩⟩
  case round =>
    clear H'
    try clear c1
    try clear p2
    obtain ⟨x3_1, x9_1, rfl, HA, HK1, HO_3, HB⟩ := hrel
    cases gk with
    | zero => exact absurd HA.out (by simp [text_Quote.l0])
    | succ k1 =>
      have H := HA.out
      clear HA
      simp only [text_Quote.l0] at H
      by_cases c4 : x9_1 < (l0.length : Int)
      · rw [if_pos c4] at H
        have c4b0 : decide (x9_1 < (l0.length : Int)) = true := decide_eq_true c4
        clear c4
        by_cases c5 : 0 ≤ x9_1
        · rw [if_pos c5] at H
          have c5b0 : decide (0 ≤ x9_1) = true := decide_eq_true c5
          clear c5
          by_cases c6 : x9_1 < (l0.length : Int)
          · rw [if_pos c6] at H
            have c6b0 : decide (x9_1 < (l0.length : Int)) = true := decide_eq_true c6
            clear c6
            replace H := Option.bind_eq_some_iff.mp H
            obtain ⟨t117, A70, H⟩ := H
            replace H : (if t117 = true then (if x3_1.length < 140737488355328 then (text_Quote.l0 k1 (x3_1 ++ [rd l0 x9_1]) l0 (l0.length : Int) (wrap64 (x9_1 + 1))) else (none)) else (if 0 ≤ ((rd l0 x9_1) / 16) then (if ((rd l0 x9_1) / 16) < 16 then (if 0 ≤ (Go.bits .and .u8 (rd l0 x9_1) 15) then (if (Go.bits .and .u8 (rd l0 x9_1) 15) < 16 then ((some (([92, 120, rd digitsTab ((rd l0 x9_1) / 16), rd digitsTab (Go.bits .and .u8 (rd l0 x9_1) 15)] : List Int) : List Int)).bind fun y123 => (if x3_1.length + y123.length < 140737488355328 then (text_Quote.l0 k1 (x3_1 ++ y123) l0 (l0.length : Int) (wrap64 (x9_1 + 1))) else (none))) else (none)) else (none)) else (none)) else (none))) = some r := H
            have A7 := Aside0.mk A70
            clear A70
            by_cases c8 : t117 = true
            · subst c8
              have H1 : (if x3_1.length < 140737488355328 then (text_Quote.l0 k1 (x3_1 ++ [rd l0 x9_1]) l0 (l0.length : Int) (wrap64 (x9_1 + 1))) else (none)) = some r := by rw [if_pos rfl] at H; exact H
              clear H
              have H := H1
              clear H1
              by_cases c9 : x3_1.length < 140737488355328
              · rw [if_pos c9] at H
                have LMc9 := Aside0.mk c9
                clear c9
                obtain ⟨y118, hy118⟩ : ∃ y_ : List Int, y_ = (x3_1 ++ [rd l0 x9_1]) := ⟨_, rfl⟩
                replace H : (text_Quote.l0 k1 y118 l0 (l0.length : Int) (wrap64 (x9_1 + 1))) = some r := by first | (rw [hy118]; with_reducible exact H) | (have H2_ := (Option.bind_some _ _).symm.trans H; rw [hy118]; with_reducible exact H2_) | (have H2_ := (Option.bind_some _ _).symm.trans H; with_reducible exact H2_) | with_reducible exact H | (rw [hy118]; exact H) | exact H
                have Ny118 := Aside0.mk hy118
                clear hy118
                have H' := Aside0.mk H
                clear H
                have p116 : 0 ≤ (x9_1 : Int) := of_decide_eq_true (by first | (with_reducible assumption) | assumption)
                have q116 : x9_1 < (l0.length : Int) := of_decide_eq_true (by first | (with_reducible assumption) | assumption)
                obtain ⟨ad116, e116, hx116_0⟩ := Kd.at_int HR0.out x9_1 p116 q116
                cases e116
                replace hx116_0 := (HB.out.cell (World.block_lt_of_cell? w _ hx116_0)).trans hx116_0
                replace p116 := eq_true p116
                replace q116 := eq_true q116
                go_wp2_with (first | ((with_reducible refine gate_callee (f := 32) rfl ?_); refine goesL_ (some 14) rfl rfl Tryd.func32 (by kernel_rfl) rfl #[.int .u8 (rd l0 x9_1)] rfl (by (try simp only [List.map_toArray, List.map_cons, List.map_nil]); first | done | rfl | (simp only [List.length_drop, List.length_take]; rfl)) ?_; (with_reducible refine (text_itself.calls (rd l0 x9_1) true _ A7.out).mono ?_); rintro e w' ⟨rfl, ⟨nd, rfl⟩⟩; refine ⟨_, rfl, ?_⟩) | ((with_reducible refine gate_builtin (b := .append) (xs := #[.tmp 15, .tmp 17]) rfl ?_); at_builtin; refine Kd.R_append (Kd.int .u8) (w0 := w) w.heap.size rfl (.tmp 15) (.tmp 17) 22 5 (.int .u8 0) 1 rfl Tryd.underlying22 info5 rfl (by decide) (by omega) u3 x3_1 (rd l0 x9_1) [.int .u8 (rd l0 x9_1)] (fun _ => True) (fun _ => False) rfl rfl ?aP (fun _ hk => hk.elim) ?aF ?aO ?aB ?aS ?aL ?_; (case aP => exact rfl); (case aB => exact (by repeat (first | (with_reducible first | exact HB.out | apply below_alloc | apply pw_below_drewN | apply below_drew1) | exact HB.out))); (case aF => exact (fun _ _ => trivial)); (case aO => exact (by (with_reducible repeat (first | apply Kd.R_alloc | apply Kd.R_drewN | apply Kd.R_drew)); exact HO_3.out)); (case aS => exact (below_size (by repeat (first | (with_reducible first | exact HB.out | apply below_alloc | apply pw_below_drewN | apply below_drew1) | exact HB.out)))); (case aL => have := LMc9.out; omega); intro v119 w10 ho hb hg hat; rw [← Ny118.out] at ho; have n0_ := Aside0.mk (hb); have n1_ := Aside0.mk (ho); clear HB; clear HO_3; have HB := n0_; have HO120 := n1_; clear n0_ n1_; clear ho hb hg hat))
                go_roundg k1
                case measure => have := HK1.out; omega
                case rel => exact ⟨(y118), (wrap64 (x9_1 + 1)), (by first | rfl | (simp; done) | (simp [*]; done)), H', ⟨by have := HK1.out; omega⟩, ⟨by (with_reducible repeat (first | apply Kd.R_alloc | apply Kd.R_drewN | apply Kd.R_drew)); exact HO120.out⟩, ⟨by repeat (first | (with_reducible first | exact HB.out | apply below_alloc | apply pw_below_drewN | apply below_drew1) | exact HB.out)⟩⟩
              · rw [if_neg c9] at H
                exact absurd H (by simp)
            · replace c8 := Bool.eq_false_iff.mpr c8
              subst c8
              have H1 : (if 0 ≤ ((rd l0 x9_1) / 16) then (if ((rd l0 x9_1) / 16) < 16 then (if 0 ≤ (Go.bits .and .u8 (rd l0 x9_1) 15) then (if (Go.bits .and .u8 (rd l0 x9_1) 15) < 16 then ((some (([92, 120, rd digitsTab ((rd l0 x9_1) / 16), rd digitsTab (Go.bits .and .u8 (rd l0 x9_1) 15)] : List Int) : List Int)).bind fun y123 => (if x3_1.length + y123.length < 140737488355328 then (text_Quote.l0 k1 (x3_1 ++ y123) l0 (l0.length : Int) (wrap64 (x9_1 + 1))) else (none))) else (none)) else (none)) else (none)) else (none)) = some r := by rw [if_neg (show ¬ (false = true) by decide)] at H; exact H
              clear H
              have H := H1
              clear H1
              obtain ⟨ji11, hji11⟩ : ∃ j_ : Int, ((rd l0 x9_1) / 16) = j_ := ⟨_, rfl⟩
              replace H : (if 0 ≤ (ji11) then (if (ji11) < 16 then (if 0 ≤ (Go.bits .and .u8 (rd l0 x9_1) 15) then (if (Go.bits .and .u8 (rd l0 x9_1) 15) < 16 then ((some (([92, 120, rd digitsTab (ji11), rd digitsTab (Go.bits .and .u8 (rd l0 x9_1) 15)] : List Int) : List Int)).bind fun y123 => (if x3_1.length + y123.length < 140737488355328 then (text_Quote.l0 k1 (x3_1 ++ y123) l0 (l0.length : Int) (wrap64 (x9_1 + 1))) else (none))) else (none)) else (none)) else (none)) else (none)) = some r := by first | (rw [hji11] at H; exact H) | (simp only [hji11] at H ⊢; exact H)
              (try rw [hji11] at A7)
              by_cases c12 : 0 ≤ (ji11)
              · rw [if_pos c12] at H
                have c12b0 : decide (0 ≤ (ji11)) = true := decide_eq_true c12
                clear c12
                by_cases c13 : (ji11) < 16
                · rw [if_pos c13] at H
                  have c13b0 : decide ((ji11) < 16) = true := decide_eq_true c13
                  clear c13
                  by_cases c14 : 0 ≤ (Go.bits .and .u8 (rd l0 x9_1) 15)
                  · rw [if_pos c14] at H
                    have c14b0 : decide (0 ≤ (Go.bits .and .u8 (rd l0 x9_1) 15)) = true := decide_eq_true c14
                    clear c14
                    by_cases c15 : (Go.bits .and .u8 (rd l0 x9_1) 15) < 16
                    · rw [if_pos c15] at H
                      have c15b0 : decide ((Go.bits .and .u8 (rd l0 x9_1) 15) < 16) = true := decide_eq_true c15
                      clear c15
                      obtain ⟨y123, hy123⟩ : ∃ y_ : List Int, y_ = (([92, 120, rd digitsTab (ji11), rd digitsTab (Go.bits .and .u8 (rd l0 x9_1) 15)] : List Int)) := ⟨_, rfl⟩
                      replace H : (if x3_1.length + y123.length < 140737488355328 then (text_Quote.l0 k1 (x3_1 ++ y123) l0 (l0.length : Int) (wrap64 (x9_1 + 1))) else (none)) = some r := by first | (rw [hy123]; with_reducible exact H) | (have H2_ := (Option.bind_some _ _).symm.trans H; rw [hy123]; with_reducible exact H2_) | (have H2_ := (Option.bind_some _ _).symm.trans H; with_reducible exact H2_) | with_reducible exact H | (rw [hy123]; exact H) | exact H
                      have Ny123 := Aside0.mk hy123
                      clear hy123
                      by_cases c16 : x3_1.length + y123.length < 140737488355328
                      · rw [if_pos c16] at H
                        have LMc16 := Aside0.mk c16
                        clear c16
                        obtain ⟨y126, hy126⟩ : ∃ y_ : List Int, y_ = (x3_1 ++ y123) := ⟨_, rfl⟩
                        replace H : (text_Quote.l0 k1 y126 l0 (l0.length : Int) (wrap64 (x9_1 + 1))) = some r := by first | (rw [hy126]; with_reducible exact H) | (have H2_ := (Option.bind_some _ _).symm.trans H; rw [hy126]; with_reducible exact H2_) | (have H2_ := (Option.bind_some _ _).symm.trans H; with_reducible exact H2_) | with_reducible exact H | (rw [hy126]; exact H) | exact H
                        have Ny126 := Aside0.mk hy126
                        clear hy126
                        have H' := Aside0.mk H
                        clear H
                        have p116 : 0 ≤ (x9_1 : Int) := of_decide_eq_true (by first | (with_reducible assumption) | assumption)
                        have q116 : x9_1 < (l0.length : Int) := of_decide_eq_true (by first | (with_reducible assumption) | assumption)
                        obtain ⟨ad116, e116, hx116_0⟩ := Kd.at_int HR0.out x9_1 p116 q116
                        cases e116
                        replace hx116_0 := (HB.out.cell (World.block_lt_of_cell? w _ hx116_0)).trans hx116_0
                        replace p116 := eq_true p116
                        replace q116 := eq_true q116
                        try go_wp2_with (first | ((with_reducible refine gate_callee (f := 32) rfl ?_); refine goesL_ (some 14) rfl rfl Tryd.func32 (by kernel_rfl) rfl #[.int .u8 (rd l0 x9_1)] rfl (by (try simp only [List.map_toArray, List.map_cons, List.map_nil]); first | done | rfl | (simp only [List.length_drop, List.length_take]; rfl)) ?_; (with_reducible refine (text_itself.calls (rd l0 x9_1) false _ A7.out).mono ?_); rintro e w' ⟨rfl, ⟨nd, rfl⟩⟩; refine ⟨_, rfl, ?_⟩))
                        (try (rw [drewN_self wr]; generalize hq_ : World.drewN wr _ = wr; have n0_ : Aside0 (Kd.R (Kd.int .u8) 5 wr w.heap.size (fun _ => True) u3 x3_1) := ⟨by rw [← hq_]; exact (by (with_reducible repeat (first | apply Kd.R_alloc | apply Kd.R_drewN | apply Kd.R_drew)); exact HO_3.out)⟩; have n1_ : Aside0 (Below w.heap.size w wr) := ⟨by rw [← hq_]; exact (by repeat (first | (with_reducible first | exact HB.out | apply below_alloc | apply pw_below_drewN | apply below_drew1) | exact HB.out))⟩; clear HO_3 HB hq_; have HO_3 := n0_; have HB := n1_; clear n0_ n1_))
                        have n0_ := Aside0.mk (Kd.R_drew HO_3.out)
                        have n1_ := Aside0.mk (below_drew1 HB.out)
                        clear HO_3
                        clear HB
                        have HO_3 := n0_
                        have HB := n1_
                        clear n0_ n1_
                        have p121 : 0 ≤ ((ji11) : Int) := of_decide_eq_true (by first | (with_reducible assumption) | assumption)
                        have q121 : (ji11) < (digitsTab.length : Int) := (by have h_ : ((ji11) : Int) < (16 : Int) := of_decide_eq_true (by first | (with_reducible assumption) | assumption); have e_ := digitsTab_len; omega)
                        have ql121 : (((ji11) : Int) < (16 : Int)) = True := eq_true (of_decide_eq_true (by first | (with_reducible assumption) | assumption))
                        obtain ⟨ad121, e121, hx121_0⟩ := Kd.at_int HRt0.out (ji11) p121 q121
                        have hw121_0 := hx121_0
                        obtain rfl : (⟨0, 0, none⟩ : Addr) = ad121 := (by injection e121)
                        (first | simp only [add_plain] at hx121_0 | simp only [add_at] at hx121_0 | simp only [Addr.add, Nat.zero_add] at hx121_0 | skip)
                        (try rw [add_plain] at hw121_0)
                        replace hx121_0 := (HB.out.cell (World.block_lt_of_cell? w _ hx121_0)).trans hx121_0
                        replace p121 := eq_true p121
                        replace q121 := eq_true q121
                        have p122 : 0 ≤ ((Go.bits .and .u8 (rd l0 x9_1) 15) : Int) := of_decide_eq_true (by first | (with_reducible assumption) | assumption)
                        have q122 : (Go.bits .and .u8 (rd l0 x9_1) 15) < (digitsTab.length : Int) := (by have h_ : ((Go.bits .and .u8 (rd l0 x9_1) 15) : Int) < (16 : Int) := of_decide_eq_true (by first | (with_reducible assumption) | assumption); have e_ := digitsTab_len; omega)
                        have ql122 : (((Go.bits .and .u8 (rd l0 x9_1) 15) : Int) < (16 : Int)) = True := eq_true (of_decide_eq_true (by first | (with_reducible assumption) | assumption))
                        obtain ⟨ad122, e122, hx122_0⟩ := Kd.at_int HRt0.out (Go.bits .and .u8 (rd l0 x9_1) 15) p122 q122
                        have hw122_0 := hx122_0
                        obtain rfl : (⟨0, 0, none⟩ : Addr) = ad122 := (by injection e122)
                        (first | simp only [add_plain] at hx122_0 | simp only [add_at] at hx122_0 | simp only [Addr.add, Nat.zero_add] at hx122_0 | skip)
                        (try rw [add_plain] at hw122_0)
                        replace hx122_0 := (HB.out.cell (World.block_lt_of_cell? w _ hx122_0)).trans hx122_0
                        replace p122 := eq_true p122
                        replace q122 := eq_true q122
                        refine start_ (n := 12) (S := fun w' => w'.cell? ⟨0, ((ji11)).toNat, none⟩ = some (.int .u8 (rd digitsTab (ji11))) ∧ w'.cell? ⟨0, ((Go.bits .and .u8 (rd l0 x9_1) 15)).toNat, none⟩ = some (.int .u8 (rd digitsTab (Go.bits .and .u8 (rd l0 x9_1) 15)))) (ds := []) #[false, false, false, false, false, false, false, false, false, false, false, false] (by kernel_rfl) rfl rfl ⟨((HB.out.cell (World.block_lt_of_cell? w _ hw121_0)).trans hw121_0), ((HB.out.cell (World.block_lt_of_cell? w _ hw122_0)).trans hw122_0)⟩ (fun hHeld => ?_); refine with_tabW text_Quote.tab7 text_Quote.bits7 (fun HT_ HW_ => ?_)
                        generalize wr.drew = w17 at HO_3 HB hx121_0 hx122_0 hHeld ⊢
                        refine pure_ (i := 0) (N := some 19) (v := ?_) (a' := ?_) #[true, false, false, false, false, false, false, false, false, false, false, false] rfl rfl (any_of HT_.out (by kernel_rfl)) (fun _ _ _ h => h) (Or.inl ⟨by rfl, ?_⟩) ?_ ?_
                        rotate_left
                        · intro w'
                          go_simp
                          with_reducible rfl
                        rotate_left
                        · simp only [Act.put, List.setIfInBounds_toArray, List.set_cons_zero, List.set_cons_succ, i64_w, i32_w]
                          rfl
                        refine pure_ (i := 1) (N := some 20) (v := ?_) (a' := ?_) #[true, true, false, false, false, false, false, false, false, false, false, false] rfl rfl (any_of HT_.out (by kernel_rfl)) (fun _ _ _ h => h) (Or.inl ⟨by rfl, ?_⟩) ?_ ?_
                        rotate_left
                        · intro w'
                          go_simp
                          with_reducible rfl
                        rotate_left
                        · simp only [Act.put, List.setIfInBounds_toArray, List.set_cons_zero, List.set_cons_succ, i64_w, i32_w]
                          rfl
                        refine pure_ (i := 2) (N := some 21) (v := ?_) (a' := ?_) #[true, true, true, false, false, false, false, false, false, false, false, false] rfl rfl (any_of HT_.out (by kernel_rfl)) (fun _ _ _ h => h) (Or.inl ⟨by rfl, ?_⟩) ?_ ?_
                        rotate_left
                        · intro w'
                          go_simp
                          with_reducible rfl
                        rotate_left
                        · simp only [Act.put, List.setIfInBounds_toArray, List.set_cons_zero, List.set_cons_succ, i64_w, i32_w]
                          rfl
                        refine pure_ (i := 3) (N := some 22) (v := ?_) (a' := ?_) #[true, true, true, true, false, false, false, false, false, false, false, false] rfl rfl (any_of HT_.out (by kernel_rfl)) (fun _ _ _ h => h) (Or.inl ⟨by rfl, ?_⟩) ?_ ?_
                        rotate_left
                        · intro w'
                          go_simp
                          with_reducible rfl
                        rotate_left
                        · simp only [Act.put, List.setIfInBounds_toArray, List.set_cons_zero, List.set_cons_succ, i64_w, i32_w]
                          rfl
                        refine pure_ (i := 5) (N := some 24) (v := ?_) (a' := ?_) #[true, true, true, true, false, true, false, false, false, false, false, false] rfl rfl (any_of HT_.out (by kernel_rfl)) (fun _ _ _ h => h) (Or.inl ⟨by rfl, ?_⟩) ?_ ?_
                        rotate_left
                        · intro w'
                          go_simp
                          with_reducible rfl
                        rotate_left
                        · simp only [Act.put, List.setIfInBounds_toArray, List.set_cons_zero, List.set_cons_succ, i64_w, i32_w]
                          rfl
                        refine pure_ (i := 6) (N := some 25) (v := ?_) (a' := ?_) #[true, true, true, true, false, true, true, false, false, false, false, false] rfl rfl (any_of HT_.out (by kernel_rfl)) (fun _ _ _ h => h) (Or.inl ⟨by rfl, ?_⟩) ?_ ?_
                        rotate_left
                        · intro w'
                          go_simp
                          with_reducible rfl
                        rotate_left
                        · simp only [Act.put, List.setIfInBounds_toArray, List.set_cons_zero, List.set_cons_succ, i64_w, i32_w]
                          rfl
                        refine pure_ (i := 7) (N := some 26) (v := ?_) (a' := ?_) #[true, true, true, true, false, true, true, true, false, false, false, false] rfl rfl (any_of HT_.out (by kernel_rfl)) (fun _ _ _ h => h) (Or.inl ⟨by rfl, ?_⟩) ?_ ?_
                        rotate_left
                        · intro w'
                          go_simp
                          with_reducible rfl
                        rotate_left
                        · simp only [Act.put, List.setIfInBounds_toArray, List.set_cons_zero, List.set_cons_succ, i64_w, i32_w]
                          rfl
                        refine take_ (i := 4) (N := some 23) (v := ?_) (a' := ?_) #[true, true, true, true, true, true, true, true, false, false, false, false] rfl rfl (take_ofW HT_.out HW_.out (by kernel_rfl)) (fun _ _ _ h => h) (Or.inl ⟨by rfl, ?_⟩) hHeld ?_ ?_
                        rotate_left
                        · rintro w' ⟨s0, s1⟩
                          go_simp
                          with_reducible rfl
                        rotate_left
                        · simp only [Act.put, List.setIfInBounds_toArray, List.set_cons_zero, List.set_cons_succ, i64_w, i32_w]
                          rfl
                        refine take_ (i := 8) (N := some 27) (v := ?_) (a' := ?_) #[true, true, true, true, true, true, true, true, true, false, false, false] rfl rfl (take_ofW HT_.out HW_.out (by kernel_rfl)) (fun _ _ _ h => h) (Or.inl ⟨by rfl, ?_⟩) hHeld ?_ ?_
                        rotate_left
                        · rintro w' ⟨s0, s1⟩
                          go_simp
                          with_reducible rfl
                        rotate_left
                        · simp only [Act.put, List.setIfInBounds_toArray, List.set_cons_zero, List.set_cons_succ, i64_w, i32_w]
                          rfl
                        refine one_ (i := 9) (N := some 28) #[true, true, true, true, true, true, true, true, true, true, false, false] rfl rfl (one_of HT_.out (by kernel_rfl)) (by decide) (fun K hK => ?_)
                        refine Kd.R_lit_step (Kd.int .u8) _ 5 ?hg (N := 28) ?hd (xs := ([92, 120, rd digitsTab (ji11), rd digitsTab (Go.bits .and .u8 (rd l0 x9_1) 15)] : List Int)) (inner := [.int .u8 92, .int .u8 120, .int .u8 (rd digitsTab (ji11)), .int .u8 (rd digitsTab (Go.bits .and .u8 (rd l0 x9_1) 15))]) (ok := fun _ => True) (okp := fun _ => True) ?hr ?hp (fun _ hk => hk) trivial (Below.refl _ _) (Nat.le_refl _) (by simp) ?_; (case hd => rfl); (case hg => rfl); (case hr => first | (go_simp; done) | (go_simp; rfl)); (case hp => exact (Reps.one (show Kd.M (Kd.int .u8) _ _ _ 92 [.int .u8 92] from rfl) (Reps.one (show Kd.M (Kd.int .u8) _ _ _ 120 [.int .u8 120] from rfl) (Reps.one (show Kd.M (Kd.int .u8) _ _ _ (rd digitsTab (ji11)) [.int .u8 (rd digitsTab (ji11))] from rfl) (Reps.one (show Kd.M (Kd.int .u8) _ _ _ (rd digitsTab (Go.bits .and .u8 (rd l0 x9_1) 15)) [.int .u8 (rd digitsTab (Go.bits .and .u8 (rd l0 x9_1) 15))] from rfl) (Reps.none _ _))))))
                        intro v124 w18 ho19 hb hg_ hnew_
                        clear hg_ hnew_
                        (first | rw [← Ny123.out] at ho19 | (simp only [Int.reduceToNat] at ho19; rw [← Ny123.out] at ho19))
                        have n0_ := Aside0.mk (Kd.R_elder' (by (with_reducible repeat (first | apply Kd.R_alloc | apply Kd.R_drewN | apply Kd.R_drew)); exact HO_3.out) (Kd.R_base ho19) hb)
                        have n1_ := Aside0.mk (Kd.R_lower (Kd.R_new' ho19 (Kd.R_lt (by (with_reducible repeat (first | apply Kd.R_alloc | apply Kd.R_drewN | apply Kd.R_drew)); exact HO_3.out))) (below_size (by repeat (first | (with_reducible first | exact HB.out | apply below_alloc | apply pw_below_drewN | apply below_drew1) | exact HB.out))))
                        have n2_ := Aside0.mk (below_step (by repeat (first | (with_reducible first | exact HB.out | apply below_alloc | apply pw_below_drewN | apply below_drew1) | exact HB.out)) hb)
                        clear HO_3
                        clear HB
                        have HO_3 := n0_
                        have HO125 := n1_
                        have HB := n2_
                        clear n0_ n1_ n2_
                        clear hb ho19
                        obtain ⟨Ao21, co21, eo21⟩ := Kd.R_slice HO125.out
                        (first | subst eo21 | (injection eo21 with f1_ f2_ f3_; have f4_ := f1_.symm; have f5_ := f3_.symm; clear f1_ f2_ f3_; subst f4_; subst f5_))
                        refine hK.out _ _ ⟨((HB.out.cell (World.block_lt_of_cell? w _ hw121_0)).trans hw121_0), ((HB.out.cell (World.block_lt_of_cell? w _ hw122_0)).trans hw122_0)⟩ (fun hHeld => ?_)
                        clear hK K
                        refine norm_ (a' := ?_) ?_ ?_
                        rotate_left
                        · show Act.put _ (some 28) _ = _
                          simp only [Act.put, List.setIfInBounds_toArray, List.set_cons_zero, List.set_cons_succ, i64_w, i32_w]
                          rfl
                        refine one_ (i := 10) (N := some 29) #[true, true, true, true, true, true, true, true, true, true, true, false] rfl rfl (one_of HT_.out (by kernel_rfl)) (by decide) (fun K hK => ?_)
                        refine Kd.R_append_rows_step (Kd.int .u8) (w0 := w) w.heap.size (by rfl) (.tmp 19) (.tmp 28) 22 5 (.int .u8 0) 1 rfl Tryd.underlying22 info5 rfl (by decide) (by omega) u3 x3_1 y123 _ _ _ (fun k_ => some k_ ≠ (.slice Ao21 y123.length co21 : Value).ownBlock) (fun _ => False) rfl rfl ?aO ?aR (fun _ _ h => h) (fun _ h => h.elim) ?aF ?aB ?aS ?aL ?_
                        (case aR => repeat (first | exact (Kd.R_reads' HO125.out).2.2 | (with_reducible refine Kd.C_alloc ?_ _) | (with_reducible refine Kd.C_drewN ?_ _) | (with_reducible refine Kd.C_drew ?_)))
                        (case aB => exact (by repeat (first | (with_reducible first | exact HB.out | apply below_alloc | apply pw_below_drewN | apply below_drew1) | exact HB.out)))
                        (case aF => exact (fun k_ hk => Kd.fresh' (Kd.R_lt (by (with_reducible repeat (first | apply Kd.R_alloc | apply Kd.R_drewN | apply Kd.R_drew)); exact HO125.out)) k_ hk))
                        (case aO => exact (by (with_reducible repeat (first | apply Kd.R_alloc | apply Kd.R_drewN | apply Kd.R_drew)); exact Kd.R_mono HO_3.out (fun _ hk => hk.2)))
                        (case aS => exact (below_size (by repeat (first | (with_reducible first | exact HB.out | apply below_alloc | apply pw_below_drewN | apply below_drew1) | exact HB.out))))
                        (case aL => have := LMc16.out; omega)
                        intro v127 w20 ho hb hg hat
                        rw [← Ny126.out] at ho
                        have n0_ := Aside0.mk (Kd.R_after (ok := (fun _ => True)) (by (with_reducible repeat (first | apply Kd.R_alloc | apply Kd.R_drewN | apply Kd.R_drew)); exact HO125.out) hg hat)
                        have n1_ := Aside0.mk (hb)
                        have n2_ := Aside0.mk (ho)
                        clear HO125
                        clear HB
                        clear HO_3
                        have HO125 := n0_
                        have HB := n1_
                        have HO128 := n2_
                        clear n0_ n1_ n2_
                        clear ho hb hg hat
                        refine hK.out _ _ ⟨((HB.out.cell (World.block_lt_of_cell? w _ hw121_0)).trans hw121_0), ((HB.out.cell (World.block_lt_of_cell? w _ hw122_0)).trans hw122_0)⟩ (fun hHeld => ?_)
                        clear hK K
                        refine norm_ (a' := ?_) ?_ ?_
                        rotate_left
                        · show Act.put _ (some 29) _ = _
                          simp only [Act.put, List.setIfInBounds_toArray, List.set_cons_zero, List.set_cons_succ, i64_w, i32_w]
                          rfl
                        refine pure_ (i := 11) (N := some 3) (v := ?_) (a' := ?_) #[true, true, true, true, true, true, true, true, true, true, true, true] rfl rfl (any_of HT_.out (by kernel_rfl)) (fun _ _ _ h => h) (Or.inl ⟨by rfl, ?_⟩) ?_ ?_
                        rotate_left
                        · intro w'
                          go_simp
                          with_reducible rfl
                        rotate_left
                        · simp only [Act.put, List.setIfInBounds_toArray, List.set_cons_zero, List.set_cons_succ, i64_w, i32_w]
                          rfl
                        refine done_ (done_of HT_.out (by kernel_rfl)) ?_
                        try go_wp2
                        go_roundg k1
                        case measure => have := HK1.out; omega
                        case rel => exact ⟨(y126), (wrap64 (x9_1 + 1)), (by first | rfl | (simp; done) | (simp [*]; done)), H', ⟨by have := HK1.out; omega⟩, ⟨by (with_reducible repeat (first | apply Kd.R_alloc | apply Kd.R_drewN | apply Kd.R_drew)); exact Kd.R_mono HO128.out (fun _ hk => trivial)⟩, ⟨by repeat (first | (with_reducible first | exact HB.out | apply below_alloc | apply pw_below_drewN | apply below_drew1) | exact HB.out)⟩⟩
                      · rw [if_neg c16] at H
                        exact absurd H (by simp)
                    · rw [if_neg c15] at H
                      exact absurd H (by simp)
                  · rw [if_neg c14] at H
                    exact absurd H (by simp)
                · rw [if_neg c13] at H
                  exact absurd H (by simp)
              · rw [if_neg c12] at H
                exact absurd H (by simp)
          · rw [if_neg c6] at H
            exact absurd H (by simp)
        · rw [if_neg c5] at H
          exact absurd H (by simp)
      · rw [if_neg c4] at H
        have c4b0 : decide (x9_1 < (l0.length : Int)) = false := decide_eq_false c4
        clear c4
        by_cases c22 : x3_1.length < 140737488355328
        · rw [if_pos c22] at H
          have LMc22 := Aside0.mk c22
          clear c22
          obtain ⟨y129, hy129⟩ : ∃ y_ : List Int, y_ = (x3_1 ++ [34]) := ⟨_, rfl⟩
          replace H : (some (strOfNums y129)) = some r := by first | (rw [hy129]; with_reducible exact H) | (have H2_ := (Option.bind_some _ _).symm.trans H; rw [hy129]; with_reducible exact H2_) | (have H2_ := (Option.bind_some _ _).symm.trans H; with_reducible exact H2_) | with_reducible exact H | (rw [hy129]; exact H) | exact H
          have Ny129 := Aside0.mk hy129
          clear hy129
          obtain rfl := Option.some.inj H
          go_wp2_with (first | ((with_reducible refine gate_builtin (b := .append) (xs := #[.tmp 31, .tmp 32]) rfl ?_); at_builtin; refine Kd.R_append (Kd.int .u8) (w0 := w) w.heap.size rfl (.tmp 31) (.tmp 32) 22 5 (.int .u8 0) 1 rfl Tryd.underlying22 info5 rfl (by decide) (by omega) u3 x3_1 34 [.int .u8 34] (fun _ => True) (fun _ => False) rfl rfl ?aP (fun _ hk => hk.elim) ?aF ?aO ?aB ?aS ?aL ?_; (case aP => exact rfl); (case aB => exact (by repeat (first | (with_reducible first | exact HB.out | apply below_alloc | apply pw_below_drewN | apply below_drew1) | exact HB.out))); (case aF => exact (fun _ _ => trivial)); (case aO => exact (by (with_reducible repeat (first | apply Kd.R_alloc | apply Kd.R_drewN | apply Kd.R_drew)); exact HO_3.out)); (case aS => exact (below_size (by repeat (first | (with_reducible first | exact HB.out | apply below_alloc | apply pw_below_drewN | apply below_drew1) | exact HB.out)))); (case aL => have := LMc22.out; omega); intro v130 w23 ho hb hg hat; rw [← Ny129.out] at ho; have n0_ := Aside0.mk (hb); have n1_ := Aside0.mk (ho); clear HB; clear HO_3; have HB := n0_; have HO131 := n1_; clear n0_ n1_; clear ho hb hg hat; have hcv24 := own_string (P := Tryd.prog) Tryd.underlying22 Tryd.underlying5 Tryd.underlying9 (Kd.own_of_R HO131.out)))
          go_ret
          exact ⟨by first | rfl | (simp [errW_none, errW_some] <;> rfl) | (simp [*, errW_none, errW_some] <;> rfl), by repeat (first | (with_reducible first | exact HB.out | apply below_alloc | apply pw_below_drewN | apply below_drew1) | exact HB.out)⟩
        · rw [if_neg c22] at H
          exact absurd H (by simp)
end Go.Proofs.YtljinjgamgmocaaDoor.G
end
