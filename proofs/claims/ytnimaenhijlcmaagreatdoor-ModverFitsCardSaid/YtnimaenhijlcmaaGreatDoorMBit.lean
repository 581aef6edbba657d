/- Base64 bit by bit, by plain lists. No program and no memory here. -/
import Derived.Test.YtnimaenhijlcmaaGreatDoorMRec
namespace Go.Proofs.YtnimaenhijlcmaaGreatDoor.Mb
set_option linter.unusedVariables false
set_option linter.unusedSimpArgs false

/-- A byte's bits, the great ones first. -/
def bits8 (x : Int) : L := [x / 2 ^ 7 % 2, x / 2 ^ 6 % 2, x / 2 ^ 5 % 2, x / 2 ^ 4 % 2, x / 2 ^ 3 % 2, x / 2 ^ 2 % 2, x / 2 ^ 1 % 2, x / 2 ^ 0 % 2]
def bitsOf : L → L
  | [] => []
  | x :: r => bits8 x ++ bitsOf r
theorem bitsOf_length : ∀ l, (bitsOf l).length = 8 * l.length
  | [] => rfl
  | x :: r => by simp only [bitsOf, bits8, List.length_append, List.length_cons, List.length_nil, bitsOf_length r]; omega
/-! Six bits, one letter. -/
def six (a b c d e f : Int) : Int := a * 32 + b * 16 + c * 8 + d * 4 + e * 2 + f
def letters : L → L
  | a :: b :: c :: d :: e :: f :: r => lt (six a b c d e f) :: letters r
  | _ => []
/-- Each is a bit. -/
def Bits (l : L) : Prop := ∀ x ∈ l, 0 ≤ x ∧ x ≤ 1
theorem bits_bits8 (x : Int) : Bits (bits8 x) := by
  intro y hy
  simp only [bits8, List.mem_cons, List.not_mem_nil, or_false] at hy
  rcases hy with rfl | rfl | rfl | rfl | rfl | rfl | rfl | rfl <;> omega
theorem bits_bitsOf : ∀ l, Bits (bitsOf l)
  | [] => fun _ h => by cases h
  | x :: r => fun y hy => by
    simp only [bitsOf, List.mem_append] at hy
    rcases hy with h | h
    · exact bits_bits8 x y h
    · exact bits_bitsOf r y h
/-- The zeros behind the bits. -/
def zeros (n : Nat) : L := if n % 3 = 1 then [0, 0, 0, 0] else if n % 3 = 2 then [0, 0] else []
theorem letters_bits : ∀ {l : L}, Byt l → letters (bitsOf l ++ zeros l.length) ++ pads l.length = enc64 l
  | [], _ => rfl
  | [a], h => by
    have ha := h a (by simp)
    simp only [bitsOf, bits8, zeros, pads, List.length_cons, List.length_nil, List.append_nil, List.cons_append, List.nil_append, enc64, letters]
    rw [show six (a / 2 ^ 7 % 2) (a / 2 ^ 6 % 2) (a / 2 ^ 5 % 2) (a / 2 ^ 4 % 2) (a / 2 ^ 3 % 2) (a / 2 ^ 2 % 2) = a / 4 from by unfold six; omega]
    simp only [show (0 + 1) % 3 = 1 from rfl, if_true, List.cons_append, List.nil_append, letters]
    rw [show six (a / 2 ^ 1 % 2) (a / 2 ^ 0 % 2) 0 0 0 0 = a % 4 * 16 from by unfold six; omega]
  | [a, b], h => by
    have ha := h a (by simp)
    have hb := h b (by simp)
    simp only [bitsOf, bits8, zeros, pads, List.length_cons, List.length_nil, List.append_nil, List.cons_append, List.nil_append, enc64, letters]
    simp only [show (0 + 1 + 1) % 3 = 2 from rfl, show ¬ (2 = 1) from by decide, if_true, if_false, List.cons_append, List.nil_append, letters]
    rw [show six (a / 2 ^ 7 % 2) (a / 2 ^ 6 % 2) (a / 2 ^ 5 % 2) (a / 2 ^ 4 % 2) (a / 2 ^ 3 % 2) (a / 2 ^ 2 % 2) = a / 4 from by unfold six; omega,
      show six (a / 2 ^ 1 % 2) (a / 2 ^ 0 % 2) (b / 2 ^ 7 % 2) (b / 2 ^ 6 % 2) (b / 2 ^ 5 % 2) (b / 2 ^ 4 % 2) = a % 4 * 16 + b / 16 from by unfold six; omega,
      show six (b / 2 ^ 3 % 2) (b / 2 ^ 2 % 2) (b / 2 ^ 1 % 2) (b / 2 ^ 0 % 2) 0 0 = b % 16 * 4 from by unfold six; omega]
  | a :: b :: c :: r, h => by
    have ha := h a (by simp)
    have hb := h b (by simp)
    have hc := h c (by simp)
    have ih := letters_bits (l := r) (fun x hx => h x (by simp [hx]))
    have hp : pads (r.length + 1 + 1 + 1) = pads r.length := by unfold pads; rw [show (r.length + 1 + 1 + 1) % 3 = r.length % 3 from by omega]
    have hq : zeros (r.length + 1 + 1 + 1) = zeros r.length := by unfold zeros; rw [show (r.length + 1 + 1 + 1) % 3 = r.length % 3 from by omega]
    simp only [bitsOf, bits8, List.length_cons, hp, hq, List.append_nil, List.cons_append, List.nil_append, enc64, letters]
    rw [ih, show six (a / 2 ^ 7 % 2) (a / 2 ^ 6 % 2) (a / 2 ^ 5 % 2) (a / 2 ^ 4 % 2) (a / 2 ^ 3 % 2) (a / 2 ^ 2 % 2) = a / 4 from by unfold six; omega,
      show six (a / 2 ^ 1 % 2) (a / 2 ^ 0 % 2) (b / 2 ^ 7 % 2) (b / 2 ^ 6 % 2) (b / 2 ^ 5 % 2) (b / 2 ^ 4 % 2) = a % 4 * 16 + b / 16 from by unfold six; omega,
      show six (b / 2 ^ 3 % 2) (b / 2 ^ 2 % 2) (b / 2 ^ 1 % 2) (b / 2 ^ 0 % 2) (c / 2 ^ 7 % 2) (c / 2 ^ 6 % 2) = b % 16 * 4 + c / 64 from by unfold six; omega,
      show six (c / 2 ^ 5 % 2) (c / 2 ^ 4 % 2) (c / 2 ^ 3 % 2) (c / 2 ^ 2 % 2) (c / 2 ^ 1 % 2) (c / 2 ^ 0 % 2) = c % 64 from by unfold six; omega]
theorem letters_length : ∀ (n : Nat) (r : L), r.length = 6 * n → (letters r).length = n
  | 0, [], _ => rfl
  | 0, _ :: _, h => by simp at h
  | n + 1, a :: b :: c :: d :: e :: f :: r, h => by
    simp only [List.length_cons] at h
    simp only [letters, List.length_cons, letters_length n r (by omega)]
  | n + 1, [], h => by simp at h
  | n + 1, [_], h => by simp at h; omega
  | n + 1, [_, _], h => by simp at h; omega
  | n + 1, [_, _, _], h => by simp at h; omega
  | n + 1, [_, _, _, _], h => by simp at h; omega
  | n + 1, [_, _, _, _, _], h => by simp at h; omega

theorem bits8_at (x : Int) : ∀ k, k < 8 → (bits8 x)[k]? = some (x / 2 ^ (7 - k) % 2)
  | 0, _ => rfl
  | 1, _ => rfl
  | 2, _ => rfl
  | 3, _ => rfl
  | 4, _ => rfl
  | 5, _ => rfl
  | 6, _ => rfl
  | 7, _ => rfl
  | k + 8, h => absurd h (by omega)
theorem bits8_len (x : Int) : (bits8 x).length = 8 := rfl
theorem bitsOf_app (a b : L) : bitsOf (a ++ b) = bitsOf a ++ bitsOf b := by
  induction a with
  | nil => rfl
  | cons x r ih => simp only [List.cons_append, bitsOf, ih, List.append_assoc]
/-- The number that bits make. -/
def numOf (l : L) : Int := l.foldl (fun n b => 2 * n + b) 0
theorem numOf_snoc (l : L) (b : Int) : numOf (l ++ [b]) = 2 * numOf l + b := by unfold numOf; rw [List.foldl_append]; rfl
theorem numOf_small {l : L} (h : Bits l) (hl : l.length ≤ 6) : 0 ≤ numOf l ∧ numOf l < 64 := by
  have hz : ∀ x ∈ l, 0 ≤ x ∧ x ≤ 1 := h
  unfold numOf
  match l, hl, hz with
  | [], _, _ => exact ⟨by decide, by decide⟩
  | [a], _, hz =>
    have ha := hz a (by simp)
    simp only [List.foldl_cons, List.foldl_nil]
    omega
  | [a, b], _, hz =>
    have ha := hz a (by simp)
    have hb := hz b (by simp)
    simp only [List.foldl_cons, List.foldl_nil]
    omega
  | [a, b, c], _, hz =>
    have ha := hz a (by simp)
    have hb := hz b (by simp)
    have hc := hz c (by simp)
    simp only [List.foldl_cons, List.foldl_nil]
    omega
  | [a, b, c, d], _, hz =>
    have ha := hz a (by simp)
    have hb := hz b (by simp)
    have hc := hz c (by simp)
    have hd := hz d (by simp)
    simp only [List.foldl_cons, List.foldl_nil]
    omega
  | [a, b, c, d, e], _, hz =>
    have ha := hz a (by simp)
    have hb := hz b (by simp)
    have hc := hz c (by simp)
    have hd := hz d (by simp)
    have he := hz e (by simp)
    simp only [List.foldl_cons, List.foldl_nil]
    omega
  | [a, b, c, d, e, f], _, hz =>
    have ha := hz a (by simp)
    have hb := hz b (by simp)
    have hc := hz c (by simp)
    have hd := hz d (by simp)
    have he := hz e (by simp)
    have hf := hz f (by simp)
    simp only [List.foldl_cons, List.foldl_nil]
    omega
  | _ :: _ :: _ :: _ :: _ :: _ :: _ :: _, hl, _ => simp only [List.length_cons] at hl; omega
theorem six_num (a b c d e f : Int) : numOf [a, b, c, d, e, f] = six a b c d e f := by
  unfold numOf six
  simp only [List.foldl_cons, List.foldl_nil]
  omega
theorem letters_app : ∀ (n : Nat) (a b : L), a.length = 6 * n → letters (a ++ b) = letters a ++ letters b
  | 0, [], _, _ => rfl
  | 0, _ :: _, _, h => by simp at h
  | n + 1, x1 :: x2 :: x3 :: x4 :: x5 :: x6 :: r, b, h => by
    simp only [List.length_cons] at h
    simp only [List.cons_append, letters, letters_app n r b (by omega)]
  | n + 1, [], _, h => by simp at h
  | n + 1, [_], _, h => by simp at h; omega
  | n + 1, [_, _], _, h => by simp at h; omega
  | n + 1, [_, _, _], _, h => by simp at h; omega
  | n + 1, [_, _, _, _], _, h => by simp at h; omega
  | n + 1, [_, _, _, _, _], _, h => by simp at h; omega
theorem letters_six {l : L} (h : l.length = 6) : letters l = [lt (numOf l)] := by
  match l, h with
  | [a, b, c, d, e, f], _ => rw [six_num]; rfl
end Go.Proofs.YtnimaenhijlcmaaGreatDoor.Mb
