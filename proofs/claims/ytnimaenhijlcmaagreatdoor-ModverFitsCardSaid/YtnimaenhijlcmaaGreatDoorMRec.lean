/- Sums and records by plain lists of bytes. No program and no memory here. -/
import Derived.Test.YtnimaenhijlcmaaGreatDoorM64
namespace Go.Proofs.YtnimaenhijlcmaaGreatDoor.Mb
set_option linter.unusedVariables false
set_option linter.unusedSimpArgs false

def h1S : L := [104, 49, 58]
def modS : L := [47, 103, 111, 46, 109, 111, 100]
def sumS (h : L) : L := h1S ++ enc64 h
def parSum (s : L) : Option L := match s with
  | 104 :: 49 :: 58 :: r => match b64D r with | some l => if l.length = 32 then some l else none | none => none
  | _ => none
theorem parSum_sum {h : L} (hb : Byt h) (hl : h.length = 32) : parSum (sumS h) = some h := by
  show (match b64D (enc64 h) with | some l => if l.length = 32 then some l else none | none => none) = some h
  rw [b64D_enc hb]
  simp only
  rw [if_pos hl]
theorem parSum_some {s h : L} (e : parSum s = some h) : Byt h ∧ h.length = 32 ∧ sumS h = s := by
  unfold parSum at e
  split at e
  · rename_i r
    split at e
    · rename_i l hl
      split at e
      · rename_i h32
        cases e
        obtain ⟨h1, h2⟩ := b64D_sound hl
        exact ⟨h1, h32, by unfold sumS; rw [h2]; rfl⟩
      · cases e
    · cases e
  · cases e
theorem lt_43 {x : Int} (h0 : 0 ≤ x) (h1 : x < 64) : 43 ≤ lt x := by
  unfold lt
  (repeat' split) <;> omega
theorem enc64_43 : ∀ {l : L}, Byt l → ∀ y ∈ enc64 l, 43 ≤ y
  | [], _, y, hy => by cases hy
  | [a], h, y, hy => by
    have ha := h a (by simp)
    have h1 := lt_43 (x := a / 4) (by omega) (by omega)
    have h2 := lt_43 (x := a % 4 * 16) (by omega) (by omega)
    simp only [enc64, List.mem_cons, List.not_mem_nil, or_false] at hy
    rcases hy with rfl | rfl | rfl | rfl <;> omega
  | [a, b], h, y, hy => by
    have ha := h a (by simp)
    have hb := h b (by simp)
    have h1 := lt_43 (x := a / 4) (by omega) (by omega)
    have h2 := lt_43 (x := a % 4 * 16 + b / 16) (by omega) (by omega)
    have h3 := lt_43 (x := b % 16 * 4) (by omega) (by omega)
    simp only [enc64, List.mem_cons, List.not_mem_nil, or_false] at hy
    rcases hy with rfl | rfl | rfl | rfl <;> omega
  | a :: b :: c :: r, h, y, hy => by
    have ha := h a (by simp)
    have hb := h b (by simp)
    have hc := h c (by simp)
    have h1 := lt_43 (x := a / 4) (by omega) (by omega)
    have h2 := lt_43 (x := a % 4 * 16 + b / 16) (by omega) (by omega)
    have h3 := lt_43 (x := b % 16 * 4 + c / 64) (by omega) (by omega)
    have h4 := lt_43 (x := c % 64) (by omega) (by omega)
    simp only [enc64, List.mem_cons] at hy
    rcases hy with rfl | rfl | rfl | rfl | hy
    · omega
    · omega
    · omega
    · omega
    · exact enc64_43 (fun x hx => h x (by simp [hx])) y hy
theorem sum_no {h : L} (hb : Byt h) : (32 : Int) ∉ sumS h ∧ (10 : Int) ∉ sumS h ∧ sumS h ≠ [] := by
  have key : ∀ y ∈ sumS h, 43 ≤ y := fun y hy => by
    rcases List.mem_append.1 hy with hy | hy
    · unfold h1S at hy
      simp only [List.mem_cons, List.not_mem_nil, or_false] at hy
      rcases hy with rfl | rfl | rfl <;> omega
    · exact enc64_43 hb y hy
  refine ⟨fun hm => ?_, fun hm => ?_, fun e => ?_⟩
  · have := key _ hm; omega
  · have := key _ hm; omega
  · unfold sumS h1S at e; cases e
theorem sum_length {h : L} (hl : h.length = 32) : (sumS h).length = 47 := by
  unfold sumS h1S
  rw [List.length_append, enc64_length, hl]
  rfl

/-! Records -/
def line1 (p v a : L) : L := p ++ 32 :: (v ++ 32 :: sumS a)
def recS (p v a b : L) : L := line1 p v a ++ 10 :: (line1 p (v ++ modS) b ++ [10])
def wordsS (s : L) : Option (L × L × L) := match splitC 32 s with
  | [x, y, z] => if x = [] ∨ y = [] ∨ z = [] then none else some (x, y, z)
  | _ => none
theorem wordsS_mk {x y z : L} (hx : (32 : Int) ∉ x) (hy : (32 : Int) ∉ y) (hz : (32 : Int) ∉ z) (nx : x ≠ []) (ny : y ≠ []) (nz : z ≠ []) : wordsS (x ++ 32 :: (y ++ 32 :: z)) = some (x, y, z) := by
  unfold wordsS
  rw [splitC_cut _ hx, splitC_cut _ hy, splitC_none hz]
  simp only
  rw [if_neg (by simp [nx, ny, nz])]
theorem wordsS_some {s x y z : L} (h : wordsS s = some (x, y, z)) : s = x ++ 32 :: (y ++ 32 :: z) ∧ x ≠ [] ∧ y ≠ [] ∧ z ≠ [] := by
  unfold wordsS at h
  split at h
  · rename_i a b c hs
    split at h
    · cases h
    · rename_i hn
      cases h
      have hj := join_split (c := 32) s
      rw [hs] at hj
      exact ⟨hj.symm, fun e => hn (.inl e), fun e => hn (.inr (.inl e)), fun e => hn (.inr (.inr e))⟩
  · cases h
/-- The two lines of a record. -/
def linesS (s : L) : Option (L × L) := match splitC 10 s with
  | [x, y, []] => some (x, y)
  | _ => none
theorem linesS_mk {x y : L} (hx : (10 : Int) ∉ x) (hy : (10 : Int) ∉ y) : linesS (x ++ 10 :: (y ++ [10])) = some (x, y) := by
  unfold linesS
  rw [splitC_cut _ hx, splitC_cut _ hy]
  rfl
theorem linesS_some {s x y : L} (h : linesS s = some (x, y)) : s = x ++ 10 :: (y ++ [10]) := by
  unfold linesS at h
  split at h
  · rename_i a b hs
    cases h
    have hj := join_split (c := 10) s
    rw [hs] at hj
    exact hj.symm
  · cases h
/-- What a record says: an error, or a path, a version and two sums. -/
inductive Rec : Type
  | no (e : Nat)
  | is (p v a b : L)
deriving DecidableEq
/-- Behind the words. -/
def recG (x y : L × L × L) : Rec :=
  if x.1 ≠ y.1 ∨ y.2.1 ≠ x.2.1 ++ modS then .no 115
  else if checkS x.1 x.2.1 ≠ 0 then .no (checkS x.1 x.2.1)
  else match parSum x.2.2 with
    | none => .no 114
    | some a => match parSum y.2.2 with
      | none => .no 114
      | some b => .is x.1 x.2.1 a b
def recW (l : L × L) : Rec := match wordsS l.1, wordsS l.2 with
  | some x, some y => recG x y
  | _, _ => .no 115
def parRec (s : L) : Rec := if 1024 < s.length then .no 115 else match linesS s with
  | none => .no 115
  | some l => recW l
theorem line_len {p v a : L} (hl : a.length = 32) : (line1 p v a).length = p.length + v.length + 49 := by
  unfold line1
  simp only [List.length_append, List.length_cons, sum_length hl]
  omega
theorem rec_len {p v a b : L} (h : checkS p v = 0) (ha : a.length = 32) (hb : b.length = 32) : (recS p v a b).length ≤ 873 := by
  obtain ⟨h1, x, h2, _⟩ := check_ok h
  have l1 := (path_ne h1).2
  have l2 := (ver_no h2).2.2.2.2.2.2
  unfold recS
  simp only [List.length_append, List.length_cons, List.length_nil, line_len ha, line_len hb, show modS.length = 7 from rfl]
  omega
theorem rec_back {p v a b : L} (h : checkS p v = 0) (ha : Byt a) (la : a.length = 32) (hb : Byt b) (lb : b.length = 32) : parRec (recS p v a b) = .is p v a b := by
  have hlen := rec_len h la lb
  obtain ⟨h1, x, h2, _⟩ := check_ok h
  obtain ⟨_, _, p32, p10⟩ := path_no h1
  obtain ⟨_, _, v32, v10, _, vne, _⟩ := ver_no h2
  obtain ⟨a32, a10, ane⟩ := sum_no ha
  obtain ⟨b32, b10, bne⟩ := sum_no hb
  have m32 : (32 : Int) ∉ modS := by decide
  have m10 : (10 : Int) ∉ modS := by decide
  unfold parRec
  rw [if_neg (by omega)]
  have e1 : linesS (recS p v a b) = some (line1 p v a, line1 p (v ++ modS) b) := linesS_mk
    (by unfold line1; simp only [List.mem_append, List.mem_cons, not_or]; exact ⟨p10, by decide, v10, by decide, a10⟩)
    (by unfold line1; simp only [List.mem_append, List.mem_cons, not_or]; exact ⟨p10, by decide, ⟨v10, m10⟩, by decide, b10⟩)
  rw [e1]
  simp only
  unfold recW
  have e2 : wordsS (line1 p v a) = some (p, v, sumS a) := wordsS_mk p32 v32 a32 (path_ne h1).1 vne ane
  have e3 : wordsS (line1 p (v ++ modS) b) = some (p, v ++ modS, sumS b) := wordsS_mk p32 (by simp only [List.mem_append, not_or]; exact ⟨v32, m32⟩) b32 (path_ne h1).1 (by simp [vne]) bne
  rw [e2, e3]
  simp only
  unfold recG
  simp only
  rw [if_neg (by simp), if_neg (by simp [h]), parSum_sum ha la, parSum_sum hb lb]
theorem rec_once {s p v a b : L} (h : parRec s = .is p v a b) : checkS p v = 0 ∧ recS p v a b = s ∧ Byt a ∧ a.length = 32 ∧ Byt b ∧ b.length = 32 := by
  unfold parRec at h
  split at h
  · cases h
  split at h
  · cases h
  rename_i l hl
  obtain ⟨l0, l1⟩ := l
  have hs := linesS_some hl
  unfold recW at h
  split at h
  · rename_i x y hx hy
    obtain ⟨x0, x1, x2⟩ := x
    obtain ⟨y0, y1, y2⟩ := y
    obtain ⟨ex, _⟩ := wordsS_some hx
    obtain ⟨ey, _⟩ := wordsS_some hy
    unfold recG at h
    simp only at h
    split at h
    · cases h
    rename_i hn
    split at h
    · cases h
    rename_i hc
    split at h
    · cases h
    rename_i m hm
    split at h
    · cases h
    rename_i k hk
    cases h
    obtain ⟨ba, la, ea⟩ := parSum_some hm
    obtain ⟨bb, lb, eb⟩ := parSum_some hk
    refine ⟨Classical.not_not.1 hc, ?_, ba, la, bb, lb⟩
    have n1 : p = y0 := Classical.not_not.1 (fun e => hn (.inl e))
    have n2 : y1 = v ++ modS := Classical.not_not.1 (fun e => hn (.inr e))
    simp only at ex ey
    unfold recS line1
    rw [ea, eb, hs, ex, ey, n2, ← n1]
  · cases h
theorem check_bytes {p v : L} (h : checkS p v = 0) : p ≠ [] := (path_ne (check_ok h).1).1
end Go.Proofs.YtnimaenhijlcmaaGreatDoor.Mb
