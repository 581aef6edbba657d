/- Module paths and versions by plain lists of bytes. No program and no memory here. -/
namespace Go.Proofs.Ytljinjgamgmocaa.Mb
set_option linter.unusedVariables false
set_option linter.unusedSimpArgs false

abbrev L := List Int

def digB (c : Int) : Bool := decide (48 ≤ c) && decide (c ≤ 57)
def smlB (c : Int) : Bool := decide (97 ≤ c) && decide (c ≤ 122)
def capB (c : Int) : Bool := decide (65 ≤ c) && decide (c ≤ 90)
def pathB (c : Int) : Bool := digB c || smlB c || capB c || [45, 46, 95, 126, 47].contains c
def wordC (c : Int) : Bool := digB c || smlB c || capB c || decide (c = 45)
def lowB (c : Int) : Int := if 65 ≤ c ∧ c ≤ 90 then c + 32 else c
def lowS (s : L) : L := s.map lowB

def cutC (c : Int) : L → Option (L × L)
  | [] => none
  | x :: r => if x = c then some ([], r) else match cutC c r with
    | none => none
    | some (a, b) => some (x :: a, b)
def splitC (c : Int) : L → List L
  | [] => [[]]
  | x :: r => if x = c then [] :: splitC c r else match splitC c r with
    | [] => [[x]]
    | p :: q => (x :: p) :: q
def aheadC (c : Int) (s : L) : L := match cutC c s with | some (a, _) => a | none => s
/-- Cut off at the end, if it stands there. -/
def endCut (s e : L) : Option L := if e.length ≤ s.length ∧ s.drop (s.length - e.length) = e then some (s.take (s.length - e.length)) else none
def digTail (s : L) : L := (s.reverse.takeWhile digB).reverse
def digBare (s : L) : L := (s.reverse.dropWhile digB).reverse

/-- A number in its one form. -/
def numB (s : L) : Bool := s.all digB && !s.isEmpty && (decide (s = [48]) || decide (s.head? ≠ some 48))
def devices : List L := [[99, 111, 110], [112, 114, 110], [97, 117, 120], [110, 117, 108], [99, 111, 109, 49], [99, 111, 109, 50], [99, 111, 109, 51], [99, 111, 109, 52], [99, 111, 109, 53], [99, 111, 109, 54], [99, 111, 109, 55], [99, 111, 109, 56], [99, 111, 109, 57], [108, 112, 116, 49], [108, 112, 116, 50], [108, 112, 116, 51], [108, 112, 116, 52], [108, 112, 116, 53], [108, 112, 116, 54], [108, 112, 116, 55], [108, 112, 116, 56], [108, 112, 116, 57]]
def elemB (e : L) : Bool :=
  !e.isEmpty && decide (e.head? ≠ some 46) && decide (e.getLast? ≠ some 46) && !(devices.contains (lowS (aheadC 46 e))) &&
    (decide (digTail (aheadC 46 e) = []) || decide ((digBare (aheadC 46 e)).getLast? ≠ some 126))
def hostB (e : L) : Bool := e.all (fun c => !(capB c || decide (c = 95) || decide (c = 126))) && e.contains 46 && decide (e.head? ≠ some 45)
def gopkg : L := [103, 111, 112, 107, 103, 46, 105, 110]
def unstable : L := [45, 117, 110, 115, 116, 97, 98, 108, 101]
def incompat : L := [43, 105, 110, 99, 111, 109, 112, 97, 116, 105, 98, 108, 101]
/-- The major of a path's elements ([]: none), and whether its form is right. -/
def majorE (es : List L) : L × Bool :=
  let last := es.getLastD []
  if es.headD [] = gopkg then
    let l2 := (endCut last unstable).getD last
    (digTail l2, decide ((digBare l2).drop ((digBare l2).length - 2) = [46, 118]) && numB (digTail l2))
  else if es.length = 1 ∨ last.length < 2 ∨ last.head? ≠ some 118 ∨ (last.tail.all fun c => digB c || decide (c = 46)) = false then ([], true)
  else (last.tail, numB last.tail && decide (last.tail ≠ [48]) && decide (last.tail ≠ [49]))
def majorS (p : L) : L × Bool := majorE (splitC 47 p)
def pathS (p : L) : Bool :=
  !p.isEmpty && decide (p.length ≤ 255) && p.all pathB && (splitC 47 p).all elemB && hostB ((splitC 47 p).headD []) && (majorS p).2
def wordB (s : L) : Bool := s.all wordC && !s.isEmpty && (!s.all digB || numB s)
structure Ver where
  a : L
  b : L
  c : L
  words : List L
  odd : Bool
deriving DecidableEq
def wordsOf : Option (L × L) → List L
  | some (_, p) => splitC 46 p
  | none => []
def parseV (s : L) : Option Ver :=
  if 128 < s.length then none
  else match s with
    | 118 :: r =>
      let body := (endCut r incompat).getD r
      let odd := (endCut r incompat).isSome
      let ws : List L := wordsOf (cutC 45 body)
      if ws.all wordB = false then none
      else match splitC 46 (aheadC 45 body) with
        | [a, b, c] => if numB a && numB b && numB c && (!odd || (decide (a ≠ [48]) && decide (a ≠ [49]))) then some ⟨a, b, c, ws, odd⟩ else none
        | _ => none
    | _ => none
def fitsV (v : Ver) (p : L) : Bool :=
  let m := (majorS p).1
  if m ≠ [] then !v.odd && decide (v.a = m) else v.odd || decide (v.a = [48]) || decide (v.a = [49])
/-- The error of a path and a version: 110, 111; 0: none. -/
def checkS (p v : L) : Nat := if pathS p = false then 110 else match parseV v with | none => 111 | some x => if fitsV x p then 0 else 111
def esc1 (c : Int) : L := if capB c then [33, c + 32] else [c]
def escS (s : L) : L := s.flatMap esc1
def unescS : L → Option L
  | [] => some []
  | [c] => if capB c || decide (c = 33) then none else some [c]
  | c :: d :: r => if capB c then none else if c = 33 then (if smlB d then (unescS r).map ((d - 32) :: ·) else none) else (unescS (d :: r)).map (c :: ·)
def keyS (s : L) : Option (L × L) := match cutC 64 s with | some (p, v) => if v.contains 64 then none else some (p, v) | none => none

/-! The order -/
def cmpB : L → L → Int
  | [], [] => 0
  | [], _ :: _ => -1
  | _ :: _, [] => 1
  | x :: a, y :: b => if x < y then -1 else if y < x then 1 else cmpB a b
def cmpN (a b : L) : Int := if a.length < b.length then -1 else if b.length < a.length then 1 else cmpB a b
def cmpW (a b : L) : Int := if numB a then (if numB b then cmpN a b else -1) else if numB b then 1 else cmpB a b
def cmpL : List L → List L → Int
  | [], [] => 0
  | [], _ :: _ => -1
  | _ :: _, [] => 1
  | x :: a, y :: b => if cmpW x y ≠ 0 then cmpW x y else cmpL a b
def cmpP (a b : List L) : Int := if a = [] ∨ b = [] then (if a = [] ∧ b = [] then 0 else if a = [] then 1 else -1) else cmpL a b
def cmpV (v w : Ver) : Int := if cmpN v.a w.a ≠ 0 then cmpN v.a w.a else if cmpN v.b w.b ≠ 0 then cmpN v.b w.b else if cmpN v.c w.c ≠ 0 then cmpN v.c w.c else cmpP v.words w.words
def compareS (a b : L) : Int := match parseV a, parseV b with
  | some v, some w => cmpV v w
  | some _, none => 1
  | none, some _ => -1
  | none, none => 0

/-! Order laws: 'f' is an order of three answers. -/
structure Ord3 {α : Type} (f : α → α → Int) : Prop where
  range : ∀ a b, f a b = -1 ∨ f a b = 0 ∨ f a b = 1
  anti : ∀ a b, f b a = -(f a b)
  trans : ∀ a b c, f a b ≤ 0 → f b c ≤ 0 → f a c ≤ 0 ∧ (f a c = 0 ↔ f a b = 0 ∧ f b c = 0)
theorem Ord3.refl {α : Type} {f : α → α → Int} (h : Ord3 f) (a : α) : f a a = 0 := by have := h.anti a a; omega
/-- First by one, then by the other. -/
theorem Ord3.lex {α : Type} {f g : α → α → Int} (hf : Ord3 f) (hg : Ord3 g) : Ord3 (fun a b => if f a b ≠ 0 then f a b else g a b) where
  range a b := by
    by_cases h : f a b ≠ 0
    · simp only [if_pos h]; exact hf.range a b
    · simp only [if_neg h]; exact hg.range a b
  anti a b := by
    have h1 := hf.anti a b
    have h2 := hg.anti a b
    by_cases h : f a b ≠ 0
    · rw [if_pos h, if_pos (by omega)]; exact h1
    · rw [if_neg h, if_neg (by omega)]; exact h2
  trans a b c hab hbc := by
    have t1 := hf.trans a b c
    have t2 := hg.trans a b c
    by_cases h1 : f a b ≠ 0
    · rw [if_pos h1] at hab ⊢
      by_cases h2 : f b c ≠ 0
      · rw [if_pos h2] at hbc ⊢
        have := t1 hab hbc
        rw [if_pos (by omega)]; omega
      · rw [if_neg h2] at hbc ⊢
        have := t1 hab (by omega)
        rw [if_pos (by omega)]; omega
    · rw [if_neg h1] at hab ⊢
      by_cases h2 : f b c ≠ 0
      · rw [if_pos h2] at hbc ⊢
        have := t1 (by omega) hbc
        rw [if_pos (by omega)]; omega
      · rw [if_neg h2] at hbc ⊢
        have := t1 (by omega) (by omega)
        rw [if_neg (by omega)]
        exact t2 hab hbc
theorem Ord3.comap {α β : Type} {f : β → β → Int} (hf : Ord3 f) (g : α → β) : Ord3 (fun a b => f (g a) (g b)) :=
  ⟨fun a b => hf.range _ _, fun a b => hf.anti _ _, fun a b c => hf.trans _ _ _⟩
def cmpI (a b : Int) : Int := if a < b then -1 else if b < a then 1 else 0
theorem ordI : Ord3 cmpI where
  range a b := by unfold cmpI; (repeat' split) <;> omega
  anti a b := by unfold cmpI; (repeat' split) <;> omega
  trans a b c := by unfold cmpI; (repeat' split) <;> omega
/-- The lists' order by that of the elements: what ends first stands ahead. -/
def lexL {α : Type} (f : α → α → Int) : List α → List α → Int
  | [], [] => 0
  | [], _ :: _ => -1
  | _ :: _, [] => 1
  | x :: a, y :: b => if f x y ≠ 0 then f x y else lexL f a b
theorem ordL {α : Type} {f : α → α → Int} (hf : Ord3 f) : Ord3 (lexL f) where
  range a := by
    induction a with
    | nil => intro b; cases b <;> simp [lexL]
    | cons x a ih =>
      intro b
      cases b with
      | nil => simp [lexL]
      | cons y b =>
        simp only [lexL]
        split
        · exact hf.range x y
        · exact ih b
  anti a := by
    induction a with
    | nil => intro b; cases b <;> simp [lexL]
    | cons x a ih =>
      intro b
      cases b with
      | nil => simp [lexL]
      | cons y b =>
        simp only [lexL]
        have := hf.anti x y
        by_cases h : f x y ≠ 0
        · rw [if_pos h, if_pos (by omega)]; exact this
        · rw [if_neg h, if_neg (by omega)]; exact ih b
  trans a := by
    induction a with
    | nil => intro b c; cases b <;> cases c <;> simp [lexL]
    | cons x a ih =>
      intro b c
      cases b with
      | nil => cases c <;> simp [lexL]
      | cons y b =>
        cases c with
        | nil => simp [lexL]
        | cons z c =>
          simp only [lexL]
          have t1 := hf.trans x y z
          have t2 := ih b c
          by_cases h1 : f x y ≠ 0
          · rw [if_pos h1]
            intro hab
            by_cases h2 : f y z ≠ 0
            · rw [if_pos h2]
              intro hbc
              have := t1 hab hbc
              rw [if_pos (by omega)]; omega
            · rw [if_neg h2]
              intro hbc
              have := t1 hab (by omega)
              rw [if_pos (by omega)]; omega
          · rw [if_neg h1]
            intro hab
            by_cases h2 : f y z ≠ 0
            · rw [if_pos h2]
              intro hbc
              have := t1 (by omega) hbc
              rw [if_pos (by omega)]; omega
            · rw [if_neg h2]
              intro hbc
              have := t1 (by omega) (by omega)
              rw [if_neg (by omega)]
              exact t2 hab hbc
theorem cmpB_lex : ∀ a b, cmpB a b = lexL cmpI a b
  | [], [] => rfl
  | [], _ :: _ => rfl
  | _ :: _, [] => rfl
  | x :: a, y :: b => by
    simp only [cmpB, lexL, cmpB_lex a b]
    unfold cmpI
    (repeat' split) <;> omega
theorem ordB : Ord3 cmpB := by
  have e : cmpB = lexL cmpI := by funext a b; exact cmpB_lex a b
  rw [e]; exact ordL ordI
theorem cmpN_lex (a b : L) : cmpN a b = if cmpI a.length b.length ≠ 0 then cmpI a.length b.length else cmpB a b := by
  unfold cmpN cmpI
  (repeat' split) <;> omega
theorem ordN : Ord3 cmpN := by
  have e : cmpN = fun a b : L => if cmpI a.length b.length ≠ 0 then cmpI a.length b.length else cmpB a b := by funext a b; exact cmpN_lex a b
  rw [e]; exact (ordI.comap (fun a : L => (a.length : Int))).lex ordB
theorem ordW : Ord3 cmpW where
  range a b := by
    unfold cmpW
    split
    · split
      · exact ordN.range a b
      · omega
    · split
      · omega
      · exact ordB.range a b
  anti a b := by
    have h1 := ordN.anti a b
    have h2 := ordB.anti a b
    unfold cmpW
    cases numB a <;> cases numB b <;> simp <;> assumption
  trans a b c := by
    have h1 := ordN.trans a b c
    have h2 := ordB.trans a b c
    unfold cmpW
    cases numB a <;> cases numB b <;> cases numB c <;> simp <;> first | exact h1 | exact h2 | omega | skip
theorem cmpL_lex : ∀ a b, cmpL a b = lexL cmpW a b
  | [], [] => rfl
  | [], _ :: _ => rfl
  | _ :: _, [] => rfl
  | x :: a, y :: b => by simp only [cmpL, lexL, cmpL_lex a b]
theorem ordP : Ord3 cmpP := by
  have oL : Ord3 cmpL := by
    have e : cmpL = lexL cmpW := by funext a b; exact cmpL_lex a b
    rw [e]; exact ordL ordW
  refine ⟨fun a b => ?_, fun a b => ?_, fun a b c => ?_⟩
  · have := oL.range a b
    unfold cmpP
    cases a <;> cases b <;> simp at * <;> exact this
  · have := oL.anti a b
    unfold cmpP
    cases a <;> cases b <;> simp at * <;> exact this
  · have := oL.trans a b c
    unfold cmpP
    cases a <;> cases b <;> cases c <;> simp at * <;> first | exact this | skip
theorem ordV : Ord3 cmpV := by
  have e : cmpV = fun v w : Ver => if cmpN v.a w.a ≠ 0 then cmpN v.a w.a else (if cmpN v.b w.b ≠ 0 then cmpN v.b w.b else (if cmpN v.c w.c ≠ 0 then cmpN v.c w.c else cmpP v.words w.words)) := rfl
  rw [e]
  exact (ordN.comap Ver.a).lex ((ordN.comap Ver.b).lex ((ordN.comap Ver.c).lex (ordP.comap Ver.words)))
theorem ordS : Ord3 compareS := by
  refine ⟨fun a b => ?_, fun a b => ?_, fun a b c => ?_⟩
  · unfold compareS
    cases parseV a <;> cases parseV b <;> simp
    exact ordV.range _ _
  · unfold compareS
    cases parseV a <;> cases parseV b <;> simp
    exact ordV.anti _ _
  · unfold compareS
    cases parseV a <;> cases parseV b <;> cases parseV c <;> simp
    exact ordV.trans _ _ _
end Go.Proofs.Ytljinjgamgmocaa.Mb
