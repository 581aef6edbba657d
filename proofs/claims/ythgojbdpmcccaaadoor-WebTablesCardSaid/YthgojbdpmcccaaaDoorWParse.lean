/- Web messages by plain lists of bytes: the body, its chunks, a request and a response as they are read; more bytes change nothing of what was read. -/
import Derived.Test.YthgojbdpmcccaaaDoorWSpec
namespace Go.Proofs.YthgojbdpmcccaaaDoor.Wb
set_option linter.unusedVariables false
set_option linter.unusedSimpArgs false

abbrev Fld := L × L

/-! Chunks -/
def hexV (c : Int) : Option Nat := if 48 ≤ c ∧ c ≤ 57 then some (c - 48).toNat else if 97 ≤ c ∧ c ≤ 102 then some (c - 87).toNat else if 65 ≤ c ∧ c ≤ 70 then some (c - 55).toNat else none
def hexN : Nat → L → Option Nat
  | n, [] => some n
  | n, c :: r => match hexV c with
    | none => none
    | some d => hexN (16 * n + d) r
/-- What stands ahead of the first c, and behind it (nothing, if there is no c). -/
def aheadC (c : Int) (s : L) : L := match cutC c s with | some (a, _) => a | none => s
def behindC (c : Int) (s : L) : L := match cutC c s with | some (_, b) => b | none => []
/-- What a chunk's line tells. -/
def sizeS (s : L) : Option Nat :=
  if 256 < s.length then none
  else if aheadC 59 s = [] ∨ 8 < (aheadC 59 s).length ∨ (behindC 59 s).all valB = false then none
  else hexN 0 (aheadC 59 s)
/-- A line's end at the front: what stands behind it; or the error. -/
def endS : L → Except Nat L
  | [] => .error 140
  | 10 :: r => .ok r
  | 13 :: 10 :: r => .ok r
  | [13] => .error 140
  | _ => .error 146
/-- The body of chunks, and what stands behind them. acc: what has come. -/
def unchS : Nat → L → L → Except Nat (L × L)
  | 0, _, _ => .error 140
  | f + 1, acc, rest => match lineS rest with
    | none => if 257 < rest.length then .error 146 else .error 140
    | some (l, behind) => match sizeS l with
      | none => .error 146
      | some n => if 1048576 < acc.length + n then .error 2
        else if behind.length < n then .error 140
        else match endS (behind.drop n) with
          | .error e => .error e
          | .ok r => if n = 0 then .ok (acc, r) else unchS f (acc ++ behind.take n) r
def unchunkS (b : L) : Except Nat (L × Nat) := match unchS (b.length + 1) [] b with
  | .ok (body, r) => .ok (body, b.length - r.length)
  | .error e => .error e

theorem endS_app {b r : L} (t : L) (h : endS b = .ok r) : endS (b ++ t) = .ok (r ++ t) ∧ r.length < b.length ∧ ∃ p, b = p ++ r := by
  unfold endS at h
  split at h
  · cases h
  · simp only [Except.ok.injEq] at h; subst h; exact ⟨rfl, by simp, [10], rfl⟩
  · simp only [Except.ok.injEq] at h; subst h; exact ⟨rfl, by simp; omega, [13, 10], rfl⟩
  · cases h
  · cases h
theorem endS_bad {b : L} {e : Nat} (t : L) (h : endS b = .error e) (he : e ≠ 140) : endS (b ++ t) = .error e ∧ e = 146 := by
  match b, h with
  | [], h => simp [endS] at h; exact absurd h.symm he
  | [x], h =>
    unfold endS at h
    split at h
    · simp_all
    · cases h
    · cases h
    · simp only [Except.error.injEq] at h; exact absurd h.symm he
    · rename_i h1 h2 h3 h4
      simp only [Except.error.injEq] at h
      subst h
      refine ⟨?_, rfl⟩
      have hx : x ≠ 10 := fun e => h2 [] (by rw [e])
      have hy : x ≠ 13 := fun e => h4 (by rw [e])
      cases t with
      | nil => simp only [List.append_nil]; unfold endS; split <;> simp_all
      | cons y t => show endS (x :: y :: t) = _; unfold endS; split <;> simp_all
  | x :: y :: b, h =>
    unfold endS at h
    split at h
    · simp_all
    · cases h
    · cases h
    · simp_all
    · rename_i h1 h2 h3 h4
      simp only [Except.error.injEq] at h
      subst h
      refine ⟨?_, rfl⟩
      show endS (x :: y :: (b ++ t)) = _
      unfold endS
      split
      · simp_all
      · rename_i h5; simp only [List.cons.injEq] at h5; exact (h2 (y :: b) (by rw [h5.1])).elim
      · rename_i h5; simp only [List.cons.injEq] at h5; exact (h3 b (by rw [h5.1, h5.2.1])).elim
      · rename_i h5; simp at h5
      · rfl
theorem sizeS_long {s : L} (h : 256 < s.length) : sizeS s = none := by unfold sizeS; rw [if_pos h]

theorem unchS_rest : ∀ {f : Nat} {acc b body r : L}, unchS f acc b = .ok (body, r) → r.length < b.length ∧ ∃ p, b = p ++ r
  | 0, _, _, _, _, h => by simp [unchS] at h
  | f + 1, acc, b, body, r, h => by
    unfold unchS at h
    cases hl : lineS b with
    | none => rw [hl] at h; simp only at h; split at h <;> cases h
    | some q =>
      obtain ⟨l, behind⟩ := q
      rw [hl] at h
      simp only at h
      obtain ⟨q, h1, _, _⟩ := lineS_some hl
      cases hs : sizeS l with
      | none => rw [hs] at h; cases h
      | some n =>
        rw [hs] at h
        simp only at h
        split at h
        · cases h
        · split at h
          · cases h
          · rename_i hn
            cases he : endS (behind.drop n) with
            | error e => rw [he] at h; cases h
            | ok z =>
              rw [he] at h
              simp only at h
              obtain ⟨_, h3, p, h4⟩ := endS_app [] he
              have hd : behind = behind.take n ++ (p ++ z) := by rw [← h4, List.take_append_drop]
              have hlen : z.length < behind.length := by have := congrArg List.length hd; simp at this; simp at h3; omega
              split at h
              · simp only [Except.ok.injEq, Prod.mk.injEq] at h
                obtain ⟨_, rfl⟩ := h
                refine ⟨by rw [h1]; simp; omega, q ++ 10 :: (behind.take n ++ p), ?_⟩
                rw [h1]
                conv => lhs; rw [hd]
                simp
              · obtain ⟨h5, p2, h6⟩ := unchS_rest h
                refine ⟨by rw [h1]; simp; omega, q ++ 10 :: (behind.take n ++ p ++ p2), ?_⟩
                rw [h1]
                conv => lhs; rw [hd, h6]
                simp
/-- What chunks were told to be they stay when more bytes come. -/
theorem unchS_app : ∀ {f : Nat} {acc b : L} (g : Nat) (t : L), b.length < f → (b ++ t).length < g → unchS f acc b ≠ .error 140 →
    unchS g acc (b ++ t) = match unchS f acc b with | .ok (body, r) => .ok (body, r ++ t) | .error e => .error e
  | 0, acc, b, g, t, hf, hg, h => by omega
  | f + 1, acc, b, 0, t, hf, hg, h => by omega
  | f + 1, acc, b, g + 1, t, hf, hg, h => by
    unfold unchS at h ⊢
    cases hl : lineS b with
    | none =>
      rw [hl] at h
      simp only at h ⊢
      by_cases hb : 257 < b.length
      · rw [if_pos hb]
        cases hl2 : lineS (b ++ t) with
        | none => simp only; rw [if_pos (by simp; omega)]
        | some q =>
          obtain ⟨l, s⟩ := q
          simp only
          have := lineS_over hl hl2
          rw [sizeS_long (by omega)]
      · rw [if_neg hb] at h; exact absurd rfl h
    | some q =>
      obtain ⟨l, behind⟩ := q
      rw [hl] at h
      rw [lineS_app hl t]
      simp only at h ⊢
      obtain ⟨q, h1, _, _⟩ := lineS_some hl
      cases hs : sizeS l with
      | none => rfl
      | some n =>
        rw [hs] at h
        simp only at h ⊢
        by_cases ha : 1048576 < acc.length + n
        · rw [if_pos ha, if_pos ha]
        · rw [if_neg ha] at h ⊢
          rw [if_neg ha]
          by_cases hn : behind.length < n
          · rw [if_pos hn] at h; exact absurd rfl h
          · rw [if_neg hn] at h ⊢
            rw [if_neg (by simp; omega)]
            have hd : (behind ++ t).drop n = behind.drop n ++ t := by rw [List.drop_append_of_le_length (by omega)]
            have ht : (behind ++ t).take n = behind.take n := by rw [List.take_append_of_le_length (by omega)]
            rw [hd, ht]
            cases he : endS (behind.drop n) with
            | error e =>
              rw [he] at h
              simp only at h ⊢
              rw [(endS_bad t he (fun e' => h (by rw [e']))).1]
            | ok z =>
              rw [he] at h
              simp only at h ⊢
              obtain ⟨h2, h3, p, h4⟩ := endS_app t he
              rw [h2]
              simp only
              by_cases h0 : n = 0
              · rw [if_pos h0, if_pos h0]
              · rw [if_neg h0] at h ⊢
                rw [if_neg h0]
                have hz : z.length < behind.length := by simp at h3; omega
                have hb : behind.length + 1 ≤ b.length := by rw [h1]; simp only [List.length_append, List.length_cons]; omega
                simp only [List.length_append] at hg
                exact unchS_app g t (by omega) (by simp; omega) h
theorem unchunkS_app {b : L} (t : L) (h : unchunkS b ≠ .error 140) : unchunkS (b ++ t) = unchunkS b := by
  unfold unchunkS at h ⊢
  have h1 : unchS (b.length + 1) [] b ≠ .error 140 := fun e => h (by rw [e])
  rw [unchS_app (f := b.length + 1) ((b ++ t).length + 1) t (by omega) (by omega) h1]
  cases hu : unchS (b.length + 1) [] b with
  | error e => rfl
  | ok z =>
    obtain ⟨body, r⟩ := z
    have := (unchS_rest hu).1
    simp only
    have e : (b ++ t).length - (r ++ t).length = b.length - r.length := by simp; omega
    rw [e]
theorem unchunkS_le {b body : L} {n : Nat} (h : unchunkS b = .ok (body, n)) : n ≤ b.length ∧ 0 < n := by
  unfold unchunkS at h
  cases hu : unchS (b.length + 1) [] b with
  | error e => rw [hu] at h; cases h
  | ok z =>
    obtain ⟨bd, r⟩ := z
    have := (unchS_rest hu).1
    rw [hu] at h
    simp only [Except.ok.injEq, Prod.mk.injEq] at h
    omega

/-! Fields -/
def fieldS (s : L) : Option Fld := match cutC 58 s with
  | none => none
  | some (n, v) => if tokS n = true ∧ v.all valB = true then some (n, trimS v) else none
def fieldsS : List L → Option (List Fld)
  | [] => some []
  | l :: r => match fieldS l with
    | none => none
    | some f => match fieldsS r with
      | none => none
      | some fs => some (f :: fs)
/-- The values of the fields of a name (small letters). -/
def vals (l : List Fld) (name : L) : List L := l.filterMap fun f => if lowS f.1 = name then some f.2 else none

def nHost : L := [104, 111, 115, 116]
def nConn : L := [99, 111, 110, 110, 101, 99, 116, 105, 111, 110]
def nCode : L := [116, 114, 97, 110, 115, 102, 101, 114, 45, 101, 110, 99, 111, 100, 105, 110, 103]
def nLen : L := [99, 111, 110, 116, 101, 110, 116, 45, 108, 101, 110, 103, 116, 104]
def wClose : L := [99, 108, 111, 115, 101]
def wKeep : L := [107, 101, 101, 112, 45, 97, 108, 105, 118, 101]
def wChunked : L := [99, 104, 117, 110, 107, 101, 100]

/-- A number in its one form, at most most; above: most + 1. -/
def numV : Nat → L → Nat
  | n, [] => n
  | n, c :: r => numV (10 * n + (c - 48).toNat) r
def numS (s : L) : Option Nat := if s = [] ∨ s.all digB = false ∨ (1 < s.length ∧ s.head? = some 48) then none else some (numV 0 s)
def hostOk (l : List Fld) (minor : Int) : Bool := match vals l nHost with
  | [] => minor != 1
  | [v] => v.all hostB
  | _ => false
def closesS (l : List Fld) (minor : Int) : Bool :=
  let ws := (vals l nConn).flatMap fun v => (splitC 44 v).map fun w => lowS (trimS w)
  ws.contains wClose || (minor != 1 && !ws.contains wKeep)
inductive Frame where
  | none
  | chunks
  | len (n : Nat)
def frameS (l : List Fld) (minor : Int) : Except Nat Frame := match vals l nCode with
  | [] => match vals l nLen with
    | [] => .ok .none
    | [v] => match numS v with
      | .none => .error 143
      | some n => if 1048576 < n then .error 145 else .ok (.len n)
    | _ => .error 143
  | [c] => if minor = 0 ∨ lowS c ≠ wChunked ∨ vals l nLen ≠ [] then .error 143 else .ok .chunks
  | _ => .error 143
/-- The body, if its length is told: it, and how many bytes it takes. -/
def bodyS (rest : L) : Frame → Except Nat (L × Nat)
  | .none => .ok ([], 0)
  | .chunks => match unchunkS rest with
    | .error e => .error (if e = 2 then 145 else e)
    | .ok r => .ok r
  | .len n => if rest.length < n then .error 140 else .ok (rest.take n, n)

/-! Requests -/
def methodsS : List L := [[71, 69, 84], [72, 69, 65, 68], [80, 79, 83, 84], [80, 85, 84], [68, 69, 76, 69, 84, 69], [67, 79, 78, 78, 69, 67, 84], [79, 80, 84, 73, 79, 78, 83], [84, 82, 65, 67, 69], [80, 65, 84, 67, 72]]
/-- HTTP/ and a digit, a dot, a digit: the two. -/
def versS (s : L) : Option (Int × Int) := match s with
  | [72, 84, 84, 80, 47, a, 46, b] => if digB a = true ∧ digB b = true then some (a - 48, b - 48) else none
  | _ => none
def startS (first : L) : Except Nat (L × L × Int) := match splitC 32 first with
  | [m, t, v] =>
    if tokS m = false ∨ t = [] ∨ t.all visB = false then .error 141
    else match versS v with
      | none => .error 141
      | some (a, b) => if methodsS.contains m = false then .error 148 else if a = 1 ∧ b ≤ 1 then .ok (m, t, b) else .error 142
  | _ => .error 141
structure ReqS where
  method : L
  target : L
  minor : Int
  fields : List Fld
  body : L
  close : Bool
def fieldsE (ls : List L) : Except Nat (List Fld) := if 64 < ls.length then .error 2 else match fieldsS ls with | none => .error 143 | some l => .ok l
def parseReqS (b : L) : Except Nat (ReqS × Nat) := match cutS 147 b with
  | .error e => .error e
  | .ok (first, ls, rest) => match startS first with
    | .error e => .error e
    | .ok (m, t, v) => match fieldsE ls with
      | .error e => .error e
      | .ok l => if hostOk l v = false then .error 144 else match frameS l v with
        | .error e => .error e
        | .ok fr => match bodyS rest fr with
          | .error e => .error e
          | .ok (body, k) => .ok (⟨m, t, v, l, body, closesS l v⟩, b.length - rest.length + k)

/-! Responses -/
structure ResS where
  status : Int
  minor : Int
  fields : List Fld
  body : L
  close : Bool
def bareS (s : Int) : Bool := (decide (100 ≤ s) && decide (s < 200)) || decide (s = 204) || decide (s = 304)
def statS (s : L) : Except Nat (Int × Int) :=
  match s.drop 8 with
  | 32 :: a :: b :: c :: reason =>
    if digB a = true ∧ digB b = true ∧ digB c = true ∧ (reason = [] ∨ reason.head? = some 32) ∧ reason.all valB = true then
      match versS (s.take 8) with
      | none => .error 141
      | some (x, y) => if x = 1 ∧ y ≤ 1 then
          (if 100 ≤ 100 * (a - 48) + 10 * (b - 48) + (c - 48) ∧ 100 * (a - 48) + 10 * (b - 48) + (c - 48) ≤ 599 then .ok (100 * (a - 48) + 10 * (b - 48) + (c - 48), y) else .error 149)
        else .error 142
    else .error 141
  | _ => .error 141
def parseResS (b : L) : Except Nat (ResS × Nat) := match cutS 141 b with
  | .error e => .error e
  | .ok (first, ls, rest) => match statS first with
    | .error e => .error e
    | .ok (st, v) => match fieldsE ls with
      | .error e => .error e
      | .ok l => if bareS st = true then .ok (⟨st, v, l, [], closesS l v⟩, b.length - rest.length) else match frameS l v with
        | .error e => .error e
        | .ok .none => if 1048576 < rest.length then .error 145 else .ok (⟨st, v, l, rest, true⟩, b.length - rest.length + rest.length)
        | .ok fr => match bodyS rest fr with
          | .error e => .error e
          | .ok (body, k) => .ok (⟨st, v, l, body, closesS l v⟩, b.length - rest.length + k)

theorem bodyS_app {rest : L} {fr : Frame} (t : L) (h : bodyS rest fr ≠ .error 140) : bodyS (rest ++ t) fr = bodyS rest fr := by
  cases fr with
  | none => rfl
  | chunks =>
    simp only [bodyS] at h ⊢
    rw [unchunkS_app t (fun e => h (by rw [e]; rfl))]
  | len n =>
    simp only [bodyS] at h ⊢
    by_cases hn : rest.length < n
    · rw [if_pos hn] at h; exact absurd rfl h
    · rw [if_neg hn, if_neg (by simp; omega), List.take_append_of_le_length (by omega)]
theorem bodyS_le {rest body : L} {fr : Frame} {k : Nat} (h : bodyS rest fr = .ok (body, k)) : k ≤ rest.length := by
  cases fr with
  | none => simp only [bodyS, Except.ok.injEq, Prod.mk.injEq] at h; omega
  | chunks =>
    simp only [bodyS] at h
    cases hu : unchunkS rest with
    | error e => rw [hu] at h; cases h
    | ok z =>
      rw [hu] at h
      simp only [Except.ok.injEq] at h
      subst h
      exact (unchunkS_le hu).1
  | len n =>
    simp only [bodyS] at h
    split at h
    · cases h
    · simp only [Except.ok.injEq, Prod.mk.injEq] at h; omega
theorem startS_140 {f : L} : startS f ≠ .error 140 := by
  unfold startS
  split
  · split
    · simp
    · split
      · simp
      · split
        · simp
        · split <;> simp
  · simp
theorem statS_140 {f : L} : statS f ≠ .error 140 := by
  unfold statS
  split
  · split
    · split
      · simp
      · split
        · split <;> simp
        · simp
    · simp
  · simp
theorem fieldsE_140 {ls : List L} : fieldsE ls ≠ .error 140 := by
  unfold fieldsE
  split
  · simp
  · split <;> simp
theorem frameS_140 {l : List Fld} {v : Int} : frameS l v ≠ .error 140 := by
  unfold frameS
  split
  · split
    · simp
    · split
      · simp
      · split <;> simp
    · simp
  · split <;> simp
  · simp
/-- A request that was read, or refused for good, is so with whatever stands behind it. -/
theorem parseReqS_app {b : L} (t : L) (h : parseReqS b ≠ .error 140) : parseReqS (b ++ t) = parseReqS b := by
  unfold parseReqS at h ⊢
  have hc : cutS 147 b ≠ .error 140 := fun e => h (by rw [e])
  rw [cutS_app t hc]
  cases hcs : cutS 147 b with
  | error e => rfl
  | ok z =>
    obtain ⟨first, ls, rest⟩ := z
    rw [hcs] at h
    have hr := (cutS_rest hcs).1
    have hlen : (b ++ t).length - (rest ++ t).length = b.length - rest.length := by simp; omega
    simp only at h ⊢
    rw [hlen]
    cases hs : startS first with
    | error e => rfl
    | ok z =>
      obtain ⟨m, tg, v⟩ := z
      rw [hs] at h
      simp only at h ⊢
      cases hf : fieldsE ls with
      | error e => rfl
      | ok l =>
        rw [hf] at h
        simp only at h ⊢
        by_cases hh : hostOk l v = false
        · rw [if_pos hh, if_pos hh]
        · rw [if_neg hh] at h ⊢
          rw [if_neg hh]
          cases hfr : frameS l v with
          | error e => rfl
          | ok fr =>
            rw [hfr] at h
            simp only at h ⊢
            rw [bodyS_app t (fun e => h (by rw [e]))]
theorem parseReqS_le {b : L} {r : ReqS} {n : Nat} (h : parseReqS b = .ok (r, n)) : n ≤ b.length ∧ 0 < n := by
  unfold parseReqS at h
  cases hcs : cutS 147 b with
  | error e => rw [hcs] at h; cases h
  | ok z =>
    obtain ⟨first, ls, rest⟩ := z
    have hr := (cutS_rest hcs).1
    rw [hcs] at h
    simp only at h
    cases hs : startS first with
    | error e => rw [hs] at h; cases h
    | ok z =>
      obtain ⟨m, tg, v⟩ := z
      rw [hs] at h
      simp only at h
      cases hf : fieldsE ls with
      | error e => rw [hf] at h; cases h
      | ok l =>
        rw [hf] at h
        simp only at h
        split at h
        · cases h
        · cases hfr : frameS l v with
          | error e => rw [hfr] at h; cases h
          | ok fr =>
            rw [hfr] at h
            simp only at h
            cases hb : bodyS rest fr with
            | error e => rw [hb] at h; cases h
            | ok z =>
              obtain ⟨body, k⟩ := z
              have := bodyS_le hb
              rw [hb] at h
              simp only [Except.ok.injEq, Prod.mk.injEq] at h
              omega
end Go.Proofs.YthgojbdpmcccaaaDoor.Wb
