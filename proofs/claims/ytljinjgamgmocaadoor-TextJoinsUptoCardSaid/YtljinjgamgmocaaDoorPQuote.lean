/- Quoted texts: the program's and the document's calls, on lists of bytes. -/
import Derived.Test.YtljinjgamgmocaaDoorPHex
namespace Go.Proofs.YtljinjgamgmocaaDoor.Pure
open Go.RowKit Go.Proofs.YtljinjgamgmocaaDoor.G Go.Proofs.YtljinjgamgmocaaDoorW.PrintWords Go.Proofs.YtljinjgamgmocaaDoorW.PrintLast Go.Proofs.YtljinjgamgmocaaDoorW.PrintMore
set_option linter.unusedSimpArgs false
set_option linter.unusedVariables false

/-- Does the byte stand for itself? -/
def selfB (c : Int) : Bool := decide (32 ≤ c ∧ c ≤ 126 ∧ c ≠ 34 ∧ c ≠ 92)
theorem itself_f (c : Int) : text_itself.f c = some (selfB c) := by
  unfold text_itself.f selfB
  by_cases h1 : c ≥ 32
  · rw [if_pos h1]
    by_cases h2 : c ≤ 126
    · rw [if_pos h2]
      by_cases h3 : c = 34
      · rw [if_pos h3]; subst h3; rfl
      · rw [if_neg h3]
        congr 1
        rw [Bool.eq_iff_iff]
        simp
        omega
    · rw [if_neg h2]; simp; omega
  · rw [if_neg h1]; simp; omega
/-- One byte, as it is quoted. -/
def q1 (c : Int) : List Int := if selfB c then [c] else [92, 120, hx (c / 16), hx (c % 16)]
def qOf : List Int → List Int
  | [] => []
  | c :: r => q1 c ++ qOf r
def quoteOf (l : List Int) : List Int := 34 :: (qOf l ++ [34])
theorem q1_length (c : Int) : 1 ≤ (q1 c).length ∧ (q1 c).length ≤ 4 := by unfold q1; split <;> simp
theorem qOf_append : ∀ a b, qOf (a ++ b) = qOf a ++ qOf b
  | [], _ => rfl
  | c :: a, b => by simp only [qOf, List.cons_append, qOf_append a b, List.append_assoc]
theorem qOf_length : ∀ l, l.length ≤ (qOf l).length ∧ (qOf l).length ≤ 4 * l.length
  | [] => by simp [qOf]
  | c :: r => by
    have h1 := q1_length c
    have h2 := qOf_length r
    simp only [qOf, List.length_append, List.length_cons]
    omega
theorem q1_bytes {c : Int} (h0 : 0 ≤ c) (h1 : c ≤ 255) : Bytes (q1 c) := by
  unfold q1
  split
  · exact Bytes.mk h0 h1 Bytes.nil
  · have a := hx_at (x := c / 16) (by omega) (by omega)
    have b := hx_at (x := c % 16) (by omega) (by omega)
    exact Bytes.mk (by omega) (by omega) (Bytes.mk (by omega) (by omega) (Bytes.mk a.1 a.2.1 (Bytes.mk b.1 b.2.1 Bytes.nil)))
theorem qOf_bytes : ∀ {l}, Bytes l → Bytes (qOf l)
  | [], _ => Bytes.nil
  | c :: r, h => by
    obtain ⟨hc, hr⟩ := h.cons
    exact Bytes.app (q1_bytes hc.1 hc.2) (qOf_bytes hr)
theorem quoteOf_bytes {l : List Int} (h : Bytes l) : Bytes (quoteOf l) := Bytes.mk (by omega) (by omega) (Bytes.app (qOf_bytes h) (Bytes.mk (by omega) (by omega) Bytes.nil))

theorem quote_loop (suf : List Int) : ∀ (pre acc : List Int) (k : Nat), Bytes suf → pre.length + suf.length ≤ 4611686018427387904 → acc.length + 4 * suf.length < 140737488355327 → suf.length < k →
    text_Quote.l0 k acc (pre ++ suf) ((pre.length + suf.length : Nat) : Int) (pre.length : Int) = some (strOfNums (acc ++ (qOf suf ++ [34]))) := by
  induction suf with
  | nil =>
    intro pre acc k _ _ ha hk
    obtain ⟨k, rfl⟩ := rounds hk
    simp only [List.length_nil] at ha
    simp only [text_Quote.l0]
    rw [if_neg (by first | omega | (simp; done) | (simp; omega)), if_pos (by omega)]
    simp [qOf]
  | cons c r ih =>
    intro pre acc k hb hl ha hk
    obtain ⟨k, rfl⟩ := rounds hk
    obtain ⟨hc, hr⟩ := hb.cons
    simp only [List.length_cons] at hl ha hk ⊢
    simp only [text_Quote.l0]
    rw [if_pos (by omega), if_pos (by omega), if_pos (by first | omega | (simp; done) | (simp; omega)), rd_mid, itself_f]
    try simp only [Option.bind_some]
    have h := fun y (hy : y.length ≤ 4) => ih (pre ++ [c]) (acc ++ y) k hr (by first | omega | (simp; done) | (simp; omega)) (by first | omega | (simp; done) | (simp; omega)) (by omega)
    simp only [List.length_append, List.length_cons, List.length_nil, List.append_assoc, List.cons_append, List.nil_append] at h
    rw [show ((pre.length + (r.length + 1) : Nat) : Int) = ((pre.length + (0 + 1) + r.length : Nat) : Int) from by omega, w64 (x := (pre.length : Int) + 1) (by omega) (by omega), show (pre.length : Int) + 1 = ((pre.length + (0 + 1) : Nat) : Int) from by omega]
    by_cases hs : selfB c = true
    · rw [if_pos hs, if_pos (by omega)]
      rw [h [c] (by simp)]
      simp [qOf, q1, hs]
    · rw [if_neg hs, u8_and15 _ hc.1 (by omega), if_pos (by omega), if_pos (by omega), if_pos (by omega), if_pos (by omega)]
      try simp only [Option.bind_some]
      rw [if_pos (by first | omega | (simp; done) | (simp; omega))]
      rw [h _ (by simp)]
      simp [qOf, q1, hs, hx]
theorem quote_f {l : List Int} (hb : Bytes l) (hl : l.length ≤ 35184372088831) : ∀ k, l.length < k → text_Quote.f k l = some (strOfNums (quoteOf l)) := by
  intro k hk
  unfold text_Quote.f
  have h := quote_loop l [] [34] k hb (by first | omega | (simp; done) | (simp; omega)) (by first | omega | (simp; done) | (simp; omega)) hk
  simpa [quoteOf] using h

theorem refQuote_loop (suf : List Int) : ∀ (pre acc : List Int) (k : Nat), Bytes suf → pre.length + suf.length ≤ 4611686018427387904 → acc.length + 4 * suf.length < 140737488355327 → suf.length < k →
    ledgerref06_Quote.l0 k (pre ++ suf) acc (pre.length : Int) = some (strOfNums (acc ++ (qOf suf ++ [34]))) := by
  induction suf with
  | nil =>
    intro pre acc k _ _ ha hk
    obtain ⟨k, rfl⟩ := rounds hk
    simp only [List.length_nil] at ha
    simp only [ledgerref06_Quote.l0]
    rw [if_neg (by first | omega | (simp; done) | (simp; omega)), if_pos (by omega)]
    simp [qOf]
  | cons c r ih =>
    intro pre acc k hb hl ha hk
    obtain ⟨k, rfl⟩ := rounds hk
    obtain ⟨hc, hr⟩ := hb.cons
    simp only [List.length_cons] at hl ha hk
    have h := fun y (hy : y.length ≤ 4) => ih (pre ++ [c]) (acc ++ y) k hr (by first | omega | (simp; done) | (simp; omega)) (by first | omega | (simp; done) | (simp; omega)) (by omega)
    simp only [List.length_append, List.length_cons, List.length_nil, List.append_assoc, List.cons_append, List.nil_append] at h
    have e1 := (hx_at (x := c / 16) (by omega) (by omega)).2.2.2
    have e2 := (hx_at (x := c % 16) (by omega) (by omega)).2.2.2
    have t1 : Int.tdiv c 16 = c / 16 := Int.tdiv_eq_ediv_of_nonneg hc.1
    have t2 : Int.tmod c 16 = c % 16 := Int.tmod_eq_emod_of_nonneg hc.1
    have e3 : c / 16 % 256 = c / 16 := by omega
    have hw := Aside0.mk (show wrap64 ((pre.length : Int) + 1) = ((pre.length + (0 + 1) : Nat) : Int) by rw [w64 (by omega) (by omega)]; omega)
    have fin : selfB c = false → ledgerref06_Quote.l0 k (pre ++ c :: r) (((acc ++ [92] ++ [120]) ++ [hx (c / 16)]) ++ [hx (c % 16)]) ((pre.length + (0 + 1) : Nat) : Int) = some (strOfNums (acc ++ (qOf (c :: r) ++ [34]))) := by
      intro hs
      have := h [92, 120, hx (c / 16), hx (c % 16)] (by simp)
      simpa [qOf, q1, hs] using this
    simp only [ledgerref06_Quote.l0, rd_mid, t1, t2, e3, hw.out, ← e1, ← e2]
    rw [if_pos (by first | omega | (simp; done) | (simp; omega)), if_pos (by omega)]
    by_cases c1 : c < 32
    · rw [if_pos c1]
      rw [if_pos (by omega)]
      try simp only [Option.bind_some]
      rw [if_pos (by first | omega | (simp; done) | (simp; omega))]
      try simp only [Option.bind_some]
      rw [if_pos (by omega), if_pos (by omega), if_pos (by first | omega | (simp; done) | (simp; omega))]
      try simp only [Option.bind_some]
      rw [if_pos (by omega), if_pos (by omega), if_pos (by first | omega | (simp; done) | (simp; omega))]
      exact fin (by simp [selfB]; omega)
    rw [if_neg c1]
    by_cases c2 : c > 126
    · rw [if_pos c2]
      rw [if_pos (by omega)]
      try simp only [Option.bind_some]
      rw [if_pos (by first | omega | (simp; done) | (simp; omega))]
      try simp only [Option.bind_some]
      rw [if_pos (by omega), if_pos (by omega), if_pos (by first | omega | (simp; done) | (simp; omega))]
      try simp only [Option.bind_some]
      rw [if_pos (by omega), if_pos (by omega), if_pos (by first | omega | (simp; done) | (simp; omega))]
      exact fin (by simp [selfB]; omega)
    rw [if_neg c2]
    by_cases c3 : c = 34
    · rw [if_pos c3]
      rw [if_pos (by omega)]
      try simp only [Option.bind_some]
      rw [if_pos (by first | omega | (simp; done) | (simp; omega))]
      try simp only [Option.bind_some]
      rw [if_pos (by omega), if_pos (by omega), if_pos (by first | omega | (simp; done) | (simp; omega))]
      try simp only [Option.bind_some]
      rw [if_pos (by omega), if_pos (by omega), if_pos (by first | omega | (simp; done) | (simp; omega))]
      exact fin (by simp [selfB]; omega)
    rw [if_neg c3]
    by_cases c4 : c = 92
    · rw [if_pos c4]
      rw [if_pos (by omega)]
      try simp only [Option.bind_some]
      rw [if_pos (by first | omega | (simp; done) | (simp; omega))]
      try simp only [Option.bind_some]
      rw [if_pos (by omega), if_pos (by omega), if_pos (by first | omega | (simp; done) | (simp; omega))]
      try simp only [Option.bind_some]
      rw [if_pos (by omega), if_pos (by omega), if_pos (by first | omega | (simp; done) | (simp; omega))]
      exact fin (by simp [selfB]; omega)
    rw [if_neg c4, if_pos (by omega)]
    have hs : selfB c = true := by simp [selfB]; omega
    rw [h [c] (by simp)]
    simp [qOf, q1, hs]
theorem refQuote_f {l : List Int} (hb : Bytes l) (hl : l.length ≤ 35184372088831) : ∀ k, l.length < k → ledgerref06_Quote.f k l = some (strOfNums (quoteOf l)) := by
  intro k hk
  unfold ledgerref06_Quote.f
  have h := refQuote_loop l [] [34] k hb (by first | omega | (simp; done) | (simp; omega)) (by first | omega | (simp; done) | (simp; omega)) hk
  simpa [quoteOf] using h

/-- What stands between the quotes, read. -/
def unq : Nat → List Int → Option (List Int)
  | 0, _ => none
  | _ + 1, [] => some []
  | n + 1, c :: r => if selfB c then (unq n r).map (c :: ·) else
      match c :: r with
      | 92 :: 120 :: a :: b :: r' => match unhex [a, b] with
        | some [v] => if selfB v then none else (unq n r').map (v :: ·)
        | _ => none
      | _ => none
theorem unhex_two (a b : Int) : (unhex [a, b] = none) ∨ ∃ v, unhex [a, b] = some [v] := by
  simp only [unhex]
  split
  · exact .inl rfl
  · split
    · exact .inl rfl
    · exact .inr ⟨_, rfl⟩
theorem unq_sound : ∀ (n : Nat) (s l : List Int), Bytes s → unq n s = some l → qOf l = s ∧ Bytes l
  | 0, _, _, _, h => by cases h
  | n + 1, [], l, _, h => by
    simp only [unq, Option.some.injEq] at h
    subst h
    exact ⟨rfl, Bytes.nil⟩
  | n + 1, c :: r, l, hb, h => by
    obtain ⟨hc, hr⟩ := hb.cons
    simp only [unq] at h
    by_cases hs : selfB c = true
    · rw [if_pos hs] at h
      obtain ⟨m, hm, rfl⟩ := Option.map_eq_some_iff.1 h
      obtain ⟨h1, h2⟩ := unq_sound n r m hr hm
      exact ⟨by simp [qOf, q1, hs, h1], Bytes.mk hc.1 hc.2 h2⟩
    · rw [if_neg hs] at h
      split at h
      · rename_i a b r' heq
        simp only [List.cons.injEq] at heq
        obtain ⟨rfl, rfl⟩ := heq
        split at h
        · rename_i v hu
          split at h
          · cases h
          · rename_i hv
            obtain ⟨m, hm, rfl⟩ := Option.map_eq_some_iff.1 h
            obtain ⟨h1, h2⟩ := unq_sound n r' m (fun x hx => hr x (by simp [hx])) hm
            obtain ⟨e1, e2⟩ := hex_unhex _ _ hu
            simp only [hexOf, List.cons.injEq] at e1
            refine ⟨?_, Bytes.mk (e2 v (by simp)).1 (e2 v (by simp)).2 h2⟩
            simp [qOf, q1, hv, h1, e1]
        · cases h
      · cases h
theorem unq_qOf : ∀ (l : List Int) (n : Nat), Bytes l → l.length < n → unq n (qOf l) = some l
  | [], n, _, hn => by
    obtain ⟨n, rfl⟩ := rounds hn
    rfl
  | c :: r, n, hb, hn => by
    obtain ⟨n, rfl⟩ := rounds hn
    obtain ⟨hc, hr⟩ := hb.cons
    have ih := unq_qOf r n hr (by simp only [List.length_cons] at hn; omega)
    by_cases hs : selfB c = true
    · simp [qOf, q1, hs, unq, ih]
    · have h92 : selfB 92 = false := by decide
      have hu := unhex_hex (l := [c]) (Bytes.mk hc.1 hc.2 Bytes.nil)
      simp only [hexOf] at hu
      simp [qOf, q1, hs, unq, ih, h92, hu]
end Go.Proofs.YtljinjgamgmocaaDoor.Pure
