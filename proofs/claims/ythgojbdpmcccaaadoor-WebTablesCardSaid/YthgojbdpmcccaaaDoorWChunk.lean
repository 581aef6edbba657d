/- Web messages by plain lists of bytes: chunks give the body back; a request whose body comes in chunks has that body; a line that two readers could take in two ways is refused wherever it stands. -/
import Derived.Test.YthgojbdpmcccaaaDoorWResp
namespace Go.Proofs.YthgojbdpmcccaaaDoor.Wb
set_option linter.unusedVariables false
set_option linter.unusedSimpArgs false

/-! Hexadecimal -/
def hexD (d : Nat) : Int := if d < 10 then 48 + d else 87 + d
def hexS (n : Nat) : L := if n < 16 then [hexD n] else hexS (n / 16) ++ [hexD (n % 16)]
termination_by n
decreasing_by omega
theorem hexS_lt {n : Nat} (h : n < 16) : hexS n = [hexD n] := by rw [hexS, if_pos h]
theorem hexS_ge {n : Nat} (h : ¬ n < 16) : hexS n = hexS (n / 16) ++ [hexD (n % 16)] := by rw [hexS, if_neg h]
theorem hexV_D {d : Nat} (h : d < 16) : hexV (hexD d) = some d := by
  unfold hexD hexV
  by_cases h1 : d < 10
  · rw [if_pos h1, if_pos (by omega)]; congr 1; omega
  · rw [if_neg h1, if_neg (by omega), if_pos (by omega)]; congr 1; omega
theorem hexN_app (a b : L) (n : Nat) : hexN n (a ++ b) = match hexN n a with | none => none | some m => hexN m b := by
  induction a generalizing n with
  | nil => rfl
  | cons x a ih =>
    simp only [List.cons_append, hexN]
    cases hexV x with
    | none => rfl
    | some d => exact ih _
theorem hexN_S (n : Nat) : hexN 0 (hexS n) = some n := by
  induction n using Nat.strongRecOn with
  | _ n ih =>
    by_cases h : n < 16
    · rw [hexS_lt h]; simp only [hexN, hexV_D h]; congr 1; omega
    · rw [hexS_ge h, hexN_app, ih (n / 16) (by omega)]
      simp only [hexN, hexV_D (Nat.mod_lt n (by omega))]
      congr 1; omega
theorem hexS_ne (n : Nat) : hexS n ≠ [] := by
  by_cases h : n < 16
  · rw [hexS_lt h]; simp
  · rw [hexS_ge h]; simp
theorem hexS_mem (n : Nat) : ∀ x ∈ hexS n, ∃ d, d < 16 ∧ x = hexD d := by
  induction n using Nat.strongRecOn with
  | _ n ih =>
    intro x hx
    by_cases h : n < 16
    · rw [hexS_lt h] at hx; simp only [List.mem_singleton] at hx; exact ⟨n, h, hx⟩
    · rw [hexS_ge h] at hx
      rcases List.mem_append.1 hx with h1 | h1
      · exact ih (n / 16) (by omega) x h1
      · simp only [List.mem_singleton] at h1; exact ⟨n % 16, Nat.mod_lt n (by omega), h1⟩
theorem hexS_no (n : Nat) : (10 : Int) ∉ hexS n ∧ (13 : Int) ∉ hexS n ∧ (59 : Int) ∉ hexS n := by
  refine ⟨?_, ?_, ?_⟩ <;>
  · intro h
    obtain ⟨d, hd, e⟩ := hexS_mem n _ h
    unfold hexD at e
    split at e <;> omega
theorem hexS_len : ∀ {n : Nat}, n < 16 ^ 8 → (hexS n).length ≤ 8 := by
  have h : ∀ (k n : Nat), 0 < k → n < 16 ^ k → (hexS n).length ≤ k := by
    intro k
    induction k with
    | zero => intro n h0; omega
    | succ k ih =>
      intro n _ hn
      by_cases h1 : n < 16
      · rw [hexS_lt h1]; simp
      · rw [hexS_ge h1]
        have hk : 0 < k := by
          rcases Nat.eq_zero_or_pos k with rfl | h
          · simp at hn; omega
          · exact h
        have h2 : n / 16 < 16 ^ k := by rw [Nat.pow_succ] at hn; omega
        have := ih (n / 16) hk h2
        simp; omega
  intro n hn
  exact h 8 n (by omega) hn
theorem cutC_none_mk {c : Int} {b : L} (h : c ∉ b) : cutC c b = none := by
  cases hc : cutC c b with
  | none => rfl
  | some q =>
    obtain ⟨a, s⟩ := q
    obtain ⟨h1, _⟩ := cutC_some hc
    exact absurd (by rw [h1]; simp) h
theorem sizeS_hex {n : Nat} (h : n < 16 ^ 8) : sizeS (hexS n) = some n := by
  have hl := hexS_len h
  have hc : cutC 59 (hexS n) = none := cutC_none_mk (hexS_no n).2.2
  unfold sizeS aheadC behindC
  rw [hc, if_neg (by omega)]
  simp only
  rw [if_neg, hexN_S]
  rintro (h | h | h)
  · exact hexS_ne n h
  · omega
  · cases h

/-! Chunks -/
def chunk1 (n : Nat) (p : L) : L := hexS n ++ [13, 10] ++ p ++ [13, 10]
def chunkedS : Nat → Nat → L → L
  | 0, _, _ => []
  | f + 1, size, body => if body = [] then [48, 13, 10, 13, 10] else chunk1 (min size body.length) (body.take (min size body.length)) ++ chunkedS f size (body.drop (min size body.length))
theorem unchS_chunked : ∀ (f : Nat) (size : Nat) (body acc t : L) (g : Nat), 0 < size → size ≤ 65536 → body.length < f → acc.length + body.length ≤ 1048576 → body.length < g →
    unchS g acc (chunkedS f size body ++ t) = .ok (acc ++ body, t)
  | 0, _, _, _, _, _, _, _, h, _, _ => by omega
  | f + 1, size, body, acc, t, 0, _, _, _, _, h => by omega
  | f + 1, size, body, acc, t, g + 1, h0, h1, hf, ha, hg => by
    unfold chunkedS
    by_cases hb : body = []
    · rw [if_pos hb]
      subst hb
      have e : ([48, 13, 10, 13, 10] : L) ++ t = [48, 13] ++ 10 :: ([13, 10] ++ t) := rfl
      unfold unchS
      rw [e, lineS_mk _ (by decide)]
      have e2 : chop [48, 13] = [48] := by decide
      rw [e2]
      have e3 : sizeS [48] = some 0 := by decide
      simp only [e3]
      rw [if_neg (by simp at ha ⊢; omega), if_neg (by omega)]
      have e4 : endS (([13, 10] ++ t).drop 0) = .ok t := rfl
      rw [e4]
      simp
    · rw [if_neg hb]
      have hpos := List.length_pos_iff.2 hb
      obtain ⟨n, hn⟩ : ∃ n, n = min size body.length := ⟨_, rfl⟩
      rw [← hn]
      have hn1 : 0 < n := by omega
      have hn2 : n ≤ body.length := by omega
      have e : chunk1 n (body.take n) ++ chunkedS f size (body.drop n) ++ t = (hexS n ++ [13]) ++ 10 :: (body.take n ++ ([13, 10] ++ (chunkedS f size (body.drop n) ++ t))) := by simp [chunk1]
      unfold unchS
      have hno := hexS_no n
      rw [e, lineS_mk _ (by simp only [List.mem_append, not_or]; exact ⟨hno.1, by decide⟩), chop_cr]
      simp only
      rw [sizeS_hex (by have : (16 : Nat) ^ 8 = 4294967296 := by decide
                        omega)]
      simp only
      rw [if_neg (by omega), if_neg (by simp; omega)]
      have hd : (body.take n ++ ([13, 10] ++ (chunkedS f size (body.drop n) ++ t))).drop n = 13 :: 10 :: (chunkedS f size (body.drop n) ++ t) := by
        rw [List.drop_left' (by simp; omega)]; rfl
      have ht : (body.take n ++ ([13, 10] ++ (chunkedS f size (body.drop n) ++ t))).take n = body.take n := by
        rw [List.take_left' (by simp; omega)]
      rw [hd, ht]
      have e4 : endS (13 :: 10 :: (chunkedS f size (body.drop n) ++ t)) = .ok (chunkedS f size (body.drop n) ++ t) := rfl
      rw [e4]
      simp only
      rw [if_neg (by omega), unchS_chunked f size (body.drop n) (acc ++ body.take n) t g h0 h1 (by simp; omega) (by simp; omega) (by simp; omega)]
      rw [List.append_assoc, List.take_append_drop]
theorem chunked_len : ∀ (f : Nat) (size : Nat) (body : L), body.length < f → 0 < size → body.length < (chunkedS f size body).length
  | 0, _, _, h, _ => by omega
  | f + 1, size, body, h, h0 => by
    unfold chunkedS
    by_cases hb : body = []
    · rw [if_pos hb, hb]; simp
    · rw [if_neg hb]
      have hpos := List.length_pos_iff.2 hb
      have := chunked_len f size (body.drop (min size body.length)) (by simp; omega) h0
      simp only [chunk1, List.length_append, List.length_drop, List.length_take, List.length_cons, List.length_nil] at *
      omega
theorem unchunk_back {f size : Nat} {body : L} (t : L) (h0 : 0 < size) (h1 : size ≤ 65536) (hf : body.length < f) (hb : body.length ≤ 1048576) :
    unchunkS (chunkedS f size body ++ t) = .ok (body, (chunkedS f size body).length) := by
  unfold unchunkS
  have := chunked_len f size body hf h0
  rw [unchS_chunked f size body [] t _ h0 h1 hf (by simpa using hb) (by simp; omega)]
  simp
theorem unchunk_short {p : L} {body b : L} (h : unchunkS b = .ok (body, b.length)) (hp : ∃ t, b = p ++ t ∧ t ≠ []) : unchunkS p = .error 140 := by
  obtain ⟨t, rfl, ht⟩ := hp
  rcases Classical.em (unchunkS p = .error 140) with e | e
  · exact e
  · have h1 := unchunkS_app t e
    rw [h] at h1
    have := (unchunkS_le h1.symm).1
    have := List.length_pos_iff.2 ht
    simp only [List.length_append] at *
    omega
/-- 'POST / HTTP/1.1', a host, a body in chunks. -/
def chunkHead : L := [80, 79, 83, 84, 32, 47, 32, 72, 84, 84, 80, 47, 49, 46, 49, 13, 10, 72, 111, 115, 116, 58, 32, 97, 13, 10, 84, 114, 97, 110, 115, 102, 101, 114, 45, 69, 110, 99, 111, 100, 105, 110, 103, 58, 32, 99, 104, 117, 110, 107, 101, 100, 13, 10, 13, 10]
theorem chunkHead_cut (c : L) : cutS 147 (chunkHead ++ c) = .ok ([80, 79, 83, 84, 32, 47, 32, 72, 84, 84, 80, 47, 49, 46, 49], [[72, 111, 115, 116, 58, 32, 97], [84, 114, 97, 110, 115, 102, 101, 114, 45, 69, 110, 99, 111, 100, 105, 110, 103, 58, 32, 99, 104, 117, 110, 107, 101, 100]], c) := by
  have h : cutS 147 chunkHead = .ok ([80, 79, 83, 84, 32, 47, 32, 72, 84, 84, 80, 47, 49, 46, 49], [[72, 111, 115, 116, 58, 32, 97], [84, 114, 97, 110, 115, 102, 101, 114, 45, 69, 110, 99, 111, 100, 105, 110, 103, 58, 32, 99, 104, 117, 110, 107, 101, 100]], []) := by rfl
  rw [cutS_app c (by rw [h]; simp), h]
  simp
theorem chunk_req {c body : L} (h : unchunkS c = .ok (body, c.length)) :
    ∃ r, parseReqS (chunkHead ++ c) = .ok (r, chunkHead.length + c.length) ∧ r.body = body := by
  unfold parseReqS
  rw [chunkHead_cut c]
  simp only
  have hs : startS [80, 79, 83, 84, 32, 47, 32, 72, 84, 84, 80, 47, 49, 46, 49] = .ok ([80, 79, 83, 84], [47], 1) := by rfl
  rw [hs]
  simp only
  have hf : fieldsE [[72, 111, 115, 116, 58, 32, 97], [84, 114, 97, 110, 115, 102, 101, 114, 45, 69, 110, 99, 111, 100, 105, 110, 103, 58, 32, 99, 104, 117, 110, 107, 101, 100]] = .ok [([72, 111, 115, 116], [97]), ([84, 114, 97, 110, 115, 102, 101, 114, 45, 69, 110, 99, 111, 100, 105, 110, 103], [99, 104, 117, 110, 107, 101, 100])] := by rfl
  rw [hf]
  simp only
  have hh : hostOk [([72, 111, 115, 116], [97]), ([84, 114, 97, 110, 115, 102, 101, 114, 45, 69, 110, 99, 111, 100, 105, 110, 103], [99, 104, 117, 110, 107, 101, 100])] 1 = true := by decide
  rw [hh, if_neg (by simp)]
  have hr : frameS [([72, 111, 115, 116], [97]), ([84, 114, 97, 110, 115, 102, 101, 114, 45, 69, 110, 99, 111, 100, 105, 110, 103], [99, 104, 117, 110, 107, 101, 100])] 1 = .ok .chunks := by rfl
  rw [hr]
  simp only [bodyS, h]
  have e : (chunkHead ++ c).length - c.length + c.length = chunkHead.length + c.length := by simp
  rw [e]
  exact ⟨_, rfl, rfl⟩

/-! A line that is refused wherever it stands -/
/-- Field lines that make a head ErrField beside any fields that have no length of their own. -/
def badS (ls : List L) : Prop := ls.length ≤ 2 ∧ (fieldsS ls = none ∨ ∃ fs, fieldsS ls = some fs ∧ vals fs nHost = [] ∧ ∀ l, vals l nCode = [] → vals l nLen = [] → frameS (fs ++ l) 1 = .error 143)
theorem fieldsS_app : ∀ (a b : List L), fieldsS (a ++ b) = match fieldsS a with | none => none | some x => match fieldsS b with | none => none | some y => some (x ++ y)
  | [], b => by simp only [List.nil_append, fieldsS]; cases fieldsS b <;> rfl
  | x :: a, b => by
    simp only [List.cons_append, fieldsS]
    cases fieldS x with
    | none => rfl
    | some f =>
      simp only
      rw [fieldsS_app a b]
      cases fieldsS a with
      | none => rfl
      | some fs =>
        simp only
        cases fieldsS b <;> rfl
def linesL : List L → L
  | [] => []
  | l :: r => l ++ [13, 10] ++ linesL r
theorem linesL_lines : ∀ (ls : List L) (rest : L) (m : List L) (r : L) (f : Nat), (∀ l ∈ ls, (10 : Int) ∉ l ∧ l ≠ []) → linesS f rest = some (m, r) → linesS (ls.length + f) (linesL ls ++ rest) = some (ls ++ m, r)
  | [], rest, m, r, f, _, h => by simpa [linesL] using h
  | l :: ls, rest, m, r, f, hl, h => by
    have ih := linesL_lines ls rest m r f (fun x hx => hl x (by simp [hx])) h
    obtain ⟨h1, h2⟩ := hl l (by simp)
    have e : linesL (l :: ls) ++ rest = (l ++ [13]) ++ 10 :: (linesL ls ++ rest) := by simp [linesL]
    have e2 : (l :: ls).length + f = (ls.length + f) + 1 := by simp; omega
    rw [e, e2]
    unfold linesS
    rw [lineS_mk _ (by simp only [List.mem_append, not_or]; exact ⟨h1, by decide⟩), chop_cr]
    cases l with
    | nil => exact absurd rfl h2
    | cons y ys =>
      simp only
      rw [ih]
      rfl
/-- A printed request of version 1.1 without a body, with refused lines behind its first line: ErrField. -/
theorem smuggle {m t : L} {fs : List Fld} {ls : List L} (tl : L)
    (h : checkReqS m t 1 (startReq m t 1) (printedS fs none) [] = 0) (hb : badS ls) (hl : ∀ l ∈ ls, (10 : Int) ∉ l ∧ l ≠ [])
    (hn : (printedS fs none).length ≤ 60) (hlen : (linesL ls).length + headLen (printedS fs none) ≤ 16384) :
    parseReqS (startReq m t 1 ++ [13, 10] ++ linesL ls ++ headF (printedS fs none) ++ tl) = .error 143 := by
  unfold checkReqS at h
  split at h
  · cases h
  · rename_i h1
    split at h
    · cases h
    · split at h
      · cases h
      · rename_i h3
        split at h
        · cases h
        · rename_i h4
          split at h
          · cases h
          · split at h
            · cases h
            · split at h
              · cases h
              · rename_i h7
                split at h
                · cases h
                · rename_i h8
                  have hg := all_goodF h7
                  simp only [not_or] at h3
                  have hmt : tokS m = true := by simpa using h3.1
                  have hmt2 := hmt
                  unfold tokS at hmt2
                  simp only [Bool.and_eq_true] at hmt2
                  have hvt : t.all visB = true := by simpa using h3.2.2
                  have hdec : decS 1 = [49] := by rw [decS_lt (by omega)]; rfl
                  have hst10 : (10 : Int) ∉ startReq m t 1 := by
                    unfold startReq
                    rw [hdec]
                    simp only [List.mem_append, not_or]
                    exact ⟨⟨⟨⟨not_mem_all hmt2.2 (by decide), by decide⟩, not_mem_all hvt (by decide)⟩, by decide⟩, by decide⟩
                  have e : startReq m t 1 ++ [13, 10] ++ linesL ls ++ headF (printedS fs none) ++ tl = (startReq m t 1 ++ [13]) ++ 10 :: (linesL ls ++ (headF (printedS fs none) ++ tl)) := by simp
                  have hcut : cutS 147 (startReq m t 1 ++ [13, 10] ++ linesL ls ++ headF (printedS fs none) ++ tl) = .ok (startReq m t 1, ls ++ (printedS fs none).map lineF, tl) := by
                    unfold cutS
                    rw [e, lineS_mk _ (by simp only [List.mem_append, not_or]; exact ⟨hst10, by decide⟩), chop_cr]
                    simp only
                    rw [if_neg (by omega)]
                    have hL := headF_lines (printedS fs none) tl ((printedS fs none).length + 1) hg (by omega)
                    have hL2 := linesL_lines ls _ _ _ _ hl hL
                    have hle1 : (printedS fs none).length ≤ (headF (printedS fs none)).length := by
                      have : ∀ l : List Fld, l.length ≤ (headF l).length := by
                        intro l
                        induction l with
                        | nil => simp
                        | cons x l ih => simp only [headF, List.length_append, List.length_cons, List.length_nil, lineF]; omega
                      exact this _
                    have hle2 : ls.length ≤ (linesL ls).length := by
                      have : ∀ l : List L, l.length ≤ (linesL l).length := by
                        intro l
                        induction l with
                        | nil => simp
                        | cons x l ih => simp only [linesL, List.length_append, List.length_cons, List.length_nil]; omega
                      exact this _
                    have hL3 := linesS_app ((linesL ls ++ (headF (printedS fs none) ++ tl)).length + 1) [] hL2 (by simp only [List.length_append]; omega)
                    rw [List.append_nil, List.append_nil] at hL3
                    rw [hL3]
                    simp only
                    rw [if_neg (by simp only [List.length_append, headF_length]; omega)]
                  unfold parseReqS
                  rw [hcut]
                  simp only
                  have hstart : startS (startReq m t 1) = .ok (m, t, 1) := by
                    unfold startS
                    have e : startReq m t 1 = m ++ 32 :: (t ++ 32 :: [72, 84, 84, 80, 47, 49, 46, 49]) := by unfold startReq; rw [hdec]; simp
                    rw [e, splitC_cut _ (not_mem_all hmt2.2 (by decide)), splitC_cut _ (not_mem_all hvt (by decide)), splitC_none (by decide)]
                    simp only
                    rw [if_neg (by
                      rintro (h | h | h)
                      · rw [hmt] at h; cases h
                      · exact h3.2.1 h
                      · rw [hvt] at h; cases h)]
                    have hv : versS [72, 84, 84, 80, 47, 49, 46, 49] = some (1, 1) := by decide
                    rw [hv]
                    simp only
                    rw [if_neg h4, if_pos (by decide)]
                  rw [hstart]
                  simp only
                  have hfl : ¬ 64 < (ls ++ (printedS fs none).map lineF).length := by have := hb.1; simp only [List.length_append, List.length_map]; omega
                  unfold fieldsE
                  rw [if_neg hfl, fieldsS_app, fields_back hg (printed_neat _ _)]
                  rcases hb.2 with hb2 | ⟨bf, hb2, hb3, hb4⟩
                  · rw [hb2]
                  · rw [hb2]
                    simp only
                    have hho : hostOk (bf ++ printedS fs none) 1 = hostOk (printedS fs none) 1 := by unfold hostOk; rw [vals_app, hb3, List.nil_append]
                    have h8' : ¬ hostOk (printedS fs none) 1 = false := h8
                    rw [hho, if_neg h8', hb4 _ (printed_code fs none) (printed_len fs none)]
theorem bad_of_none {ls : List L} (hl : ls.length ≤ 2) (h : fieldsS ls = none) : badS ls := ⟨hl, .inl h⟩
end Go.Proofs.YthgojbdpmcccaaaDoor.Wb
