/- Web messages by plain lists of bytes: responses: read the same when more comes (but for one whose body has no length of its own); what is printed is read back whole. -/
import Derived.Test.YthgojbdpmcccaaaDoorWForm
namespace Go.Proofs.YthgojbdpmcccaaaDoor.Wb
set_option linter.unusedVariables false
set_option linter.unusedSimpArgs false

/-- A response whose body has no length of its own. -/
def OpenR (st : Int) (l : List Fld) : Prop := bareS st = false ∧ vals l nCode = [] ∧ vals l nLen = []
theorem frame_none {l : List Fld} {v : Int} (h : frameS l v = .ok .none) : vals l nCode = [] ∧ vals l nLen = [] := by
  unfold frameS at h
  split at h
  · rename_i h1
    split at h
    · rename_i h2; exact ⟨h1, h2⟩
    · split at h
      · cases h
      · split at h <;> cases h
    · cases h
  · split at h <;> cases h
  · cases h
theorem parseResS_le {b : L} {r : ResS} {n : Nat} (h : parseResS b = .ok (r, n)) : n ≤ b.length ∧ 0 < n := by
  unfold parseResS at h
  cases hcs : cutS 141 b with
  | error e => rw [hcs] at h; cases h
  | ok z =>
    obtain ⟨first, ls, rest⟩ := z
    have hr := (cutS_rest hcs).1
    rw [hcs] at h
    simp only at h
    cases hs : statS first with
    | error e => rw [hs] at h; cases h
    | ok z =>
      obtain ⟨st, v⟩ := z
      rw [hs] at h
      simp only at h
      cases hf : fieldsE ls with
      | error e => rw [hf] at h; cases h
      | ok l =>
        rw [hf] at h
        simp only at h
        split at h
        · simp only [Except.ok.injEq, Prod.mk.injEq] at h; omega
        · cases hfr : frameS l v with
          | error e => rw [hfr] at h; cases h
          | ok fr =>
            rw [hfr] at h
            cases fr with
            | none =>
              simp only at h
              split at h
              · cases h
              · simp only [Except.ok.injEq, Prod.mk.injEq] at h; omega
            | chunks =>
              simp only at h
              cases hb : bodyS rest .chunks with
              | error e => rw [hb] at h; cases h
              | ok z =>
                obtain ⟨body, k⟩ := z
                have := bodyS_le hb
                rw [hb] at h
                simp only [Except.ok.injEq, Prod.mk.injEq] at h
                omega
            | len m =>
              simp only at h
              cases hb : bodyS rest (.len m) with
              | error e => rw [hb] at h; cases h
              | ok z =>
                obtain ⟨body, k⟩ := z
                have := bodyS_le hb
                rw [hb] at h
                simp only [Except.ok.injEq, Prod.mk.injEq] at h
                omega
/-- What a response was read as it stays; if its body has no length of its own: its status and fields, or it becomes too long. -/
theorem parseResS_app {b : L} (t : L) (h : parseResS b ≠ .error 140) :
    parseResS (b ++ t) = parseResS b ∨ (∃ r n, parseResS b = .ok (r, n) ∧ OpenR r.status r.fields ∧ (parseResS (b ++ t) = .error 145 ∨ ∃ r2 n2, parseResS (b ++ t) = .ok (r2, n2) ∧ r2.status = r.status ∧ r2.fields = r.fields)) := by
  unfold parseResS at h ⊢
  have hc : cutS 141 b ≠ .error 140 := fun e => h (by rw [e])
  rw [cutS_app t hc]
  cases hcs : cutS 141 b with
  | error e => exact .inl rfl
  | ok z =>
    obtain ⟨first, ls, rest⟩ := z
    rw [hcs] at h
    have hr := (cutS_rest hcs).1
    have hlen : (b ++ t).length - (rest ++ t).length = b.length - rest.length := by simp; omega
    simp only at h ⊢
    rw [hlen]
    cases hs : statS first with
    | error e => exact .inl rfl
    | ok z =>
      obtain ⟨st, v⟩ := z
      rw [hs] at h
      simp only at h ⊢
      cases hf : fieldsE ls with
      | error e => exact .inl rfl
      | ok l =>
        rw [hf] at h
        simp only at h ⊢
        by_cases hh : bareS st = true
        · rw [if_pos hh, if_pos hh]; exact .inl rfl
        · rw [if_neg hh] at h ⊢
          rw [if_neg hh]
          cases hfr : frameS l v with
          | error e => exact .inl rfl
          | ok fr =>
            rw [hfr] at h
            cases fr with
            | none =>
              simp only at h ⊢
              by_cases hl : 1048576 < rest.length
              · rw [if_pos hl, if_pos (by simp; omega)]; exact .inl rfl
              · rw [if_neg hl]
                refine .inr ⟨_, _, rfl, ⟨by simpa using hh, (frame_none hfr).1, (frame_none hfr).2⟩, ?_⟩
                by_cases hl2 : 1048576 < (rest ++ t).length
                · rw [if_pos hl2]; exact .inl rfl
                · rw [if_neg hl2]; exact .inr ⟨_, _, rfl, rfl, rfl⟩
            | chunks =>
              simp only at h ⊢
              rw [bodyS_app t (fun e => h (by rw [e]))]
              exact .inl rfl
            | len m =>
              simp only at h ⊢
              rw [bodyS_app t (fun e => h (by rw [e]))]
              exact .inl rfl

/-! What is printed -/
def wordsS : List (Int × L) := [(100, [67, 111, 110, 116, 105, 110, 117, 101]), (200, [79, 75]), (204, [78, 111, 32, 67, 111, 110, 116, 101, 110, 116]), (301, [77, 111, 118, 101, 100, 32, 80, 101, 114, 109, 97, 110, 101, 110, 116, 108, 121]), (302, [70, 111, 117, 110, 100]), (304, [78, 111, 116, 32, 77, 111, 100, 105, 102, 105, 101, 100]), (400, [66, 97, 100, 32, 82, 101, 113, 117, 101, 115, 116]), (403, [70, 111, 114, 98, 105, 100, 100, 101, 110]), (404, [78, 111, 116, 32, 70, 111, 117, 110, 100]), (405, [77, 101, 116, 104, 111, 100, 32, 78, 111, 116, 32, 65, 108, 108, 111, 119, 101, 100]), (408, [82, 101, 113, 117, 101, 115, 116, 32, 84, 105, 109, 101, 111, 117, 116]), (409, [67, 111, 110, 102, 108, 105, 99, 116]), (410, [71, 111, 110, 101]), (411, [76, 101, 110, 103, 116, 104, 32, 82, 101, 113, 117, 105, 114, 101, 100]), (413, [67, 111, 110, 116, 101, 110, 116, 32, 84, 111, 111, 32, 76, 97, 114, 103, 101]), (414, [85, 82, 73, 32, 84, 111, 111, 32, 76, 111, 110, 103]), (429, [84, 111, 111, 32, 77, 97, 110, 121, 32, 82, 101, 113, 117, 101, 115, 116, 115]), (431, [82, 101, 113, 117, 101, 115, 116, 32, 72, 101, 97, 100, 101, 114, 32, 70, 105, 101, 108, 100, 115, 32, 84, 111, 111, 32, 76, 97, 114, 103, 101]), (500, [73, 110, 116, 101, 114, 110, 97, 108, 32, 83, 101, 114, 118, 101, 114, 32, 69, 114, 114, 111, 114]), (501, [78, 111, 116, 32, 73, 109, 112, 108, 101, 109, 101, 110, 116, 101, 100]), (502, [66, 97, 100, 32, 71, 97, 116, 101, 119, 97, 121]), (503, [83, 101, 114, 118, 105, 99, 101, 32, 85, 110, 97, 118, 97, 105, 108, 97, 98, 108, 101]), (504, [71, 97, 116, 101, 119, 97, 121, 32, 84, 105, 109, 101, 111, 117, 116]), (505, [72, 84, 84, 80, 32, 86, 101, 114, 115, 105, 111, 110, 32, 78, 111, 116, 32, 83, 117, 112, 112, 111, 114, 116, 101, 100])]
def decI (n : Int) : L := if 0 ≤ n then decS n.toNat else 45 :: decS (-n).toNat
def findW (st : Int) : List (Int × L) → Option L
  | [] => none
  | (s, w) :: r => if s = st then some w else findW st r
def reasonS (st : Int) : L := match findW st wordsS with
  | some w => w
  | none => [83, 116, 97, 116, 117, 115, 32] ++ decI st
theorem findW_val (st : Int) : ∀ (t : List (Int × L)), t.all (fun p => p.2.all valB) = true → ∀ w, findW st t = some w → w.all valB = true
  | [], _, w, h => by cases h
  | (s, w) :: r, ha, w2, h => by
    simp only [List.all_cons, Bool.and_eq_true] at ha
    simp only [findW] at h
    split at h
    · simp only [Option.some.injEq] at h; rw [← h]; exact ha.1
    · exact findW_val st r ha.2 w2 h
theorem decI_val (n : Int) : (decI n).all valB = true := by
  have h : ∀ m, (decS m).all valB = true := by
    intro m
    rw [List.all_eq_true]
    intro x hx
    exact dig_val (List.all_eq_true.1 (decS_dig m) x hx)
  unfold decI
  split
  · exact h _
  · rw [List.all_cons, h]; rfl
theorem reasonS_val (st : Int) : (reasonS st).all valB = true := by
  unfold reasonS
  split
  · rename_i w hw; exact findW_val st wordsS (by decide) w hw
  · rw [List.all_append, decI_val]; decide
theorem decS_three {n : Nat} (h : 100 ≤ n) (h2 : n ≤ 999) : decS n = [48 + ((n / 100 : Nat) : Int), 48 + ((n / 10 % 10 : Nat) : Int), 48 + ((n % 10 : Nat) : Int)] := by
  rw [decS_ge (by omega), decS_ge (n := n / 10) (by omega), decS_lt (n := n / 10 / 10) (by omega)]
  have e : n / 10 / 10 = n / 100 := by omega
  rw [e]
  rfl
def startRes (st minor : Int) : L := [72, 84, 84, 80, 47, 49, 46] ++ decI minor ++ [32] ++ decI st ++ [32] ++ reasonS st
def toldR (st : Int) (body : L) : Option Nat := if bareS st = true then none else some body.length
def checkResS (st minor : Int) (l : List Fld) (body : L) : Nat :=
  if 16384 < headLen l then 2
  else if minor ≠ 0 ∧ minor ≠ 1 then 142
  else if st < 100 ∨ 599 < st then 149
  else if 64 < l.length then 2
  else if l.all goodF = false then 143
  else if 1048576 < body.length ∨ (bareS st = true ∧ body ≠ []) then 145
  else 0
theorem startRes_form {st minor : Int} (hm : minor = 0 ∨ minor = 1) (h1 : 100 ≤ st) (h2 : st ≤ 599) :
    startRes st minor = [72, 84, 84, 80, 47, 49, 46, 48 + minor, 32, 48 + st / 100, 48 + st / 10 % 10, 48 + st % 10, 32] ++ reasonS st := by
  unfold startRes decI
  rw [if_pos (by omega), if_pos (by omega), decS_lt (n := minor.toNat) (by omega), decS_three (n := st.toNat) (by omega) (by omega)]
  have e1 : ((minor.toNat : Nat) : Int) = minor := by omega
  have e2 : ((st.toNat / 100 : Nat) : Int) = st / 100 := by omega
  have e3 : ((st.toNat / 10 % 10 : Nat) : Int) = st / 10 % 10 := by omega
  have e4 : ((st.toNat % 10 : Nat) : Int) = st % 10 := by omega
  rw [e1, e2, e3, e4]
  simp
theorem reasonS_len (st : Int) (h1 : 100 ≤ st) (h2 : st ≤ 599) : (reasonS st).length ≤ 100 := by
  have hf : ∀ (t : List (Int × L)), t.all (fun p => decide (p.2.length ≤ 100)) = true → ∀ w, findW st t = some w → w.length ≤ 100 := by
    intro t
    induction t with
    | nil => intro _ w h; cases h
    | cons p r ih =>
      intro ha w h
      obtain ⟨s, w2⟩ := p
      simp only [List.all_cons, Bool.and_eq_true, decide_eq_true_eq] at ha
      simp only [findW] at h
      split at h
      · simp only [Option.some.injEq] at h; rw [← h]; exact ha.1
      · exact ih ha.2 w h
  unfold reasonS
  split
  · rename_i w hw; exact hf wordsS (by decide) w hw
  · unfold decI
    rw [if_pos (by omega), decS_three (n := st.toNat) (by omega) (by omega)]
    simp
/-- What is printed is read back whole, with anything behind it. -/
theorem res_back {st minor : Int} {fs : List Fld} {body : L} (tl : L) (h : checkResS st minor (printedS fs (toldR st body)) body = 0) :
    parseResS (wholeS (startRes st minor) (printedS fs (toldR st body)) body ++ tl) =
      .ok (⟨st, minor, printedS fs (toldR st body), body, closesS (printedS fs (toldR st body)) minor⟩, (wholeS (startRes st minor) (printedS fs (toldR st body)) body).length) := by
  unfold checkResS at h
  split at h
  · cases h
  · rename_i h2
    split at h
    · cases h
    · rename_i h5
      split at h
      · cases h
      · rename_i h3
        split at h
        · cases h
        · rename_i h6
          split at h
          · cases h
          · rename_i h7
            split at h
            · cases h
            · rename_i h9
              have hg := all_goodF h7
              have hm : minor = 0 ∨ minor = 1 := by omega
              have hform := startRes_form (st := st) hm (by omega) (by omega)
              have hrv := reasonS_val st
              have hrl := reasonS_len st (by omega) (by omega)
              have hst10 : (10 : Int) ∉ startRes st minor := by
                rw [hform]
                simp only [List.mem_append, not_or]
                refine ⟨?_, not_mem_all hrv (by decide)⟩
                simp only [List.mem_cons, List.not_mem_nil, or_false, not_or]
                omega
              have hsl : (startRes st minor).length ≤ 8000 := by rw [hform]; simp; omega
              unfold parseResS
              rw [cut_whole body tl hst10 hsl (by omega) hg]
              simp only
              have hstart : statS (startRes st minor) = .ok (st, minor) := by
                rw [hform]
                unfold statS
                simp only [List.cons_append, List.nil_append, List.drop_succ_cons, List.drop_zero, List.take_succ_cons, List.take_zero]
                have d1 : digB (48 + st / 100) = true := by unfold digB; simp only [Bool.and_eq_true, decide_eq_true_eq]; omega
                have d2 : digB (48 + st / 10 % 10) = true := by unfold digB; simp only [Bool.and_eq_true, decide_eq_true_eq]; omega
                have d3 : digB (48 + st % 10) = true := by unfold digB; simp only [Bool.and_eq_true, decide_eq_true_eq]; omega
                rw [if_pos ⟨d1, d2, d3, .inr rfl, by rw [List.all_cons, hrv]; rfl⟩]
                have hv : versS [72, 84, 84, 80, 47, 49, 46, 48 + minor] = some (1, minor) := by rcases hm with rfl | rfl <;> decide
                rw [hv]
                simp only
                rw [if_pos (by refine ⟨?_, ?_⟩ <;> first | trivial | omega)]
                have e : 100 * (48 + st / 100 - 48) + 10 * (48 + st / 10 % 10 - 48) + (48 + st % 10 - 48) = st := by omega
                rw [e, if_pos ⟨by omega, by omega⟩]
              rw [hstart]
              simp only
              have hfe : fieldsE ((printedS fs (toldR st body)).map lineF) = .ok (printedS fs (toldR st body)) := by
                unfold fieldsE
                rw [if_neg (by rw [List.length_map]; exact h6), fields_back hg (printed_neat _ _)]
              rw [hfe]
              simp only
              have hlen : (wholeS (startRes st minor) (printedS fs (toldR st body)) body ++ tl).length - (body ++ tl).length = (wholeS (startRes st minor) (printedS fs (toldR st body)) body).length - body.length := by
                simp [wholeS]; omega
              have hle : body.length ≤ (wholeS (startRes st minor) (printedS fs (toldR st body)) body).length := by simp [wholeS]; omega
              have hpc := printed_code fs (toldR st body)
              have hpl := printed_len fs (toldR st body)
              by_cases hb : bareS st = true
              · rw [if_pos hb]
                have : body = [] := by
                  rcases Classical.em (body = []) with e | e
                  · exact e
                  · exact absurd (.inr ⟨hb, e⟩) h9
                rw [hlen]
                subst this
                simp
              · rw [if_neg hb]
                have ht : toldR st body = some body.length := by unfold toldR; rw [if_neg hb]
                generalize printedS fs (toldR st body) = P at *
                unfold frameS
                rw [hpc, hpl, ht]
                simp only
                rw [numS_dec]
                simp only
                rw [if_neg (by omega)]
                simp only [bodyS]
                rw [if_neg (by simp), hlen]
                simp only [List.take_left', Except.ok.injEq, Prod.mk.injEq, true_and]
                omega
/-- A printed response is not one whose body has no length of its own. -/
theorem printed_closed (st : Int) (fs : List Fld) (body : L) : ¬ OpenR st (printedS fs (toldR st body)) := by
  rintro ⟨h1, h2, h3⟩
  rw [printed_len] at h3
  have ht : toldR st body = some body.length := by unfold toldR; rw [if_neg (by rw [h1]; simp)]
  rw [ht] at h3
  cases h3
/-- No front of what is printed is anything but too short. -/
theorem req_short {p : L} {r : ReqS} {b : L} (h : parseReqS b = .ok (r, b.length)) (hp : ∃ t, b = p ++ t ∧ t ≠ []) : parseReqS p = .error 140 := by
  obtain ⟨t, rfl, ht⟩ := hp
  rcases Classical.em (parseReqS p = .error 140) with e | e
  · exact e
  · have h1 := parseReqS_app t e
    rw [h] at h1
    have := (parseReqS_le h1.symm).1
    have := List.length_pos_iff.2 ht
    simp only [List.length_append] at *
    omega
theorem res_short {p : L} {r : ResS} {b : L} (h : parseResS b = .ok (r, b.length)) (hc : ¬ OpenR r.status r.fields) (hp : ∃ t, b = p ++ t ∧ t ≠ []) : parseResS p = .error 140 := by
  obtain ⟨t, rfl, ht⟩ := hp
  rcases Classical.em (parseResS p = .error 140) with e | e
  · exact e
  · rcases parseResS_app t e with h1 | ⟨r1, n1, h1, h2, h3⟩
    · rw [h] at h1
      have := (parseResS_le h1.symm).1
      have := List.length_pos_iff.2 ht
      simp only [List.length_append] at *
      omega
    · rw [h] at h3
      rcases h3 with h3 | ⟨r2, n2, h4, h5, h6⟩
      · cases h3
      · simp only [Except.ok.injEq, Prod.mk.injEq] at h4
        obtain ⟨rfl, _⟩ := h4
        rw [h5, h6] at hc
        exact absurd h2 hc
end Go.Proofs.YthgojbdpmcccaaaDoor.Wb
