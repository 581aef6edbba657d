/- Web messages by plain lists of bytes: how a request and a response are printed; what is printed is read back whole, with anything behind it. -/
import Derived.Test.YthgojbdpmcccaaaDoorWParse
namespace Go.Proofs.YthgojbdpmcccaaaDoor.Wb
set_option linter.unusedVariables false
set_option linter.unusedSimpArgs false

/-! Numbers -/
def decS (n : Nat) : L := if n < 10 then [48 + (n : Int)] else decS (n / 10) ++ [48 + ((n % 10 : Nat) : Int)]
termination_by n
decreasing_by omega
theorem decS_lt {n : Nat} (h : n < 10) : decS n = [48 + (n : Int)] := by rw [decS, if_pos h]
theorem decS_ge {n : Nat} (h : ¬ n < 10) : decS n = decS (n / 10) ++ [48 + ((n % 10 : Nat) : Int)] := by rw [decS, if_neg h]
theorem decS_ne (n : Nat) : decS n ≠ [] := by
  by_cases h : n < 10
  · rw [decS_lt h]; simp
  · rw [decS_ge h]; simp
theorem decS_dig (n : Nat) : (decS n).all digB = true := by
  induction n using Nat.strongRecOn with
  | _ n ih =>
    by_cases h : n < 10
    · rw [decS_lt h]; simp [digB]; omega
    · rw [decS_ge h, List.all_append, ih (n / 10) (by omega)]
      simp [digB]; omega
theorem decS_head (n : Nat) : 1 < (decS n).length → (decS n).head? ≠ some 48 := by
  induction n using Nat.strongRecOn with
  | _ n ih =>
    by_cases h : n < 10
    · rw [decS_lt h]; simp
    · rw [decS_ge h]
      intro _
      rw [List.head?_append]
      by_cases h2 : n / 10 < 10
      · rw [decS_lt h2]; simp; omega
      · have h3 : 1 < (decS (n / 10)).length := by
          rw [decS_ge h2]
          have := List.length_pos_iff.2 (decS_ne (n / 10 / 10))
          simp; omega
        have h4 := ih (n / 10) (by omega) h3
        cases hd : (decS (n / 10)).head? with
        | none => rw [List.head?_eq_none_iff] at hd; exact absurd hd (decS_ne _)
        | some x => rw [hd] at h4; simpa using h4
theorem numV_app (a b : L) (n : Nat) : numV n (a ++ b) = numV (numV n a) b := by
  induction a generalizing n with
  | nil => rfl
  | cons x a ih => exact ih _
theorem numV_dec (n : Nat) : numV 0 (decS n) = n := by
  induction n using Nat.strongRecOn with
  | _ n ih =>
    by_cases h : n < 10
    · rw [decS_lt h]; simp [numV]; omega
    · rw [decS_ge h, numV_app, ih (n / 10) (by omega)]
      simp [numV]; omega
theorem numS_dec (n : Nat) : numS (decS n) = some n := by
  unfold numS
  rw [if_neg ?_, numV_dec]
  rintro (h | h | h)
  · exact decS_ne n h
  · rw [decS_dig] at h; cases h
  · exact decS_head n h.1 h.2

/-! Bytes that bear no mark -/
theorem tok_no {c : Int} (h : tokB c = true) : c ≠ 10 ∧ c ≠ 13 ∧ c ≠ 32 ∧ c ≠ 58 ∧ c ≠ 9 := by
  refine ⟨?_, ?_, ?_, ?_, ?_⟩ <;> (rintro rfl; revert h; decide)
theorem vis_no {c : Int} (h : visB c = true) : c ≠ 10 ∧ c ≠ 13 ∧ c ≠ 32 ∧ c ≠ 9 := by
  refine ⟨?_, ?_, ?_, ?_⟩ <;> (rintro rfl; revert h; decide)
theorem val_no {c : Int} (h : valB c = true) : c ≠ 10 ∧ c ≠ 13 := by
  refine ⟨?_, ?_⟩ <;> (rintro rfl; revert h; decide)
theorem dig_no {c : Int} (h : digB c = true) : c ≠ 10 ∧ c ≠ 13 ∧ c ≠ 32 ∧ c ≠ 58 ∧ c ≠ 9 := by
  refine ⟨?_, ?_, ?_, ?_, ?_⟩ <;> (rintro rfl; revert h; decide)
theorem dig_val {c : Int} (h : digB c = true) : valB c = true := by
  unfold digB at h; unfold valB
  simp only [Bool.and_eq_true, Bool.or_eq_true, decide_eq_true_eq] at *
  omega
theorem not_mem_all {p : Int → Bool} {c : Int} {l : L} (h : l.all p = true) (hc : p c = false) : c ∉ l := by
  intro hm
  have := List.all_eq_true.1 h c hm
  rw [hc] at this; cases this
theorem chop_cr (l : L) : chop (l ++ [13]) = l := by
  unfold chop
  rw [if_pos (by simp)]
  simp
theorem chop_same {l : L} (h : l.getLast? ≠ some 13) : chop l = l := by unfold chop; rw [if_neg h]

/-! Blanks -/
theorem dropWhile_id {p : Int → Bool} {l : L} (h : ∀ x, l.head? = some x → p x = false) : l.dropWhile p = l := by
  cases l with
  | nil => rfl
  | cons x r => rw [List.dropWhile_cons, h x rfl]; rfl
theorem dropWhile_head {p : Int → Bool} (l : L) : ∀ x, (l.dropWhile p).head? = some x → p x = false := by
  induction l with
  | nil => intro x h; cases h
  | cons y r ih =>
    intro x h
    rw [List.dropWhile_cons] at h
    by_cases hy : p y = true
    · rw [if_pos hy] at h; exact ih x h
    · rw [if_neg hy] at h
      simp only [List.head?_cons, Option.some.injEq] at h
      rw [← h]; simpa using hy
/-- No blank at either end. -/
def Neat (s : L) : Prop := (∀ x, s.head? = some x → blkB x = false) ∧ (∀ x, s.getLast? = some x → blkB x = false)
theorem trimR_neat {s : L} (h : Neat s) : trimR s = s := by
  unfold trimR
  rw [dropWhile_id, List.reverse_reverse]
  intro x hx
  rw [List.head?_reverse] at hx
  exact h.2 x hx
theorem trimS_neat {s : L} (h : Neat s) : trimS s = s := by
  unfold trimS
  rw [dropWhile_id h.1, trimR_neat h]
theorem trimR_head (s : L) (h : ∀ x, s.head? = some x → blkB x = false) : ∀ x, (trimR s).head? = some x → blkB x = false := by
  intro x hx
  unfold trimR at hx
  -- what is left is a front of s
  have hpre : ∃ q, s = (s.reverse.dropWhile blkB).reverse ++ q := by
    refine ⟨(s.reverse.takeWhile blkB).reverse, ?_⟩
    rw [← List.reverse_append, List.takeWhile_append_dropWhile, List.reverse_reverse]
  obtain ⟨q, hq⟩ := hpre
  refine h x ?_
  rw [hq, List.head?_append, hx]
  rfl
theorem neat_trim (s : L) : Neat (trimS s) := by
  refine ⟨trimR_head _ (dropWhile_head s), ?_⟩
  intro x hx
  unfold trimS trimR at hx
  rw [List.getLast?_reverse] at hx
  exact dropWhile_head _ x hx
theorem neat_dec (n : Nat) : Neat (decS n) := by
  have h := decS_dig n
  have hb : ∀ x, digB x = true → blkB x = false := by
    intro x hx
    unfold digB at hx; unfold blkB
    simp only [Bool.and_eq_true, decide_eq_true_eq] at hx
    simp only [Bool.or_eq_false_iff, decide_eq_false_iff_not]
    omega
  refine ⟨fun x hx => hb x ?_, fun x hx => hb x ?_⟩
  · exact List.all_eq_true.1 h x (List.mem_of_head? hx)
  · exact List.all_eq_true.1 h x (List.mem_of_getLast? hx)
theorem trimS_sp {v : L} (h : Neat v) : trimS (32 :: v) = v := by
  unfold trimS
  rw [List.dropWhile_cons, if_pos (by decide), dropWhile_id h.1, trimR_neat h]
theorem trim_sub (s : L) : ∀ x ∈ trimS s, x ∈ s := by
  intro x hx
  unfold trimS trimR at hx
  rw [List.mem_reverse] at hx
  have h1 := (List.dropWhile_sublist blkB).mem hx
  rw [List.mem_reverse] at h1
  exact (List.dropWhile_sublist blkB).mem h1

/-! What is printed -/
def nLenP : L := [67, 111, 110, 116, 101, 110, 116, 45, 76, 101, 110, 103, 116, 104]
def keptF (f : Fld) : Bool := decide (lowS f.1 ≠ nLen) && decide (lowS f.1 ≠ nCode)
def printedS (l : List Fld) (told : Option Nat) : List Fld :=
  (l.filter keptF).map (fun f => (f.1, trimS f.2)) ++ match told with | none => [] | some n => [(nLenP, decS n)]
def lineF (f : Fld) : L := f.1 ++ [58, 32] ++ f.2
def headLen (l : List Fld) : Nat := 2 + (l.map fun f => f.1.length + 2 + f.2.length + 2).sum
def headF : List Fld → L
  | [] => [13, 10]
  | f :: r => lineF f ++ [13, 10] ++ headF r
def wholeS (start : L) (l : List Fld) (body : L) : L := start ++ [13, 10] ++ headF l ++ body
def goodF (f : Fld) : Bool := tokS f.1 && f.2.all valB

theorem headF_length : ∀ l, (headF l).length = headLen l
  | [] => rfl
  | f :: r => by
    simp only [headF, List.length_append, headF_length r, lineF, headLen, List.map_cons, List.sum_cons, List.length_cons, List.length_nil]
    omega
theorem good_line {f : Fld} (h : goodF f = true) : (10 : Int) ∉ lineF f ∧ lineF f ≠ [] := by
  unfold goodF tokS at h
  simp only [Bool.and_eq_true] at h
  refine ⟨?_, ?_⟩
  · unfold lineF
    simp only [List.mem_append, not_or]
    exact ⟨⟨not_mem_all h.1.2 (by decide), by decide⟩, not_mem_all h.2 (by decide)⟩
  · unfold lineF
    intro e
    have := congrArg List.length e
    simp at this
theorem headF_lines : ∀ (l : List Fld) (r : L) (f : Nat), (∀ x ∈ l, goodF x = true) → l.length < f → linesS f (headF l ++ r) = some (l.map lineF, r)
  | [], r, 0, _, h => by simp at h
  | [], r, f + 1, _, _ => by
    show linesS (f + 1) ([13] ++ 10 :: r) = _
    unfold linesS
    rw [lineS_mk r (by decide)]
    have : chop [13] = [] := by decide
    rw [this]
    rfl
  | x :: l, r, 0, _, h => by simp at h
  | x :: l, r, f + 1, hg, hf => by
    obtain ⟨h1, h2⟩ := good_line (hg x (by simp))
    have e : headF (x :: l) ++ r = (lineF x ++ [13]) ++ 10 :: (headF l ++ r) := by simp [headF]
    rw [e]
    unfold linesS
    rw [lineS_mk _ (by simp only [List.mem_append, not_or]; exact ⟨h1, by decide⟩), chop_cr]
    have ih := headF_lines l r f (fun y hy => hg y (by simp [hy])) (by simp at hf; omega)
    cases hl : lineF x with
    | nil => exact absurd hl h2
    | cons y ys =>
      simp only
      rw [ih]
      simp [hl]
theorem field_back {f : Fld} (h : goodF f = true) (hn : Neat f.2) : fieldS (lineF f) = some f := by
  unfold goodF tokS at h
  simp only [Bool.and_eq_true] at h
  unfold fieldS
  have e : lineF f = f.1 ++ 58 :: (32 :: f.2) := by simp [lineF]
  rw [e, cutC_mk _ (not_mem_all h.1.2 (by decide))]
  simp only
  rw [if_pos, trimS_sp hn]
  refine ⟨by unfold tokS; simp only [Bool.and_eq_true]; exact h.1, ?_⟩
  rw [List.all_cons, h.2]
  rfl
theorem fields_back : ∀ {l : List Fld}, (∀ x ∈ l, goodF x = true) → (∀ x ∈ l, Neat x.2) → fieldsS (l.map lineF) = some l
  | [], _, _ => rfl
  | x :: l, hg, hn => by
    simp only [List.map_cons, fieldsS]
    rw [field_back (hg x (by simp)) (hn x (by simp)), fields_back (fun y hy => hg y (by simp [hy])) (fun y hy => hn y (by simp [hy]))]
theorem printed_neat (l : List Fld) (told : Option Nat) : ∀ x ∈ printedS l told, Neat x.2 := by
  intro x hx
  unfold printedS at hx
  rcases List.mem_append.1 hx with h | h
  · obtain ⟨f, _, rfl⟩ := List.mem_map.1 h
    exact neat_trim _
  · cases told with
    | none => cases h
    | some n =>
      simp only [List.mem_singleton] at h
      rw [h]
      exact neat_dec n
theorem vals_app (a b : List Fld) (n : L) : vals (a ++ b) n = vals a n ++ vals b n := by simp [vals]
theorem printed_code (l : List Fld) (told : Option Nat) : vals (printedS l told) nCode = [] := by
  unfold printedS
  rw [vals_app]
  have h1 : vals ((l.filter keptF).map fun f => (f.1, trimS f.2)) nCode = [] := by
    unfold vals
    rw [List.filterMap_eq_nil_iff]
    intro x hx
    obtain ⟨f, hf, rfl⟩ := List.mem_map.1 hx
    have := (List.mem_filter.1 hf).2
    unfold keptF at this
    simp only [Bool.and_eq_true, decide_eq_true_eq] at this
    rw [if_neg this.2]
  rw [h1]
  cases told with
  | none => rfl
  | some n => simp only [vals, List.filterMap_cons, List.filterMap_nil, List.nil_append]; rw [if_neg (by decide)]
theorem printed_len (l : List Fld) (told : Option Nat) : vals (printedS l told) nLen = match told with | none => [] | some n => [decS n] := by
  unfold printedS
  rw [vals_app]
  have h1 : vals ((l.filter keptF).map fun f => (f.1, trimS f.2)) nLen = [] := by
    unfold vals
    rw [List.filterMap_eq_nil_iff]
    intro x hx
    obtain ⟨f, hf, rfl⟩ := List.mem_map.1 hx
    have := (List.mem_filter.1 hf).2
    unfold keptF at this
    simp only [Bool.and_eq_true, decide_eq_true_eq] at this
    rw [if_neg this.1]
  rw [h1]
  cases told with
  | none => rfl
  | some n => simp only [vals, List.filterMap_cons, List.filterMap_nil, List.nil_append]; rw [if_pos (by decide)]

/-- A head that was printed is cut into what it was printed from. -/
theorem cut_whole {tl : Nat} {start : L} {l : List Fld} (body t : L) (hs : (10 : Int) ∉ start) (hsl : start.length ≤ 8000) (hl : headLen l ≤ 16384) (hg : ∀ x ∈ l, goodF x = true) :
    cutS tl (wholeS start l body ++ t) = .ok (start, l.map lineF, body ++ t) := by
  have e : wholeS start l body ++ t = (start ++ [13]) ++ 10 :: (headF l ++ (body ++ t)) := by simp [wholeS]
  unfold cutS
  rw [e, lineS_mk _ (by simp only [List.mem_append, not_or]; exact ⟨hs, by decide⟩), chop_cr]
  simp only
  rw [if_neg (by omega)]
  have hlen : l.length ≤ (headF l).length := by
    clear e hs hsl hl hg
    induction l with
    | nil => simp
    | cons x l ih => simp only [headF, List.length_append, List.length_cons, List.length_nil, lineF]; omega
  rw [headF_lines l (body ++ t) _ hg (by simp only [List.length_append]; omega)]
  simp only
  rw [if_neg (by rw [List.length_append, headF_length]; omega)]

/-! Requests -/
def startReq (m t : L) (minor : Nat) : L := m ++ [32] ++ t ++ [32, 72, 84, 84, 80, 47, 49, 46] ++ decS minor
def checkReqS (m t : L) (minor : Int) (start : L) (l : List Fld) (body : L) : Nat :=
  if 8000 < start.length then 147
  else if 16384 < headLen l then 2
  else if tokS m = false ∨ t = [] ∨ t.all visB = false then 141
  else if methodsS.contains m = false then 148
  else if minor ≠ 0 ∧ minor ≠ 1 then 142
  else if 64 < l.length then 2
  else if l.all goodF = false then 143
  else if hostOk l minor = false then 144
  else if 1048576 < body.length then 145
  else 0
def toldB (body : L) : Option Nat := if body = [] then none else some body.length
theorem splitC_none {c : Int} : ∀ {s : L}, c ∉ s → splitC c s = [s]
  | [], _ => rfl
  | x :: s, h => by
    simp only [List.mem_cons, not_or] at h
    simp only [splitC]
    rw [if_neg (fun e => h.1 e.symm), splitC_none h.2]
theorem splitC_cut {c : Int} : ∀ {p : L} (r : L), c ∉ p → splitC c (p ++ c :: r) = p :: splitC c r
  | [], r, _ => by simp [splitC]
  | x :: p, r, h => by
    simp only [List.mem_cons, not_or] at h
    simp only [List.cons_append, splitC]
    rw [if_neg (fun e => h.1 e.symm), splitC_cut r h.2]
theorem all_goodF {l : List Fld} (h : ¬ l.all goodF = false) : ∀ x ∈ l, goodF x = true := by
  rw [Bool.not_eq_false] at h
  exact List.all_eq_true.1 h
/-- What is printed is read back whole, with anything behind it. -/
theorem req_back {m t : L} {minor : Nat} {fs : List Fld} {body : L} (tl : L)
    (h : checkReqS m t minor (startReq m t minor) (printedS fs (toldB body)) body = 0) :
    parseReqS (wholeS (startReq m t minor) (printedS fs (toldB body)) body ++ tl) =
      .ok (⟨m, t, minor, printedS fs (toldB body), body, closesS (printedS fs (toldB body)) minor⟩, (wholeS (startReq m t minor) (printedS fs (toldB body)) body).length) := by
  unfold checkReqS at h
  split at h
  · cases h
  · rename_i h1
    split at h
    · cases h
    · rename_i h2
      split at h
      · cases h
      · rename_i h3
        split at h
        · cases h
        · rename_i h4
          split at h
          · cases h
          · rename_i h5
            split at h
            · cases h
            · rename_i h6
              split at h
              · cases h
              · rename_i h7
                split at h
                · cases h
                · rename_i h8
                  split at h
                  · cases h
                  · rename_i h9
                    have hg := all_goodF h7
                    simp only [not_or] at h3
                    have hm : minor = 0 ∨ minor = 1 := by omega
                    have hmt : tokS m = true := by simpa using h3.1
                    have hmt2 := hmt
                    unfold tokS at hmt2
                    simp only [Bool.and_eq_true] at hmt2
                    have hvt : t.all visB = true := by simpa using h3.2.2
                    have hdec : decS minor = [48 + (minor : Int)] := decS_lt (by omega)
                    have hst10 : (10 : Int) ∉ startReq m t minor := by
                      unfold startReq
                      rw [hdec]
                      simp only [List.mem_append, not_or]
                      refine ⟨⟨⟨⟨not_mem_all hmt2.2 (by decide), by decide⟩, not_mem_all hvt (by decide)⟩, by decide⟩, ?_⟩
                      simp only [List.mem_singleton]; omega
                    unfold parseReqS
                    rw [cut_whole body tl hst10 (by omega) (by omega) hg]
                    simp only
                    have hstart : startS (startReq m t minor) = .ok (m, t, (minor : Int)) := by
                      unfold startS
                      have e : startReq m t minor = m ++ 32 :: (t ++ 32 :: ([72, 84, 84, 80, 47, 49, 46] ++ [48 + (minor : Int)])) := by
                        unfold startReq; rw [hdec]; simp
                      rw [e, splitC_cut _ (not_mem_all hmt2.2 (by decide)), splitC_cut _ (not_mem_all hvt (by decide)), splitC_none (by
                        simp only [List.mem_append, not_or]
                        refine ⟨by decide, ?_⟩
                        simp only [List.mem_singleton]; omega)]
                      simp only
                      rw [if_neg (by
                        rintro (h | h | h)
                        · rw [hmt] at h; cases h
                        · exact h3.2.1 h
                        · rw [hvt] at h; cases h)]
                      have hv : versS ([72, 84, 84, 80, 47, 49, 46] ++ [48 + (minor : Int)]) = some (1, (minor : Int)) := by
                        rcases hm with rfl | rfl <;> decide
                      rw [hv]
                      simp only
                      rw [if_neg h4, if_pos (by refine ⟨?_, ?_⟩ <;> first | trivial | omega)]
                    rw [hstart]
                    simp only
                    have hfe : fieldsE ((printedS fs (toldB body)).map lineF) = .ok (printedS fs (toldB body)) := by
                      unfold fieldsE
                      rw [if_neg (by rw [List.length_map]; exact h6), fields_back hg (printed_neat _ _)]
                    rw [hfe]
                    simp only
                    rw [if_neg h8]
                    have hlen : (wholeS (startReq m t minor) (printedS fs (toldB body)) body ++ tl).length - (body ++ tl).length = (wholeS (startReq m t minor) (printedS fs (toldB body)) body).length - body.length := by
                      simp [wholeS]; omega
                    have hle : body.length ≤ (wholeS (startReq m t minor) (printedS fs (toldB body)) body).length := by simp [wholeS]; omega
                    have hpc := printed_code fs (toldB body)
                    have hpl := printed_len fs (toldB body)
                    generalize printedS fs (toldB body) = P at *
                    unfold frameS
                    rw [hpc, hpl]
                    by_cases hb : body = []
                    · have ht : toldB body = none := by unfold toldB; rw [if_pos hb]
                      rw [ht]
                      simp only [bodyS]
                      rw [hlen]
                      subst hb
                      simp
                    · have ht : toldB body = some body.length := by unfold toldB; rw [if_neg hb]
                      rw [ht]
                      simp only
                      rw [numS_dec]
                      simp only
                      rw [if_neg h9]
                      simp only [bodyS]
                      rw [if_neg (by simp), hlen]
                      simp only [List.take_left', Except.ok.injEq, Prod.mk.injEq, true_and]
                      omega
end Go.Proofs.YthgojbdpmcccaaaDoor.Wb
