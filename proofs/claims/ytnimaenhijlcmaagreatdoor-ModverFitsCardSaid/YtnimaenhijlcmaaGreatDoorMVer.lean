/- Versions by plain lists of bytes: written from their parts they are read so; three numbers compare as numbers. -/
import Derived.Test.YtnimaenhijlcmaaGreatDoorMSpec
namespace Go.Proofs.YtnimaenhijlcmaaGreatDoor.Mb
set_option linter.unusedVariables false
set_option linter.unusedSimpArgs false

theorem cutC_some {c : Int} : ∀ {b p r : L}, cutC c b = some (p, r) → b = p ++ c :: r ∧ c ∉ p
  | [], _, _, h => by simp [cutC] at h
  | x :: b, p, r, h => by
    unfold cutC at h
    by_cases e : x = c
    · rw [if_pos e] at h
      simp only [Option.some.injEq, Prod.mk.injEq] at h
      obtain ⟨rfl, rfl⟩ := h
      exact ⟨by simp [e], by simp⟩
    · rw [if_neg e] at h
      cases hc : cutC c b with
      | none => rw [hc] at h; cases h
      | some q =>
        obtain ⟨a, s⟩ := q
        rw [hc] at h
        simp only [Option.some.injEq, Prod.mk.injEq] at h
        obtain ⟨rfl, rfl⟩ := h
        obtain ⟨h1, h2⟩ := cutC_some hc
        refine ⟨by simp [h1], ?_⟩
        simp only [List.mem_cons, not_or]
        exact ⟨fun h => e h.symm, h2⟩
theorem cutC_none {c : Int} : ∀ {b : L}, cutC c b = none → c ∉ b
  | [], _ => by simp
  | x :: b, h => by
    unfold cutC at h
    by_cases e : x = c
    · rw [if_pos e] at h; cases h
    · rw [if_neg e] at h
      cases hc : cutC c b with
      | none =>
        simp only [List.mem_cons, not_or]
        exact ⟨fun h => e h.symm, cutC_none hc⟩
      | some q => rw [hc] at h; cases h
theorem cutC_mk {c : Int} : ∀ {p : L} (r : L), c ∉ p → cutC c (p ++ c :: r) = some (p, r)
  | [], r, _ => by simp [cutC]
  | x :: p, r, h => by
    simp only [List.mem_cons, not_or] at h
    simp only [List.cons_append, cutC]
    rw [if_neg (fun e => h.1 e.symm), cutC_mk r h.2]
theorem cutC_none_mk {c : Int} {b : L} (h : c ∉ b) : cutC c b = none := by
  cases hc : cutC c b with
  | none => rfl
  | some q =>
    obtain ⟨a, s⟩ := q
    obtain ⟨h1, _⟩ := cutC_some hc
    exact absurd (by rw [h1]; simp) h
theorem splitC_none {c : Int} : ∀ {s : L}, c ∉ s → splitC c s = [s]
  | [], _ => rfl
  | x :: s, h => by
    simp only [List.mem_cons, not_or] at h
    simp only [splitC]
    rw [if_neg (fun e => h.1 e.symm), splitC_none h.2]
theorem splitC_ne {c : Int} : ∀ (s : L), splitC c s ≠ []
  | [] => by simp [splitC]
  | x :: s => by
    simp only [splitC]
    split
    · simp
    · cases h : splitC c s with
      | nil => exact absurd h (splitC_ne s)
      | cons p q => simp
theorem splitC_app {c : Int} : ∀ (a b : L), splitC c (a ++ c :: b) = splitC c a ++ splitC c b
  | [], b => by simp [splitC]
  | x :: a, b => by
    simp only [List.cons_append, splitC]
    by_cases e : x = c
    · rw [if_pos e, if_pos e, splitC_app a b]; rfl
    · rw [if_neg e, if_neg e, splitC_app a b]
      cases h : splitC c a with
      | nil => exact absurd h (splitC_ne a)
      | cons p q => rfl
theorem splitC_cut {c : Int} {p : L} (r : L) (h : c ∉ p) : splitC c (p ++ c :: r) = p :: splitC c r := by
  rw [splitC_app, splitC_none h]; rfl
/-- The pieces, one behind the other with c between: the text. -/
def joinC (c : Int) : List L → L
  | [] => []
  | [p] => p
  | p :: q :: r => p ++ c :: joinC c (q :: r)
theorem join_split {c : Int} : ∀ (s : L), joinC c (splitC c s) = s
  | [] => rfl
  | x :: s => by
    have ih := join_split (c := c) s
    simp only [splitC]
    by_cases e : x = c
    · rw [if_pos e]
      cases h : splitC c s with
      | nil => exact absurd h (splitC_ne s)
      | cons p q => rw [h] at ih; simp only [joinC, ih, e]; rfl
    · rw [if_neg e]
      cases h : splitC c s with
      | nil => exact absurd h (splitC_ne s)
      | cons p q =>
        rw [h] at ih
        simp only
        cases q with
        | nil => simp only [joinC] at ih ⊢; rw [ih]
        | cons q r => simp only [joinC] at ih ⊢; rw [← ih]; rfl
theorem split_no {c : Int} : ∀ (s : L), ∀ p ∈ splitC c s, c ∉ p
  | [], p, h => by simp [splitC] at h; rw [h]; simp
  | x :: s, p, h => by
    have ih := split_no (c := c) s
    simp only [splitC] at h
    by_cases e : x = c
    · rw [if_pos e] at h
      rcases List.mem_cons.1 h with rfl | h
      · simp
      · exact ih p h
    · rw [if_neg e] at h
      cases hs : splitC c s with
      | nil => exact absurd hs (splitC_ne s)
      | cons q r =>
        rw [hs] at h ih
        rcases List.mem_cons.1 h with rfl | h
        · simp only [List.mem_cons, not_or]
          exact ⟨fun h => e h.symm, ih q (by simp)⟩
        · exact ih p (by simp [h])
theorem split_join {c : Int} : ∀ {l : List L}, l ≠ [] → (∀ p ∈ l, c ∉ p) → splitC c (joinC c l) = l
  | [], h, _ => absurd rfl h
  | [p], _, h => splitC_none (h p (by simp))
  | p :: q :: r, _, h => by
    simp only [joinC]
    rw [splitC_cut _ (h p (by simp)), split_join (by simp) (fun x hx => h x (by simp [hx]))]
theorem split_all {c : Int} {f : Int → Bool} (s : L) (h : ∀ p ∈ splitC c s, p.all f = true) : ∀ x ∈ s, x = c ∨ f x = true := by
  induction s with
  | nil => simp
  | cons y s ih =>
    simp only [splitC] at h
    by_cases e : y = c
    · rw [if_pos e] at h
      intro x hx
      rcases List.mem_cons.1 hx with rfl | hx
      · exact .inl e
      · exact ih (fun p hp => h p (by simp [hp])) x hx
    · rw [if_neg e] at h
      cases hs : splitC c s with
      | nil => exact absurd hs (splitC_ne s)
      | cons q r =>
        rw [hs] at h ih
        have h1 := h (y :: q) (by simp)
        rw [List.all_cons, Bool.and_eq_true] at h1
        intro x hx
        rcases List.mem_cons.1 hx with rfl | hx
        · exact .inr h1.1
        · refine ih (fun p hp => ?_) x hx
          rcases List.mem_cons.1 hp with rfl | hp
          · exact h1.2
          · exact h p (by simp [hp])
theorem not_mem_all {p : Int → Bool} {c : Int} {l : L} (h : l.all p = true) (hc : p c = false) : c ∉ l := by
  intro hm
  have := List.all_eq_true.1 h c hm
  rw [hc] at this; cases this
theorem endCut_app (x e : L) : endCut (x ++ e) e = some x := by
  unfold endCut
  have h1 : (x ++ e).length - e.length = x.length := by simp
  rw [h1, if_pos ⟨by simp, by simp⟩]
  simp
theorem endCut_some {s e x : L} (h : endCut s e = some x) : s = x ++ e := by
  unfold endCut at h
  split at h
  · rename_i h1
    simp only [Option.some.injEq] at h
    rw [← h]
    conv => lhs; rw [← List.take_append_drop (s.length - e.length) s, h1.2]
  · cases h
theorem endCut_none {s e : L} {c : Int} (hs : c ∉ s) (he : c ∈ e) : endCut s e = none := by
  cases h : endCut s e with
  | none => rfl
  | some x =>
    have := endCut_some h
    rw [this] at hs
    exact absurd (List.mem_append_right _ he) hs
theorem numB_dig {s : L} (h : numB s = true) : s.all digB = true ∧ s ≠ [] := by
  unfold numB at h
  simp only [Bool.and_eq_true] at h
  exact ⟨h.1.1, by intro e; rw [e] at h; simp at h⟩
theorem dig_not {c : Int} {s : L} (h : s.all digB = true) (hc : digB c = false) : c ∉ s := not_mem_all h hc

def preT : Option L → L
  | some p => 45 :: p
  | none => []
/-- The text of a version. -/
def verText (a b c : L) (pre : Option L) (odd : Bool) : L :=
  118 :: (a ++ 46 :: (b ++ 46 :: c) ++ preT pre ++ (if odd then incompat else []))
def verWords (pre : Option L) : List L := match pre with | some p => splitC 46 p | none => []
theorem word_no {w : L} (h : wordB w = true) : (43 : Int) ∉ w := by
  unfold wordB at h
  simp only [Bool.and_eq_true] at h
  exact not_mem_all h.1.1 (by decide)
theorem words_no {p : L} (h : ∀ w ∈ splitC 46 p, wordB w = true) : (43 : Int) ∉ p := by
  intro hm
  have h2 : ∀ w ∈ splitC 46 p, w.all wordC = true := by
    intro w hw
    have := h w hw
    unfold wordB at this
    simp only [Bool.and_eq_true] at this
    exact this.1.1
  rcases split_all p h2 43 hm with h3 | h3
  · cases h3
  · revert h3; decide
theorem parseV_mk {a b c : L} {pre : Option L} {odd : Bool} (ha : numB a = true) (hb : numB b = true) (hc : numB c = true) (hp : ∀ w ∈ verWords pre, wordB w = true)
    (ho : odd = true → a ≠ [48] ∧ a ≠ [49]) (hl : (verText a b c pre odd).length ≤ 128) : parseV (verText a b c pre odd) = some ⟨a, b, c, verWords pre, odd⟩ := by
  have da := (numB_dig ha).1
  have db := (numB_dig hb).1
  have dc := (numB_dig hc).1
  have hcore : (43 : Int) ∉ a ++ 46 :: (b ++ 46 :: c) := by
    simp only [List.mem_append, List.mem_cons, not_or]
    exact ⟨dig_not da (by decide), by decide, dig_not db (by decide), by decide, dig_not dc (by decide)⟩
  have hcore2 : (45 : Int) ∉ a ++ 46 :: (b ++ 46 :: c) := by
    simp only [List.mem_append, List.mem_cons, not_or]
    exact ⟨dig_not da (by decide), by decide, dig_not db (by decide), by decide, dig_not dc (by decide)⟩
  have hpre : (43 : Int) ∉ preT pre := by
    cases pre with
    | none => simp [preT]
    | some p =>
      simp only [preT, List.mem_cons, not_or]
      exact ⟨by decide, words_no hp⟩
  have hsplit : splitC 46 (a ++ 46 :: (b ++ 46 :: c)) = [a, b, c] := by
    rw [splitC_cut _ (dig_not da (by decide)), splitC_cut _ (dig_not db (by decide)), splitC_none (dig_not dc (by decide))]
  unfold parseV
  rw [if_neg (by omega)]
  unfold verText
  simp only
  have hend : endCut (a ++ 46 :: (b ++ 46 :: c) ++ preT pre ++ (if odd then incompat else [])) incompat = if odd then some (a ++ 46 :: (b ++ 46 :: c) ++ preT pre) else none := by
    cases odd with
    | true => simp only [if_true]; exact endCut_app _ _
    | false =>
      simp only [Bool.false_eq_true, if_false, List.append_nil]
      refine endCut_none (c := 43) ?_ (by decide)
      rw [List.mem_append, not_or]
      exact ⟨hcore, hpre⟩
  rw [hend]
  have hbody : (if odd = true then some (a ++ 46 :: (b ++ 46 :: c) ++ preT pre) else none).getD (a ++ 46 :: (b ++ 46 :: c) ++ preT pre ++ (if odd then incompat else [])) = a ++ 46 :: (b ++ 46 :: c) ++ preT pre := by
    cases odd <;> simp
  have hodd : (if odd = true then some (a ++ 46 :: (b ++ 46 :: c) ++ preT pre) else none).isSome = odd := by cases odd <;> simp
  rw [hbody, hodd]
  have hcut : cutC 45 (a ++ 46 :: (b ++ 46 :: c) ++ preT pre) = pre.map (fun p => (a ++ 46 :: (b ++ 46 :: c), p)) := by
    cases pre with
    | none => simp only [preT, List.append_nil, Option.map_none]; exact cutC_none_mk hcore2
    | some p => exact cutC_mk p hcore2
  have hah : aheadC 45 (a ++ 46 :: (b ++ 46 :: c) ++ preT pre) = a ++ 46 :: (b ++ 46 :: c) := by
    unfold aheadC
    rw [hcut]
    cases pre <;> simp [preT]
  rw [hcut, hah, hsplit]
  have hw : wordsOf (pre.map (fun p => (a ++ 46 :: (b ++ 46 :: c), p))) = verWords pre := by
    cases pre <;> rfl
  rw [hw, if_neg (by rw [List.all_eq_true.2 hp]; simp)]
  simp only
  rw [if_pos]
  simp only [Bool.and_eq_true, Bool.or_eq_true, Bool.not_eq_true', decide_eq_true_eq]
  refine ⟨⟨⟨ha, hb⟩, hc⟩, ?_⟩
  cases odd with
  | false => exact .inl rfl
  | true => exact .inr (ho rfl)
/-- What is read as a version is the text of its parts. -/
theorem parseV_text {s : L} {v : Ver} (h : parseV s = some v) : ∃ pre, s = verText v.a v.b v.c pre v.odd ∧ verWords pre = v.words ∧ numB v.a = true ∧ numB v.b = true ∧ numB v.c = true ∧ (∀ w ∈ v.words, wordB w = true) ∧ (v.odd = true → v.a ≠ [48] ∧ v.a ≠ [49]) ∧ s.length ≤ 128 := by
  unfold parseV at h
  split at h
  · cases h
  · rename_i hlen
    split at h
    · rename_i r
      simp only at h
      split at h
      · cases h
      · rename_i hws
        rw [Bool.not_eq_false] at hws
        split at h
        · rename_i a b c hs
          split at h
          · rename_i hn
            simp only [Option.some.injEq] at h
            subst h
            simp only [Bool.and_eq_true, Bool.or_eq_true, Bool.not_eq_true', decide_eq_true_eq] at hn
            have hj := join_split (c := 46) (aheadC 45 ((endCut r incompat).getD r))
            rw [hs] at hj
            simp only [joinC] at hj
            have hr : r = (endCut r incompat).getD r ++ (if (endCut r incompat).isSome then incompat else []) := by
              cases he : endCut r incompat with
              | none => simp
              | some x => simp only [Option.getD_some, Option.isSome_some, if_true]; exact endCut_some he
            refine ⟨(cutC 45 ((endCut r incompat).getD r)).map Prod.snd, ?_, ?_, hn.1.1.1, hn.1.1.2, hn.1.2, List.all_eq_true.1 hws, ?_, by omega⟩
            · unfold verText
              simp only
              congr 1
              conv => lhs; rw [hr]
              congr 1
              cases hc : cutC 45 ((endCut r incompat).getD r) with
              | none =>
                unfold aheadC at hj
                rw [hc] at hj
                simp only at hj
                simp only [Option.map_none, preT, List.append_nil]
                exact hj.symm
              | some q =>
                obtain ⟨x, y⟩ := q
                unfold aheadC at hj
                rw [hc] at hj
                simp only at hj
                simp only [Option.map_some, preT]
                rw [hj]
                exact (cutC_some hc).1
            · unfold verWords
              cases hc : cutC 45 ((endCut r incompat).getD r) with
              | none => rfl
              | some q => rfl
            · intro ho
              simp only at ho
              rcases hn.2 with h1 | h1
              · rw [ho] at h1; cases h1
              · exact h1
          · cases h
        · cases h
    · cases h

/-! Decimal numbers -/
def decS (n : Nat) : L := if n < 10 then [48 + (n : Int)] else decS (n / 10) ++ [48 + ((n % 10 : Nat) : Int)]
termination_by n
decreasing_by omega
theorem decS_lt {n : Nat} (h : n < 10) : decS n = [48 + (n : Int)] := by rw [decS, if_pos h]
theorem decS_ge {n : Nat} (h : ¬ n < 10) : decS n = decS (n / 10) ++ [48 + ((n % 10 : Nat) : Int)] := by rw [decS, if_neg h]
theorem decS_ne (n : Nat) : decS n ≠ [] := by
  by_cases h : n < 10
  · rw [decS_lt h]; simp
  · rw [decS_ge h]; simp
theorem decS_dig (n : Nat) : (decS n).all digB = true := by
  induction n using Nat.strongRecOn with
  | _ n ih =>
    by_cases h : n < 10
    · rw [decS_lt h]; simp [digB]; omega
    · rw [decS_ge h, List.all_append, ih (n / 10) (by omega)]
      simp [digB]; omega
theorem decS_head {n : Nat} (h : 0 < n) : (decS n).head? ≠ some 48 := by
  induction n using Nat.strongRecOn with
  | _ n ih =>
    by_cases h1 : n < 10
    · rw [decS_lt h1]; simp; omega
    · rw [decS_ge h1, List.head?_append]
      have h4 := ih (n / 10) (by omega) (by omega)
      cases hd : (decS (n / 10)).head? with
      | none => rw [List.head?_eq_none_iff] at hd; exact absurd hd (decS_ne _)
      | some x => rw [hd] at h4; simpa using h4
theorem decS_num (n : Nat) : numB (decS n) = true := by
  unfold numB
  simp only [Bool.and_eq_true, Bool.or_eq_true, decide_eq_true_eq]
  refine ⟨⟨decS_dig n, ?_⟩, ?_⟩
  · cases h : decS n with
    | nil => exact absurd h (decS_ne n)
    | cons x r => rfl
  · rcases Nat.eq_zero_or_pos n with rfl | h
    · left; rw [decS_lt (by omega)]; rfl
    · exact .inr (decS_head h)
theorem decS_len : ∀ {k n : Nat}, 0 < k → n < 10 ^ k → (decS n).length ≤ k := by
  intro k
  induction k with
  | zero => intro n h0; omega
  | succ k ih =>
    intro n _ hn
    by_cases h1 : n < 10
    · rw [decS_lt h1]; simp
    · rw [decS_ge h1]
      have hk : 0 < k := by
        rcases Nat.eq_zero_or_pos k with rfl | h
        · simp at hn; omega
        · exact h
      have h2 : n / 10 < 10 ^ k := by rw [Nat.pow_succ] at hn; omega
      have := ih hk h2
      simp; omega
theorem cmpB_snoc {x y : Int} : ∀ {a b : L}, a.length = b.length → cmpB (a ++ [x]) (b ++ [y]) = if cmpB a b ≠ 0 then cmpB a b else cmpI x y
  | [], [], _ => by
    simp only [List.nil_append, cmpB]
    unfold cmpI
    (repeat' split) <;> omega
  | [], _ :: _, h => by simp at h
  | _ :: _, [], h => by simp at h
  | p :: a, q :: b, h => by
    simp only [List.cons_append, cmpB]
    rw [cmpB_snoc (by simpa using h)]
    (repeat' split) <;> omega
theorem cmpN_same {a b : L} (h : a.length = b.length) : cmpN a b = cmpB a b := by unfold cmpN; rw [if_neg (by omega), if_neg (by omega)]
theorem cmpN_lt {a b : L} (h : a.length < b.length) : cmpN a b = -1 := by unfold cmpN; rw [if_pos h]
theorem cmpN_gt {a b : L} (h : b.length < a.length) : cmpN a b = 1 := by unfold cmpN; rw [if_neg (by omega), if_pos h]
theorem cmpN_snoc {x y : Int} {a b : L} : cmpN (a ++ [x]) (b ++ [y]) = if cmpN a b ≠ 0 then cmpN a b else cmpI x y := by
  rcases Nat.lt_trichotomy a.length b.length with h | h | h
  · rw [cmpN_lt h, cmpN_lt (by simp; omega), if_pos (by decide)]
  · rw [cmpN_same h, cmpN_same (by simp; omega), cmpB_snoc h]
  · rw [cmpN_gt h, cmpN_gt (by simp; omega), if_pos (by decide)]
theorem cmpN_dec : ∀ (m n : Nat), cmpN (decS m) (decS n) = cmpI m n := by
  intro m
  induction m using Nat.strongRecOn with
  | _ m ih =>
    intro n
    by_cases hm : m < 10
    · by_cases hn : n < 10
      · rw [decS_lt hm, decS_lt hn]
        unfold cmpN
        rw [if_neg (by simp), if_neg (by simp)]
        simp only [cmpB]
        unfold cmpI
        (repeat' split) <;> omega
      · have h1 : 1 < (decS n).length := by
          rw [decS_ge hn]
          have := List.length_pos_iff.2 (decS_ne (n / 10))
          simp; omega
        rw [decS_lt hm]
        unfold cmpN cmpI
        rw [if_pos (by simpa using h1), if_pos (by omega)]
    · by_cases hn : n < 10
      · have h1 : 1 < (decS m).length := by
          rw [decS_ge hm]
          have := List.length_pos_iff.2 (decS_ne (m / 10))
          simp; omega
        rw [decS_lt hn]
        rw [cmpN_gt (by simpa using h1)]
        unfold cmpI
        rw [if_neg (by omega), if_pos (by omega)]
      · rw [decS_ge hm, decS_ge hn, cmpN_snoc, ih (m / 10) (by omega)]
        unfold cmpI
        (repeat' split) <;> omega

/-! Three numbers -/
def threeS (a b c : Nat) : L := 118 :: (decS a ++ 46 :: (decS b ++ 46 :: decS c))
def side3 (a b c x y z : Nat) : Int := if cmpI a x ≠ 0 then cmpI a x else if cmpI b y ≠ 0 then cmpI b y else cmpI c z
theorem threeS_text (a b c : Nat) (pre : Option L) (odd : Bool) : threeS a b c ++ preT pre ++ (if odd then incompat else []) = verText (decS a) (decS b) (decS c) pre odd := by
  unfold threeS verText
  simp
theorem parse_three {a b c : Nat} (ha : a < 2 ^ 32) (hb : b < 2 ^ 32) (hc : c < 2 ^ 32) (pre : Option L) (odd : Bool) (hp : ∀ w ∈ verWords pre, wordB w = true) (hl : (pre.getD []).length ≤ 10) (ho : odd = true → 2 ≤ a) :
    parseV (threeS a b c ++ preT pre ++ (if odd then incompat else [])) = some ⟨decS a, decS b, decS c, verWords pre, odd⟩ := by
  have e10 : (2 : Nat) ^ 32 = 4294967296 := by decide
  have e11 : (10 : Nat) ^ 10 = 10000000000 := by decide
  have la := decS_len (k := 10) (n := a) (by omega) (by omega)
  have lb := decS_len (k := 10) (n := b) (by omega) (by omega)
  have lc := decS_len (k := 10) (n := c) (by omega) (by omega)
  have li : incompat.length = 13 := rfl
  rw [threeS_text]
  refine parseV_mk (decS_num a) (decS_num b) (decS_num c) hp (fun h => ?_) ?_
  · have h2 := ho h
    have hz : ∀ k : Nat, k < 2 → decS a ≠ [48 + (k : Int)] := by
      intro k hk e
      have := cmpN_dec a k
      rw [e, decS_lt (n := k) (by omega)] at this
      rw [ordN.refl] at this
      unfold cmpI at this
      (repeat' split at this) <;> omega
    exact ⟨hz 0 (by omega), hz 1 (by omega)⟩
  · unfold verText
    have hp2 : (preT pre).length ≤ 11 := by cases pre <;> simp [preT] at * <;> omega
    have ho2 : (if odd = true then incompat else []).length ≤ 13 := by cases odd <;> simp [li]
    simp only [List.length_cons, List.length_append]
    omega
theorem compare_three {a b c x y z : Nat} (ha : a < 2 ^ 32) (hb : b < 2 ^ 32) (hc : c < 2 ^ 32) (hx : x < 2 ^ 32) (hy : y < 2 ^ 32) (hz : z < 2 ^ 32) (p q : Option L) (o1 o2 : Bool)
    (hp : ∀ w ∈ verWords p, wordB w = true) (hpl : (p.getD []).length ≤ 10) (hq : ∀ w ∈ verWords q, wordB w = true) (hql : (q.getD []).length ≤ 10) (ho1 : o1 = true → 2 ≤ a) (ho2 : o2 = true → 2 ≤ x) :
    compareS (threeS a b c ++ preT p ++ (if o1 then incompat else [])) (threeS x y z ++ preT q ++ (if o2 then incompat else [])) =
      if side3 a b c x y z ≠ 0 then side3 a b c x y z else cmpP (verWords p) (verWords q) := by
  unfold compareS
  rw [parse_three ha hb hc p o1 hp hpl ho1, parse_three hx hy hz q o2 hq hql ho2]
  simp only [cmpV, cmpN_dec, side3]
  (repeat' split) <;> first | rfl | omega
end Go.Proofs.YtnimaenhijlcmaaGreatDoor.Mb
