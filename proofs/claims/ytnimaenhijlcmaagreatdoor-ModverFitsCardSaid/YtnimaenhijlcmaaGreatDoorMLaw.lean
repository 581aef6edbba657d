/- Module paths and versions by plain lists of bytes: escaped forms, forbidden bytes, majors, keys. -/
import Derived.Test.YtnimaenhijlcmaaGreatDoorMVer
namespace Go.Proofs.YtnimaenhijlcmaaGreatDoor.Mb
set_option linter.unusedVariables false
set_option linter.unusedSimpArgs false

/-! Escaped forms -/
theorem esc_unesc : ∀ {t s : L}, unescS t = some s → escS s = t ∧ (33 : Int) ∉ s
  | [], s, h => by
    simp only [unescS, Option.some.injEq] at h
    subst h
    exact ⟨rfl, by simp⟩
  | [c], s, h => by
    simp only [unescS] at h
    split at h
    · cases h
    · rename_i hc
      simp only [Bool.or_eq_true, decide_eq_true_eq, not_or] at hc
      simp only [Option.some.injEq] at h
      subst h
      refine ⟨?_, by simp; omega⟩
      simp only [escS, List.flatMap_cons, List.flatMap_nil, List.append_nil, esc1]
      rw [if_neg hc.1]
  | c :: d :: r, s, h => by
    simp only [unescS] at h
    split at h
    · cases h
    · rename_i hc
      split at h
      · rename_i h33
        subst h33
        split at h
        · rename_i hd
          cases hr : unescS r with
          | none => rw [hr] at h; cases h
          | some q =>
            rw [hr] at h
            simp only [Option.map_some, Option.some.injEq] at h
            subst h
            obtain ⟨h1, h2⟩ := esc_unesc hr
            unfold smlB at hd
            simp only [Bool.and_eq_true, decide_eq_true_eq] at hd
            refine ⟨?_, by simp only [List.mem_cons, not_or]; exact ⟨by omega, h2⟩⟩
            have e : escS ((d - 32) :: q) = esc1 (d - 32) ++ escS q := rfl
            rw [e, h1]
            unfold esc1 capB
            rw [if_pos (by simp only [Bool.and_eq_true, decide_eq_true_eq]; omega)]
            have e2 : d - 32 + 32 = d := by omega
            rw [e2]; rfl
        · cases h
      · rename_i h33
        cases hr : unescS (d :: r) with
        | none => rw [hr] at h; cases h
        | some q =>
          rw [hr] at h
          simp only [Option.map_some, Option.some.injEq] at h
          subst h
          obtain ⟨h1, h2⟩ := esc_unesc hr
          refine ⟨?_, by simp only [List.mem_cons, not_or]; exact ⟨fun e => h33 e.symm, h2⟩⟩
          have e : escS (c :: q) = esc1 c ++ escS q := rfl
          rw [e, h1]
          unfold esc1
          rw [if_neg hc]; rfl
theorem unesc_cons {c : Int} {r q : L} (h1 : capB c = false) (h2 : c ≠ 33) (h : unescS r = some q) : unescS (c :: r) = some (c :: q) := by
  cases r with
  | nil =>
    simp only [unescS, Option.some.injEq] at h
    subst h
    simp only [unescS]
    rw [if_neg (by simp [h1, h2])]
  | cons d r =>
    simp only [unescS]
    rw [if_neg (by simp [h1]), if_neg h2, h]
    rfl
theorem unesc_esc : ∀ {s : L}, (33 : Int) ∉ s → unescS (escS s) = some s
  | [], _ => rfl
  | c :: s, h => by
    simp only [List.mem_cons, not_or] at h
    have ih := unesc_esc h.2
    have e : escS (c :: s) = esc1 c ++ escS s := rfl
    rw [e]
    unfold esc1
    by_cases hc : capB c = true
    · rw [if_pos hc]
      show unescS (33 :: (c + 32) :: escS s) = _
      unfold capB at hc
      simp only [Bool.and_eq_true, decide_eq_true_eq] at hc
      simp only [unescS]
      rw [if_neg (by decide), if_pos trivial, if_pos (by unfold smlB; simp only [Bool.and_eq_true, decide_eq_true_eq]; omega), ih]
      simp only [Option.map_some]
      have e2 : c + 32 - 32 = c := by omega
      rw [e2]
    · rw [if_neg hc]
      exact unesc_cons (by simpa using hc) (fun e => h.1 e.symm) ih
theorem esc_low (s : L) : lowS (escS s) = escS s := by
  induction s with
  | nil => rfl
  | cons c s ih =>
    have e : escS (c :: s) = esc1 c ++ escS s := rfl
    rw [e]
    unfold lowS at ih ⊢
    rw [List.map_append, ih]
    congr 1
    unfold esc1 capB
    split
    · rename_i h
      simp only [Bool.and_eq_true, decide_eq_true_eq] at h
      simp only [List.map_cons, List.map_nil, lowB]
      rw [if_neg (by omega), if_neg (by omega)]
    · rename_i h
      simp only [Bool.and_eq_true, decide_eq_true_eq] at h
      simp only [List.map_cons, List.map_nil, lowB]
      rw [if_neg h]
theorem esc_inj {a b : L} (ha : (33 : Int) ∉ a) (hb : (33 : Int) ∉ b) (h : escS a = escS b) : a = b := by
  have h1 := unesc_esc ha
  rw [h, unesc_esc hb] at h1
  exact (Option.some.inj h1).symm
theorem esc_nil {s : L} : escS s = [] ↔ s = [] := by
  cases s with
  | nil => simp [escS]
  | cons c s =>
    have e : escS (c :: s) = esc1 c ++ escS s := rfl
    rw [e]
    unfold esc1
    split <;> simp

/-! Bytes that may stand -/
def verB (c : Int) : Bool := wordC c || decide (c = 46) || decide (c = 43)
theorem path_all {p : L} (h : pathS p = true) : p.all pathB = true := by
  unfold pathS at h
  simp only [Bool.and_eq_true] at h
  exact h.1.1.1.2
theorem path_ne {p : L} (h : pathS p = true) : p ≠ [] ∧ p.length ≤ 255 := by
  unfold pathS at h
  simp only [Bool.and_eq_true, decide_eq_true_eq] at h
  exact ⟨by intro e; rw [e] at h; simp at h, h.1.1.1.1.2⟩
theorem dig_ver {s : L} (h : s.all digB = true) : ∀ x ∈ s, verB x = true := by
  intro x hx
  have := List.all_eq_true.1 h x hx
  unfold verB wordC
  simp [this]
theorem ver_all {s : L} {v : Ver} (h : parseV s = some v) : ∀ x ∈ s, verB x = true := by
  obtain ⟨pre, h1, h2, h3, h4, h5, h6, _, _⟩ := parseV_text h
  rw [h1]
  intro x hx
  unfold verText at hx
  simp only [List.mem_cons, List.mem_append] at hx
  rcases hx with rfl | (((hx | rfl | hx | rfl | hx) | hx) | hx)
  · decide
  · exact dig_ver (numB_dig h3).1 x hx
  · decide
  · exact dig_ver (numB_dig h4).1 x hx
  · decide
  · exact dig_ver (numB_dig h5).1 x hx
  · cases pre with
    | none => cases hx
    | some p =>
      simp only [preT, List.mem_cons] at hx
      rcases hx with rfl | hx
      · decide
      · have hw : ∀ w ∈ splitC 46 p, w.all wordC = true := by
          intro w hw
          have h7 : verWords (some p) = splitC 46 p := rfl
          rw [h7] at h2
          rw [h2] at hw
          have := h6 w hw
          unfold wordB at this
          simp only [Bool.and_eq_true] at this
          exact this.1.1
        rcases split_all p hw x hx with rfl | h8
        · decide
        · unfold verB; simp [h8]
  · split at hx
    · have : incompat.all verB = true := by decide
      exact List.all_eq_true.1 this x hx
    · cases hx
theorem path_no {p : L} (h : pathS p = true) : (33 : Int) ∉ p ∧ (64 : Int) ∉ p ∧ (32 : Int) ∉ p ∧ (10 : Int) ∉ p :=
  ⟨not_mem_all (path_all h) (by decide), not_mem_all (path_all h) (by decide), not_mem_all (path_all h) (by decide), not_mem_all (path_all h) (by decide)⟩
theorem ver_no {s : L} {v : Ver} (h : parseV s = some v) : (33 : Int) ∉ s ∧ (64 : Int) ∉ s ∧ (32 : Int) ∉ s ∧ (10 : Int) ∉ s ∧ (47 : Int) ∉ s ∧ s ≠ [] ∧ s.length ≤ 128 := by
  have ha := ver_all h
  obtain ⟨pre, h1, _, _, _, _, _, _, h8⟩ := parseV_text h
  refine ⟨fun hm => ?_, fun hm => ?_, fun hm => ?_, fun hm => ?_, fun hm => ?_, ?_, h8⟩
  · have := ha _ hm; revert this; decide
  · have := ha _ hm; revert this; decide
  · have := ha _ hm; revert this; decide
  · have := ha _ hm; revert this; decide
  · have := ha _ hm; revert this; decide
  · rw [h1]; unfold verText; simp
/-- A byte that may stand in no path refuses every text. -/
theorem path_byte {p : L} {c : Int} (hc : c ∈ p) (h : pathB c = false) : pathS p = false := by
  cases hp : pathS p with
  | false => rfl
  | true => exact absurd hc (not_mem_all (path_all hp) h)
theorem ver_byte {s : L} {c : Int} (hc : c ∈ s) (h : verB c = false) : parseV s = none := by
  cases hp : parseV s with
  | none => rfl
  | some v => have := ver_all hp c hc; rw [h] at this; cases this

/-! Keys -/
theorem keyS_mk {p v : L} (hp : (64 : Int) ∉ p) (hv : (64 : Int) ∉ v) : keyS (p ++ 64 :: v) = some (p, v) := by
  unfold keyS
  rw [cutC_mk _ hp]
  simp only
  rw [if_neg (by simpa using hv)]
theorem keyS_some {s p v : L} (h : keyS s = some (p, v)) : s = p ++ 64 :: v ∧ (64 : Int) ∉ p ∧ (64 : Int) ∉ v := by
  unfold keyS at h
  split at h
  · rename_i a b hc
    split at h
    · cases h
    · rename_i hn
      simp only [Option.some.injEq, Prod.mk.injEq] at h
      obtain ⟨rfl, rfl⟩ := h
      obtain ⟨h1, h2⟩ := cutC_some hc
      exact ⟨h1, h2, by simpa using hn⟩
  · cases h
theorem check_ok {p v : L} (h : checkS p v = 0) : pathS p = true ∧ ∃ x, parseV v = some x ∧ fitsV x p = true := by
  unfold checkS at h
  split at h
  · cases h
  · rename_i hp
    rw [Bool.not_eq_false] at hp
    cases hv : parseV v with
    | none => rw [hv] at h; cases h
    | some x =>
      rw [hv] at h
      simp only at h
      split at h
      · rename_i hf; exact ⟨hp, x, rfl, hf⟩
      · cases h

/-! Majors -/
def takesS (p v : L) : Prop := checkS p v = 0
theorem takes_iff {p v : L} : takesS p v ↔ pathS p = true ∧ ∃ x, parseV v = some x ∧ fitsV x p = true := by
  refine ⟨check_ok, ?_⟩
  rintro ⟨h1, x, h2, h3⟩
  unfold takesS checkS
  rw [h1, h2]
  simp [h3]
def one0 : L := [118, 49, 46, 48, 46, 48]
def zero0 : L := [118, 48, 46, 48, 46, 48]
theorem fits_none {v : Ver} {p : L} (h : (majorS p).1 = []) : fitsV v p = (v.odd || decide (v.a = [48]) || decide (v.a = [49])) := by
  unfold fitsV; simp [h]
theorem fits_some {v : Ver} {p : L} (h : (majorS p).1 ≠ []) : fitsV v p = (!v.odd && decide (v.a = (majorS p).1)) := by
  unfold fitsV; simp only; rw [if_pos h]
/-- A path that takes v0.0.0 and v1.0.0 has no major. -/
theorem no_major {p : L} (h1 : takesS p one0) (h0 : takesS p zero0) : pathS p = true ∧ (majorS p).1 = [] := by
  obtain ⟨hp, x, hx, fx⟩ := takes_iff.1 h1
  obtain ⟨_, y, hy, fy⟩ := takes_iff.1 h0
  refine ⟨hp, ?_⟩
  have ex : x = ⟨[49], [48], [48], [], false⟩ := by
    have : parseV one0 = some ⟨[49], [48], [48], [], false⟩ := by decide
    rw [this] at hx; exact (Option.some.inj hx).symm
  have ey : y = ⟨[48], [48], [48], [], false⟩ := by
    have : parseV zero0 = some ⟨[48], [48], [48], [], false⟩ := by decide
    rw [this] at hy; exact (Option.some.inj hy).symm
  rcases Classical.em ((majorS p).1 = []) with h | h
  · exact h
  · rw [fits_some h, ex] at fx
    rw [fits_some h, ey] at fy
    simp only [Bool.not_false, Bool.true_and, decide_eq_true_eq] at fx fy
    rw [← fx] at fy
    cases fy
theorem take_none {p v : L} {x : Ver} (hp : pathS p = true) (hm : (majorS p).1 = []) (hv : parseV v = some x) (h : x.odd = true ∨ x.a = [48] ∨ x.a = [49]) : takesS p v := by
  refine takes_iff.2 ⟨hp, x, hv, ?_⟩
  rw [fits_none hm]
  rcases h with h | h | h <;> simp [h]
theorem take_none_not {p v : L} {x : Ver} (hm : (majorS p).1 = []) (hv : parseV v = some x) (h : x.odd = false ∧ x.a ≠ [48] ∧ x.a ≠ [49]) : ¬ takesS p v := by
  intro ht
  obtain ⟨_, y, hy, fy⟩ := takes_iff.1 ht
  rw [hv] at hy
  obtain rfl := Option.some.inj hy
  rw [fits_none hm] at fy
  simp [h.1, h.2.1, h.2.2] at fy
/-- A path with one more element. -/
theorem split_more (p e : L) (h : (47 : Int) ∉ e) : splitC 47 (p ++ 47 :: e) = splitC 47 p ++ [e] := by
  rw [splitC_app, splitC_none h]
theorem headD_app {l : List L} {e : L} (h : l ≠ []) : (l ++ [e]).headD [] = l.headD [] := by
  cases l with
  | nil => exact absurd rfl h
  | cons x l => rfl
theorem getLastD_app {l : List L} {e : L} : (l ++ [e]).getLastD [] = e := by simp [List.getLastD_eq_getLast?]
/-- A path without a major does not stand at gopkg.in. -/
theorem not_gopkg {p : L} (hp : pathS p = true) (hm : (majorS p).1 = []) : (splitC 47 p).headD [] ≠ gopkg := by
  intro e
  have h2 : (majorS p).2 = true := by
    unfold pathS at hp
    simp only [Bool.and_eq_true] at hp
    exact hp.2
  unfold majorS majorE at hm h2
  simp only at hm h2
  rw [if_pos e] at hm h2
  simp only [Bool.and_eq_true] at hm h2
  rw [hm] at h2
  exact absurd h2.2 (by decide)
theorem path_more {p e : L} (hp : pathS p = true) (hl : p.length + e.length + 1 ≤ 255) (he : e.all pathB = true) (h47 : (47 : Int) ∉ e) (hel : elemB e = true) (hmaj : (majorS (p ++ 47 :: e)).2 = true) : pathS (p ++ 47 :: e) = true := by
  have hne := splitC_ne (c := 47) p
  unfold pathS at hp ⊢
  simp only [Bool.and_eq_true, decide_eq_true_eq] at hp ⊢
  rw [split_more p e h47, headD_app hne]
  refine ⟨⟨⟨⟨⟨?_, by simp; omega⟩, ?_⟩, ?_⟩, hp.1.2⟩, hmaj⟩
  · cases p <;> rfl
  · rw [List.all_append, List.all_cons, hp.1.1.1.2, he]; decide
  · rw [List.all_append, hp.1.1.2]; simp [hel]
theorem major_more {p e : L} (hp : pathS p = true) (hm : (majorS p).1 = []) (h47 : (47 : Int) ∉ e) :
    majorS (p ++ 47 :: e) = if e.length < 2 ∨ e.head? ≠ some 118 ∨ (e.tail.all fun c => digB c || decide (c = 46)) = false then ([], true) else (e.tail, numB e.tail && decide (e.tail ≠ [48]) && decide (e.tail ≠ [49])) := by
  have hne := splitC_ne (c := 47) p
  unfold majorS majorE
  simp only
  rw [split_more p e h47, headD_app hne, getLastD_app, if_neg (not_gopkg hp hm)]
  have : ¬ (splitC 47 p ++ [e]).length = 1 := by
    have := List.length_pos_iff.2 hne
    simp; omega
  by_cases h : e.length < 2 ∨ e.head? ≠ some 118 ∨ (e.tail.all fun c => digB c || decide (c = 46)) = false
  · rw [if_pos (.inr h), if_pos h]
  · rw [if_neg (by rintro (h1 | h1); exact this h1; exact h h1), if_neg h]
theorem path_more_not {p e : L} (h : (splitC 47 (p ++ e)).all elemB = false ∨ (majorS (p ++ e)).2 = false ∨ (p ++ e).all pathB = false) : pathS (p ++ e) = false := by
  unfold pathS
  rcases h with h | h | h <;> simp [h]
/-- What the law of majors says. -/
theorem majors_two {p : L} (h1 : takesS p one0) (h0 : takesS p zero0) (hl : p.length ≤ 250) :
    pathS (p ++ [47, 118, 50]) = true ∧ (majorS (p ++ [47, 118, 50])).1 = [50] := by
  obtain ⟨hp, hm⟩ := no_major h1 h0
  have e := major_more (e := [118, 50]) hp hm (by decide)
  have e2 : majorS (p ++ 47 :: [118, 50]) = ([50], true) := by rw [e]; decide
  exact ⟨path_more hp (by simp; omega) (by decide) (by decide) (by decide) (by rw [e2]), by rw [e2]⟩
theorem majors_x {p : L} (h1 : takesS p one0) (h0 : takesS p zero0) (hl : p.length ≤ 250) : pathS (p ++ [47, 118, 120]) = true := by
  obtain ⟨hp, hm⟩ := no_major h1 h0
  have e := major_more (e := [118, 120]) hp hm (by decide)
  have e2 : majorS (p ++ 47 :: [118, 120]) = ([], true) := by rw [e]; decide
  exact path_more hp (by simp; omega) (by decide) (by decide) (by decide) (by rw [e2])
theorem major_bad {p e : L} (h1 : takesS p one0) (h0 : takesS p zero0) (h47 : (47 : Int) ∉ e)
    (h : elemB e = false ∨ e.all pathB = false ∨ (¬ (e.length < 2 ∨ e.head? ≠ some 118 ∨ (e.tail.all fun c => digB c || decide (c = 46)) = false) ∧ (numB e.tail && decide (e.tail ≠ [48]) && decide (e.tail ≠ [49])) = false)) :
    pathS (p ++ 47 :: e) = false := by
  obtain ⟨hp, hm⟩ := no_major h1 h0
  refine path_more_not ?_
  rcases h with h | h | ⟨h, h2⟩
  · left
    rw [split_more p e h47, List.all_append]
    simp [h]
  · right; right
    rw [List.all_append, List.all_cons, h]
    simp
  · right; left
    rw [major_more hp hm h47, if_neg h]
    exact h2
theorem major_bad2 {p a e : L} (h47 : (47 : Int) ∉ e) (h : elemB e = false) : pathS (p ++ 47 :: (a ++ 47 :: e)) = false := by
  refine path_more_not (.inl ?_)
  have : p ++ 47 :: (a ++ 47 :: e) = (p ++ 47 :: a) ++ 47 :: e := by simp
  rw [this, split_more _ e h47, List.all_append]
  simp [h]
theorem slash_front (p : L) : pathS (47 :: p) = false := by
  unfold pathS
  have : (splitC 47 (47 :: p)).all elemB = false := by
    show (splitC 47 ([] ++ 47 :: p)).all elemB = false
    rw [splitC_app]
    rfl
  rw [this]
  simp
end Go.Proofs.YtnimaenhijlcmaaGreatDoor.Mb
