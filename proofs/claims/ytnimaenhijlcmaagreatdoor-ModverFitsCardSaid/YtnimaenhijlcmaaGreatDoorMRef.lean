/- The document's rules for paths, as the reference asks them, are those of the plain theory. No program and no memory here. -/
import Derived.Test.YtnimaenhijlcmaaGreatDoorMLaw
namespace Go.Proofs.YtnimaenhijlcmaaGreatDoor.Mb
set_option linter.unusedVariables false
set_option linter.unusedSimpArgs false

def digB1 (s : L) : Bool := s.all digB && !s.isEmpty
def elC (c : Int) : Bool := smlB c || capB c || digB c || decide (c = 45) || decide (c = 46) || decide (c = 95) || decide (c = 126)
def tildeB (p : L) : Bool := decide ((splitC 126 p).length < 2) || !digB1 ((splitC 126 p).getLastD [])
def relemB (s : L) : Bool := !s.isEmpty && decide (s.head? ≠ some 46) && decide (s.getLast? ≠ some 46) && s.all elC && !(devices.contains (lowS (aheadC 46 s))) && tildeB (aheadC 46 s)
theorem bare_app (p : L) : digBare p ++ digTail p = p := by
  unfold digBare digTail
  rw [← List.reverse_append, List.takeWhile_append_dropWhile, List.reverse_reverse]
theorem tail_dig (p : L) : (digTail p).all digB = true := by
  unfold digTail
  rw [List.all_reverse]
  exact List.all_takeWhile
theorem bare_end (p : L) : ∀ x c, digBare p = x ++ [c] → digB c = false := by
  intro x c h
  unfold digBare at h
  have h2 : p.reverse.dropWhile digB = c :: x.reverse := by
    have := congrArg List.reverse h
    simpa using this
  have := List.head?_dropWhile_not digB p.reverse
  rw [h2] at this
  simpa using this
theorem tail_of {x q : L} {c : Int} (hq : q.all digB = true) (hc : digB c = false) : digTail (x ++ c :: q) = q ∧ digBare (x ++ c :: q) = x ++ [c] := by
  have h : (x ++ c :: q).reverse = q.reverse ++ c :: x.reverse := by simp
  have hr : q.reverse.all digB = true := by rw [List.all_reverse]; exact hq
  unfold digTail digBare
  rw [h]
  constructor
  · rw [List.takeWhile_append_of_pos (fun a ha => List.all_eq_true.1 hr a ha), List.takeWhile_cons_of_neg (by rw [hc]; simp)]
    simp
  · rw [List.dropWhile_append_of_pos (fun a ha => List.all_eq_true.1 hr a ha), List.dropWhile_cons_of_neg (by rw [hc]; simp)]
    simp
theorem split_last {c : Int} : ∀ (p : L), 2 ≤ (splitC c p).length → ∃ x, p = x ++ c :: (splitC c p).getLastD [] := by
  intro p h
  have hj := join_split (c := c) p
  have key : ∀ (l : List L), 2 ≤ l.length → ∃ x, joinC c l = x ++ c :: l.getLastD [] := by
    intro l
    induction l with
    | nil => intro h; simp at h
    | cons a r ih =>
      intro h
      cases r with
      | nil => simp at h
      | cons b r =>
        cases r with
        | nil => exact ⟨a, rfl⟩
        | cons d r =>
          obtain ⟨x, hx⟩ := ih (by simp)
          refine ⟨a ++ c :: x, ?_⟩
          show a ++ c :: joinC c (b :: d :: r) = _
          rw [hx]
          simp
  obtain ⟨x, hx⟩ := key _ h
  exact ⟨x, by rw [hj] at hx; exact hx⟩
theorem last_no {c : Int} (p : L) : c ∉ (splitC c p).getLastD [] := by
  have hne := splitC_ne (c := c) p
  rw [List.getLastD_eq_getLast?, List.getLast?_eq_some_getLast hne]
  exact split_no p _ (List.getLast_mem hne)
theorem split_one' {c : Int} {p : L} (h : (splitC c p).length < 2) : c ∉ p := by
  have hne := splitC_ne (c := c) p
  have hj := join_split (c := c) p
  have hno := split_no (c := c) p
  generalize splitC c p = l at h hne hj hno
  match l, h, hne with
  | [a], _, _ =>
    have : a = p := hj
    rw [← this]
    exact hno a (by simp)
theorem last_of {c : Int} {x q : L} (hq : c ∉ q) : 2 ≤ (splitC c (x ++ c :: q)).length ∧ (splitC c (x ++ c :: q)).getLastD [] = q := by
  have hne := List.length_pos_iff.2 (splitC_ne (c := c) x)
  rw [splitC_app, splitC_none hq]
  exact ⟨by rw [List.length_append]; simp; omega, getLastD_app⟩
theorem tilde_eq (p : L) : tildeB p = (decide (digTail p = []) || decide ((digBare p).getLast? ≠ some 126)) := by
  unfold tildeB
  by_cases h : (splitC 126 p).length < 2
  · rw [decide_eq_true h]
    have hno := split_one' h
    have : (digBare p).getLast? ≠ some 126 := by
      intro e
      have hm : (126 : Int) ∈ digBare p := List.mem_of_getLast? e
      exact hno (by rw [← bare_app p]; exact List.mem_append_left _ hm)
    rw [decide_eq_true this]
    simp
  · rw [decide_eq_false h]
    obtain ⟨x, hx⟩ := split_last (c := 126) p (by omega)
    have hno := last_no (c := 126) p
    generalize (splitC 126 p).getLastD [] = q at hx hno
    simp only [Bool.false_or]
    by_cases hd : q.all digB = true
    · obtain ⟨t1, t2⟩ := tail_of (x := x) (c := 126) hd (by decide)
      rw [← hx] at t1 t2
      rw [t1, t2]
      unfold digB1
      rw [hd]
      cases q with
      | nil => simp
      | cons a r => simp
    · have hd' : q.all digB = false := by simpa using hd
      have e1 : digB1 q = false := by unfold digB1; rw [hd']; rfl
      rw [e1]
      have : (digBare p).getLast? ≠ some 126 := by
        intro e
        obtain ⟨y, hy⟩ : ∃ y, digBare p = y ++ [126] := by
          have hne : digBare p ≠ [] := fun h => by rw [h] at e; cases e
          refine ⟨(digBare p).dropLast, ?_⟩
          rw [List.getLast?_eq_some_getLast hne] at e
          injection e with e
          rw [← e, List.dropLast_concat_getLast hne]
        have hp : p = y ++ 126 :: digTail p := by
          have := bare_app p
          rw [hy] at this
          rw [List.append_assoc] at this
          exact this.symm
        have hnt : (126 : Int) ∉ digTail p := dig_not (tail_dig p) (by decide)
        have h1 := (last_of (c := 126) (x := y) hnt).2
        have h2 := (last_of (c := 126) (x := x) hno).2
        rw [← hp] at h1
        rw [← hx] at h2
        rw [h1] at h2
        rw [← h2, tail_dig] at hd'
        cases hd'
      rw [decide_eq_true this]
      simp
theorem relem_eq (s : L) : relemB s = (s.all elC && elemB s) := by
  unfold relemB elemB
  rw [tilde_eq]
  cases s.all elC <;> simp [Bool.and_assoc]
theorem elC_path {c : Int} (h : c ≠ 47) : elC c = pathB c := by
  unfold elC pathB
  cases smlB c <;> cases capB c <;> cases digB c <;> simp [h, Bool.or_assoc]
theorem relems_eq (p : L) : (splitC 47 p).all relemB = (p.all pathB && (splitC 47 p).all elemB) := by
  have h1 : (splitC 47 p).all relemB = ((splitC 47 p).all (fun e => e.all elC) && (splitC 47 p).all elemB) := by
    generalize splitC 47 p = l
    induction l with
    | nil => rfl
    | cons a r ih =>
      simp only [List.all_cons, ih, relem_eq]
      cases a.all elC <;> cases elemB a <;> simp
  have h2 : (splitC 47 p).all (fun e => e.all elC) = p.all pathB := by
    rw [Bool.eq_iff_iff]
    constructor
    · intro h
      refine List.all_eq_true.2 fun x hx => ?_
      rcases split_all p (fun q hq => List.all_eq_true.1 h q hq) x hx with rfl | h3
      · decide
      · by_cases h4 : x = 47
        · subst h4; decide
        · rw [← elC_path h4]; exact h3
    · intro h
      refine List.all_eq_true.2 fun q hq => List.all_eq_true.2 fun x hx => ?_
      have hne : x ≠ 47 := fun e => split_no p q hq (e ▸ hx)
      rw [elC_path hne]
      exact List.all_eq_true.1 h x ((show ∀ y ∈ q, y ∈ p from by
        have := join_split (c := 47) p
        intro y hy
        rw [← this]
        have key : ∀ (l : List L), q ∈ l → y ∈ joinC 47 l := by
          intro l
          induction l with
          | nil => intro h; cases h
          | cons a r ih =>
            intro h
            cases r with
            | nil =>
              rcases List.mem_cons.1 h with rfl | h
              · exact hy
              · cases h
            | cons b r =>
              show y ∈ a ++ 47 :: joinC 47 (b :: r)
              rcases List.mem_cons.1 h with rfl | h
              · exact List.mem_append_left _ hy
              · exact List.mem_append_right _ (List.mem_cons_of_mem _ (ih h))
        exact key _ hq) x hx)
  rw [h1, h2]
/-! Majors -/
def hostedS (e : L) : L := if (splitC 46 ((endCut e unstable).getD e)).length < 2 ∨ ((splitC 46 ((endCut e unstable).getD e)).getLastD []).length < 2 ∨ ((splitC 46 ((endCut e unstable).getD e)).getLastD []).head? ≠ some 118 ∨ numB ((splitC 46 ((endCut e unstable).getD e)).getLastD []).tail = false then [] else ((splitC 46 ((endCut e unstable).getD e)).getLastD []).tail
def hokB (s : L) : Bool := decide ((digBare s).drop ((digBare s).length - 2) = [46, 118]) && numB (digTail s)
theorem hosted_eq (e : L) : hostedS e = if hokB ((endCut e unstable).getD e) then digTail ((endCut e unstable).getD e) else [] := by
  unfold hostedS
  generalize (endCut e unstable).getD e = s
  by_cases h : hokB s = true
  · rw [if_pos h]
    unfold hokB at h
    simp only [Bool.and_eq_true, decide_eq_true_eq] at h
    obtain ⟨h1, h2⟩ := h
    obtain ⟨hd, hne⟩ := numB_dig h2
    have hl : 2 ≤ (digBare s).length := by
      have := congrArg List.length h1
      rw [List.length_drop] at this
      simp at this
      omega
    have hs : s = (digBare s).take ((digBare s).length - 2) ++ 46 :: (118 :: digTail s) := by
      have e1 := List.take_append_drop ((digBare s).length - 2) (digBare s)
      rw [h1] at e1
      have e2 := bare_app s
      rw [← e1] at e2
      rw [List.append_assoc] at e2
      exact e2.symm
    have hno : (46 : Int) ∉ 118 :: digTail s := by
      simp only [List.mem_cons, not_or]
      exact ⟨by decide, dig_not hd (by decide)⟩
    obtain ⟨l1, l2⟩ := last_of (c := 46) (x := (digBare s).take ((digBare s).length - 2)) hno
    rw [← hs] at l1 l2
    rw [l2, if_neg]
    · rfl
    · rintro (h | h | h | h)
      · omega
      · have := List.length_pos_iff.2 hne
        simp at h
        omega
      · exact h rfl
      · rw [show (118 :: digTail s).tail = digTail s from rfl, h2] at h
        cases h
  · rw [if_neg h]
    split
    · rfl
    · rename_i hn
      exfalso
      have hn1 : ¬ (splitC 46 s).length < 2 := fun e => hn (.inl e)
      have hn2 : ¬ ((splitC 46 s).getLastD []).length < 2 := fun e => hn (.inr (.inl e))
      have hn3 : ((splitC 46 s).getLastD []).head? = some 118 := Classical.not_not.1 fun e => hn (.inr (.inr (.inl e)))
      have hn4 : numB ((splitC 46 s).getLastD []).tail = true := by
        cases hv : numB ((splitC 46 s).getLastD []).tail
        · exact absurd (.inr (.inr (.inr hv))) hn
        · rfl
      obtain ⟨x, hx⟩ := split_last (c := 46) s (by omega)
      generalize (splitC 46 s).getLastD [] = v at hn2 hn3 hn4 hx
      cases v with
      | nil => cases hn3
      | cons y d =>
        injection hn3 with hy
        subst hy
        have hd4 : numB d = true := hn4
        obtain ⟨t1, t2⟩ := tail_of (x := x ++ [46]) (c := 118) (q := d) (numB_dig hd4).1 (by decide)
        have hs : (x ++ [46]) ++ 118 :: d = s := by rw [hx]; simp
        rw [hs] at t1 t2
        apply h
        unfold hokB
        rw [t1, t2, hd4]
        simp
def tailedB (e : L) : Bool := decide (2 ≤ e.length) && decide (e.head? = some 118) && (e.tail.all fun c => digB c || decide (c = 46))
def refMajor (p : L) : L × Bool :=
  if 255 < p.length then ([], false) else if (splitC 47 p).all relemB = false then ([], false) else if hostB ((splitC 47 p).headD []) = false then ([], false)
  else if (splitC 47 p).headD [] = gopkg then (hostedS ((splitC 47 p).getLastD []), decide (hostedS ((splitC 47 p).getLastD []) ≠ []) && decide (1 < (splitC 47 p).length))
  else if (decide (1 < (splitC 47 p).length) && tailedB ((splitC 47 p).getLastD [])) = true then (((splitC 47 p).getLastD []).tail, numB ((splitC 47 p).getLastD []).tail && decide (((splitC 47 p).getLastD []).tail ≠ [48]) && decide (((splitC 47 p).getLastD []).tail ≠ [49]))
  else ([], true)
theorem hok_ne {s : L} (h : hokB s = true) : digTail s ≠ [] := by
  unfold hokB at h
  simp only [Bool.and_eq_true] at h
  exact (numB_dig h.2).2
theorem major_of (es : List L) (he : es ≠ []) : (es.headD [] = gopkg → majorE es = (digTail ((endCut (es.getLastD []) unstable).getD (es.getLastD [])), hokB ((endCut (es.getLastD []) unstable).getD (es.getLastD []))) ∧ (decide (hostedS (es.getLastD []) ≠ []) && decide (1 < es.length)) = hokB ((endCut (es.getLastD []) unstable).getD (es.getLastD []))) ∧
    (es.headD [] ≠ gopkg → majorE es = if (decide (1 < es.length) && tailedB (es.getLastD [])) = true then ((es.getLastD []).tail, numB (es.getLastD []).tail && decide ((es.getLastD []).tail ≠ [48]) && decide ((es.getLastD []).tail ≠ [49])) else ([], true)) := by
  refine ⟨fun hg => ⟨?_, ?_⟩, fun hg => ?_⟩
  · unfold majorE hokB
    simp only
    rw [if_pos hg]
  · rw [hosted_eq]
    by_cases hk : hokB ((endCut (es.getLastD []) unstable).getD (es.getLastD [])) = true
    · have hlen : 1 < es.length := by
        match es, he, hg, hk with
        | [a], _, hg, hk =>
          have hg : a = gopkg := hg
          subst hg
          exact absurd hk (by decide)
        | _ :: _ :: _, _, _, _ => simp
      rw [hk, if_pos rfl, decide_eq_true (hok_ne hk), decide_eq_true hlen]
      rfl
    · rw [if_neg hk, Bool.not_eq_true] at *
      rw [hk]
      simp
  · unfold majorE tailedB
    simp only
    rw [if_neg hg]
    have hlen := List.length_pos_iff.2 he
    by_cases h1 : es.length = 1
    · rw [if_pos (.inl h1), if_neg]
      rw [decide_eq_false (by omega)]
      simp
    by_cases h2 : (es.getLastD []).length < 2
    · rw [if_pos (.inr (.inl h2)), if_neg]
      rw [decide_eq_false (show ¬ 2 ≤ (es.getLastD []).length by omega)]
      simp
    by_cases h3 : (es.getLastD []).head? = some 118
    · cases h4 : (es.getLastD []).tail.all (fun c => digB c || decide (c = 46))
      · rw [if_pos (.inr (.inr (.inr rfl))), if_neg]
        simp
      · rw [if_neg, if_pos]
        · rw [decide_eq_true (show 1 < es.length by omega), decide_eq_true (show 2 ≤ (es.getLastD []).length by omega), decide_eq_true h3]
          rfl
        · rintro (h | h | h | h)
          · exact h1 h
          · exact h2 h
          · exact h h3
          · cases h
    · rw [if_pos (.inr (.inr (.inl h3))), if_neg]
      rw [decide_eq_false h3]
      simp
theorem refMajor_eq (p : L) : refMajor p = if pathS p then ((majorS p).1, true) else ((refMajor p).1, false) := by
  have hne := splitC_ne (c := 47) p
  obtain ⟨m1, m2⟩ := major_of (splitC 47 p) hne
  have hS : majorS p = majorE (splitC 47 p) := rfl
  have hrel := relems_eq p
  have key : (refMajor p).2 = pathS p ∧ (pathS p = true → (refMajor p).1 = (majorS p).1) := by
    by_cases he : p = []
    · subst he
      exact ⟨by decide +kernel, by decide +kernel⟩
    have hie : p.isEmpty = false := by simp [he]
    unfold refMajor pathS
    rw [hie]
    by_cases h1 : 255 < p.length
    · rw [if_pos h1, decide_eq_false (by omega)]
      simp
    rw [if_neg h1, decide_eq_true (show p.length ≤ 255 by omega)]
    cases hr : (splitC 47 p).all relemB
    · rw [if_pos rfl]
      rw [hr] at hrel
      simp only [Bool.not_false, Bool.true_and]
      rw [← hrel]
      simp
    · rw [if_neg (by simp)]
      rw [hr] at hrel
      simp only [Bool.not_false, Bool.true_and]
      rw [← hrel]
      cases hh : hostB ((splitC 47 p).headD [])
      · rw [if_pos rfl]
        simp
      · rw [if_neg (by simp)]
        simp only [Bool.true_and]
        by_cases hg : (splitC 47 p).headD [] = gopkg
        · obtain ⟨g1, g2⟩ := m1 hg
          rw [if_pos hg, hS, g1]
          refine ⟨g2, fun hk => ?_⟩
          have hk : hokB _ = true := hk
          show hostedS _ = _
          rw [hosted_eq, hk]
          rfl
        · rw [if_neg hg, hS, m2 hg]
          split
          · exact ⟨rfl, fun _ => rfl⟩
          · exact ⟨rfl, fun _ => rfl⟩
  obtain ⟨k1, k2⟩ := key
  cases hp : pathS p
  · rw [if_neg (by simp), ← hp, ← k1]
  · rw [if_pos rfl, ← k2 hp, ← hp, ← k1]
end Go.Proofs.YtnimaenhijlcmaaGreatDoor.Mb
