/- What the law of majors says, all of it. No program and no memory here. -/
import Derived.Test.YtnimaenhijlcmaaDoorMLaw
namespace Go.Proofs.YtnimaenhijlcmaaDoor.Mb
set_option linter.unusedVariables false
set_option linter.unusedSimpArgs false

def v200 : L := [118, 50, 46, 48, 46, 48]
def v300 : L := [118, 51, 46, 48, 46, 48]
def v200i : L := v200 ++ incompat
def v910i : L := [118, 57, 46, 49, 46, 48, 45, 97] ++ incompat
def v234x : L := [118, 50, 46, 51, 46, 52, 45, 120]
def sl2 : L := [47, 118, 50]
def slx : L := [47, 118, 120]
/-- The endings that make it no path. -/
def twelve : List L := [[47], [47, 118, 48], [47, 118, 49], [47, 118, 48, 50], [47, 118, 50, 46, 48], [47, 47, 98], [47, 46, 98], [47, 98, 46], [47, 97, 32, 98], [47, 99, 111, 110], [47, 78, 117, 108, 46, 120], [47, 120, 126, 49]]
theorem bad_split {p r : L} (h : (splitC 47 r).all elemB = false) : pathS (p ++ 47 :: r) = false := by
  refine path_more_not (.inl ?_)
  rw [splitC_app, List.all_append, h]
  simp
theorem twelve_bad {p : L} (h1 : takesS p one0) (h0 : takesS p zero0) : ∀ s ∈ twelve, pathS (p ++ s) = false := by
  intro s hs
  unfold twelve at hs
  simp only [List.mem_cons, List.not_mem_nil, or_false] at hs
  rcases hs with rfl | rfl | rfl | rfl | rfl | rfl | rfl | rfl | rfl | rfl | rfl | rfl
  · exact bad_split (r := []) (by decide +kernel)
  · exact major_bad (e := [118, 48]) h1 h0 (by decide) (.inr (.inr ⟨by decide, by decide⟩))
  · exact major_bad (e := [118, 49]) h1 h0 (by decide) (.inr (.inr ⟨by decide, by decide⟩))
  · exact major_bad (e := [118, 48, 50]) h1 h0 (by decide) (.inr (.inr ⟨by decide, by decide⟩))
  · exact major_bad (e := [118, 50, 46, 48]) h1 h0 (by decide) (.inr (.inr ⟨by decide, by decide⟩))
  · exact bad_split (r := [47, 98]) (by decide +kernel)
  · exact bad_split (r := [46, 98]) (by decide +kernel)
  · exact bad_split (r := [98, 46]) (by decide +kernel)
  · exact major_bad (e := [97, 32, 98]) h1 h0 (by decide) (.inr (.inl (by decide)))
  · exact bad_split (r := [99, 111, 110]) (by decide +kernel)
  · exact bad_split (r := [78, 117, 108, 46, 120]) (by decide +kernel)
  · exact bad_split (r := [120, 126, 49]) (by decide +kernel)
theorem takes_two {p v : L} {x : Ver} (hp : pathS p = true) (hm : (majorS p).1 = [50]) (hv : parseV v = some x) : checkS p v = 0 ↔ x.odd = false ∧ x.a = [50] := by
  have e : checkS p v = if fitsV x p then 0 else 111 := by unfold checkS; rw [if_neg (by rw [hp]; simp), hv]
  rw [e, fits_some (by rw [hm]; simp), hm]
  constructor
  · intro h
    split at h
    · rename_i hc
      simpa using hc
    · cases h
  · rintro ⟨h1, h2⟩
    rw [if_pos (by simp [h1, h2])]
structure MajF (p : L) : Prop where
  a : checkS p v200 ≠ 0
  b : checkS p v200i = 0
  c : checkS p v910i = 0
  d : checkS (p ++ sl2) v200 = 0
  e : checkS (p ++ sl2) v234x = 0
  f : checkS (p ++ sl2) one0 ≠ 0
  g : checkS (p ++ sl2) v300 ≠ 0
  h : checkS (p ++ sl2) v200i ≠ 0
  i : ∀ s ∈ twelve, pathS (p ++ s) = false
  j : pathS (47 :: p) = false
  k : pathS (p ++ slx) = true
theorem maj_facts {p : L} (h1 : takesS p one0) (h0 : takesS p zero0) (hl : p.length ≤ 250) : MajF p := by
  obtain ⟨hp, hm⟩ := no_major h1 h0
  obtain ⟨p2, m2⟩ := majors_two h1 h0 hl
  have e1 : parseV v200 = some ⟨[50], [48], [48], [], false⟩ := by decide +kernel
  have e2 : parseV v200i = some ⟨[50], [48], [48], [], true⟩ := by decide +kernel
  have e3 : parseV v910i = some ⟨[57], [49], [48], [[97]], true⟩ := by decide +kernel
  have e4 : parseV v234x = some ⟨[50], [51], [52], [[120]], false⟩ := by decide +kernel
  have e5 : parseV one0 = some ⟨[49], [48], [48], [], false⟩ := by decide +kernel
  have e6 : parseV v300 = some ⟨[51], [48], [48], [], false⟩ := by decide +kernel
  refine ⟨take_none_not hm e1 ⟨rfl, by decide, by decide⟩, take_none hp hm e2 (.inl rfl), take_none hp hm e3 (.inl rfl), (takes_two p2 m2 e1).2 ⟨rfl, rfl⟩, (takes_two p2 m2 e4).2 ⟨rfl, rfl⟩, ?_, ?_, ?_, twelve_bad h1 h0, slash_front p, majors_x h1 h0 hl⟩
  · intro h; exact absurd ((takes_two p2 m2 e5).1 h).2 (by decide)
  · intro h; exact absurd ((takes_two p2 m2 e6).1 h).2 (by decide)
  · intro h; exact absurd ((takes_two p2 m2 e2).1 h).1 (by decide)
end Go.Proofs.YtnimaenhijlcmaaDoor.Mb
