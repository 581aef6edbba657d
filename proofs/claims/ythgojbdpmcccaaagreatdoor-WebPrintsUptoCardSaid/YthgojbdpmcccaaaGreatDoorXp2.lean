/- Joined texts of mine, 2: QH, Kt, Xa, Wg, We, Wi, Wj, Wm, Xb, Xc, Xd, Xe, Ip, Iq. -/
import Derived.Deep.MidRow
import Derived.Scope
import Derived.Lib.SlBytesConst
import Derived.Shelf.Strings.SlTrimAscii
import Derived.Laws.Tables
import Derived.Test.YthgojbdpmcccaaaGreatDoorXp1
section
namespace Go.Proofs.YthgojbdpmcccaaaGreatDoor.Q
open Go.RowKit Go.Proofs.YthgojbdpmcccaaaGreatDoorW.PrintWords Go.Proofs.YthgojbdpmcccaaaGreatDoorW.PrintLast
set_option linter.unusedVariables false
set_option linter.unusedSimpArgs false
structure RowD where
  v : Value
  e : TypeId
  sz : Nat
  n : Nat
  cs : List Value
abbrev Ent := Nat × TypeId × List Value
structure Hp (w0 w : World) (l : List Ent) (r : List RowD) : Prop where
  B : Below w0.heap.size w0 w
  blk : ∀ (i : Nat) (p : Ent), l[i]? = some p → w0.heap.size ≤ p.1 ∧ w.heap[p.1]? = some (.cells p.2.2.toArray p.2.1 (0, 0))
  row : ∀ (i : Nat) (d : RowD), r[i]? = some d → w.ownsRow w0.heap.size d.e d.sz d.v d.n d.cs
  ndl : ∀ (i j : Nat) (p q : Ent), l[i]? = some p → l[j]? = some q → i ≠ j → p.1 ≠ q.1
  ndr : ∀ (i j : Nat) (d e : RowD), r[i]? = some d → r[j]? = some e → i ≠ j → ∀ b, d.v.ownBlock = some b → e.v.ownBlock ≠ some b
  ndm : ∀ (i j : Nat) (p : Ent) (d : RowD), l[i]? = some p → r[j]? = some d → d.v.ownBlock ≠ some p.1
section
variable {w0 w w' : World} {l l' : List Ent} {r r' : List RowD}
theorem Hp.nil (w : World) : Hp w w [] [] := ⟨Below.refl _ w, by simp, by simp, by simp, by simp, by simp⟩
theorem Hp.lt (H : Hp w0 w l r) {i : Nat} {p : Ent} (h : l[i]? = some p) : p.1 < w.heap.size := blk_lt (H.blk i p h).2
theorem Hp.rlt (H : Hp w0 w l r) {i : Nat} {d : RowD} (h : r[i]? = some d) {b : Nat} (hb : d.v.ownBlock = some b) : b < w.heap.size := own_lt (H.row i d h) b hb
theorem Hp.call (H : Hp w0 w l r) (hb : Below w.heap.size w w') : Hp w0 w' l r :=
  ⟨below_then H.B H.B.size hb, fun i p h => ⟨(H.blk i p h).1, blk_below (H.blk i p h).2 hb⟩, fun i d h => pw_own_below (H.row i d h) hb, H.ndl, H.ndr, H.ndm⟩
theorem Hp.drew (H : Hp w0 w l r) : Hp w0 w.drew l r := H.call (below_drew (Below.refl _ w))
theorem Hp.get (H : Hp w0 w l r) (k : Nat) {g : Nat} {t : TypeId} {cs : List Value} (hk : l[k]? = some (g, t, cs)) : w.heap[g]? = some (.cells cs.toArray t (0, 0)) := (H.blk k _ hk).2
theorem Hp.cellAt (H : Hp w0 w l r) (k : Nat) {g i : Nat} {t : TypeId} {cs : List Value} {v : Value} (hk : l[k]? = some (g, t, cs)) (hi : cs[i]? = some v) : w.cell? ⟨g, i, none⟩ = some v := by
  rw [blk_cell (H.get k hk) i]
  simpa using hi
theorem Hp.old (H : Hp w0 w l r) {a : Addr} {v : Value} (hc : w0.cell? a = some v) : w.cell? a = some v := pw_cell_below H.B hc
theorem Hp.push (H : Hp w0 w l r) (t : TypeId) (cs : List Value) : Hp w0 (w.alloc (.cells cs.toArray t)) ((w.heap.size, t, cs) :: l) r := by
  have K := below_alloc (Below.refl w.heap.size w) (.cells cs.toArray t)
  have H1 := H.call K
  refine ⟨H1.B, fun i p h => ?_, H1.row, fun i j p q h1 h2 hne => ?_, H1.ndr, fun i j p d h1 h2 => ?_⟩
  · cases i with
    | zero => simp only [List.getElem?_cons_zero, Option.some.injEq] at h; subst h; exact ⟨H.B.size, blk_new w _⟩
    | succ i => simp only [List.getElem?_cons_succ] at h; exact H1.blk i p h
  · cases i with
    | zero =>
      cases j with
      | zero => exact absurd rfl hne
      | succ j =>
        simp only [List.getElem?_cons_zero, List.getElem?_cons_succ, Option.some.injEq] at h1 h2
        subst h1
        have := H.lt h2
        show w.heap.size ≠ q.1
        omega
    | succ i =>
      cases j with
      | zero =>
        simp only [List.getElem?_cons_zero, List.getElem?_cons_succ, Option.some.injEq] at h1 h2
        subst h2
        have := H.lt h1
        show p.1 ≠ w.heap.size
        omega
      | succ j =>
        simp only [List.getElem?_cons_succ] at h1 h2
        exact H.ndl i j p q h1 h2 (by omega)
  · cases i with
    | zero =>
      simp only [List.getElem?_cons_zero, Option.some.injEq] at h1
      subst h1
      intro hb
      exact absurd (H.rlt h2 hb) (Nat.lt_irrefl _)
    | succ i => simp only [List.getElem?_cons_succ] at h1; exact H.ndm i j p d h1 h2
theorem Hp.upd (H : Hp w0 w l r) (k : Nat) {g : Nat} {t : TypeId} {cs : List Value} (hk : l[k]? = some (g, t, cs)) {cs' : List Value} (hg : w.grownBy w' (some g)) (hc : w'.heap[g]? = some (.cells cs'.toArray t (0, 0))) : Hp w0 w' (l.set k (g, t, cs')) r := by
  have hb := (H.blk k _ hk).1
  have hkl : k < l.length := (List.getElem?_eq_some_iff.1 hk).1
  have key : ∀ (i : Nat) (p : Ent), (l.set k (g, t, cs'))[i]? = some p → (i = k ∧ p = (g, t, cs')) ∨ (i ≠ k ∧ l[i]? = some p) := by
    intro i p h
    rw [List.getElem?_set] at h
    by_cases e : k = i
    · subst e
      simp only [if_true, hkl, Option.some.injEq] at h
      exact .inl ⟨rfl, h.symm⟩
    · rw [if_neg e] at h
      exact .inr ⟨fun e' => e e'.symm, h⟩
  refine ⟨H.B.grown hg H.B.size (fun b e => by cases e; exact hb), fun i p h => ?_, fun i d h => ?_, fun i j p q h1 h2 hne => ?_, H.ndr, fun i j p d h1 h2 => ?_⟩
  · rcases key i p h with ⟨_, rfl⟩ | ⟨hne, h⟩
    · exact ⟨hb, hc⟩
    · exact ⟨(H.blk i p h).1, blk_grown (H.blk i p h).2 hg (fun e => H.ndl i k p _ h hk hne (Option.some.inj e))⟩
  · refine own_other (H.row i d h) hg ?_
    cases e : d.v.ownBlock with
    | none => exact .inl rfl
    | some b => exact .inr (fun e2 => H.ndm k i _ d hk h (by rw [e, e2]))
  · rcases key i p h1 with ⟨e1, ep⟩ | ⟨n1, g1⟩ <;> rcases key j q h2 with ⟨e2, eq⟩ | ⟨n2, g2⟩
    · exact absurd (e1.trans e2.symm) hne
    · rw [ep]; exact H.ndl k j (g, t, cs) q hk g2 (fun e => n2 e.symm)
    · rw [eq]; exact H.ndl i k p (g, t, cs) g1 hk n1
    · exact H.ndl i j p q g1 g2 hne
  · rcases key i p h1 with ⟨_, ep⟩ | ⟨_, g1⟩
    · rw [ep]; exact H.ndm k j (g, t, cs) d hk h2
    · exact H.ndm i j p d g1 h2
theorem Hp.put (H : Hp w0 w l r) (k : Nat) {d d' : RowD} (hk : r[k]? = some d) (hg : w.grownBy w' d.v.ownBlock) (ho : w'.ownsRow w0.heap.size d'.e d'.sz d'.v d'.n d'.cs)
    (hat : d'.v.ownBlock = d.v.ownBlock ∨ ∃ b, d'.v.ownBlock = some b ∧ w.heap.size ≤ b) : Hp w0 w' l (r.set k d') := by
  have hkl : k < r.length := (List.getElem?_eq_some_iff.1 hk).1
  have key : ∀ (i : Nat) (p : RowD), (r.set k d')[i]? = some p → (i = k ∧ p = d') ∨ (i ≠ k ∧ r[i]? = some p) := by
    intro i p h
    rw [List.getElem?_set] at h
    by_cases e : k = i
    · subst e
      simp only [if_true, hkl, Option.some.injEq] at h
      exact .inl ⟨rfl, h.symm⟩
    · rw [if_neg e] at h
      exact .inr ⟨fun e' => e e'.symm, h⟩
  refine ⟨H.B.grown hg H.B.size (fun b e => own_base (H.row k d hk) b e), fun i p h => ⟨(H.blk i p h).1, blk_grown (H.blk i p h).2 hg (fun e => H.ndm i k p d h hk e.symm)⟩, fun i e h => ?_, H.ndl, fun i j p q h1 h2 hne b hb => ?_, fun i j p q h1 h2 => ?_⟩
  · rcases key i e h with ⟨_, rfl⟩ | ⟨hne, h⟩
    · exact ho
    · refine own_other (H.row i e h) hg ?_
      cases e1 : e.v.ownBlock with
      | none => exact .inl rfl
      | some b => exact .inr (fun e2 => H.ndr i k e d h hk hne b e1 e2.symm)
  · rcases key i p h1 with ⟨e1, ep⟩ | ⟨n1, g1⟩ <;> rcases key j q h2 with ⟨e2, eq⟩ | ⟨n2, g2⟩
    · exact absurd (e1.trans e2.symm) hne
    · rw [ep] at hb
      rcases hat with hat | ⟨b', hat, hlt⟩
      · exact H.ndr k j d q hk g2 (fun e => n2 e.symm) b (hat.symm.trans hb)
      · intro hq
        have := H.rlt g2 hq
        rw [hat] at hb
        cases hb
        omega
    · rw [eq]
      rcases hat with hat | ⟨b', hat, hlt⟩
      · rw [hat]; exact H.ndr i k p d g1 hk n1 b hb
      · rw [hat]
        intro hq
        have := H.rlt g1 hb
        cases hq
        omega
    · exact H.ndr i j p q g1 g2 hne b hb
  · rcases key j q h2 with ⟨_, eq⟩ | ⟨_, g2⟩
    · rw [eq]
      rcases hat with hat | ⟨b', hat, hlt⟩
      · rw [hat]; exact H.ndm i k p d h1 hk
      · rw [hat]
        intro hq
        have := H.lt h1
        cases hq
        omega
    · exact H.ndm i j p q h1 g2
theorem Hp.nilRow (H : Hp w0 w l r) (e : TypeId) (sz : Nat) : Hp w0 w l (⟨.slice none 0 0, e, sz, 0, []⟩ :: r) := by
  refine ⟨H.B, H.blk, fun i d h => ?_, H.ndl, fun i j p q h1 h2 hne b hb => ?_, fun i j p q h1 h2 => ?_⟩
  · cases i with
    | zero => simp only [List.getElem?_cons_zero, Option.some.injEq] at h; subst h; exact own_nil _ _ _ _
    | succ i => simp only [List.getElem?_cons_succ] at h; exact H.row i d h
  · cases i with
    | zero => simp only [List.getElem?_cons_zero, Option.some.injEq] at h1; subst h1; simp [Value.ownBlock] at hb
    | succ i =>
      cases j with
      | zero => simp only [List.getElem?_cons_zero, Option.some.injEq] at h2; subst h2; simp [Value.ownBlock]
      | succ j => simp only [List.getElem?_cons_succ] at h1 h2; exact H.ndr i j p q h1 h2 (by omega) b hb
  · cases j with
    | zero => simp only [List.getElem?_cons_zero, Option.some.injEq] at h2; subst h2; simp [Value.ownBlock]
    | succ j => simp only [List.getElem?_cons_succ] at h2; exact H.ndm i j p q h1 h2
theorem own_lower {w : World} {b b' : Nat} {e : TypeId} {sz n : Nat} {v : Value} {xs : List Value} (h : w.ownsRow b e sz v n xs) (hb : b' ≤ b) : w.ownsRow b' e sz v n xs := by
  refine ⟨h.1, ?_⟩
  rcases h.2 with h2 | ⟨g, cap, cur, h1, h2, h3⟩
  · exact .inl h2
  · exact .inr ⟨g, cap, cur, h1, Nat.le_trans hb h2, h3⟩
theorem Hp.join (H : Hp w0 w l r) (K : Hp w w' l' r') : Hp w0 w' (l' ++ l) (r' ++ r) := by
  have H1 := H.call K.B
  have nl : ∀ {i : Nat} {p : Ent}, l'[i]? = some p → w.heap.size ≤ p.1 := fun h => (K.blk _ _ h).1
  have nr : ∀ {i : Nat} {d : RowD}, r'[i]? = some d → ∀ b, d.v.ownBlock = some b → w.heap.size ≤ b := fun h b hb => own_base (K.row _ _ h) b hb
  have kl : ∀ (i : Nat) (p : Ent), (l' ++ l)[i]? = some p → (i < l'.length ∧ l'[i]? = some p) ∨ (l'.length ≤ i ∧ l[i - l'.length]? = some p) := by
    intro i p h
    rcases Nat.lt_or_ge i l'.length with h1 | h1
    · rw [List.getElem?_append_left h1] at h; exact .inl ⟨h1, h⟩
    · rw [List.getElem?_append_right h1] at h; exact .inr ⟨h1, h⟩
  have kr : ∀ (i : Nat) (p : RowD), (r' ++ r)[i]? = some p → (i < r'.length ∧ r'[i]? = some p) ∨ (r'.length ≤ i ∧ r[i - r'.length]? = some p) := by
    intro i p h
    rcases Nat.lt_or_ge i r'.length with h1 | h1
    · rw [List.getElem?_append_left h1] at h; exact .inl ⟨h1, h⟩
    · rw [List.getElem?_append_right h1] at h; exact .inr ⟨h1, h⟩
  refine ⟨H1.B, fun i p h => ?_, fun i d h => ?_, fun i j p q h1 h2 hne => ?_, fun i j p q h1 h2 hne b hb => ?_, fun i j p q h1 h2 => ?_⟩
  · rcases kl i p h with ⟨_, h⟩ | ⟨_, h⟩
    · exact ⟨Nat.le_trans H.B.size (nl h), (K.blk i p h).2⟩
    · exact H1.blk _ p h
  · rcases kr i d h with ⟨_, h⟩ | ⟨_, h⟩
    · exact own_lower (K.row i d h) H.B.size
    · exact H1.row _ d h
  · rcases kl i p h1 with ⟨a1, h1⟩ | ⟨a1, h1⟩ <;> rcases kl j q h2 with ⟨a2, h2⟩ | ⟨a2, h2⟩
    · exact K.ndl i j p q h1 h2 hne
    · have := nl h1; have := H.lt h2; omega
    · have := nl h2; have := H.lt h1; omega
    · exact H.ndl _ _ p q h1 h2 (by omega)
  · rcases kr i p h1 with ⟨a1, h1⟩ | ⟨a1, h1⟩ <;> rcases kr j q h2 with ⟨a2, h2⟩ | ⟨a2, h2⟩
    · exact K.ndr i j p q h1 h2 hne b hb
    · intro hq; have := nr h1 b hb; have := H.rlt h2 hq; omega
    · intro hq; have := nr h2 b hq; have := H.rlt h1 hb; omega
    · exact H.ndr _ _ p q h1 h2 (by omega) b hb
  · rcases kl i p h1 with ⟨a1, h1⟩ | ⟨a1, h1⟩ <;> rcases kr j q h2 with ⟨a2, h2⟩ | ⟨a2, h2⟩
    · exact K.ndm i j p q h1 h2
    · intro hq; have := nl h1; have := H.rlt h2 hq; omega
    · intro hq; have := nr h2 _ hq; have := H.lt h1; omega
    · exact H.ndm _ _ p q h1 h2
theorem Hp.sel (H : Hp w0 w l r) (ks ms : List Nat) (hk : ks.Nodup) (hm : ms.Nodup) (hl : ks.map (l[·]?) = l'.map some) (hr : ms.map (r[·]?) = r'.map some) : Hp w0 w l' r' := by
  have key : ∀ {α : Type} {ks : List Nat} {l l' : List α}, ks.map (l[·]?) = l'.map some → ∀ (i : Nat) (p : α), l'[i]? = some p → ∃ k, ks[i]? = some k ∧ l[k]? = some p := by
    intro α ks l l' h i p hp
    have h1 := congrArg (fun z => z[i]?) h
    simp only [List.getElem?_map, hp, Option.map_some] at h1
    cases hq : ks[i]? with
    | none => rw [hq] at h1; simp at h1
    | some k => rw [hq] at h1; exact ⟨k, rfl, by simpa using h1⟩
  have nd : ∀ {ks : List Nat}, ks.Nodup → ∀ {i j a b : Nat}, ks[i]? = some a → ks[j]? = some b → i ≠ j → a ≠ b := by
    intro ks hn i j a b ha hb hne e
    subst e
    exact hne ((List.getElem?_inj (List.getElem?_eq_some_iff.1 ha).1 hn).1 (ha.trans hb.symm))
  refine ⟨H.B, fun i p h => ?_, fun i d h => ?_, fun i j p q h1 h2 hne => ?_, fun i j p q h1 h2 hne => ?_, fun i j p q h1 h2 => ?_⟩
  · obtain ⟨k, _, h⟩ := key hl i p h; exact H.blk k p h
  · obtain ⟨k, _, h⟩ := key hr i d h; exact H.row k d h
  · obtain ⟨a, ha, h1⟩ := key hl i p h1
    obtain ⟨b, hb, h2⟩ := key hl j q h2
    exact H.ndl a b p q h1 h2 (nd hk ha hb hne)
  · obtain ⟨a, ha, h1⟩ := key hr i p h1
    obtain ⟨b, hb, h2⟩ := key hr j q h2
    exact H.ndr a b p q h1 h2 (nd hm ha hb hne)
  · obtain ⟨a, ha, h1⟩ := key hl i p h1
    obtain ⟨b, hb, h2⟩ := key hr j q h2
    exact H.ndm a b p q h1 h2
theorem Hp.ofOwn {e : TypeId} {sz n : Nat} {v : Value} {xs : List Value} (h : w'.ownsRow w.heap.size e sz v n xs) (hb : Below w.heap.size w w') : Hp w w' [] [⟨v, e, sz, n, xs⟩] := by
  refine ⟨hb, by simp, fun i d hi => ?_, by simp, fun i j p q h1 h2 hne => ?_, by simp⟩
  · cases i with
    | zero => simp only [List.getElem?_cons_zero, Option.some.injEq] at hi; subst hi; exact h
    | succ i => simp at hi
  · cases i with
    | zero => cases j with | zero => exact absurd rfl hne | succ j => simp at h2
    | succ i => simp at h1
end
def Rd (w : World) (A : Option Addr) (cs : List Value) : Prop := (A = none → cs = []) ∧ ∀ ad, A = some ad → ∀ i v, cs[i]? = some v → w.cell? (ad.add i) = some v
theorem Rd.below {w w' : World} {A : Option Addr} {cs : List Value} (h : Rd w A cs) (hb : Below w.heap.size w w') : Rd w' A cs := ⟨h.1, fun ad e i v hv => pw_cell_below hb (h.2 ad e i v hv)⟩
theorem own_rd {w : World} {base : Nat} {e : TypeId} {sz n : Nat} {v : Value} {xs : List Value} (h : w.ownsRow base e sz v n xs) : ∃ A c, v = .slice A n c ∧ n ≤ c ∧ Rd w A xs ∧ (A = none → c = 0 ∧ n = 0) := by
  obtain ⟨hlen, h2⟩ := h
  have h : w.ownsRow base e sz v n xs := ⟨hlen, h2⟩
  rcases h2 with ⟨rfl, rfl⟩ | ⟨g, cap, cur, rfl, hb, hg, hn, _⟩
  · refine ⟨none, 0, rfl, Nat.le_refl _, ⟨fun _ => List.eq_nil_of_length_eq_zero (by rw [hlen]; simp), fun ad e => (by cases e)⟩, fun _ => And.intro rfl rfl⟩
  · refine ⟨_, cap, rfl, hn, ⟨fun e => (by cases e), fun ad e i v hv => ?_⟩, fun e => (by cases e)⟩
    cases e
    exact h.cells (g := g) rfl i v hv
theorem Hp.rd {w0 w : World} {l : List Ent} {r : List RowD} (H : Hp w0 w l r) (k : Nat) {d : RowD} (hk : r[k]? = some d) : ∃ A c, d.v = .slice A d.n c ∧ d.n ≤ c ∧ Rd w A d.cs ∧ (A = none → c = 0 ∧ d.n = 0) := own_rd (H.row k d hk)
def nfL {α β : Type} : List α → (List α → Option β) → Option β
  | [], k => k []
  | x :: xs, k => nfL xs fun l => k (x :: l)
theorem nfL_eq {α β : Type} : ∀ (l : List α) (k : List α → Option β), nfL l k = k l
  | [], _ => rfl
  | x :: xs, k => by rw [nfL, nfL_eq xs]
theorem nfL_some {α : Type} {l m : List α} (h : nfL l some = some m) : m = l := by
  rw [nfL_eq] at h
  exact (Option.some.inj h).symm
def nfO {α β : Type} : List (Option α) → (List α → Option β) → Option β
  | [], k => k []
  | some x :: xs, k => nfO xs fun l => k (x :: l)
  | none :: _, _ => none
theorem nfO_eq {α β : Type} : ∀ (l : List (Option α)) (k : List α → Option β) (z : β), nfO l k = some z → ∃ m, l = m.map some ∧ k m = some z
  | [], k, z, h => ⟨[], rfl, h⟩
  | some x :: xs, k, z, h => by
    obtain ⟨m, h1, h2⟩ := nfO_eq xs _ z h
    exact ⟨x :: m, by rw [h1]; rfl, h2⟩
  | none :: _, k, z, h => by cases h
theorem nfO_some {α : Type} {l : List (Option α)} {m : List α} (h : nfO l some = some m) : l = m.map some := by
  obtain ⟨m', h1, h2⟩ := nfO_eq l some m h
  cases h2
  exact h1
theorem Hp.pick {w0 w : World} {l l' : List Ent} {r r' : List RowD} (H : Hp w0 w l r) (ks ms : List Nat) (hk : ks.Nodup) (hm : ms.Nodup) (hl : nfO (ks.map (l[·]?)) some = some l') (hr : nfO (ms.map (r[·]?)) some = some r') : Hp w0 w l' r' :=
  H.sel ks ms hk hm (nfO_some hl) (nfO_some hr)
def RecOk (P : Program) (t : TypeId) (zs : List Value) : Prop := (∃ d, P.underlying t = some d ∧ d.isRow = true) ∧ (P.info? t).map (fun i => (i.zero.map Value.cells, i.size)) = some (some zs.toArray, zs.length)
abbrev Recs (P : Program) (rt : Nat → Option (List Value)) : Prop := ∀ t zs, rt t = some zs → RecOk P t zs
def fldB (P : Program) (t k : Nat) : Option Nat := match P.underlying t with
  | some (.struct fs) => match fs[k]? with
    | some fd => match P.info? fd.type with
      | some i => bif Nat.beq i.size 0 then none else some fd.offset
      | none => none
    | none => none
  | _ => none
abbrev Flds (P : Program) (fo : Nat → Nat → Option Nat) : Prop := ∀ t k o, fo t k = some o → fldB P t k = some o
abbrev Ones (P : Program) (ty : Nat → Option Ty) : Prop := ∀ t k, ty t = some k → (P.info? t).map (·.size) = some 1
def evF (n : Nat) (f : Fr) (fo : Nat → Nat → Option Nat) : Op → Option Value
  | .fieldAddr s x k => match fo s k, X n f x with
    | some o, .pointer (some ⟨b, i, none⟩) => some (.pointer (some ⟨b, i + o, none⟩))
    | _, _ => none
  | _ => none
def evG (n : Nat) (f : Fr) (fo : Nat → Nat → Option Nat) : Op → Option Value
  | .fieldAddr s x k => match fo s k, X n f x with
    | some o, .pointer (some a) => some (.pointer (some (a.add o)))
    | _, _ => none
  | _ => none
def evOps (n : Nat) (f : Fr) : List (Nat × Operand) → List (Nat × Value)
  | [] => []
  | (i, x) :: r => (i, X n f x) :: evOps n f r
def evBld (n : Nat) (f : Fr) : Op → Option (TypeId × List (Nat × Value))
  | .build t parts => some (t, evOps n f parts.toList)
  | _ => none
section
variable {P : Program} {ty : Nat → Option Ty} {rt : Nat → Option (List Value)} {fo : Nat → Nat → Option Nat} {n : Nat} {f : Fr} {w : World} {o : Oper}
theorem add_lit (b i j : Nat) : (⟨b, i, none⟩ : Addr).add j = ⟨b, i + j, none⟩ := by unfold Addr.add; split <;> simp_all
theorem fld_run {s k o : Nat} {a : Addr} (h : fldB P s k = some o) : (Instr.fieldAt s (.pointer (some a)) k).run P w = .ok (.pointer (some (a.add o))) w := by
  unfold fldB at h
  split at h
  · rename_i fs hs
    split at h
    · rename_i fd hf
      split at h
      · rename_i i hi
        by_cases hz : i.size = 0
        · simp [hz] at h
        · have : Nat.beq i.size 0 = false := by rw [Bool.eq_false_iff]; intro e; exact hz (Nat.eq_of_beq_eq_true e)
          simp only [this, cond_false, Option.some.injEq] at h
          subst h
          simp [Instr.fieldAt, Instr.sureAddr, fieldPlace, sizeOf, typeInfo, run_underlying hs, hf, hi, hz, go_sem]
      · cases h
    · cases h
  · cases h
theorem evF_run (hfo : Flds P fo) {v : Value} (h : evF n f fo o.op = some v) : (execOp (X n f) o).run P w = .ok (.value v) w := by
  unfold evF at h
  split at h
  · rename_i s x k ho
    split at h
    · rename_i off b i h1 h2
      simp only [Option.some.injEq] at h
      subst h
      have := fld_run (P := P) (w := w) (a := ⟨b, i, none⟩) (hfo _ _ _ h1)
      rw [add_lit] at this
      unfold execOp
      simp [ho, h2, this]
    · cases h
  · cases h
theorem evG_run (hfo : Flds P fo) {v : Value} (h : evG n f fo o.op = some v) : (execOp (X n f) o).run P w = .ok (.value v) w := by
  unfold evG at h
  split at h
  · rename_i s x k ho
    split at h
    · rename_i off a h1 h2
      simp only [Option.some.injEq] at h
      subst h
      have := fld_run (P := P) (w := w) (a := a) (hfo _ _ _ h1)
      unfold execOp
      simp [ho, h2, this]
    · cases h
  · cases h
theorem evOps_eq (n : Nat) (f : Fr) : ∀ l : List (Nat × Operand), evOps n f l = l.map fun (i, x) => (i, X n f x)
  | [] => rfl
  | (i, x) :: r => by rw [evOps, evOps_eq n f r]; rfl
theorem evBld_run {t : TypeId} {ps : List (Nat × Value)} {cs : Array Value} (h : evBld n f o.op = some (t, ps)) (hc : P.built t ps = some cs) : (execOp (X n f) o).run P w = .ok (.value (.agg cs)) w := by
  unfold evBld at h
  split at h
  · rename_i t1 parts ho
    simp only [Option.some.injEq, Prod.mk.injEq] at h
    obtain ⟨rfl, rfl⟩ := h
    have := run_build (P := P) w t1 (parts.map fun (i, x) => (i, X n f x)) cs (by rw [Array.toList_map, ← evOps_eq]; exact hc)
    unfold execOp
    simp [ho, this]
  · cases h
def evLR (n : Nat) (f : Fr) : Op → Option (TypeId × Nat × Nat)
  | .load t x => match X n f x with
    | .pointer (some ⟨g, i, none⟩) => some (t, g, i)
    | _ => none
  | _ => none
theorem evLR_run (hrt : Recs P rt) {t : TypeId} {g i : Nat} {cs zs : List Value} (h : evLR n f o.op = some (t, g, i)) (hz : rt t = some zs) (hc : w.rangeAt g i cs) (hs : cs.length = zs.length) : (execOp (X n f) o).run P w = .ok (.value (.agg cs.toArray)) w := by
  unfold evLR at h
  split at h
  · rename_i t1 x ho
    split at h
    · rename_i g1 i1 hx
      simp only [Option.some.injEq, Prod.mk.injEq] at h
      obtain ⟨rfl, rfl, rfl⟩ := h
      obtain ⟨⟨d, h1, h2⟩, h3⟩ := hrt _ _ hz
      have hsz : (P.info? t1).map (·.size) = some cs.length := by
        obtain ⟨i0, hi, h4⟩ := Option.map_eq_some_iff.1 h3
        simp only [Prod.mk.injEq] at h4
        rw [hi, hs, ← h4.2]; rfl
      have := run_loadAt_mid (P := P) w g1 i1 t1 cs d hc h1 h2 hsz
      unfold execOp
      simp [ho, hx, this]
    · cases h
  · cases h
def evLA (n : Nat) (f : Fr) : Op → Option (TypeId × Addr)
  | .load t x => match X n f x with
    | .pointer (some a) => some (t, a)
    | _ => none
  | _ => none
theorem evLA_run (hrt : Recs P rt) {t : TypeId} {a : Addr} {cs zs : List Value} (h : evLA n f o.op = some (t, a)) (hz : rt t = some zs) (hc : ∀ j v, cs[j]? = some v → w.cell? (a.add j) = some v) (hs : cs.length = zs.length) : (execOp (X n f) o).run P w = .ok (.value (.agg cs.toArray)) w := by
  unfold evLA at h
  split at h
  · rename_i t1 x ho
    split at h
    · rename_i a1 hx
      simp only [Option.some.injEq, Prod.mk.injEq] at h
      obtain ⟨rfl, rfl⟩ := h
      obtain ⟨⟨d, h1, h2⟩, h3⟩ := hrt _ _ hz
      obtain ⟨i0, hi, h4⟩ := Option.map_eq_some_iff.1 h3
      simp only [Prod.mk.injEq] at h4
      have hl : (loadCells a1 cs.length).run P w = .ok cs.toArray w := run_loadCells_list (P := P) w a1 cs hc
      have hagg : (isAgg t1).run P w = .ok true w := by
        unfold isAgg
        rw [Sem.run_bind, run_underlying h1 w]
        cases d <;> simp_all
      have hsz : i0.size = cs.length := by rw [hs, ← h4.2]
      unfold execOp
      simp [ho, hx, Instr.loadAt, Instr.sureAddr, loadVar, Sem.run_bind, hagg, sizeOf, typeInfo, hi, hsz, hl]
    · cases h
  · cases h
theorem Rd.part {ad : Addr} {cs : List Value} (h : Rd w (some ad) cs) (m : Nat) {vs : List Value} (hv : ∀ (j : Nat) (v : Value), vs[j]? = some v → cs[m + j]? = some v) : ∀ (j : Nat) (v : Value), vs[j]? = some v → w.cell? ((ad.add m).add j) = some v := by
  intro j v hj
  rw [add_add]
  exact h.2 ad rfl _ v (hv j v hj)
theorem Hp.range {w0 : World} {l : List Ent} {r : List RowD} (H : Hp w0 w l r) (k : Nat) {g : Nat} {t : TypeId} {cs : List Value} (hk : l[k]? = some (g, t, cs)) : w.rangeAt g 0 cs := by
  intro j v hv
  rw [Nat.zero_add]
  exact H.cellAt k hk hv
end
section
variable {P : Program} {ty : Nat → Option Ty} {rt : Nat → Option (List Value)} {fo : Nat → Nat → Option Nat} {n : Nat} {ops : Array Oper} {Q : Exit → Act → World → Prop} {rest : List Oper} {f : Fr} {w0 w : World} {l l' : List Ent} {r r' : List RowD} {d : Option Nat} {op : Op} {tt : TypeId} {ps : String} {af : Array Edge} {gd : Option (Nat × Bool)}
theorem h_valw {v : Value} {w' : World} (hw : want n ops f ⟨d, op, tt, ps, af, gd⟩ = true) (hv : (execOp (X n f) ⟨d, op, tt, ps, af, gd⟩).run P w = .ok (.value v) w') (h : WL P ops Q rest (act n (put f d v)) w') : WL P ops Q (⟨d, op, tt, ps, af, gd⟩ :: rest) (act n f) w := by
  refine ⟨?_⟩
  have h := h.out
  simp only [wpList, want_eq, hw, if_true]
  left
  unfold Oper.wp
  rw [eval_act, hv]
  simp only [Oper.upon, put_act]
  exact h
theorem h_skip {w' : World} (hw : want n ops f ⟨none, op, tt, ps, af, gd⟩ = true) (hv : (execOp (X n f) ⟨none, op, tt, ps, af, gd⟩).run P w = .ok .skip w') (h : WL P ops Q rest (act n f) w') : WL P ops Q (⟨none, op, tt, ps, af, gd⟩ :: rest) (act n f) w := by
  refine ⟨?_⟩
  have h := h.out
  simp only [wpList, want_eq, hw, if_true]
  left
  unfold Oper.wp
  rw [eval_act, hv]
  simp only [Oper.upon, put_act]
  exact h
theorem h_fa (hfo : Flds P fo) {v : Value} (hw : want n ops f ⟨d, op, tt, ps, af, gd⟩ = true) (he : evF n f fo op = some v) (h : WL P ops Q rest (act n (put f d v)) w) : WL P ops Q (⟨d, op, tt, ps, af, gd⟩ :: rest) (act n f) w :=
  l_val hw (evF_run (o := ⟨d, op, tt, ps, af, gd⟩) hfo he) h
theorem h_fg (hfo : Flds P fo) {v : Value} (hw : want n ops f ⟨d, op, tt, ps, af, gd⟩ = true) (he : evG n f fo op = some v) (h : WL P ops Q rest (act n (put f d v)) w) : WL P ops Q (⟨d, op, tt, ps, af, gd⟩ :: rest) (act n f) w :=
  l_val hw (evG_run (o := ⟨d, op, tt, ps, af, gd⟩) hfo he) h
theorem h_bld {t : TypeId} {qs : List (Nat × Value)} {cs : Array Value} (hw : want n ops f ⟨d, op, tt, ps, af, gd⟩ = true) (he : evBld n f op = some (t, qs)) (hc : P.built t qs = some cs) (h : WL P ops Q rest (act n (put f d (.agg cs))) w) : WL P ops Q (⟨d, op, tt, ps, af, gd⟩ :: rest) (act n f) w :=
  l_val hw (evBld_run (o := ⟨d, op, tt, ps, af, gd⟩) he hc) h
theorem h_alloc (hrt : Recs P rt) (H : Hp w0 w l r) {t : TypeId} {zs : List Value} (hw : want n ops f ⟨d, .alloc t, tt, ps, af, gd⟩ = true) (hz : rt t = some zs)
    (h : ∀ g w', Hp w0 w' ((g, t, zs) :: l) r → WL P ops Q rest (act n (put f d (.pointer (some ⟨g, 0, none⟩)))) w') : WL P ops Q (⟨d, .alloc t, tt, ps, af, gd⟩ :: rest) (act n f) w := by
  refine h_valw hw ?_ (h w.heap.size _ (H.push t zs))
  obtain ⟨_, h3⟩ := hrt _ _ hz
  obtain ⟨i0, hi, h4⟩ := Option.map_eq_some_iff.1 h3
  simp only [Prod.mk.injEq] at h4
  obtain ⟨z, hz0, hzc⟩ := Option.map_eq_some_iff.1 h4.1
  unfold execOp
  have hn : (Instr.alloc t true (.tuple #[])).run P w = .ok (.pointer (some ⟨w.heap.size, 0, none⟩)) (w.alloc (.cells z.cells t)) := by
    simp [Instr.alloc, zeroValue, typeInfo, hi, hz0, newVar, newRow, go_sem]
  rw [hzc] at hn
  simp [hn]
theorem h_box (H : Hp w0 w l r) {t : TypeId} {x : Operand} {v : Value} {cs : List Value} (hw : want n ops f ⟨d, .box t x, tt, ps, af, gd⟩ = true) (hx : nf (X n f x) = some v) (hc : nfL v.cells.toList some = some cs)
    (h : ∀ g w', Hp w0 w' ((g, t, cs) :: l) r → WL P ops Q rest (act n (put f d (.pointer (some ⟨g, 0, none⟩)))) w') : WL P ops Q (⟨d, .box t x, tt, ps, af, gd⟩ :: rest) (act n f) w := by
  have e := nf_eq hx
  have e2 := nfL_some hc
  subst e2
  have H1 := H.push t v.cells.toList
  refine h_valw hw ?_ (h w.heap.size _ H1)
  unfold execOp
  simp [Instr.box, newVar, newRow, e, go_sem]
theorem h_ld (hty : Tys P ty) (H : Hp w0 w l r) (k : Nat) {g i : Nat} {t : TypeId} {cs : List Value} {v : Value} (hw : want n ops f ⟨d, op, tt, ps, af, gd⟩ = true) (he : evL n f ty op = some ⟨g, i, none⟩) (hk : l[k]? = some (g, t, cs)) (hi : cs[i]? = some v)
    (h : WL P ops Q rest (act n (put f d v)) w) : WL P ops Q (⟨d, op, tt, ps, af, gd⟩ :: rest) (act n f) w :=
  l_val hw (evL_run (o := ⟨d, op, tt, ps, af, gd⟩) hty he (H.cellAt k hk hi)) h
theorem h_ldR (hrt : Recs P rt) (H : Hp w0 w l r) (k : Nat) {g : Nat} {t t2 : TypeId} {cs zs : List Value} (hw : want n ops f ⟨d, op, tt, ps, af, gd⟩ = true) (he : evLR n f op = some (t, g, 0)) (hz : rt t = some zs) (hk : l[k]? = some (g, t2, cs)) (hs : cs.length = zs.length)
    (h : WL P ops Q rest (act n (put f d (.agg cs.toArray))) w) : WL P ops Q (⟨d, op, tt, ps, af, gd⟩ :: rest) (act n f) w :=
  l_val hw (evLR_run (o := ⟨d, op, tt, ps, af, gd⟩) hrt he hz (H.range k hk) hs) h
theorem h_ldA (hrt : Recs P rt) {t : TypeId} {a : Addr} {cs zs : List Value} (hc : ∀ (j : Nat) (v : Value), cs[j]? = some v → w.cell? (a.add j) = some v) (hw : want n ops f ⟨d, op, tt, ps, af, gd⟩ = true) (he : evLA n f op = some (t, a)) (hz : rt t = some zs) (hs : cs.length = zs.length)
    (h : WL P ops Q rest (act n (put f d (.agg cs.toArray))) w) : WL P ops Q (⟨d, op, tt, ps, af, gd⟩ :: rest) (act n f) w :=
  l_val hw (evLA_run (o := ⟨d, op, tt, ps, af, gd⟩) hrt he hz hc hs) h
def evSt (n : Nat) (f : Fr) : Op → Option (TypeId × Nat × Nat × Value)
  | .store t x y => match X n f x, nf (X n f y) with
    | .pointer (some ⟨g, i, none⟩), some v => some (t, g, i, v)
    | _, _ => none
  | _ => none
theorem grown_setCells {g : Nat} : ∀ (vs : List Value) (o : Nat) (w : World), w.grownBy (w.setCells g o vs) (some g)
  | [], _, w => World.grownBy.refl w _
  | v :: vs, o, w => by
    have h1 : w.grownBy (w.setCell ⟨g, o, none⟩ v) (some g) := ⟨rfl, rfl, rfl, by simp [World.setCell], fun k hk hne => Below.heap_setCell w _ v k (fun e => hne (by rw [e]))⟩
    exact World.grownBy.trans h1 (grown_setCells vs (o + 1) _)
theorem heap_setCells {g : Nat} {t : TypeId} {fr : Nat × Nat} : ∀ (vs : List Value) (o : Nat) (w : World) (cur : List Value), w.heap[g]? = some (.cells cur.toArray t (0, 0)) → o + vs.length ≤ cur.length → (w.setCells g o vs).heap[g]? = some (.cells (cur.take o ++ vs ++ cur.drop (o + vs.length)).toArray t (0, 0))
  | [], o, w, cur, h, _ => by simpa [World.setCells] using h
  | v :: vs, o, w, cur, h, hl => by
    have h1 : (w.setCell ⟨g, o, none⟩ v).heap[g]? = some (.cells (cur.set o v).toArray t (0, 0)) := by
      have := blk_set h o v
      rw [this]; simp
    have h2 := heap_setCells (fr := fr) vs (o + 1) _ (cur.set o v) h1 (by simp at hl ⊢; omega)
    show ((w.setCell ⟨g, o, none⟩ v).setCells g (o + 1) vs).heap[g]? = _
    rw [h2]
    have hol : o < cur.length := by simp at hl; omega
    have e1 : (cur.set o v).take (o + 1) = cur.take o ++ [v] := by
      rw [List.take_set, List.take_succ_eq_append_getElem hol, List.set_append_right _ _ (by simp; omega)]
      simp [Nat.min_eq_left (Nat.le_of_lt hol)]
    have e2 : (cur.set o v).drop (o + 1 + vs.length) = cur.drop (o + (v :: vs).length) := by
      rw [List.drop_set_of_lt (by omega)]
      congr 1
      simp; omega
    rw [e1, e2]
    simp
theorem h_st (hty : Tys P ty) (ones : Ones P ty) (H : Hp w0 w l r) (k : Nat) {g i : Nat} {t t2 : TypeId} {τ : Ty} {cs cs' : List Value} {v : Value} (hw : want n ops f ⟨none, op, tt, ps, af, gd⟩ = true) (he : evSt n f op = some (t, g, i, v)) (ht : ty t = some τ) (hk : l[k]? = some (g, t2, cs)) (hi : Nat.blt i cs.length = true) (h1 : v.oneCell' = true) (hv : v.cells = #[v]) (hc : nfL (cs.set i v) some = some cs')
    (hl : nfL (l.set k (g, t2, cs')) some = some l') (h : ∀ w', Hp w0 w' l' r → WL P ops Q rest (act n f) w') : WL P ops Q (⟨none, op, tt, ps, af, gd⟩ :: rest) (act n f) w := by
  have e1 := nfL_some hc
  have e2 := nfL_some hl
  subst e1 e2
  have hil : i < cs.length := by simpa [Nat.blt_eq] using hi
  unfold evSt at he
  split at he
  · rename_i t0 x y
    split at he
    · rename_i g0 i0 v0 hx hy
      simp only [Option.some.injEq, Prod.mk.injEq] at he
      obtain ⟨rfl, rfl, rfl, rfl⟩ := he
      have hy := nf_eq hy
      have hb := H.get k hk
      have hr := run_store_run (P := P) (o := i0) t0 v0 [v0] hb (by rw [hv]) (ones _ _ ht) (by simp; omega) (by simpa using h1)
      have hh := heap_setCells (fr := (0, 0)) [v0] i0 w cs hb (by simp; omega)
      have e3 : cs.take i0 ++ [v0] ++ cs.drop (i0 + [v0].length) = cs.set i0 v0 := by
        rw [List.set_eq_take_append_cons_drop, if_pos hil]; simp
      rw [e3] at hh
      refine h_skip hw ?_ (h _ (H.upd k hk (grown_setCells [v0] i0 w) hh))
      unfold execOp
      simp [hx, ← hy, hr]
    · cases he
  · cases he
theorem h_stR (hrt : Recs P rt) (H : Hp w0 w l r) (k : Nat) {g : Nat} {t t2 : TypeId} {cs cs' zs : List Value} {a : Array Value} (hw : want n ops f ⟨none, op, tt, ps, af, gd⟩ = true) (he : evSt n f op = some (t, g, 0, .agg a)) (hz : rt t = some zs) (hk : l[k]? = some (g, t2, cs)) (hs : cs.length = zs.length) (hc : nfL a.toList some = some cs') (hs2 : cs'.length = zs.length) (h1 : cs'.all (·.oneCell') = true)
    (hl : nfL (l.set k (g, t2, cs')) some = some l') (h : ∀ w', Hp w0 w' l' r → WL P ops Q rest (act n f) w') : WL P ops Q (⟨none, op, tt, ps, af, gd⟩ :: rest) (act n f) w := by
  have e1 := nfL_some hc
  have e2 := nfL_some hl
  subst e1 e2
  unfold evSt at he
  split at he
  · rename_i t0 x y
    split at he
    · rename_i g0 i0 v0 hx hy
      simp only [Option.some.injEq, Prod.mk.injEq] at he
      obtain ⟨rfl, rfl, rfl, rfl⟩ := he
      have hy := nf_eq hy
      have hb := H.get k hk
      obtain ⟨_, h3⟩ := hrt _ _ hz
      have hsz : (P.info? t0).map (·.size) = some a.toList.length := by
        obtain ⟨i0, hi, h4⟩ := Option.map_eq_some_iff.1 h3
        simp only [Prod.mk.injEq] at h4
        rw [hi, hs2, ← h4.2]; rfl
      have hr := run_store_run (P := P) (o := 0) t0 (.agg a) a.toList hb (by simp [Value.cells]) hsz (by rw [List.size_toArray]; omega) (fun q hq => List.all_eq_true.1 h1 q hq)
      have hh := heap_setCells (fr := (0, 0)) a.toList 0 w cs hb (by omega)
      have e3 : cs.take 0 ++ a.toList ++ cs.drop (0 + a.toList.length) = a.toList := by
        rw [List.drop_eq_nil_of_le (by omega)]; simp
      rw [e3] at hh
      refine h_skip hw ?_ (h _ (H.upd k hk (grown_setCells a.toList 0 w) hh))
      unfold execOp
      simp [hx, ← hy, hr]
    · cases he
  · cases he
end
section
variable {P : Program} {n : Nat} {ops : Array Oper} {Q : Exit → Act → World → Prop} {S : World → Prop} {f : Fr} {w : World}
theorem d_start {id m : Nat} {a : Act} (S : World → Prop) (l : Array Bool) (hm : P.follows .mixedOrders = true) (hn : ops.size = m) (hl : Array.replicate m false = l) (hS : S w.drew)
    (h : WA P .any ops Q S [] m l a w.drew) : (Code.region id ops true).wp P Q a w := start_ l hm hn hl hS (fun _ => h.out)
theorem d_pure {i fuel : Nat} {l : Array Bool} {o : Oper} {v : Value} (l' : Array Bool) (hi : ops[i]? = some o) (hc : anyB .any ops l l' i = true) (hQ : ∀ c a w, Q (.panic c) (a.put o.dst v) w → Q (.panic c) a w)
    (hw : want n ops f o = true) (hv : ∀ w, (execOp (X n f) o).run P w = .ok (.value v) w) (h : WA P .any ops Q S [] fuel l' (act n (put f o.dst v)) w) : WA P .any ops Q S [] (fuel + 1) l (act n f) w :=
  ⟨pure_ l' hi rfl hc hQ (Or.inl ⟨by rw [want_eq]; exact hw, fun w => by rw [eval_act]; exact hv w⟩) (put_act n f _ v) h.out⟩
theorem d_take {i fuel : Nat} {l : Array Bool} {o : Oper} {v : Value} (l' : Array Bool) (hi : ops[i]? = some o) (hc : takeB .any ops [] l l' i = true) (hQ : ∀ c a w, Q (.panic c) (a.put o.dst v) w → Q (.panic c) a w)
    (hw : want n ops f o = true) (hv : ∀ w, S w → (execOp (X n f) o).run P w = .ok (.value v) w) (hS : S w) (h : WA P .any ops Q S [] fuel l' (act n (put f o.dst v)) w) : WA P .any ops Q S [] (fuel + 1) l (act n f) w :=
  ⟨take_ l' hi rfl hc hQ (Or.inl ⟨by rw [want_eq]; exact hw, fun w hS => by rw [eval_act]; exact hv w hS⟩) hS (put_act n f _ v) h.out⟩
theorem d_one {i fuel : Nat} {l : Array Bool} {o : Oper} (l' : Array Bool) (hi : ops[i]? = some o) (hc : readyB .any ops l l' i = true) (hw : want n ops f o = true)
    (h : WL P ops (fun ex a' w' => ex = .normal ∧ S w' ∧ WA P .any ops Q S [] fuel l' a' w') [o] (act n f) w) : WA P .any ops Q S [] (fuel + 1) l (act n f) w := by
  have h := h.out
  refine ⟨?_⟩
  refine one_ l' hi rfl hc (by simp) (fun K hK => ?_)
  have hw' : Region.wanted o (yielded ops (act n f).tmps) = true := by rw [want_eq]; exact hw
  rw [if_pos hw']
  simp only [wpList, hw', if_true] at h
  rcases h with h | ⟨_, _, _, h, _⟩
  · refine Oper.wp_mono (fun a' w' hk => hK.out a' w' hk.1 (fun _ => hk.2.out)) (wp_of_normal (K := fun a' w' => S w' ∧ WA P .any ops Q S [] fuel l' a' w') ?_)
    exact Oper.wp_mono (fun a' w' hk => hk.2) h
  · cases h
theorem d_done {l : Array Bool} {m : Nat} {a : Act} (hr : (Region.ready .any ops l == []) = true) (h : Q .normal a w) : WA P .any ops Q S [] m l a w := ⟨done_ hr h⟩
end
section
variable {P : Program} {rt : Nat → Option (List Value)} {n : Nat} {f : Fr} {w0 w : World} {l : List Ent} {r : List RowD}
theorem rec_size (hrt : Recs P rt) {t : TypeId} {cs zs : List Value} (hz : rt t = some zs) (hs : cs.length = zs.length) : (∃ d, P.underlying t = some d ∧ (match d with | .struct _ | .array _ _ => true | _ => false) = true) ∧ (P.info? t).map (·.size) = some cs.toArray.size := by
  obtain ⟨⟨d, h1, h2⟩, h3⟩ := hrt _ _ hz
  refine ⟨⟨d, h1, h2⟩, ?_⟩
  obtain ⟨i0, hi, h4⟩ := Option.map_eq_some_iff.1 h3
  simp only [Prod.mk.injEq] at h4
  rw [hi, List.size_toArray, hs, ← h4.2]; rfl
theorem end_cell {fn : Func} {R : Ending → World → Prop} {p : Tmp} {ty : TypeId} (hrt : Recs P rt) (H : Hp w0 w l r) (k : Nat) {g : Nat} {t : TypeId} {cs zs : List Value} (hr : fn.results = #[.cell p ty]) (hp : X n f (.tmp p) = .pointer (some ⟨g, 0, none⟩)) (hk : l[k]? = some (g, t, cs)) (hz : rt ty = some zs) (hs : cs.length = zs.length)
    (h : R (.returned (.agg cs.toArray)) w) : bodyPost P fn R .ret (act n f) w := by
  obtain ⟨⟨d, h1, h2⟩, h3⟩ := rec_size hrt hz hs
  exact bodyPost_ret (results_cell_row hr _ w g t cs.toArray (0, 0) d (by rw [show (act n f).tmps = arr n f from rfl, getD_arr]; exact hp) (H.get k hk) h1 (by cases d <;> simp_all) h3) rfl h
theorem end_ct {fn : Func} {R : Ending → World → Prop} {p u : Tmp} {ty : TypeId} (hrt : Recs P rt) (H : Hp w0 w l r) (k : Nat) {g : Nat} {t : TypeId} {cs zs : List Value} {v : Value} (hr : fn.results = #[.cell p ty, .tmp u]) (hp : X n f (.tmp p) = .pointer (some ⟨g, 0, none⟩)) (hk : l[k]? = some (g, t, cs)) (hz : rt ty = some zs) (hs : cs.length = zs.length) (hv : nf (X n f (.tmp u)) = some v)
    (h : R (.returned (.tuple #[.agg cs.toArray, v])) w) : bodyPost P fn R .ret (act n f) w := by
  obtain ⟨⟨d, h1, h2⟩, h3⟩ := rec_size hrt hz hs
  refine bodyPost_ret (results_ct hr _ w g t cs.toArray (0, 0) d (by rw [show (act n f).tmps = arr n f from rfl, getD_arr]; exact hp) (H.get k hk) h1 (by cases d <;> simp_all) h3) rfl ?_
  rw [show (act n f).tmps = arr n f from rfl, getD_arr, ← nf_eq hv]
  exact h
theorem end_ctt {fn : Func} {R : Ending → World → Prop} {p u x : Tmp} {ty : TypeId} (hrt : Recs P rt) (H : Hp w0 w l r) (k : Nat) {g : Nat} {t : TypeId} {cs zs : List Value} {v v2 : Value} (hr : fn.results = #[.cell p ty, .tmp u, .tmp x]) (hp : X n f (.tmp p) = .pointer (some ⟨g, 0, none⟩)) (hk : l[k]? = some (g, t, cs)) (hz : rt ty = some zs) (hs : cs.length = zs.length) (hv : nf (X n f (.tmp u)) = some v) (hv2 : nf (X n f (.tmp x)) = some v2)
    (h : R (.returned (.tuple #[.agg cs.toArray, v, v2])) w) : bodyPost P fn R .ret (act n f) w := by
  obtain ⟨⟨d, h1, h2⟩, h3⟩ := rec_size hrt hz hs
  refine bodyPost_ret (results_ctt hr _ w g t cs.toArray (0, 0) d (by rw [show (act n f).tmps = arr n f from rfl, getD_arr]; exact hp) (H.get k hk) h1 (by cases d <;> simp_all) h3) rfl ?_
  rw [show (act n f).tmps = arr n f from rfl, getD_arr, getD_arr, ← nf_eq hv, ← nf_eq hv2]
  exact h
theorem h_bs {ops : Array Oper} {Q : Exit → Act → World → Prop} {rest : List Oper} {d : Option Nat} {tt : TypeId} {ps : String} {af : Array Edge} (H : Hp w0 w l r) {t e : TypeId} {x : Operand} {v : Value} {cs : List Value} {z : Value} {sz by_ : Nat}
    (hinfo : (P.info? e).map (fun i => (i.zero, i.size, i.bytes)) = some (some z, sz, by_)) (hu : P.underlying t = some (.slice e)) (h0 : 0 < sz) (hm : sz ≤ 16777216) (hx : nf (X n f x) = some v) (hc : nfL v.cells.toList some = some cs)
    (hf : Instr.fill (fun i => some (i * sz, sz)) ((Array.range (1 * sz)).map (z.cells[· % z.cells.size]!)) [(0, v)] = some cs.toArray)
    (h : ∀ g w', Hp w0 w' ((g, e, cs) :: l) r → WL P ops Q rest (act n (put f d (.slice (some ⟨g, 0, none⟩) 1 1))) w') : WL P ops Q (⟨d, .buildSlice t 1 #[(0, x)], tt, ps, af, none⟩ :: rest) (act n f) w := by
  have e1 := nf_eq hx
  obtain ⟨i0, hi, hz⟩ := Option.map_eq_some_iff.1 hinfo
  simp only [Prod.mk.injEq] at hz
  obtain ⟨hz0, hz1, hz2⟩ := hz
  subst hz1
  refine ⟨wpList_buildSlice rfl t e 1 _ rfl cs.toArray i0 z hu hi hz0 (by omega) (by omega) ?_ (by rw [put_act]; exact (h w.heap.size _ (H.push e cs)).out)⟩
  rw [eval_act]
  simpa [← e1] using hf
theorem h_app {ops : Array Oper} {Q : Exit → Act → World → Prop} {rest : List Oper} {d : Option Nat} {tt : TypeId} {ps : String} {af : Array Edge} {op : Op} (H : Hp w0 w l r) (k : Nat) {q : RowD} {t : TypeId} {A : Option Addr} {m c : Nat} {ys : List Value} {z : Value} {by_ : Nat}
    (hk : r[k]? = some q) (hinfo : (P.info? q.e).map (fun i => (i.zero, i.size, i.bytes)) = some (some z, q.sz, by_)) (hu : P.underlying t = some (.slice q.e)) (he : evApp n f op = some (t, q.v, .slice A m c)) (hzs : z.cells.size = q.sz) (h0 : Nat.ble 1 q.sz = true) (hb0 : Nat.ble 1 by_ = true)
    (HR : Rd w A ys) (hm : ys.length = m * q.sz) (h1 : ys.all (·.oneCell') = true) (hl : (q.n + m) * by_ ≤ 140737488355328)
    (h : ∀ v w', (∃ A' c', v = .slice A' (q.n + m) c') → Hp w0 w' l (r.set k ⟨v, q.e, q.sz, q.n + m, q.cs ++ ys⟩) → WL P ops Q rest (act n (put f d v)) w') : WL P ops Q (⟨d, op, tt, ps, af, none⟩ :: rest) (act n f) w := by
  replace h0 : 0 < q.sz := Nat.le_of_ble_eq_true h0
  replace hb0 : 0 < by_ := Nat.le_of_ble_eq_true hb0
  obtain ⟨i0, hi, hzz⟩ := Option.map_eq_some_iff.1 hinfo
  simp only [Prod.mk.injEq] at hzz
  obtain ⟨hz0, hz1, hz2⟩ := hzz
  have HO := H.row k q hk
  have hlen : q.n + m ≤ 140737488355328 := Nat.le_trans (Nat.le_mul_of_pos_right _ hb0) hl
  have h1' : ∀ u ∈ ys, u.oneCell' = true := fun u hu => List.all_eq_true.1 h1 u hu
  have hrun : ∃ v1 w1, (Builtin.append_ #[t, t] tt #[q.v, .slice A m c]).run P w = .ok v1 w1 ∧ w1.ownsRow w0.heap.size q.e q.sz v1 (q.n + m) (q.cs ++ ys) ∧ w.grownBy w1 q.v.ownBlock ∧ (v1.ownBlock = q.v.ownBlock ∨ v1.ownBlock = some w.heap.size) := by
    rcases A with _ | ad
    · obtain rfl : ys = [] := HR.1 rfl
      have hm0 : m = 0 := by
        rcases Nat.eq_zero_or_pos m with h | h
        · exact h
        · have := Nat.mul_pos h h0
          simp only [List.length_nil] at hm
          omega
      subst hm0
      refine ⟨q.v, w, ?_, by simpa using HO, World.grownBy.refl w _, .inl rfl⟩
      rcases HO.2 with ⟨e1, hn⟩ | ⟨g, cap, cur, e1, _, _, hnc, _⟩
      · rw [e1]; simp [Builtin.append_, run_underlying hu, sizeOf, typeInfo, hi, Builtin.lenOf, Builtin.firstCells]
      · rw [e1]; simp [Builtin.append_, run_underlying hu, sizeOf, typeInfo, hi, Builtin.lenOf, Builtin.firstCells, hnc, storeCells]
    · obtain ⟨v1, w1, hr, h2, h3, _, h5⟩ := run_append_own_at (P := P) w w0.heap.size t tt q.e i0 z q.sz by_ hu hi hz0 hz1 hz2 hzs h0 q.v q.n q.cs HO ad m c ys hm (fun j u hj => HR.2 ad rfl j u hj) h1' (by simp only [maxLen]; omega) hl H.B.size
      exact ⟨v1, w1, hr, h2, h3, h5⟩
  obtain ⟨v1, w1, hrr, hown, hg, hat⟩ := hrun
  have H1 := H.put (d' := ⟨v1, q.e, q.sz, q.n + m, q.cs ++ ys⟩) k hk hg hown (by
    rcases hat with hat | hat
    · exact .inl hat
    · exact .inr ⟨_, hat, Nat.le_refl _⟩)
  obtain ⟨A', c', hv⟩ := own_slice hown
  unfold evApp at he
  split at he
  · rename_i cc
    split at he
    · rename_i x y t1 t2 h2 h3 h4
      by_cases ht : t1 = t2
      · subst ht
        simp only [Nat.beq_refl, cond_true, Option.some.injEq, Prod.mk.injEq] at he
        obtain ⟨rfl, he1, he2⟩ := he
        have hargs : cc.args = #[x, y] := by rw [← Array.toList_inj]; exact h3
        have htys : cc.argTypes = #[t1, t1] := by rw [← Array.toList_inj]; exact h4
        have ho : Op.call cc = .call { callee := .builtin .append, args := #[x, y], argTypes := #[t1, t1] } := by
          cases cc
          simp_all
        rw [ho]
        refine ⟨?_⟩
        refine wpList_plain rfl fun K hK => ?_
        unfold Oper.wp execOp
        rw [eval_act]
        simp only [resolve, invoke, builtin, Sem.run_bind, Sem.run_pure, Result.andThen_ok, List.map_toArray, List.map_cons, List.map_nil, he1, he2, hrr]
        refine hK _ _ ?_
        rw [put_act]
        exact (h v1 w1 ⟨A', c', hv⟩ H1).out
      · exfalso
        have : Nat.beq t1 t2 = false := by rw [Bool.eq_false_iff]; intro hb; exact ht (Nat.eq_of_beq_eq_true hb)
        simp [this] at he
    · cases he
  · cases he
theorem Hp.cellRd (H : Hp w0 w l r) (k : Nat) {g : Nat} {t : TypeId} {cs : List Value} (hk : l[k]? = some (g, t, cs)) : Rd w (some ⟨g, 0, none⟩) cs :=
  ⟨fun e => (by cases e), fun ad e i v hv => (by cases e; rw [add_lit, Nat.zero_add]; exact H.cellAt k hk hv)⟩
end
theorem rd_of_reads {w : World} {k : IntKind} {A : Option Addr} {n : Nat} {xs : List Int} (h : ReadsInt w k A n xs) : Rd w A (nums k xs) := by
  refine ⟨fun e => ?_, fun ad e i v hv => ?_⟩
  · have hn : n = 0 := by
      rcases Nat.eq_zero_or_pos n with h0 | h0
      · exact h0
      · obtain ⟨ad, h1, _⟩ := h.2.2 h0
        rw [e] at h1; cases h1
    have : xs = [] := List.eq_nil_of_length_eq_zero (by rw [h.1, hn])
    rw [this]; rfl
  · have hi : i < xs.length := by
      rcases Nat.lt_or_ge i xs.length with h0 | h0
      · exact h0
      · rw [nums, List.getElem?_map, List.getElem?_eq_none h0] at hv; cases hv
    obtain ⟨ad', h1, h2⟩ := h.2.2 (by rw [← h.1]; omega)
    rw [e] at h1
    cases h1
    rw [nums, List.getElem?_map, List.getElem?_eq_getElem hi] at hv
    cases hv
    have := h2 i (by rw [← h.1]; exact hi)
    rw [this, List.getD_eq_getElem?_getD, List.getElem?_eq_getElem hi]
    rfl
theorem reads_of_rd {w : World} {k : IntKind} {A : Option Addr} {xs : List Int} (h : Rd w A (nums k xs)) (hl : xs.length ≤ 9223372036854775807) : ReadsInt w k A xs.length xs := by
  refine ⟨rfl, hl, fun h0 => ?_⟩
  cases A with
  | none =>
    have := h.1 rfl
    rw [nums, List.map_eq_nil_iff] at this
    rw [this] at h0
    simp at h0
  | some ad =>
    refine ⟨ad, rfl, fun j hj => h.2 ad rfl j _ ?_⟩
    rw [nums, List.getElem?_map, List.getElem?_eq_getElem hj, List.getD_eq_getElem?_getD, List.getElem?_eq_getElem hj]
    rfl
theorem h_bytes {P : Program} {n : Nat} {ops : Array Oper} {Q : Exit → Act → World → Prop} {rest : List Oper} {f : Fr} {w0 w : World} {l : List Ent} {r : List RowD} (H : Hp w0 w l r) {t e : TypeId} (zs : List Int) {len d1 d2 : Nat} {parts : Array (Nat × Operand)} {tt tt2 : TypeId} {ps ps2 : String} {af af2 : Array Edge}
    (hu : P.underlying t = some (.slice e)) (he : P.underlying e = some (.int .u8)) (hsz : (P.info? e).map (·.size) = some 1) (hz : ((P.info? e).bind (·.zero)).isSome = true) (hlen : len = zs.length) (hpos : 0 < len) (hsmall : len ≤ 1000000) (hparts : parts.toList = (zs.zipIdx 0).map fun x => (x.2, Operand.const (Value.int .u8 x.1))) (hd1 : Nat.blt d1 n = true)
    (h : ∀ g w', Hp w0 w' l r → ReadsInt w' .u8 (some ⟨g, 0, none⟩) zs.length zs → WL P ops Q rest (act n (put (put f (some d1) (.slice (some ⟨g, 0, none⟩) len len)) (some d2) (.slice (some ⟨g, 0, none⟩) len len))) w') :
    WL P ops Q (⟨some d1, .buildSlice t len parts, tt, ps, af, none⟩ :: ⟨some d2, .convert t t (.tmp d1), tt2, ps2, af2, none⟩ :: rest) (act n f) w := by
  refine ⟨wpList_buildFlat rfl t e len parts rfl .u8 zs hu hsz hz hlen hpos (by omega) hparts ?_⟩
  rw [put_act]
  refine WL.out ?_
  have hx : X n (put f (some d1) (.slice (some ⟨w.heap.size, 0, none⟩) len len)) (.tmp d1) = .slice (some ⟨w.heap.size, 0, none⟩) len len := by
    show (bif Nat.blt d1 n then (bif Nat.beq d1 d1 then _ else _) else _) = _
    rw [hd1]; simp
  refine h_valw (v := .slice (some ⟨w.heap.size, 0, none⟩) len len) (w' := w.alloc (.cells (zs.map (Value.int .u8)).toArray e ((zs.map (Value.int .u8)).toArray.size, (zs.map (Value.int .u8)).toArray.size + 1))) rfl ?_ ?_
  · have hr := Lib.run_convert_bytes_const (P := P) w t e (zs.map (Value.int .u8)).toArray len len hu he
    unfold execOp
    simp only [hx]
    rw [Sem.run_bind, hr]
    simp
  · have K := below_alloc (Below.refl w.heap.size w) (.cells (zs.map (Value.int .u8)).toArray e ((zs.map (Value.int .u8)).toArray.size, (zs.map (Value.int .u8)).toArray.size + 1))
    refine h w.heap.size _ (H.call K) (reads_of_rd ⟨fun e => (by cases e), fun ad e i v hv => ?_⟩ (by omega))
    cases e
    rw [add_lit, Nat.zero_add, cell_of_row _ _ i _ _ _ (heap_alloc_new w _)]
    simpa [nums] using hv
section
variable {P : Program} {Q : Exit → Act → World → Prop} {a : Act} {w : World}
theorem p_sr (h : Q .ret a w) : Exit.noGoto Q .ret a w := h
end
section
variable {P : Program} {n : Nat} {ops : Array Oper} {Q : Exit → Act → World → Prop} {rest : List Oper} {f : Fr} {w : World} {d : Option Nat} {tt : TypeId} {ps : String} {af : Array Edge} {gd : Option (Nat × Bool)}
theorem g_on {op : Op} (h : WL P ops Q (⟨d, op, tt, ps, af, none⟩ :: rest) (act n f) w) : WL P ops Q (⟨d, op, tt, ps, af, none⟩ :: rest) (act n f) w := h
theorem g_if {op : Op} {g : Nat × Bool} (h : WL P ops Q (⟨d, op, tt, ps, af, some g⟩ :: rest) (act n f) w) : WL P ops Q (⟨d, op, tt, ps, af, some g⟩ :: rest) (act n f) w := h
theorem g_ld {t : TypeId} {x : Operand} (h : WL P ops Q (⟨d, .load t x, tt, ps, af, gd⟩ :: rest) (act n f) w) : WL P ops Q (⟨d, .load t x, tt, ps, af, gd⟩ :: rest) (act n f) w := h
theorem g_st {t : TypeId} {x y : Operand} (h : WL P ops Q (⟨none, .store t x y, tt, ps, af, gd⟩ :: rest) (act n f) w) : WL P ops Q (⟨none, .store t x y, tt, ps, af, gd⟩ :: rest) (act n f) w := h
theorem g_fa {s : TypeId} {x : Operand} {k : Nat} (h : WL P ops Q (⟨d, .fieldAddr s x k, tt, ps, af, gd⟩ :: rest) (act n f) w) : WL P ops Q (⟨d, .fieldAddr s x k, tt, ps, af, gd⟩ :: rest) (act n f) w := h
theorem g_al {t : TypeId} (h : WL P ops Q (⟨d, .alloc t, tt, ps, af, gd⟩ :: rest) (act n f) w) : WL P ops Q (⟨d, .alloc t, tt, ps, af, gd⟩ :: rest) (act n f) w := h
theorem g_bx {t : TypeId} {x : Operand} (h : WL P ops Q (⟨d, .box t x, tt, ps, af, gd⟩ :: rest) (act n f) w) : WL P ops Q (⟨d, .box t x, tt, ps, af, gd⟩ :: rest) (act n f) w := h
theorem g_mv {x : Operand} (h : WL P ops Q (⟨d, .move x, tt, ps, af, gd⟩ :: rest) (act n f) w) : WL P ops Q (⟨d, .move x, tt, ps, af, gd⟩ :: rest) (act n f) w := h
theorem g_as {x : Operand} (h : WL P ops Q (⟨d, .assign x, tt, ps, af, gd⟩ :: rest) (act n f) w) : WL P ops Q (⟨d, .assign x, tt, ps, af, gd⟩ :: rest) (act n f) w := h
theorem g_ex {x : Operand} {k : Nat} (h : WL P ops Q (⟨d, .extract x k, tt, ps, af, gd⟩ :: rest) (act n f) w) : WL P ops Q (⟨d, .extract x k, tt, ps, af, gd⟩ :: rest) (act n f) w := h
theorem g_pk {x y z : Operand} (h : WL P ops Q (⟨d, .pick x y z, tt, ps, af, gd⟩ :: rest) (act n f) w) : WL P ops Q (⟨d, .pick x y z, tt, ps, af, gd⟩ :: rest) (act n f) w := h
theorem g_un {u : UnOp} {t : TypeId} {x : Operand} (h : WL P ops Q (⟨d, .unOp u t x, tt, ps, af, gd⟩ :: rest) (act n f) w) : WL P ops Q (⟨d, .unOp u t x, tt, ps, af, gd⟩ :: rest) (act n f) w := h
theorem g_cl {c : Call} (h : WL P ops Q (⟨d, .call c, tt, ps, af, gd⟩ :: rest) (act n f) w) : WL P ops Q (⟨d, .call c, tt, ps, af, gd⟩ :: rest) (act n f) w := h
theorem g_ia {t : TypeId} {x y : Operand} (h : WL P ops Q (⟨d, .indexAddr t x y, tt, ps, af, gd⟩ :: rest) (act n f) w) : WL P ops Q (⟨d, .indexAddr t x y, tt, ps, af, gd⟩ :: rest) (act n f) w := h
theorem g_ix {t : TypeId} {x y : Operand} (h : WL P ops Q (⟨d, .index t x y, tt, ps, af, gd⟩ :: rest) (act n f) w) : WL P ops Q (⟨d, .index t x y, tt, ps, af, gd⟩ :: rest) (act n f) w := h
theorem g_sl {t : TypeId} {x : Operand} {lo hi mx : Option Operand} (h : WL P ops Q (⟨d, .slice t x lo hi mx, tt, ps, af, gd⟩ :: rest) (act n f) w) : WL P ops Q (⟨d, .slice t x lo hi mx, tt, ps, af, gd⟩ :: rest) (act n f) w := h
theorem g_bi {b : BinOp} {t u : TypeId} {x y : Operand} (h : WL P ops Q (⟨d, .binOp b t x y u, tt, ps, af, gd⟩ :: rest) (act n f) w) : WL P ops Q (⟨d, .binOp b t x y u, tt, ps, af, gd⟩ :: rest) (act n f) w := h
end
end Go.Proofs.YthgojbdpmcccaaaGreatDoor.Q
end
section
namespace Go.Proofs.YthgojbdpmcccaaaGreatDoor.K
open Go.Proofs.YthgojbdpmcccaaaGreatDoor.Q
set_option linter.unusedVariables false
def rt : Nat → Option (List Value)
  | 95 => some [.string ⟨#[]⟩, .string ⟨#[]⟩]
  | 171 => some [.string ⟨#[]⟩, .slice none 0 0, .slice none 0 0]
  | 162 => some [.int .i64 0, .int .i64 0, .int .i64 0, .string ⟨#[]⟩, .string ⟨#[]⟩, .string ⟨#[]⟩, .bool false, .bool false, .bool false]
  | 29 => some [.string ⟨#[]⟩, .string ⟨#[]⟩, .int .i64 0, .slice none 0 0, .slice none 0 0, .bool false]
  | 59 => some [.int .i64 0, .int .i64 0, .slice none 0 0, .slice none 0 0, .bool false]
  | 168 => some [.pointer none, .slice none 0 0]
  | 25 => some [.string ⟨#[]⟩, .string ⟨#[]⟩, .int .i64 0, .slice none 0 0, .slice none 0 0, .slice none 0 0, .int .i64 0]
  | 53 => some [.int .i64 0, .int .i64 0, .slice none 0 0, .slice none 0 0, .slice none 0 0, .int .i64 0]
  | _ => none
theorem recOk0 : RecOk Tryz.prog 95 [.string ⟨#[]⟩, .string ⟨#[]⟩] := ⟨⟨_, Tryz.underlying95, rfl⟩, by kernel_rfl⟩
theorem recOk1 : RecOk Tryz.prog 171 [.string ⟨#[]⟩, .slice none 0 0, .slice none 0 0] := ⟨⟨_, Tryz.underlying171, rfl⟩, by kernel_rfl⟩
theorem recOk2 : RecOk Tryz.prog 162 [.int .i64 0, .int .i64 0, .int .i64 0, .string ⟨#[]⟩, .string ⟨#[]⟩, .string ⟨#[]⟩, .bool false, .bool false, .bool false] := ⟨⟨_, Tryz.underlying162, rfl⟩, by kernel_rfl⟩
theorem recOk3 : RecOk Tryz.prog 29 [.string ⟨#[]⟩, .string ⟨#[]⟩, .int .i64 0, .slice none 0 0, .slice none 0 0, .bool false] := ⟨⟨_, Tryz.underlying29, rfl⟩, by kernel_rfl⟩
theorem recOk4 : RecOk Tryz.prog 59 [.int .i64 0, .int .i64 0, .slice none 0 0, .slice none 0 0, .bool false] := ⟨⟨_, Tryz.underlying59, rfl⟩, by kernel_rfl⟩
theorem recOk5 : RecOk Tryz.prog 168 [.pointer none, .slice none 0 0] := ⟨⟨_, Tryz.underlying168, rfl⟩, by kernel_rfl⟩
theorem recOk6 : RecOk Tryz.prog 25 [.string ⟨#[]⟩, .string ⟨#[]⟩, .int .i64 0, .slice none 0 0, .slice none 0 0, .slice none 0 0, .int .i64 0] := ⟨⟨_, Tryz.underlying25, rfl⟩, by kernel_rfl⟩
theorem recOk7 : RecOk Tryz.prog 53 [.int .i64 0, .int .i64 0, .slice none 0 0, .slice none 0 0, .slice none 0 0, .int .i64 0] := ⟨⟨_, Tryz.underlying53, rfl⟩, by kernel_rfl⟩
theorem recs : Recs Tryz.prog rt := by
  intro t zs h
  unfold rt at h
  split at h
  · cases h; exact recOk0
  · cases h; exact recOk1
  · cases h; exact recOk2
  · cases h; exact recOk3
  · cases h; exact recOk4
  · cases h; exact recOk5
  · cases h; exact recOk6
  · cases h; exact recOk7
  · cases h
def fo : Nat → Nat → Option Nat
  | 95, 0 => some 0
  | 95, 1 => some 1
  | 171, 0 => some 0
  | 171, 1 => some 1
  | 171, 2 => some 2
  | 162, 0 => some 0
  | 162, 1 => some 1
  | 162, 2 => some 2
  | 162, 3 => some 3
  | 162, 4 => some 4
  | 162, 5 => some 5
  | 162, 6 => some 6
  | 162, 7 => some 7
  | 162, 8 => some 8
  | 29, 0 => some 0
  | 29, 1 => some 1
  | 29, 2 => some 2
  | 29, 3 => some 3
  | 29, 4 => some 4
  | 29, 5 => some 5
  | 59, 0 => some 0
  | 59, 1 => some 1
  | 59, 2 => some 2
  | 59, 3 => some 3
  | 59, 4 => some 4
  | 168, 0 => some 0
  | 168, 1 => some 1
  | 25, 0 => some 0
  | 25, 1 => some 1
  | 25, 2 => some 2
  | 25, 3 => some 3
  | 25, 4 => some 4
  | 25, 5 => some 5
  | 25, 6 => some 6
  | 53, 0 => some 0
  | 53, 1 => some 1
  | 53, 2 => some 2
  | 53, 3 => some 3
  | 53, 4 => some 4
  | 53, 5 => some 5
  | _, _ => none
theorem fld0 : fldB Tryz.prog 95 0 = some 0 := by kernel_rfl
theorem fld1 : fldB Tryz.prog 95 1 = some 1 := by kernel_rfl
theorem fld2 : fldB Tryz.prog 171 0 = some 0 := by kernel_rfl
theorem fld3 : fldB Tryz.prog 171 1 = some 1 := by kernel_rfl
theorem fld4 : fldB Tryz.prog 171 2 = some 2 := by kernel_rfl
theorem fld5 : fldB Tryz.prog 162 0 = some 0 := by kernel_rfl
theorem fld6 : fldB Tryz.prog 162 1 = some 1 := by kernel_rfl
theorem fld7 : fldB Tryz.prog 162 2 = some 2 := by kernel_rfl
theorem fld8 : fldB Tryz.prog 162 3 = some 3 := by kernel_rfl
theorem fld9 : fldB Tryz.prog 162 4 = some 4 := by kernel_rfl
theorem fld10 : fldB Tryz.prog 162 5 = some 5 := by kernel_rfl
theorem fld11 : fldB Tryz.prog 162 6 = some 6 := by kernel_rfl
theorem fld12 : fldB Tryz.prog 162 7 = some 7 := by kernel_rfl
theorem fld13 : fldB Tryz.prog 162 8 = some 8 := by kernel_rfl
theorem fld14 : fldB Tryz.prog 29 0 = some 0 := by kernel_rfl
theorem fld15 : fldB Tryz.prog 29 1 = some 1 := by kernel_rfl
theorem fld16 : fldB Tryz.prog 29 2 = some 2 := by kernel_rfl
theorem fld17 : fldB Tryz.prog 29 3 = some 3 := by kernel_rfl
theorem fld18 : fldB Tryz.prog 29 4 = some 4 := by kernel_rfl
theorem fld19 : fldB Tryz.prog 29 5 = some 5 := by kernel_rfl
theorem fld20 : fldB Tryz.prog 59 0 = some 0 := by kernel_rfl
theorem fld21 : fldB Tryz.prog 59 1 = some 1 := by kernel_rfl
theorem fld22 : fldB Tryz.prog 59 2 = some 2 := by kernel_rfl
theorem fld23 : fldB Tryz.prog 59 3 = some 3 := by kernel_rfl
theorem fld24 : fldB Tryz.prog 59 4 = some 4 := by kernel_rfl
theorem fld25 : fldB Tryz.prog 168 0 = some 0 := by kernel_rfl
theorem fld26 : fldB Tryz.prog 168 1 = some 1 := by kernel_rfl
theorem fld27 : fldB Tryz.prog 25 0 = some 0 := by kernel_rfl
theorem fld28 : fldB Tryz.prog 25 1 = some 1 := by kernel_rfl
theorem fld29 : fldB Tryz.prog 25 2 = some 2 := by kernel_rfl
theorem fld30 : fldB Tryz.prog 25 3 = some 3 := by kernel_rfl
theorem fld31 : fldB Tryz.prog 25 4 = some 4 := by kernel_rfl
theorem fld32 : fldB Tryz.prog 25 5 = some 5 := by kernel_rfl
theorem fld33 : fldB Tryz.prog 25 6 = some 6 := by kernel_rfl
theorem fld34 : fldB Tryz.prog 53 0 = some 0 := by kernel_rfl
theorem fld35 : fldB Tryz.prog 53 1 = some 1 := by kernel_rfl
theorem fld36 : fldB Tryz.prog 53 2 = some 2 := by kernel_rfl
theorem fld37 : fldB Tryz.prog 53 3 = some 3 := by kernel_rfl
theorem fld38 : fldB Tryz.prog 53 4 = some 4 := by kernel_rfl
theorem fld39 : fldB Tryz.prog 53 5 = some 5 := by kernel_rfl
theorem flds : Flds Tryz.prog fo := by
  intro t k o h
  unfold fo at h
  split at h
  · cases h; exact fld0
  · cases h; exact fld1
  · cases h; exact fld2
  · cases h; exact fld3
  · cases h; exact fld4
  · cases h; exact fld5
  · cases h; exact fld6
  · cases h; exact fld7
  · cases h; exact fld8
  · cases h; exact fld9
  · cases h; exact fld10
  · cases h; exact fld11
  · cases h; exact fld12
  · cases h; exact fld13
  · cases h; exact fld14
  · cases h; exact fld15
  · cases h; exact fld16
  · cases h; exact fld17
  · cases h; exact fld18
  · cases h; exact fld19
  · cases h; exact fld20
  · cases h; exact fld21
  · cases h; exact fld22
  · cases h; exact fld23
  · cases h; exact fld24
  · cases h; exact fld25
  · cases h; exact fld26
  · cases h; exact fld27
  · cases h; exact fld28
  · cases h; exact fld29
  · cases h; exact fld30
  · cases h; exact fld31
  · cases h; exact fld32
  · cases h; exact fld33
  · cases h; exact fld34
  · cases h; exact fld35
  · cases h; exact fld36
  · cases h; exact fld37
  · cases h; exact fld38
  · cases h; exact fld39
  · cases h
def tx : Nat → Option Ty
  | 22 => some (.slc 9 1)
  | 27 => some (.slc 95 2)
  | 31 => some (.int .i64)
  | t => ty t
theorem slcOk0 : TyOk Tryz.prog 22 (.slc 9 1) := by
  have h : (Tryz.prog.info? 9).map (·.size) = some 1 := by kernel_rfl
  obtain ⟨i0, hi, hz⟩ := Option.map_eq_some_iff.1 h
  exact ⟨Tryz.underlying22, i0, hi, hz⟩
theorem slcOk1 : TyOk Tryz.prog 27 (.slc 95 2) := by
  have h : (Tryz.prog.info? 95).map (·.size) = some 2 := by kernel_rfl
  obtain ⟨i0, hi, hz⟩ := Option.map_eq_some_iff.1 h
  exact ⟨Tryz.underlying27, i0, hi, hz⟩
theorem txs : Tys Tryz.prog tx := by
  intro t k h
  unfold tx at h
  split at h
  · cases h; exact slcOk0
  · cases h; exact slcOk1
  · cases h; exact Tryz.underlying31
  · exact tys t k h
theorem one0_0 : (Tryz.prog.info? 3).map (·.size) = some 1 := by kernel_rfl
theorem one0_1 : (Tryz.prog.info? 5).map (·.size) = some 1 := by kernel_rfl
theorem one0_2 : (Tryz.prog.info? 4).map (·.size) = some 1 := by kernel_rfl
theorem one0_3 : (Tryz.prog.info? 9).map (·.size) = some 1 := by kernel_rfl
theorem one0_4 : (Tryz.prog.info? 23).map (·.size) = some 1 := by kernel_rfl
theorem one0_5 : (Tryz.prog.info? 98).map (·.size) = some 1 := by kernel_rfl
theorem one1_0 : (Tryz.prog.info? 22).map (·.size) = some 1 := by kernel_rfl
theorem one1_1 : (Tryz.prog.info? 27).map (·.size) = some 1 := by kernel_rfl
theorem one1_2 : (Tryz.prog.info? 31).map (·.size) = some 1 := by kernel_rfl
theorem ones0 : Ones Tryz.prog ty := by
  intro t k h
  unfold ty at h
  split at h
  · exact one0_0
  · exact one0_1
  · exact one0_2
  · exact one0_3
  · exact one0_4
  · exact one0_5
  · cases h
theorem ones : Ones Tryz.prog tx := by
  intro t k h
  unfold tx at h
  split at h
  · exact one1_0
  · exact one1_1
  · exact one1_2
  · exact ones0 t k h
end Go.Proofs.YthgojbdpmcccaaaGreatDoor.K
end
section
namespace Go.Proofs.YthgojbdpmcccaaaGreatDoor.K
open Go.RowKit Go.Proofs.YthgojbdpmcccaaaGreatDoor.Q Go.Proofs.YthgojbdpmcccaaaGreatDoor.Wb Go.Proofs.YthgojbdpmcccaaaGreatDoorW.PrintWords
set_option linter.unusedVariables false
set_option linter.unusedSimpArgs false
structure Frm where
  hosts : Int
  codings : Int
  lengths : Int
  host : ByteArray
  coding : ByteArray
  length : ByteArray
  framed : Bool
  closes : Bool
  keeps : Bool
abbrev frmC (m : Frm) : List Value := [.int .i64 m.hosts, .int .i64 m.codings, .int .i64 m.lengths, .string m.host, .string m.coding, .string m.length, .bool m.framed, .bool m.closes, .bool m.keeps]
abbrev frmA (m : Frm) : Array Value := #[.int .i64 m.hosts, .int .i64 m.codings, .int .i64 m.lengths, .string m.host, .string m.coding, .string m.length, .bool m.framed, .bool m.closes, .bool m.keeps]
theorem close_c (m : Frm) (minor : Int) (w : World) : Calls Tryz.prog 113 #[.agg (frmA m), .int .i64 minor] w fun e w' => e = .returned (.bool (if minor = 1 then m.closes else m.closes || !m.keeps)) ∧ Below w.heap.size w w' := by
  refine enter (args := [.agg (frmA m), .int .i64 minor]) Tryz.func113 rfl Tryz.ntmps113 rfl ?_
  have H := Hp.nil w
  repeat' (first | (with_reducible first | refine p_tn ?_ | refine wp_seq ?_ | refine w_reg ?_ | refine l_nil ?_) | ((with_reducible refine g_on ?_); (first | ((with_reducible refine g_mv ?_); refine l_p txs rfl rfl ?_) | ((with_reducible refine g_as ?_); refine l_p txs rfl rfl ?_) | ((with_reducible refine g_bx ?_); refine h_box H rfl rfl rfl (fun g_ w_ H => ?_)))))
  (with_reducible refine is_l ?_); refine l_t txs rfl rfl (fun h => ?_) (fun h => ?_)
  · repeat' (first | (with_reducible first | refine p_tn ?_ | refine p_tr ?_ | refine wp_seq ?_ | refine w_reg ?_) | (with_reducible (refine is_if ?_; (refine w_ift rfl ?_))) | (with_reducible first | refine wp_ret ?_ | refine l_nil ?_) | ((with_reducible refine g_on ?_); (first | ((with_reducible refine g_as ?_); refine l_p txs rfl rfl ?_) | ((with_reducible refine g_fa ?_); refine h_fa flds rfl rfl ?_) | ((with_reducible refine g_ld ?_); (refine h_ld txs H 0 rfl rfl rfl rfl ?_)))))
    refine end1 rfl rfl ?_
    exact ⟨by rw [if_pos h], H.B⟩
  · repeat' (first | (with_reducible first | refine p_tn ?_ | refine wp_seq ?_ | refine w_reg ?_) | (with_reducible (refine is_if ?_; (refine w_iff rfl ?_))) | (with_reducible first | refine wp_skip ?_ | refine l_nil ?_) | ((with_reducible refine g_on ?_); (first | ((with_reducible refine g_mv ?_); refine l_p txs rfl rfl ?_) | ((with_reducible refine g_fa ?_); refine h_fa flds rfl rfl ?_) | ((with_reducible refine g_ld ?_); (refine h_ld txs H 0 rfl rfl rfl rfl ?_)))))
    cases hc : m.closes
    · repeat' (first | (with_reducible first | refine p_tn ?_ | refine wp_ret ?_ | refine l_nil ?_) | ((with_reducible refine g_on ?_); (first | ((with_reducible refine g_as ?_); refine l_p txs rfl rfl ?_) | ((with_reducible refine g_pk ?_); refine l_p txs rfl rfl ?_))) | ((with_reducible refine g_if ?_); (first | ((with_reducible refine g_fa ?_); refine h_fa flds rfl rfl ?_) | ((with_reducible refine g_ld ?_); (refine h_ld txs H 0 rfl rfl rfl rfl ?_)) | ((with_reducible refine g_un ?_); (refine l_p txs rfl rfl ?_)))))
      refine end1 rfl rfl ?_
      exact ⟨by rw [if_neg h]; rfl, H.B⟩
    · repeat' (first | (with_reducible first | refine p_tn ?_ | refine wp_ret ?_ | refine l_nil ?_) | ((with_reducible refine g_on ?_); (first | ((with_reducible refine g_as ?_); refine l_p txs rfl rfl ?_) | ((with_reducible refine g_pk ?_); refine l_p txs rfl rfl ?_))) | ((with_reducible refine g_if ?_); (refine l_off rfl ?_)))
      refine end1 rfl rfl ?_
      exact ⟨by rw [if_neg h]; rfl, H.B⟩
end Go.Proofs.YthgojbdpmcccaaaGreatDoor.K
end
section
namespace Go.Proofs.YthgojbdpmcccaaaGreatDoor.K
open Go.RowKit Go.Proofs.YthgojbdpmcccaaaGreatDoor.Q Go.Proofs.YthgojbdpmcccaaaGreatDoor.Wb Go.Proofs.YthgojbdpmcccaaaGreatDoorW.PrintWords
set_option linter.unusedVariables false
set_option linter.unusedSimpArgs false
theorem evSl_runN {P : Program} {ty : Nat → Option Ty} {n : Nat} {f : Fr} {w : World} {o : Oper} (hty : Tys P ty) {a : Option Addr} {l c sz : Nat} (p q : Nat) (he : evSl n f ty o.op = some (a, l, c, sz, (p : Int), (q : Int))) (h1 : p ≤ q) (h2 : q ≤ c) :
    (execOp (X n f) o).run P w = .ok (.value (.slice (cutA a c p sz) (q - p) (c - p))) w := evSl_run hty he (by omega) (by omega) (by omega)
theorem in_of_reads {w : World} {A : Option Addr} {n : Nat} {l : L} (h : ReadsInt w .u8 A n l) : Lib.BytesIn w A n l := fun hn => by
  obtain ⟨ad, rfl, hc⟩ := h.2.2 hn
  exact Lib.BytesIn.of_cells (fun i hi => hc i hi) hn
theorem bytes_back {l : L} (hb : Bytes l) : (Lib.bytesOf l).map (fun b => (b.toNat : Int)) = l := by
  unfold Lib.bytesOf
  rw [List.map_map]
  conv => rhs; rw [← List.map_id l]
  exact List.map_congr_left fun x hx => ofNat_toNat (hb x hx).1 (hb x hx).2
theorem suffix_last {l : L} (hb : Bytes l) : Lib.hasSuffix (Lib.bytesOf l) (Lib.bytesOf [13]) = decide (l.getLast? = some 13) := by
  unfold Lib.hasSuffix List.isSuffixOf
  rcases List.eq_nil_or_concat l with rfl | ⟨m, y, rfl⟩
  · rfl
  · have hy := hb y (by simp)
    have e : (Lib.bytesOf (m ++ [y])).reverse = UInt8.ofNat y.toNat :: (Lib.bytesOf m).reverse := by simp [Lib.bytesOf]
    have e2 : (Lib.bytesOf [13]).reverse = [13] := rfl
    rw [List.concat_eq_append, e, e2, List.getLast?_append]
    rw [Bool.eq_iff_iff, decide_eq_true_eq]
    simp only [List.isPrefixOf, Bool.and_true, beq_iff_eq, List.getLast?_singleton, Option.some_or, Option.some.injEq, ← UInt8.toNat_inj]
    have h1 := ofNat_toNat hy.1 hy.2
    have h2 : (13 : UInt8).toNat = 13 := rfl
    omega
theorem chop_len (l : L) : (chop l).length = if l.getLast? = some 13 then l.length - 1 else l.length := by
  unfold chop
  split <;> simp
theorem suffix_eq {w : World} {p : Option Addr} {n c : Nat} {l : L} (h : ReadsInt w .u8 p n l) (hb : Bytes l) : Lib.trimSuffixV p n c l [13] = .slice p (chop l).length c := by
  have hl := h.1
  rw [chop_len]
  rcases Nat.eq_zero_or_pos n with h0 | h0
  · subst h0
    obtain rfl : l = [] := List.eq_nil_of_length_eq_zero hl
    unfold Lib.trimSuffixV
    split
    · unfold Lib.bytesTrimSuffix
      rw [suffix_last hb]
      rfl
    · rfl
  · obtain ⟨b, o, rfl, _⟩ := (in_of_reads h).at h0
    show Lib.bytesTrimSuffix b o n c l [13] = _
    unfold Lib.bytesTrimSuffix Lib.sliceTo
    rw [suffix_last hb]
    by_cases hq : l.getLast? = some 13
    · simp [hq, hl]
    · simp [hq, hl]
theorem chop_take (l : L) : chop l = l.take (chop l).length := by
  unfold chop
  split
  · rw [List.dropLast_eq_take]; simp
  · simp
theorem chop_le (l : L) : (chop l).length ≤ l.length := by
  rw [chop_len]
  split <;> omega
theorem chop_reads {w : World} {p : Option Addr} {n : Nat} {l : L} (h : ReadsInt w .u8 p n l) : ReadsInt w .u8 p (chop l).length (chop l) := by
  have hl := h.1
  have := h.take_ (chop l).length (by have := chop_le l; omega)
  rw [← chop_take] at this
  exact this
def lineV (A : Option Addr) (n c : Nat) (l : L) : Value := match lineS l with
  | some (x, r) => .tuple #[.string (strOfNums x), .slice (cutA A c (n - r.length) 1) r.length (c - (n - r.length)), .bool true]
  | none => .tuple #[.string ⟨#[]⟩, .slice none 0 0, .bool false]
theorem lineV_none {A : Option Addr} {n c : Nat} {l : L} (h : lineS l = none) : lineV A n c l = .tuple #[.string ⟨#[]⟩, .slice none 0 0, .bool false] := by unfold lineV; rw [h]
theorem lineV_some {A : Option Addr} {n c : Nat} {l x r : L} (h : lineS l = some (x, r)) : lineV A n c l = .tuple #[.string (strOfNums x), .slice (cutA A c (n - r.length) 1) r.length (c - (n - r.length)), .bool true] := by unfold lineV; rw [h]
theorem index_c {A : Option Addr} {n c : Nat} {l : L} {w : World} (h : ReadsInt w .u8 A n l) (hn : A = none → c = 0 ∧ n = 0) (hb : Bytes l) :
    Calls Tryz.prog 167 #[.slice A n c, .int .u8 10] w fun e w' => e = .returned (.int .i64 (find 10 l)) ∧ w' = w := by
  cases A with
  | none =>
    obtain ⟨rfl, rfl⟩ := hn rfl
    obtain rfl : l = [] := List.eq_nil_of_length_eq_zero h.1
    exact Tryz.bytes_IndexByte_nil 10 w
  | some ad =>
    have hc : ∀ i, i < n → w.cell? (ad.add i) = some (.int .u8 (l.getD i 0)) := fun i hi => by
      obtain ⟨ad', e, hc⟩ := h.2.2 (by omega)
      cases e
      exact hc i hi
    refine (Tryz.bytes_IndexByte_at ad n c l 10 w h.1 hc).mono fun e w' ⟨he, hw⟩ => ⟨?_, hw⟩
    rw [he, index_find (by decide) (by decide), bytes_back hb]
set_option maxHeartbeats 2000000 in
theorem line_c {A : Option Addr} {n c : Nat} {l : L} {w : World} (h : ReadsInt w .u8 A n l) (hc : n ≤ c) (hn : A = none → c = 0 ∧ n = 0) (hb : Bytes l) (hs : n ≤ 2000000000000) :
    Calls Tryz.prog 117 #[.slice A n c] w fun e w' => e = .returned (lineV A n c l) ∧ Below w.heap.size w w' := by
  have hl := h.1
  refine enter (args := [.slice A n c]) Tryz.func117 rfl Tryz.ntmps117 rfl ?_
  obtain ⟨f1, f2⟩ := cut_find 10 l
  repeat' (first | (with_reducible first | refine p_tn ?_ | refine wp_seq ?_ | refine w_reg ?_ | refine l_nil ?_) | (with_reducible (refine is_l ?_; (refine l_p tys rfl rfl ?_))))
  (with_reducible refine is_l ?_); refine l_callp rfl rfl (by kernel_rfl) (index_c h hn hb) ?_
  repeat' (first | (with_reducible first | refine p_tn ?_ | refine wp_seq ?_ | refine w_reg ?_ | refine l_nil ?_) | (with_reducible (refine is_l ?_; (refine l_p tys rfl rfl ?_))))
  (with_reducible refine is_l ?_); refine l_t tys rfl rfl (fun hlt => ?_) (fun hge => ?_)
  · have hs : lineS l = none := by unfold lineS; rw [f2 hlt]; rfl
    repeat' (first | (with_reducible first | refine p_tn ?_ | refine p_tr ?_ | refine wp_seq ?_ | refine w_reg ?_) | (with_reducible (refine is_if ?_; (refine w_ift rfl ?_))) | (with_reducible first | refine wp_ret ?_ | refine l_nil ?_) | (with_reducible (refine is_l ?_; (refine l_p tys rfl rfl ?_))))
    refine end3 rfl rfl rfl rfl ?_
    exact ⟨by rw [lineV_none hs], Below.refl _ w⟩
  obtain ⟨k, hk⟩ : ∃ k : Nat, find 10 l = (k : Int) := ⟨(find 10 l).toNat, by omega⟩
  have hcut := f1 (by omega)
  rw [hk, Int.toNat_natCast] at hcut
  have hkn : k + 1 ≤ n := by
    have h1 := (cutC_some hcut).1
    have h2 := congrArg List.length h1
    simp only [List.length_append, List.length_cons, List.length_take, List.length_drop] at h2
    omega
  have hs : lineS l = some (chop (l.take k), l.drop (k + 1)) := by unfold lineS; rw [hcut]; rfl
  rw [hk]
  repeat' (first | (with_reducible first | refine p_tn ?_ | refine wp_seq ?_) | (with_reducible (refine is_if ?_; (refine w_iff rfl ?_))) | (with_reducible first | refine wp_skip ?_ | refine l_nil ?_))
  refine r_start (m := 13) #[false, false, false, false, false, false, false, false, false, false, false, false, false] (by kernel_rfl) rfl rfl ?_
  refine r_pure (i := 0) #[true, false, false, false, false, false, false, false, false, false, false, false, false] rfl (by kernel_rfl) (fun _ _ _ h => h) rfl (fun w => evP_run (o := ⟨_, _, _, _, _, _⟩) tys rfl) ?_
  refine r_pure (i := 1) #[true, true, false, false, false, false, false, false, false, false, false, false, false] rfl (by kernel_rfl) (fun _ _ _ h => h) rfl (fun w => evP_run (o := ⟨_, _, _, _, _, _⟩) tys rfl) ?_
  refine r_pure (i := 2) #[true, true, true, false, false, false, false, false, false, false, false, false, false] rfl (by kernel_rfl) (fun _ _ _ h => h) rfl (fun w => evSl_runN (o := ⟨_, _, _, _, _, _⟩) tys 0 k rfl (by omega) (by omega)) ?_
  refine r_pure (i := 6) #[true, true, true, false, false, false, true, false, false, false, false, false, false] rfl (by kernel_rfl) (fun _ _ _ h => h) rfl (fun w => evP_run (o := ⟨_, _, _, _, _, _⟩) tys rfl) ?_
  refine r_pure (i := 7) #[true, true, true, false, false, false, true, true, false, false, false, false, false] rfl (by kernel_rfl) (fun _ _ _ h => h) rfl (fun w => evP_run (o := ⟨_, _, _, _, _, _⟩) tys rfl) ?_
  refine r_pure (i := 8) #[true, true, true, false, false, false, true, true, true, false, false, false, false] rfl (by kernel_rfl) (fun _ _ _ h => h) rfl (fun w => (evA_run (o := ⟨_, _, _, _, _, _⟩) tys (k := .i64) (a := ((k + 1 : Nat) : Int)) (by show some (IntKind.i64, (k : Int) + 1) = _; congr 2)).trans (by rw [wrap_in (in_i64 (by omega) (by omega))])) ?_
  refine r_pure (i := 9) #[true, true, true, false, false, false, true, true, true, true, false, false, false] rfl (by kernel_rfl) (fun _ _ _ h => h) rfl (fun w => evSl_runN (o := ⟨_, _, _, _, _, _⟩) tys (k + 1) n rfl (by omega) (by omega)) ?_
  refine r_list (i := 3) #[true, true, true, true, false, false, true, true, true, true, false, false, false] rfl (by kernel_rfl) rfl ?_
  refine l_lit rfl rfl Tryz.underlying23 info_u8 ?_
  refine ⟨rfl, ?_⟩
  have K1 := Bt (below_drew (Below.refl w.heap.size w)) (below_alloc (Below.refl _ w.drew) (.cells (nums .u8 [13]).toArray 5))
  have r1 := reads_cut (h.below K1) (p := 0) (q := k) (c := c) (by omega) (by omega) hc
  have r2 := lit_reads w.drew 5 [13] (by simp)
  have hcon := Tryz.bytes_TrimSuffix_all _ _ _ (c - 0) _ ([13] : L).length _ _ (w.drew.alloc (.cells (nums .u8 [13]).toArray 5)) r1.1 r2.1 (by omega) (by omega) (in_of_reads r1) (in_of_reads r2)
  rw [suffix_eq r1 (fun x hx => hb x (List.mem_of_mem_take (List.mem_of_mem_drop hx)))] at hcon
  refine r_list (i := 4) #[true, true, true, true, true, false, true, true, true, true, false, false, false] rfl (by kernel_rfl) rfl ?_
  refine l_callp rfl rfl (by kernel_rfl) hcon ?_
  refine ⟨rfl, ?_⟩
  have r3 := chop_reads r1
  refine r_list (i := 5) #[true, true, true, true, true, true, true, true, true, true, false, false, false] rfl (by kernel_rfl) rfl ?_
  refine l_text rfl rfl Tryz.underlying23 Tryz.underlying5 Tryz.underlying9 r3 ?_
  refine ⟨rfl, ?_⟩
  refine r_pure (i := 10) #[true, true, true, true, true, true, true, true, true, true, true, false, false] rfl (by kernel_rfl) (fun _ _ _ h => h) rfl (fun w => evP_run (o := ⟨_, _, _, _, _, _⟩) tys rfl) ?_
  refine r_pure (i := 11) #[true, true, true, true, true, true, true, true, true, true, true, true, false] rfl (by kernel_rfl) (fun _ _ _ h => h) rfl (fun w => evP_run (o := ⟨_, _, _, _, _, _⟩) tys rfl) ?_
  refine r_pure (i := 12) #[true, true, true, true, true, true, true, true, true, true, true, true, true] rfl (by kernel_rfl) (fun _ _ _ h => h) rfl (fun w => evP_run (o := ⟨_, _, _, _, _, _⟩) tys rfl) ?_
  refine r_done rfl ?_
  repeat' (with_reducible first | refine p_tn ?_ | refine wp_ret ?_)
  refine end3 rfl rfl rfl rfl ?_
  refine ⟨?_, K1⟩
  rw [lineV_some hs, List.length_drop, hl, show n - (n - (k + 1)) = k + 1 by omega]
  rfl
def endV (S C : Addr) (l : L) : Value := match endS l with
  | .ok r => .tuple #[.int .i64 ((l.length - r.length : Nat) : Int), .nilIface]
  | .error 140 => .tuple #[.int .i64 0, errV S]
  | .error _ => .tuple #[.int .i64 0, errV C]
theorem endV_ok {S C : Addr} {l r : L} (h : endS l = .ok r) : endV S C l = .tuple #[.int .i64 ((l.length - r.length : Nat) : Int), .nilIface] := by unfold endV; rw [h]
theorem endV_short {S C : Addr} {l : L} (h : endS l = .error 140) : endV S C l = .tuple #[.int .i64 0, errV S] := by unfold endV; rw [h]; rfl
theorem endV_chunk {S C : Addr} {l : L} (h : endS l = .error 146) : endV S C l = .tuple #[.int .i64 0, errV C] := by unfold endV; rw [h]; rfl
theorem cell_at {w : World} {ad : Addr} {n : Nat} {l : L} (h : ReadsInt w .u8 (some ad) n l) (i : Nat) (hi : i < n) : w.cell? (ad.add (((i : Int)).toNat * 1)) = some (.int .u8 (l.getD i 0)) := by
  obtain ⟨ad', e, hc⟩ := h.2.2 (by omega)
  cases e
  simpa using hc i hi
set_option maxHeartbeats 2000000 in
theorem end_c {A : Nat → Addr} {w : World} (hE : LayS A w) {B : Option Addr} {c : Nat} {l : L} (h : ReadsInt w .u8 B l.length l) : Calls Tryz.prog 119 #[.slice B l.length c] w fun e w' => e = .returned (endV (A 5) (A 11) l) ∧ Below w.heap.size w w' := by
  have c5 := (hE.sent 5 (by decide) (by decide)).cell
  have c11 := (hE.sent 11 (by decide) (by decide)).cell
  refine enter (args := [.slice B l.length c]) Tryz.func119 rfl Tryz.ntmps119 rfl ?_
  match l, h with
  | [], h =>
    repeat' (first | (with_reducible first | refine p_tn ?_ | refine wp_seq ?_ | refine wp_block ?_ | refine w_reg ?_ | refine l_nil ?_) | (with_reducible (refine is_l ?_; (refine l_p tys rfl rfl ?_))))
    (with_reducible refine is_l ?_); refine l_t tys rfl rfl (fun _ => ?_) (fun hh => absurd rfl hh)
    have he : endS [] = .error 140 := rfl
    repeat' (first | (with_reducible first | refine p_tn ?_ | refine wp_seq ?_) | (with_reducible (refine is_if ?_; (refine w_ift rfl ?_))) | (with_reducible refine l_nil ?_) | (with_reducible (refine is_l ?_; (first | (refine l_off rfl ?_) | (refine l_p tys rfl rfl ?_)))))
    refine w_draw (C := fun w' => Below w.heap.size w w') (by kernel_rfl) (by kernel_rfl) (below_drew (Below.refl _ w)) ?_
    skip
    refine q_ld tys rfl rfl (fun w' K => pw_cell_below K c5) ?_
    repeat' (first | (with_reducible refine q_nil ?_) | (with_reducible (refine is_q ?_; (refine q_p tys rfl rfl ?_))))
    intro we Be
    repeat' (with_reducible first | refine p_tn ?_ | refine p_tr ?_ | refine p_br ?_ | refine wp_ret ?_)
    refine end2 rfl rfl rfl ?_
    exact ⟨by rw [endV_short he], Be⟩
  | [x], h =>
    obtain ⟨ad, rfl, _⟩ := h.2.2 (by simp)
    have d0 : w.cell? (ad.add ((0 : Int).toNat * 1)) = some (.int .u8 x) := cell_at h 0 (by simp)
    repeat' (first | (with_reducible first | refine p_tn ?_ | refine wp_seq ?_ | refine wp_block ?_ | refine w_reg ?_ | refine l_nil ?_) | (with_reducible (refine is_l ?_; (refine l_p tys rfl rfl ?_))))
    (with_reducible refine is_l ?_); refine l_t tys rfl rfl (fun hh => absurd hh (by first | omega | (simp; done) | (simp; omega) | (simp only [List.length_cons, List.length_nil]; omega))) (fun _ => ?_)
    repeat' (with_reducible (refine is_l ?_; (refine l_p tys rfl rfl ?_)))
    (with_reducible refine is_l ?_); refine l_t tys rfl rfl (fun _ => ?_) (fun hh => absurd (by first | omega | (simp; done) | (simp; omega) | (simp only [List.length_cons, List.length_nil]; omega)) hh)
    repeat' (with_reducible (refine is_l ?_; (refine l_p tys rfl rfl ?_)))
    (with_reducible refine is_l ?_); refine l_ia tys rfl rfl (by omega) (by first | omega | (simp; done) | (simp; omega) | (simp only [List.length_cons, List.length_nil]; omega)) ?_
    (with_reducible refine is_l ?_); refine l_ld tys rfl rfl d0 ?_
    skip
    (with_reducible refine is_l ?_); refine l_t tys rfl rfl (fun h13 => ?_) (fun h13 => ?_)
    · have he : endS [x] = .error 140 := by rw [h13]; rfl
      repeat' (first | (with_reducible first | refine p_tn ?_ | refine wp_seq ?_) | (with_reducible (refine is_if ?_; (refine w_ift rfl ?_))) | (with_reducible refine l_nil ?_) | (with_reducible (refine is_l ?_; (refine l_p tys rfl rfl ?_))))
      refine w_draw (C := fun w' => Below w.heap.size w w') (by kernel_rfl) (by kernel_rfl) (below_drew (Below.refl _ w)) ?_
      skip
      refine q_ld tys rfl rfl (fun w' K => pw_cell_below K c5) ?_
      repeat' (first | (with_reducible refine q_nil ?_) | (with_reducible (refine is_q ?_; (refine q_p tys rfl rfl ?_))))
      intro we Be
      repeat' (with_reducible first | refine p_tn ?_ | refine p_tr ?_ | refine p_br ?_ | refine wp_ret ?_)
      refine end2 rfl rfl rfl ?_
      exact ⟨by rw [endV_short he], Be⟩
    repeat' (first | (with_reducible first | refine p_tn ?_ | refine wp_seq ?_ | refine w_reg ?_) | (with_reducible (refine is_if ?_; (refine w_iff rfl ?_))) | (with_reducible refine l_nil ?_) | (with_reducible (refine is_l ?_; (refine l_p tys rfl rfl ?_))))
    (with_reducible refine is_l ?_); refine l_ia tys rfl rfl (by omega) (by first | omega | (simp; done) | (simp; omega) | (simp only [List.length_cons, List.length_nil]; omega)) ?_
    (with_reducible refine is_l ?_); refine l_ld tys rfl rfl d0 ?_
    skip
    (with_reducible refine is_l ?_); refine l_t tys rfl rfl (fun h10 => ?_) (fun h10 => ?_)
    · have he : endS ([x]) = .ok [] := by rw [h10]; rfl
      repeat' (first | (with_reducible first | refine p_tn ?_ | refine p_tr ?_ | refine p_br ?_ | refine wp_seq ?_ | refine w_reg ?_) | (with_reducible (refine is_if ?_; (refine w_ift rfl ?_))) | (with_reducible first | refine wp_ret ?_ | refine l_nil ?_) | (with_reducible (refine is_l ?_; (refine l_p tys rfl rfl ?_))))
      refine end2 rfl rfl rfl ?_
      have hk : ([x] : L).length - ([] : L).length = 1 := by first | (simp; done) | (simp only [List.length_cons]; omega)
      exact ⟨by rw [endV_ok he, hk]; rfl, Below.refl _ w⟩
    repeat' (first | (with_reducible first | refine p_tn ?_ | refine wp_seq ?_ | refine w_reg ?_) | (with_reducible (refine is_if ?_; (refine w_iff rfl ?_))) | (with_reducible refine l_nil ?_) | (with_reducible (refine is_l ?_; (refine l_p tys rfl rfl ?_))))
    (with_reducible refine is_l ?_); refine l_ia tys rfl rfl (by omega) (by first | omega | (simp; done) | (simp; omega) | (simp only [List.length_cons, List.length_nil]; omega)) ?_
    (with_reducible refine is_l ?_); refine l_ld tys rfl rfl d0 ?_
    skip
    (with_reducible refine is_l ?_); refine l_t tys rfl rfl (fun h13' => absurd h13' h13) (fun _ => ?_)
    have he : endS ([x]) = .error 146 := by unfold endS; split <;> simp_all
    repeat' (first | (with_reducible first | refine p_tn ?_ | refine p_bn ?_ | refine wp_seq ?_) | (with_reducible (refine is_if ?_; (refine w_iff rfl ?_))) | (with_reducible first | refine wp_skip ?_ | refine l_nil ?_) | (with_reducible (refine is_l ?_; (first | (refine l_off rfl ?_) | (refine l_p tys rfl rfl ?_)))))
    refine w_draw (C := fun w' => Below w.heap.size w w') (by kernel_rfl) (by kernel_rfl) (below_drew (Below.refl _ w)) ?_
    skip
    refine q_ld tys rfl rfl (fun w' K => pw_cell_below K c11) ?_
    repeat' (first | (with_reducible refine q_nil ?_) | (with_reducible (refine is_q ?_; (refine q_p tys rfl rfl ?_))))
    intro we Be
    repeat' (with_reducible first | refine p_tn ?_ | refine wp_ret ?_)
    refine end2 rfl rfl rfl ?_
    exact ⟨by rw [endV_chunk he], Be⟩
  | x :: y :: r, h =>
    obtain ⟨ad, rfl, _⟩ := h.2.2 (by simp)
    have d0 : w.cell? (ad.add ((0 : Int).toNat * 1)) = some (.int .u8 x) := cell_at h 0 (by simp)
    have d1 : w.cell? (ad.add ((1 : Int).toNat * 1)) = some (.int .u8 y) := cell_at h 1 (by simp)
    repeat' (first | (with_reducible first | refine p_tn ?_ | refine wp_seq ?_ | refine wp_block ?_ | refine w_reg ?_ | refine l_nil ?_) | (with_reducible (refine is_l ?_; (refine l_p tys rfl rfl ?_))))
    (with_reducible refine is_l ?_); refine l_t tys rfl rfl (fun hh => absurd hh (by first | omega | (simp; done) | (simp; omega) | (simp only [List.length_cons, List.length_nil]; omega))) (fun _ => ?_)
    repeat' (with_reducible (refine is_l ?_; (refine l_p tys rfl rfl ?_)))
    (with_reducible refine is_l ?_); refine l_t tys rfl rfl (fun hh => absurd hh (by first | omega | (simp; done) | (simp; omega) | (simp only [List.length_cons, List.length_nil]; omega))) (fun _ => ?_)
    repeat' (first | (with_reducible first | refine p_tn ?_ | refine wp_seq ?_ | refine w_reg ?_) | (with_reducible (refine is_if ?_; (refine w_iff rfl ?_))) | (with_reducible refine l_nil ?_) | (with_reducible (refine is_l ?_; (first | (refine l_off rfl ?_) | (refine l_p tys rfl rfl ?_)))))
    (with_reducible refine is_l ?_); refine l_ia tys rfl rfl (by omega) (by first | omega | (simp; done) | (simp; omega) | (simp only [List.length_cons, List.length_nil]; omega)) ?_
    (with_reducible refine is_l ?_); refine l_ld tys rfl rfl d0 ?_
    skip
    (with_reducible refine is_l ?_); refine l_t tys rfl rfl (fun h10 => ?_) (fun h10 => ?_)
    · have he : endS (x :: y :: r) = .ok (y :: r) := by rw [h10]; rfl
      repeat' (first | (with_reducible first | refine p_tn ?_ | refine p_tr ?_ | refine p_br ?_ | refine wp_seq ?_ | refine w_reg ?_) | (with_reducible (refine is_if ?_; (refine w_ift rfl ?_))) | (with_reducible first | refine wp_ret ?_ | refine l_nil ?_) | (with_reducible (refine is_l ?_; (refine l_p tys rfl rfl ?_))))
      refine end2 rfl rfl rfl ?_
      have hk : (x :: y :: r : L).length - ((y :: r) : L).length = 1 := by first | (simp; done) | (simp only [List.length_cons]; omega)
      exact ⟨by rw [endV_ok he, hk]; rfl, Below.refl _ w⟩
    repeat' (first | (with_reducible first | refine p_tn ?_ | refine wp_seq ?_ | refine w_reg ?_) | (with_reducible (refine is_if ?_; (refine w_iff rfl ?_))) | (with_reducible refine l_nil ?_) | (with_reducible (refine is_l ?_; (refine l_p tys rfl rfl ?_))))
    (with_reducible refine is_l ?_); refine l_ia tys rfl rfl (by omega) (by first | omega | (simp; done) | (simp; omega) | (simp only [List.length_cons, List.length_nil]; omega)) ?_
    (with_reducible refine is_l ?_); refine l_ld tys rfl rfl d0 ?_
    skip
    (with_reducible refine is_l ?_); refine l_t tys rfl rfl (fun h13 => ?_) (fun h13 => ?_)
    · repeat' (with_reducible (refine is_l ?_; (refine l_p tys rfl rfl ?_)))
      (with_reducible refine is_l ?_); refine l_ia tys rfl rfl (by omega) (by first | omega | (simp; done) | (simp; omega) | (simp only [List.length_cons, List.length_nil]; omega)) ?_
      (with_reducible refine is_l ?_); refine l_ld tys rfl rfl d1 ?_
      skip
      (with_reducible refine is_l ?_); refine l_t tys rfl rfl (fun hy => ?_) (fun hy => ?_)
      · have he : endS (x :: y :: r) = .ok r := by rw [h13, hy]; rfl
        repeat' (first | (with_reducible first | refine p_tn ?_ | refine p_tr ?_ | refine p_br ?_ | refine wp_seq ?_ | refine w_reg ?_) | (with_reducible (refine is_if ?_; (refine w_ift rfl ?_))) | (with_reducible first | refine wp_ret ?_ | refine l_nil ?_) | (with_reducible (refine is_l ?_; (refine l_p tys rfl rfl ?_))))
        refine end2 rfl rfl rfl ?_
        have hk : (x :: y :: r : L).length - (r : L).length = 2 := by first | (simp; done) | (simp only [List.length_cons]; omega)
        exact ⟨by rw [endV_ok he, hk]; rfl, Below.refl _ w⟩
      · have he : endS (x :: y :: r) = .error 146 := by unfold endS; split <;> simp_all
        repeat' (first | (with_reducible first | refine p_tn ?_ | refine p_bn ?_ | refine wp_seq ?_) | (with_reducible (refine is_if ?_; (refine w_iff rfl ?_))) | (with_reducible first | refine wp_skip ?_ | refine l_nil ?_) | (with_reducible (refine is_l ?_; (refine l_p tys rfl rfl ?_))))
        refine w_draw (C := fun w' => Below w.heap.size w w') (by kernel_rfl) (by kernel_rfl) (below_drew (Below.refl _ w)) ?_
        skip
        refine q_ld tys rfl rfl (fun w' K => pw_cell_below K c11) ?_
        repeat' (first | (with_reducible refine q_nil ?_) | (with_reducible (refine is_q ?_; (refine q_p tys rfl rfl ?_))))
        intro we Be
        repeat' (with_reducible first | refine p_tn ?_ | refine wp_ret ?_)
        refine end2 rfl rfl rfl ?_
        exact ⟨by rw [endV_chunk he], Be⟩
    · have he : endS (x :: y :: r) = .error 146 := by unfold endS; split <;> simp_all
      repeat' (first | (with_reducible first | refine p_tn ?_ | refine p_bn ?_ | refine wp_seq ?_) | (with_reducible (refine is_if ?_; (refine w_iff rfl ?_))) | (with_reducible first | refine wp_skip ?_ | refine l_nil ?_) | (with_reducible (refine is_l ?_; (first | (refine l_off rfl ?_) | (refine l_p tys rfl rfl ?_)))))
      refine w_draw (C := fun w' => Below w.heap.size w w') (by kernel_rfl) (by kernel_rfl) (below_drew (Below.refl _ w)) ?_
      skip
      refine q_ld tys rfl rfl (fun w' K => pw_cell_below K c11) ?_
      repeat' (first | (with_reducible refine q_nil ?_) | (with_reducible (refine is_q ?_; (refine q_p tys rfl rfl ?_))))
      intro we Be
      repeat' (with_reducible first | refine p_tn ?_ | refine wp_ret ?_)
      refine end2 rfl rfl rfl ?_
      exact ⟨by rw [endV_chunk he], Be⟩
end Go.Proofs.YthgojbdpmcccaaaGreatDoor.K
end
section
namespace Go.Proofs.YthgojbdpmcccaaaGreatDoor.K
open Go.RowKit Go.Proofs.YthgojbdpmcccaaaGreatDoor.Q Go.Proofs.YthgojbdpmcccaaaGreatDoor.Wb Go.Proofs.YthgojbdpmcccaaaGreatDoorW.PrintWords
set_option linter.unusedVariables false
set_option linter.unusedSimpArgs false
theorem kind_token : Kind 150 tokB := ⟨by kernel_rfl, fun c w h0 h1 => isTokenByte_c c w h0 h1⟩
theorem kind_digit : Kind 157 digB := ⟨by kernel_rfl, fun c w h0 h1 => isDigit_c c w⟩
theorem kind_value : Kind 121 valB := ⟨by kernel_rfl, fun c w h0 h1 => isValueByte_c c w⟩
theorem kind_visible : Kind 100 visB := ⟨by kernel_rfl, fun c w h0 h1 => isVisible_c c w⟩
theorem bl_nil : bl ⟨#[]⟩ = [] := rfl
theorem token_c (s : ByteArray) (w : World) (hs : (s.size : Int) ≤ 9223372036854775806) : Calls Tryz.prog 98 #[.string s] w fun e w' => e = .returned (.bool (tokS (bl s))) ∧ w' = w := by
  refine enter (args := [.string s]) Tryz.func98 rfl Tryz.ntmps98 rfl ?_
  repeat' (first | (with_reducible first | refine p_tn ?_ | refine wp_seq ?_ | refine w_reg ?_ | refine l_nil ?_) | (with_reducible (refine is_l ?_; (refine l_p tys rfl rfl ?_))))
  (with_reducible refine is_l ?_); refine l_t tys rfl rfl (fun h => ?_) (fun h => ?_)
  · rw [bl_nil] at h
    repeat' (with_reducible (refine is_l ?_; (refine l_p tys rfl rfl ?_)))
    (with_reducible refine is_l ?_); refine l_callp rfl rfl (by kernel_rfl) (all_c s 150 tokB kind_token w hs) ?_
    have he : (bl s).isEmpty = false := by
      cases hb : bl s with
      | nil => exact absurd hb h
      | cons _ _ => rfl
    cases ha : (bl s).all tokB
    all_goals
      repeat' (first | (with_reducible first | refine p_tn ?_ | refine wp_ret ?_ | refine l_nil ?_) | (with_reducible (refine is_l ?_; (refine l_p tys rfl rfl ?_))))
      refine end1 rfl rfl ?_
      exact ⟨by unfold tokS; rw [he, ha]; rfl, rfl⟩
  · rw [bl_nil] at h
    have hb : bl s = [] := Classical.not_not.1 h
    repeat' (first | (with_reducible first | refine p_tn ?_ | refine wp_ret ?_ | refine l_nil ?_) | (with_reducible (refine is_l ?_; (first | (refine l_off rfl ?_) | (refine l_p tys rfl rfl ?_)))))
    refine end1 rfl rfl ?_
    exact ⟨by unfold tokS; rw [hb]; rfl, rfl⟩
def numberV (s : L) (most : Int) : Value := match numS s with
  | some n => .tuple #[.int .i64 (if most + 1 < (n : Int) then most + 1 else (n : Int)), .bool true]
  | none => .tuple #[.int .i64 0, .bool false]
theorem numberV_none {s : L} (most : Int) (h : numS s = none) : numberV s most = .tuple #[.int .i64 0, .bool false] := by unfold numberV; rw [h]
theorem numberV_some {s : L} (most : Int) {n : Nat} (h : numS s = some n) : numberV s most = .tuple #[.int .i64 (if most + 1 < (n : Int) then most + 1 else (n : Int)), .bool true] := by unfold numberV; rw [h]
theorem digit_at {s : ByteArray} (h : (bl s).all digB = true) (i : Int) (h0 : 0 ≤ i) (h1 : i < s.size) : 48 ≤ at_ (bl s) i ∧ at_ (bl s) i ≤ 57 := by
  have hm : at_ (bl s) i ∈ bl s := by
    unfold at_
    rw [List.getD_eq_getElem?_getD, List.getElem?_eq_getElem (show i.toNat < (bl s).length by rw [bl_length]; omega)]
    exact List.getElem_mem _
  have := List.all_eq_true.1 h _ hm
  unfold digB at this
  simpa using this
set_option maxHeartbeats 2000000 in
theorem number_c (s : ByteArray) (most : Int) (m0 : 0 ≤ most) (m1 : most ≤ 100000000000) (w : World) (hs : (s.size : Int) ≤ 9223372036854775806) :
    Calls Tryz.prog 159 #[.string s, .int .i64 most] w fun e w' => e = .returned (numberV (bl s) most) ∧ w' = w := by
  have hlen := bl_length s
  refine enter (args := [.string s, .int .i64 most]) Tryz.func159 rfl Tryz.ntmps159 rfl ?_
  repeat' (first | (with_reducible first | refine p_tn ?_ | refine wp_seq ?_ | refine w_reg ?_ | refine l_nil ?_) | (with_reducible (refine is_l ?_; (refine l_p tys rfl rfl ?_))))
  (with_reducible refine is_l ?_); refine l_t tys rfl rfl (fun h => ?_) (fun h => ?_)
  · rw [bl_nil] at h
    have hn : numS (bl s) = none := by unfold numS; rw [if_pos (Or.inl h)]
    repeat' (first | (with_reducible first | refine p_tn ?_ | refine p_tr ?_ | refine wp_seq ?_ | refine w_reg ?_) | (with_reducible (refine is_if ?_; (refine w_ift rfl ?_))) | (with_reducible first | refine wp_ret ?_ | refine l_nil ?_) | (with_reducible (refine is_l ?_; (first | (refine l_off rfl ?_) | (refine l_p tys rfl rfl ?_)))))
    refine end2 rfl rfl rfl ?_
    exact ⟨by rw [numberV_none most hn], rfl⟩
  rw [bl_nil] at h
  repeat' (with_reducible (refine is_l ?_; (refine l_p tys rfl rfl ?_)))
  (with_reducible refine is_l ?_); refine l_callp rfl rfl (by kernel_rfl) (all_c s 157 digB kind_digit w hs) ?_
  cases ha : (bl s).all digB
  · have hn : numS (bl s) = none := by unfold numS; rw [if_pos (Or.inr (Or.inl ha))]
    repeat' (first | (with_reducible first | refine p_tn ?_ | refine p_tr ?_ | refine wp_seq ?_ | refine w_reg ?_) | (with_reducible (refine is_if ?_; (refine w_ift rfl ?_))) | (with_reducible first | refine wp_ret ?_ | refine l_nil ?_) | (with_reducible (refine is_l ?_; (first | (refine l_off rfl ?_) | (refine l_p tys rfl rfl ?_)))))
    refine end2 rfl rfl rfl ?_
    exact ⟨by rw [numberV_none most hn], rfl⟩
  have hpos : 0 < s.size := by
    rw [← hlen]
    cases hb : bl s with
    | nil => exact absurd hb h
    | cons _ _ => simp
  have hhead : (bl s).head? = some (at_ (bl s) 0) := by
    cases hb : bl s with
    | nil => exact absurd hb h
    | cons c r => rfl
  repeat' (with_reducible (refine is_l ?_; (refine l_p tys rfl rfl ?_)))
  (with_reducible refine is_l ?_); refine l_t tys rfl rfl (fun h1 => ?_) (fun h1 => ?_)
  · repeat' (with_reducible (refine is_l ?_; (first | (refine l_p tys rfl rfl ?_) | (refine l_ix tys rfl rfl (by first | omega | assumption | decide) (by first | omega | assumption | decide) ?_))))
    (with_reducible refine is_l ?_); refine l_t tys rfl rfl (fun hz => ?_) (fun hz => ?_)
    · have hn : numS (bl s) = none := by unfold numS; rw [if_pos (Or.inr (Or.inr ⟨by omega, by rw [hhead, hz]⟩))]
      repeat' (first | (with_reducible first | refine p_tn ?_ | refine p_tr ?_ | refine wp_seq ?_ | refine w_reg ?_) | (with_reducible (refine is_if ?_; (refine w_ift rfl ?_))) | (with_reducible first | refine wp_ret ?_ | refine l_nil ?_) | (with_reducible (refine is_l ?_; (refine l_p tys rfl rfl ?_))))
      refine end2 rfl rfl rfl ?_
      exact ⟨by rw [numberV_none most hn], rfl⟩
    have hn : numS (bl s) = some (numV 0 (bl s)) := by
      unfold numS
      rw [if_neg]
      rintro (h2 | h2 | h2)
      · exact h h2
      · rw [ha] at h2; cases h2
      · have := h2.2
        rw [hhead] at this
        exact hz (Option.some.inj this)
    repeat' (first | (with_reducible first | refine p_tn ?_ | refine wp_seq ?_ | refine wp_block ?_ | refine w_reg ?_) | (with_reducible (refine is_if ?_; (refine w_iff rfl ?_))) | (with_reducible first | refine wp_skip ?_ | refine l_nil ?_) | (with_reducible (refine is_l ?_; (refine l_p tys rfl rfl ?_))))
    refine w_loop (σ := Int × Nat) (S := fun st => [(0, .string s), (1, .int .i64 most), (26, .int .i64 s.size), (27, .int .i64 st.1), (6, .int .i64 (if most + 1 < (st.2 : Int) then most + 1 else (st.2 : Int)))]) (J := fun st w' => w' = w ∧ 0 ≤ st.1 ∧ st.1 ≤ s.size ∧ numV 0 (bl s) = numV st.2 ((bl s).drop st.1.toNat)) (μ := fun st => ((s.size : Int) - st.1).toNat) (0, 0) ⟨rfl, rfl, rfl, rfl, by show Value.int _ _ = Value.int _ _; congr 1; rw [if_neg (by omega)]; rfl, trivial⟩ ⟨rfl, by simp, by simp, rfl⟩ ?_
    rintro ⟨i, v⟩ f w' ⟨rfl, i0, i1, hv⟩
    simp only at i0 i1 hv ⊢
    obtain ⟨x, hx⟩ : ∃ x : Int, x = (if most + 1 < (v : Int) then most + 1 else (v : Int)) := ⟨_, rfl⟩
    rw [← hx]
    have hx1 : 0 ≤ x ∧ x ≤ most + 1 := by rw [hx]; split <;> omega
    repeat' (with_reducible first | refine wp_seq ?_ | refine w_reg ?_)
    (with_reducible refine is_l ?_); refine l_t tys rfl rfl (fun hlt => ?_) (fun hge => ?_)
    · have hd := digit_at ha i i0 hlt
      have hdrop := drop_at (bl s) i i0 (by omega)
      repeat' (first | (with_reducible first | refine p_tn ?_ | refine p_bn ?_ | refine wp_seq ?_ | refine wp_block ?_ | refine w_reg ?_) | (with_reducible (refine is_if ?_; (refine w_ift rfl ?_))) | (with_reducible first | refine wp_skip ?_ | refine l_nil ?_) | (with_reducible (refine is_l ?_; (first | (refine l_p tys rfl rfl ?_) | (refine l_a tys rfl rfl (by first | exact in_i64 (by omega) (by omega) | exact in_u8 (by omega) (by omega) | exact in_u64 (by omega) (by omega) | exact in_i32 (by omega) (by omega)) ?_) | (refine l_ix tys rfl rfl (by first | omega | assumption | decide) (by first | omega | assumption | decide) ?_)))))
      refine ⟨(i + 1, 10 * v + (at_ (bl s) i - 48).toNat), _, rfl, ⟨rfl, rfl, rfl, rfl, by show Value.int _ _ = Value.int _ _; congr 1; rw [hx]; split <;> split <;> split <;> omega, trivial⟩, ⟨rfl, by show 0 ≤ i + 1; omega, by show i + 1 ≤ _; omega, ?_⟩, by show (_ - (i + 1)).toNat < (_ - i).toNat; omega⟩
      show _ = numV (10 * v + (at_ (bl s) i - 48).toNat) ((bl s).drop (i + 1).toNat)
      rw [hv, hdrop, numV]
    · have hnil : (bl s).drop i.toNat = [] := List.drop_eq_nil_of_le (by omega)
      rw [hnil, numV] at hv
      repeat' (first | (with_reducible first | refine p_tn ?_ | refine p_tx ?_ | refine x_hit ?_ | refine wp_seq ?_ | refine w_reg ?_) | (with_reducible (refine is_if ?_; (refine w_iff rfl ?_))) | (with_reducible first | refine wp_exit ?_ | refine wp_ret ?_ | refine l_nil ?_) | (with_reducible (refine is_l ?_; (refine l_p tys rfl rfl ?_))))
      refine end2 rfl rfl rfl ?_
      exact ⟨by rw [numberV_some most hn, hv, hx], rfl⟩
  · have hn : numS (bl s) = some (numV 0 (bl s)) := by
      unfold numS
      rw [if_neg]
      rintro (h2 | h2 | h2)
      · exact h h2
      · rw [ha] at h2; cases h2
      · omega
    repeat' (first | (with_reducible first | refine p_tn ?_ | refine wp_seq ?_ | refine wp_block ?_ | refine w_reg ?_) | (with_reducible (refine is_if ?_; (refine w_iff rfl ?_))) | (with_reducible first | refine wp_skip ?_ | refine l_nil ?_) | (with_reducible (refine is_l ?_; (first | (refine l_off rfl ?_) | (refine l_p tys rfl rfl ?_)))))
    refine w_loop (σ := Int × Nat) (S := fun st => [(0, .string s), (1, .int .i64 most), (26, .int .i64 s.size), (27, .int .i64 st.1), (6, .int .i64 (if most + 1 < (st.2 : Int) then most + 1 else (st.2 : Int)))]) (J := fun st w' => w' = w ∧ 0 ≤ st.1 ∧ st.1 ≤ s.size ∧ numV 0 (bl s) = numV st.2 ((bl s).drop st.1.toNat)) (μ := fun st => ((s.size : Int) - st.1).toNat) (0, 0) ⟨rfl, rfl, rfl, rfl, by show Value.int _ _ = Value.int _ _; congr 1; rw [if_neg (by omega)]; rfl, trivial⟩ ⟨rfl, by simp, by simp, rfl⟩ ?_
    rintro ⟨i, v⟩ f w' ⟨rfl, i0, i1, hv⟩
    simp only at i0 i1 hv ⊢
    obtain ⟨x, hx⟩ : ∃ x : Int, x = (if most + 1 < (v : Int) then most + 1 else (v : Int)) := ⟨_, rfl⟩
    rw [← hx]
    have hx1 : 0 ≤ x ∧ x ≤ most + 1 := by rw [hx]; split <;> omega
    repeat' (with_reducible first | refine wp_seq ?_ | refine w_reg ?_)
    (with_reducible refine is_l ?_); refine l_t tys rfl rfl (fun hlt => ?_) (fun hge => ?_)
    · have hd := digit_at ha i i0 hlt
      have hdrop := drop_at (bl s) i i0 (by omega)
      repeat' (first | (with_reducible first | refine p_tn ?_ | refine p_bn ?_ | refine wp_seq ?_ | refine wp_block ?_ | refine w_reg ?_) | (with_reducible (refine is_if ?_; (refine w_ift rfl ?_))) | (with_reducible first | refine wp_skip ?_ | refine l_nil ?_) | (with_reducible (refine is_l ?_; (first | (refine l_p tys rfl rfl ?_) | (refine l_a tys rfl rfl (by first | exact in_i64 (by omega) (by omega) | exact in_u8 (by omega) (by omega) | exact in_u64 (by omega) (by omega) | exact in_i32 (by omega) (by omega)) ?_) | (refine l_ix tys rfl rfl (by first | omega | assumption | decide) (by first | omega | assumption | decide) ?_)))))
      refine ⟨(i + 1, 10 * v + (at_ (bl s) i - 48).toNat), _, rfl, ⟨rfl, rfl, rfl, rfl, by show Value.int _ _ = Value.int _ _; congr 1; rw [hx]; split <;> split <;> split <;> omega, trivial⟩, ⟨rfl, by show 0 ≤ i + 1; omega, by show i + 1 ≤ _; omega, ?_⟩, by show (_ - (i + 1)).toNat < (_ - i).toNat; omega⟩
      show _ = numV (10 * v + (at_ (bl s) i - 48).toNat) ((bl s).drop (i + 1).toNat)
      rw [hv, hdrop, numV]
    · have hnil : (bl s).drop i.toNat = [] := List.drop_eq_nil_of_le (by omega)
      rw [hnil, numV] at hv
      repeat' (first | (with_reducible first | refine p_tn ?_ | refine p_tx ?_ | refine x_hit ?_ | refine wp_seq ?_ | refine w_reg ?_) | (with_reducible (refine is_if ?_; (refine w_iff rfl ?_))) | (with_reducible first | refine wp_exit ?_ | refine wp_ret ?_ | refine l_nil ?_) | (with_reducible (refine is_l ?_; (refine l_p tys rfl rfl ?_))))
      refine end2 rfl rfl rfl ?_
      exact ⟨by rw [numberV_some most hn, hv, hx], rfl⟩
theorem dropWhile_map' {α β : Type} (f : α → β) (p : α → Bool) (q : β → Bool) (h : ∀ x, p x = q (f x)) : ∀ l : List α, (l.dropWhile p).map f = (l.map f).dropWhile q
  | [] => rfl
  | x :: l => by
    simp only [List.map_cons, List.dropWhile_cons, ← h x]
    split
    · exact dropWhile_map' f p q h l
    · rfl
theorem blk_u8 (x : UInt8) : ([32, 9] : List UInt8).contains x = blkB (x.toNat : Int) := by
  unfold blkB
  rw [Bool.eq_iff_iff]
  simp only [List.contains_eq_mem, List.mem_cons, List.not_mem_nil, or_false, Bool.or_eq_true, decide_eq_true_eq, ← UInt8.toNat_inj]
  have h1 : (32 : UInt8).toNat = 32 := rfl
  have h2 : (9 : UInt8).toNat = 9 := rfl
  rw [h1, h2]
  omega
theorem trimR_cons (c : Int) (r : L) : trimR (c :: r) = if trimR r = [] then (if blkB c then [] else [c]) else c :: trimR r := by
  unfold trimR
  rw [List.reverse_cons, List.dropWhile_append]
  cases h : r.reverse.dropWhile blkB with
  | nil =>
    simp only [List.isEmpty_nil, if_true, List.reverse_nil, List.dropWhile_cons, List.dropWhile_nil]
    split <;> rfl
  | cons x m =>
    simp
theorem trim_swap : ∀ l : L, trimR (l.dropWhile blkB) = (trimR l).dropWhile blkB
  | [] => rfl
  | c :: r => by
    have ih := trim_swap r
    rw [trimR_cons, List.dropWhile_cons]
    cases hc : blkB c
    · simp only [Bool.false_eq_true, if_false]
      rw [trimR_cons, hc]
      split
      · simp [List.dropWhile_cons, hc]
      · simp [List.dropWhile_cons, hc]
    · simp only [if_true]
      rw [ih]
      split
      · rename_i h; rw [h]
      · simp [List.dropWhile_cons, hc]
theorem trim_eq (l : List UInt8) : (Lib.trimS l [32, 9]).map (fun b => (b.toNat : Int)) = trimS (l.map fun b => (b.toNat : Int)) := by
  unfold Lib.trimS Lib.trimRightS Lib.trimLeftS trimS
  rw [dropWhile_map' _ _ blkB blk_u8, List.map_reverse, dropWhile_map' _ _ blkB blk_u8, List.map_reverse, trim_swap]
  rfl
theorem trim_c (s : ByteArray) (w : World) (hs : s.size ≤ 9223372036854775807) : Calls Tryz.prog 97 #[.string s] w fun e w' => e = .returned (.string (strOfNums (trimS (bl s)))) ∧ Below w.heap.size w w' := by
  refine enter (args := [.string s]) Tryz.func97 rfl Tryz.ntmps97 rfl ?_
  repeat' (first | (with_reducible first | refine p_tn ?_ | refine wp_seq ?_ | refine w_reg ?_ | refine l_nil ?_) | (with_reducible (refine is_l ?_; (refine l_p tys rfl rfl ?_))))
  (with_reducible refine is_l ?_); refine l_callv rfl rfl (by kernel_rfl) (Any.strings_Trim_laid Tryz.lays160 (by kernel_rfl) s ⟨#[32, 9]⟩ w hs (by decide) (ascii_of_all (by decide))) (fun w1 B1 => ?_)
  repeat' (first | (with_reducible first | refine p_tn ?_ | refine wp_ret ?_ | refine l_nil ?_) | (with_reducible (refine is_l ?_; (refine l_p tys rfl rfl ?_))))
  refine end1 rfl rfl ?_
  refine ⟨?_, B1⟩
  congr 2
  apply bl_inj
  have h : bl ⟨(Lib.trimS s.data.toList [32, 9]).toArray⟩ = trimS (bl s) := trim_eq s.data.toList
  have hb : Bytes (trimS (bl s)) := by rw [← h]; exact bl_bytes _
  rw [blS hb]
  exact h
def versV (s : L) : Value := match versS s with
  | some (a, b) => .tuple #[.int .i64 b, .bool true, .bool (decide (a = 1) && decide (b ≤ 1))]
  | none => .tuple #[.int .i64 0, .bool false, .bool false]
theorem versV_none {s : L} (h : versS s = none) : versV s = .tuple #[.int .i64 0, .bool false, .bool false] := by unfold versV; rw [h]
theorem versV_some {s : L} {a b : Int} (h : versS s = some (a, b)) : versV s = .tuple #[.int .i64 b, .bool true, .bool (decide (a = 1) && decide (b ≤ 1))] := by unfold versV; rw [h]
theorem eight {l : L} (h : l.length = 8) : ∃ a b c d e f g i, l = [a, b, c, d, e, f, g, i] := by
  match l, h with
  | [a, b, c, d, e, f, g, i], _ => exact ⟨a, b, c, d, e, f, g, i, rfl⟩
theorem vers_none {a b c d e f g i : Int} (h : ¬ ([a, b, c, d, e] = [72, 84, 84, 80, 47] ∧ digB f = true ∧ g = 46 ∧ digB i = true)) : versS [a, b, c, d, e, f, g, i] = none := by
  unfold versS
  split
  · rename_i x y heq
    simp only [List.cons.injEq, and_true] at heq
    obtain ⟨rfl, rfl, rfl, rfl, rfl, rfl, rfl, rfl⟩ := heq
    rw [if_neg]
    intro hd
    exact h ⟨rfl, hd.1, rfl, hd.2⟩
  · rfl
set_option maxHeartbeats 2000000 in
theorem version_c (s : ByteArray) (w : World) : Calls Tryz.prog 110 #[.string s] w fun e w' => e = .returned (versV (bl s)) ∧ w' = w := by
  have hlen := bl_length s
  refine enter (args := [.string s]) Tryz.func110 rfl Tryz.ntmps110 rfl ?_
  repeat' (first | (with_reducible first | refine p_tn ?_ | refine wp_seq ?_ | refine w_reg ?_ | refine l_nil ?_) | (with_reducible (refine is_l ?_; (refine l_p tys rfl rfl ?_))))
  (with_reducible refine is_l ?_); refine l_t tys rfl rfl (fun h => ?_) (fun h => ?_)
  · have hn : versS (bl s) = none := by
      unfold versS
      split
      · rename_i x y heq
        rw [heq] at hlen
        simp at hlen
        omega
      · rfl
    repeat' (first | (with_reducible first | refine p_tn ?_ | refine p_tr ?_ | refine wp_seq ?_ | refine w_reg ?_) | (with_reducible (refine is_if ?_; (refine w_ift rfl ?_))) | (with_reducible first | refine wp_ret ?_ | refine l_nil ?_) | (with_reducible (refine is_l ?_; (first | (refine l_off rfl ?_) | (refine l_p tys rfl rfl ?_)))))
    refine end3 rfl rfl rfl rfl ?_
    exact ⟨by rw [versV_none hn], rfl⟩
  have h8 : s.size = 8 := by omega
  obtain ⟨a, b, c, d, e, g, i, j, hb⟩ := eight (l := bl s) (by omega)
  have a5 : at_ (bl s) 5 = g := by rw [hb]; rfl
  have a6 : at_ (bl s) 6 = i := by rw [hb]; rfl
  have a7 : at_ (bl s) 7 = j := by rw [hb]; rfl
  have hx : bl (s.extract (0 : Int).toNat (5 : Int).toNat) = [a, b, c, d, e] := by rw [blE, hb]; rfl
  have hy : bl ⟨#[72, 84, 84, 80, 47]⟩ = [72, 84, 84, 80, 47] := rfl
  repeat' (with_reducible (refine is_l ?_; (first | (refine l_p tys rfl rfl ?_) | (refine l_sl tys rfl rfl (by first | omega | assumption | decide) (by first | omega | assumption | decide) (by first | omega | assumption | decide) ?_))))
  (with_reducible refine is_l ?_); refine l_t tys rfl rfl (fun h1 => ?_) (fun h1 => ?_)
  · have hn : versS (bl s) = none := by
      rw [hb]
      exact vers_none (fun hh => h1 (by rw [hx, hy]; exact hh.1))
    repeat' (first | (with_reducible first | refine p_tn ?_ | refine p_tr ?_ | refine wp_seq ?_ | refine w_reg ?_) | (with_reducible (refine is_if ?_; (refine w_ift rfl ?_))) | (with_reducible first | refine wp_ret ?_ | refine l_nil ?_) | (with_reducible (refine is_l ?_; (first | (refine l_off rfl ?_) | (refine l_p tys rfl rfl ?_)))))
    refine end3 rfl rfl rfl rfl ?_
    exact ⟨by rw [versV_none hn], rfl⟩
  have h1' : [a, b, c, d, e] = [72, 84, 84, 80, 47] := by
    have := Classical.not_not.1 h1
    rw [hx, hy] at this
    exact this
  repeat' (with_reducible (refine is_l ?_; (first | (refine l_p tys rfl rfl ?_) | (refine l_ix tys rfl rfl (by first | omega | assumption | decide) (by first | omega | assumption | decide) ?_))))
  rw [a5]
  (with_reducible refine is_l ?_); refine l_callp rfl rfl (by kernel_rfl) (isDigit_c g w) ?_
  cases hg : digB g
  · have hn : versS (bl s) = none := by
      rw [hb]
      exact vers_none (fun hh => by rw [hg] at hh; exact absurd hh.2.1 (by simp))
    repeat' (first | (with_reducible first | refine p_tn ?_ | refine p_tr ?_ | refine wp_seq ?_ | refine w_reg ?_) | (with_reducible (refine is_if ?_; (refine w_ift rfl ?_))) | (with_reducible first | refine wp_ret ?_ | refine l_nil ?_) | (with_reducible (refine is_l ?_; (first | (refine l_off rfl ?_) | (refine l_p tys rfl rfl ?_)))))
    refine end3 rfl rfl rfl rfl ?_
    exact ⟨by rw [versV_none hn], rfl⟩
  repeat' (with_reducible (refine is_l ?_; (first | (refine l_p tys rfl rfl ?_) | (refine l_ix tys rfl rfl (by first | omega | assumption | decide) (by first | omega | assumption | decide) ?_))))
  rw [a6]
  (with_reducible refine is_l ?_); refine l_t tys rfl rfl (fun h2 => ?_) (fun h2 => ?_)
  · have hn : versS (bl s) = none := by
      rw [hb]
      exact vers_none (fun hh => h2 hh.2.2.1)
    repeat' (first | (with_reducible first | refine p_tn ?_ | refine p_tr ?_ | refine wp_seq ?_ | refine w_reg ?_) | (with_reducible (refine is_if ?_; (refine w_ift rfl ?_))) | (with_reducible first | refine wp_ret ?_ | refine l_nil ?_) | (with_reducible (refine is_l ?_; (first | (refine l_off rfl ?_) | (refine l_p tys rfl rfl ?_)))))
    refine end3 rfl rfl rfl rfl ?_
    exact ⟨by rw [versV_none hn], rfl⟩
  repeat' (with_reducible (refine is_l ?_; (first | (refine l_p tys rfl rfl ?_) | (refine l_ix tys rfl rfl (by first | omega | assumption | decide) (by first | omega | assumption | decide) ?_))))
  rw [a7]
  (with_reducible refine is_l ?_); refine l_callp rfl rfl (by kernel_rfl) (isDigit_c j w) ?_
  cases hj : digB j
  · have hn : versS (bl s) = none := by
      rw [hb]
      exact vers_none (fun hh => by rw [hj] at hh; exact absurd hh.2.2.2 (by simp))
    repeat' (first | (with_reducible first | refine p_tn ?_ | refine p_tr ?_ | refine wp_seq ?_ | refine w_reg ?_) | (with_reducible (refine is_if ?_; (refine w_ift rfl ?_))) | (with_reducible first | refine wp_ret ?_ | refine l_nil ?_) | (with_reducible (refine is_l ?_; (refine l_p tys rfl rfl ?_))))
    refine end3 rfl rfl rfl rfl ?_
    exact ⟨by rw [versV_none hn], rfl⟩
  have hv : versS (bl s) = some (g - 48, j - 48) := by
    have h2' := Classical.not_not.1 h2
    simp only [List.cons.injEq, and_true] at h1'
    obtain ⟨rfl, rfl, rfl, rfl, rfl⟩ := h1'
    rw [hb, h2']
    simp [versS, hg, hj]
  have rg : 48 ≤ g ∧ g ≤ 57 := by unfold digB at hg; simpa using hg
  have rj : 48 ≤ j ∧ j ≤ 57 := by unfold digB at hj; simpa using hj
  repeat' (first | (with_reducible first | refine p_tn ?_ | refine wp_seq ?_ | refine w_reg ?_) | (with_reducible (refine is_if ?_; (refine w_iff rfl ?_))) | (with_reducible first | refine wp_skip ?_ | refine l_nil ?_) | (with_reducible (refine is_l ?_; (first | (refine l_p tys rfl rfl ?_) | (refine l_a tys rfl rfl (by first | exact in_i64 (by omega) (by omega) | exact in_u8 (by omega) (by omega) | exact in_u64 (by omega) (by omega) | exact in_i32 (by omega) (by omega)) ?_) | (refine l_ix tys rfl rfl (by first | omega | assumption | decide) (by first | omega | assumption | decide) ?_)))))
  rw [a7]
  skip
  rw [a5]
  (with_reducible refine is_l ?_); refine l_t tys rfl rfl (fun h3 => ?_) (fun h3 => ?_)
  · repeat' (with_reducible (refine is_l ?_; (refine l_p tys rfl rfl ?_)))
    (with_reducible refine is_l ?_); refine l_t tys rfl rfl (fun h4 => ?_) (fun h4 => ?_)
    all_goals
      repeat' (first | (with_reducible first | refine p_tn ?_ | refine wp_ret ?_ | refine l_nil ?_) | (with_reducible (refine is_l ?_; (refine l_p tys rfl rfl ?_))))
      refine end3 rfl rfl rfl rfl ?_
      refine ⟨?_, rfl⟩
      rw [versV_some hv]
      congr 4
      simp [h3, h4]
  · repeat' (first | (with_reducible first | refine p_tn ?_ | refine wp_ret ?_ | refine l_nil ?_) | (with_reducible (refine is_l ?_; (first | (refine l_off rfl ?_) | (refine l_p tys rfl rfl ?_)))))
    refine end3 rfl rfl rfl rfl ?_
    refine ⟨?_, rfl⟩
    rw [versV_some hv]
    have : ¬ g - 48 = 1 := by omega
    simp [this]
end Go.Proofs.YthgojbdpmcccaaaGreatDoor.K
end
section
namespace Go.Proofs.YthgojbdpmcccaaaGreatDoor.K
open Go.RowKit Go.Proofs.YthgojbdpmcccaaaGreatDoor.Q Go.Proofs.YthgojbdpmcccaaaGreatDoor.Wb Go.Proofs.YthgojbdpmcccaaaGreatDoorW.PrintWords
set_option linter.unusedVariables false
set_option linter.unusedSimpArgs false
def sizeV (C : Addr) (l : L) : Value := match sizeS l with
  | some v => .tuple #[.int .i64 (v : Int), .nilIface]
  | none => .tuple #[.int .i64 0, errV C]
theorem sizeV_none {C : Addr} {l : L} (h : sizeS l = none) : sizeV C l = .tuple #[.int .i64 0, errV C] := by unfold sizeV; rw [h]
theorem sizeV_some {C : Addr} {l : L} {v : Nat} (h : sizeS l = some v) : sizeV C l = .tuple #[.int .i64 (v : Int), .nilIface] := by unfold sizeV; rw [h]
theorem aheadC_le (c : Int) (l : L) : (aheadC c l).length ≤ l.length := by
  unfold aheadC
  split
  · rename_i a b h
    have := (cutC_some h).1
    rw [this]; simp
  · omega
theorem behindC_le (c : Int) (l : L) : (behindC c l).length ≤ l.length := by
  unfold behindC
  split
  · rename_i a b h
    have := (cutC_some h).1
    rw [this]; simp; omega
  · simp
theorem pow16 : ∀ k : Nat, k ≤ 8 → 16 ^ k ≤ 4294967296 := by
  intro k hk
  calc 16 ^ k ≤ 16 ^ 8 := Nat.pow_le_pow_right (by decide) hk
    _ = 4294967296 := by decide
set_option maxHeartbeats 4000000 in
theorem size_c {A : Nat → Addr} {w : World} (hE : LayS A w) {mx : Int} (hM : w.cell? ⟨20, 0, none⟩ = some (.int .i64 mx)) (t : ByteArray) (ht : t.size ≤ 2000000000000) :
    Calls Tryz.prog 118 #[.string t] w fun e w' => e = .returned (sizeV (A 11) (bl t)) ∧ Below w.heap.size w w' := by
  have c11 := (hE.sent 11 (by decide) (by decide)).cell
  have nt := bl_length t
  refine enter (args := [.string t]) Tryz.func118 rfl Tryz.ntmps118 rfl ?_
  repeat' (first | (with_reducible first | refine p_tn ?_ | refine wp_seq ?_ | refine w_reg ?_ | refine l_nil ?_) | (with_reducible (refine is_l ?_; (refine l_p tys rfl rfl ?_))))
  (with_reducible refine is_l ?_); refine l_t tys rfl rfl (fun h => ?_) (fun h => ?_)
  · have hs : sizeS (bl t) = none := by unfold sizeS; rw [if_pos (by omega)]
    repeat' (first | (with_reducible first | refine p_tn ?_ | refine wp_seq ?_) | (with_reducible (refine is_if ?_; (refine w_ift rfl ?_))) | (with_reducible refine l_nil ?_))
    refine w_draw (C := fun w' => Below w.heap.size w w') (by kernel_rfl) (by kernel_rfl) (below_drew (Below.refl _ w)) ?_
    skip
    refine q_ld tys rfl rfl (fun w' K => pw_cell_below K c11) ?_
    repeat' (first | (with_reducible refine q_nil ?_) | (with_reducible (refine is_q ?_; (refine q_p tys rfl rfl ?_))))
    intro we Be
    repeat' (with_reducible first | refine p_tn ?_ | refine p_tr ?_ | refine wp_ret ?_)
    refine end2 rfl rfl rfl ?_
    exact ⟨by rw [sizeV_none hs], Be⟩
  obtain ⟨cd, qr, cb, hcd, hqr, hcut⟩ := cut_c t 59 (by omega)
  replace hcd : bl cd = aheadC 59 (bl t) := hcd
  replace hqr : bl qr = behindC 59 (bl t) := hqr
  have ncd := bl_length cd
  have nqr := bl_length qr
  have scd := aheadC_le 59 (bl t)
  have sqr := behindC_le 59 (bl t)
  rw [← hcd] at scd
  rw [← hqr] at sqr
  repeat' (first | (with_reducible first | refine p_tn ?_ | refine wp_seq ?_ | refine w_reg ?_) | (with_reducible (refine is_if ?_; (refine w_iff rfl ?_))) | (with_reducible first | refine wp_skip ?_ | refine l_nil ?_) | (with_reducible (refine is_l ?_; (refine l_p tys rfl rfl ?_))))
  (with_reducible refine is_l ?_); refine l_callv rfl rfl (by kernel_rfl) (hcut w mx hM) (fun w1 D1 => ?_)
  have B1 := D1.below
  repeat' (first | (with_reducible first | refine p_tn ?_ | refine wp_seq ?_ | refine w_reg ?_ | refine l_nil ?_) | (with_reducible (refine is_l ?_; (refine l_p tys rfl rfl ?_))))
  (with_reducible refine is_l ?_); refine l_t tys rfl rfl (fun h1 => ?_) (fun h1 => ?_)
  · rw [bl_nil] at h1
    have hs : sizeS (bl t) = none := by unfold sizeS; rw [if_neg (by omega), if_pos (Or.inl (by rw [← hcd]; exact h1))]
    repeat' (first | (with_reducible first | refine p_tn ?_ | refine wp_seq ?_) | (with_reducible (refine is_if ?_; (refine w_ift rfl ?_))) | (with_reducible refine l_nil ?_) | (with_reducible (refine is_l ?_; (first | (refine l_off rfl ?_) | (refine l_p tys rfl rfl ?_)))))
    refine w_draw (C := fun w' => Below w.heap.size w w') (by kernel_rfl) (by kernel_rfl) (below_drew B1) ?_
    skip
    refine q_ld tys rfl rfl (fun w' K => pw_cell_below K c11) ?_
    repeat' (first | (with_reducible refine q_nil ?_) | (with_reducible (refine is_q ?_; (refine q_p tys rfl rfl ?_))))
    intro we Be
    repeat' (with_reducible first | refine p_tn ?_ | refine p_tr ?_ | refine wp_ret ?_)
    refine end2 rfl rfl rfl ?_
    exact ⟨by rw [sizeV_none hs], Be⟩
  rw [bl_nil] at h1
  repeat' (with_reducible (refine is_l ?_; (refine l_p tys rfl rfl ?_)))
  (with_reducible refine is_l ?_); refine l_t tys rfl rfl (fun h2 => ?_) (fun h2 => ?_)
  · have hs : sizeS (bl t) = none := by unfold sizeS; rw [if_neg (by omega), if_pos (Or.inr (Or.inl (by rw [← hcd]; omega)))]
    repeat' (first | (with_reducible first | refine p_tn ?_ | refine wp_seq ?_) | (with_reducible (refine is_if ?_; (refine w_ift rfl ?_))) | (with_reducible refine l_nil ?_) | (with_reducible (refine is_l ?_; (first | (refine l_off rfl ?_) | (refine l_p tys rfl rfl ?_)))))
    refine w_draw (C := fun w' => Below w.heap.size w w') (by kernel_rfl) (by kernel_rfl) (below_drew B1) ?_
    skip
    refine q_ld tys rfl rfl (fun w' K => pw_cell_below K c11) ?_
    repeat' (first | (with_reducible refine q_nil ?_) | (with_reducible (refine is_q ?_; (refine q_p tys rfl rfl ?_))))
    intro we Be
    repeat' (with_reducible first | refine p_tn ?_ | refine p_tr ?_ | refine wp_ret ?_)
    refine end2 rfl rfl rfl ?_
    exact ⟨by rw [sizeV_none hs], Be⟩
  repeat' (with_reducible (refine is_l ?_; (refine l_p tys rfl rfl ?_)))
  (with_reducible refine is_l ?_); refine l_callp rfl rfl (by kernel_rfl) (all_c qr 121 valB kind_value w1 (by omega)) ?_
  cases hq : (bl qr).all valB
  · have hs : sizeS (bl t) = none := by unfold sizeS; rw [if_neg (by omega), if_pos (Or.inr (Or.inr (by rw [← hqr]; exact hq)))]
    repeat' (first | (with_reducible first | refine p_tn ?_ | refine wp_seq ?_) | (with_reducible (refine is_if ?_; (refine w_ift rfl ?_))) | (with_reducible refine l_nil ?_) | (with_reducible (refine is_l ?_; (refine l_p tys rfl rfl ?_))))
    refine w_draw (C := fun w' => Below w.heap.size w w') (by kernel_rfl) (by kernel_rfl) (below_drew B1) ?_
    skip
    refine q_ld tys rfl rfl (fun w' K => pw_cell_below K c11) ?_
    repeat' (first | (with_reducible refine q_nil ?_) | (with_reducible (refine is_q ?_; (refine q_p tys rfl rfl ?_))))
    intro we Be
    repeat' (with_reducible first | refine p_tn ?_ | refine p_tr ?_ | refine wp_ret ?_)
    refine end2 rfl rfl rfl ?_
    exact ⟨by rw [sizeV_none hs], Be⟩
  have hsz : sizeS (bl t) = hexN 0 (bl cd) := by
    unfold sizeS
    rw [if_neg (by omega), if_neg, hcd]
    rintro (h3 | h3 | h3)
    · rw [← hcd] at h3; exact h1 h3
    · rw [← hcd] at h3; omega
    · rw [← hqr, hq] at h3; cases h3
  repeat' (first | (with_reducible first | refine p_tn ?_ | refine wp_seq ?_ | refine wp_block ?_ | refine w_reg ?_) | (with_reducible (refine is_if ?_; (refine w_iff rfl ?_))) | (with_reducible first | refine wp_skip ?_ | refine l_nil ?_) | (with_reducible (refine is_l ?_; (refine l_p tys rfl rfl ?_))))
  refine w_loop (σ := Nat × Nat) (S := fun st => [(4, .string cd), (34, .int .i64 cd.size), (35, .int .i64 (st.1 : Int)), (7, .int .i64 (st.2 : Int))]) (J := fun st w' => Below w.heap.size w w' ∧ st.1 ≤ cd.size ∧ st.2 < 16 ^ st.1 ∧ hexN 0 (bl cd) = hexN st.2 ((bl cd).drop st.1)) (μ := fun st => cd.size - st.1) (0, 0) ⟨rfl, rfl, rfl, rfl, trivial⟩ ⟨B1, by simp, by simp, rfl⟩ ?_
  rintro ⟨i, v⟩ f w2 ⟨B2, i1, hv, hx⟩
  simp only at B2 i1 hv hx ⊢
  have hp := pow16 i (by omega)
  repeat' (with_reducible first | refine wp_seq ?_ | refine w_reg ?_)
  (with_reducible refine is_l ?_); refine l_t tys rfl rfl (fun hlt => ?_) (fun hge => ?_)
  · have hdrop := drop_at (bl cd) (i : Int) (by omega) (by omega)
    have hr := at_range cd (i : Int)
    obtain ⟨c, hc⟩ : ∃ c : Int, c = at_ (bl cd) (i : Int) := ⟨_, rfl⟩
    rw [← hc] at hdrop hr
    rw [show ((i : Int) + 1).toNat = i + 1 by omega, Int.toNat_natCast] at hdrop
    have hone : bl (cd.extract ((i : Int)).toNat ((i : Int) + 1).toNat) = [c] := by
      rw [blE, Int.toNat_natCast, show ((i : Int) + 1).toNat = i + 1 by omega, hdrop, show i + 1 - i = 1 by omega]
      rfl
    have hsz1 : (cd.extract ((i : Int)).toNat ((i : Int) + 1).toNat).size = 1 := by rw [← bl_length, hone]; rfl
    repeat' (first | (with_reducible first | refine p_tn ?_ | refine wp_seq ?_ | refine wp_block ?_ | refine w_reg ?_) | (with_reducible (refine is_if ?_; (refine w_ift rfl ?_))) | (with_reducible first | refine wp_skip ?_ | refine l_nil ?_) | (with_reducible (refine is_l ?_; (first | (refine l_p tys rfl rfl ?_) | (refine l_a tys rfl rfl (by first | exact in_i64 (by omega) (by omega) | exact in_u8 (by omega) (by omega) | exact in_u64 (by omega) (by omega) | exact in_i32 (by omega) (by omega)) ?_) | (refine l_sl tys rfl rfl (by first | omega | assumption | decide) (by first | omega | assumption | decide) (by first | omega | assumption | decide) ?_)))))
    (with_reducible refine is_l ?_); refine l_callv rfl rfl (by kernel_rfl) (lower_c (cd.extract ((i : Int)).toNat ((i : Int) + 1).toNat) w2 (by omega)) (fun w3 K3 => ?_)
    have B3 := Bt B2 K3
    have hl : lowS (bl (cd.extract ((i : Int)).toNat ((i : Int) + 1).toNat)) = [lowB c] := by rw [hone]; rfl
    rw [hl]
    have hlc := lowB_range hr
    have hb2 : Bytes [lowB c] := fun x hx => by rw [List.mem_singleton.1 hx]; exact hlc
    have z2 := sizeS' hb2
    (with_reducible refine is_l ?_); refine l_ix tys rfl rfl (by omega) (by rw [z2]; simp) ?_
    have ha : at_ (bl (strOfNums [lowB c])) 0 = lowB c := by rw [blS hb2]; rfl
    rw [ha]
    (with_reducible refine is_l ?_); refine l_callp rfl rfl (by kernel_rfl) (Tryz.strings_IndexByte _ (lowB c) w3) ?_
    rw [index_find hlc.1 hlc.2]
    have hf := (find_hex ⟨c.toNat, by omega⟩).1
    have e : ((c.toNat : Nat) : Int) = c := by omega
    simp only [e] at hf
    have hf2 : find (lowB c) (List.map (fun b => ((b : UInt8).toNat : Int)) (ByteArray.mk #[48, 49, 50, 51, 52, 53, 54, 55, 56, 57, 97, 98, 99, 100, 101, 102]).data.toList) = hexI c := hf
    rw [hf2]
    have hle := hexI_le hr.1 hr.2
    rw [hdrop, hexN] at hx
    repeat' (first | (with_reducible first | refine p_tn ?_ | refine wp_seq ?_ | refine w_reg ?_ | refine l_nil ?_) | (with_reducible (refine is_l ?_; (refine l_p tys rfl rfl ?_))))
    (with_reducible refine is_l ?_); refine l_t tys rfl rfl (fun hneg => ?_) (fun hpos => ?_)
    · have hs : sizeS (bl t) = none := by rw [hsz, hx, hexI_none hneg]
      repeat' (first | (with_reducible first | refine p_tn ?_ | refine wp_seq ?_) | (with_reducible (refine is_if ?_; (refine w_ift rfl ?_))) | (with_reducible refine l_nil ?_))
      refine w_draw (C := fun w' => Below w.heap.size w w') (by kernel_rfl) (by kernel_rfl) (below_drew B3) ?_
      skip
      refine q_ld tys rfl rfl (fun w' K => pw_cell_below K c11) ?_
      repeat' (first | (with_reducible refine q_nil ?_) | (with_reducible (refine is_q ?_; (refine q_p tys rfl rfl ?_))))
      intro we Be
      repeat' (with_reducible first | refine p_tn ?_ | refine p_tr ?_ | refine p_br ?_ | refine wp_ret ?_)
      refine end2 rfl rfl rfl ?_
      exact ⟨by rw [sizeV_none hs], Be⟩
    obtain ⟨d, hd, hd2⟩ := hexI_some hpos
    rw [hd] at hx
    rw [hd2] at hle ⊢
    have hp2 := pow16 (i + 1) (by omega)
    have hv2 : 16 * v + d < 16 ^ (i + 1) := by rw [Nat.pow_succ]; omega
    repeat' (first | (with_reducible first | refine p_tn ?_ | refine p_bn ?_ | refine w_reg ?_) | (with_reducible (refine is_if ?_; (refine w_iff rfl ?_))) | (with_reducible first | refine wp_skip ?_ | refine l_nil ?_) | (with_reducible (refine is_l ?_; (first | (refine l_p tys rfl rfl ?_) | (refine l_a tys rfl rfl (by first | exact in_i64 (by omega) (by omega) | exact in_u8 (by omega) (by omega) | exact in_u64 (by omega) (by omega) | exact in_i32 (by omega) (by omega)) ?_)))))
    refine ⟨(i + 1, 16 * v + d), _, rfl, ⟨rfl, rfl, rfl, by show Value.int _ _ = Value.int _ _; congr 1, trivial⟩, ⟨B3, by show i + 1 ≤ _; omega, hv2, hx⟩, by show _ - (i + 1) < _ - i; omega⟩
  · have hnil : (bl cd).drop i = [] := List.drop_eq_nil_of_le (by omega)
    rw [hnil, hexN] at hx
    have hs : sizeS (bl t) = some v := by rw [hsz, hx]
    repeat' (first | (with_reducible first | refine p_tn ?_ | refine p_tx ?_ | refine x_hit ?_ | refine wp_seq ?_ | refine w_reg ?_) | (with_reducible (refine is_if ?_; (refine w_iff rfl ?_))) | (with_reducible first | refine wp_exit ?_ | refine wp_ret ?_ | refine l_nil ?_) | (with_reducible (refine is_l ?_; (refine l_p tys rfl rfl ?_))))
    refine end2 rfl rfl rfl ?_
    exact ⟨by rw [sizeV_some hs], B2⟩
end Go.Proofs.YthgojbdpmcccaaaGreatDoor.K
end
section
namespace Go.Proofs.YthgojbdpmcccaaaGreatDoor.K
open Go.RowKit Go.Proofs.YthgojbdpmcccaaaGreatDoor.Q Go.Proofs.YthgojbdpmcccaaaGreatDoor.Wb Go.Proofs.YthgojbdpmcccaaaGreatDoorW.PrintWords
set_option linter.unusedVariables false
set_option linter.unusedSimpArgs false
theorem unchS_succ (f : Nat) (acc rest : L) : unchS (f + 1) acc rest = match lineS rest with
    | none => if 257 < rest.length then .error 146 else .error 140
    | some (l, behind) => match sizeS l with
      | none => .error 146
      | some n => if 1048576 < acc.length + n then .error 2
        else if behind.length < n then .error 140
        else match endS (behind.drop n) with
          | .error e => .error e
          | .ok r => if n = 0 then .ok (acc, r) else unchS f (acc ++ behind.take n) r := rfl
def errU (A : Nat → Addr) : Nat → Value
  | 140 => errV (A 5)
  | 2 => errV (A 4)
  | _ => errV (A 11)
theorem cutA_none {A : Option Addr} {c p s : Nat} (h : cutA A c p s = none) : A = none := by
  unfold cutA at h
  split at h
  · exact h
  · cases A with
    | none => rfl
    | some a => simp at h
def UnR (A : Nat → Addr) (w : World) (l : L) (e : Ending) (w' : World) : Prop := Below w.heap.size w w' ∧ match unchunkS l with
  | .error k => e = .returned (.tuple #[.slice none 0 0, .int .i64 0, errU A k])
  | .ok (b, m) => ∃ A1 c1, e = .returned (.tuple #[.slice A1 b.length c1, .int .i64 (m : Int), .nilIface]) ∧ Own 5 w' w.heap.size (.slice A1 b.length c1) b ∧ b.length ≤ c1
theorem un_err {l : L} {k : Nat} (h : unchS (l.length + 1) [] l = .error k) : unchunkS l = .error k := by unfold unchunkS; rw [h]
theorem un_ok {l b r : L} (h : unchS (l.length + 1) [] l = .ok (b, r)) : unchunkS l = .ok (b, l.length - r.length) := by unfold unchunkS; rw [h]
theorem hexN_lt : ∀ (s : L) (n v : Nat), hexN n s = some v → v < (n + 1) * 16 ^ s.length
  | [], n, v, h => by simp [hexN] at h; subst h; simp
  | c :: r, n, v, h => by
    rw [hexN] at h
    cases hv : hexV c with
    | none => rw [hv] at h; cases h
    | some d =>
      rw [hv] at h
      have := hexN_lt r _ _ h
      have hd : d ≤ 15 := by
        unfold hexV at hv
        split at hv
        · simp at hv; omega
        · split at hv
          · simp at hv; omega
          · split at hv
            · simp at hv; omega
            · cases hv
      rw [List.length_cons, Nat.pow_succ]
      refine Nat.lt_of_lt_of_le this ?_
      rw [show (n + 1) * (16 ^ r.length * 16) = ((n + 1) * 16) * 16 ^ r.length by rw [Nat.mul_comm (16 ^ r.length) 16, ← Nat.mul_assoc]]
      exact Nat.mul_le_mul_right _ (by omega)
theorem size_lt {x : L} {n : Nat} (h : sizeS x = some n) : n < 4294967296 := by
  unfold sizeS at h
  split at h
  · cases h
  · split at h
    · cases h
    · rename_i h2
      have h3 : ¬ 8 < (aheadC 59 x).length := fun hh => h2 (Or.inr (Or.inl hh))
      have := hexN_lt _ _ _ h
      have hp := pow16 (aheadC 59 x).length (by omega)
      omega
theorem end_errs {x : L} {k : Nat} (h : endS x = .error k) : k = 140 ∨ k = 146 := by
  unfold endS at h
  split at h <;> simp at h <;> omega
structure UJ (A : Nat → Addr) (w : World) (l : L) (acc : L) (A1 : Option Addr) (c1 : Nat) (Ar : Option Addr) (cr : Nat) (r : L) (w' : World) : Prop where
  B : Below w.heap.size w w'
  O : Own 5 w' w.heap.size (.slice A1 acc.length c1) acc
  ac : acc.length ≤ c1
  al : acc.length ≤ 1048576
  rd : ReadsInt w .u8 Ar r.length r
  rc : r.length ≤ cr
  rn : Ar = none → cr = 0 ∧ r.length = 0
  rb : Bytes r
  rl : r.length ≤ l.length
  D : ∃ g, r.length < g ∧ unchS (l.length + 1) [] l = unchS g acc r
set_option maxHeartbeats 4000000 in
theorem unchunk_c {A : Nat → Addr} {w : World} (hE : LayS A w) {mx : Int} (hM : w.cell? ⟨20, 0, none⟩ = some (.int .i64 mx)) {B : Option Addr} {c : Nat} {l : L}
    (h : ReadsInt w .u8 B l.length l) (hc : l.length ≤ c) (hn : B = none → c = 0 ∧ l.length = 0) (hb : Bytes l) (hs : l.length ≤ 2000000000000) :
    Calls Tryz.prog 61 #[.slice B l.length c] w (UnR A w l) := by
  have c4 := (hE.sent 4 (by decide) (by decide)).cell
  have c5 := (hE.sent 5 (by decide) (by decide)).cell
  have c11 := (hE.sent 11 (by decide) (by decide)).cell
  refine enter (args := [.slice B l.length c]) Tryz.func61 rfl Tryz.ntmps61 rfl ?_
  repeat' (first | (with_reducible first | refine p_tn ?_ | refine wp_seq ?_ | refine wp_block ?_ | refine w_reg ?_ | refine l_nil ?_) | (with_reducible (refine is_l ?_; (refine l_p tys rfl rfl ?_))))
  refine w_loop (σ := (L × Option Addr × Nat) × (Option Addr × Nat × L)) (S := fun s => [(0, .slice B l.length c), (5, .slice s.1.2.1 s.1.1.length s.1.2.2), (6, .slice s.2.1 s.2.2.2.length s.2.2.1)]) (J := fun s w' => UJ A w l s.1.1 s.1.2.1 s.1.2.2 s.2.1 s.2.2.1 s.2.2.2 w') (μ := fun s => s.2.2.2.length) (([], none, 0), (B, c, l)) ⟨rfl, rfl, rfl, trivial⟩
    ⟨Below.refl _ w, own_nil _ _ _ _, Nat.le_refl _, by simp, h, hc, hn, hb, Nat.le_refl _, l.length + 1, Nat.lt_succ_self _, rfl⟩ ?_
  rintro ⟨⟨acc, A1, c1⟩, Ar, cr, r⟩ f w1 ⟨B1, O, ac, al, rd, rc, rn, rb, rl, g, hg, hD⟩
  simp only at B1 O ac al rd rc rn rb rl hg hD ⊢
  obtain ⟨g', rfl⟩ : ∃ m, g = m + 1 := ⟨g - 1, by omega⟩
  rw [unchS_succ g' acc r] at hD
  repeat' (first | (with_reducible first | refine wp_seq ?_ | refine wp_block ?_ | refine w_reg ?_) | (with_reducible (refine is_l ?_; (refine l_p tys rfl rfl ?_))))
  have hcl := line_c (rd.below B1) rc rn rb (by omega)
  cases hline : lineS r with
  | none =>
    rw [lineV_none hline] at hcl
    (with_reducible refine is_l ?_); refine l_callv rfl rfl (by kernel_rfl) hcl (fun w2 K2 => ?_)
    have B2 := Bt B1 K2
    rw [hline] at hD
    repeat' (first | (with_reducible first | refine p_tn ?_ | refine wp_seq ?_ | refine w_reg ?_) | (with_reducible (refine is_if ?_; (refine w_ift rfl ?_))) | (with_reducible refine l_nil ?_) | (with_reducible (refine is_l ?_; (refine l_p tys rfl rfl ?_))))
    (with_reducible refine is_l ?_); refine l_t tys rfl rfl (fun hh => ?_) (fun hh => ?_)
    · have hres : unchS (l.length + 1) [] l = .error 146 := by rw [hD]; exact if_pos (by omega)
      repeat' (first | (with_reducible first | refine p_tn ?_ | refine wp_seq ?_) | (with_reducible (refine is_if ?_; (refine w_ift rfl ?_))) | (with_reducible refine l_nil ?_))
      refine w_draw (C := fun w' => Below w.heap.size w w') (by kernel_rfl) (by kernel_rfl) (below_drew B2) ?_
      skip
      refine q_ld tys rfl rfl (fun w' K => pw_cell_below K c11) ?_
      repeat' (first | (with_reducible refine q_nil ?_) | (with_reducible (refine is_q ?_; (refine q_p tys rfl rfl ?_))))
      intro we Be
      repeat' (with_reducible first | refine p_tn ?_ | refine p_tr ?_ | refine p_br ?_ | refine wp_ret ?_)
      refine end3 rfl rfl rfl rfl ?_
      exact ⟨Be, by rw [un_err hres]; rfl⟩
    · have hres : unchS (l.length + 1) [] l = .error 140 := by rw [hD]; exact if_neg (by omega)
      repeat' (first | (with_reducible first | refine p_tn ?_ | refine wp_seq ?_) | (with_reducible (refine is_if ?_; (refine w_iff rfl ?_))) | (with_reducible first | refine wp_skip ?_ | refine l_nil ?_))
      refine w_draw (C := fun w' => Below w.heap.size w w') (by kernel_rfl) (by kernel_rfl) (below_drew B2) ?_
      skip
      refine q_ld tys rfl rfl (fun w' K => pw_cell_below K c5) ?_
      repeat' (first | (with_reducible refine q_nil ?_) | (with_reducible (refine is_q ?_; (refine q_p tys rfl rfl ?_))))
      intro we Be
      repeat' (with_reducible first | refine p_tn ?_ | refine p_tr ?_ | refine p_br ?_ | refine wp_ret ?_)
      refine end3 rfl rfl rfl rfl ?_
      exact ⟨Be, by rw [un_err hres]; rfl⟩
  | some xb =>
    obtain ⟨x, bh⟩ := xb
    rw [lineV_some hline] at hcl
    rw [hline] at hD
    simp only at hD
    obtain ⟨q, hq, _, hxq⟩ := lineS_some hline
    have hlen : q.length + 1 + bh.length = r.length := by rw [hq]; simp; omega
    have hxl : x.length ≤ r.length := by rw [hxq]; have := chop_le q; omega
    have hdropr : (r.take r.length).drop (r.length - bh.length) = bh := by
      rw [List.take_length, hq, show (q ++ 10 :: bh).length - bh.length = (q ++ [10]).length by simp; omega]
      rw [show q ++ 10 :: bh = (q ++ [10]) ++ bh by simp, List.drop_left]
    have rdb := reads_cut rd (p := r.length - bh.length) (q := r.length) (c := cr) (by omega) (Nat.le_refl _) rc
    rw [hdropr, show r.length - (r.length - bh.length) = bh.length by omega] at rdb
    obtain ⟨Ab, hAb⟩ : ∃ a, a = cutA Ar cr (r.length - bh.length) 1 := ⟨_, rfl⟩
    obtain ⟨cb, hcb⟩ : ∃ a, a = cr - (r.length - bh.length) := ⟨_, rfl⟩
    rw [← hAb] at rdb hcl
    rw [← hcb] at hcl
    (with_reducible refine is_l ?_); refine l_callv rfl rfl (by kernel_rfl) hcl (fun w2 K2 => ?_)
    have B2 := Bt B1 K2
    have hbc : bh.length ≤ cb := by omega
    have hbn : Ab = none → cb = 0 ∧ bh.length = 0 := fun e => by
      have := rn (cutA_none (hAb.symm.trans e))
      omega
    have bb : Bytes bh := fun y hy => rb y (by rw [hq]; simp [hy])
    have bx : Bytes x := fun y hy => by
      rw [hxq, chop_take] at hy
      exact rb y (by rw [hq]; simp [List.mem_of_mem_take hy])
    have zx := sizeS' bx
    repeat' (first | (with_reducible first | refine p_tn ?_ | refine wp_seq ?_ | refine w_reg ?_) | (with_reducible (refine is_if ?_; (refine w_iff rfl ?_))) | (with_reducible first | refine wp_skip ?_ | refine l_nil ?_) | (with_reducible (refine is_l ?_; (refine l_p tys rfl rfl ?_))))
    have hcs := size_c (hE.below B2) (pw_cell_below B2 hM) (strOfNums x) (by omega)
    rw [blS bx] at hcs
    cases hsz : sizeS x with
    | none =>
      rw [sizeV_none hsz] at hcs
      (with_reducible refine is_l ?_); refine l_callv rfl rfl (by kernel_rfl) hcs (fun w3 K3 => ?_)
      have B3 := Bt B2 K3
      rw [hsz] at hD
      repeat' (first | (with_reducible first | refine p_tn ?_ | refine wp_seq ?_ | refine w_reg ?_ | refine l_nil ?_) | (with_reducible (refine is_l ?_; (refine l_p tys rfl rfl ?_))))
      (with_reducible refine is_l ?_); refine l_t tys rfl rfl (fun _ => ?_) (fun hh => absurd trivial hh)
      have hres : unchS (l.length + 1) [] l = .error 146 := hD
      repeat' (first | (with_reducible first | refine p_tn ?_ | refine p_tr ?_ | refine p_br ?_ | refine wp_seq ?_ | refine w_reg ?_) | (with_reducible (refine is_if ?_; (refine w_ift rfl ?_))) | (with_reducible first | refine wp_ret ?_ | refine l_nil ?_) | (with_reducible (refine is_l ?_; (refine l_p tys rfl rfl ?_))))
      refine end3 rfl rfl rfl rfl ?_
      exact ⟨B3, by rw [un_err hres]; rfl⟩
    | some n =>
      rw [sizeV_some hsz] at hcs
      (with_reducible refine is_l ?_); refine l_callv rfl rfl (by kernel_rfl) hcs (fun w3 K3 => ?_)
      have B3 := Bt B2 K3
      rw [hsz] at hD
      simp only at hD
      have hn8 : n < 4294967296 := size_lt hsz
      repeat' (first | (with_reducible first | refine p_tn ?_ | refine wp_seq ?_ | refine w_reg ?_ | refine l_nil ?_) | (with_reducible (refine is_l ?_; (refine l_p tys rfl rfl ?_))))
      (with_reducible refine is_l ?_); refine l_t tys rfl rfl (fun hh => absurd hh (by simp)) (fun _ => ?_)
      repeat' (first | (with_reducible first | refine p_tn ?_ | refine wp_seq ?_ | refine w_reg ?_) | (with_reducible (refine is_if ?_; (refine w_iff rfl ?_))) | (with_reducible first | refine wp_skip ?_ | refine l_nil ?_) | (with_reducible (refine is_l ?_; (first | (refine l_p tys rfl rfl ?_) | (refine l_a tys rfl rfl (by first | exact in_i64 (by omega) (by omega) | exact in_u8 (by omega) (by omega) | exact in_u64 (by omega) (by omega) | exact in_i32 (by omega) (by omega)) ?_)))))
      (with_reducible refine is_l ?_); refine l_t tys rfl rfl (fun hbig => ?_) (fun hbig => ?_)
      · have hres : unchS (l.length + 1) [] l = .error 2 := by rw [hD]; exact if_pos (by omega)
        repeat' (first | (with_reducible first | refine p_tn ?_ | refine wp_seq ?_) | (with_reducible (refine is_if ?_; (refine w_ift rfl ?_))) | (with_reducible refine l_nil ?_))
        refine w_draw (C := fun w' => Below w.heap.size w w') (by kernel_rfl) (by kernel_rfl) (below_drew B3) ?_
        skip
        refine q_ld tys rfl rfl (fun w' K => pw_cell_below K c4) ?_
        repeat' (first | (with_reducible refine q_nil ?_) | (with_reducible (refine is_q ?_; (refine q_p tys rfl rfl ?_))))
        intro we Be
        repeat' (with_reducible first | refine p_tn ?_ | refine p_tr ?_ | refine p_br ?_ | refine wp_ret ?_)
        refine end3 rfl rfl rfl rfl ?_
        exact ⟨Be, by rw [un_err hres]; rfl⟩
      rw [if_neg (by omega)] at hD
      repeat' (first | (with_reducible first | refine p_tn ?_ | refine wp_seq ?_ | refine w_reg ?_) | (with_reducible (refine is_if ?_; (refine w_iff rfl ?_))) | (with_reducible first | refine wp_skip ?_ | refine l_nil ?_) | (with_reducible (refine is_l ?_; (refine l_p tys rfl rfl ?_))))
      (with_reducible refine is_l ?_); refine l_t tys rfl rfl (fun hsh => ?_) (fun hsh => ?_)
      · have hres : unchS (l.length + 1) [] l = .error 140 := by rw [hD]; exact if_pos (by omega)
        repeat' (first | (with_reducible first | refine p_tn ?_ | refine wp_seq ?_) | (with_reducible (refine is_if ?_; (refine w_ift rfl ?_))) | (with_reducible refine l_nil ?_))
        refine w_draw (C := fun w' => Below w.heap.size w w') (by kernel_rfl) (by kernel_rfl) (below_drew B3) ?_
        skip
        refine q_ld tys rfl rfl (fun w' K => pw_cell_below K c5) ?_
        repeat' (first | (with_reducible refine q_nil ?_) | (with_reducible (refine is_q ?_; (refine q_p tys rfl rfl ?_))))
        intro we Be
        repeat' (with_reducible first | refine p_tn ?_ | refine p_tr ?_ | refine p_br ?_ | refine wp_ret ?_)
        refine end3 rfl rfl rfl rfl ?_
        exact ⟨Be, by rw [un_err hres]; rfl⟩
      rw [if_neg (by omega)] at hD
      have hnb : n ≤ bh.length := by omega
      repeat' (first | (with_reducible first | refine p_tn ?_ | refine wp_seq ?_ | refine w_reg ?_) | (with_reducible (refine is_if ?_; (refine w_iff rfl ?_))) | (with_reducible first | refine wp_skip ?_ | refine l_nil ?_) | (with_reducible (refine is_l ?_; (refine l_p tys rfl rfl ?_))))
      (with_reducible refine is_l ?_); refine l_cutN tys 0 n rfl rfl (by omega) (by omega) ?_
      have r0 := reads_cut (rdb.below B3) (p := 0) (q := n) (c := cb) (by omega) hnb hbc
      rw [List.drop_zero] at r0
      (with_reducible refine is_l ?_); refine l_app (v := .slice A1 acc.length c1) (xs := acc) rfl rfl Tryz.underlying23 info_u8 (pw_own_below O (Bt (Bt (Below.refl _ w1) K2) K3)) r0 B3 B3.size (by omega) ?_
      intro A4 c4' w4 O4 g4 R4 B4 z4
      repeat' (first | (with_reducible first | refine p_tn ?_ | refine wp_seq ?_ | refine w_reg ?_ | refine l_nil ?_) | (with_reducible (refine is_l ?_; (refine l_p tys rfl rfl ?_))))
      (with_reducible refine is_l ?_); refine l_cutN tys n bh.length rfl rfl hnb (by omega) ?_
      have rdn := reads_cut rdb (p := n) (q := bh.length) (c := cb) hnb (Nat.le_refl _) hbc
      rw [List.take_length] at rdn
      have hld : (bh.drop n).length = bh.length - n := List.length_drop
      rw [← hld] at rdn ⊢
      repeat' (first | (with_reducible first | refine p_tn ?_ | refine wp_seq ?_ | refine w_reg ?_ | refine l_nil ?_) | (with_reducible (refine is_l ?_; (refine l_p tys rfl rfl ?_))))
      have hce := end_c (c := cb - n) (hE.below B4) (rdn.below B4)
      cases hend : endS (bh.drop n) with
      | error k =>
        rw [hend] at hD
        have hres : unchS (l.length + 1) [] l = .error k := hD
        rcases end_errs hend with rfl | rfl
        · rw [endV_short hend] at hce
          (with_reducible refine is_l ?_); refine l_callv rfl rfl (by kernel_rfl) hce (fun w5 K5 => ?_)
          have B5 := Bt B4 K5
          repeat' (first | (with_reducible first | refine p_tn ?_ | refine wp_seq ?_ | refine w_reg ?_ | refine l_nil ?_) | (with_reducible (refine is_l ?_; (refine l_p tys rfl rfl ?_))))
          (with_reducible refine is_l ?_); refine l_t tys rfl rfl (fun _ => ?_) (fun hh => absurd trivial hh)
          repeat' (first | (with_reducible first | refine p_tn ?_ | refine p_tr ?_ | refine p_br ?_ | refine wp_seq ?_ | refine w_reg ?_) | (with_reducible (refine is_if ?_; (refine w_ift rfl ?_))) | (with_reducible first | refine wp_ret ?_ | refine l_nil ?_) | (with_reducible (refine is_l ?_; (refine l_p tys rfl rfl ?_))))
          refine end3 rfl rfl rfl rfl ?_
          exact ⟨B5, by rw [un_err hres]; rfl⟩
        · rw [endV_chunk hend] at hce
          (with_reducible refine is_l ?_); refine l_callv rfl rfl (by kernel_rfl) hce (fun w5 K5 => ?_)
          have B5 := Bt B4 K5
          repeat' (first | (with_reducible first | refine p_tn ?_ | refine wp_seq ?_ | refine w_reg ?_ | refine l_nil ?_) | (with_reducible (refine is_l ?_; (refine l_p tys rfl rfl ?_))))
          (with_reducible refine is_l ?_); refine l_t tys rfl rfl (fun _ => ?_) (fun hh => absurd trivial hh)
          repeat' (first | (with_reducible first | refine p_tn ?_ | refine p_tr ?_ | refine p_br ?_ | refine wp_seq ?_ | refine w_reg ?_) | (with_reducible (refine is_if ?_; (refine w_ift rfl ?_))) | (with_reducible first | refine wp_ret ?_ | refine l_nil ?_) | (with_reducible (refine is_l ?_; (refine l_p tys rfl rfl ?_))))
          refine end3 rfl rfl rfl rfl ?_
          exact ⟨B5, by rw [un_err hres]; rfl⟩
      | ok r2 =>
        rw [hend] at hD
        simp only at hD
        rw [endV_ok hend] at hce
        (with_reducible refine is_l ?_); refine l_callv rfl rfl (by kernel_rfl) hce (fun w5 K5 => ?_)
        have B5 := Bt B4 K5
        obtain ⟨p2, hp2⟩ := (endS_app [] hend).2.2
        have hl2 := (endS_app [] hend).2.1
        repeat' (first | (with_reducible first | refine p_tn ?_ | refine wp_seq ?_ | refine w_reg ?_ | refine l_nil ?_) | (with_reducible (refine is_l ?_; (refine l_p tys rfl rfl ?_))))
        (with_reducible refine is_l ?_); refine l_t tys rfl rfl (fun hh => absurd hh (by simp)) (fun _ => ?_)
        repeat' (first | (with_reducible first | refine p_tn ?_ | refine wp_seq ?_ | refine w_reg ?_) | (with_reducible (refine is_if ?_; (refine w_iff rfl ?_))) | (with_reducible first | refine wp_skip ?_ | refine l_nil ?_) | (with_reducible (refine is_l ?_; (refine l_p tys rfl rfl ?_))))
        (with_reducible refine is_l ?_); refine l_cutN tys ((bh.drop n).length - r2.length) (bh.drop n).length rfl rfl (by omega) (by omega) ?_
        have rd2 := reads_cut rdn (p := (bh.drop n).length - r2.length) (q := (bh.drop n).length) (c := cb - n) (by omega) (Nat.le_refl _) (by omega)
        have hdr2 : ((bh.drop n).take (bh.drop n).length).drop ((bh.drop n).length - r2.length) = r2 := by
          rw [List.take_length, hp2, show (p2 ++ r2).length - r2.length = p2.length by simp, List.drop_left]
        rw [hdr2, show (bh.drop n).length - ((bh.drop n).length - r2.length) = r2.length by omega] at rd2
        rw [show (bh.drop n).length - ((bh.drop n).length - r2.length) = r2.length by omega]
        have O5 := pw_own_below O4 K5
        repeat' (first | (with_reducible first | refine p_tn ?_ | refine wp_seq ?_ | refine w_reg ?_ | refine l_nil ?_) | (with_reducible (refine is_l ?_; (refine l_p tys rfl rfl ?_))))
        (with_reducible refine is_l ?_); refine l_t tys rfl rfl (fun hz => ?_) (fun hz => ?_)
        · have hn0 : n = 0 := by omega
          subst hn0
          rw [if_pos rfl] at hD
          repeat' (first | (with_reducible first | refine p_tn ?_ | refine p_tr ?_ | refine p_br ?_ | refine wp_seq ?_ | refine w_reg ?_) | (with_reducible (refine is_if ?_; (refine w_ift rfl ?_))) | (with_reducible first | refine wp_ret ?_ | refine l_nil ?_) | (with_reducible (refine is_l ?_; (first | (refine l_p tys rfl rfl ?_) | (refine l_a tys rfl rfl (by first | exact in_i64 (by omega) (by omega) | exact in_u8 (by omega) (by omega) | exact in_u64 (by omega) (by omega) | exact in_i32 (by omega) (by omega)) ?_)))))
          refine end3 rfl rfl rfl rfl ?_
          refine ⟨B5, ?_⟩
          rw [un_ok hD]
          refine ⟨A4, c4', ?_, ?_, ?_⟩
          · have e1 : (acc ++ bh.take 0).length = acc.length := by simp
            have e2 : ((l.length : Int) - (r2.length : Int)) = ((l.length - r2.length : Nat) : Int) := by
              have : r2.length ≤ l.length := by omega
              omega
            rw [e1, e2]
          · simpa using O5
          · simpa using g4
        · rw [if_neg (by omega)] at hD
          repeat' (first | (with_reducible first | refine p_tn ?_ | refine p_bn ?_) | (with_reducible (refine is_if ?_; (refine w_iff rfl ?_))) | (with_reducible first | refine wp_skip ?_ | refine l_nil ?_))
          refine ⟨((acc ++ bh.take n, A4, c4'), (cutA (cutA Ab cb n 1) (cb - n) ((bh.drop n).length - r2.length) 1, cb - n - ((bh.drop n).length - r2.length), r2)), _, rfl, ⟨rfl, rfl, rfl, trivial⟩, ⟨B5, O5, g4, ?_, rd2, by show r2.length ≤ cb - n - _; omega, fun e => ?_, ?_, by show r2.length ≤ _; omega, g', by show r2.length < _; omega, hD⟩, by show r2.length < r.length; omega⟩
          · show (acc ++ bh.take n).length ≤ _
            rw [List.length_append, List.length_take]
            omega
          · have := hbn (cutA_none (cutA_none e))
            show cb - n - _ = 0 ∧ r2.length = 0
            omega
          · intro y hy
            have : y ∈ bh.drop n := by rw [hp2]; simp [hy]
            exact bb y (List.mem_of_mem_drop this)
end Go.Proofs.YthgojbdpmcccaaaGreatDoor.K
end
section
namespace Go.Proofs.YthgojbdpmcccaaaGreatDoor.K
open Go.RowKit Go.Proofs.YthgojbdpmcccaaaGreatDoor.Q Go.Proofs.YthgojbdpmcccaaaGreatDoor.Wb Go.Proofs.YthgojbdpmcccaaaGreatDoorW.PrintWords
set_option linter.unusedVariables false
set_option linter.unusedSimpArgs false
section
variable {P : Program} {n : Nat} {ops : Array Oper} {Q : Exit → Act → World → Prop} {rest : List Oper} {f : Fr} {w : World} {d : Option Nat} {op : Op} {tt : TypeId} {ps : String} {af : Array Edge} {gd : Option (Nat × Bool)}
theorem l_build2 {t : TypeId} {x y : Operand} {u v : Value} {cs : Array Value} (hw : want n ops f ⟨d, .build t #[(0, x), (1, y)], tt, ps, af, gd⟩ = true) (hx : X n f x = u) (hy : X n f y = v) (hc : P.built t [(0, u), (1, v)] = some cs)
    (h : WL P ops Q rest (act n (put f d (.agg cs))) w) : WL P ops Q (⟨d, .build t #[(0, x), (1, y)], tt, ps, af, gd⟩ :: rest) (act n f) w := by
  refine l_val hw ?_ h
  have := run_build w t #[(0, u), (1, v)] cs hc
  unfold execOp
  simp [hx, hy, this]
theorem l_mkI {t : TypeId} {fs : Array Field} {x : Operand} {v : Value} (hw : want n ops f ⟨d, .makeInterface t x, tt, ps, af, gd⟩ = true) (hx : X n f x = v) (hu : P.underlying t = some (.struct fs))
    (h : WL P ops Q rest (act n (put f d (.iface t v))) w) : WL P ops Q (⟨d, .makeInterface t x, tt, ps, af, gd⟩ :: rest) (act n f) w := by
  refine l_val hw ?_ h
  have : (Instr.makeInterface t v).run P w = .ok (.iface t v) w := by
    simp [Instr.makeInterface, run_underlying hu, go_sem]
  unfold execOp
  simp [hx, this]
end
abbrev placV (part : ByteArray) (e : Value) : Value := .iface 188 (.agg #[.string part, e])
theorem built_placed (part : ByteArray) (t : TypeId) (v : Value) : Tryz.prog.built 188 [(0, .string part), (1, .iface t v)] = some #[.string part, .iface t v] := by kernel_rfl
theorem in_nil (part : ByteArray) (w : World) : Calls Tryz.prog 67 #[.string part, .nilIface] w fun e w' => e = .returned .nilIface ∧ w' = w := by
  refine enter (args := [.string part, .nilIface]) Tryz.func67 rfl Tryz.ntmps67 rfl ?_
  repeat' (first | (with_reducible first | refine p_tn ?_ | refine wp_seq ?_ | refine w_reg ?_ | refine l_nil ?_) | (with_reducible (refine is_l ?_; (refine l_p tys rfl rfl ?_))))
  (with_reducible refine is_l ?_); refine l_t tys rfl rfl (fun _ => ?_) (fun hh => absurd trivial hh)
  repeat' (first | (with_reducible first | refine p_tn ?_ | refine p_tr ?_ | refine wp_seq ?_ | refine w_reg ?_) | (with_reducible (refine is_if ?_; (refine w_ift rfl ?_))) | (with_reducible first | refine wp_ret ?_ | refine l_nil ?_) | (with_reducible (refine is_l ?_; (refine l_p tys rfl rfl ?_))))
  refine end1 rfl rfl ?_
  exact ⟨rfl, rfl⟩
theorem in_c (part : ByteArray) (t : TypeId) (v : Value) (w : World) : Calls Tryz.prog 67 #[.string part, .iface t v] w fun e w' => e = .returned (placV part (.iface t v)) ∧ w' = w := by
  refine enter (args := [.string part, .iface t v]) Tryz.func67 rfl Tryz.ntmps67 rfl ?_
  repeat' (first | (with_reducible first | refine p_tn ?_ | refine wp_seq ?_ | refine w_reg ?_ | refine l_nil ?_) | (with_reducible (refine is_l ?_; (refine l_p tys rfl rfl ?_))))
  (with_reducible refine is_l ?_); refine l_t tys rfl rfl (fun hh => hh.elim) (fun _ => ?_)
  repeat' (first | (with_reducible first | refine p_tn ?_ | refine wp_seq ?_ | refine w_reg ?_) | (with_reducible (refine is_if ?_; (refine w_iff rfl ?_))) | (with_reducible first | refine wp_skip ?_ | refine l_nil ?_) | (with_reducible (refine is_l ?_; (refine l_p tys rfl rfl ?_))))
  (with_reducible refine is_l ?_); refine l_build2 rfl rfl rfl (built_placed part t v) ?_
  (with_reducible refine is_l ?_); refine l_mkI rfl rfl Tryz.underlying188 ?_
  repeat' (first | (with_reducible first | refine p_tn ?_ | refine wp_ret ?_ | refine l_nil ?_) | (with_reducible (refine is_l ?_; (refine l_p tys rfl rfl ?_))))
  refine end1 rfl rfl ?_
  exact ⟨rfl, rfl⟩
end Go.Proofs.YthgojbdpmcccaaaGreatDoor.K
end
section
namespace Go.Proofs.YthgojbdpmcccaaaGreatDoor.K
open Go.RowKit Go.Proofs.YthgojbdpmcccaaaGreatDoor.Q Go.Proofs.YthgojbdpmcccaaaGreatDoor.Wb Go.Proofs.YthgojbdpmcccaaaGreatDoorW.PrintWords
set_option linter.unusedVariables false
set_option linter.unusedSimpArgs false
theorem cutb_c (t : ByteArray) (c : UInt8) (ht : t.size < 4294967281) (w : World) (m : Int) (hm : w.cell? ⟨20, 0, none⟩ = some (.int .i64 m)) :
    Calls Tryz.prog 169 #[.string t, .string ⟨#[c]⟩] w fun e w' => e = .returned (.tuple #[.string (strOfNums (aheadC (c.toNat : Int) (bl t))), .string (strOfNums (behindC (c.toNat : Int) (bl t))), .bool (cutC (c.toNat : Int) (bl t)).isSome]) ∧ Below w.heap.size w w' := by
  refine (Tryz.strings_Cut t ⟨#[c]⟩ m w ht hm).mono fun e w' h => ?_
  obtain ⟨h1, k, h2⟩ := h
  refine ⟨?_, by rw [h2]; exact pw_below_drewN (Below.refl _ w) k⟩
  rw [h1]
  have hcc : (c.toNat : Int).toNat.toUInt8 = c := by simp
  have hi := index_find (c := (c.toNat : Int)) (by omega) (by have := c.toNat_lt; omega) t.data.toList
  rw [hcc] at hi
  obtain ⟨h3, h4⟩ := cut_find (c.toNat : Int) (bl t)
  have hb : (t.data.toList.map fun b => (b.toNat : Int)) = bl t := rfl
  rw [hb] at hi
  have key : bl ⟨(Lib.cut t.data.toList [c]).1.toArray⟩ = aheadC (c.toNat : Int) (bl t) ∧ bl ⟨(Lib.cut t.data.toList [c]).2.1.toArray⟩ = behindC (c.toNat : Int) (bl t) ∧ (Lib.cut t.data.toList [c]).2.2 = (cutC (c.toNat : Int) (bl t)).isSome := by
    unfold Lib.cut
    rw [Lib.index_one, hi]
    by_cases h : 0 ≤ find (c.toNat : Int) (bl t)
    · rw [if_pos h]
      unfold aheadC behindC
      rw [h3 h]
      refine ⟨by simp [bl, List.map_take], by simp [bl, List.map_drop], rfl⟩
    · rw [if_neg h]
      unfold aheadC behindC
      rw [h4 (by omega)]
      exact ⟨rfl, rfl, rfl⟩
  rw [← key.1, ← key.2.1, ← key.2.2, strS, strS]
theorem splitC_find (c : Int) : ∀ l : L, splitC c l = if find c l < 0 then [l] else l.take (find c l).toNat :: splitC c (l.drop ((find c l).toNat + 1))
  | [] => by rw [if_pos (by show (-1 : Int) < 0; omega)]; rfl
  | x :: r => by
    have ih := splitC_find c r
    have hg := find_ge c r
    by_cases hx : x = c
    · have ef : find c (x :: r) = 0 := by simp [find, hx]
      rw [ef, if_neg (by omega)]
      simp [splitC, hx]
    · by_cases h : find c r < 0
      · have ef : find c (x :: r) = -1 := by simp [find, hx, h]
        rw [if_pos h] at ih
        rw [ef, if_pos (by omega), splitC, if_neg hx, ih]
      · have ef : find c (x :: r) = find c r + 1 := by simp [find, hx, h]
        rw [if_neg h] at ih
        rw [ef, if_neg (by omega), splitC, if_neg hx, ih]
        have e : (find c r + 1).toNat = (find c r).toNat + 1 := by omega
        simp [e]
theorem split_eq (c : UInt8) : ∀ (k : Nat) (s : ByteArray), Lib.countB s ⟨#[c]⟩ = k → (Lib.splitB ⟨#[c]⟩ 0 k s).map bl = splitC (c.toNat : Int) (bl s) := by
  have hix : ∀ s : ByteArray, Lib.indexB s ⟨#[c]⟩ = find (c.toNat : Int) (bl s) := by
    intro s
    have hcc : (c.toNat : Int).toNat.toUInt8 = c := by simp
    have hi := index_find (c := (c.toNat : Int)) (by omega) (by have := c.toNat_lt; omega) s.data.toList
    rw [hcc] at hi
    show Lib.index s.data.toList [c] = _
    rw [Lib.index_one]
    exact hi
  intro k
  induction k with
  | zero =>
    intro s hk
    rw [splitC_find]
    by_cases h : find (c.toNat : Int) (bl s) < 0
    · rw [if_pos h]; rfl
    · obtain ⟨i, hi⟩ := Int.eq_ofNat_of_zero_le (show 0 ≤ find (c.toNat : Int) (bl s) by omega)
      have := Lib.countB_hit s ⟨#[c]⟩ i (Nat.le_refl 1) (by rw [hix, hi])
      omega
  | succ k ih =>
    intro s hk
    rw [splitC_find]
    by_cases h : find (c.toNat : Int) (bl s) < 0
    · have := Lib.countB_miss s ⟨#[c]⟩ (by rw [hix]; have := find_ge (c.toNat : Int) (bl s); omega)
      omega
    · rw [if_neg h]
      obtain ⟨i, hi⟩ := Int.eq_ofNat_of_zero_le (show 0 ≤ find (c.toNat : Int) (bl s) by omega)
      have h1 := Lib.countB_hit s ⟨#[c]⟩ i (Nat.le_refl 1) (by rw [hix, hi])
      rw [Lib.splitB_hit _ _ _ _ i (by rw [hix, hi]), List.map_cons, ih _ (by omega), hi, blE, blE]
      have e1 : (bl s).length = s.size := bl_length s
      have e2 : (ByteArray.mk #[c]).size = 1 := rfl
      rw [e2, Int.toNat_natCast]
      congr 1
      rw [List.take_of_length_le (by rw [List.length_drop]; omega)]
abbrev strC (l : List L) : List Value := l.map fun x => .string (strOfNums x)
abbrev fldC (l : List Fld) : List Value := l.flatMap fun x => [.string (strOfNums x.1), .string (strOfNums x.2)]
theorem fldC_len (l : List Fld) : (fldC l).length = l.length * 2 := by
  induction l with
  | nil => rfl
  | cons x r ih => simp only [fldC, List.flatMap_cons, List.length_append, List.length_cons, List.length_nil] at ih ⊢; omega
theorem split_c (t : ByteArray) (c : UInt8) (ht : t.size < 4294967281) (w : World) (m : Int) (hm : w.cell? ⟨20, 0, none⟩ = some (.int .i64 m)) :
    Calls Tryz.prog 109 #[.string t, .string ⟨#[c]⟩] w fun e w' => ∃ g, e = .returned (.slice (some ⟨g, 0, none⟩) (splitC (c.toNat : Int) (bl t)).length (splitC (c.toNat : Int) (bl t)).length) ∧ Hp w w' [(g, 9, strC (splitC (c.toNat : Int) (bl t)))] [] := by
  refine (Tryz.strings_Split t ⟨#[c]⟩ m w ht hm (Nat.le_refl 1)).mono fun e w' h => ?_
  obtain ⟨h1, h2⟩ := h
  have hs := split_eq c _ t rfl
  have hl : (splitC (c.toNat : Int) (bl t)).length = Lib.countB t ⟨#[c]⟩ + 1 := by
    rw [← hs, List.length_map, Lib.splitB_all ⟨#[c]⟩ (Nat.le_refl 1) _ _ _ rfl]
  have hc : (Lib.splitB ⟨#[c]⟩ 0 (Lib.countB t ⟨#[c]⟩) t).map Value.string = strC (splitC (c.toNat : Int) (bl t)) := by
    rw [← hs, strC, List.map_map]
    exact List.map_congr_left fun x _ => by simp [strS]
  refine ⟨w.heap.size, by rw [h1, hl], ?_⟩
  rw [h2, hc]
  exact (Hp.nil w).push 9 _
theorem host1_c (c : Int) (w : World) (h0 : 0 ≤ c) (h1 : c ≤ 255) : Calls Tryz.prog 151 #[.int .u8 c] w fun e w' => e = .returned (.bool (hostB c)) ∧ w' = w := by
  refine enter (args := [.int .u8 c]) Tryz.func151 rfl Tryz.ntmps151 rfl ?_
  have hx := index_has ⟨#[47, 63, 35, 64, 92]⟩ c h0 h1
  have hb : bl ⟨#[47, 63, 35, 64, 92]⟩ = [47, 63, 35, 64, 92] := rfl
  rw [hb] at hx
  repeat' (first | (with_reducible first | refine p_tn ?_ | refine wp_seq ?_ | refine w_reg ?_ | refine wp_ret ?_) | (first | (with_reducible refine l_nil ?_) | (with_reducible (refine is_l ?_; (first | (refine l_off rfl ?_) | (refine l_p tys rfl rfl ?_) | (refine l_t tys rfl rfl (fun _ => ?_) (fun _ => ?_)))))) | ((with_reducible refine is_l ?_); refine l_callp rfl rfl (by kernel_rfl) (isVisible_c c w) ?_; cases hl : visB c) | ((with_reducible refine is_l ?_); refine l_callp rfl rfl (by kernel_rfl) (Tryz.strings_IndexByte _ c w) ?_))
  all_goals (refine end1 rfl rfl ?_; refine ⟨?_, rfl⟩; simp only [hostB, *]; first | rfl | skip)
  all_goals
    rename_i hq
    cases hc : ([47, 63, 35, 64, 92] : List Int).contains c
    · first
      | rfl
      | (exfalso; rw [hc] at hx; have := hx.1 (by omega); simp at this)
    · first
      | rfl
      | (exfalso; have := hx.2 hc; omega)
theorem kind_host : Kind 151 hostB := ⟨by kernel_rfl, fun c w h0 h1 => host1_c c w h0 h1⟩
def hostBad (m : Frm) (minor : Int) : Bool := decide (1 < m.hosts) || (decide (m.hosts = 0) && decide (minor = 1)) || !((bl m.host).all hostB)
set_option maxHeartbeats 4000000 in
theorem checkHost_c {A : Nat → Addr} {w : World} (hE : LayS A w) (m : Frm) (hm : m.host.size ≤ 100000000) (minor : Int) :
    Calls Tryz.prog 103 #[.agg (frmA m), .int .i64 minor] w fun e w' => e = .returned (if hostBad m minor = true then errV (A 9) else .nilIface) ∧ Below w.heap.size w w' := by
  have c9 := (hE.sent 9 (by decide) (by decide)).cell
  refine enter (args := [.agg (frmA m), .int .i64 minor]) Tryz.func103 rfl Tryz.ntmps103 rfl ?_
  have H := Hp.nil w
  repeat' (first | (with_reducible first | refine p_tn ?_ | refine wp_seq ?_ | refine w_reg ?_ | refine l_nil ?_) | ((with_reducible refine g_on ?_); (first | ((with_reducible refine g_as ?_); refine l_p txs rfl rfl ?_) | ((with_reducible refine g_fa ?_); refine h_fa flds rfl rfl ?_) | ((with_reducible refine g_ld ?_); (refine h_ld txs H 0 rfl rfl rfl rfl ?_)) | ((with_reducible refine g_bx ?_); refine h_box H rfl rfl rfl (fun g_ w_ H => ?_)))))
  (with_reducible refine is_l ?_); refine l_t txs rfl rfl (fun h => ?_) (fun h => ?_)
  · have hb : hostBad m minor = true := by simp [hostBad, h]
    repeat' (first | (with_reducible first | refine p_tn ?_ | refine wp_seq ?_ | refine w_reg ?_) | (with_reducible (refine is_if ?_; (refine w_ift rfl ?_))) | (with_reducible refine l_nil ?_) | ((with_reducible refine g_on ?_); (first | ((with_reducible refine g_mv ?_); refine l_p txs rfl rfl ?_) | ((with_reducible refine g_pk ?_); refine l_p txs rfl rfl ?_))) | ((with_reducible refine g_if ?_); (refine l_off rfl ?_)))
    (with_reducible refine is_l ?_); refine l_ld txs rfl rfl (H.old c9) ?_
    repeat' (first | (with_reducible first | refine p_tn ?_ | refine p_tr ?_ | refine wp_ret ?_ | refine l_nil ?_) | ((with_reducible refine g_on ?_); ((with_reducible refine g_as ?_); refine l_p txs rfl rfl ?_)))
    refine end1 rfl rfl ?_
    exact ⟨by rw [if_pos hb], H.B⟩
  repeat' (first | ((with_reducible refine g_on ?_); ((with_reducible refine g_mv ?_); refine l_p txs rfl rfl ?_)) | ((with_reducible refine g_if ?_); (first | ((with_reducible refine g_fa ?_); refine h_fa flds rfl rfl ?_) | ((with_reducible refine g_ld ?_); (refine h_ld txs H 0 rfl rfl rfl rfl ?_)))))
  (with_reducible refine is_l ?_); refine l_t txs rfl rfl (fun h2 => ?_) (fun h2 => ?_)
  · repeat' ((with_reducible refine g_if ?_); ((with_reducible refine g_mv ?_); refine l_p txs rfl rfl ?_))
    (with_reducible refine is_l ?_); refine l_t txs rfl rfl (fun h3 => ?_) (fun h3 => ?_)
    · have hb : hostBad m minor = true := by simp [hostBad, h2, h3]
      repeat' (first | (with_reducible first | refine p_tn ?_ | refine wp_seq ?_ | refine w_reg ?_) | (with_reducible (refine is_if ?_; (refine w_ift rfl ?_))) | (with_reducible refine l_nil ?_) | ((with_reducible refine g_on ?_); ((with_reducible refine g_pk ?_); refine l_p txs rfl rfl ?_)) | ((with_reducible refine g_if ?_); ((with_reducible refine g_pk ?_); refine l_p txs rfl rfl ?_)))
      (with_reducible refine is_l ?_); refine l_ld txs rfl rfl (H.old c9) ?_
      repeat' (first | (with_reducible first | refine p_tn ?_ | refine p_tr ?_ | refine wp_ret ?_ | refine l_nil ?_) | ((with_reducible refine g_on ?_); ((with_reducible refine g_as ?_); refine l_p txs rfl rfl ?_)))
      refine end1 rfl rfl ?_
      exact ⟨by rw [if_pos hb], H.B⟩
    repeat' (first | (with_reducible first | refine p_tn ?_ | refine wp_seq ?_ | refine w_reg ?_) | (with_reducible (refine is_if ?_; (refine w_iff rfl ?_))) | (with_reducible first | refine wp_skip ?_ | refine l_nil ?_) | ((with_reducible refine g_on ?_); (first | ((with_reducible refine g_pk ?_); refine l_p txs rfl rfl ?_) | ((with_reducible refine g_fa ?_); refine h_fa flds rfl rfl ?_) | ((with_reducible refine g_ld ?_); (refine h_ld txs H 0 rfl rfl rfl rfl ?_)))) | ((with_reducible refine g_if ?_); ((with_reducible refine g_pk ?_); refine l_p txs rfl rfl ?_)))
    (with_reducible refine is_l ?_); refine l_callp rfl rfl (by kernel_rfl) (all_c m.host 151 hostB kind_host _ (by omega)) ?_
    cases hq : (bl m.host).all hostB
    · have hb : hostBad m minor = true := by simp [hostBad, hq]
      repeat' (first | (with_reducible first | refine p_tn ?_ | refine wp_seq ?_ | refine w_reg ?_) | (with_reducible (refine is_if ?_; (refine w_ift rfl ?_))) | (with_reducible refine l_nil ?_) | ((with_reducible refine g_on ?_); ((with_reducible refine g_un ?_); (refine l_p txs rfl rfl ?_))))
      (with_reducible refine is_l ?_); refine l_ld txs rfl rfl (H.old c9) ?_
      repeat' (first | (with_reducible first | refine p_tn ?_ | refine p_tr ?_ | refine wp_ret ?_ | refine l_nil ?_) | ((with_reducible refine g_on ?_); ((with_reducible refine g_as ?_); refine l_p txs rfl rfl ?_)))
      refine end1 rfl rfl ?_
      exact ⟨by rw [if_pos hb], H.B⟩
    · have hb : ¬ hostBad m minor = true := by simp [hostBad, hq, h2, h3]
      repeat' (first | (with_reducible first | refine p_tn ?_ | refine wp_seq ?_ | refine w_reg ?_) | (with_reducible (refine is_if ?_; (refine w_iff rfl ?_))) | (with_reducible first | refine wp_skip ?_ | refine wp_ret ?_ | refine l_nil ?_) | ((with_reducible refine g_on ?_); (first | ((with_reducible refine g_as ?_); refine l_p txs rfl rfl ?_) | ((with_reducible refine g_un ?_); (refine l_p txs rfl rfl ?_)))))
      refine end1 rfl rfl ?_
      exact ⟨by rw [if_neg hb], H.B⟩
  · repeat' (first | (with_reducible first | refine p_tn ?_ | refine wp_seq ?_ | refine w_reg ?_) | (with_reducible (refine is_if ?_; (refine w_iff rfl ?_))) | (with_reducible first | refine wp_skip ?_ | refine l_nil ?_) | ((with_reducible refine g_on ?_); (first | ((with_reducible refine g_pk ?_); refine l_p txs rfl rfl ?_) | ((with_reducible refine g_fa ?_); refine h_fa flds rfl rfl ?_) | ((with_reducible refine g_ld ?_); (refine h_ld txs H 0 rfl rfl rfl rfl ?_)))) | ((with_reducible refine g_if ?_); (first | (refine l_off rfl ?_) | ((with_reducible refine g_mv ?_); refine l_p txs rfl rfl ?_) | ((with_reducible refine g_pk ?_); refine l_p txs rfl rfl ?_))))
    (with_reducible refine is_l ?_); refine l_callp rfl rfl (by kernel_rfl) (all_c m.host 151 hostB kind_host _ (by omega)) ?_
    cases hq : (bl m.host).all hostB
    · have hb : hostBad m minor = true := by simp [hostBad, hq]
      repeat' (first | (with_reducible first | refine p_tn ?_ | refine wp_seq ?_ | refine w_reg ?_) | (with_reducible (refine is_if ?_; (refine w_ift rfl ?_))) | (with_reducible refine l_nil ?_) | ((with_reducible refine g_on ?_); ((with_reducible refine g_un ?_); (refine l_p txs rfl rfl ?_))))
      (with_reducible refine is_l ?_); refine l_ld txs rfl rfl (H.old c9) ?_
      repeat' (first | (with_reducible first | refine p_tn ?_ | refine p_tr ?_ | refine wp_ret ?_ | refine l_nil ?_) | ((with_reducible refine g_on ?_); ((with_reducible refine g_as ?_); refine l_p txs rfl rfl ?_)))
      refine end1 rfl rfl ?_
      exact ⟨by rw [if_pos hb], H.B⟩
    · have hb : ¬ hostBad m minor = true := by simp [hostBad, hq, h, h2]
      repeat' (first | (with_reducible first | refine p_tn ?_ | refine wp_seq ?_ | refine w_reg ?_) | (with_reducible (refine is_if ?_; (refine w_iff rfl ?_))) | (with_reducible first | refine wp_skip ?_ | refine wp_ret ?_ | refine l_nil ?_) | ((with_reducible refine g_on ?_); (first | ((with_reducible refine g_as ?_); refine l_p txs rfl rfl ?_) | ((with_reducible refine g_un ?_); (refine l_p txs rfl rfl ?_)))))
      refine end1 rfl rfl ?_
      exact ⟨by rw [if_neg hb], H.B⟩
end Go.Proofs.YthgojbdpmcccaaaGreatDoor.K
end
section
namespace Go.Proofs.YthgojbdpmcccaaaGreatDoor.K
open Go.RowKit Go.Proofs.YthgojbdpmcccaaaGreatDoor.Q Go.Proofs.YthgojbdpmcccaaaGreatDoor.Wb Go.Proofs.YthgojbdpmcccaaaGreatDoorW.PrintWords
set_option linter.unusedVariables false
set_option linter.unusedSimpArgs false
theorem bytes_ahead {c : Int} {l : L} (h : Bytes l) : Bytes (aheadC c l) := fun x hx => h x (ahead_sub c l x hx)
theorem behind_sub (c : Int) (s : L) : ∀ x ∈ behindC c s, x ∈ s := by
  intro x hx
  unfold behindC at hx
  split at hx
  · rename_i a b h
    rw [(cutC_some h).1]
    simp [hx]
  · cases hx
theorem bytes_behind {c : Int} {l : L} (h : Bytes l) : Bytes (behindC c l) := fun x hx => h x (behind_sub c l x hx)
theorem bytes_trim {l : L} (h : Bytes l) : Bytes (trimS l) := fun x hx => h x (trim_sub l x hx)
theorem built_f0 : Tryz.prog.built 95 [] = some #[.string ⟨#[]⟩, .string ⟨#[]⟩] := by kernel_rfl
theorem built_f2 (a b : ByteArray) : Tryz.prog.built 95 [(0, .string a), (1, .string b)] = some #[.string a, .string b] := by kernel_rfl
def fieldV (C : Addr) (s : L) : Value := match fieldS s with
  | some f => .tuple #[.agg #[.string (strOfNums f.1), .string (strOfNums f.2)], .nilIface]
  | none => .tuple #[.agg #[.string ⟨#[]⟩, .string ⟨#[]⟩], errV C]
theorem fieldV_none {C : Addr} {s : L} (h : fieldS s = none) : fieldV C s = .tuple #[.agg #[.string ⟨#[]⟩, .string ⟨#[]⟩], errV C] := by unfold fieldV; rw [h]
theorem fieldV_some {C : Addr} {s : L} {f : Fld} (h : fieldS s = some f) : fieldV C s = .tuple #[.agg #[.string (strOfNums f.1), .string (strOfNums f.2)], .nilIface] := by unfold fieldV; rw [h]
set_option maxHeartbeats 4000000 in
theorem field_c {A : Nat → Addr} {w : World} (hE : LayS A w) {mx : Int} (hM : w.cell? ⟨20, 0, none⟩ = some (.int .i64 mx)) (t : ByteArray) (ht : t.size ≤ 100000000) :
    Calls Tryz.prog 158 #[.string t] w fun e w' => e = .returned (fieldV (A 8) (bl t)) ∧ Below w.heap.size w w' := by
  have c8 := (hE.sent 8 (by decide) (by decide)).cell
  have hcut := fun w1 h1 => cutb_c t 58 (by omega) w1 mx h1
  simp only [show ((58 : UInt8).toNat : Int) = 58 from rfl] at hcut
  have hlen := bl_length t
  refine enter (args := [.string t]) Tryz.func158 rfl Tryz.ntmps158 rfl ?_
  have H := Hp.nil w
  repeat' (first | (with_reducible first | refine p_tn ?_ | refine wp_seq ?_ | refine w_reg ?_ | refine l_nil ?_) | ((with_reducible refine g_on ?_); (first | ((with_reducible refine g_mv ?_); refine l_p txs rfl rfl ?_) | ((with_reducible refine g_as ?_); refine l_p txs rfl rfl ?_) | ((with_reducible refine g_al ?_); refine h_alloc recs H rfl rfl (fun g_ w_ H => ?_)))))
  have b1 := bytes_ahead (c := 58) (bl_bytes t)
  have b2 := bytes_behind (c := 58) (bl_bytes t)
  have z1 := sizeS' b1
  have z2 := sizeS' b2
  have le1 := aheadC_le 58 (bl t)
  have le2 := behindC_le 58 (bl t)
  have fs : fieldS (bl t) = if (cutC 58 (bl t)).isSome = true ∧ tokS (aheadC 58 (bl t)) = true ∧ (behindC 58 (bl t)).all valB = true then some (aheadC 58 (bl t), trimS (behindC 58 (bl t))) else none := by
    unfold fieldS aheadC behindC
    cases cutC 58 (bl t) with
    | none => simp
    | some p => simp
  obtain ⟨an, han⟩ : ∃ a, a = aheadC 58 (bl t) := ⟨_, rfl⟩
  obtain ⟨bh, hbh⟩ : ∃ a, a = behindC 58 (bl t) := ⟨_, rfl⟩
  rw [← han] at fs b1 z1 le1 hcut
  rw [← hbh] at fs b2 z2 le2 hcut
  cases hq : (cutC 58 (bl t)).isSome
  · have hn : fieldS (bl t) = none := by rw [fs, if_neg]; rw [hq]; simp
    have hc := hcut _ (H.old hM)
    rw [hq] at hc
    (with_reducible refine is_l ?_); refine l_callv rfl rfl (by kernel_rfl) hc (fun w_ K => ?_)
    have H := H.call K
    repeat' (first | (with_reducible first | refine p_tn ?_ | refine wp_seq ?_ | refine w_reg ?_) | (with_reducible (refine is_if ?_; (refine w_ift rfl ?_))) | (with_reducible refine l_nil ?_) | ((with_reducible refine g_on ?_); (first | ((with_reducible refine g_mv ?_); refine l_p txs rfl rfl ?_) | ((with_reducible refine g_as ?_); refine l_p txs rfl rfl ?_) | ((with_reducible refine g_ex ?_); refine l_p txs rfl rfl ?_) | ((with_reducible refine g_pk ?_); refine l_p txs rfl rfl ?_) | ((with_reducible refine g_un ?_); (refine l_p txs rfl rfl ?_)))) | ((with_reducible refine g_if ?_); (refine l_off rfl ?_)))
    have HS := H.pick [] [] (by decide) (by decide) rfl rfl
    refine d_start (fun w_ => Hp w w_ _ _) #[false, false, false, false] (by kernel_rfl) rfl rfl HS.drew ?_
    have H := H.drew
    have HS := HS.drew
    first | (refine d_pure (i := 0) #[true, false, false, false] rfl (by kernel_rfl) (fun _ _ _ h => h) rfl (fun w_ => evBld_run (o := ⟨_, _, _, _, _, _⟩) rfl built_f0) ?_)
    first | (refine d_take (i := 1) #[true, true, false, false] rfl (by kernel_rfl) (fun _ _ _ h => h) rfl (fun w_ K => evL_run (o := ⟨_, _, _, _, _, _⟩) txs rfl (K.old c8)) HS ?_)
    refine d_one (i := 2) #[true, true, true, false] rfl (by kernel_rfl) rfl ?_
    refine g_on ?_; ((with_reducible refine g_st ?_); (refine h_stR recs H 0 rfl rfl rfl rfl rfl rfl rfl rfl rfl (fun w_ H => ?_)))
    refine l_nil ?_
    have HS := H.pick [] [] (by decide) (by decide) rfl rfl
    refine ⟨rfl, HS, ?_⟩
    first | (refine d_pure (i := 3) #[true, true, true, true] rfl (by kernel_rfl) (fun _ _ _ h => h) rfl (fun w_ => evP_run (o := ⟨_, _, _, _, _, _⟩) txs rfl) ?_)
    refine d_done rfl ?_
    repeat' (with_reducible first | refine p_tn ?_ | refine p_tr ?_ | refine wp_ret ?_)
    refine end_ct recs H 0 rfl rfl rfl rfl rfl rfl ?_
    exact ⟨by rw [fieldV_none hn], H.B⟩
  have hc := hcut _ (H.old hM)
  rw [hq] at hc
  (with_reducible refine is_l ?_); refine l_callv rfl rfl (by kernel_rfl) hc (fun w_ K => ?_)
  have H := H.call K
  repeat' (first | (with_reducible first | refine p_tn ?_ | refine wp_seq ?_ | refine w_reg ?_ | refine l_nil ?_) | ((with_reducible refine g_on ?_); (first | ((with_reducible refine g_mv ?_); refine l_p txs rfl rfl ?_) | ((with_reducible refine g_as ?_); refine l_p txs rfl rfl ?_) | ((with_reducible refine g_ex ?_); refine l_p txs rfl rfl ?_) | ((with_reducible refine g_un ?_); (refine l_p txs rfl rfl ?_)))) | ((with_reducible refine g_if ?_); ((with_reducible refine g_mv ?_); refine l_p txs rfl rfl ?_)))
  have ht := token_c (strOfNums an) w_ (by omega)
  rw [blS b1] at ht
  cases htk : tokS an
  · have hn : fieldS (bl t) = none := by rw [fs, if_neg]; rw [htk]; simp
    rw [htk] at ht
    (with_reducible refine is_l ?_); refine l_callp rfl rfl (by kernel_rfl) ht ?_
    repeat' (first | (with_reducible first | refine p_tn ?_ | refine wp_seq ?_) | (with_reducible (refine is_if ?_; (refine w_ift rfl ?_))) | (with_reducible refine l_nil ?_) | ((with_reducible refine g_on ?_); (first | ((with_reducible refine g_mv ?_); refine l_p txs rfl rfl ?_) | ((with_reducible refine g_pk ?_); refine l_p txs rfl rfl ?_))) | ((with_reducible refine g_if ?_); (first | (refine l_off rfl ?_) | ((with_reducible refine g_un ?_); (refine l_p txs rfl rfl ?_)))))
    have HS := H.pick [] [] (by decide) (by decide) rfl rfl
    refine d_start (fun w_ => Hp w w_ _ _) #[false, false, false, false] (by kernel_rfl) rfl rfl HS.drew ?_
    have H := H.drew
    have HS := HS.drew
    first | (refine d_pure (i := 0) #[true, false, false, false] rfl (by kernel_rfl) (fun _ _ _ h => h) rfl (fun w_ => evBld_run (o := ⟨_, _, _, _, _, _⟩) rfl built_f0) ?_)
    first | (refine d_take (i := 1) #[true, true, false, false] rfl (by kernel_rfl) (fun _ _ _ h => h) rfl (fun w_ K => evL_run (o := ⟨_, _, _, _, _, _⟩) txs rfl (K.old c8)) HS ?_)
    refine d_one (i := 2) #[true, true, true, false] rfl (by kernel_rfl) rfl ?_
    refine g_on ?_; ((with_reducible refine g_st ?_); (refine h_stR recs H 0 rfl rfl rfl rfl rfl rfl rfl rfl rfl (fun w_ H => ?_)))
    refine l_nil ?_
    have HS := H.pick [] [] (by decide) (by decide) rfl rfl
    refine ⟨rfl, HS, ?_⟩
    first | (refine d_pure (i := 3) #[true, true, true, true] rfl (by kernel_rfl) (fun _ _ _ h => h) rfl (fun w_ => evP_run (o := ⟨_, _, _, _, _, _⟩) txs rfl) ?_)
    refine d_done rfl ?_
    repeat' (with_reducible first | refine p_tn ?_ | refine p_tr ?_ | refine wp_ret ?_)
    refine end_ct recs H 0 rfl rfl rfl rfl rfl rfl ?_
    exact ⟨by rw [fieldV_none hn], H.B⟩
  rw [htk] at ht
  (with_reducible refine is_l ?_); refine l_callp rfl rfl (by kernel_rfl) ht ?_
  repeat' (first | ((with_reducible refine g_on ?_); (first | ((with_reducible refine g_mv ?_); refine l_p txs rfl rfl ?_) | ((with_reducible refine g_pk ?_); refine l_p txs rfl rfl ?_))) | ((with_reducible refine g_if ?_); (first | ((with_reducible refine g_mv ?_); refine l_p txs rfl rfl ?_) | ((with_reducible refine g_un ?_); (refine l_p txs rfl rfl ?_)))))
  have ha := all_c (strOfNums bh) 121 valB kind_value w_ (by omega)
  rw [blS b2] at ha
  cases hv : bh.all valB
  · have hn : fieldS (bl t) = none := by rw [fs, if_neg]; rw [hv]; simp
    rw [hv] at ha
    (with_reducible refine is_l ?_); refine l_callp rfl rfl (by kernel_rfl) ha ?_
    repeat' (first | (with_reducible first | refine p_tn ?_ | refine wp_seq ?_) | (with_reducible (refine is_if ?_; (refine w_ift rfl ?_))) | (with_reducible refine l_nil ?_) | ((with_reducible refine g_on ?_); ((with_reducible refine g_pk ?_); refine l_p txs rfl rfl ?_)) | ((with_reducible refine g_if ?_); ((with_reducible refine g_un ?_); (refine l_p txs rfl rfl ?_))))
    have HS := H.pick [] [] (by decide) (by decide) rfl rfl
    refine d_start (fun w_ => Hp w w_ _ _) #[false, false, false, false] (by kernel_rfl) rfl rfl HS.drew ?_
    have H := H.drew
    have HS := HS.drew
    first | (refine d_pure (i := 0) #[true, false, false, false] rfl (by kernel_rfl) (fun _ _ _ h => h) rfl (fun w_ => evBld_run (o := ⟨_, _, _, _, _, _⟩) rfl built_f0) ?_)
    first | (refine d_take (i := 1) #[true, true, false, false] rfl (by kernel_rfl) (fun _ _ _ h => h) rfl (fun w_ K => evL_run (o := ⟨_, _, _, _, _, _⟩) txs rfl (K.old c8)) HS ?_)
    refine d_one (i := 2) #[true, true, true, false] rfl (by kernel_rfl) rfl ?_
    refine g_on ?_; ((with_reducible refine g_st ?_); (refine h_stR recs H 0 rfl rfl rfl rfl rfl rfl rfl rfl rfl (fun w_ H => ?_)))
    refine l_nil ?_
    have HS := H.pick [] [] (by decide) (by decide) rfl rfl
    refine ⟨rfl, HS, ?_⟩
    first | (refine d_pure (i := 3) #[true, true, true, true] rfl (by kernel_rfl) (fun _ _ _ h => h) rfl (fun w_ => evP_run (o := ⟨_, _, _, _, _, _⟩) txs rfl) ?_)
    refine d_done rfl ?_
    repeat' (with_reducible first | refine p_tn ?_ | refine p_tr ?_ | refine wp_ret ?_)
    refine end_ct recs H 0 rfl rfl rfl rfl rfl rfl ?_
    exact ⟨by rw [fieldV_none hn], H.B⟩
  have hn : fieldS (bl t) = some (an, trimS bh) := by rw [fs, if_pos ⟨hq, htk, hv⟩]
  rw [hv] at ha
  (with_reducible refine is_l ?_); refine l_callp rfl rfl (by kernel_rfl) ha ?_
  repeat' (first | (with_reducible first | refine p_tn ?_ | refine wp_seq ?_ | refine w_reg ?_) | (with_reducible (refine is_if ?_; (refine w_iff rfl ?_))) | (with_reducible first | refine wp_skip ?_ | refine l_nil ?_) | ((with_reducible refine g_on ?_); (first | ((with_reducible refine g_mv ?_); refine l_p txs rfl rfl ?_) | ((with_reducible refine g_pk ?_); refine l_p txs rfl rfl ?_))) | ((with_reducible refine g_if ?_); ((with_reducible refine g_un ?_); (refine l_p txs rfl rfl ?_))))
  have htr := trim_c (strOfNums bh) w_ (by omega)
  rw [blS b2] at htr
  (with_reducible refine is_l ?_); refine l_callv rfl rfl (by kernel_rfl) htr (fun w_ K => ?_)
  have H := H.call K
  (with_reducible refine is_l ?_); refine h_bld rfl rfl (built_f2 _ _) ?_
  repeat' (first | (with_reducible first | refine p_tn ?_ | refine wp_ret ?_ | refine l_nil ?_) | ((with_reducible refine g_on ?_); (first | ((with_reducible refine g_as ?_); refine l_p txs rfl rfl ?_) | ((with_reducible refine g_st ?_); (refine h_stR recs H 0 rfl rfl rfl rfl rfl rfl rfl rfl rfl (fun w_ H => ?_))))))
  refine end_ct recs H 0 rfl rfl rfl rfl rfl rfl ?_
  exact ⟨by rw [fieldV_some hn], H.B⟩
end Go.Proofs.YthgojbdpmcccaaaGreatDoor.K
end
section
namespace Go.Proofs.YthgojbdpmcccaaaGreatDoor.K
open Go.RowKit Go.Proofs.YthgojbdpmcccaaaGreatDoor.Q Go.Proofs.YthgojbdpmcccaaaGreatDoor.Wb Go.Proofs.YthgojbdpmcccaaaGreatDoorW.PrintWords
set_option linter.unusedVariables false
set_option linter.unusedSimpArgs false
theorem info_s : (Tryz.prog.info? 9).map (fun i => (i.zero, i.size, i.bytes)) = some (some (.string ⟨#[]⟩), 1, 16) := by kernel_rfl
theorem info_f : (Tryz.prog.info? 95).map (fun i => (i.zero, i.size, i.bytes)) = some (some (.agg #[.string ⟨#[]⟩, .string ⟨#[]⟩]), 2, 32) := by kernel_rfl
theorem fill_s (a : ByteArray) : Instr.fill (fun i => some (i * 1, 1)) ((Array.range (1 * 1)).map ((Value.string ⟨#[]⟩).cells[· % (Value.string ⟨#[]⟩).cells.size]!)) [(0, .string a)] = some [Value.string a].toArray := by kernel_rfl
theorem fill_f (a b : ByteArray) : Instr.fill (fun i => some (i * 2, 2)) ((Array.range (1 * 2)).map ((Value.agg #[.string ⟨#[]⟩, .string ⟨#[]⟩]).cells[· % (Value.agg #[.string ⟨#[]⟩, .string ⟨#[]⟩]).cells.size]!)) [(0, .agg [.string a, .string b].toArray)] = some [Value.string a, Value.string b].toArray := by kernel_rfl
abbrev BytesL (ls : List L) : Prop := ∀ x ∈ ls, Bytes x ∧ x.length ≤ 100000000
abbrev BytesF (l : List Fld) : Prop := ∀ x ∈ l, Bytes x.1 ∧ Bytes x.2 ∧ x.1.length ≤ 100000000 ∧ x.2.length ≤ 100000000
abbrev rowF (v : Value) (l : List Fld) : RowD := ⟨v, 95, 2, l.length, fldC l⟩
abbrev rowS (v : Value) (l : List L) : RowD := ⟨v, 9, 1, l.length, strC l⟩
def FsR (A : Nat → Addr) (w : World) (ls : List L) (e : Ending) (w' : World) : Prop := match fieldsE ls with
  | .error k => e = .returned (.tuple #[.slice none 0 0, errV (A (if k = 2 then 4 else 8))]) ∧ Hp w w' [] []
  | .ok l => ∃ B c, e = .returned (.tuple #[.slice B l.length c, .nilIface]) ∧ Hp w w' [] [rowF (.slice B l.length c) l]
theorem fieldsS_cons (x : L) (r : List L) : fieldsS (x :: r) = match fieldS x with | none => none | some f => match fieldsS r with | none => none | some fs => some (f :: fs) := rfl
theorem strC_at {ls : List L} {i : Nat} {x : L} (h : ls[i]? = some x) : (strC ls)[i * 1]? = some (.string (strOfNums x)) := by
  rw [Nat.mul_one, List.getElem?_map, h]; rfl
theorem fieldS_bytes {s : L} {f : Fld} (hb : Bytes s ∧ s.length ≤ 100000000) (h : fieldS s = some f) : Bytes f.1 ∧ Bytes f.2 ∧ f.1.length ≤ 100000000 ∧ f.2.length ≤ 100000000 := by
  unfold fieldS at h
  split at h
  · cases h
  · rename_i n v hc
    split at h
    · simp only [Option.some.injEq] at h
      subst h
      have h1 := (cutC_some hc).1
      have h2 := congrArg List.length h1
      simp only [List.length_append, List.length_cons] at h2
      have h3 : (trimS v).length ≤ v.length := by
        have h4 : (v.dropWhile blkB).length ≤ v.length := List.Sublist.length_le (List.dropWhile_sublist _)
        have h5 : (trimR (v.dropWhile blkB)).length ≤ (v.dropWhile blkB).length := by
          unfold trimR
          rw [List.length_reverse]
          have := List.Sublist.length_le (List.dropWhile_sublist blkB (l := (v.dropWhile blkB).reverse))
          rw [List.length_reverse] at this
          exact this
        unfold trimS
        omega
      exact ⟨fun x hx => hb.1 x (by rw [h1]; simp [hx]), bytes_trim (fun x hx => hb.1 x (by rw [h1]; simp [hx])), by show n.length ≤ _; omega, by show (trimS v).length ≤ _; omega⟩
    · cases h
set_option maxHeartbeats 4000000 in
theorem fieldsOf_c {A : Nat → Addr} {w : World} (hE : LayS A w) {mx : Int} (hM : w.cell? ⟨20, 0, none⟩ = some (.int .i64 mx)) {B : Option Addr} {c : Nat} {ls : List L} (hR : Rd w B (strC ls)) (hb : BytesL ls) :
    Calls Tryz.prog 111 #[.slice B ls.length c] w (FsR A w ls) := by
  have c4 := (hE.sent 4 (by decide) (by decide)).cell
  refine enter (args := [.slice B ls.length c]) Tryz.func111 rfl Tryz.ntmps111 rfl ?_
  have H := Hp.nil w
  repeat' (first | (with_reducible first | refine p_tn ?_ | refine wp_seq ?_ | refine w_reg ?_ | refine l_nil ?_) | ((with_reducible refine g_on ?_); (first | ((with_reducible refine g_mv ?_); refine l_p txs rfl rfl ?_) | ((with_reducible refine g_as ?_); refine l_p txs rfl rfl ?_) | ((with_reducible refine g_cl ?_); refine l_p txs rfl rfl ?_))))
  (with_reducible refine is_l ?_); refine l_t txs rfl rfl (fun hbig => ?_) (fun hbig => ?_)
  · have he : fieldsE ls = .error 2 := by unfold fieldsE; rw [if_pos (by omega)]
    repeat' (first | (with_reducible first | refine p_tn ?_ | refine wp_seq ?_) | (with_reducible (refine is_if ?_; (refine w_ift rfl ?_))) | (with_reducible refine l_nil ?_))
    have HS := H.pick [] [] (by decide) (by decide) rfl rfl
    refine d_start (fun w_ => Hp w w_ _ _) #[false, false, false] (by kernel_rfl) rfl rfl HS.drew ?_
    have H := H.drew
    have HS := HS.drew
    first | (refine d_take (i := 0) #[true, false, false] rfl (by kernel_rfl) (fun _ _ _ h => h) rfl (fun w_ K => evL_run (o := ⟨_, _, _, _, _, _⟩) txs rfl (K.old c4)) HS ?_)
    first | (refine d_pure (i := 1) #[true, true, false] rfl (by kernel_rfl) (fun _ _ _ h => h) rfl (fun w_ => evP_run (o := ⟨_, _, _, _, _, _⟩) txs rfl) ?_)
    first | (refine d_pure (i := 2) #[true, true, true] rfl (by kernel_rfl) (fun _ _ _ h => h) rfl (fun w_ => evP_run (o := ⟨_, _, _, _, _, _⟩) txs rfl) ?_)
    refine d_done rfl ?_
    repeat' (with_reducible first | refine p_tn ?_ | refine p_tr ?_ | refine wp_ret ?_)
    refine end2 rfl rfl rfl ?_
    unfold FsR
    rw [he]
    exact ⟨rfl, H⟩
  have he : fieldsE ls = match fieldsS ls with | none => .error 143 | some l => .ok l := by unfold fieldsE; rw [if_neg (by omega)]; cases fieldsS ls <;> rfl
  repeat' (first | (with_reducible first | refine p_tn ?_ | refine wp_seq ?_ | refine wp_block ?_ | refine w_reg ?_) | (with_reducible (refine is_if ?_; (refine w_iff rfl ?_))) | (with_reducible first | refine wp_skip ?_ | refine l_nil ?_) | ((with_reducible refine g_on ?_); (first | ((with_reducible refine g_mv ?_); refine l_p txs rfl rfl ?_) | ((with_reducible refine g_as ?_); refine l_p txs rfl rfl ?_) | ((with_reducible refine g_cl ?_); refine l_p txs rfl rfl ?_))))
  have H := H.nilRow 95 2
  refine w_loop (σ := (Nat × List Fld) × Option Addr × Nat) (S := fun s => [(13, .slice B ls.length c), (14, .int .i64 (ls.length : Int)), (15, .int .i64 (s.1.1 : Int)), (4, .slice s.2.1 s.1.2.length s.2.2)])
    (J := fun s w' => Hp w w' [] [rowF (.slice s.2.1 s.1.2.length s.2.2) s.1.2] ∧ s.1.1 ≤ ls.length ∧ s.1.2.length = s.1.1 ∧ fieldsS ls = match fieldsS (ls.drop s.1.1) with | none => none | some r => some (s.1.2 ++ r)) (μ := fun s => ls.length - s.1.1) ((0, []), none, 0) ⟨rfl, rfl, rfl, rfl, trivial⟩
    ⟨H, by simp, rfl, by simp only [List.drop_zero, List.nil_append]; cases fieldsS ls <;> rfl⟩ ?_
  rintro ⟨⟨i, acc⟩, B1, c1⟩ f w_ ⟨H, hi, hai, hD⟩
  simp only at H hi hai hD ⊢
  repeat' (with_reducible first | refine wp_seq ?_ | refine w_reg ?_)
  (with_reducible refine is_l ?_); refine l_t txs rfl rfl (fun hlt => ?_) (fun hge => ?_)
  · obtain ⟨x, hx⟩ : ∃ x, ls[i]? = some x := ⟨_, List.getElem?_eq_getElem (by omega)⟩
    have hxm : x ∈ ls := List.mem_of_getElem? hx
    obtain ⟨ad, rfl⟩ : ∃ ad, B = some ad := by
      cases B with
      | none =>
        have := hR.1 rfl
        simp only [strC, List.map_eq_nil_iff] at this
        rw [this] at hx
        simp at hx
      | some ad => exact ⟨ad, rfl⟩
    have hcell := hR.2 ad rfl _ _ (strC_at hx)
    have hdrop : ls.drop i = x :: ls.drop (i + 1) := by
      have hil : i < ls.length := by omega
      rw [List.drop_eq_getElem_cons hil]
      congr 1
      rw [List.getElem?_eq_getElem hil] at hx
      exact Option.some.inj hx
    rw [hdrop, fieldsS_cons] at hD
    repeat' (first | (with_reducible first | refine p_tn ?_ | refine wp_seq ?_ | refine wp_block ?_ | refine w_reg ?_) | (with_reducible (refine is_if ?_; (refine w_ift rfl ?_))) | (with_reducible first | refine wp_skip ?_ | refine l_nil ?_) | ((with_reducible refine g_on ?_); ((with_reducible refine g_ia ?_); refine l_ia txs rfl rfl (by first | omega | assumption | decide) (by first | omega | assumption | decide) ?_)))
    (with_reducible refine is_l ?_); refine l_ld txs rfl rfl (by rw [Int.toNat_natCast]; exact H.old hcell) ?_
    repeat' (first | (with_reducible first | refine p_tn ?_ | refine wp_seq ?_ | refine w_reg ?_ | refine l_nil ?_) | ((with_reducible refine g_on ?_); (first | ((with_reducible refine g_mv ?_); refine l_p txs rfl rfl ?_) | ((with_reducible refine g_as ?_); refine l_p txs rfl rfl ?_))))
    have hx8 := sizeS' (hb x hxm).1
    have hfc := field_c (hE.below H.B) (H.old hM) (strOfNums x) (by have := (hb x hxm).2; omega)
    rw [blS (hb x hxm).1] at hfc
    cases hfx : fieldS x with
    | none =>
      rw [fieldV_none hfx] at hfc
      rw [hfx] at hD
      (with_reducible refine is_l ?_); refine l_callv rfl rfl (by kernel_rfl) hfc (fun w_ K => ?_)
      have H := H.call K
      repeat' (first | (with_reducible first | refine p_tn ?_ | refine wp_seq ?_ | refine w_reg ?_ | refine l_nil ?_) | ((with_reducible refine g_on ?_); (first | ((with_reducible refine g_mv ?_); refine l_p txs rfl rfl ?_) | ((with_reducible refine g_as ?_); refine l_p txs rfl rfl ?_) | ((with_reducible refine g_ex ?_); refine l_p txs rfl rfl ?_) | ((with_reducible refine g_st ?_); (refine h_stR recs H 0 rfl rfl rfl rfl rfl rfl rfl rfl rfl (fun w_ H => ?_))) | ((with_reducible refine g_al ?_); refine h_alloc recs H rfl rfl (fun g_ w_ H => ?_)))))
      (with_reducible refine is_l ?_); refine l_t txs rfl rfl (fun _ => ?_) (fun hh => absurd trivial hh)
      repeat' (first | (with_reducible first | refine p_tn ?_ | refine p_tr ?_ | refine p_br ?_ | refine wp_seq ?_ | refine w_reg ?_) | (with_reducible (refine is_if ?_; (refine w_ift rfl ?_))) | (with_reducible first | refine wp_ret ?_ | refine l_nil ?_) | ((with_reducible refine g_on ?_); (first | ((with_reducible refine g_mv ?_); refine l_p txs rfl rfl ?_) | ((with_reducible refine g_as ?_); refine l_p txs rfl rfl ?_))))
      refine end2 rfl rfl rfl ?_
      unfold FsR
      rw [he, hD]
      exact ⟨rfl, H.pick [] [] (by decide) (by decide) rfl rfl⟩
    | some fx =>
      rw [fieldV_some hfx] at hfc
      rw [hfx] at hD
      (with_reducible refine is_l ?_); refine l_callv rfl rfl (by kernel_rfl) hfc (fun w_ K => ?_)
      have H := H.call K
      repeat' (first | (with_reducible first | refine p_tn ?_ | refine wp_seq ?_ | refine w_reg ?_ | refine l_nil ?_) | ((with_reducible refine g_on ?_); (first | ((with_reducible refine g_mv ?_); refine l_p txs rfl rfl ?_) | ((with_reducible refine g_as ?_); refine l_p txs rfl rfl ?_) | ((with_reducible refine g_ex ?_); refine l_p txs rfl rfl ?_) | ((with_reducible refine g_st ?_); (refine h_stR recs H 0 rfl rfl rfl rfl rfl rfl rfl rfl rfl (fun w_ H => ?_))) | ((with_reducible refine g_al ?_); refine h_alloc recs H rfl rfl (fun g_ w_ H => ?_)))))
      (with_reducible refine is_l ?_); refine l_t txs rfl rfl (fun hh => absurd hh (by simp)) (fun _ => ?_)
      repeat' (first | (with_reducible first | refine p_tn ?_ | refine w_reg ?_) | (with_reducible (refine is_if ?_; (refine w_iff rfl ?_))) | (with_reducible first | refine wp_skip ?_ | refine l_nil ?_) | ((with_reducible refine g_on ?_); (first | ((with_reducible refine g_mv ?_); refine l_p txs rfl rfl ?_) | ((with_reducible refine g_ld ?_); (refine h_ldR recs H 0 rfl rfl rfl rfl rfl ?_)))))
      (with_reducible refine is_l ?_); refine h_bs H info_f Tryz.underlying27 (by decide) (by decide) rfl rfl (fill_f _ _) (fun g_ w_ H => ?_)
      (with_reducible refine is_l ?_); refine h_app H 0 rfl info_f Tryz.underlying27 rfl rfl rfl rfl (H.cellRd 0 rfl) rfl rfl (by show (acc.length + 1) * 32 ≤ _; omega) (fun v w_ hv H => ?_)
      obtain ⟨A', c', rfl⟩ := hv
      repeat' (first | (with_reducible first | refine p_tn ?_ | refine p_bn ?_ | refine w_reg ?_ | refine l_nil ?_) | ((with_reducible refine g_on ?_); (first | ((with_reducible refine g_mv ?_); refine l_p txs rfl rfl ?_) | ((with_reducible refine g_as ?_); refine l_p txs rfl rfl ?_) | ((with_reducible refine g_bi ?_); (refine l_a txs rfl rfl (by first | exact in_i64 (by omega) (by omega) | exact in_u8 (by omega) (by omega) | exact in_u64 (by omega) (by omega) | exact in_i32 (by omega) (by omega)) ?_)))))
      have hl : (acc ++ [fx]).length = acc.length + 1 := by simp
      have hcs : fldC (acc ++ [fx]) = fldC acc ++ [.string (strOfNums fx.1), .string (strOfNums fx.2)] := by simp [fldC]
      have H := H.pick [] [0] (by decide) (by decide) rfl rfl
      refine ⟨((i + 1, acc ++ [fx]), A', c'), _, rfl, ⟨rfl, rfl, rfl, ?_, trivial⟩, ⟨?_, by show i + 1 ≤ _; omega, by show (acc ++ [fx]).length = i + 1; omega, ?_⟩, by show _ - (i + 1) < _ - i; omega⟩
      · show Value.slice A' (acc.length + 1) c' = Value.slice A' (acc ++ [fx]).length c'
        rw [hl]
      · show Hp w _ [] [rowF (.slice A' (acc ++ [fx]).length c') (acc ++ [fx])]
        unfold rowF
        rw [hl, hcs]
        exact H
      · show fieldsS ls = match fieldsS (ls.drop (i + 1)) with | none => none | some r => some ((acc ++ [fx]) ++ r)
        rw [hD]
        cases fieldsS (ls.drop (i + 1)) with
        | none => rfl
        | some r => simp
  · have hnil : ls.drop i = [] := List.drop_eq_nil_of_le (by omega)
    rw [hnil] at hD
    have hD2 : fieldsS ls = some acc := by rw [hD]; show some (acc ++ []) = _; simp
    repeat' (first | (with_reducible first | refine p_tn ?_ | refine p_tx ?_ | refine x_hit ?_ | refine wp_seq ?_ | refine w_reg ?_) | (with_reducible (refine is_if ?_; (refine w_iff rfl ?_))) | (with_reducible first | refine wp_exit ?_ | refine wp_ret ?_ | refine l_nil ?_) | ((with_reducible refine g_on ?_); (first | ((with_reducible refine g_mv ?_); refine l_p txs rfl rfl ?_) | ((with_reducible refine g_as ?_); refine l_p txs rfl rfl ?_))))
    refine end2 rfl rfl rfl ?_
    unfold FsR
    rw [he, hD2]
    exact ⟨B1, c1, rfl, H⟩
end Go.Proofs.YthgojbdpmcccaaaGreatDoor.K
end
section
namespace Go.Proofs.YthgojbdpmcccaaaGreatDoor.K
open Go.RowKit Go.Proofs.YthgojbdpmcccaaaGreatDoor.Q Go.Proofs.YthgojbdpmcccaaaGreatDoor.Wb Go.Proofs.YthgojbdpmcccaaaGreatDoorW.PrintWords
set_option linter.unusedVariables false
set_option linter.unusedSimpArgs false
def frm0 : Frm := ⟨0, 0, 0, ⟨#[]⟩, ⟨#[]⟩, ⟨#[]⟩, false, false, false⟩
def wordsV (v : L) : List L := (splitC 44 v).map fun x => lowS (trimS x)
def frmStep (m : Frm) (f : Fld) : Frm :=
  if lowS f.1 = nHost then { m with hosts := m.hosts + 1, host := strOfNums f.2 }
  else if lowS f.1 = nConn then { m with closes := m.closes || (wordsV f.2).contains wClose, keeps := m.keeps || (wordsV f.2).contains wKeep }
  else if lowS f.1 = nCode then { m with codings := m.codings + 1, coding := strOfNums (lowS f.2), framed := true }
  else if lowS f.1 = nLen then { m with lengths := m.lengths + 1, length := strOfNums f.2, framed := true }
  else m
def frmS (l : List Fld) : Frm := l.foldl frmStep frm0
def Small (m : Frm) (n : Nat) : Prop := 0 ≤ m.hosts ∧ m.hosts ≤ n ∧ 0 ≤ m.codings ∧ m.codings ≤ n ∧ 0 ≤ m.lengths ∧ m.lengths ≤ n
theorem small_step {m : Frm} {n : Nat} (h : Small m n) (f : Fld) : Small (frmStep m f) (n + 1) := by
  obtain ⟨a, b, c, d, e, g⟩ := h
  unfold frmStep
  repeat' split
  all_goals (unfold Small; (try simp only); omega)
theorem fldC_at {l : List Fld} {i : Nat} {x : Fld} (h : l[i]? = some x) : (fldC l)[i * 2]? = some (.string (strOfNums x.1)) ∧ (fldC l)[i * 2 + 1]? = some (.string (strOfNums x.2)) := by
  induction l generalizing i with
  | nil => simp at h
  | cons y r ih =>
    have e : fldC (y :: r) = .string (strOfNums y.1) :: .string (strOfNums y.2) :: fldC r := rfl
    cases i with
    | zero => simp only [List.getElem?_cons_zero, Option.some.injEq] at h; subst h; rw [e]; exact ⟨rfl, rfl⟩
    | succ i =>
      have := ih (i := i) (by simpa using h)
      rw [e, show (i + 1) * 2 = i * 2 + 1 + 1 by omega]
      simpa using this
theorem bytes_low {l : L} (h : Bytes l) : Bytes (lowS l) := fun x hx => by
  obtain ⟨y, hy, rfl⟩ := List.mem_map.1 hx
  exact lowB_range (h y hy)
theorem low_len (l : L) : (lowS l).length = l.length := by simp [lowS]
theorem trim_len (v : L) : (trimS v).length ≤ v.length := by
  have h4 : (v.dropWhile blkB).length ≤ v.length := List.Sublist.length_le (List.dropWhile_sublist _)
  have h5 : (trimR (v.dropWhile blkB)).length ≤ (v.dropWhile blkB).length := by
    unfold trimR
    rw [List.length_reverse]
    have := List.Sublist.length_le (List.dropWhile_sublist blkB (l := (v.dropWhile blkB).reverse))
    rw [List.length_reverse] at this
    exact this
  unfold trimS
  omega
theorem split_mem (c : Int) : ∀ (l : L) (x : L), x ∈ splitC c l → (∀ y ∈ x, y ∈ l) ∧ x.length ≤ l.length
  | [], x, h => by simp [splitC] at h; subst h; simp
  | a :: r, x, h => by
    have ih := split_mem c r
    unfold splitC at h
    split at h
    · rcases List.mem_cons.1 h with rfl | h
      · simp
      · have := ih x h
        exact ⟨fun y hy => List.mem_cons_of_mem _ (this.1 y hy), by simp; omega⟩
    · split at h
      · simp only [List.mem_singleton] at h
        subst h
        exact ⟨fun y hy => by simp_all, by simp⟩
      · rename_i p q hs
        rcases List.mem_cons.1 h with rfl | h
        · have := ih p (by rw [hs]; simp)
          exact ⟨fun y hy => by
            rcases List.mem_cons.1 hy with rfl | hy
            · simp
            · exact List.mem_cons_of_mem _ (this.1 y hy), by simp; omega⟩
        · have := ih x (by rw [hs]; simp [h])
          exact ⟨fun y hy => List.mem_cons_of_mem _ (this.1 y hy), by simp; omega⟩
theorem split_len (c : Int) : ∀ l : L, (splitC c l).length ≤ l.length + 1
  | [] => by simp [splitC]
  | a :: r => by
    have ih := split_len c r
    unfold splitC
    split
    · simp; omega
    · split
      · simp
      · rename_i p q hs; rw [hs] at ih; simp at ih ⊢; omega
set_option maxHeartbeats 8000000 in
theorem framingOf_c {w : World} {mx : Int} (hM : w.cell? ⟨20, 0, none⟩ = some (.int .i64 mx)) {B : Option Addr} {c : Nat} {l : List Fld} (hR : Rd w B (fldC l)) (hb : BytesF l) (hln : l.length ≤ 100000000) :
    Calls Tryz.prog 102 #[.slice B l.length c] w fun e w' => e = .returned (.agg (frmA (frmS l))) ∧ Below w.heap.size w w' := by
  refine enter (args := [.slice B l.length c]) Tryz.func102 rfl Tryz.ntmps102 rfl ?_
  have H := Hp.nil w
  repeat' (with_reducible first | refine wp_seq ?_ | refine w_reg ?_)
  (with_reducible refine is_l ?_); refine h_alloc recs H rfl rfl (fun g2 w_ H => ?_)
  refine l_nil ?_
  repeat' (with_reducible first | refine p_tn ?_ | refine wp_seq ?_ | refine w_reg ?_)
  (with_reducible refine is_l ?_); refine h_alloc recs H rfl rfl (fun g3 w_ H => ?_)
  repeat' (first | (with_reducible first | refine p_tn ?_ | refine wp_seq ?_ | refine wp_block ?_ | refine w_reg ?_ | refine l_nil ?_) | ((with_reducible refine g_on ?_); (first | ((with_reducible refine g_mv ?_); refine l_p txs rfl rfl ?_) | ((with_reducible refine g_cl ?_); refine l_p txs rfl rfl ?_))))
  refine w_loop (σ := Nat × Frm) (S := fun s => [(2, .pointer (some ⟨g2, 0, none⟩)), (3, .pointer (some ⟨g3, 0, none⟩)), (10, .slice B l.length c), (11, .int .i64 (l.length : Int)), (12, .int .i64 (s.1 : Int))])
    (J := fun s w' => Hp w w' [(g3, 162, frmC s.2), (g2, 162, frmC frm0)] [] ∧ s.1 ≤ l.length ∧ Small s.2 s.1 ∧ frmS l = (l.drop s.1).foldl frmStep s.2) (μ := fun s => l.length - s.1) (0, frm0) ⟨rfl, rfl, rfl, rfl, rfl, trivial⟩
    ⟨H, by simp, by simp [Small, frm0], rfl⟩ ?_
  rintro ⟨i, m⟩ f w_ ⟨H, hi, hs, hD⟩
  simp only at H hi hs hD ⊢
  repeat' (with_reducible first | refine wp_seq ?_ | refine w_reg ?_)
  (with_reducible refine is_l ?_); refine l_t txs rfl rfl (fun hlt => ?_) (fun hge => ?_)
  · obtain ⟨x, hx⟩ : ∃ x, l[i]? = some x := ⟨_, List.getElem?_eq_getElem (by omega)⟩
    have hxm : x ∈ l := List.mem_of_getElem? hx
    obtain ⟨ad, rfl⟩ : ∃ ad, B = some ad := by
      cases B with
      | none =>
        have := congrArg List.length (hR.1 rfl)
        rw [fldC_len] at this
        simp only [List.length_nil] at this
        omega
      | some ad => exact ⟨ad, rfl⟩
    obtain ⟨at1, at2⟩ := fldC_at hx
    have hrng := fun w1 (K : Below w.heap.size w w1) => (hR.below K).part (i * 2) (vs := [Value.string (strOfNums x.1), .string (strOfNums x.2)]) (by
      intro j v hj
      match j, hj with
      | 0, hj => simp only [List.getElem?_cons_zero, Option.some.injEq] at hj; subst hj; exact at1
      | 1, hj => simp only [List.getElem?_cons_succ, List.getElem?_cons_zero, Option.some.injEq] at hj; subst hj; exact at2
      | j + 2, hj => simp at hj)
    have hdrop : l.drop i = x :: l.drop (i + 1) := by
      have hil : i < l.length := by omega
      rw [List.drop_eq_getElem_cons hil]
      congr 1
      rw [List.getElem?_eq_getElem hil] at hx
      exact Option.some.inj hx
    rw [hdrop, List.foldl_cons] at hD
    have hs1 := small_step hs x
    obtain ⟨q1, q2, q3, q4, q5, q6⟩ := hs
    obtain ⟨bx1, bx2, lx1, lx2⟩ := hb x hxm
    have zx1 := sizeS' bx1
    have zx2 := sizeS' bx2
    have zl1 := sizeS' (bytes_low bx1)
    have ll1 := low_len x.1
    have zl2 := sizeS' (bytes_low bx2)
    have ll2 := low_len x.2
    repeat' (first | (with_reducible first | refine p_tn ?_ | refine wp_seq ?_ | refine wp_block ?_ | refine w_reg ?_) | (with_reducible (refine is_if ?_; (refine w_ift rfl ?_))) | (with_reducible first | refine wp_skip ?_ | refine l_nil ?_) | ((with_reducible refine g_on ?_); ((with_reducible refine g_ia ?_); refine l_ia txs rfl rfl (by first | omega | assumption | decide) (by first | omega | assumption | decide) ?_)))
    rw [Int.toNat_natCast]
    (with_reducible refine is_l ?_); refine h_ldA recs (hrng _ H.B) rfl rfl rfl rfl ?_
    (with_reducible refine is_l ?_); refine h_alloc recs H rfl rfl (fun g5 w_ H => ?_)
    repeat' (first | (with_reducible first | refine p_tn ?_ | refine wp_seq ?_ | refine w_reg ?_ | refine l_nil ?_) | ((with_reducible refine g_on ?_); (first | ((with_reducible refine g_fa ?_); refine h_fa flds rfl rfl ?_) | ((with_reducible refine g_ld ?_); (refine h_ld txs H 0 rfl rfl rfl rfl ?_)) | ((with_reducible refine g_st ?_); (refine h_stR recs H 0 rfl rfl rfl rfl rfl rfl rfl rfl rfl (fun w_ H => ?_))))))
    have hlow := lower_c (strOfNums x.1) w_ (by omega)
    rw [blS bx1] at hlow
    (with_reducible refine is_l ?_); refine l_callv rfl rfl (by kernel_rfl) hlow (fun w_ K => ?_)
    have H := H.call K
    have hnm := blS (bytes_low bx1)
    repeat' (first | (with_reducible first | refine p_tn ?_ | refine wp_seq ?_ | refine wp_block ?_ | refine w_reg ?_ | refine l_nil ?_) | ((with_reducible refine g_on ?_); (first | ((with_reducible refine g_mv ?_); refine l_p txs rfl rfl ?_) | ((with_reducible refine g_as ?_); refine l_p txs rfl rfl ?_))))
    -- the end of a round
    have fin : ∀ (m' : Frm) (w2 : World) (f2 : Fr), m' = frmStep m x → Hp w w2 [(g5, 95, [.string (strOfNums x.1), .string (strOfNums x.2)]), (g3, 162, frmC m'), (g2, 162, frmC frm0)] [] → Hp w w2 [(g3, 162, frmC (frmStep m x)), (g2, 162, frmC frm0)] [] := by
      intro m' w2 f2 e h
      subst e
      exact h.pick [1, 2] [] (by decide) (by decide) rfl rfl
    (with_reducible refine is_l ?_); refine l_t txs rfl rfl (fun h1 => ?_) (fun h1 => ?_)
    · replace h1 : lowS x.1 = nHost := by rw [← hnm]; exact h1
      repeat' (first | (with_reducible first | refine p_tn ?_ | refine p_tx ?_ | refine p_bn ?_ | refine x_hit ?_ | refine x_miss rfl ?_ | refine wp_seq ?_ | refine w_reg ?_) | (with_reducible (refine is_if ?_; (refine w_ift rfl ?_))) | (with_reducible first | refine wp_exit ?_ | refine l_nil ?_) | ((with_reducible refine g_on ?_); (first | ((with_reducible refine g_mv ?_); refine l_p txs rfl rfl ?_) | ((with_reducible refine g_as ?_); refine l_p txs rfl rfl ?_) | ((with_reducible refine g_fa ?_); refine h_fa flds rfl rfl ?_) | ((with_reducible refine g_ld ?_); (first | (refine h_ld txs H 0 rfl rfl rfl rfl ?_) | (refine h_ld txs H 1 rfl rfl rfl rfl ?_))) | ((with_reducible refine g_st ?_); (refine h_st txs ones H 1 rfl rfl rfl rfl rfl rfl rfl rfl rfl (fun w_ H => ?_))) | ((with_reducible refine g_bi ?_); (refine l_a txs rfl rfl (by first | exact in_i64 (by omega) (by omega) | exact in_u8 (by omega) (by omega) | exact in_u64 (by omega) (by omega) | exact in_i32 (by omega) (by omega)) ?_)))))
      refine ⟨(i + 1, frmStep m x), _, rfl, ⟨rfl, rfl, rfl, rfl, rfl, trivial⟩, ⟨fin { m with hosts := m.hosts + 1, host := strOfNums x.2 } _ f (by unfold frmStep; rw [if_pos h1]) H, by show i + 1 ≤ _; omega, hs1, hD⟩, by show _ - (i + 1) < _ - i; omega⟩
    replace h1 : ¬ lowS x.1 = nHost := fun e => h1 (by rw [hnm]; exact e)
    repeat' (first | (with_reducible first | refine p_tn ?_ | refine wp_seq ?_ | refine w_reg ?_) | (with_reducible (refine is_if ?_; (refine w_iff rfl ?_))) | (with_reducible first | refine wp_skip ?_ | refine l_nil ?_) | ((with_reducible refine g_on ?_); ((with_reducible refine g_as ?_); refine l_p txs rfl rfl ?_)))
    (with_reducible refine is_l ?_); refine l_t txs rfl rfl (fun h2 => ?_) (fun h2 => ?_)
    · replace h2 : lowS x.1 = nConn := by rw [← hnm]; exact h2
      repeat' (first | (with_reducible first | refine p_tn ?_ | refine p_tx ?_ | refine x_hit ?_ | refine x_miss rfl ?_ | refine wp_seq ?_ | refine w_reg ?_) | (with_reducible (refine is_if ?_; (refine w_ift rfl ?_))) | (with_reducible first | refine wp_exit ?_ | refine l_nil ?_) | ((with_reducible refine g_on ?_); (first | ((with_reducible refine g_as ?_); refine l_p txs rfl rfl ?_) | ((with_reducible refine g_fa ?_); refine h_fa flds rfl rfl ?_) | ((with_reducible refine g_ld ?_); (refine h_ld txs H 0 rfl rfl rfl rfl ?_)))))
      have hsp := split_c (strOfNums x.2) 44 (by omega) w_ mx (H.old hM)
      rw [blS bx2] at hsp
      simp only [show ((44 : UInt8).toNat : Int) = 44 from rfl] at hsp
      obtain ⟨ps, hps⟩ : ∃ p, p = splitC 44 x.2 := ⟨_, rfl⟩
      have hpm : ∀ y ∈ ps, Bytes y ∧ y.length ≤ 100000000 := fun y hy => by
        rw [hps] at hy
        have := split_mem 44 x.2 y hy
        exact ⟨fun z hz => bx2 z (this.1 z hz), by omega⟩
      have hpl := split_len 44 x.2
      rw [← hps] at hsp hpl
      have hwv : wordsV x.2 = ps.map fun z => lowS (trimS z) := by rw [hps]; rfl
      (with_reducible refine is_l ?_); refine l_call rfl rfl (by kernel_rfl) hsp (fun e w_ hR => ?_)
      obtain ⟨gs, rfl, K⟩ := hR
      refine ⟨_, rfl, ?_⟩
      have H := (H.join K).pick [0, 1, 2, 3] [] (by decide) (by decide) rfl rfl
      repeat' (first | (with_reducible first | refine p_tn ?_ | refine wp_block ?_ | refine l_nil ?_) | ((with_reducible refine g_on ?_); (first | ((with_reducible refine g_mv ?_); refine l_p txs rfl rfl ?_) | ((with_reducible refine g_cl ?_); refine l_p txs rfl rfl ?_))))
      refine w_loop (σ := Nat × Bool × Bool) (S := fun s => [(2, .pointer (some ⟨g2, 0, none⟩)), (3, .pointer (some ⟨g3, 0, none⟩)), (5, .pointer (some ⟨g5, 0, none⟩)), (6, .string (strOfNums (lowS x.1))), (10, .slice (some ad) l.length c), (11, .int .i64 (l.length : Int)), (12, .int .i64 (i : Int)), (37, .slice (some ⟨gs, 0, none⟩) ps.length ps.length), (38, .int .i64 (ps.length : Int)), (39, .int .i64 (s.1 : Int))])
        (J := fun s w' => Hp w w' [(gs, 9, strC ps), (g5, 95, [.string (strOfNums x.1), .string (strOfNums x.2)]), (g3, 162, frmC { m with closes := s.2.1, keeps := s.2.2 }), (g2, 162, frmC frm0)] [] ∧ s.1 ≤ ps.length ∧ (m.closes || (wordsV x.2).contains wClose) = (s.2.1 || ((wordsV x.2).drop s.1).contains wClose) ∧ (m.keeps || (wordsV x.2).contains wKeep) = (s.2.2 || ((wordsV x.2).drop s.1).contains wKeep)) (μ := fun s => ps.length - s.1) (0, m.closes, m.keeps) ⟨rfl, rfl, rfl, rfl, rfl, rfl, rfl, rfl, rfl, rfl, trivial⟩
        ⟨H, by simp, rfl, rfl⟩ ?_
      rintro ⟨j, cc, kk⟩ f w_ ⟨H, hj, k1, k2⟩
      simp only at H hj k1 k2 ⊢
      repeat' (with_reducible first | refine wp_seq ?_ | refine w_reg ?_)
      (with_reducible refine is_l ?_); refine l_t txs rfl rfl (fun hlt2 => ?_) (fun hge2 => ?_)
      · obtain ⟨y, hy⟩ : ∃ y, ps[j]? = some y := ⟨_, List.getElem?_eq_getElem (by omega)⟩
        obtain ⟨byy, ly⟩ := hpm y (List.mem_of_getElem? hy)
        have zy := sizeS' byy
        have zt := sizeS' (bytes_trim byy)
        have lt2 := trim_len y
        have hw2 := blS (bytes_low (bytes_trim byy))
        have hdr : (wordsV x.2).drop j = lowS (trimS y) :: (wordsV x.2).drop (j + 1) := by
          have hjl : j < ps.length := by omega
          rw [hwv, ← List.map_drop, List.drop_eq_getElem_cons hjl, List.map_cons, List.map_drop]
          congr 1
          rw [List.getElem?_eq_getElem hjl] at hy
          rw [Option.some.inj hy]
        rw [hdr, List.contains_cons] at k1 k2
        have hcell := (H.cellRd 0 rfl).2 _ rfl _ _ (strC_at hy)
        repeat' (first | (with_reducible first | refine p_tn ?_ | refine wp_seq ?_ | refine wp_block ?_ | refine w_reg ?_) | (with_reducible (refine is_if ?_; (refine w_ift rfl ?_))) | (with_reducible first | refine wp_skip ?_ | refine l_nil ?_) | ((with_reducible refine g_on ?_); ((with_reducible refine g_ia ?_); refine l_ia txs rfl rfl (by first | omega | assumption | decide) (by first | omega | assumption | decide) ?_)))
        rw [Int.toNat_natCast]
        (with_reducible refine is_l ?_); refine l_ld txs rfl rfl hcell ?_
        repeat' (first | (with_reducible first | refine p_tn ?_ | refine wp_seq ?_ | refine w_reg ?_ | refine l_nil ?_) | ((with_reducible refine g_on ?_); (first | ((with_reducible refine g_mv ?_); refine l_p txs rfl rfl ?_) | ((with_reducible refine g_as ?_); refine l_p txs rfl rfl ?_))))
        have htr := trim_c (strOfNums y) w_ (by omega)
        rw [blS byy] at htr
        (with_reducible refine is_l ?_); refine l_callv rfl rfl (by kernel_rfl) htr (fun w_ K => ?_)
        have H := H.call K
        have hlw := lower_c (strOfNums (trimS y)) w_ (by omega)
        rw [blS (bytes_trim byy)] at hlw
        (with_reducible refine is_l ?_); refine l_callv rfl rfl (by kernel_rfl) hlw (fun w_ K => ?_)
        have H := H.call K
        repeat' (first | (with_reducible first | refine p_tn ?_ | refine wp_seq ?_ | refine w_reg ?_ | refine l_nil ?_) | ((with_reducible refine g_on ?_); (first | ((with_reducible refine g_mv ?_); refine l_p txs rfl rfl ?_) | ((with_reducible refine g_as ?_); refine l_p txs rfl rfl ?_) | ((with_reducible refine g_fa ?_); refine h_fa flds rfl rfl ?_) | ((with_reducible refine g_ld ?_); (refine h_ld txs H 2 rfl rfl rfl rfl ?_)))))
        cases cc
        · repeat' ((with_reducible refine g_if ?_); ((with_reducible refine g_mv ?_); refine l_p txs rfl rfl ?_))
          (with_reducible refine is_l ?_); refine l_t txs rfl rfl (fun h4 => ?_) (fun h4 => ?_)
          · replace h4 : lowS (trimS y) = wClose := by rw [← hw2]; exact h4
            repeat' (first | (with_reducible first | refine p_tn ?_ | refine w_reg ?_ | refine l_nil ?_) | ((with_reducible refine g_on ?_); (first | ((with_reducible refine g_mv ?_); refine l_p txs rfl rfl ?_) | ((with_reducible refine g_pk ?_); refine l_p txs rfl rfl ?_) | ((with_reducible refine g_fa ?_); refine h_fa flds rfl rfl ?_) | ((with_reducible refine g_ld ?_); (refine h_ld txs H 2 rfl rfl rfl rfl ?_)) | ((with_reducible refine g_st ?_); (refine h_st txs ones H 2 rfl rfl rfl rfl rfl rfl rfl rfl rfl (fun w_ H => ?_))))))
            cases kk
            · repeat' ((with_reducible refine g_if ?_); ((with_reducible refine g_mv ?_); refine l_p txs rfl rfl ?_))
              (with_reducible refine is_l ?_); refine l_t txs rfl rfl (fun h5 => ?_) (fun h5 => ?_)
              · replace h5 : lowS (trimS y) = wKeep := by rw [← hw2]; exact h5
                repeat' (first | (with_reducible first | refine p_tn ?_ | refine p_bn ?_ | refine w_reg ?_ | refine l_nil ?_) | ((with_reducible refine g_on ?_); (first | ((with_reducible refine g_mv ?_); refine l_p txs rfl rfl ?_) | ((with_reducible refine g_pk ?_); refine l_p txs rfl rfl ?_) | ((with_reducible refine g_fa ?_); refine h_fa flds rfl rfl ?_) | ((with_reducible refine g_st ?_); (refine h_st txs ones H 2 rfl rfl rfl rfl rfl rfl rfl rfl rfl (fun w_ H => ?_))) | ((with_reducible refine g_bi ?_); (refine l_a txs rfl rfl (by first | exact in_i64 (by omega) (by omega) | exact in_u8 (by omega) (by omega) | exact in_u64 (by omega) (by omega) | exact in_i32 (by omega) (by omega)) ?_)))))
                refine ⟨(j + 1, true, true), _, rfl, ⟨rfl, rfl, rfl, rfl, rfl, rfl, rfl, rfl, rfl, rfl, trivial⟩, ⟨H, by show j + 1 ≤ _; omega, ?_, ?_⟩, by show _ - (j + 1) < _ - j; omega⟩
                · rw [k1]; first | (simp only [Bool.true_or]; done) | (rw [h4]; simp; done) | (rw [show (wClose == lowS (trimS y)) = false from beq_false_of_ne h4']; rfl)
                · rw [k2]; first | (simp only [Bool.true_or]; done) | (rw [h5]; simp; done) | (rw [show (wKeep == lowS (trimS y)) = false from beq_false_of_ne h5']; rfl)
              · replace h5 : ¬ lowS (trimS y) = wKeep := fun e => h5 (by rw [hw2]; exact e)
                have h5' : ¬ wKeep = lowS (trimS y) := fun e => h5 e.symm
                repeat' (first | (with_reducible first | refine p_tn ?_ | refine p_bn ?_ | refine w_reg ?_ | refine l_nil ?_) | ((with_reducible refine g_on ?_); (first | ((with_reducible refine g_mv ?_); refine l_p txs rfl rfl ?_) | ((with_reducible refine g_pk ?_); refine l_p txs rfl rfl ?_) | ((with_reducible refine g_fa ?_); refine h_fa flds rfl rfl ?_) | ((with_reducible refine g_st ?_); (refine h_st txs ones H 2 rfl rfl rfl rfl rfl rfl rfl rfl rfl (fun w_ H => ?_))) | ((with_reducible refine g_bi ?_); (refine l_a txs rfl rfl (by first | exact in_i64 (by omega) (by omega) | exact in_u8 (by omega) (by omega) | exact in_u64 (by omega) (by omega) | exact in_i32 (by omega) (by omega)) ?_)))))
                refine ⟨(j + 1, true, false), _, rfl, ⟨rfl, rfl, rfl, rfl, rfl, rfl, rfl, rfl, rfl, rfl, trivial⟩, ⟨H, by show j + 1 ≤ _; omega, ?_, ?_⟩, by show _ - (j + 1) < _ - j; omega⟩
                · rw [k1]; first | (simp only [Bool.true_or]; done) | (rw [h4]; simp; done) | (rw [show (wClose == lowS (trimS y)) = false from beq_false_of_ne h4']; rfl)
                · rw [k2]; first | (simp only [Bool.true_or]; done) | (rw [h5]; simp; done) | (rw [show (wKeep == lowS (trimS y)) = false from beq_false_of_ne h5']; rfl)
            · repeat' (first | (with_reducible first | refine p_tn ?_ | refine p_bn ?_ | refine w_reg ?_ | refine l_nil ?_) | ((with_reducible refine g_on ?_); (first | ((with_reducible refine g_mv ?_); refine l_p txs rfl rfl ?_) | ((with_reducible refine g_pk ?_); refine l_p txs rfl rfl ?_) | ((with_reducible refine g_fa ?_); refine h_fa flds rfl rfl ?_) | ((with_reducible refine g_st ?_); (refine h_st txs ones H 2 rfl rfl rfl rfl rfl rfl rfl rfl rfl (fun w_ H => ?_))) | ((with_reducible refine g_bi ?_); (refine l_a txs rfl rfl (by first | exact in_i64 (by omega) (by omega) | exact in_u8 (by omega) (by omega) | exact in_u64 (by omega) (by omega) | exact in_i32 (by omega) (by omega)) ?_)))) | ((with_reducible refine g_if ?_); (refine l_off rfl ?_)))
              refine ⟨(j + 1, true, true), _, rfl, ⟨rfl, rfl, rfl, rfl, rfl, rfl, rfl, rfl, rfl, rfl, trivial⟩, ⟨H, by show j + 1 ≤ _; omega, ?_, ?_⟩, by show _ - (j + 1) < _ - j; omega⟩
              · rw [k1]; first | (simp only [Bool.true_or]; done) | (rw [h4]; simp; done) | (rw [show (wClose == lowS (trimS y)) = false from beq_false_of_ne h4']; rfl)
              · rw [k2]; first | (simp only [Bool.true_or]; done) | (rw [h5]; simp; done) | (rw [show (wKeep == lowS (trimS y)) = false from beq_false_of_ne h5']; rfl)
          · replace h4 : ¬ lowS (trimS y) = wClose := fun e => h4 (by rw [hw2]; exact e)
            have h4' : ¬ wClose = lowS (trimS y) := fun e => h4 e.symm
            repeat' (first | (with_reducible first | refine p_tn ?_ | refine w_reg ?_ | refine l_nil ?_) | ((with_reducible refine g_on ?_); (first | ((with_reducible refine g_mv ?_); refine l_p txs rfl rfl ?_) | ((with_reducible refine g_pk ?_); refine l_p txs rfl rfl ?_) | ((with_reducible refine g_fa ?_); refine h_fa flds rfl rfl ?_) | ((with_reducible refine g_ld ?_); (refine h_ld txs H 2 rfl rfl rfl rfl ?_)) | ((with_reducible refine g_st ?_); (refine h_st txs ones H 2 rfl rfl rfl rfl rfl rfl rfl rfl rfl (fun w_ H => ?_))))))
            cases kk
            · repeat' ((with_reducible refine g_if ?_); ((with_reducible refine g_mv ?_); refine l_p txs rfl rfl ?_))
              (with_reducible refine is_l ?_); refine l_t txs rfl rfl (fun h5 => ?_) (fun h5 => ?_)
              · replace h5 : lowS (trimS y) = wKeep := by rw [← hw2]; exact h5
                repeat' (first | (with_reducible first | refine p_tn ?_ | refine p_bn ?_ | refine w_reg ?_ | refine l_nil ?_) | ((with_reducible refine g_on ?_); (first | ((with_reducible refine g_mv ?_); refine l_p txs rfl rfl ?_) | ((with_reducible refine g_pk ?_); refine l_p txs rfl rfl ?_) | ((with_reducible refine g_fa ?_); refine h_fa flds rfl rfl ?_) | ((with_reducible refine g_st ?_); (refine h_st txs ones H 2 rfl rfl rfl rfl rfl rfl rfl rfl rfl (fun w_ H => ?_))) | ((with_reducible refine g_bi ?_); (refine l_a txs rfl rfl (by first | exact in_i64 (by omega) (by omega) | exact in_u8 (by omega) (by omega) | exact in_u64 (by omega) (by omega) | exact in_i32 (by omega) (by omega)) ?_)))))
                refine ⟨(j + 1, false, true), _, rfl, ⟨rfl, rfl, rfl, rfl, rfl, rfl, rfl, rfl, rfl, rfl, trivial⟩, ⟨H, by show j + 1 ≤ _; omega, ?_, ?_⟩, by show _ - (j + 1) < _ - j; omega⟩
                · rw [k1]; first | (simp only [Bool.true_or]; done) | (rw [h4]; simp; done) | (rw [show (wClose == lowS (trimS y)) = false from beq_false_of_ne h4']; rfl)
                · rw [k2]; first | (simp only [Bool.true_or]; done) | (rw [h5]; simp; done) | (rw [show (wKeep == lowS (trimS y)) = false from beq_false_of_ne h5']; rfl)
              · replace h5 : ¬ lowS (trimS y) = wKeep := fun e => h5 (by rw [hw2]; exact e)
                have h5' : ¬ wKeep = lowS (trimS y) := fun e => h5 e.symm
                repeat' (first | (with_reducible first | refine p_tn ?_ | refine p_bn ?_ | refine w_reg ?_ | refine l_nil ?_) | ((with_reducible refine g_on ?_); (first | ((with_reducible refine g_mv ?_); refine l_p txs rfl rfl ?_) | ((with_reducible refine g_pk ?_); refine l_p txs rfl rfl ?_) | ((with_reducible refine g_fa ?_); refine h_fa flds rfl rfl ?_) | ((with_reducible refine g_st ?_); (refine h_st txs ones H 2 rfl rfl rfl rfl rfl rfl rfl rfl rfl (fun w_ H => ?_))) | ((with_reducible refine g_bi ?_); (refine l_a txs rfl rfl (by first | exact in_i64 (by omega) (by omega) | exact in_u8 (by omega) (by omega) | exact in_u64 (by omega) (by omega) | exact in_i32 (by omega) (by omega)) ?_)))))
                refine ⟨(j + 1, false, false), _, rfl, ⟨rfl, rfl, rfl, rfl, rfl, rfl, rfl, rfl, rfl, rfl, trivial⟩, ⟨H, by show j + 1 ≤ _; omega, ?_, ?_⟩, by show _ - (j + 1) < _ - j; omega⟩
                · rw [k1]; first | (simp only [Bool.true_or]; done) | (rw [h4]; simp; done) | (rw [show (wClose == lowS (trimS y)) = false from beq_false_of_ne h4']; rfl)
                · rw [k2]; first | (simp only [Bool.true_or]; done) | (rw [h5]; simp; done) | (rw [show (wKeep == lowS (trimS y)) = false from beq_false_of_ne h5']; rfl)
            · repeat' (first | (with_reducible first | refine p_tn ?_ | refine p_bn ?_ | refine w_reg ?_ | refine l_nil ?_) | ((with_reducible refine g_on ?_); (first | ((with_reducible refine g_mv ?_); refine l_p txs rfl rfl ?_) | ((with_reducible refine g_pk ?_); refine l_p txs rfl rfl ?_) | ((with_reducible refine g_fa ?_); refine h_fa flds rfl rfl ?_) | ((with_reducible refine g_st ?_); (refine h_st txs ones H 2 rfl rfl rfl rfl rfl rfl rfl rfl rfl (fun w_ H => ?_))) | ((with_reducible refine g_bi ?_); (refine l_a txs rfl rfl (by first | exact in_i64 (by omega) (by omega) | exact in_u8 (by omega) (by omega) | exact in_u64 (by omega) (by omega) | exact in_i32 (by omega) (by omega)) ?_)))) | ((with_reducible refine g_if ?_); (refine l_off rfl ?_)))
              refine ⟨(j + 1, false, true), _, rfl, ⟨rfl, rfl, rfl, rfl, rfl, rfl, rfl, rfl, rfl, rfl, trivial⟩, ⟨H, by show j + 1 ≤ _; omega, ?_, ?_⟩, by show _ - (j + 1) < _ - j; omega⟩
              · rw [k1]; first | (simp only [Bool.true_or]; done) | (rw [h4]; simp; done) | (rw [show (wClose == lowS (trimS y)) = false from beq_false_of_ne h4']; rfl)
              · rw [k2]; first | (simp only [Bool.true_or]; done) | (rw [h5]; simp; done) | (rw [show (wKeep == lowS (trimS y)) = false from beq_false_of_ne h5']; rfl)
        · repeat' (first | (with_reducible first | refine p_tn ?_ | refine w_reg ?_ | refine l_nil ?_) | ((with_reducible refine g_on ?_); (first | ((with_reducible refine g_mv ?_); refine l_p txs rfl rfl ?_) | ((with_reducible refine g_pk ?_); refine l_p txs rfl rfl ?_) | ((with_reducible refine g_fa ?_); refine h_fa flds rfl rfl ?_) | ((with_reducible refine g_ld ?_); (refine h_ld txs H 2 rfl rfl rfl rfl ?_)) | ((with_reducible refine g_st ?_); (refine h_st txs ones H 2 rfl rfl rfl rfl rfl rfl rfl rfl rfl (fun w_ H => ?_))))) | ((with_reducible refine g_if ?_); (refine l_off rfl ?_)))
          cases kk
          · repeat' ((with_reducible refine g_if ?_); ((with_reducible refine g_mv ?_); refine l_p txs rfl rfl ?_))
            (with_reducible refine is_l ?_); refine l_t txs rfl rfl (fun h5 => ?_) (fun h5 => ?_)
            · replace h5 : lowS (trimS y) = wKeep := by rw [← hw2]; exact h5
              repeat' (first | (with_reducible first | refine p_tn ?_ | refine p_bn ?_ | refine w_reg ?_ | refine l_nil ?_) | ((with_reducible refine g_on ?_); (first | ((with_reducible refine g_mv ?_); refine l_p txs rfl rfl ?_) | ((with_reducible refine g_pk ?_); refine l_p txs rfl rfl ?_) | ((with_reducible refine g_fa ?_); refine h_fa flds rfl rfl ?_) | ((with_reducible refine g_st ?_); (refine h_st txs ones H 2 rfl rfl rfl rfl rfl rfl rfl rfl rfl (fun w_ H => ?_))) | ((with_reducible refine g_bi ?_); (refine l_a txs rfl rfl (by first | exact in_i64 (by omega) (by omega) | exact in_u8 (by omega) (by omega) | exact in_u64 (by omega) (by omega) | exact in_i32 (by omega) (by omega)) ?_)))))
              refine ⟨(j + 1, true, true), _, rfl, ⟨rfl, rfl, rfl, rfl, rfl, rfl, rfl, rfl, rfl, rfl, trivial⟩, ⟨H, by show j + 1 ≤ _; omega, ?_, ?_⟩, by show _ - (j + 1) < _ - j; omega⟩
              · rw [k1]; first | (simp only [Bool.true_or]; done) | (rw [h4]; simp; done) | (rw [show (wClose == lowS (trimS y)) = false from beq_false_of_ne h4']; rfl)
              · rw [k2]; first | (simp only [Bool.true_or]; done) | (rw [h5]; simp; done) | (rw [show (wKeep == lowS (trimS y)) = false from beq_false_of_ne h5']; rfl)
            · replace h5 : ¬ lowS (trimS y) = wKeep := fun e => h5 (by rw [hw2]; exact e)
              have h5' : ¬ wKeep = lowS (trimS y) := fun e => h5 e.symm
              repeat' (first | (with_reducible first | refine p_tn ?_ | refine p_bn ?_ | refine w_reg ?_ | refine l_nil ?_) | ((with_reducible refine g_on ?_); (first | ((with_reducible refine g_mv ?_); refine l_p txs rfl rfl ?_) | ((with_reducible refine g_pk ?_); refine l_p txs rfl rfl ?_) | ((with_reducible refine g_fa ?_); refine h_fa flds rfl rfl ?_) | ((with_reducible refine g_st ?_); (refine h_st txs ones H 2 rfl rfl rfl rfl rfl rfl rfl rfl rfl (fun w_ H => ?_))) | ((with_reducible refine g_bi ?_); (refine l_a txs rfl rfl (by first | exact in_i64 (by omega) (by omega) | exact in_u8 (by omega) (by omega) | exact in_u64 (by omega) (by omega) | exact in_i32 (by omega) (by omega)) ?_)))))
              refine ⟨(j + 1, true, false), _, rfl, ⟨rfl, rfl, rfl, rfl, rfl, rfl, rfl, rfl, rfl, rfl, trivial⟩, ⟨H, by show j + 1 ≤ _; omega, ?_, ?_⟩, by show _ - (j + 1) < _ - j; omega⟩
              · rw [k1]; first | (simp only [Bool.true_or]; done) | (rw [h4]; simp; done) | (rw [show (wClose == lowS (trimS y)) = false from beq_false_of_ne h4']; rfl)
              · rw [k2]; first | (simp only [Bool.true_or]; done) | (rw [h5]; simp; done) | (rw [show (wKeep == lowS (trimS y)) = false from beq_false_of_ne h5']; rfl)
          · repeat' (first | (with_reducible first | refine p_tn ?_ | refine p_bn ?_ | refine w_reg ?_ | refine l_nil ?_) | ((with_reducible refine g_on ?_); (first | ((with_reducible refine g_mv ?_); refine l_p txs rfl rfl ?_) | ((with_reducible refine g_pk ?_); refine l_p txs rfl rfl ?_) | ((with_reducible refine g_fa ?_); refine h_fa flds rfl rfl ?_) | ((with_reducible refine g_st ?_); (refine h_st txs ones H 2 rfl rfl rfl rfl rfl rfl rfl rfl rfl (fun w_ H => ?_))) | ((with_reducible refine g_bi ?_); (refine l_a txs rfl rfl (by first | exact in_i64 (by omega) (by omega) | exact in_u8 (by omega) (by omega) | exact in_u64 (by omega) (by omega) | exact in_i32 (by omega) (by omega)) ?_)))) | ((with_reducible refine g_if ?_); (refine l_off rfl ?_)))
            refine ⟨(j + 1, true, true), _, rfl, ⟨rfl, rfl, rfl, rfl, rfl, rfl, rfl, rfl, rfl, rfl, trivial⟩, ⟨H, by show j + 1 ≤ _; omega, ?_, ?_⟩, by show _ - (j + 1) < _ - j; omega⟩
            · rw [k1]; first | (simp only [Bool.true_or]; done) | (rw [h4]; simp; done) | (rw [show (wClose == lowS (trimS y)) = false from beq_false_of_ne h4']; rfl)
            · rw [k2]; first | (simp only [Bool.true_or]; done) | (rw [h5]; simp; done) | (rw [show (wKeep == lowS (trimS y)) = false from beq_false_of_ne h5']; rfl)
      · have hnil2 : (wordsV x.2).drop j = [] := List.drop_eq_nil_of_le (by rw [hwv, List.length_map]; omega)
        rw [hnil2] at k1 k2
        repeat' (first | (with_reducible first | refine p_tn ?_ | refine p_tx ?_ | refine p_bn ?_ | refine x_hit ?_ | refine x_miss rfl ?_ | refine wp_seq ?_ | refine w_reg ?_) | (with_reducible (refine is_if ?_; (refine w_iff rfl ?_))) | (with_reducible first | refine wp_exit ?_ | refine l_nil ?_) | ((with_reducible refine g_on ?_); (first | ((with_reducible refine g_mv ?_); refine l_p txs rfl rfl ?_) | ((with_reducible refine g_bi ?_); (refine l_a txs rfl rfl (by first | exact in_i64 (by omega) (by omega) | exact in_u8 (by omega) (by omega) | exact in_u64 (by omega) (by omega) | exact in_i32 (by omega) (by omega)) ?_)))))
        have e1 : frmStep m x = { m with closes := cc, keeps := kk } := by
          unfold frmStep
          rw [if_neg h1, if_pos h2, k1, k2]
          simp
        rw [← e1] at H
        refine ⟨(i + 1, frmStep m x), _, rfl, ⟨rfl, rfl, rfl, rfl, rfl, trivial⟩, ⟨H.pick [2, 3] [] (by decide) (by decide) rfl rfl, by show i + 1 ≤ _; omega, hs1, hD⟩, by show _ - (i + 1) < _ - i; omega⟩
    replace h2 : ¬ lowS x.1 = nConn := fun e => h2 (by rw [hnm]; exact e)
    repeat' (first | (with_reducible first | refine p_tn ?_ | refine wp_seq ?_ | refine w_reg ?_) | (with_reducible (refine is_if ?_; (refine w_iff rfl ?_))) | (with_reducible first | refine wp_skip ?_ | refine l_nil ?_) | ((with_reducible refine g_on ?_); ((with_reducible refine g_as ?_); refine l_p txs rfl rfl ?_)))
    (with_reducible refine is_l ?_); refine l_t txs rfl rfl (fun h3 => ?_) (fun h3 => ?_)
    · replace h3 : lowS x.1 = nCode := by rw [← hnm]; exact h3
      repeat' (first | (with_reducible first | refine p_tn ?_ | refine p_tx ?_ | refine x_hit ?_ | refine x_miss rfl ?_ | refine wp_seq ?_ | refine w_reg ?_) | (with_reducible (refine is_if ?_; (refine w_ift rfl ?_))) | (with_reducible first | refine wp_exit ?_ | refine l_nil ?_) | ((with_reducible refine g_on ?_); (first | ((with_reducible refine g_as ?_); refine l_p txs rfl rfl ?_) | ((with_reducible refine g_fa ?_); refine h_fa flds rfl rfl ?_) | ((with_reducible refine g_ld ?_); (first | (refine h_ld txs H 0 rfl rfl rfl rfl ?_) | (refine h_ld txs H 1 rfl rfl rfl rfl ?_))) | ((with_reducible refine g_st ?_); (refine h_st txs ones H 1 rfl rfl rfl rfl rfl rfl rfl rfl rfl (fun w_ H => ?_))) | ((with_reducible refine g_bi ?_); (refine l_a txs rfl rfl (by first | exact in_i64 (by omega) (by omega) | exact in_u8 (by omega) (by omega) | exact in_u64 (by omega) (by omega) | exact in_i32 (by omega) (by omega)) ?_)))))
      have hlow2 := lower_c (strOfNums x.2) w_ (by omega)
      rw [blS bx2] at hlow2
      (with_reducible refine is_l ?_); refine l_callv rfl rfl (by kernel_rfl) hlow2 (fun w_ K => ?_)
      have H := H.call K
      repeat' (first | (with_reducible first | refine p_tn ?_ | refine p_bn ?_ | refine wp_seq ?_ | refine w_reg ?_ | refine l_nil ?_) | ((with_reducible refine g_on ?_); (first | ((with_reducible refine g_mv ?_); refine l_p txs rfl rfl ?_) | ((with_reducible refine g_fa ?_); refine h_fa flds rfl rfl ?_) | ((with_reducible refine g_st ?_); (refine h_st txs ones H 1 rfl rfl rfl rfl rfl rfl rfl rfl rfl (fun w_ H => ?_))))))
      (with_reducible refine is_l ?_); refine l_t txs rfl rfl (fun h4 => ?_) (fun h4 => ?_)
      · exfalso
        have : lowS x.1 = nLen := by rw [← hnm]; exact h4
        rw [this] at h3
        exact absurd h3 (by decide)
      repeat' (first | (with_reducible first | refine p_tn ?_ | refine p_bn ?_ | refine x_hit ?_ | refine w_reg ?_) | (with_reducible (refine is_if ?_; (refine w_iff rfl ?_))) | (with_reducible first | refine wp_skip ?_ | refine wp_exit ?_ | refine l_nil ?_) | ((with_reducible refine g_on ?_); (first | ((with_reducible refine g_mv ?_); refine l_p txs rfl rfl ?_) | ((with_reducible refine g_bi ?_); (refine l_a txs rfl rfl (by first | exact in_i64 (by omega) (by omega) | exact in_u8 (by omega) (by omega) | exact in_u64 (by omega) (by omega) | exact in_i32 (by omega) (by omega)) ?_)))))
      refine ⟨(i + 1, frmStep m x), _, rfl, ⟨rfl, rfl, rfl, rfl, rfl, trivial⟩, ⟨fin { m with codings := m.codings + 1, coding := strOfNums (lowS x.2), framed := true } _ f (by unfold frmStep; rw [if_neg h1, if_neg h2, if_pos h3]) H, by show i + 1 ≤ _; omega, hs1, hD⟩, by show _ - (i + 1) < _ - i; omega⟩
    replace h3 : ¬ lowS x.1 = nCode := fun e => h3 (by rw [hnm]; exact e)
    repeat' (first | (with_reducible first | refine p_tn ?_ | refine wp_seq ?_ | refine w_reg ?_) | (with_reducible (refine is_if ?_; (refine w_iff rfl ?_))) | (with_reducible first | refine wp_skip ?_ | refine l_nil ?_) | ((with_reducible refine g_on ?_); ((with_reducible refine g_as ?_); refine l_p txs rfl rfl ?_)))
    (with_reducible refine is_l ?_); refine l_t txs rfl rfl (fun h4 => ?_) (fun h4 => ?_)
    · replace h4 : lowS x.1 = nLen := by rw [← hnm]; exact h4
      repeat' (first | (with_reducible first | refine p_tn ?_ | refine p_tx ?_ | refine x_hit ?_ | refine x_miss rfl ?_ | refine wp_seq ?_ | refine w_reg ?_) | (with_reducible (refine is_if ?_; (refine w_ift rfl ?_))) | (with_reducible first | refine wp_exit ?_ | refine l_nil ?_) | ((with_reducible refine g_on ?_); (first | ((with_reducible refine g_mv ?_); refine l_p txs rfl rfl ?_) | ((with_reducible refine g_as ?_); refine l_p txs rfl rfl ?_) | ((with_reducible refine g_fa ?_); refine h_fa flds rfl rfl ?_) | ((with_reducible refine g_st ?_); (refine h_st txs ones H 1 rfl rfl rfl rfl rfl rfl rfl rfl rfl (fun w_ H => ?_))))))
      (with_reducible refine is_l ?_); refine l_t txs rfl rfl (fun h5 => ?_) (fun h5 => ?_)
      · repeat' (first | (with_reducible first | refine p_tn ?_ | refine p_bn ?_ | refine x_hit ?_ | refine wp_seq ?_ | refine w_reg ?_) | (with_reducible (refine is_if ?_; (refine w_ift rfl ?_))) | (with_reducible first | refine wp_exit ?_ | refine l_nil ?_) | ((with_reducible refine g_on ?_); (first | ((with_reducible refine g_mv ?_); refine l_p txs rfl rfl ?_) | ((with_reducible refine g_fa ?_); refine h_fa flds rfl rfl ?_) | ((with_reducible refine g_ld ?_); (first | (refine h_ld txs H 0 rfl rfl rfl rfl ?_) | (refine h_ld txs H 1 rfl rfl rfl rfl ?_))) | ((with_reducible refine g_st ?_); (refine h_st txs ones H 1 rfl rfl rfl rfl rfl rfl rfl rfl rfl (fun w_ H => ?_))) | ((with_reducible refine g_bi ?_); (refine l_a txs rfl rfl (by first | exact in_i64 (by omega) (by omega) | exact in_u8 (by omega) (by omega) | exact in_u64 (by omega) (by omega) | exact in_i32 (by omega) (by omega)) ?_)))))
        refine ⟨(i + 1, frmStep m x), _, rfl, ⟨rfl, rfl, rfl, rfl, rfl, trivial⟩, ⟨fin { m with lengths := m.lengths + 1, length := strOfNums x.2, framed := true } _ f (by unfold frmStep; rw [if_neg h1, if_neg h2, if_neg h3, if_pos h4]) H, by show i + 1 ≤ _; omega, hs1, hD⟩, by show _ - (i + 1) < _ - i; omega⟩
      · exact absurd (by rw [hnm]; exact h4) h5
    replace h4 : ¬ lowS x.1 = nLen := fun e => h4 (by rw [hnm]; exact e)
    repeat' (first | (with_reducible first | refine p_tn ?_ | refine p_tx ?_ | refine p_bn ?_ | refine x_hit ?_ | refine x_miss rfl ?_ | refine w_reg ?_) | (with_reducible (refine is_if ?_; (refine w_iff rfl ?_))) | (with_reducible first | refine wp_skip ?_ | refine wp_exit ?_ | refine l_nil ?_) | ((with_reducible refine g_on ?_); (first | ((with_reducible refine g_mv ?_); refine l_p txs rfl rfl ?_) | ((with_reducible refine g_as ?_); refine l_p txs rfl rfl ?_) | ((with_reducible refine g_bi ?_); (refine l_a txs rfl rfl (by first | exact in_i64 (by omega) (by omega) | exact in_u8 (by omega) (by omega) | exact in_u64 (by omega) (by omega) | exact in_i32 (by omega) (by omega)) ?_)))))
    refine ⟨(i + 1, frmStep m x), _, rfl, ⟨rfl, rfl, rfl, rfl, rfl, trivial⟩, ⟨fin m _ f (by unfold frmStep; rw [if_neg h1, if_neg h2, if_neg h3, if_neg h4]) H, by show i + 1 ≤ _; omega, hs1, hD⟩, by show _ - (i + 1) < _ - i; omega⟩
  · have hnil : l.drop i = [] := List.drop_eq_nil_of_le (by omega)
    rw [hnil] at hD
    repeat' (first | (with_reducible first | refine p_tn ?_ | refine p_tx ?_ | refine x_hit ?_ | refine wp_seq ?_ | refine w_reg ?_) | (with_reducible (refine is_if ?_; (refine w_iff rfl ?_))) | (with_reducible first | refine wp_exit ?_ | refine wp_ret ?_ | refine l_nil ?_) | ((with_reducible refine g_on ?_); (first | ((with_reducible refine g_ld ?_); (refine h_ldR recs H 0 rfl rfl rfl rfl rfl ?_)) | ((with_reducible refine g_st ?_); (refine h_stR recs H 1 rfl rfl rfl rfl rfl rfl rfl rfl rfl (fun w_ H => ?_))))))
    refine end_cell recs H 1 rfl rfl rfl rfl rfl ?_
    exact ⟨by rw [hD]; rfl, H.B⟩
end Go.Proofs.YthgojbdpmcccaaaGreatDoor.K
end
section
namespace Go.Proofs.YthgojbdpmcccaaaGreatDoor.Is
open Go.RowKit Go.Extern.Stop Go.Stop Go.Extern
set_option linter.unusedVariables false
set_option linter.unusedSimpArgs false
theorem noIsP (v : Value) (xT : TypeId) (w : World) : (Instr.typeAssert (.iface 188 v) xT 251 true).run Tryz.prog w = .ok (.tuple #[.nilIface, .bool false]) w := run_typeAssert_lacksB Tryz.underlying251 (by kernel_rfl) (by kernel_rfl) v xT w
theorem hasUnwrapP (v : Value) (xT : TypeId) (w : World) : (Instr.typeAssert (.iface 188 v) xT 254 true).run Tryz.prog w = .ok (.tuple #[.iface 188 v, .bool true]) w := run_typeAssert_hasB Tryz.underlying254 (by kernel_rfl) v xT w
theorem methodUnwrapP (v : Value) (w : World) : (Go.method 416 188 v "Unwrap").run Tryz.prog w = .ok (234, v) w := by kernel_rfl
end Go.Proofs.YthgojbdpmcccaaaGreatDoor.Is
namespace Go.Proofs.YthgojbdpmcccaaaGreatDoor.K
open Go.RowKit Go.Proofs.YthgojbdpmcccaaaGreatDoor.Q Go.Proofs.YthgojbdpmcccaaaGreatDoor.Wb Go.Proofs.YthgojbdpmcccaaaGreatDoorW.PrintWords
set_option linter.unusedVariables false
set_option linter.unusedSimpArgs false
section
variable {P : Program} {n : Nat} {ops : Array Oper} {Q : Exit → Act → World → Prop} {rest : List Oper} {f : Fr} {w : World} {d : Option Nat} {op : Op} {tt : TypeId} {ps : String} {af : Array Edge} {gd : Option (Nat × Bool)}
theorem l_box {t : TypeId} {x : Operand} {v : Value} (hw : want n ops f ⟨d, .box t x, tt, ps, af, gd⟩ = true) (hx : X n f x = v)
    (h : WL P ops Q rest (act n (put f d (.pointer (some ⟨w.heap.size, 0, none⟩)))) (w.alloc (.cells v.cells t))) : WL P ops Q (⟨d, .box t x, tt, ps, af, gd⟩ :: rest) (act n f) w := by
  refine l_valw hw ?_ h
  have : (Instr.box t v).run P w = .ok (.pointer (some ⟨w.heap.size, 0, none⟩)) (w.alloc (.cells v.cells t)) := by
    simp [Instr.box, newVar, newRow, go_sem]
  unfold execOp
  simp [hx, this]
end
theorem info_err1 : (Tryz.prog.info? 98).map (·.size) = some 1 := by kernel_rfl
theorem unwrap_c (part : ByteArray) (t : TypeId) (u : Value) (w : World) : Calls Tryz.prog 234 #[.agg #[.string part, .iface t u]] w fun en w' => en = .returned (.iface t u) ∧ Below w.heap.size w w' := by
  obtain ⟨i1, hi1, hs1⟩ := Option.map_eq_some_iff.1 info_err1
  refine enter (args := [.agg #[.string part, .iface t u]]) Tryz.func234 rfl Tryz.ntmps234 rfl ?_
  repeat' (first | (with_reducible first | refine p_tn ?_ | refine p_tx ?_ | refine p_tr ?_ | refine p_bn ?_ | refine p_br ?_ | refine x_hit ?_ | refine x_miss rfl ?_ | refine wp_seq ?_ | refine wp_block ?_ | refine w_reg ?_) | (with_reducible (refine is_if ?_; (first | (refine w_ift rfl ?_) | (refine w_iff rfl ?_)))) | ((with_reducible refine is_if ?_); (first | (refine w_ift rfl ?_) | (refine w_iff rfl ?_))) | (with_reducible first | refine wp_skip ?_ | refine wp_exit ?_ | refine wp_ret ?_ | refine l_nil ?_) | (with_reducible (refine is_l ?_; (first | (refine l_off rfl ?_) | (refine l_p tys rfl rfl ?_) | (refine l_a tys rfl rfl (by first | exact in_i64 (by omega) (by omega) | exact in_u8 (by omega) (by omega) | exact in_u64 (by omega) (by omega) | exact in_i32 (by omega) (by omega)) ?_) | (refine l_ix tys rfl rfl (by first | omega | assumption | decide) (by first | omega | assumption | decide) ?_) | (refine l_sl tys rfl rfl (by first | omega | assumption | decide) (by first | omega | assumption | decide) (by first | omega | assumption | decide) ?_)))) | ((with_reducible refine is_l ?_); (first | (refine l_off rfl ?_) | (refine l_p tys rfl rfl ?_) | (refine l_a tys rfl rfl (by first | exact in_i64 (by omega) (by omega) | exact in_u8 (by omega) (by omega) | exact in_u64 (by omega) (by omega) | exact in_i32 (by omega) (by omega)) ?_) | (refine l_ix tys rfl rfl (by first | omega | assumption | decide) (by first | omega | assumption | decide) ?_) | (refine l_sl tys rfl rfl (by first | omega | assumption | decide) (by first | omega | assumption | decide) (by first | omega | assumption | decide) ?_))))
  (with_reducible refine is_l ?_); refine l_box (v := .agg #[.string part, .iface t u]) rfl rfl ?_
  have B1 := below_alloc (Below.refl w.heap.size w) (.cells (Value.agg #[.string part, .iface t u]).cells 188)
  repeat' (first | (with_reducible first | refine p_tn ?_ | refine p_tx ?_ | refine p_tr ?_ | refine p_bn ?_ | refine p_br ?_ | refine x_hit ?_ | refine x_miss rfl ?_ | refine wp_seq ?_ | refine wp_block ?_ | refine w_reg ?_) | (with_reducible (refine is_if ?_; (first | (refine w_ift rfl ?_) | (refine w_iff rfl ?_)))) | ((with_reducible refine is_if ?_); (first | (refine w_ift rfl ?_) | (refine w_iff rfl ?_))) | (with_reducible first | refine wp_skip ?_ | refine wp_exit ?_ | refine wp_ret ?_ | refine l_nil ?_) | (with_reducible (refine is_l ?_; (first | (refine l_off rfl ?_) | (refine l_p tys rfl rfl ?_) | (refine l_a tys rfl rfl (by first | exact in_i64 (by omega) (by omega) | exact in_u8 (by omega) (by omega) | exact in_u64 (by omega) (by omega) | exact in_i32 (by omega) (by omega)) ?_) | (refine l_ix tys rfl rfl (by first | omega | assumption | decide) (by first | omega | assumption | decide) ?_) | (refine l_sl tys rfl rfl (by first | omega | assumption | decide) (by first | omega | assumption | decide) (by first | omega | assumption | decide) ?_)))) | ((with_reducible refine is_l ?_); (first | (refine l_off rfl ?_) | (refine l_p tys rfl rfl ?_) | (refine l_a tys rfl rfl (by first | exact in_i64 (by omega) (by omega) | exact in_u8 (by omega) (by omega) | exact in_u64 (by omega) (by omega) | exact in_i32 (by omega) (by omega)) ?_) | (refine l_ix tys rfl rfl (by first | omega | assumption | decide) (by first | omega | assumption | decide) ?_) | (refine l_sl tys rfl rfl (by first | omega | assumption | decide) (by first | omega | assumption | decide) (by first | omega | assumption | decide) ?_))))
  (with_reducible refine is_l ?_); refine l_field (a' := ⟨w.heap.size, 1, none⟩) rfl rfl Tryz.underlying188 rfl hi1 hs1 (add_plain _ _) ?_
  (with_reducible refine is_l ?_); refine l_ld (v := .iface t u) tys rfl rfl (new_cell w _ _ 1) ?_
  repeat' (first | (with_reducible first | refine p_tn ?_ | refine p_tx ?_ | refine p_tr ?_ | refine p_bn ?_ | refine p_br ?_ | refine x_hit ?_ | refine x_miss rfl ?_ | refine wp_seq ?_ | refine wp_block ?_ | refine w_reg ?_) | (with_reducible (refine is_if ?_; (first | (refine w_ift rfl ?_) | (refine w_iff rfl ?_)))) | ((with_reducible refine is_if ?_); (first | (refine w_ift rfl ?_) | (refine w_iff rfl ?_))) | (with_reducible first | refine wp_skip ?_ | refine wp_exit ?_ | refine wp_ret ?_ | refine l_nil ?_) | (with_reducible (refine is_l ?_; (first | (refine l_off rfl ?_) | (refine l_p tys rfl rfl ?_) | (refine l_a tys rfl rfl (by first | exact in_i64 (by omega) (by omega) | exact in_u8 (by omega) (by omega) | exact in_u64 (by omega) (by omega) | exact in_i32 (by omega) (by omega)) ?_) | (refine l_ix tys rfl rfl (by first | omega | assumption | decide) (by first | omega | assumption | decide) ?_) | (refine l_sl tys rfl rfl (by first | omega | assumption | decide) (by first | omega | assumption | decide) (by first | omega | assumption | decide) ?_)))) | ((with_reducible refine is_l ?_); (first | (refine l_off rfl ?_) | (refine l_p tys rfl rfl ?_) | (refine l_a tys rfl rfl (by first | exact in_i64 (by omega) (by omega) | exact in_u8 (by omega) (by omega) | exact in_u64 (by omega) (by omega) | exact in_i32 (by omega) (by omega)) ?_) | (refine l_ix tys rfl rfl (by first | omega | assumption | decide) (by first | omega | assumption | decide) ?_) | (refine l_sl tys rfl rfl (by first | omega | assumption | decide) (by first | omega | assumption | decide) (by first | omega | assumption | decide) ?_))))
  refine end1 rfl rfl ?_
  exact ⟨rfl, B1⟩
end Go.Proofs.YthgojbdpmcccaaaGreatDoor.K
end
section
namespace Go.Proofs.YthgojbdpmcccaaaGreatDoor.Is
open Go.RowKit Go.Extern.Stop Go.Stop Go.Extern
set_option linter.unusedVariables false
set_option linter.unusedSimpArgs false
set_option maxRecDepth 100000 in
theorem is_psame (part : ByteArray) (a : Addr) (w : World) :
    Calls Tryz.prog 104 #[.iface 188 (.agg #[.string part, .iface 283 (.pointer (some a))]), .iface 283 (.pointer (some a))] w fun e w' => e = .returned (.bool true) ∧ RowKit.Below w.heap.size w w' := by
  obtain ⟨i, hi, hcmp⟩ := Option.map_eq_some_iff.1 isComp
  obtain ⟨j, hj, hjs⟩ := Option.map_eq_some_iff.1 isSize
  have h8 := @run_callFunc_extern Tryz.prog 153 _ Extern.ReflectliteType.typeOf Tryz.func153 (by kernel_rfl) (by kernel_rfl) (by kernel_rfl) (by kernel_rfl)
  have h32 := @run_callFunc_extern Tryz.prog 238 _ (Extern.ReflectliteType.method fun t => do Go.Extern.Rtype.noPackHeld "Comparable" t; pure (.bool (← typeInfo t).comparable)) Tryz.func238 (by kernel_rfl) (by kernel_rfl) (by kernel_rfl) (by kernel_rfl)
  have tT := isTypeOf
  have cT := isComparable
  have mR := isMethodComparable
  have heq := fun w => run_eql_iface_ptr_same (P := Tryz.prog) w a Tryz.underlying98 Tryz.underlying283 hi hcmp hj
  have nP := noIsP
  have uP := hasUnwrapP
  have mP := methodUnwrapP
  have hty := run_eql_iface_types (P := Tryz.prog) 188 283 (.agg #[.string part, .iface 283 (.pointer (some a))]) (.pointer (some a)) Tryz.underlying98 (by decide)
  go_enter Tryz.func104, Tryz.ntmps104
  go_wp2
  refine wp_loop_rounds 2 ?_
  rw [rounds_succ]
  go_wp2_with (go_at_call 234; refine (K.unwrap_c part 283 (.pointer (some a)) _).mono ?_; rintro e w' ⟨rfl, hB⟩)
  rw [rounds_succ]
  go_wp2
  go_ret
  exact ⟨rfl, hB⟩
set_option maxRecDepth 100000 in
theorem is_pother (part : ByteArray) (a b : Addr) (ca cb : Array Value) (ta tb : TypeId) (w : World) (hne : a ≠ b) (ha : w.heap[a.block]? = some (.cells ca ta (0, 0))) (hb : w.heap[b.block]? = some (.cells cb tb (0, 0))) :
    Calls Tryz.prog 104 #[.iface 188 (.agg #[.string part, .iface 283 (.pointer (some a))]), .iface 283 (.pointer (some b))] w fun e w' => e = .returned (.bool false) ∧ RowKit.Below w.heap.size w w' := by
  obtain ⟨i, hi, hcmp⟩ := Option.map_eq_some_iff.1 isComp
  obtain ⟨j, hj, hjs⟩ := Option.map_eq_some_iff.1 isSize
  have h8 := @run_callFunc_extern Tryz.prog 153 _ Extern.ReflectliteType.typeOf Tryz.func153 (by kernel_rfl) (by kernel_rfl) (by kernel_rfl) (by kernel_rfl)
  have h32 := @run_callFunc_extern Tryz.prog 238 _ (Extern.ReflectliteType.method fun t => do Go.Extern.Rtype.noPackHeld "Comparable" t; pure (.bool (← typeInfo t).comparable)) Tryz.func238 (by kernel_rfl) (by kernel_rfl) (by kernel_rfl) (by kernel_rfl)
  have tT := isTypeOf
  have cT := isComparable
  have mR := isMethodComparable
  have nE := noIsE
  have uE := noUnwrapE
  have vE := noUnwrapsE
  have nP := noIsP
  have uP := hasUnwrapP
  have mP := methodUnwrapP
  have hty := run_eql_iface_types (P := Tryz.prog) 188 283 (.agg #[.string part, .iface 283 (.pointer (some a))]) (.pointer (some b)) Tryz.underlying98 (by decide)
  go_enter Tryz.func104, Tryz.ntmps104
  go_wp2
  refine wp_loop_rounds 2 ?_
  rw [rounds_succ]
  go_wp2_with (go_at_call 234; refine (K.unwrap_c part 283 (.pointer (some a)) _).mono ?_; rintro e w' ⟨rfl, hB⟩)
  have heq := run_eql_iface_ptr_other (P := Tryz.prog) w' Tryz.underlying98 Tryz.underlying283 hi hcmp hj (by rw [hjs]; decide) hne (YthgojbdpmcccaaaGreatDoorW.PrintWords.blk_below ha hB) (YthgojbdpmcccaaaGreatDoorW.PrintWords.blk_below hb hB)
  rw [rounds_succ]
  go_wp2
  go_ret
  exact ⟨rfl, hB⟩
end Go.Proofs.YthgojbdpmcccaaaGreatDoor.Is
end
