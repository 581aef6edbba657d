/- The calculus over a symbolic heap: one fact tells what the blocks and the rows of the call's own hold; each step turns it. -/
import Derived.Test.YtljinjgamgmocaaQR
import Derived.Deep.MidRow
import Derived.Scope
import Derived.Lib.SlBytesConst
namespace Go.Proofs.Ytljinjgamgmocaa.Q
open Go.RowKit Go.Proofs.YtljinjgamgmocaaW.PrintWords Go.Proofs.YtljinjgamgmocaaW.PrintLast
set_option linter.unusedVariables false
set_option linter.unusedSimpArgs false

/-- A row of the call's own. -/
structure RowD where
  v : Value
  e : TypeId
  sz : Nat
  n : Nat
  cs : List Value
abbrev Ent := Nat × TypeId × List Value
/-- From w0 on: nothing below changed; l: blocks that hold just these cells; r: rows of the call's own; all apart. -/
structure HpS (s : Bool) (w0 w : World) (l : List Ent) (r : List RowD) : Prop where
  B : Below w0.heap.size w0 w
  blk : ∀ (i : Nat) (p : Ent), l[i]? = some p → w0.heap.size ≤ p.1 ∧ w.heap[p.1]? = some (.cells p.2.2.toArray p.2.1 (0, 0))
  row : ∀ (i : Nat) (d : RowD), r[i]? = some d → w.ownsRow w0.heap.size d.e d.sz d.v d.n d.cs
  ndl : ∀ (i j : Nat) (p q : Ent), l[i]? = some p → l[j]? = some q → i ≠ j → p.1 ≠ q.1
  ndr : ∀ (i j : Nat) (d e : RowD), r[i]? = some d → r[j]? = some e → i ≠ j → ∀ b, d.v.ownBlock = some b → e.v.ownBlock ≠ some b
  ndm : ∀ (i j : Nat) (p : Ent) (d : RowD), l[i]? = some p → r[j]? = some d → d.v.ownBlock ≠ some p.1
  dr : s = true → w0.drawn ≤ w.drawn
/-- Of how much was drawn nothing is said. -/
abbrev Hp := HpS false

section
variable {s : Bool} {w0 w w' : World} {l l' : List Ent} {r r' : List RowD}
theorem HpS.nil (w : World) : HpS s w w [] [] := ⟨Below.refl _ w, by simp, by simp, by simp, by simp, by simp, fun _ => Nat.le_refl _⟩
theorem Hp.nil (w : World) : Hp w w [] [] := HpS.nil w
/-- With the draws told. -/
abbrev Hd := HpS true
structure Bel (b : Nat) (w w' : World) : Prop extends Below b w w' where
  drw : w.drawn ≤ w'.drawn
instance {b : Nat} : Coe (Bel b w w') (Below b w w') := ⟨Bel.toBelow⟩
instance : Coe (Hd w w' l r) (Hp w w' l r) := ⟨fun h => ⟨h.B, h.blk, h.row, h.ndl, h.ndr, h.ndm, nofun⟩⟩
theorem HpS.BD (H : Hd w0 w l r) : Bel w0.heap.size w0 w := ⟨H.B, H.dr rfl⟩
theorem HpS.lt (H : HpS s w0 w l r) {i : Nat} {p : Ent} (h : l[i]? = some p) : p.1 < w.heap.size := blk_lt (H.blk i p h).2
theorem HpS.rlt (H : HpS s w0 w l r) {i : Nat} {d : RowD} (h : r[i]? = some d) {b : Nat} (hb : d.v.ownBlock = some b) : b < w.heap.size := own_lt (H.row i d h) b hb
theorem HpS.call (H : HpS s w0 w l r) (hb : Below w.heap.size w w') (hd : s = true → w.drawn ≤ w'.drawn := by nofun) : HpS s w0 w' l r :=
  ⟨below_then H.B H.B.size hb, fun i p h => ⟨(H.blk i p h).1, blk_below (H.blk i p h).2 hb⟩, fun i d h => pw_own_below (H.row i d h) hb, H.ndl, H.ndr, H.ndm, fun e => Nat.le_trans (H.dr e) (hd e)⟩
theorem HpS.callD (H : Hd w0 w l r) (K : Bel w.heap.size w w') : Hd w0 w' l r := H.call K.toBelow (fun _ => K.drw)
theorem HpS.drew (H : HpS s w0 w l r) : HpS s w0 w.drew l r := H.call (below_drew (Below.refl _ w)) (fun _ => Nat.le_succ _)
theorem HpS.get (H : HpS s w0 w l r) (k : Nat) {g : Nat} {t : TypeId} {cs : List Value} (hk : l[k]? = some (g, t, cs)) : w.heap[g]? = some (.cells cs.toArray t (0, 0)) := (H.blk k _ hk).2
theorem HpS.cellAt (H : HpS s w0 w l r) (k : Nat) {g i : Nat} {t : TypeId} {cs : List Value} {v : Value} (hk : l[k]? = some (g, t, cs)) (hi : cs[i]? = some v) : w.cell? ⟨g, i, none⟩ = some v := by
  rw [blk_cell (H.get k hk) i]
  simpa using hi
theorem HpS.old (H : HpS s w0 w l r) {a : Addr} {v : Value} (hc : w0.cell? a = some v) : w.cell? a = some v := pw_cell_below H.B hc
theorem HpS.push (H : HpS s w0 w l r) (t : TypeId) (cs : List Value) : HpS s w0 (w.alloc (.cells cs.toArray t)) ((w.heap.size, t, cs) :: l) r := by
  have K := below_alloc (Below.refl w.heap.size w) (.cells cs.toArray t)
  have H1 := H.call K (fun _ => Nat.le_refl _)
  refine ⟨H1.B, fun i p h => ?_, H1.row, fun i j p q h1 h2 hne => ?_, H1.ndr, fun i j p d h1 h2 => ?_, H1.dr⟩
  · cases i with
    | zero => simp only [List.getElem?_cons_zero, Option.some.injEq] at h; subst h; exact ⟨H.B.size, blk_new w _⟩
    | succ i => simp only [List.getElem?_cons_succ] at h; exact H1.blk i p h
  · cases i with
    | zero =>
      cases j with
      | zero => exact absurd rfl hne
      | succ j =>
        simp only [List.getElem?_cons_zero, List.getElem?_cons_succ, Option.some.injEq] at h1 h2
        subst h1
        have := H.lt h2
        show w.heap.size ≠ q.1
        omega
    | succ i =>
      cases j with
      | zero =>
        simp only [List.getElem?_cons_zero, List.getElem?_cons_succ, Option.some.injEq] at h1 h2
        subst h2
        have := H.lt h1
        show p.1 ≠ w.heap.size
        omega
      | succ j =>
        simp only [List.getElem?_cons_succ] at h1 h2
        exact H.ndl i j p q h1 h2 (by omega)
  · cases i with
    | zero =>
      simp only [List.getElem?_cons_zero, Option.some.injEq] at h1
      subst h1
      intro hb
      exact absurd (H.rlt h2 hb) (Nat.lt_irrefl _)
    | succ i => simp only [List.getElem?_cons_succ] at h1; exact H.ndm i j p d h1 h2
/-- One block is turned. -/
theorem HpS.upd (H : HpS s w0 w l r) (k : Nat) {g : Nat} {t : TypeId} {cs : List Value} (hk : l[k]? = some (g, t, cs)) {cs' : List Value} (hg : w.grownBy w' (some g)) (hc : w'.heap[g]? = some (.cells cs'.toArray t (0, 0))) (hd : s = true → w.drawn ≤ w'.drawn := by nofun) : HpS s w0 w' (l.set k (g, t, cs')) r := by
  have hb := (H.blk k _ hk).1
  have hkl : k < l.length := (List.getElem?_eq_some_iff.1 hk).1
  have key : ∀ (i : Nat) (p : Ent), (l.set k (g, t, cs'))[i]? = some p → (i = k ∧ p = (g, t, cs')) ∨ (i ≠ k ∧ l[i]? = some p) := by
    intro i p h
    rw [List.getElem?_set] at h
    by_cases e : k = i
    · subst e
      simp only [if_true, hkl, Option.some.injEq] at h
      exact .inl ⟨rfl, h.symm⟩
    · rw [if_neg e] at h
      exact .inr ⟨fun e' => e e'.symm, h⟩
  refine ⟨H.B.grown hg H.B.size (fun b e => by cases e; exact hb), fun i p h => ?_, fun i d h => ?_, fun i j p q h1 h2 hne => ?_, H.ndr, fun i j p d h1 h2 => ?_, fun e => Nat.le_trans (H.dr e) (hd e)⟩
  · rcases key i p h with ⟨_, rfl⟩ | ⟨hne, h⟩
    · exact ⟨hb, hc⟩
    · exact ⟨(H.blk i p h).1, blk_grown (H.blk i p h).2 hg (fun e => H.ndl i k p _ h hk hne (Option.some.inj e))⟩
  · refine own_other (H.row i d h) hg ?_
    cases e : d.v.ownBlock with
    | none => exact .inl rfl
    | some b => exact .inr (fun e2 => H.ndm k i _ d hk h (by rw [e, e2]))
  · rcases key i p h1 with ⟨e1, ep⟩ | ⟨n1, g1⟩ <;> rcases key j q h2 with ⟨e2, eq⟩ | ⟨n2, g2⟩
    · exact absurd (e1.trans e2.symm) hne
    · rw [ep]; exact H.ndl k j (g, t, cs) q hk g2 (fun e => n2 e.symm)
    · rw [eq]; exact H.ndl i k p (g, t, cs) g1 hk n1
    · exact H.ndl i j p q g1 g2 hne
  · rcases key i p h1 with ⟨_, ep⟩ | ⟨_, g1⟩
    · rw [ep]; exact H.ndm k j (g, t, cs) d hk h2
    · exact H.ndm i j p d g1 h2
/-- One row is turned. -/
theorem HpS.put (H : HpS s w0 w l r) (k : Nat) {d d' : RowD} (hk : r[k]? = some d) (hg : w.grownBy w' d.v.ownBlock) (ho : w'.ownsRow w0.heap.size d'.e d'.sz d'.v d'.n d'.cs)
    (hat : d'.v.ownBlock = d.v.ownBlock ∨ ∃ b, d'.v.ownBlock = some b ∧ w.heap.size ≤ b) (hd : s = true → w.drawn ≤ w'.drawn := by nofun) : HpS s w0 w' l (r.set k d') := by
  have hkl : k < r.length := (List.getElem?_eq_some_iff.1 hk).1
  have key : ∀ (i : Nat) (p : RowD), (r.set k d')[i]? = some p → (i = k ∧ p = d') ∨ (i ≠ k ∧ r[i]? = some p) := by
    intro i p h
    rw [List.getElem?_set] at h
    by_cases e : k = i
    · subst e
      simp only [if_true, hkl, Option.some.injEq] at h
      exact .inl ⟨rfl, h.symm⟩
    · rw [if_neg e] at h
      exact .inr ⟨fun e' => e e'.symm, h⟩
  refine ⟨H.B.grown hg H.B.size (fun b e => own_base (H.row k d hk) b e), fun i p h => ⟨(H.blk i p h).1, blk_grown (H.blk i p h).2 hg (fun e => H.ndm i k p d h hk e.symm)⟩, fun i e h => ?_, H.ndl, fun i j p q h1 h2 hne b hb => ?_, fun i j p q h1 h2 => ?_, fun e => Nat.le_trans (H.dr e) (hd e)⟩
  · rcases key i e h with ⟨_, rfl⟩ | ⟨hne, h⟩
    · exact ho
    · refine own_other (H.row i e h) hg ?_
      cases e1 : e.v.ownBlock with
      | none => exact .inl rfl
      | some b => exact .inr (fun e2 => H.ndr i k e d h hk hne b e1 e2.symm)
  · rcases key i p h1 with ⟨e1, ep⟩ | ⟨n1, g1⟩ <;> rcases key j q h2 with ⟨e2, eq⟩ | ⟨n2, g2⟩
    · exact absurd (e1.trans e2.symm) hne
    · rw [ep] at hb
      rcases hat with hat | ⟨b', hat, hlt⟩
      · exact H.ndr k j d q hk g2 (fun e => n2 e.symm) b (hat.symm.trans hb)
      · intro hq
        have := H.rlt g2 hq
        rw [hat] at hb
        cases hb
        omega
    · rw [eq]
      rcases hat with hat | ⟨b', hat, hlt⟩
      · rw [hat]; exact H.ndr i k p d g1 hk n1 b hb
      · rw [hat]
        intro hq
        have := H.rlt g1 hb
        cases hq
        omega
    · exact H.ndr i j p q g1 g2 hne b hb
  · rcases key j q h2 with ⟨_, eq⟩ | ⟨_, g2⟩
    · rw [eq]
      rcases hat with hat | ⟨b', hat, hlt⟩
      · rw [hat]; exact H.ndm i k p d h1 hk
      · rw [hat]
        intro hq
        have := H.lt h1
        cases hq
        omega
    · exact H.ndm i j p q h1 g2
/-- A nil row is a row. -/
theorem HpS.nilRow (H : HpS s w0 w l r) (e : TypeId) (sz : Nat) : HpS s w0 w l (⟨.slice none 0 0, e, sz, 0, []⟩ :: r) := by
  refine ⟨H.B, H.blk, fun i d h => ?_, H.ndl, fun i j p q h1 h2 hne b hb => ?_, fun i j p q h1 h2 => ?_, H.dr⟩
  · cases i with
    | zero => simp only [List.getElem?_cons_zero, Option.some.injEq] at h; subst h; exact own_nil _ _ _ _
    | succ i => simp only [List.getElem?_cons_succ] at h; exact H.row i d h
  · cases i with
    | zero => simp only [List.getElem?_cons_zero, Option.some.injEq] at h1; subst h1; simp [Value.ownBlock] at hb
    | succ i =>
      cases j with
      | zero => simp only [List.getElem?_cons_zero, Option.some.injEq] at h2; subst h2; simp [Value.ownBlock]
      | succ j => simp only [List.getElem?_cons_succ] at h1 h2; exact H.ndr i j p q h1 h2 (by omega) b hb
  · cases j with
    | zero => simp only [List.getElem?_cons_zero, Option.some.injEq] at h2; subst h2; simp [Value.ownBlock]
    | succ j => simp only [List.getElem?_cons_succ] at h2; exact H.ndm i j p q h1 h2
theorem own_lower {w : World} {b b' : Nat} {e : TypeId} {sz n : Nat} {v : Value} {xs : List Value} (h : w.ownsRow b e sz v n xs) (hb : b' ≤ b) : w.ownsRow b' e sz v n xs := by
  refine ⟨h.1, ?_⟩
  rcases h.2 with h2 | ⟨g, cap, cur, h1, h2, h3⟩
  · exact .inl h2
  · exact .inr ⟨g, cap, cur, h1, Nat.le_trans hb h2, h3⟩
/-- What a call made, by its own contract, is the caller's. -/
theorem HpS.join (H : HpS s w0 w l r) (K : HpS s w w' l' r') : HpS s w0 w' (l' ++ l) (r' ++ r) := by
  have H1 := H.call K.B K.dr
  have nl : ∀ {i : Nat} {p : Ent}, l'[i]? = some p → w.heap.size ≤ p.1 := fun h => (K.blk _ _ h).1
  have nr : ∀ {i : Nat} {d : RowD}, r'[i]? = some d → ∀ b, d.v.ownBlock = some b → w.heap.size ≤ b := fun h b hb => own_base (K.row _ _ h) b hb
  have kl : ∀ (i : Nat) (p : Ent), (l' ++ l)[i]? = some p → (i < l'.length ∧ l'[i]? = some p) ∨ (l'.length ≤ i ∧ l[i - l'.length]? = some p) := by
    intro i p h
    rcases Nat.lt_or_ge i l'.length with h1 | h1
    · rw [List.getElem?_append_left h1] at h; exact .inl ⟨h1, h⟩
    · rw [List.getElem?_append_right h1] at h; exact .inr ⟨h1, h⟩
  have kr : ∀ (i : Nat) (p : RowD), (r' ++ r)[i]? = some p → (i < r'.length ∧ r'[i]? = some p) ∨ (r'.length ≤ i ∧ r[i - r'.length]? = some p) := by
    intro i p h
    rcases Nat.lt_or_ge i r'.length with h1 | h1
    · rw [List.getElem?_append_left h1] at h; exact .inl ⟨h1, h⟩
    · rw [List.getElem?_append_right h1] at h; exact .inr ⟨h1, h⟩
  refine ⟨H1.B, fun i p h => ?_, fun i d h => ?_, fun i j p q h1 h2 hne => ?_, fun i j p q h1 h2 hne b hb => ?_, fun i j p q h1 h2 => ?_, H1.dr⟩
  · rcases kl i p h with ⟨_, h⟩ | ⟨_, h⟩
    · exact ⟨Nat.le_trans H.B.size (nl h), (K.blk i p h).2⟩
    · exact H1.blk _ p h
  · rcases kr i d h with ⟨_, h⟩ | ⟨_, h⟩
    · exact own_lower (K.row i d h) H.B.size
    · exact H1.row _ d h
  · rcases kl i p h1 with ⟨a1, h1⟩ | ⟨a1, h1⟩ <;> rcases kl j q h2 with ⟨a2, h2⟩ | ⟨a2, h2⟩
    · exact K.ndl i j p q h1 h2 hne
    · have := nl h1; have := H.lt h2; omega
    · have := nl h2; have := H.lt h1; omega
    · exact H.ndl _ _ p q h1 h2 (by omega)
  · rcases kr i p h1 with ⟨a1, h1⟩ | ⟨a1, h1⟩ <;> rcases kr j q h2 with ⟨a2, h2⟩ | ⟨a2, h2⟩
    · exact K.ndr i j p q h1 h2 hne b hb
    · intro hq; have := nr h1 b hb; have := H.rlt h2 hq; omega
    · intro hq; have := nr h2 b hq; have := H.rlt h1 hb; omega
    · exact H.ndr _ _ p q h1 h2 (by omega) b hb
  · rcases kl i p h1 with ⟨a1, h1⟩ | ⟨a1, h1⟩ <;> rcases kr j q h2 with ⟨a2, h2⟩ | ⟨a2, h2⟩
    · exact K.ndm i j p q h1 h2
    · intro hq; have := nl h1; have := H.rlt h2 hq; omega
    · intro hq; have := nr h2 _ hq; have := H.lt h1; omega
    · exact H.ndm _ _ p q h1 h2
/-- A choice of them, in another order. -/
theorem HpS.sel (H : HpS s w0 w l r) (ks ms : List Nat) (hk : ks.Nodup) (hm : ms.Nodup) (hl : ks.map (l[·]?) = l'.map some) (hr : ms.map (r[·]?) = r'.map some) : HpS s w0 w l' r' := by
  have key : ∀ {α : Type} {ks : List Nat} {l l' : List α}, ks.map (l[·]?) = l'.map some → ∀ (i : Nat) (p : α), l'[i]? = some p → ∃ k, ks[i]? = some k ∧ l[k]? = some p := by
    intro α ks l l' h i p hp
    have h1 := congrArg (fun z => z[i]?) h
    simp only [List.getElem?_map, hp, Option.map_some] at h1
    cases hq : ks[i]? with
    | none => rw [hq] at h1; simp at h1
    | some k => rw [hq] at h1; exact ⟨k, rfl, by simpa using h1⟩
  have nd : ∀ {ks : List Nat}, ks.Nodup → ∀ {i j a b : Nat}, ks[i]? = some a → ks[j]? = some b → i ≠ j → a ≠ b := by
    intro ks hn i j a b ha hb hne e
    subst e
    exact hne ((List.getElem?_inj (List.getElem?_eq_some_iff.1 ha).1 hn).1 (ha.trans hb.symm))
  refine ⟨H.B, fun i p h => ?_, fun i d h => ?_, fun i j p q h1 h2 hne => ?_, fun i j p q h1 h2 hne => ?_, fun i j p q h1 h2 => ?_, H.dr⟩
  · obtain ⟨k, _, h⟩ := key hl i p h; exact H.blk k p h
  · obtain ⟨k, _, h⟩ := key hr i d h; exact H.row k d h
  · obtain ⟨a, ha, h1⟩ := key hl i p h1
    obtain ⟨b, hb, h2⟩ := key hl j q h2
    exact H.ndl a b p q h1 h2 (nd hk ha hb hne)
  · obtain ⟨a, ha, h1⟩ := key hr i p h1
    obtain ⟨b, hb, h2⟩ := key hr j q h2
    exact H.ndr a b p q h1 h2 (nd hm ha hb hne)
  · obtain ⟨a, ha, h1⟩ := key hl i p h1
    obtain ⟨b, hb, h2⟩ := key hr j q h2
    exact H.ndm a b p q h1 h2
/-- Out of a made row. -/
theorem Hp.ofOwn {e : TypeId} {sz n : Nat} {v : Value} {xs : List Value} (h : w'.ownsRow w.heap.size e sz v n xs) (hb : Below w.heap.size w w') : Hp w w' [] [⟨v, e, sz, n, xs⟩] := by
  refine ⟨hb, by simp, fun i d hi => ?_, by simp, fun i j p q h1 h2 hne => ?_, by simp, nofun⟩
  · cases i with
    | zero => simp only [List.getElem?_cons_zero, Option.some.injEq] at hi; subst hi; exact h
    | succ i => simp at hi
  · cases i with
    | zero => cases j with | zero => exact absurd rfl hne | succ j => simp at h2
    | succ i => simp at h1
theorem Hp.ofBelow (hb : Below w.heap.size w w') : Hp w w' [] [] := (Hp.nil w).call hb
end

/-- Cells that read one behind the other. -/
def Rd (w : World) (A : Option Addr) (cs : List Value) : Prop := (A = none → cs = []) ∧ ∀ ad, A = some ad → ∀ i v, cs[i]? = some v → w.cell? (ad.add i) = some v
theorem Rd.below {w w' : World} {A : Option Addr} {cs : List Value} (h : Rd w A cs) (hb : Below w.heap.size w w') : Rd w' A cs := ⟨h.1, fun ad e i v hv => pw_cell_below hb (h.2 ad e i v hv)⟩
theorem own_rd {w : World} {base : Nat} {e : TypeId} {sz n : Nat} {v : Value} {xs : List Value} (h : w.ownsRow base e sz v n xs) : ∃ A c, v = .slice A n c ∧ n ≤ c ∧ Rd w A xs ∧ (A = none → c = 0 ∧ n = 0) := by
  obtain ⟨hlen, h2⟩ := h
  have h : w.ownsRow base e sz v n xs := ⟨hlen, h2⟩
  rcases h2 with ⟨rfl, rfl⟩ | ⟨g, cap, cur, rfl, hb, hg, hn, _⟩
  · refine ⟨none, 0, rfl, Nat.le_refl _, ⟨fun _ => List.eq_nil_of_length_eq_zero (by rw [hlen]; simp), fun ad e => (by cases e)⟩, fun _ => And.intro rfl rfl⟩
  · refine ⟨_, cap, rfl, hn, ⟨fun e => (by cases e), fun ad e i v hv => ?_⟩, fun e => (by cases e)⟩
    cases e
    exact h.cells (g := g) rfl i v hv
theorem HpS.rd {s : Bool} {w0 w : World} {l : List Ent} {r : List RowD} (H : HpS s w0 w l r) (k : Nat) {d : RowD} (hk : r[k]? = some d) : ∃ A c, d.v = .slice A d.n c ∧ d.n ≤ c ∧ Rd w A d.cs ∧ (A = none → c = 0 ∧ d.n = 0) := own_rd (H.row k d hk)

/-- A list in its own form. -/
def nfL {α β : Type} : List α → (List α → Option β) → Option β
  | [], k => k []
  | x :: xs, k => nfL xs fun l => k (x :: l)
theorem nfL_eq {α β : Type} : ∀ (l : List α) (k : List α → Option β), nfL l k = k l
  | [], _ => rfl
  | x :: xs, k => by rw [nfL, nfL_eq xs]
theorem nfL_some {α : Type} {l m : List α} (h : nfL l some = some m) : m = l := by
  rw [nfL_eq] at h
  exact (Option.some.inj h).symm

def nfO {α β : Type} : List (Option α) → (List α → Option β) → Option β
  | [], k => k []
  | some x :: xs, k => nfO xs fun l => k (x :: l)
  | none :: _, _ => none
theorem nfO_eq {α β : Type} : ∀ (l : List (Option α)) (k : List α → Option β) (z : β), nfO l k = some z → ∃ m, l = m.map some ∧ k m = some z
  | [], k, z, h => ⟨[], rfl, h⟩
  | some x :: xs, k, z, h => by
    obtain ⟨m, h1, h2⟩ := nfO_eq xs _ z h
    exact ⟨x :: m, by rw [h1]; rfl, h2⟩
  | none :: _, k, z, h => by cases h
theorem nfO_some {α : Type} {l : List (Option α)} {m : List α} (h : nfO l some = some m) : l = m.map some := by
  obtain ⟨m', h1, h2⟩ := nfO_eq l some m h
  cases h2
  exact h1
/-- The chosen ones, written out. -/
theorem HpS.pick {s : Bool} {w0 w : World} {l l' : List Ent} {r r' : List RowD} (H : HpS s w0 w l r) (ks ms : List Nat) (hk : ks.Nodup) (hm : ms.Nodup) (hl : nfO (ks.map (l[·]?)) some = some l') (hr : nfO (ms.map (r[·]?)) some = some r') : HpS s w0 w l' r' :=
  H.sel ks ms hk hm (nfO_some hl) (nfO_some hr)

/-! Records: their zero cells; where a field lies -/
def RecOk (P : Program) (t : TypeId) (zs : List Value) : Prop := (∃ d, P.underlying t = some d ∧ d.isRow = true) ∧ (P.info? t).map (fun i => (i.zero.map Value.cells, i.size)) = some (some zs.toArray, zs.length)
abbrev Recs (P : Program) (rt : Nat → Option (List Value)) : Prop := ∀ t zs, rt t = some zs → RecOk P t zs
def fldB (P : Program) (t k : Nat) : Option Nat := match P.underlying t with
  | some (.struct fs) => match fs[k]? with
    | some fd => match P.info? fd.type with
      | some i => bif Nat.beq i.size 0 then none else some fd.offset
      | none => none
    | none => none
  | _ => none
abbrev Flds (P : Program) (fo : Nat → Nat → Option Nat) : Prop := ∀ t k o, fo t k = some o → fldB P t k = some o
abbrev Ones (P : Program) (ty : Nat → Option Ty) : Prop := ∀ t k, ty t = some k → (P.info? t).map (·.size) = some 1
def evF (n : Nat) (f : Fr) (fo : Nat → Nat → Option Nat) : Op → Option Value
  | .fieldAddr s x k => match fo s k, X n f x with
    | some o, .pointer (some ⟨b, i, none⟩) => some (.pointer (some ⟨b, i + o, none⟩))
    | _, _ => none
  | _ => none
def evG (n : Nat) (f : Fr) (fo : Nat → Nat → Option Nat) : Op → Option Value
  | .fieldAddr s x k => match fo s k, X n f x with
    | some o, .pointer (some a) => some (.pointer (some (a.add o)))
    | _, _ => none
  | _ => none
def evOps (n : Nat) (f : Fr) : List (Nat × Operand) → List (Nat × Value)
  | [] => []
  | (i, x) :: r => (i, X n f x) :: evOps n f r
def evBld (n : Nat) (f : Fr) : Op → Option (TypeId × List (Nat × Value))
  | .build t parts => some (t, evOps n f parts.toList)
  | _ => none

section
variable {P : Program} {ty : Nat → Option Ty} {rt : Nat → Option (List Value)} {fo : Nat → Nat → Option Nat} {n : Nat} {f : Fr} {w : World} {o : Oper}
theorem add_lit (b i j : Nat) : (⟨b, i, none⟩ : Addr).add j = ⟨b, i + j, none⟩ := by unfold Addr.add; split <;> simp_all
theorem fld_run {s k o : Nat} {a : Addr} (h : fldB P s k = some o) : (Instr.fieldAt s (.pointer (some a)) k).run P w = .ok (.pointer (some (a.add o))) w := by
  unfold fldB at h
  split at h
  · rename_i fs hs
    split at h
    · rename_i fd hf
      split at h
      · rename_i i hi
        by_cases hz : i.size = 0
        · simp [hz] at h
        · have : Nat.beq i.size 0 = false := by rw [Bool.eq_false_iff]; intro e; exact hz (Nat.eq_of_beq_eq_true e)
          simp only [this, cond_false, Option.some.injEq] at h
          subst h
          simp [Instr.fieldAt, Instr.sureAddr, fieldPlace, sizeOf, typeInfo, run_underlying hs, hf, hi, hz, go_sem]
      · cases h
    · cases h
  · cases h
theorem evF_run (hfo : Flds P fo) {v : Value} (h : evF n f fo o.op = some v) : (execOp (X n f) o).run P w = .ok (.value v) w := by
  unfold evF at h
  split at h
  · rename_i s x k ho
    split at h
    · rename_i off b i h1 h2
      simp only [Option.some.injEq] at h
      subst h
      have := fld_run (P := P) (w := w) (a := ⟨b, i, none⟩) (hfo _ _ _ h1)
      rw [add_lit] at this
      unfold execOp
      simp [ho, h2, this]
    · cases h
  · cases h
theorem evG_run (hfo : Flds P fo) {v : Value} (h : evG n f fo o.op = some v) : (execOp (X n f) o).run P w = .ok (.value v) w := by
  unfold evG at h
  split at h
  · rename_i s x k ho
    split at h
    · rename_i off a h1 h2
      simp only [Option.some.injEq] at h
      subst h
      have := fld_run (P := P) (w := w) (a := a) (hfo _ _ _ h1)
      unfold execOp
      simp [ho, h2, this]
    · cases h
  · cases h
theorem evOps_eq (n : Nat) (f : Fr) : ∀ l : List (Nat × Operand), evOps n f l = l.map fun (i, x) => (i, X n f x)
  | [] => rfl
  | (i, x) :: r => by rw [evOps, evOps_eq n f r]; rfl
theorem evBld_run {t : TypeId} {ps : List (Nat × Value)} {cs : Array Value} (h : evBld n f o.op = some (t, ps)) (hc : P.built t ps = some cs) : (execOp (X n f) o).run P w = .ok (.value (.agg cs)) w := by
  unfold evBld at h
  split at h
  · rename_i t1 parts ho
    simp only [Option.some.injEq, Prod.mk.injEq] at h
    obtain ⟨rfl, rfl⟩ := h
    have := run_build (P := P) w t1 (parts.map fun (i, x) => (i, X n f x)) cs (by rw [Array.toList_map, ← evOps_eq]; exact hc)
    unfold execOp
    simp [ho, this]
  · cases h
/-- A record that is loaded whole. -/
def evLR (n : Nat) (f : Fr) : Op → Option (TypeId × Nat × Nat)
  | .load t x => match X n f x with
    | .pointer (some ⟨g, i, none⟩) => some (t, g, i)
    | _ => none
  | _ => none
theorem evLR_run (hrt : Recs P rt) {t : TypeId} {g i : Nat} {cs zs : List Value} (h : evLR n f o.op = some (t, g, i)) (hz : rt t = some zs) (hc : w.rangeAt g i cs) (hs : cs.length = zs.length) : (execOp (X n f) o).run P w = .ok (.value (.agg cs.toArray)) w := by
  unfold evLR at h
  split at h
  · rename_i t1 x ho
    split at h
    · rename_i g1 i1 hx
      simp only [Option.some.injEq, Prod.mk.injEq] at h
      obtain ⟨rfl, rfl, rfl⟩ := h
      obtain ⟨⟨d, h1, h2⟩, h3⟩ := hrt _ _ hz
      have hsz : (P.info? t1).map (·.size) = some cs.length := by
        obtain ⟨i0, hi, h4⟩ := Option.map_eq_some_iff.1 h3
        simp only [Prod.mk.injEq] at h4
        rw [hi, hs, ← h4.2]; rfl
      have := run_loadAt_mid (P := P) w g1 i1 t1 cs d hc h1 h2 hsz
      unfold execOp
      simp [ho, hx, this]
    · cases h
  · cases h
/-- A record that is loaded whole, wherever it lies. -/
def evLA (n : Nat) (f : Fr) : Op → Option (TypeId × Addr)
  | .load t x => match X n f x with
    | .pointer (some a) => some (t, a)
    | _ => none
  | _ => none
theorem evLA_run (hrt : Recs P rt) {t : TypeId} {a : Addr} {cs zs : List Value} (h : evLA n f o.op = some (t, a)) (hz : rt t = some zs) (hc : ∀ j v, cs[j]? = some v → w.cell? (a.add j) = some v) (hs : cs.length = zs.length) : (execOp (X n f) o).run P w = .ok (.value (.agg cs.toArray)) w := by
  unfold evLA at h
  split at h
  · rename_i t1 x ho
    split at h
    · rename_i a1 hx
      simp only [Option.some.injEq, Prod.mk.injEq] at h
      obtain ⟨rfl, rfl⟩ := h
      obtain ⟨⟨d, h1, h2⟩, h3⟩ := hrt _ _ hz
      obtain ⟨i0, hi, h4⟩ := Option.map_eq_some_iff.1 h3
      simp only [Prod.mk.injEq] at h4
      have hl : (loadCells a1 cs.length).run P w = .ok cs.toArray w := run_loadCells_list (P := P) w a1 cs hc
      have hagg : (isAgg t1).run P w = .ok true w := by
        unfold isAgg
        rw [Sem.run_bind, run_underlying h1 w]
        cases d <;> simp_all
      have hsz : i0.size = cs.length := by rw [hs, ← h4.2]
      unfold execOp
      simp [ho, hx, Instr.loadAt, Instr.sureAddr, loadVar, Sem.run_bind, hagg, sizeOf, typeInfo, hi, hsz, hl]
    · cases h
  · cases h
theorem Rd.part {ad : Addr} {cs : List Value} (h : Rd w (some ad) cs) (m : Nat) {vs : List Value} (hv : ∀ (j : Nat) (v : Value), vs[j]? = some v → cs[m + j]? = some v) : ∀ (j : Nat) (v : Value), vs[j]? = some v → w.cell? ((ad.add m).add j) = some v := by
  intro j v hj
  rw [add_add]
  exact h.2 ad rfl _ v (hv j v hj)
theorem HpS.range {s : Bool} {w0 : World} {l : List Ent} {r : List RowD} (H : HpS s w0 w l r) (k : Nat) {g : Nat} {t : TypeId} {cs : List Value} (hk : l[k]? = some (g, t, cs)) : w.rangeAt g 0 cs := by
  intro j v hv
  rw [Nat.zero_add]
  exact H.cellAt k hk hv
end

section
variable {s : Bool} {P : Program} {ty : Nat → Option Ty} {rt : Nat → Option (List Value)} {fo : Nat → Nat → Option Nat} {n : Nat} {ops : Array Oper} {Q : Exit → Act → World → Prop} {rest : List Oper} {f : Fr} {w0 w : World} {l l' : List Ent} {r r' : List RowD} {d : Option Nat} {op : Op} {tt : TypeId} {ps : String} {af : Array Edge} {gd : Option (Nat × Bool)}
/-- An operation that yields one value and turns the world. -/
theorem h_valw {v : Value} {w' : World} (hw : want n ops f ⟨d, op, tt, ps, af, gd⟩ = true) (hv : (execOp (X n f) ⟨d, op, tt, ps, af, gd⟩).run P w = .ok (.value v) w') (h : WL P ops Q rest (act n (put f d v)) w') : WL P ops Q (⟨d, op, tt, ps, af, gd⟩ :: rest) (act n f) w := by
  refine ⟨?_⟩
  have h := h.out
  simp only [wpList, want_eq, hw, if_true]
  left
  unfold Oper.wp
  rw [eval_act, hv]
  simp only [Oper.upon, put_act]
  exact h
theorem h_skip {w' : World} (hw : want n ops f ⟨none, op, tt, ps, af, gd⟩ = true) (hv : (execOp (X n f) ⟨none, op, tt, ps, af, gd⟩).run P w = .ok .skip w') (h : WL P ops Q rest (act n f) w') : WL P ops Q (⟨none, op, tt, ps, af, gd⟩ :: rest) (act n f) w := by
  refine ⟨?_⟩
  have h := h.out
  simp only [wpList, want_eq, hw, if_true]
  left
  unfold Oper.wp
  rw [eval_act, hv]
  simp only [Oper.upon, put_act]
  exact h
theorem h_fa (hfo : Flds P fo) {v : Value} (hw : want n ops f ⟨d, op, tt, ps, af, gd⟩ = true) (he : evF n f fo op = some v) (h : WL P ops Q rest (act n (put f d v)) w) : WL P ops Q (⟨d, op, tt, ps, af, gd⟩ :: rest) (act n f) w :=
  l_val hw (evF_run (o := ⟨d, op, tt, ps, af, gd⟩) hfo he) h
theorem h_fg (hfo : Flds P fo) {v : Value} (hw : want n ops f ⟨d, op, tt, ps, af, gd⟩ = true) (he : evG n f fo op = some v) (h : WL P ops Q rest (act n (put f d v)) w) : WL P ops Q (⟨d, op, tt, ps, af, gd⟩ :: rest) (act n f) w :=
  l_val hw (evG_run (o := ⟨d, op, tt, ps, af, gd⟩) hfo he) h
theorem h_bld {t : TypeId} {qs : List (Nat × Value)} {cs : Array Value} (hw : want n ops f ⟨d, op, tt, ps, af, gd⟩ = true) (he : evBld n f op = some (t, qs)) (hc : P.built t qs = some cs) (h : WL P ops Q rest (act n (put f d (.agg cs))) w) : WL P ops Q (⟨d, op, tt, ps, af, gd⟩ :: rest) (act n f) w :=
  l_val hw (evBld_run (o := ⟨d, op, tt, ps, af, gd⟩) he hc) h
theorem h_alloc (hrt : Recs P rt) (H : HpS s w0 w l r) {t : TypeId} {zs : List Value} (hw : want n ops f ⟨d, .alloc t, tt, ps, af, gd⟩ = true) (hz : rt t = some zs)
    (h : ∀ g w', HpS s w0 w' ((g, t, zs) :: l) r → WL P ops Q rest (act n (put f d (.pointer (some ⟨g, 0, none⟩)))) w') : WL P ops Q (⟨d, .alloc t, tt, ps, af, gd⟩ :: rest) (act n f) w := by
  refine h_valw hw ?_ (h w.heap.size _ (H.push t zs))
  obtain ⟨_, h3⟩ := hrt _ _ hz
  obtain ⟨i0, hi, h4⟩ := Option.map_eq_some_iff.1 h3
  simp only [Prod.mk.injEq] at h4
  obtain ⟨z, hz0, hzc⟩ := Option.map_eq_some_iff.1 h4.1
  unfold execOp
  have hn : (Instr.alloc t true (.tuple #[])).run P w = .ok (.pointer (some ⟨w.heap.size, 0, none⟩)) (w.alloc (.cells z.cells t)) := by
    simp [Instr.alloc, zeroValue, typeInfo, hi, hz0, newVar, newRow, go_sem]
  rw [hzc] at hn
  simp [hn]
/-- A cell of its own for one plain value. -/
theorem h_alloc1 (H : HpS s w0 w l r) {t : TypeId} {z : Value} (hw : want n ops f ⟨d, .alloc t, tt, ps, af, gd⟩ = true) (hz : (P.info? t).map (fun i => i.zero.map Value.cells) = some (some #[z]))
    (h : ∀ g w', HpS s w0 w' ((g, t, [z]) :: l) r → WL P ops Q rest (act n (put f d (.pointer (some ⟨g, 0, none⟩)))) w') : WL P ops Q (⟨d, .alloc t, tt, ps, af, gd⟩ :: rest) (act n f) w := by
  refine h_valw hw ?_ (h w.heap.size _ (H.push t [z]))
  obtain ⟨i0, hi, h4⟩ := Option.map_eq_some_iff.1 hz
  obtain ⟨z1, hz0, hzc⟩ := Option.map_eq_some_iff.1 h4
  unfold execOp
  have hn : (Instr.alloc t true (.tuple #[])).run P w = .ok (.pointer (some ⟨w.heap.size, 0, none⟩)) (w.alloc (.cells z1.cells t)) := by
    simp [Instr.alloc, zeroValue, typeInfo, hi, hz0, newVar, newRow, go_sem]
  rw [hzc] at hn
  simp [hn]
theorem h_box (H : HpS s w0 w l r) {t : TypeId} {x : Operand} {v : Value} {cs : List Value} (hw : want n ops f ⟨d, .box t x, tt, ps, af, gd⟩ = true) (hx : nf (X n f x) = some v) (hc : nfL v.cells.toList some = some cs)
    (h : ∀ g w', HpS s w0 w' ((g, t, cs) :: l) r → WL P ops Q rest (act n (put f d (.pointer (some ⟨g, 0, none⟩)))) w') : WL P ops Q (⟨d, .box t x, tt, ps, af, gd⟩ :: rest) (act n f) w := by
  have e := nf_eq hx
  have e2 := nfL_some hc
  subst e2
  have H1 := H.push t v.cells.toList
  refine h_valw hw ?_ (h w.heap.size _ H1)
  unfold execOp
  simp [Instr.box, newVar, newRow, e, go_sem]
theorem h_ld (hty : Tys P ty) (H : HpS s w0 w l r) (k : Nat) {g i : Nat} {t : TypeId} {cs : List Value} {v : Value} (hw : want n ops f ⟨d, op, tt, ps, af, gd⟩ = true) (he : evL n f ty op = some ⟨g, i, none⟩) (hk : l[k]? = some (g, t, cs)) (hi : cs[i]? = some v)
    (h : WL P ops Q rest (act n (put f d v)) w) : WL P ops Q (⟨d, op, tt, ps, af, gd⟩ :: rest) (act n f) w :=
  l_val hw (evL_run (o := ⟨d, op, tt, ps, af, gd⟩) hty he (H.cellAt k hk hi)) h
theorem h_ldR (hrt : Recs P rt) (H : HpS s w0 w l r) (k : Nat) {g : Nat} {t t2 : TypeId} {cs zs : List Value} (hw : want n ops f ⟨d, op, tt, ps, af, gd⟩ = true) (he : evLR n f op = some (t, g, 0)) (hz : rt t = some zs) (hk : l[k]? = some (g, t2, cs)) (hs : cs.length = zs.length)
    (h : WL P ops Q rest (act n (put f d (.agg cs.toArray))) w) : WL P ops Q (⟨d, op, tt, ps, af, gd⟩ :: rest) (act n f) w :=
  l_val hw (evLR_run (o := ⟨d, op, tt, ps, af, gd⟩) hrt he hz (H.range k hk) hs) h
theorem h_ldA (hrt : Recs P rt) {t : TypeId} {a : Addr} {cs zs : List Value} (hc : ∀ (j : Nat) (v : Value), cs[j]? = some v → w.cell? (a.add j) = some v) (hw : want n ops f ⟨d, op, tt, ps, af, gd⟩ = true) (he : evLA n f op = some (t, a)) (hz : rt t = some zs) (hs : cs.length = zs.length)
    (h : WL P ops Q rest (act n (put f d (.agg cs.toArray))) w) : WL P ops Q (⟨d, op, tt, ps, af, gd⟩ :: rest) (act n f) w :=
  l_val hw (evLA_run (o := ⟨d, op, tt, ps, af, gd⟩) hrt he hz hc hs) h
def evSt (n : Nat) (f : Fr) : Op → Option (TypeId × Nat × Nat × Value)
  | .store t x y => match X n f x, nf (X n f y) with
    | .pointer (some ⟨g, i, none⟩), some v => some (t, g, i, v)
    | _, _ => none
  | _ => none
theorem drawn_setCells {g : Nat} : ∀ (vs : List Value) (o : Nat) (w : World), (w.setCells g o vs).drawn = w.drawn
  | [], _, w => rfl
  | v :: vs, o, w => drawn_setCells vs (o + 1) (w.setCell ⟨g, o, none⟩ v)
theorem grown_setCells {g : Nat} : ∀ (vs : List Value) (o : Nat) (w : World), w.grownBy (w.setCells g o vs) (some g)
  | [], _, w => World.grownBy.refl w _
  | v :: vs, o, w => by
    have h1 : w.grownBy (w.setCell ⟨g, o, none⟩ v) (some g) := ⟨rfl, rfl, rfl, by simp [World.setCell], fun k hk hne => Below.heap_setCell w _ v k (fun e => hne (by rw [e]))⟩
    exact World.grownBy.trans h1 (grown_setCells vs (o + 1) _)
theorem heap_setCells {g : Nat} {t : TypeId} {fr : Nat × Nat} : ∀ (vs : List Value) (o : Nat) (w : World) (cur : List Value), w.heap[g]? = some (.cells cur.toArray t (0, 0)) → o + vs.length ≤ cur.length → (w.setCells g o vs).heap[g]? = some (.cells (cur.take o ++ vs ++ cur.drop (o + vs.length)).toArray t (0, 0))
  | [], o, w, cur, h, _ => by simpa [World.setCells] using h
  | v :: vs, o, w, cur, h, hl => by
    have h1 : (w.setCell ⟨g, o, none⟩ v).heap[g]? = some (.cells (cur.set o v).toArray t (0, 0)) := by
      have := blk_set h o v
      rw [this]; simp
    have h2 := heap_setCells (fr := fr) vs (o + 1) _ (cur.set o v) h1 (by simp at hl ⊢; omega)
    show ((w.setCell ⟨g, o, none⟩ v).setCells g (o + 1) vs).heap[g]? = _
    rw [h2]
    have hol : o < cur.length := by simp at hl; omega
    have e1 : (cur.set o v).take (o + 1) = cur.take o ++ [v] := by
      rw [List.take_set, List.take_succ_eq_append_getElem hol, List.set_append_right _ _ (by simp; omega)]
      simp [Nat.min_eq_left (Nat.le_of_lt hol)]
    have e2 : (cur.set o v).drop (o + 1 + vs.length) = cur.drop (o + (v :: vs).length) := by
      rw [List.drop_set_of_lt (by omega)]
      congr 1
      simp; omega
    rw [e1, e2]
    simp
theorem h_st (hty : Tys P ty) (ones : Ones P ty) (H : HpS s w0 w l r) (k : Nat) {g i : Nat} {t t2 : TypeId} {τ : Ty} {cs cs' : List Value} {v : Value} (hw : want n ops f ⟨none, op, tt, ps, af, gd⟩ = true) (he : evSt n f op = some (t, g, i, v)) (ht : ty t = some τ) (hk : l[k]? = some (g, t2, cs)) (hi : Nat.blt i cs.length = true) (h1 : v.oneCell' = true) (hv : v.cells = #[v]) (hc : nfL (cs.set i v) some = some cs')
    (hl : nfL (l.set k (g, t2, cs')) some = some l') (h : ∀ w', HpS s w0 w' l' r → WL P ops Q rest (act n f) w') : WL P ops Q (⟨none, op, tt, ps, af, gd⟩ :: rest) (act n f) w := by
  have e1 := nfL_some hc
  have e2 := nfL_some hl
  subst e1 e2
  have hil : i < cs.length := by simpa [Nat.blt_eq] using hi
  unfold evSt at he
  split at he
  · rename_i t0 x y
    split at he
    · rename_i g0 i0 v0 hx hy
      simp only [Option.some.injEq, Prod.mk.injEq] at he
      obtain ⟨rfl, rfl, rfl, rfl⟩ := he
      have hy := nf_eq hy
      have hb := H.get k hk
      have hr := run_store_run (P := P) (o := i0) t0 v0 [v0] hb (by rw [hv]) (ones _ _ ht) (by simp; omega) (by simpa using h1)
      have hh := heap_setCells (fr := (0, 0)) [v0] i0 w cs hb (by simp; omega)
      have e3 : cs.take i0 ++ [v0] ++ cs.drop (i0 + [v0].length) = cs.set i0 v0 := by
        rw [List.set_eq_take_append_cons_drop, if_pos hil]; simp
      rw [e3] at hh
      refine h_skip hw ?_ (h _ (H.upd k hk (grown_setCells [v0] i0 w) hh (fun _ => Nat.le_of_eq (drawn_setCells _ _ _).symm)))
      unfold execOp
      simp [hx, ← hy, hr]
    · cases he
  · cases he
theorem h_stR (hrt : Recs P rt) (H : HpS s w0 w l r) (k : Nat) {g : Nat} {t t2 : TypeId} {cs cs' zs : List Value} {a : Array Value} (hw : want n ops f ⟨none, op, tt, ps, af, gd⟩ = true) (he : evSt n f op = some (t, g, 0, .agg a)) (hz : rt t = some zs) (hk : l[k]? = some (g, t2, cs)) (hs : cs.length = zs.length) (hc : nfL a.toList some = some cs') (hs2 : cs'.length = zs.length) (h1 : cs'.all (·.oneCell') = true)
    (hl : nfL (l.set k (g, t2, cs')) some = some l') (h : ∀ w', HpS s w0 w' l' r → WL P ops Q rest (act n f) w') : WL P ops Q (⟨none, op, tt, ps, af, gd⟩ :: rest) (act n f) w := by
  have e1 := nfL_some hc
  have e2 := nfL_some hl
  subst e1 e2
  unfold evSt at he
  split at he
  · rename_i t0 x y
    split at he
    · rename_i g0 i0 v0 hx hy
      simp only [Option.some.injEq, Prod.mk.injEq] at he
      obtain ⟨rfl, rfl, rfl, rfl⟩ := he
      have hy := nf_eq hy
      have hb := H.get k hk
      obtain ⟨_, h3⟩ := hrt _ _ hz
      have hsz : (P.info? t0).map (·.size) = some a.toList.length := by
        obtain ⟨i0, hi, h4⟩ := Option.map_eq_some_iff.1 h3
        simp only [Prod.mk.injEq] at h4
        rw [hi, hs2, ← h4.2]; rfl
      have hr := run_store_run (P := P) (o := 0) t0 (.agg a) a.toList hb (by simp [Value.cells]) hsz (by rw [List.size_toArray]; omega) (fun q hq => List.all_eq_true.1 h1 q hq)
      have hh := heap_setCells (fr := (0, 0)) a.toList 0 w cs hb (by omega)
      have e3 : cs.take 0 ++ a.toList ++ cs.drop (0 + a.toList.length) = a.toList := by
        rw [List.drop_eq_nil_of_le (by omega)]; simp
      rw [e3] at hh
      refine h_skip hw ?_ (h _ (H.upd k hk (grown_setCells a.toList 0 w) hh (fun _ => Nat.le_of_eq (drawn_setCells _ _ _).symm)))
      unfold execOp
      simp [hx, ← hy, hr]
    · cases he
  · cases he
end

/-! A region that draws its order: S: what holds behind every operation -/
section
variable {P : Program} {n : Nat} {ops : Array Oper} {Q : Exit → Act → World → Prop} {S : World → Prop} {f : Fr} {w : World}
theorem d_start {id m : Nat} {a : Act} (S : World → Prop) (l : Array Bool) (hm : P.follows .mixedOrders = true) (hn : ops.size = m) (hl : Array.replicate m false = l) (hS : S w.drew)
    (h : WA P .any ops Q S [] m l a w.drew) : (Code.region id ops true).wp P Q a w := start_ l hm hn hl hS (fun _ => h.out)
theorem d_pure {i fuel : Nat} {l : Array Bool} {o : Oper} {v : Value} (l' : Array Bool) (hi : ops[i]? = some o) (hc : anyB .any ops l l' i = true) (hQ : ∀ c a w, Q (.panic c) (a.put o.dst v) w → Q (.panic c) a w)
    (hw : want n ops f o = true) (hv : ∀ w, (execOp (X n f) o).run P w = .ok (.value v) w) (h : WA P .any ops Q S [] fuel l' (act n (put f o.dst v)) w) : WA P .any ops Q S [] (fuel + 1) l (act n f) w :=
  ⟨pure_ l' hi rfl hc hQ (Or.inl ⟨by rw [want_eq]; exact hw, fun w => by rw [eval_act]; exact hv w⟩) (put_act n f _ v) h.out⟩
theorem d_off {i fuel : Nat} {l : Array Bool} {o : Oper} (l' : Array Bool) (hi : ops[i]? = some o) (hc : anyB .any ops l l' i = true) (hQ : ∀ c a w, Q (.panic c) (a.put o.dst undef) w → Q (.panic c) a w)
    (hw : want n ops f o = false) (h : WA P .any ops Q S [] fuel l' (act n (put f o.dst undef)) w) : WA P .any ops Q S [] (fuel + 1) l (act n f) w :=
  ⟨pure_ l' hi rfl hc hQ (Or.inr ⟨by rw [want_eq]; exact hw, rfl⟩) (put_act n f _ undef) h.out⟩
theorem d_take {i fuel : Nat} {l : Array Bool} {o : Oper} {v : Value} (l' : Array Bool) (hi : ops[i]? = some o) (hc : takeB .any ops [] l l' i = true) (hQ : ∀ c a w, Q (.panic c) (a.put o.dst v) w → Q (.panic c) a w)
    (hw : want n ops f o = true) (hv : ∀ w, S w → (execOp (X n f) o).run P w = .ok (.value v) w) (hS : S w) (h : WA P .any ops Q S [] fuel l' (act n (put f o.dst v)) w) : WA P .any ops Q S [] (fuel + 1) l (act n f) w :=
  ⟨take_ l' hi rfl hc hQ (Or.inl ⟨by rw [want_eq]; exact hw, fun w hS => by rw [eval_act]; exact hv w hS⟩) hS (put_act n f _ v) h.out⟩
theorem d_one {i fuel : Nat} {l : Array Bool} {o : Oper} (l' : Array Bool) (hi : ops[i]? = some o) (hc : readyB .any ops l l' i = true) (hw : want n ops f o = true)
    (h : WL P ops (fun ex a' w' => ex = .normal ∧ S w' ∧ WA P .any ops Q S [] fuel l' a' w') [o] (act n f) w) : WA P .any ops Q S [] (fuel + 1) l (act n f) w := by
  have h := h.out
  refine ⟨?_⟩
  refine one_ l' hi rfl hc (by simp) (fun K hK => ?_)
  have hw' : Region.wanted o (yielded ops (act n f).tmps) = true := by rw [want_eq]; exact hw
  rw [if_pos hw']
  simp only [wpList, hw', if_true] at h
  rcases h with h | ⟨_, _, _, h, _⟩
  · refine Oper.wp_mono (fun a' w' hk => hK.out a' w' hk.1 (fun _ => hk.2.out)) (wp_of_normal (K := fun a' w' => S w' ∧ WA P .any ops Q S [] fuel l' a' w') ?_)
    exact Oper.wp_mono (fun a' w' hk => hk.2) h
  · cases h
theorem d_done {l : Array Bool} {m : Nat} {a : Act} (hr : (Region.ready .any ops l == []) = true) (h : Q .normal a w) : WA P .any ops Q S [] m l a w := ⟨done_ hr h⟩
end
/-! A call's end, records among the results -/
section
variable {s : Bool} {P : Program} {rt : Nat → Option (List Value)} {n : Nat} {f : Fr} {w0 w : World} {l : List Ent} {r : List RowD}
theorem rec_size (hrt : Recs P rt) {t : TypeId} {cs zs : List Value} (hz : rt t = some zs) (hs : cs.length = zs.length) : (∃ d, P.underlying t = some d ∧ (match d with | .struct _ | .array _ _ => true | _ => false) = true) ∧ (P.info? t).map (·.size) = some cs.toArray.size := by
  obtain ⟨⟨d, h1, h2⟩, h3⟩ := hrt _ _ hz
  refine ⟨⟨d, h1, h2⟩, ?_⟩
  obtain ⟨i0, hi, h4⟩ := Option.map_eq_some_iff.1 h3
  simp only [Prod.mk.injEq] at h4
  rw [hi, List.size_toArray, hs, ← h4.2]; rfl
theorem end_cell {fn : Func} {R : Ending → World → Prop} {p : Tmp} {ty : TypeId} (hrt : Recs P rt) (H : HpS s w0 w l r) (k : Nat) {g : Nat} {t : TypeId} {cs zs : List Value} (hr : fn.results = #[.cell p ty]) (hp : X n f (.tmp p) = .pointer (some ⟨g, 0, none⟩)) (hk : l[k]? = some (g, t, cs)) (hz : rt ty = some zs) (hs : cs.length = zs.length)
    (h : R (.returned (.agg cs.toArray)) w) : bodyPost P fn R .ret (act n f) w := by
  obtain ⟨⟨d, h1, h2⟩, h3⟩ := rec_size hrt hz hs
  exact bodyPost_ret (results_cell_row hr _ w g t cs.toArray (0, 0) d (by rw [show (act n f).tmps = arr n f from rfl, getD_arr]; exact hp) (H.get k hk) h1 (by cases d <;> simp_all) h3) rfl h
theorem end_ct {fn : Func} {R : Ending → World → Prop} {p u : Tmp} {ty : TypeId} (hrt : Recs P rt) (H : HpS s w0 w l r) (k : Nat) {g : Nat} {t : TypeId} {cs zs : List Value} {v : Value} (hr : fn.results = #[.cell p ty, .tmp u]) (hp : X n f (.tmp p) = .pointer (some ⟨g, 0, none⟩)) (hk : l[k]? = some (g, t, cs)) (hz : rt ty = some zs) (hs : cs.length = zs.length) (hv : nf (X n f (.tmp u)) = some v)
    (h : R (.returned (.tuple #[.agg cs.toArray, v])) w) : bodyPost P fn R .ret (act n f) w := by
  obtain ⟨⟨d, h1, h2⟩, h3⟩ := rec_size hrt hz hs
  refine bodyPost_ret (results_ct hr _ w g t cs.toArray (0, 0) d (by rw [show (act n f).tmps = arr n f from rfl, getD_arr]; exact hp) (H.get k hk) h1 (by cases d <;> simp_all) h3) rfl ?_
  rw [show (act n f).tmps = arr n f from rfl, getD_arr, ← nf_eq hv]
  exact h
theorem end_ctt {fn : Func} {R : Ending → World → Prop} {p u x : Tmp} {ty : TypeId} (hrt : Recs P rt) (H : HpS s w0 w l r) (k : Nat) {g : Nat} {t : TypeId} {cs zs : List Value} {v v2 : Value} (hr : fn.results = #[.cell p ty, .tmp u, .tmp x]) (hp : X n f (.tmp p) = .pointer (some ⟨g, 0, none⟩)) (hk : l[k]? = some (g, t, cs)) (hz : rt ty = some zs) (hs : cs.length = zs.length) (hv : nf (X n f (.tmp u)) = some v) (hv2 : nf (X n f (.tmp x)) = some v2)
    (h : R (.returned (.tuple #[.agg cs.toArray, v, v2])) w) : bodyPost P fn R .ret (act n f) w := by
  obtain ⟨⟨d, h1, h2⟩, h3⟩ := rec_size hrt hz hs
  refine bodyPost_ret (results_ctt hr _ w g t cs.toArray (0, 0) d (by rw [show (act n f).tmps = arr n f from rfl, getD_arr]; exact hp) (H.get k hk) h1 (by cases d <;> simp_all) h3) rfl ?_
  rw [show (act n f).tmps = arr n f from rfl, getD_arr, getD_arr, ← nf_eq hv, ← nf_eq hv2]
  exact h
/-- A made row of one element. -/
theorem h_bs {ops : Array Oper} {Q : Exit → Act → World → Prop} {rest : List Oper} {d : Option Nat} {tt : TypeId} {ps : String} {af : Array Edge} (H : HpS s w0 w l r) {t e : TypeId} {x : Operand} {v : Value} {cs : List Value} {z : Value} {sz by_ : Nat}
    (hinfo : (P.info? e).map (fun i => (i.zero, i.size, i.bytes)) = some (some z, sz, by_)) (hu : P.underlying t = some (.slice e)) (h0 : 0 < sz) (hm : sz ≤ 16777216) (hx : nf (X n f x) = some v) (hc : nfL v.cells.toList some = some cs)
    (hf : Instr.fill (fun i => some (i * sz, sz)) ((Array.range (1 * sz)).map (z.cells[· % z.cells.size]!)) [(0, v)] = some cs.toArray)
    (h : ∀ g w', HpS s w0 w' ((g, e, cs) :: l) r → WL P ops Q rest (act n (put f d (.slice (some ⟨g, 0, none⟩) 1 1))) w') : WL P ops Q (⟨d, .buildSlice t 1 #[(0, x)], tt, ps, af, none⟩ :: rest) (act n f) w := by
  have e1 := nf_eq hx
  obtain ⟨i0, hi, hz⟩ := Option.map_eq_some_iff.1 hinfo
  simp only [Prod.mk.injEq] at hz
  obtain ⟨hz0, hz1, hz2⟩ := hz
  subst hz1
  refine ⟨wpList_buildSlice rfl t e 1 _ rfl cs.toArray i0 z hu hi hz0 (by omega) (by omega) ?_ (by rw [put_act]; exact (h w.heap.size _ (H.push e cs)).out)⟩
  rw [eval_act]
  simpa [← e1] using hf
/-- append(row of the call's own, cells that read). -/
theorem h_app {ops : Array Oper} {Q : Exit → Act → World → Prop} {rest : List Oper} {d : Option Nat} {tt : TypeId} {ps : String} {af : Array Edge} {op : Op} (H : Hp w0 w l r) (k : Nat) {q : RowD} {t : TypeId} {A : Option Addr} {m c : Nat} {ys : List Value} {z : Value} {by_ : Nat}
    (hk : r[k]? = some q) (hinfo : (P.info? q.e).map (fun i => (i.zero, i.size, i.bytes)) = some (some z, q.sz, by_)) (hu : P.underlying t = some (.slice q.e)) (he : evApp n f op = some (t, q.v, .slice A m c)) (hzs : z.cells.size = q.sz) (h0 : Nat.ble 1 q.sz = true) (hb0 : Nat.ble 1 by_ = true)
    (HR : Rd w A ys) (hm : ys.length = m * q.sz) (h1 : ys.all (·.oneCell') = true) (hl : (q.n + m) * by_ ≤ 140737488355328)
    (h : ∀ v w', (∃ A' c', v = .slice A' (q.n + m) c') → Hp w0 w' l (r.set k ⟨v, q.e, q.sz, q.n + m, q.cs ++ ys⟩) → WL P ops Q rest (act n (put f d v)) w') : WL P ops Q (⟨d, op, tt, ps, af, none⟩ :: rest) (act n f) w := by
  replace h0 : 0 < q.sz := Nat.le_of_ble_eq_true h0
  replace hb0 : 0 < by_ := Nat.le_of_ble_eq_true hb0
  obtain ⟨i0, hi, hzz⟩ := Option.map_eq_some_iff.1 hinfo
  simp only [Prod.mk.injEq] at hzz
  obtain ⟨hz0, hz1, hz2⟩ := hzz
  have HO := H.row k q hk
  have hlen : q.n + m ≤ 140737488355328 := Nat.le_trans (Nat.le_mul_of_pos_right _ hb0) hl
  have h1' : ∀ u ∈ ys, u.oneCell' = true := fun u hu => List.all_eq_true.1 h1 u hu
  have hrun : ∃ v1 w1, (Builtin.append_ #[t, t] tt #[q.v, .slice A m c]).run P w = .ok v1 w1 ∧ w1.ownsRow w0.heap.size q.e q.sz v1 (q.n + m) (q.cs ++ ys) ∧ w.grownBy w1 q.v.ownBlock ∧ (v1.ownBlock = q.v.ownBlock ∨ v1.ownBlock = some w.heap.size) := by
    rcases A with _ | ad
    · obtain rfl : ys = [] := HR.1 rfl
      have hm0 : m = 0 := by
        rcases Nat.eq_zero_or_pos m with h | h
        · exact h
        · have := Nat.mul_pos h h0
          simp only [List.length_nil] at hm
          omega
      subst hm0
      refine ⟨q.v, w, ?_, by simpa using HO, World.grownBy.refl w _, .inl rfl⟩
      rcases HO.2 with ⟨e1, hn⟩ | ⟨g, cap, cur, e1, _, _, hnc, _⟩
      · rw [e1]; simp [Builtin.append_, run_underlying hu, sizeOf, typeInfo, hi, Builtin.lenOf, Builtin.firstCells]
      · rw [e1]; simp [Builtin.append_, run_underlying hu, sizeOf, typeInfo, hi, Builtin.lenOf, Builtin.firstCells, hnc, storeCells]
    · obtain ⟨v1, w1, hr, h2, h3, _, h5⟩ := run_append_own_at (P := P) w w0.heap.size t tt q.e i0 z q.sz by_ hu hi hz0 hz1 hz2 hzs h0 q.v q.n q.cs HO ad m c ys hm (fun j u hj => HR.2 ad rfl j u hj) h1' (by simp only [maxLen]; omega) hl H.B.size
      exact ⟨v1, w1, hr, h2, h3, h5⟩
  obtain ⟨v1, w1, hrr, hown, hg, hat⟩ := hrun
  have H1 := H.put (d' := ⟨v1, q.e, q.sz, q.n + m, q.cs ++ ys⟩) k hk hg hown (by
    rcases hat with hat | hat
    · exact .inl hat
    · exact .inr ⟨_, hat, Nat.le_refl _⟩)
  obtain ⟨A', c', hv⟩ := own_slice hown
  unfold evApp at he
  split at he
  · rename_i cc
    split at he
    · rename_i x y t1 t2 h2 h3 h4
      by_cases ht : t1 = t2
      · subst ht
        simp only [Nat.beq_refl, cond_true, Option.some.injEq, Prod.mk.injEq] at he
        obtain ⟨rfl, he1, he2⟩ := he
        have hargs : cc.args = #[x, y] := by rw [← Array.toList_inj]; exact h3
        have htys : cc.argTypes = #[t1, t1] := by rw [← Array.toList_inj]; exact h4
        have ho : Op.call cc = .call { callee := .builtin .append, args := #[x, y], argTypes := #[t1, t1] } := by
          cases cc
          simp_all
        rw [ho]
        refine ⟨?_⟩
        refine wpList_plain rfl fun K hK => ?_
        unfold Oper.wp execOp
        rw [eval_act]
        simp only [resolve, invoke, builtin, Sem.run_bind, Sem.run_pure, Result.andThen_ok, List.map_toArray, List.map_cons, List.map_nil, he1, he2, hrr]
        refine hK _ _ ?_
        rw [put_act]
        exact (h v1 w1 ⟨A', c', hv⟩ H1).out
      · exfalso
        have : Nat.beq t1 t2 = false := by rw [Bool.eq_false_iff]; intro hb; exact ht (Nat.eq_of_beq_eq_true hb)
        simp [this] at he
    · cases he
  · cases he
/-- A slice of no cells is a row. -/
theorem HpS.cellRd (H : HpS s w0 w l r) (k : Nat) {g : Nat} {t : TypeId} {cs : List Value} (hk : l[k]? = some (g, t, cs)) : Rd w (some ⟨g, 0, none⟩) cs :=
  ⟨fun e => (by cases e), fun ad e i v hv => (by cases e; rw [add_lit, Nat.zero_add]; exact H.cellAt k hk hv)⟩
end
theorem end4 {P : Program} {n : Nat} {f : Fr} {w : World} {fn : Func} {R : Ending → World → Prop} {t u x y : Tmp} (hr : fn.results = #[.tmp t, .tmp u, .tmp x, .tmp y]) {v v2 v3 v4 : Value} (hv : nf (X n f (.tmp t)) = some v) (hv2 : nf (X n f (.tmp u)) = some v2) (hv3 : nf (X n f (.tmp x)) = some v3) (hv4 : nf (X n f (.tmp y)) = some v4) (h : R (.returned (.tuple #[v, v2, v3, v4])) w) : bodyPost P fn R .ret (act n f) w := by
  have hres : (results fn (act n f).tmps).run P w = .ok (.tuple #[(act n f).tmps.getD t undef, (act n f).tmps.getD u undef, (act n f).tmps.getD x undef, (act n f).tmps.getD y undef]) w := by simp [results, hr]
  refine bodyPost_ret hres rfl ?_
  rw [show (act n f).tmps = arr n f from rfl, getD_arr, getD_arr, getD_arr, getD_arr, ← nf_eq hv, ← nf_eq hv2, ← nf_eq hv3, ← nf_eq hv4]
  exact h
theorem rd_of_reads {w : World} {k : IntKind} {A : Option Addr} {n : Nat} {xs : List Int} (h : ReadsInt w k A n xs) : Rd w A (nums k xs) := by
  refine ⟨fun e => ?_, fun ad e i v hv => ?_⟩
  · have hn : n = 0 := by
      rcases Nat.eq_zero_or_pos n with h0 | h0
      · exact h0
      · obtain ⟨ad, h1, _⟩ := h.2.2 h0
        rw [e] at h1; cases h1
    have : xs = [] := List.eq_nil_of_length_eq_zero (by rw [h.1, hn])
    rw [this]; rfl
  · have hi : i < xs.length := by
      rcases Nat.lt_or_ge i xs.length with h0 | h0
      · exact h0
      · rw [nums, List.getElem?_map, List.getElem?_eq_none h0] at hv; cases hv
    obtain ⟨ad', h1, h2⟩ := h.2.2 (by rw [← h.1]; omega)
    rw [e] at h1
    cases h1
    rw [nums, List.getElem?_map, List.getElem?_eq_getElem hi] at hv
    cases hv
    have := h2 i (by rw [← h.1]; exact hi)
    rw [this, List.getD_eq_getElem?_getD, List.getElem?_eq_getElem hi]
    rfl
theorem reads_of_rd {w : World} {k : IntKind} {A : Option Addr} {xs : List Int} (h : Rd w A (nums k xs)) (hl : xs.length ≤ 9223372036854775807) : ReadsInt w k A xs.length xs := by
  refine ⟨rfl, hl, fun h0 => ?_⟩
  cases A with
  | none =>
    have := h.1 rfl
    rw [nums, List.map_eq_nil_iff] at this
    rw [this] at h0
    simp at h0
  | some ad =>
    refine ⟨ad, rfl, fun j hj => h.2 ad rfl j _ ?_⟩
    rw [nums, List.getElem?_map, List.getElem?_eq_getElem hj, List.getD_eq_getElem?_getD, List.getElem?_eq_getElem hj]
    rfl
/-- []byte of a constant text: its row bears a mark, so it is only read. -/
theorem h_bytes {P : Program} {n : Nat} {ops : Array Oper} {Q : Exit → Act → World → Prop} {rest : List Oper} {f : Fr} {w0 w : World} {l : List Ent} {r : List RowD} (H : Hp w0 w l r) {t e : TypeId} (zs : List Int) {len d1 d2 : Nat} {parts : Array (Nat × Operand)} {tt tt2 : TypeId} {ps ps2 : String} {af af2 : Array Edge}
    (hu : P.underlying t = some (.slice e)) (he : P.underlying e = some (.int .u8)) (hsz : (P.info? e).map (·.size) = some 1) (hz : ((P.info? e).bind (·.zero)).isSome = true) (hlen : len = zs.length) (hpos : 0 < len) (hsmall : len ≤ 1000000) (hparts : parts.toList = (zs.zipIdx 0).map fun x => (x.2, Operand.const (Value.int .u8 x.1))) (hd1 : Nat.blt d1 n = true)
    (h : ∀ g w', Hp w0 w' l r → ReadsInt w' .u8 (some ⟨g, 0, none⟩) zs.length zs → WL P ops Q rest (act n (put (put f (some d1) (.slice (some ⟨g, 0, none⟩) len len)) (some d2) (.slice (some ⟨g, 0, none⟩) len len))) w') :
    WL P ops Q (⟨some d1, .buildSlice t len parts, tt, ps, af, none⟩ :: ⟨some d2, .convert t t (.tmp d1), tt2, ps2, af2, none⟩ :: rest) (act n f) w := by
  refine ⟨wpList_buildFlat rfl t e len parts rfl .u8 zs hu hsz hz hlen hpos (by omega) hparts ?_⟩
  rw [put_act]
  refine WL.out ?_
  have hx : X n (put f (some d1) (.slice (some ⟨w.heap.size, 0, none⟩) len len)) (.tmp d1) = .slice (some ⟨w.heap.size, 0, none⟩) len len := by
    show (bif Nat.blt d1 n then (bif Nat.beq d1 d1 then _ else _) else _) = _
    rw [hd1]; simp
  refine h_valw (v := .slice (some ⟨w.heap.size, 0, none⟩) len len) (w' := w.alloc (.cells (zs.map (Value.int .u8)).toArray e ((zs.map (Value.int .u8)).toArray.size, (zs.map (Value.int .u8)).toArray.size + 1))) rfl ?_ ?_
  · have hr := Lib.run_convert_bytes_const (P := P) w t e (zs.map (Value.int .u8)).toArray len len hu he
    unfold execOp
    simp only [hx]
    rw [Sem.run_bind, hr]
    simp
  · have K := below_alloc (Below.refl w.heap.size w) (.cells (zs.map (Value.int .u8)).toArray e ((zs.map (Value.int .u8)).toArray.size, (zs.map (Value.int .u8)).toArray.size + 1))
    refine h w.heap.size _ (H.call K) (reads_of_rd ⟨fun e => (by cases e), fun ad e i v hv => ?_⟩ (by omega))
    cases e
    rw [add_lit, Nat.zero_add, cell_of_row _ _ i _ _ _ (heap_alloc_new w _)]
    simpa [nums] using hv
/-! A scope without a jump -/
section
variable {P : Program} {Q : Exit → Act → World → Prop} {a : Act} {w : World}
theorem p_sn (h : Q .normal a w) : Exit.noGoto Q .normal a w := h
theorem p_sr (h : Q .ret a w) : Exit.noGoto Q .ret a w := h
theorem p_sx {id : Nat} (h : Q (.exit id) a w) : Exit.noGoto Q (.exit id) a w := h
end
/-! Gates: what kind of operation comes next -/
section
variable {P : Program} {n : Nat} {ops : Array Oper} {Q : Exit → Act → World → Prop} {rest : List Oper} {f : Fr} {w : World} {d : Option Nat} {tt : TypeId} {ps : String} {af : Array Edge} {gd : Option (Nat × Bool)}
theorem g_on {op : Op} (h : WL P ops Q (⟨d, op, tt, ps, af, none⟩ :: rest) (act n f) w) : WL P ops Q (⟨d, op, tt, ps, af, none⟩ :: rest) (act n f) w := h
theorem g_if {op : Op} {g : Nat × Bool} (h : WL P ops Q (⟨d, op, tt, ps, af, some g⟩ :: rest) (act n f) w) : WL P ops Q (⟨d, op, tt, ps, af, some g⟩ :: rest) (act n f) w := h
theorem g_ld {t : TypeId} {x : Operand} (h : WL P ops Q (⟨d, .load t x, tt, ps, af, gd⟩ :: rest) (act n f) w) : WL P ops Q (⟨d, .load t x, tt, ps, af, gd⟩ :: rest) (act n f) w := h
theorem g_st {t : TypeId} {x y : Operand} (h : WL P ops Q (⟨none, .store t x y, tt, ps, af, gd⟩ :: rest) (act n f) w) : WL P ops Q (⟨none, .store t x y, tt, ps, af, gd⟩ :: rest) (act n f) w := h
theorem g_fa {s : TypeId} {x : Operand} {k : Nat} (h : WL P ops Q (⟨d, .fieldAddr s x k, tt, ps, af, gd⟩ :: rest) (act n f) w) : WL P ops Q (⟨d, .fieldAddr s x k, tt, ps, af, gd⟩ :: rest) (act n f) w := h
theorem g_al {t : TypeId} (h : WL P ops Q (⟨d, .alloc t, tt, ps, af, gd⟩ :: rest) (act n f) w) : WL P ops Q (⟨d, .alloc t, tt, ps, af, gd⟩ :: rest) (act n f) w := h
theorem g_bx {t : TypeId} {x : Operand} (h : WL P ops Q (⟨d, .box t x, tt, ps, af, gd⟩ :: rest) (act n f) w) : WL P ops Q (⟨d, .box t x, tt, ps, af, gd⟩ :: rest) (act n f) w := h
theorem g_mv {x : Operand} (h : WL P ops Q (⟨d, .move x, tt, ps, af, gd⟩ :: rest) (act n f) w) : WL P ops Q (⟨d, .move x, tt, ps, af, gd⟩ :: rest) (act n f) w := h
theorem g_as {x : Operand} (h : WL P ops Q (⟨d, .assign x, tt, ps, af, gd⟩ :: rest) (act n f) w) : WL P ops Q (⟨d, .assign x, tt, ps, af, gd⟩ :: rest) (act n f) w := h
theorem g_ex {x : Operand} {k : Nat} (h : WL P ops Q (⟨d, .extract x k, tt, ps, af, gd⟩ :: rest) (act n f) w) : WL P ops Q (⟨d, .extract x k, tt, ps, af, gd⟩ :: rest) (act n f) w := h
theorem g_pk {x y z : Operand} (h : WL P ops Q (⟨d, .pick x y z, tt, ps, af, gd⟩ :: rest) (act n f) w) : WL P ops Q (⟨d, .pick x y z, tt, ps, af, gd⟩ :: rest) (act n f) w := h
theorem g_un {u : UnOp} {t : TypeId} {x : Operand} (h : WL P ops Q (⟨d, .unOp u t x, tt, ps, af, gd⟩ :: rest) (act n f) w) : WL P ops Q (⟨d, .unOp u t x, tt, ps, af, gd⟩ :: rest) (act n f) w := h
theorem g_cl {c : Call} (h : WL P ops Q (⟨d, .call c, tt, ps, af, gd⟩ :: rest) (act n f) w) : WL P ops Q (⟨d, .call c, tt, ps, af, gd⟩ :: rest) (act n f) w := h
theorem g_ia {t : TypeId} {x y : Operand} (h : WL P ops Q (⟨d, .indexAddr t x y, tt, ps, af, gd⟩ :: rest) (act n f) w) : WL P ops Q (⟨d, .indexAddr t x y, tt, ps, af, gd⟩ :: rest) (act n f) w := h
theorem g_ix {t : TypeId} {x y : Operand} (h : WL P ops Q (⟨d, .index t x y, tt, ps, af, gd⟩ :: rest) (act n f) w) : WL P ops Q (⟨d, .index t x y, tt, ps, af, gd⟩ :: rest) (act n f) w := h
theorem g_sl {t : TypeId} {x : Operand} {lo hi mx : Option Operand} (h : WL P ops Q (⟨d, .slice t x lo hi mx, tt, ps, af, gd⟩ :: rest) (act n f) w) : WL P ops Q (⟨d, .slice t x lo hi mx, tt, ps, af, gd⟩ :: rest) (act n f) w := h
theorem g_cv {t u : TypeId} {x : Operand} (h : WL P ops Q (⟨d, .convert t u x, tt, ps, af, gd⟩ :: rest) (act n f) w) : WL P ops Q (⟨d, .convert t u x, tt, ps, af, gd⟩ :: rest) (act n f) w := h
theorem g_bi {b : BinOp} {t u : TypeId} {x y : Operand} (h : WL P ops Q (⟨d, .binOp b t x y u, tt, ps, af, gd⟩ :: rest) (act n f) w) : WL P ops Q (⟨d, .binOp b t x y u, tt, ps, af, gd⟩ :: rest) (act n f) w := h
end
end Go.Proofs.Ytljinjgamgmocaa.Q
