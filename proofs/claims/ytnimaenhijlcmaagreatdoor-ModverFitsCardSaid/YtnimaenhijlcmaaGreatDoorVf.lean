/- A version taken apart. -/
import Derived.Test.YtnimaenhijlcmaaGreatDoorVe
namespace Go.Proofs.YtnimaenhijlcmaaGreatDoor.K
open Go.RowKit Go.Proofs.YtnimaenhijlcmaaGreatDoor.Q Go.Proofs.YtnimaenhijlcmaaGreatDoor.Mb Go.Proofs.YtnimaenhijlcmaaGreatDoorW.PrintWords
set_option linter.unusedVariables false
set_option linter.unusedSimpArgs false

section
variable {P : Program} {ty : Nat → Option Ty} {n : Nat} {f : Fr} {w : World} {o : Oper}
theorem evT_no (hty : Tys P ty) {p : Prop} (h : evT ty n f o.op = some p) (hp : ¬ p) : (execOp (X n f) o).run P w = .ok (.value (.bool false)) w := by
  obtain ⟨t, hr, ht⟩ := evT_run (w := w) hty h
  cases t with
  | true => exact absurd (ht.1 rfl) hp
  | false => exact hr
theorem evT_yes (hty : Tys P ty) {p : Prop} (h : evT ty n f o.op = some p) (hp : p) : (execOp (X n f) o).run P w = .ok (.value (.bool true)) w := by
  obtain ⟨t, hr, ht⟩ := evT_run (w := w) hty h
  cases t with
  | true => exact hr
  | false => exact absurd (ht.2 hp) (by simp)
end
theorem _root_.Go.Proofs.YtnimaenhijlcmaaGreatDoor.Q.Hp.entRow {w0 w : World} {g : Nat} {t : TypeId} {cs : List Value} {l : List Ent} {r : List RowD} (H : Hp w0 w ((g, t, cs) :: l) r) (hm : cs.length ≤ maxLen) : Hp w0 w l (⟨.slice (some ⟨g, 0, none⟩) cs.length cs.length, t, 1, cs.length, cs⟩ :: r) := by
  have hb := H.blk 0 _ rfl
  refine ⟨H.B, fun i p h => H.blk (i + 1) p (by simpa using h), fun i d h => ?_, fun i j p q h1 h2 hne => H.ndl (i + 1) (j + 1) p q (by simpa using h1) (by simpa using h2) (by omega), fun i j d e h1 h2 hne b hd => ?_, fun i j p d h1 h2 => ?_⟩
  · cases i with
    | zero =>
      simp only [List.getElem?_cons_zero, Option.some.injEq] at h
      subst h
      exact ⟨by simp, .inr ⟨g, cs.length, cs.toArray, rfl, hb.1, hb.2, Nat.le_refl _, hm, by simp, by simp⟩⟩
    | succ i => simp only [List.getElem?_cons_succ] at h; exact H.row i d h
  · cases i with
    | zero =>
      cases j with
      | zero => exact absurd rfl hne
      | succ j =>
        simp only [List.getElem?_cons_zero, Option.some.injEq] at h1
        simp only [List.getElem?_cons_succ] at h2
        subst h1
        simp only [Value.ownBlock, Option.some.injEq] at hd
        subst hd
        exact H.ndm 0 j _ e rfl h2
    | succ i =>
      simp only [List.getElem?_cons_succ] at h1
      cases j with
      | zero =>
        simp only [List.getElem?_cons_zero, Option.some.injEq] at h2
        subst h2
        have := H.ndm 0 i _ d rfl h1
        intro e
        simp only [Value.ownBlock, Option.some.injEq] at e
        exact this (by rw [hd, ← e])
      | succ j =>
        simp only [List.getElem?_cons_succ] at h2
        exact H.ndr i j d e h1 h2 (by omega) b hd
  · cases j with
    | zero =>
      simp only [List.getElem?_cons_zero, Option.some.injEq] at h2
      subst h2
      have := H.ndl (i + 1) 0 p _ (by simpa using h1) rfl (by omega)
      intro e
      simp only [Value.ownBlock, Option.some.injEq] at e
      exact this e.symm
    | succ j =>
      simp only [List.getElem?_cons_succ] at h2
      exact H.ndm (i + 1) j p d (by simpa using h1) h2
theorem hasV_c (t : ByteArray) (w : World) : Calls Tryz.prog 88 #[.string t, .string ⟨#[118]⟩] w fun e w' => e = .returned (.bool (decide ((bl t).head? = some 118))) ∧ w' = w := by
  refine (Tryz.strings_HasPrefix t ⟨#[118]⟩ w).mono fun e w' ⟨h1, h2⟩ => ⟨?_, h2⟩
  rw [h1]
  congr 2
  unfold Lib.hasPrefix bl
  cases hd : t.data.toList with
  | nil => rfl
  | cons x r =>
    simp [List.isPrefixOf]
    by_cases h : x = 118
    · subst h; rfl
    · have h2 : ¬ (x.toNat : Int) = 118 := fun e => h (UInt8.toNat_inj.1 (by have e2 : (118 : UInt8).toNat = 118 := rfl; omega))
      rw [decide_eq_false h2]
      exact beq_eq_false_iff_ne.2 (fun e => h e.symm)
theorem map_inj8 : ∀ {s p : List UInt8}, (s.map fun b => (b.toNat : Int)) = (p.map fun b => (b.toNat : Int)) → s = p
  | [], [], _ => rfl
  | [], _ :: _, h => by cases h
  | _ :: _, [], h => by cases h
  | x :: s, y :: p, h => by
    simp only [List.map_cons, List.cons.injEq] at h
    rw [UInt8.toNat_inj.1 (show x.toNat = y.toNat by omega), map_inj8 h.2]
theorem suf_cut (s p : List UInt8) : endCut (s.map fun b => (b.toNat : Int)) (p.map fun b => (b.toNat : Int)) = if p.isSuffixOf s = true then some ((s.take (s.length - p.length)).map fun b => (b.toNat : Int)) else none := by
  unfold endCut
  simp only [List.length_map, ← List.map_drop, ← List.map_take]
  by_cases h : p.isSuffixOf s = true
  · have h1 := List.isSuffixOf_iff_suffix.1 h
    have h2 := List.suffix_iff_eq_drop.1 h1
    rw [if_pos h, if_pos ⟨h1.length_le, by rw [← h2]⟩]
  · rw [if_neg h, if_neg]
    rintro ⟨h1, h2⟩
    exact h (List.isSuffixOf_iff_suffix.2 (List.suffix_iff_eq_drop.2 (map_inj8 h2).symm))
theorem cutSuf_c (t p : ByteArray) (w : World) (ht : t.size ≤ 100000000) : Calls Tryz.prog 89 #[.string t, .string p] w fun e w' => e = .returned (.tuple #[.string (strOfNums ((endCut (bl t) (bl p)).getD (bl t))), .bool (endCut (bl t) (bl p)).isSome]) ∧ w' = w := by
  refine (Tryz.strings_CutSuffix t p w (by omega)).mono fun e w' ⟨h1, h2⟩ => ⟨?_, h2⟩
  rw [h1]
  have hs := suf_cut t.data.toList p.data.toList
  have hs : endCut (bl t) (bl p) = _ := hs
  rw [hs]
  unfold Lib.trimSuffix Lib.hasSuffix
  by_cases h : p.data.toList.isSuffixOf t.data.toList = true
  · rw [if_pos h, if_pos h, h]
    have : strOfNums ((t.data.toList.take (t.data.toList.length - p.data.toList.length)).map fun b => (b.toNat : Int)) = ⟨(t.data.toList.take (t.data.toList.length - p.data.toList.length)).toArray⟩ := by
      refine bl_inj ?_
      rw [blS (fun x hx => by obtain ⟨b, _, rfl⟩ := List.mem_map.1 hx; have := b.toNat_lt; omega)]
      rfl
    simp only [Option.getD_some, Option.isSome_some]
    rw [this]
  · rw [if_neg h, if_neg h, Bool.eq_false_iff.2 h]
    simp only [Option.getD_none, Option.isSome_none]
    rw [strS]
end Go.Proofs.YtnimaenhijlcmaaGreatDoor.K
