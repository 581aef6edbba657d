/- ModverOnce. -/
import Derived.Test.YtnimaenhijlcmaaDoorSb
namespace Go.Proofs.YtnimaenhijlcmaaDoor.K.Rec
open Go.RowKit Go.Proofs.YtnimaenhijlcmaaDoor.Q Go.Proofs.YtnimaenhijlcmaaDoor.K Go.Proofs.YtnimaenhijlcmaaDoor.Mb Go.Proofs.YtnimaenhijlcmaaDoorW.PrintWords
set_option linter.unusedVariables false
set_option linter.unusedSimpArgs false

theorem nilS : (⟨#[]⟩ : ByteArray) = strOfNums [] := rfl
theorem str_ne {x : L} (hb : Bytes x) (h : x ≠ []) : ¬ bl (strOfNums x) = bl ⟨#[]⟩ := by
  rw [blS hb]
  exact h
/-- What a reading call of an escaped form gave: a text whose escaped form is the one that was read, or none. -/
def UnF (t : ByteArray) (r : ByteArray × Int) (q : L → ByteArray × Int) : Prop := (∃ x, r = (strOfNums x, 0) ∧ Bytes x ∧ x ≠ [] ∧ q x = (t, 0)) ∨ ∃ k, r = (⟨#[]⟩, k) ∧ k ≠ 0
theorem unPath_two (t : ByteArray) : UnF t (unPath (bl t)) escPath := by
  unfold unPath
  cases hu : unescS (bl t) with
  | none => exact .inr ⟨112, rfl, by decide⟩
  | some x =>
    obtain ⟨h1, h2⟩ := esc_unesc hu
    cases hp : pathS x
    · exact .inr ⟨110, by simp only; rw [hp]; rfl, by decide⟩
    · refine .inl ⟨x, by simp only; rw [hp]; rfl, un_bytes hu (bl_bytes t), (path_ne hp).1, ?_⟩
      unfold escPath
      rw [hp, h1]
      show (strOfNums (bl t), (0 : Int)) = (t, 0)
      rw [strS]
theorem unVer_two (t : ByteArray) : UnF t (unVer (bl t)) escVer := by
  unfold unVer
  cases hu : unescS (bl t) with
  | none => exact .inr ⟨112, rfl, by decide⟩
  | some x =>
    obtain ⟨h1, h2⟩ := esc_unesc hu
    cases hp : parseV x with
    | none => exact .inr ⟨111, by simp only; rw [hp]; rfl, by decide⟩
    | some v =>
      refine .inl ⟨x, by simp only; rw [hp]; rfl, un_bytes hu (bl_bytes t), (ver_no hp).2.2.2.2.2.1, ?_⟩
      unfold escVer
      rw [hp, h1]
      show (strOfNums (bl t), (0 : Int)) = (t, 0)
      rw [strS]
theorem parK_two (t : ByteArray) : (∃ p v, parK (bl t) = (strOfNums p, strOfNums v, 0) ∧ Bytes p ∧ Bytes v ∧ p ≠ [] ∧ checkS p v = 0 ∧ keyT (strOfNums p) (strOfNums v) = t) ∨ ∃ k, parK (bl t) = (⟨#[]⟩, ⟨#[]⟩, k) ∧ k ≠ 0 := by
  unfold parK
  cases hk : keyS (bl t) with
  | none => exact .inr ⟨113, rfl, by decide⟩
  | some q =>
    obtain ⟨p, v⟩ := q
    simp only
    obtain ⟨hpv, hn1, hn2⟩ := keyS_some hk
    have bp : Bytes p := fun y hy => bl_bytes t y (by rw [hpv]; exact List.mem_append_left _ hy)
    have bv : Bytes v := fun y hy => bl_bytes t y (by rw [hpv]; exact List.mem_append_right _ (List.mem_cons_of_mem _ hy))
    by_cases hc : checkS p v = 0
    · rw [if_pos hc]
      refine .inl ⟨p, v, rfl, bp, bv, check_bytes hc, hc, ?_⟩
      unfold keyT
      rw [blS bp, blS bv, if_pos hc]
      refine bl_inj ?_
      rw [bl_cat, bl_cat, blS bp, blS bv, hpv, List.append_assoc]
      rfl
    · rw [if_neg hc]
      exact .inr ⟨_, rfl, by omega⟩
theorem rec_no {s : L} {k : Nat} (h : parRec s = .no k) : k ≠ 0 := by
  unfold parRec at h
  split at h
  · cases h; decide
  split at h
  · cases h; decide
  unfold recW at h
  split at h
  · unfold recG at h
    split at h
    · cases h; decide
    split at h
    · rename_i hc
      cases h
      exact hc
    split at h
    · cases h; decide
    split at h
    · cases h; decide
    · cases h
  · cases h; decide
theorem parRec_two (t : ByteArray) : (∃ p v a b, parRec (bl t) = .is p v a b ∧ Bytes p ∧ Bytes v ∧ p ≠ [] ∧ checkS p v = 0 ∧ Bytes a ∧ a.length = 32 ∧ Bytes b ∧ b.length = 32 ∧ recT (strOfNums p) (strOfNums v) a b = t) ∨ ∃ k, parRec (bl t) = .no k ∧ k ≠ 0 := by
  cases hr : parRec (bl t) with
  | no k => exact .inr ⟨k, rfl, rec_no hr⟩
  | is p v a b =>
    obtain ⟨hc, hs, ba, la, bb, lb⟩ := rec_once hr
    have bt := bl_bytes t
    rw [← hs] at bt
    have bp : Bytes p := fun y hy => bt y (by unfold recS line1; simp [hy])
    have bv : Bytes v := fun y hy => bt y (by unfold recS line1; simp [hy])
    refine .inl ⟨p, v, a, b, rfl, bp, bv, check_bytes hc, hc, ba, la, bb, lb, ?_⟩
    unfold recT
    rw [blS bp, blS bv, if_pos hc, hs, strS]
section
variable {P : Program} {n : Nat} {Q : Exit → Act → World → Prop} {f : Fr} {w : World}
/-- Where several ways meet: what stands in the slots there, and what holds of the world. -/
theorem w_cut {σ : Type} (S : σ → List (Nat × Value)) (J : σ → World → Prop) {x z : Code}
    (h1 : x.wp P (Exit.then (fun a' w' => ∃ s f', a' = act n f' ∧ Slots f' (S s) ∧ J s w') Q) (act n f) w)
    (h2 : ∀ s f w', J s w' → z.wp P Q (act n (over f (S s))) w') : (Code.seq x z).wp P Q (act n f) w := by
  refine wp_seq (wp_mono h1 ?_)
  intro e a' w' hq
  cases e with
  | normal =>
    obtain ⟨s, f', rfl, k2, k3⟩ := hq
    have := h2 s f' w' k3
    rw [over_eq k2] at this
    exact this
  | exit id => exact hq
  | goto l => exact hq
  | ret => exact hq
  | panic ch => exact hq
  | outgrown => exact hq
end
set_option maxRecDepth 100000 in
set_option maxHeartbeats 16000000 in
theorem once_c {w : World} (hL : Lay w) (t : ByteArray) (ht : t.size ≤ 1048576) :
    Calls Tryd.prog 9 #[.string t] w fun e w' => e = .returned (.bool true) ∧ Below w.heap.size w w' := by
  refine enter (args := [.string t]) Tryd.func9 rfl Tryd.ntmps9 rfl ?_
  have H := Hp.nil w
  repeat' (first | (with_reducible first | refine p_tn ?_ | refine wp_seq ?_ | refine w_reg ?_ | refine l_nil ?_) | ((with_reducible refine g_on ?_); ((with_reducible refine g_as ?_); refine l_p txs rfl rfl ?_)))
  (with_reducible refine is_l ?_); refine l_callv rfl rfl (by kernel_rfl) (sample_c (hL.below H.B)) (fun w_ K => ?_)
  have H := H.call K
  repeat' (first | (with_reducible first | refine p_tn ?_ | refine wp_seq ?_ | refine w_reg ?_) | (with_reducible (refine is_if ?_; (refine w_iff rfl ?_))) | (with_reducible first | refine wp_skip ?_ | refine l_nil ?_) | ((with_reducible refine g_on ?_); (first | ((with_reducible refine g_mv ?_); refine l_p txs rfl rfl ?_) | ((with_reducible refine g_un ?_); (refine l_p txs rfl rfl ?_)))))
  have d1 := fun (w1 : World) (h1 : Lay w1) => UnescapePath_c h1 t (by omega)
  have F1 := unPath_two t
  generalize unPath (bl t) = r1 at d1 F1
  obtain ⟨x1, y1⟩ := r1
  simp only at d1
  (with_reducible refine is_l ?_); refine l_callv rfl rfl (by kernel_rfl) (d1 _ (hL.below H.B)) (fun w_ K => ?_)
  have H := H.call K
  have e1 := fun (w1 : World) (h1 : Lay w1) => EscapePath_c h1 x1
  have hF : (x1 ≠ ⟨#[]⟩ ∧ y1 = 0 ∧ escPath (bl x1) = (t, 0)) ∨ (x1 = ⟨#[]⟩ ∧ y1 ≠ 0) := by
    rcases F1 with ⟨x, h1, h2, h3, h4⟩ | ⟨k, h1, h2⟩
    · cases h1
      exact .inl ⟨fun e => str_ne h2 h3 (by rw [e]), rfl, by rw [blS h2]; exact h4⟩
    · cases h1
      exact .inr ⟨rfl, h2⟩
  generalize escPath (bl x1) = r2 at e1 hF
  obtain ⟨x2, y2⟩ := r2
  simp only at e1
  repeat' (first | (with_reducible first | refine p_tn ?_ | refine wp_seq ?_ | refine w_reg ?_ | refine l_nil ?_) | ((with_reducible refine g_on ?_); (first | ((with_reducible refine g_mv ?_); refine l_p txs rfl rfl ?_) | ((with_reducible refine g_as ?_); refine l_p txs rfl rfl ?_) | ((with_reducible refine g_ex ?_); refine l_p txs rfl rfl ?_))))
  (with_reducible refine is_l ?_); refine l_callv rfl rfl (by kernel_rfl) (e1 _ (hL.below H.B)) (fun w_ K => ?_)
  have H := H.call K
  repeat' (first | (with_reducible refine l_nil ?_) | ((with_reducible refine g_on ?_); (first | ((with_reducible refine g_mv ?_); refine l_p txs rfl rfl ?_) | ((with_reducible refine g_as ?_); refine l_p txs rfl rfl ?_) | ((with_reducible refine g_ex ?_); refine l_p txs rfl rfl ?_))))
  with_reducible refine p_tn ?_
  refine w_cut (σ := Unit) (S := fun _ => [(0, .string t)]) (J := fun _ w' => Hp w w' [] []) ?_ ?_
  · rcases hF with ⟨hne, rfl, h⟩ | ⟨rfl, hk⟩
    · cases h
      have hne : ¬ bl x1 = bl ⟨#[]⟩ := fun e => hne (bl_inj e)
      repeat' (first | (with_reducible first | refine wp_seq ?_ | refine w_reg ?_) | ((with_reducible refine g_on ?_); ((with_reducible refine g_mv ?_); refine l_p txs rfl rfl ?_)))
      (with_reducible refine is_l ?_); refine l_t txs rfl rfl (fun _ => ?_) (fun h => absurd rfl h)
      repeat' ((with_reducible refine g_on ?_); ((with_reducible refine g_mv ?_); refine l_p txs rfl rfl ?_))
      (with_reducible refine is_l ?_); refine l_t txs rfl rfl (fun _ => ?_) (fun h => absurd hne h)
      skip
      (with_reducible refine is_l ?_); refine l_bb rfl rfl rfl (neq_bool true _) ?_
      repeat' (first | ((with_reducible refine g_on ?_); ((with_reducible refine g_mv ?_); refine l_p txs rfl rfl ?_)) | ((with_reducible refine g_if ?_); ((with_reducible refine g_mv ?_); refine l_p txs rfl rfl ?_)))
      (with_reducible refine is_l ?_); refine l_t txs rfl rfl (fun _ => ?_) (fun h => absurd rfl h)
      repeat' ((with_reducible refine g_if ?_); ((with_reducible refine g_mv ?_); refine l_p txs rfl rfl ?_))
      (with_reducible refine is_l ?_); refine l_t txs rfl rfl (fun h => absurd rfl h) (fun _ => ?_)
      repeat' ((with_reducible refine g_if ?_); ((with_reducible refine g_mv ?_); refine l_p txs rfl rfl ?_))
      (with_reducible refine is_l ?_); refine l_t txs rfl rfl (fun h => absurd rfl h) (fun _ => ?_)
      repeat' (first | (with_reducible refine p_tn ?_) | (with_reducible (refine is_if ?_; (refine w_iff rfl ?_))) | (with_reducible first | refine wp_skip ?_ | refine l_nil ?_) | ((with_reducible refine g_on ?_); ((with_reducible refine g_pk ?_); refine l_p txs rfl rfl ?_)) | ((with_reducible refine g_if ?_); ((with_reducible refine g_pk ?_); refine l_p txs rfl rfl ?_)))
      exact ⟨(), _, rfl, ⟨rfl, trivial⟩, H.pick [] [] (by decide) (by decide) rfl rfl⟩
    · skip
      repeat' (first | (with_reducible first | refine wp_seq ?_ | refine w_reg ?_) | ((with_reducible refine g_on ?_); ((with_reducible refine g_mv ?_); refine l_p txs rfl rfl ?_)))
      (with_reducible refine is_l ?_); refine l_t txs rfl rfl (fun h => absurd h hk) (fun _ => ?_)
      repeat' ((with_reducible refine g_on ?_); ((with_reducible refine g_mv ?_); refine l_p txs rfl rfl ?_))
      (with_reducible refine is_l ?_); refine l_t txs rfl rfl (fun h => absurd rfl h) (fun _ => ?_)
      skip
      (with_reducible refine is_l ?_); refine l_bb rfl rfl rfl (neq_bool false _) ?_
      repeat' (first | ((with_reducible refine g_on ?_); ((with_reducible refine g_mv ?_); refine l_p txs rfl rfl ?_)) | ((with_reducible refine g_if ?_); ((with_reducible refine g_mv ?_); refine l_p txs rfl rfl ?_)))
      (with_reducible refine is_l ?_); refine l_t txs rfl rfl (fun h => absurd h hk) (fun _ => ?_)
      repeat' (first | (with_reducible refine p_tn ?_) | (with_reducible (refine is_if ?_; (refine w_iff rfl ?_))) | (with_reducible first | refine wp_skip ?_ | refine l_nil ?_) | ((with_reducible refine g_on ?_); ((with_reducible refine g_pk ?_); refine l_p txs rfl rfl ?_)) | ((with_reducible refine g_if ?_); (first | (refine l_off rfl ?_) | ((with_reducible refine g_mv ?_); refine l_p txs rfl rfl ?_) | ((with_reducible refine g_pk ?_); refine l_p txs rfl rfl ?_))))
      exact ⟨(), _, rfl, ⟨rfl, trivial⟩, H.pick [] [] (by decide) (by decide) rfl rfl⟩
  clear H
  rintro ⟨⟩ f w_ H
  repeat' (first | (with_reducible first | refine wp_seq ?_ | refine w_reg ?_) | ((with_reducible refine g_on ?_); ((with_reducible refine g_mv ?_); refine l_p txs rfl rfl ?_)))
  have d1 := fun (w1 : World) (h1 : Lay w1) => UnescapeVersion_c h1 t (by omega)
  have F1 := unVer_two t
  generalize unVer (bl t) = r1 at d1 F1
  obtain ⟨x1, y1⟩ := r1
  simp only at d1
  (with_reducible refine is_l ?_); refine l_callv rfl rfl (by kernel_rfl) (d1 _ (hL.below H.B)) (fun w_ K => ?_)
  have H := H.call K
  have e1 := fun (w1 : World) (h1 : Lay w1) => EscapeVersion_c h1 x1
  have hF : (x1 ≠ ⟨#[]⟩ ∧ y1 = 0 ∧ escVer (bl x1) = (t, 0)) ∨ (x1 = ⟨#[]⟩ ∧ y1 ≠ 0) := by
    rcases F1 with ⟨x, h1, h2, h3, h4⟩ | ⟨k, h1, h2⟩
    · cases h1
      exact .inl ⟨fun e => str_ne h2 h3 (by rw [e]), rfl, by rw [blS h2]; exact h4⟩
    · cases h1
      exact .inr ⟨rfl, h2⟩
  generalize escVer (bl x1) = r2 at e1 hF
  obtain ⟨x2, y2⟩ := r2
  simp only at e1
  repeat' (first | (with_reducible first | refine p_tn ?_ | refine wp_seq ?_ | refine w_reg ?_ | refine l_nil ?_) | ((with_reducible refine g_on ?_); (first | ((with_reducible refine g_mv ?_); refine l_p txs rfl rfl ?_) | ((with_reducible refine g_as ?_); refine l_p txs rfl rfl ?_) | ((with_reducible refine g_ex ?_); refine l_p txs rfl rfl ?_))))
  (with_reducible refine is_l ?_); refine l_callv rfl rfl (by kernel_rfl) (e1 _ (hL.below H.B)) (fun w_ K => ?_)
  have H := H.call K
  repeat' (first | (with_reducible refine l_nil ?_) | ((with_reducible refine g_on ?_); (first | ((with_reducible refine g_mv ?_); refine l_p txs rfl rfl ?_) | ((with_reducible refine g_as ?_); refine l_p txs rfl rfl ?_) | ((with_reducible refine g_ex ?_); refine l_p txs rfl rfl ?_))))
  with_reducible refine p_tn ?_
  refine w_cut (σ := Unit) (S := fun _ => [(0, .string t)]) (J := fun _ w' => Hp w w' [] []) ?_ ?_
  · rcases hF with ⟨hne, rfl, h⟩ | ⟨rfl, hk⟩
    · cases h
      have hne : ¬ bl x1 = bl ⟨#[]⟩ := fun e => hne (bl_inj e)
      repeat' (first | (with_reducible first | refine wp_seq ?_ | refine w_reg ?_) | ((with_reducible refine g_on ?_); ((with_reducible refine g_mv ?_); refine l_p txs rfl rfl ?_)))
      (with_reducible refine is_l ?_); refine l_t txs rfl rfl (fun _ => ?_) (fun h => absurd rfl h)
      repeat' ((with_reducible refine g_on ?_); ((with_reducible refine g_mv ?_); refine l_p txs rfl rfl ?_))
      (with_reducible refine is_l ?_); refine l_t txs rfl rfl (fun _ => ?_) (fun h => absurd hne h)
      skip
      (with_reducible refine is_l ?_); refine l_bb rfl rfl rfl (neq_bool true _) ?_
      repeat' (first | ((with_reducible refine g_on ?_); ((with_reducible refine g_mv ?_); refine l_p txs rfl rfl ?_)) | ((with_reducible refine g_if ?_); ((with_reducible refine g_mv ?_); refine l_p txs rfl rfl ?_)))
      (with_reducible refine is_l ?_); refine l_t txs rfl rfl (fun _ => ?_) (fun h => absurd rfl h)
      repeat' ((with_reducible refine g_if ?_); ((with_reducible refine g_mv ?_); refine l_p txs rfl rfl ?_))
      (with_reducible refine is_l ?_); refine l_t txs rfl rfl (fun h => absurd rfl h) (fun _ => ?_)
      repeat' ((with_reducible refine g_if ?_); ((with_reducible refine g_mv ?_); refine l_p txs rfl rfl ?_))
      (with_reducible refine is_l ?_); refine l_t txs rfl rfl (fun h => absurd rfl h) (fun _ => ?_)
      repeat' (first | (with_reducible refine p_tn ?_) | (with_reducible (refine is_if ?_; (refine w_iff rfl ?_))) | (with_reducible first | refine wp_skip ?_ | refine l_nil ?_) | ((with_reducible refine g_on ?_); ((with_reducible refine g_pk ?_); refine l_p txs rfl rfl ?_)) | ((with_reducible refine g_if ?_); ((with_reducible refine g_pk ?_); refine l_p txs rfl rfl ?_)))
      exact ⟨(), _, rfl, ⟨rfl, trivial⟩, H.pick [] [] (by decide) (by decide) rfl rfl⟩
    · skip
      repeat' (first | (with_reducible first | refine wp_seq ?_ | refine w_reg ?_) | ((with_reducible refine g_on ?_); ((with_reducible refine g_mv ?_); refine l_p txs rfl rfl ?_)))
      (with_reducible refine is_l ?_); refine l_t txs rfl rfl (fun h => absurd h hk) (fun _ => ?_)
      repeat' ((with_reducible refine g_on ?_); ((with_reducible refine g_mv ?_); refine l_p txs rfl rfl ?_))
      (with_reducible refine is_l ?_); refine l_t txs rfl rfl (fun h => absurd rfl h) (fun _ => ?_)
      skip
      (with_reducible refine is_l ?_); refine l_bb rfl rfl rfl (neq_bool false _) ?_
      repeat' (first | ((with_reducible refine g_on ?_); ((with_reducible refine g_mv ?_); refine l_p txs rfl rfl ?_)) | ((with_reducible refine g_if ?_); ((with_reducible refine g_mv ?_); refine l_p txs rfl rfl ?_)))
      (with_reducible refine is_l ?_); refine l_t txs rfl rfl (fun h => absurd h hk) (fun _ => ?_)
      repeat' (first | (with_reducible refine p_tn ?_) | (with_reducible (refine is_if ?_; (refine w_iff rfl ?_))) | (with_reducible first | refine wp_skip ?_ | refine l_nil ?_) | ((with_reducible refine g_on ?_); ((with_reducible refine g_pk ?_); refine l_p txs rfl rfl ?_)) | ((with_reducible refine g_if ?_); (first | (refine l_off rfl ?_) | ((with_reducible refine g_mv ?_); refine l_p txs rfl rfl ?_) | ((with_reducible refine g_pk ?_); refine l_p txs rfl rfl ?_))))
      exact ⟨(), _, rfl, ⟨rfl, trivial⟩, H.pick [] [] (by decide) (by decide) rfl rfl⟩
  clear H
  rintro ⟨⟩ f w_ H
  repeat' (first | (with_reducible first | refine wp_seq ?_ | refine w_reg ?_) | ((with_reducible refine g_on ?_); ((with_reducible refine g_mv ?_); refine l_p txs rfl rfl ?_)))
  have d1 := fun (w1 : World) (h1 : Lay w1) => ParseKey_c h1 t (by omega)
  have F1 := parK_two t
  generalize parK (bl t) = r1 at d1 F1
  obtain ⟨x1, v1, y1⟩ := r1
  simp only at d1
  (with_reducible refine is_l ?_); refine l_callv rfl rfl (by kernel_rfl) (d1 _ (hL.below H.B)) (fun w_ K => ?_)
  have H := H.call K
  have e1 := fun (w1 : World) (h1 : Lay w1) => Key_c h1 x1 v1
  have hF : (x1 ≠ ⟨#[]⟩ ∧ y1 = 0 ∧ keyT x1 v1 = t ∧ ((checkS (bl x1) (bl v1) : Nat) : Int) = 0) ∨ (x1 = ⟨#[]⟩ ∧ y1 ≠ 0) := by
    rcases F1 with ⟨p, v, h1, bp, bv, hp, hc, hk⟩ | ⟨k, h1, h2⟩
    · cases h1
      exact .inl ⟨fun e => str_ne bp hp (by rw [e]), rfl, hk, by rw [blS bp, blS bv, hc]; rfl⟩
    · cases h1
      exact .inr ⟨rfl, h2⟩
  generalize keyT x1 v1 = x2 at e1 hF
  generalize ((checkS (bl x1) (bl v1) : Nat) : Int) = y2 at e1 hF
  repeat' (first | (with_reducible first | refine p_tn ?_ | refine wp_seq ?_ | refine w_reg ?_ | refine l_nil ?_) | ((with_reducible refine g_on ?_); (first | ((with_reducible refine g_mv ?_); refine l_p txs rfl rfl ?_) | ((with_reducible refine g_as ?_); refine l_p txs rfl rfl ?_) | ((with_reducible refine g_ex ?_); refine l_p txs rfl rfl ?_))))
  (with_reducible refine is_l ?_); refine l_callv rfl rfl (by kernel_rfl) (e1 _ (hL.below H.B)) (fun w_ K => ?_)
  have H := H.call K
  repeat' (first | (with_reducible refine l_nil ?_) | ((with_reducible refine g_on ?_); (first | ((with_reducible refine g_mv ?_); refine l_p txs rfl rfl ?_) | ((with_reducible refine g_as ?_); refine l_p txs rfl rfl ?_) | ((with_reducible refine g_ex ?_); refine l_p txs rfl rfl ?_))))
  with_reducible refine p_tn ?_
  refine w_cut (σ := Unit) (S := fun _ => [(0, .string t)]) (J := fun _ w' => Hp w w' [] []) ?_ ?_
  · rcases hF with ⟨hne, rfl, rfl, rfl⟩ | ⟨rfl, hk⟩
    · have hne : ¬ bl x1 = bl ⟨#[]⟩ := fun e => hne (bl_inj e)
      repeat' (first | (with_reducible first | refine wp_seq ?_ | refine w_reg ?_) | ((with_reducible refine g_on ?_); ((with_reducible refine g_mv ?_); refine l_p txs rfl rfl ?_)))
      (with_reducible refine is_l ?_); refine l_t txs rfl rfl (fun _ => ?_) (fun h => absurd rfl h)
      repeat' ((with_reducible refine g_on ?_); ((with_reducible refine g_mv ?_); refine l_p txs rfl rfl ?_))
      (with_reducible refine is_l ?_); refine l_t txs rfl rfl (fun _ => ?_) (fun h => absurd hne h)
      skip
      (with_reducible refine is_l ?_); refine l_bb rfl rfl rfl (neq_bool true _) ?_
      repeat' (first | ((with_reducible refine g_on ?_); ((with_reducible refine g_mv ?_); refine l_p txs rfl rfl ?_)) | ((with_reducible refine g_if ?_); ((with_reducible refine g_mv ?_); refine l_p txs rfl rfl ?_)))
      (with_reducible refine is_l ?_); refine l_t txs rfl rfl (fun _ => ?_) (fun h => absurd rfl h)
      repeat' ((with_reducible refine g_if ?_); ((with_reducible refine g_mv ?_); refine l_p txs rfl rfl ?_))
      (with_reducible refine is_l ?_); refine l_t txs rfl rfl (fun h => absurd rfl h) (fun _ => ?_)
      repeat' ((with_reducible refine g_if ?_); ((with_reducible refine g_mv ?_); refine l_p txs rfl rfl ?_))
      (with_reducible refine is_l ?_); refine l_t txs rfl rfl (fun h => absurd rfl h) (fun _ => ?_)
      repeat' (first | (with_reducible refine p_tn ?_) | (with_reducible (refine is_if ?_; (refine w_iff rfl ?_))) | (with_reducible first | refine wp_skip ?_ | refine l_nil ?_) | ((with_reducible refine g_on ?_); ((with_reducible refine g_pk ?_); refine l_p txs rfl rfl ?_)) | ((with_reducible refine g_if ?_); ((with_reducible refine g_pk ?_); refine l_p txs rfl rfl ?_)))
      exact ⟨(), _, rfl, ⟨rfl, trivial⟩, H.pick [] [] (by decide) (by decide) rfl rfl⟩
    · skip
      repeat' (first | (with_reducible first | refine wp_seq ?_ | refine w_reg ?_) | ((with_reducible refine g_on ?_); ((with_reducible refine g_mv ?_); refine l_p txs rfl rfl ?_)))
      (with_reducible refine is_l ?_); refine l_t txs rfl rfl (fun h => absurd h hk) (fun _ => ?_)
      repeat' ((with_reducible refine g_on ?_); ((with_reducible refine g_mv ?_); refine l_p txs rfl rfl ?_))
      (with_reducible refine is_l ?_); refine l_t txs rfl rfl (fun h => absurd rfl h) (fun _ => ?_)
      skip
      (with_reducible refine is_l ?_); refine l_bb rfl rfl rfl (neq_bool false _) ?_
      repeat' (first | ((with_reducible refine g_on ?_); ((with_reducible refine g_mv ?_); refine l_p txs rfl rfl ?_)) | ((with_reducible refine g_if ?_); ((with_reducible refine g_mv ?_); refine l_p txs rfl rfl ?_)))
      (with_reducible refine is_l ?_); refine l_t txs rfl rfl (fun h => absurd h hk) (fun _ => ?_)
      repeat' (first | (with_reducible refine p_tn ?_) | (with_reducible (refine is_if ?_; (refine w_iff rfl ?_))) | (with_reducible first | refine wp_skip ?_ | refine l_nil ?_) | ((with_reducible refine g_on ?_); ((with_reducible refine g_pk ?_); refine l_p txs rfl rfl ?_)) | ((with_reducible refine g_if ?_); (first | (refine l_off rfl ?_) | ((with_reducible refine g_mv ?_); refine l_p txs rfl rfl ?_) | ((with_reducible refine g_pk ?_); refine l_p txs rfl rfl ?_))))
      exact ⟨(), _, rfl, ⟨rfl, trivial⟩, H.pick [] [] (by decide) (by decide) rfl rfl⟩
  clear H
  rintro ⟨⟩ f w_ H
  repeat' (first | (with_reducible first | refine wp_seq ?_ | refine w_reg ?_) | ((with_reducible refine g_on ?_); ((with_reducible refine g_mv ?_); refine l_p txs rfl rfl ?_)))
  have d1 := fun (w1 : World) => ParseSum_c t w1
  have lA := psL_length (bl t)
  have bA := psL_bytes (bl t)
  have hF : (psE (parSum (bl t)) = 0 ∧ strOfNums (sumS (psL (parSum (bl t)))) = t) ∨ psE (parSum (bl t)) ≠ 0 := by
    cases hp : parSum (bl t) with
    | none => exact .inr (by decide)
    | some h =>
      refine .inl ⟨rfl, ?_⟩
      show strOfNums (sumS h) = t
      rw [(parSum_some hp).2.2, strS]
  generalize psL (parSum (bl t)) = A at d1 lA bA hF
  generalize psE (parSum (bl t)) = y1 at d1 hF
  have nA : (nums .u8 A).length = (nums .u8 zL).length := by rw [nums_length, lA]; rfl
  (with_reducible refine is_l ?_); refine l_callv rfl rfl (by kernel_rfl) (d1 _) (fun w_ K => ?_)
  have H := H.call K
  repeat' ((with_reducible refine g_on ?_); (first | ((with_reducible refine g_mv ?_); refine l_p txs rfl rfl ?_) | ((with_reducible refine g_ex ?_); refine l_p txs rfl rfl ?_) | ((with_reducible refine g_al ?_); refine h_alloc recs H rfl rfl (fun g_ w_ H => ?_))))
  (with_reducible refine is_l ?_); refine h_stR recs H 0 rfl rfl rfl rfl rfl (nfL_eq _ _) nA (nums_one _) rfl (fun w_ H => ?_)
  repeat' (first | (with_reducible refine l_nil ?_) | ((with_reducible refine g_on ?_); ((with_reducible refine g_as ?_); refine l_p txs rfl rfl ?_)))
  with_reducible refine p_tn ?_
  refine w_cut (σ := Unit) (S := fun _ => [(0, .string t)]) (J := fun _ w' => Hp w w' [] []) ?_ ?_
  · repeat' (first | (with_reducible first | refine wp_seq ?_ | refine w_reg ?_) | ((with_reducible refine g_on ?_); ((with_reducible refine g_mv ?_); refine l_p txs rfl rfl ?_)))
    rcases hF with ⟨rfl, hs⟩ | hk
    · (with_reducible refine is_l ?_); refine l_t txs rfl rfl (fun _ => ?_) (fun h => absurd rfl h)
      repeat' ((with_reducible refine g_on ?_); ((with_reducible refine g_mv ?_); refine l_p txs rfl rfl ?_))
      (with_reducible refine is_l ?_); refine h_ldR recs H 0 rfl rfl rfl rfl nA ?_
      (with_reducible refine is_l ?_); refine l_callv rfl rfl (by kernel_rfl) (Sum_c A bA lA _) (fun w_ K => ?_)
      have H := H.call K
      rw [hs]
      repeat' ((with_reducible refine g_if ?_); ((with_reducible refine g_mv ?_); refine l_p txs rfl rfl ?_))
      (with_reducible refine is_l ?_); refine l_t txs rfl rfl (fun h => absurd rfl h) (fun _ => ?_)
      repeat' (first | (with_reducible refine p_tn ?_) | (with_reducible (refine is_if ?_; (refine w_iff rfl ?_))) | (with_reducible first | refine wp_skip ?_ | refine l_nil ?_) | ((with_reducible refine g_on ?_); ((with_reducible refine g_pk ?_); refine l_p txs rfl rfl ?_)))
      exact ⟨(), _, rfl, ⟨rfl, trivial⟩, H.pick [] [] (by decide) (by decide) rfl rfl⟩
    · (with_reducible refine is_l ?_); refine l_t txs rfl rfl (fun h => absurd h hk) (fun _ => ?_)
      repeat' (first | (with_reducible refine p_tn ?_) | (with_reducible (refine is_if ?_; (refine w_iff rfl ?_))) | (with_reducible first | refine wp_skip ?_ | refine l_nil ?_) | ((with_reducible refine g_on ?_); (first | ((with_reducible refine g_mv ?_); refine l_p txs rfl rfl ?_) | ((with_reducible refine g_pk ?_); refine l_p txs rfl rfl ?_))) | ((with_reducible refine g_if ?_); (refine l_off rfl ?_)))
      exact ⟨(), _, rfl, ⟨rfl, trivial⟩, H.pick [] [] (by decide) (by decide) rfl rfl⟩
  clear H lA bA nA hF d1
  rintro ⟨⟩ f w_ H
  repeat' (first | (with_reducible first | refine wp_seq ?_ | refine w_reg ?_) | ((with_reducible refine g_on ?_); ((with_reducible refine g_mv ?_); refine l_p txs rfl rfl ?_)))
  have d1 := fun (w1 : World) (h1 : Lay w1) => ParseRecord_c h1 t
  obtain ⟨P, V, A, B, E, hr, bA, lA, bB, lB, hF⟩ : ∃ (P V : ByteArray) (A B : L) (E : Int), (rcP (parRec (bl t)) = P ∧ rcV (parRec (bl t)) = V ∧ rcA (parRec (bl t)) = A ∧ rcB (parRec (bl t)) = B ∧ rcE (parRec (bl t)) = E) ∧ Bytes A ∧ A.length = 32 ∧ Bytes B ∧ B.length = 32 ∧ ((P ≠ ⟨#[]⟩ ∧ E = 0 ∧ recT P V A B = t ∧ ((checkS (bl P) (bl V) : Nat) : Int) = 0) ∨ (P = ⟨#[]⟩ ∧ E ≠ 0)) := by
    refine ⟨_, _, _, _, _, ⟨rfl, rfl, rfl, rfl, rfl⟩, ?_⟩
    rcases parRec_two t with ⟨p, v, a, b, h1, bp, bv, hp, hc, ba, la, bb, lb, hk⟩ | ⟨k, h1, h2⟩
    · rw [h1]
      exact ⟨ba, la, bb, lb, .inl ⟨fun e => str_ne bp hp (by show bl (rcP (.is p v a b)) = _; rw [e]), rfl, hk, by show ((checkS (bl (strOfNums p)) (bl (strOfNums v)) : Nat) : Int) = 0; rw [blS bp, blS bv, hc]; rfl⟩⟩
    · rw [h1]
      exact ⟨zL_bytes, rfl, zL_bytes, rfl, .inr ⟨rfl, by show (k : Int) ≠ 0; omega⟩⟩
  obtain ⟨q1, q2, q3, q4, q5⟩ := hr
  rw [q1, q2, q3, q4, q5] at d1
  have e1 := fun (w1 : World) (h1 : Lay w1) => Record_c h1 P V A B bA lA bB lB
  generalize recT P V A B = x2 at e1 hF
  generalize ((checkS (bl P) (bl V) : Nat) : Int) = y2 at e1 hF
  have nA : (nums .u8 A).length = (nums .u8 zL).length := by rw [nums_length, lA]; rfl
  have nB : (nums .u8 B).length = (nums .u8 zL).length := by rw [nums_length, lB]; rfl
  (with_reducible refine is_l ?_); refine l_callv rfl rfl (by kernel_rfl) (d1 _ (hL.below H.B)) (fun w_ K => ?_)
  have H := H.call K
  repeat' ((with_reducible refine g_on ?_); (first | ((with_reducible refine g_mv ?_); refine l_p txs rfl rfl ?_) | ((with_reducible refine g_as ?_); refine l_p txs rfl rfl ?_) | ((with_reducible refine g_ex ?_); refine l_p txs rfl rfl ?_) | ((with_reducible refine g_al ?_); refine h_alloc recs H rfl rfl (fun g_ w_ H => ?_))))
  (with_reducible refine is_l ?_); refine h_stR recs H 1 rfl rfl rfl rfl rfl (nfL_eq _ _) nA (nums_one _) rfl (fun w_ H => ?_)
  (with_reducible refine is_l ?_); refine h_stR recs H 0 rfl rfl rfl rfl rfl (nfL_eq _ _) nB (nums_one _) rfl (fun w_ H => ?_)
  repeat' (first | (with_reducible first | refine p_tn ?_ | refine wp_seq ?_ | refine w_reg ?_ | refine l_nil ?_) | ((with_reducible refine g_on ?_); (first | ((with_reducible refine g_mv ?_); refine l_p txs rfl rfl ?_) | ((with_reducible refine g_as ?_); refine l_p txs rfl rfl ?_))))
  (with_reducible refine is_l ?_); refine h_ldR recs H 1 rfl rfl rfl rfl nA ?_
  (with_reducible refine is_l ?_); refine h_ldR recs H 0 rfl rfl rfl rfl nB ?_
  (with_reducible refine is_l ?_); refine l_callv rfl rfl (by kernel_rfl) (e1 _ (hL.below H.B)) (fun w_ K => ?_)
  have H := H.call K
  repeat' (first | (with_reducible first | refine p_tn ?_ | refine wp_seq ?_ | refine w_reg ?_ | refine l_nil ?_) | ((with_reducible refine g_on ?_); (first | ((with_reducible refine g_mv ?_); refine l_p txs rfl rfl ?_) | ((with_reducible refine g_as ?_); refine l_p txs rfl rfl ?_) | ((with_reducible refine g_ex ?_); refine l_p txs rfl rfl ?_))))
  rcases hF with ⟨hne, rfl, rfl, rfl⟩ | ⟨rfl, hk⟩
  · have hne : ¬ bl P = bl ⟨#[]⟩ := fun e => hne (bl_inj e)
    (with_reducible refine is_l ?_); refine l_t txs rfl rfl (fun _ => ?_) (fun h => absurd rfl h)
    repeat' ((with_reducible refine g_on ?_); ((with_reducible refine g_mv ?_); refine l_p txs rfl rfl ?_))
    (with_reducible refine is_l ?_); refine l_t txs rfl rfl (fun _ => ?_) (fun h => absurd hne h)
    skip
    (with_reducible refine is_l ?_); refine l_bb rfl rfl rfl (eql_bool true _) ?_
    repeat' (first | ((with_reducible refine g_on ?_); ((with_reducible refine g_mv ?_); refine l_p txs rfl rfl ?_)) | ((with_reducible refine g_if ?_); ((with_reducible refine g_mv ?_); refine l_p txs rfl rfl ?_)))
    (with_reducible refine is_l ?_); refine l_t txs rfl rfl (fun h => absurd rfl h) (fun _ => ?_)
    repeat' ((with_reducible refine g_if ?_); ((with_reducible refine g_mv ?_); refine l_p txs rfl rfl ?_))
    (with_reducible refine is_l ?_); refine l_t txs rfl rfl (fun _ => ?_) (fun h => absurd rfl h)
    repeat' ((with_reducible refine g_if ?_); ((with_reducible refine g_mv ?_); refine l_p txs rfl rfl ?_))
    (with_reducible refine is_l ?_); refine l_t txs rfl rfl (fun _ => ?_) (fun h => absurd rfl h)
    repeat' (first | (with_reducible first | refine p_tn ?_ | refine wp_ret ?_ | refine l_nil ?_) | ((with_reducible refine g_on ?_); (first | ((with_reducible refine g_as ?_); refine l_p txs rfl rfl ?_) | ((with_reducible refine g_pk ?_); refine l_p txs rfl rfl ?_))) | ((with_reducible refine g_if ?_); ((with_reducible refine g_pk ?_); refine l_p txs rfl rfl ?_)))
    refine end1 rfl rfl ?_
    exact ⟨rfl, H.B⟩
  · (with_reducible refine is_l ?_); refine l_t txs rfl rfl (fun h => absurd h hk) (fun _ => ?_)
    repeat' ((with_reducible refine g_on ?_); ((with_reducible refine g_mv ?_); refine l_p txs rfl rfl ?_))
    (with_reducible refine is_l ?_); refine l_t txs rfl rfl (fun h => absurd rfl h) (fun _ => ?_)
    skip
    (with_reducible refine is_l ?_); refine l_bb rfl rfl rfl (eql_bool false _) ?_
    repeat' (first | ((with_reducible refine g_on ?_); ((with_reducible refine g_mv ?_); refine l_p txs rfl rfl ?_)) | ((with_reducible refine g_if ?_); ((with_reducible refine g_mv ?_); refine l_p txs rfl rfl ?_)))
    (with_reducible refine is_l ?_); refine l_t txs rfl rfl (fun _ => ?_) (fun h => absurd hk h)
    repeat' (first | (with_reducible first | refine p_tn ?_ | refine wp_ret ?_ | refine l_nil ?_) | ((with_reducible refine g_on ?_); (first | ((with_reducible refine g_as ?_); refine l_p txs rfl rfl ?_) | ((with_reducible refine g_pk ?_); refine l_p txs rfl rfl ?_))) | ((with_reducible refine g_if ?_); (first | (refine l_off rfl ?_) | ((with_reducible refine g_mv ?_); refine l_p txs rfl rfl ?_) | ((with_reducible refine g_pk ?_); refine l_p txs rfl rfl ?_))))
    refine end1 rfl rfl ?_
    exact ⟨rfl, H.B⟩
end Go.Proofs.YtnimaenhijlcmaaDoor.K.Rec
