/- The reference's words and their order. -/
import Derived.Test.YtnimaenhijlcmaaGreatDoorCa
namespace Go.Proofs.YtnimaenhijlcmaaGreatDoor.K.Ref
open Go.RowKit Go.Proofs.YtnimaenhijlcmaaGreatDoor.Q Go.Proofs.YtnimaenhijlcmaaGreatDoor.K Go.Proofs.YtnimaenhijlcmaaGreatDoor.Mb Go.Proofs.YtnimaenhijlcmaaGreatDoorW.PrintWords
set_option linter.unusedVariables false
set_option linter.unusedSimpArgs false

theorem wordB_digs (s : L) : wordB s = (s.all wordC && (!s.isEmpty && (!digsB s || numB s))) := by
  unfold wordB digsB
  cases s with
  | nil => rfl
  | cons x r => simp [Bool.and_assoc]
set_option maxHeartbeats 8000000 in
theorem word_c (t : ByteArray) (w : World) (ht : t.size ≤ 100000000) : Calls Tryz.prog 118 #[.string t] w fun e w' => e = .returned (.bool (wordB (bl t))) ∧ w' = w := by
  have hlen := bl_length t
  refine enter (args := [.string t]) Tryz.func118 rfl Tryz.ntmps118 rfl ?_
  have H := Hp.nil w
  rw [wordB_digs]
  repeat' (first | (with_reducible first | refine p_tn ?_ | refine wp_seq ?_ | refine wp_block ?_ | refine w_reg ?_ | refine l_nil ?_) | ((with_reducible refine g_on ?_); ((with_reducible refine g_as ?_); refine l_p txs rfl rfl ?_)))
  refine w_loop (σ := Nat) (S := fun s => [(0, .string t), (3, .int .i64 (s : Int))]) (J := fun s w' => w' = w ∧ s ≤ t.size ∧ ((bl t).take s).all wordC = true) (μ := fun s => t.size - s) 0 ⟨rfl, rfl, trivial⟩ ⟨rfl, by omega, by simp⟩ ?_
  rintro i f w_ ⟨rfl, hi, ha⟩
  repeat' (first | (with_reducible first | refine wp_seq ?_ | refine w_reg ?_) | ((with_reducible refine g_on ?_); (first | ((with_reducible refine g_mv ?_); refine l_p txs rfl rfl ?_) | ((with_reducible refine g_cl ?_); refine l_p txs rfl rfl ?_))))
  (with_reducible refine is_l ?_); refine l_t txs rfl rfl (fun hlt => ?_) (fun hge => ?_)
  · obtain ⟨x, hx⟩ : ∃ x, (bl t)[i]? = some x := ⟨_, List.getElem?_eq_getElem (by omega)⟩
    have hat := at_of hx
    repeat' (first | (with_reducible first | refine p_tn ?_ | refine wp_seq ?_ | refine wp_block ?_ | refine w_reg ?_) | (with_reducible (refine is_if ?_; (refine w_ift rfl ?_))) | (with_reducible first | refine wp_skip ?_ | refine l_nil ?_) | ((with_reducible refine g_on ?_); (first | ((with_reducible refine g_mv ?_); refine l_p txs rfl rfl ?_) | ((with_reducible refine g_ix ?_); refine l_ix txs rfl rfl (by first | omega | assumption | decide) (by first | omega | assumption | decide) ?_))))
    rw [hat]
    skip
    (with_reducible refine is_l ?_); refine l_callp rfl rfl (by kernel_rfl) (small_c x _) ?_
    cases h1 : smlB x
    rotate_left
    · have hw : wordC x = true := by unfold wordC; rw [h1]; simp
      repeat' (first | (with_reducible first | refine p_tn ?_ | refine p_bn ?_ | refine w_reg ?_) | (with_reducible (refine is_if ?_; (refine w_iff rfl ?_))) | (with_reducible first | refine wp_skip ?_ | refine l_nil ?_) | ((with_reducible refine g_on ?_); (first | ((with_reducible refine g_mv ?_); refine l_p txs rfl rfl ?_) | ((with_reducible refine g_as ?_); refine l_p txs rfl rfl ?_) | ((with_reducible refine g_pk ?_); refine l_p txs rfl rfl ?_) | ((with_reducible refine g_un ?_); (refine l_p txs rfl rfl ?_)) | ((with_reducible refine g_bi ?_); (refine l_a txs rfl rfl (by first | exact in_i64 (by omega) (by omega) | exact in_u8 (by omega) (by omega) | exact in_u64 (by omega) (by omega) | exact in_i32 (by omega) (by omega)) ?_)))) | ((with_reducible refine g_if ?_); (refine l_off rfl ?_)))
      exact ⟨i + 1, _, rfl, ⟨rfl, rfl, trivial⟩, ⟨rfl, by omega, take_all hx hw ha⟩, by omega⟩
    repeat' (first | ((with_reducible refine g_on ?_); (first | ((with_reducible refine g_mv ?_); refine l_p txs rfl rfl ?_) | ((with_reducible refine g_un ?_); (refine l_p txs rfl rfl ?_)))) | ((with_reducible refine g_if ?_); (first | ((with_reducible refine g_mv ?_); refine l_p txs rfl rfl ?_) | ((with_reducible refine g_ix ?_); refine l_ix txs rfl rfl (by first | omega | assumption | decide) (by first | omega | assumption | decide) ?_))))
    rw [hat]
    skip
    (with_reducible refine is_l ?_); refine l_callp rfl rfl (by kernel_rfl) (capital_c x _) ?_
    cases h2 : capB x
    rotate_left
    · have hw : wordC x = true := by unfold wordC; rw [h2]; simp
      repeat' (first | (with_reducible first | refine p_tn ?_ | refine p_bn ?_ | refine w_reg ?_) | (with_reducible (refine is_if ?_; (refine w_iff rfl ?_))) | (with_reducible first | refine wp_skip ?_ | refine l_nil ?_) | ((with_reducible refine g_on ?_); (first | ((with_reducible refine g_mv ?_); refine l_p txs rfl rfl ?_) | ((with_reducible refine g_as ?_); refine l_p txs rfl rfl ?_) | ((with_reducible refine g_pk ?_); refine l_p txs rfl rfl ?_) | ((with_reducible refine g_bi ?_); (refine l_a txs rfl rfl (by first | exact in_i64 (by omega) (by omega) | exact in_u8 (by omega) (by omega) | exact in_u64 (by omega) (by omega) | exact in_i32 (by omega) (by omega)) ?_)))) | ((with_reducible refine g_if ?_); (first | (refine l_off rfl ?_) | ((with_reducible refine g_un ?_); (refine l_p txs rfl rfl ?_)))))
      exact ⟨i + 1, _, rfl, ⟨rfl, rfl, trivial⟩, ⟨rfl, by omega, take_all hx hw ha⟩, by omega⟩
    repeat' (first | ((with_reducible refine g_on ?_); (first | ((with_reducible refine g_mv ?_); refine l_p txs rfl rfl ?_) | ((with_reducible refine g_pk ?_); refine l_p txs rfl rfl ?_))) | ((with_reducible refine g_if ?_); (first | ((with_reducible refine g_mv ?_); refine l_p txs rfl rfl ?_) | ((with_reducible refine g_un ?_); (refine l_p txs rfl rfl ?_)) | ((with_reducible refine g_ix ?_); refine l_ix txs rfl rfl (by first | omega | assumption | decide) (by first | omega | assumption | decide) ?_))))
    rw [hat]
    skip
    (with_reducible refine is_l ?_); refine l_callp rfl rfl (by kernel_rfl) (digit_c x _) ?_
    cases h3 : digB x
    rotate_left
    · have hw : wordC x = true := by unfold wordC; rw [h3]; simp
      repeat' (first | (with_reducible first | refine p_tn ?_ | refine p_bn ?_ | refine w_reg ?_) | (with_reducible (refine is_if ?_; (refine w_iff rfl ?_))) | (with_reducible first | refine wp_skip ?_ | refine l_nil ?_) | ((with_reducible refine g_on ?_); (first | ((with_reducible refine g_mv ?_); refine l_p txs rfl rfl ?_) | ((with_reducible refine g_as ?_); refine l_p txs rfl rfl ?_) | ((with_reducible refine g_pk ?_); refine l_p txs rfl rfl ?_) | ((with_reducible refine g_bi ?_); (refine l_a txs rfl rfl (by first | exact in_i64 (by omega) (by omega) | exact in_u8 (by omega) (by omega) | exact in_u64 (by omega) (by omega) | exact in_i32 (by omega) (by omega)) ?_)))) | ((with_reducible refine g_if ?_); (first | (refine l_off rfl ?_) | ((with_reducible refine g_un ?_); (refine l_p txs rfl rfl ?_)))))
      exact ⟨i + 1, _, rfl, ⟨rfl, rfl, trivial⟩, ⟨rfl, by omega, take_all hx hw ha⟩, by omega⟩
    repeat' (first | ((with_reducible refine g_on ?_); (first | ((with_reducible refine g_mv ?_); refine l_p txs rfl rfl ?_) | ((with_reducible refine g_pk ?_); refine l_p txs rfl rfl ?_))) | ((with_reducible refine g_if ?_); (first | ((with_reducible refine g_mv ?_); refine l_p txs rfl rfl ?_) | ((with_reducible refine g_un ?_); (refine l_p txs rfl rfl ?_)) | ((with_reducible refine g_ix ?_); refine l_ix txs rfl rfl (by first | omega | assumption | decide) (by first | omega | assumption | decide) ?_))))
    rw [hat]
    skip
    (with_reducible refine is_l ?_); refine l_t txs rfl rfl (fun h4 => ?_) (fun h4 => ?_)
    · have hw : wordC x = false := by unfold wordC; rw [h1, h2, h3]; simp [h4]
      have hn : (bl t).all wordC = false := not_all hx hw
      repeat' (first | (with_reducible first | refine p_tn ?_ | refine p_tr ?_ | refine p_br ?_ | refine wp_seq ?_ | refine w_reg ?_) | (with_reducible (refine is_if ?_; (refine w_ift rfl ?_))) | (with_reducible first | refine wp_ret ?_ | refine l_nil ?_) | ((with_reducible refine g_on ?_); (first | ((with_reducible refine g_as ?_); refine l_p txs rfl rfl ?_) | ((with_reducible refine g_pk ?_); refine l_p txs rfl rfl ?_))))
      refine end1 rfl rfl ?_
      exact ⟨by rw [hn]; rfl, rfl⟩
    · have hw : wordC x = true := by unfold wordC; simp [Classical.not_not.1 h4]
      repeat' (first | (with_reducible first | refine p_tn ?_ | refine p_bn ?_ | refine w_reg ?_) | (with_reducible (refine is_if ?_; (refine w_iff rfl ?_))) | (with_reducible first | refine wp_skip ?_ | refine l_nil ?_) | ((with_reducible refine g_on ?_); (first | ((with_reducible refine g_mv ?_); refine l_p txs rfl rfl ?_) | ((with_reducible refine g_as ?_); refine l_p txs rfl rfl ?_) | ((with_reducible refine g_pk ?_); refine l_p txs rfl rfl ?_) | ((with_reducible refine g_bi ?_); (refine l_a txs rfl rfl (by first | exact in_i64 (by omega) (by omega) | exact in_u8 (by omega) (by omega) | exact in_u64 (by omega) (by omega) | exact in_i32 (by omega) (by omega)) ?_)))))
      exact ⟨i + 1, _, rfl, ⟨rfl, rfl, trivial⟩, ⟨rfl, by omega, take_all hx hw ha⟩, by omega⟩
  · have hall : (bl t).all wordC = true := by rw [← List.take_of_length_le (l := bl t) (i := i) (by omega)]; exact ha
    rw [hall]
    repeat' (first | (with_reducible first | refine p_tn ?_ | refine p_tx ?_ | refine x_hit ?_ | refine wp_seq ?_ | refine w_reg ?_) | (with_reducible (refine is_if ?_; (refine w_iff rfl ?_))) | (with_reducible first | refine wp_exit ?_ | refine l_nil ?_) | ((with_reducible refine g_on ?_); ((with_reducible refine g_mv ?_); refine l_p txs rfl rfl ?_)))
    (with_reducible refine is_l ?_); refine l_t txs rfl rfl (fun h1 => ?_) (fun h1 => ?_)
    · have h1 : bl t ≠ [] := h1
      have hie : (bl t).isEmpty = false := by simp [h1]
      rw [hie]
      repeat' (first | ((with_reducible refine g_on ?_); ((with_reducible refine g_mv ?_); refine l_p txs rfl rfl ?_)) | ((with_reducible refine g_if ?_); ((with_reducible refine g_mv ?_); refine l_p txs rfl rfl ?_)))
      (with_reducible refine is_l ?_); refine l_callp rfl rfl (by kernel_rfl) (digits_c t _ ht) ?_
      cases hd : digsB (bl t)
      · repeat' (first | (with_reducible first | refine p_tn ?_ | refine wp_ret ?_ | refine l_nil ?_) | ((with_reducible refine g_on ?_); (first | ((with_reducible refine g_as ?_); refine l_p txs rfl rfl ?_) | ((with_reducible refine g_pk ?_); refine l_p txs rfl rfl ?_))) | ((with_reducible refine g_if ?_); (first | (refine l_off rfl ?_) | ((with_reducible refine g_mv ?_); refine l_p txs rfl rfl ?_) | ((with_reducible refine g_pk ?_); refine l_p txs rfl rfl ?_) | ((with_reducible refine g_un ?_); (refine l_p txs rfl rfl ?_)))))
        refine end1 rfl rfl ?_
        exact ⟨rfl, rfl⟩
      · repeat' ((with_reducible refine g_if ?_); (first | ((with_reducible refine g_mv ?_); refine l_p txs rfl rfl ?_) | ((with_reducible refine g_un ?_); (refine l_p txs rfl rfl ?_))))
        (with_reducible refine is_l ?_); refine l_callp rfl rfl (by kernel_rfl) (number_c t _ ht) ?_
        repeat' (first | (with_reducible first | refine p_tn ?_ | refine wp_ret ?_ | refine l_nil ?_) | ((with_reducible refine g_on ?_); (first | ((with_reducible refine g_as ?_); refine l_p txs rfl rfl ?_) | ((with_reducible refine g_pk ?_); refine l_p txs rfl rfl ?_))) | ((with_reducible refine g_if ?_); ((with_reducible refine g_pk ?_); refine l_p txs rfl rfl ?_)))
        cases hn : numB (bl t)
        all_goals
          skip
          refine end1 rfl rfl ?_
          exact ⟨rfl, rfl⟩
    · have h1 : bl t = [] := Classical.not_not.1 h1
      repeat' (first | (with_reducible first | refine p_tn ?_ | refine wp_ret ?_ | refine l_nil ?_) | ((with_reducible refine g_on ?_); (first | ((with_reducible refine g_mv ?_); refine l_p txs rfl rfl ?_) | ((with_reducible refine g_as ?_); refine l_p txs rfl rfl ?_) | ((with_reducible refine g_pk ?_); refine l_p txs rfl rfl ?_))) | ((with_reducible refine g_if ?_); (refine l_off rfl ?_)))
      refine end1 rfl rfl ?_
      exact ⟨by rw [h1]; rfl, rfl⟩
theorem ends_c (t p : ByteArray) (w : World) (ht : t.size ≤ 100000000) (hp : p.size ≤ 100000000) : Calls Tryz.prog 116 #[.string t, .string p] w fun e w' => e = .returned (.bool (endCut (bl t) (bl p)).isSome) ∧ w' = w := by
  have hl := bl_length t
  have hlp := bl_length p
  refine enter (args := [.string t, .string p]) Tryz.func116 rfl Tryz.ntmps116 rfl ?_
  have H := Hp.nil w
  repeat' (first | (with_reducible first | refine p_tn ?_ | refine wp_seq ?_ | refine w_reg ?_ | refine l_nil ?_) | ((with_reducible refine g_on ?_); (first | ((with_reducible refine g_mv ?_); refine l_p txs rfl rfl ?_) | ((with_reducible refine g_as ?_); refine l_p txs rfl rfl ?_) | ((with_reducible refine g_cl ?_); refine l_p txs rfl rfl ?_))))
  (with_reducible refine is_l ?_); refine l_t txs rfl rfl (fun h1 => ?_) (fun h1 => ?_)
  · repeat' (first | ((with_reducible refine g_on ?_); ((with_reducible refine g_mv ?_); refine l_p txs rfl rfl ?_)) | ((with_reducible refine g_if ?_); (first | ((with_reducible refine g_mv ?_); refine l_p txs rfl rfl ?_) | ((with_reducible refine g_cl ?_); refine l_p txs rfl rfl ?_) | ((with_reducible refine g_sl ?_); refine l_sl txs rfl rfl (by first | omega | assumption | decide) (by first | omega | assumption | decide) (by first | omega | assumption | decide) ?_) | ((with_reducible refine g_bi ?_); (refine l_a txs rfl rfl (by first | exact in_i64 (by omega) (by omega) | exact in_u8 (by omega) (by omega) | exact in_u64 (by omega) (by omega) | exact in_i32 (by omega) (by omega)) ?_)))))
    have hx : bl (t.extract ((t.size : Int) - (p.size : Int)).toNat (t.size : Int).toNat) = (bl t).drop ((bl t).length - (bl p).length) := by
      rw [blE, List.take_of_length_le (by rw [List.length_drop]; omega)]
      congr 1
      omega
    (with_reducible refine is_l ?_); refine l_t txs rfl rfl (fun h2 => ?_) (fun h2 => ?_)
    · rw [hx] at h2
      have hn : (endCut (bl t) (bl p)).isSome = true := by unfold endCut; rw [if_pos ⟨by omega, h2⟩]; rfl
      repeat' (first | (with_reducible first | refine p_tn ?_ | refine wp_ret ?_ | refine l_nil ?_) | ((with_reducible refine g_on ?_); (first | ((with_reducible refine g_as ?_); refine l_p txs rfl rfl ?_) | ((with_reducible refine g_pk ?_); refine l_p txs rfl rfl ?_))))
      refine end1 rfl rfl ?_
      exact ⟨by rw [hn], rfl⟩
    · rw [hx] at h2
      have hn : (endCut (bl t) (bl p)).isSome = false := by unfold endCut; rw [if_neg (fun h => h2 h.2)]; rfl
      repeat' (first | (with_reducible first | refine p_tn ?_ | refine wp_ret ?_ | refine l_nil ?_) | ((with_reducible refine g_on ?_); (first | ((with_reducible refine g_as ?_); refine l_p txs rfl rfl ?_) | ((with_reducible refine g_pk ?_); refine l_p txs rfl rfl ?_))))
      refine end1 rfl rfl ?_
      exact ⟨by rw [hn], rfl⟩
  · have hn : (endCut (bl t) (bl p)).isSome = false := by unfold endCut; rw [if_neg (fun h => h1 (by omega))]; rfl
    repeat' (first | (with_reducible first | refine p_tn ?_ | refine wp_ret ?_ | refine l_nil ?_) | ((with_reducible refine g_on ?_); (first | ((with_reducible refine g_mv ?_); refine l_p txs rfl rfl ?_) | ((with_reducible refine g_as ?_); refine l_p txs rfl rfl ?_) | ((with_reducible refine g_pk ?_); refine l_p txs rfl rfl ?_))) | ((with_reducible refine g_if ?_); (refine l_off rfl ?_)))
    refine end1 rfl rfl ?_
    exact ⟨by rw [hn], rfl⟩
/-! The order -/
theorem drop_at {l : L} {i : Nat} {x : Int} (h : l[i]? = some x) : l.drop i = x :: l.drop (i + 1) := by
  obtain ⟨h1, h2⟩ := List.getElem?_eq_some_iff.1 h
  rw [List.drop_eq_getElem_cons h1, h2]
theorem cmpB_short (a b : L) (i : Nat) (h : a.drop i = [] ∨ b.drop i = []) : cmpB (a.drop i) (b.drop i) = if (a.drop i).length < (b.drop i).length then -1 else if (b.drop i).length < (a.drop i).length then 1 else 0 := by
  generalize a.drop i = x at h ⊢
  generalize b.drop i = y at h ⊢
  cases x <;> cases y <;> simp_all [cmpB]
set_option maxHeartbeats 8000000 in
theorem bytes_c (a b : ByteArray) (w : World) (ha : a.size ≤ 100000000) (hb : b.size ≤ 100000000) : Calls Tryz.prog 60 #[.string a, .string b] w fun e w' => e = .returned (.int .i64 (cmpB (bl a) (bl b))) ∧ Below w.heap.size w w' := by
  have hla := bl_length a
  have hlb := bl_length b
  refine enter (args := [.string a, .string b]) Tryz.func60 rfl Tryz.ntmps60 rfl ?_
  have H := Hp.nil w
  repeat' (first | (with_reducible first | refine p_tn ?_ | refine wp_seq ?_ | refine wp_block ?_ | refine w_reg ?_ | refine l_nil ?_) | ((with_reducible refine g_on ?_); ((with_reducible refine g_as ?_); refine l_p txs rfl rfl ?_)))
  refine w_loop (σ := Nat) (S := fun s => [(0, .string a), (1, .string b), (5, .int .i64 (s : Int))]) (J := fun s w' => Hp w w' [] [] ∧ s ≤ a.size ∧ s ≤ b.size ∧ cmpB (bl a) (bl b) = cmpB ((bl a).drop s) ((bl b).drop s)) (μ := fun s => a.size - s) 0 ⟨rfl, rfl, rfl, trivial⟩ ⟨H, by omega, by omega, rfl⟩ ?_
  clear H
  rintro i f w_ ⟨H, hi, hj, hV⟩
  repeat' (first | (with_reducible first | refine wp_seq ?_ | refine w_reg ?_) | ((with_reducible refine g_on ?_); (first | ((with_reducible refine g_mv ?_); refine l_p txs rfl rfl ?_) | ((with_reducible refine g_cl ?_); refine l_p txs rfl rfl ?_))))
  (with_reducible refine is_l ?_); refine l_t txs rfl rfl (fun h1 => ?_) (fun h1 => ?_)
  · repeat' (first | ((with_reducible refine g_on ?_); ((with_reducible refine g_mv ?_); refine l_p txs rfl rfl ?_)) | ((with_reducible refine g_if ?_); (first | ((with_reducible refine g_mv ?_); refine l_p txs rfl rfl ?_) | ((with_reducible refine g_cl ?_); refine l_p txs rfl rfl ?_))))
    (with_reducible refine is_l ?_); refine l_t txs rfl rfl (fun h2 => ?_) (fun h2 => ?_)
    · obtain ⟨x, hx⟩ : ∃ x, (bl a)[i]? = some x := ⟨_, List.getElem?_eq_getElem (by omega)⟩
      obtain ⟨y, hy⟩ : ∃ y, (bl b)[i]? = some y := ⟨_, List.getElem?_eq_getElem (by omega)⟩
      have hax := at_of hx
      have hay := at_of hy
      rw [drop_at hx, drop_at hy] at hV
      have hV : cmpB (bl a) (bl b) = if x < y then -1 else if y < x then 1 else cmpB ((bl a).drop (i + 1)) ((bl b).drop (i + 1)) := hV
      repeat' (first | (with_reducible first | refine p_tn ?_ | refine wp_seq ?_ | refine wp_block ?_) | (with_reducible (refine is_if ?_; (refine w_ift rfl ?_))) | (with_reducible first | refine wp_skip ?_ | refine l_nil ?_) | ((with_reducible refine g_on ?_); ((with_reducible refine g_pk ?_); refine l_p txs rfl rfl ?_)))
      refine w_draw (C := fun w' => Hp w w' [] []) (by kernel_rfl) (by kernel_rfl) H.drew ?_
      repeat' (first | (with_reducible refine q_nil ?_) | ((with_reducible refine is_q ?_); first | (refine q_off rfl ?_) | (refine q_p txs rfl rfl ?_) | (refine q_ix txs rfl rfl (by omega) (by omega) ?_)))
      rw [hax, hay]
      by_cases he : x = y
      · refine q_val rfl (fun w' K => evT_no (o := ⟨_, _, _, _, _, _⟩) txs rfl (by show ¬ x ≠ y; exact fun h => h he)) ?_
        repeat' (first | (with_reducible refine q_nil ?_) | ((with_reducible refine is_q ?_); first | (refine q_off rfl ?_) | (refine q_p txs rfl rfl ?_) | (refine q_ix txs rfl rfl (by omega) (by omega) ?_)))
        clear H
        intro w_ H
        repeat' (first | (with_reducible first | refine p_tn ?_ | refine p_bn ?_ | refine w_reg ?_) | (with_reducible (refine is_if ?_; (refine w_iff rfl ?_))) | (with_reducible first | refine wp_skip ?_ | refine l_nil ?_) | ((with_reducible refine g_on ?_); (first | ((with_reducible refine g_mv ?_); refine l_p txs rfl rfl ?_) | ((with_reducible refine g_as ?_); refine l_p txs rfl rfl ?_) | ((with_reducible refine g_bi ?_); (refine l_a txs rfl rfl (by first | exact in_i64 (by omega) (by omega) | exact in_u8 (by omega) (by omega) | exact in_u64 (by omega) (by omega) | exact in_i32 (by omega) (by omega)) ?_)))))
        exact ⟨i + 1, _, rfl, ⟨rfl, rfl, rfl, trivial⟩, ⟨H, by omega, by omega, by rw [hV, if_neg (by omega), if_neg (by omega)]⟩, by omega⟩
      · refine q_val rfl (fun w' K => evT_yes (o := ⟨_, _, _, _, _, _⟩) txs rfl (by show x ≠ y; exact he)) ?_
        repeat' (first | (with_reducible refine q_nil ?_) | ((with_reducible refine is_q ?_); first | (refine q_off rfl ?_) | (refine q_p txs rfl rfl ?_) | (refine q_ix txs rfl rfl (by omega) (by omega) ?_)))
        clear H
        intro w_ H
        repeat' (first | (with_reducible first | refine p_tn ?_ | refine wp_seq ?_) | (with_reducible (refine is_if ?_; (refine w_ift rfl ?_))))
        refine w_draw (C := fun w' => Hp w w' [] []) (by kernel_rfl) (by kernel_rfl) H.drew ?_
        repeat' (first | (with_reducible refine q_nil ?_) | ((with_reducible refine is_q ?_); first | (refine q_off rfl ?_) | (refine q_p txs rfl rfl ?_) | (refine q_ix txs rfl rfl (by omega) (by omega) ?_)))
        rw [hax, hay]
        by_cases hl : x < y
        · refine q_val rfl (fun w' K => evT_yes (o := ⟨_, _, _, _, _, _⟩) txs rfl (by show x < y; exact hl)) ?_
          repeat' (first | (with_reducible refine q_nil ?_) | ((with_reducible refine is_q ?_); first | (refine q_off rfl ?_) | (refine q_p txs rfl rfl ?_) | (refine q_ix txs rfl rfl (by omega) (by omega) ?_)))
          clear H
          intro w_ H
          repeat' (first | (with_reducible first | refine p_tn ?_ | refine p_tr ?_ | refine p_br ?_ | refine wp_seq ?_ | refine w_reg ?_) | (with_reducible (refine is_if ?_; (refine w_ift rfl ?_))) | (with_reducible first | refine wp_ret ?_ | refine l_nil ?_) | ((with_reducible refine g_on ?_); ((with_reducible refine g_as ?_); refine l_p txs rfl rfl ?_)))
          refine end1 rfl rfl ?_
          exact ⟨by rw [hV, if_pos hl], H.B⟩
        · refine q_val rfl (fun w' K => evT_no (o := ⟨_, _, _, _, _, _⟩) txs rfl (by show ¬ x < y; exact hl)) ?_
          repeat' (first | (with_reducible refine q_nil ?_) | ((with_reducible refine is_q ?_); first | (refine q_off rfl ?_) | (refine q_p txs rfl rfl ?_) | (refine q_ix txs rfl rfl (by omega) (by omega) ?_)))
          clear H
          intro w_ H
          repeat' (first | (with_reducible first | refine p_tn ?_ | refine p_tr ?_ | refine p_br ?_ | refine wp_seq ?_ | refine w_reg ?_) | (with_reducible (refine is_if ?_; (refine w_iff rfl ?_))) | (with_reducible first | refine wp_skip ?_ | refine wp_ret ?_ | refine l_nil ?_) | ((with_reducible refine g_on ?_); ((with_reducible refine g_as ?_); refine l_p txs rfl rfl ?_)))
          refine end1 rfl rfl ?_
          exact ⟨by rw [hV, if_neg hl, if_pos (by omega)], H.B⟩
    · have hend : (bl a).drop i = [] ∨ (bl b).drop i = [] := .inr (List.drop_eq_nil_of_le (by omega))
      have hsh := cmpB_short (bl a) (bl b) i hend
      simp only [List.length_drop] at hsh
      rw [hsh] at hV
      repeat' (first | (with_reducible first | refine p_tn ?_ | refine p_tx ?_ | refine x_hit ?_ | refine wp_seq ?_ | refine wp_block ?_ | refine w_reg ?_) | (with_reducible (refine is_if ?_; (refine w_iff rfl ?_))) | (with_reducible first | refine wp_exit ?_ | refine l_nil ?_) | ((with_reducible refine g_on ?_); (first | ((with_reducible refine g_mv ?_); refine l_p txs rfl rfl ?_) | ((with_reducible refine g_pk ?_); refine l_p txs rfl rfl ?_) | ((with_reducible refine g_cl ?_); refine l_p txs rfl rfl ?_))))
      (with_reducible refine is_l ?_); refine l_t txs rfl rfl (fun h3 => ?_) (fun h3 => ?_)
      · have hn : cmpB (bl a) (bl b) = -1 := by rw [hV, if_pos (by omega)]
        repeat' (first | (with_reducible first | refine p_tn ?_ | refine p_tr ?_ | refine p_br ?_ | refine wp_seq ?_ | refine w_reg ?_) | (with_reducible (refine is_if ?_; (refine w_ift rfl ?_))) | (with_reducible first | refine wp_ret ?_ | refine l_nil ?_) | ((with_reducible refine g_on ?_); ((with_reducible refine g_as ?_); refine l_p txs rfl rfl ?_)))
        refine end1 rfl rfl ?_
        exact ⟨by rw [hn], H.B⟩
      repeat' (first | (with_reducible first | refine p_tn ?_ | refine wp_seq ?_ | refine w_reg ?_) | (with_reducible (refine is_if ?_; (refine w_iff rfl ?_))) | (with_reducible refine l_nil ?_) | ((with_reducible refine g_on ?_); (first | ((with_reducible refine g_mv ?_); refine l_p txs rfl rfl ?_) | ((with_reducible refine g_as ?_); refine l_p txs rfl rfl ?_) | ((with_reducible refine g_cl ?_); refine l_p txs rfl rfl ?_))))
      (with_reducible refine is_l ?_); refine l_t txs rfl rfl (fun h4 => ?_) (fun h4 => ?_)
      · have hn : cmpB (bl a) (bl b) = 1 := by rw [hV, if_neg (by omega), if_pos (by omega)]
        repeat' (first | (with_reducible first | refine p_tn ?_ | refine p_tr ?_ | refine p_br ?_ | refine wp_seq ?_ | refine w_reg ?_) | (with_reducible (refine is_if ?_; (refine w_ift rfl ?_))) | (with_reducible first | refine wp_ret ?_ | refine l_nil ?_) | ((with_reducible refine g_on ?_); ((with_reducible refine g_as ?_); refine l_p txs rfl rfl ?_)))
        refine end1 rfl rfl ?_
        exact ⟨by rw [hn], H.B⟩
      have hn : cmpB (bl a) (bl b) = 0 := by rw [hV, if_neg (by omega), if_neg (by omega)]
      repeat' (first | (with_reducible first | refine p_tn ?_ | refine p_bn ?_ | refine wp_seq ?_ | refine w_reg ?_) | (with_reducible (refine is_if ?_; (refine w_iff rfl ?_))) | (with_reducible first | refine wp_skip ?_ | refine wp_ret ?_ | refine l_nil ?_) | ((with_reducible refine g_on ?_); ((with_reducible refine g_as ?_); refine l_p txs rfl rfl ?_)))
      refine end1 rfl rfl ?_
      exact ⟨by rw [hn], H.B⟩
  · have hend : (bl a).drop i = [] ∨ (bl b).drop i = [] := .inl (List.drop_eq_nil_of_le (by omega))
    have hsh := cmpB_short (bl a) (bl b) i hend
    simp only [List.length_drop] at hsh
    rw [hsh] at hV
    repeat' (first | (with_reducible first | refine p_tn ?_ | refine p_tx ?_ | refine x_hit ?_ | refine wp_seq ?_ | refine wp_block ?_ | refine w_reg ?_) | (with_reducible (refine is_if ?_; (refine w_iff rfl ?_))) | (with_reducible first | refine wp_exit ?_ | refine l_nil ?_) | ((with_reducible refine g_on ?_); (first | ((with_reducible refine g_mv ?_); refine l_p txs rfl rfl ?_) | ((with_reducible refine g_pk ?_); refine l_p txs rfl rfl ?_) | ((with_reducible refine g_cl ?_); refine l_p txs rfl rfl ?_))) | ((with_reducible refine g_if ?_); (refine l_off rfl ?_)))
    (with_reducible refine is_l ?_); refine l_t txs rfl rfl (fun h3 => ?_) (fun h3 => ?_)
    · have hn : cmpB (bl a) (bl b) = -1 := by rw [hV, if_pos (by omega)]
      repeat' (first | (with_reducible first | refine p_tn ?_ | refine p_tr ?_ | refine p_br ?_ | refine wp_seq ?_ | refine w_reg ?_) | (with_reducible (refine is_if ?_; (refine w_ift rfl ?_))) | (with_reducible first | refine wp_ret ?_ | refine l_nil ?_) | ((with_reducible refine g_on ?_); ((with_reducible refine g_as ?_); refine l_p txs rfl rfl ?_)))
      refine end1 rfl rfl ?_
      exact ⟨by rw [hn], H.B⟩
    repeat' (first | (with_reducible first | refine p_tn ?_ | refine wp_seq ?_ | refine w_reg ?_) | (with_reducible (refine is_if ?_; (refine w_iff rfl ?_))) | (with_reducible refine l_nil ?_) | ((with_reducible refine g_on ?_); (first | ((with_reducible refine g_mv ?_); refine l_p txs rfl rfl ?_) | ((with_reducible refine g_as ?_); refine l_p txs rfl rfl ?_) | ((with_reducible refine g_cl ?_); refine l_p txs rfl rfl ?_))))
    (with_reducible refine is_l ?_); refine l_t txs rfl rfl (fun h4 => ?_) (fun h4 => ?_)
    · have hn : cmpB (bl a) (bl b) = 1 := by rw [hV, if_neg (by omega), if_pos (by omega)]
      repeat' (first | (with_reducible first | refine p_tn ?_ | refine p_tr ?_ | refine p_br ?_ | refine wp_seq ?_ | refine w_reg ?_) | (with_reducible (refine is_if ?_; (refine w_ift rfl ?_))) | (with_reducible first | refine wp_ret ?_ | refine l_nil ?_) | ((with_reducible refine g_on ?_); ((with_reducible refine g_as ?_); refine l_p txs rfl rfl ?_)))
      refine end1 rfl rfl ?_
      exact ⟨by rw [hn], H.B⟩
    have hn : cmpB (bl a) (bl b) = 0 := by rw [hV, if_neg (by omega), if_neg (by omega)]
    repeat' (first | (with_reducible first | refine p_tn ?_ | refine p_bn ?_ | refine wp_seq ?_ | refine w_reg ?_) | (with_reducible (refine is_if ?_; (refine w_iff rfl ?_))) | (with_reducible first | refine wp_skip ?_ | refine wp_ret ?_ | refine l_nil ?_) | ((with_reducible refine g_on ?_); ((with_reducible refine g_as ?_); refine l_p txs rfl rfl ?_)))
    refine end1 rfl rfl ?_
    exact ⟨by rw [hn], H.B⟩
end Go.Proofs.YtnimaenhijlcmaaGreatDoor.K.Ref
