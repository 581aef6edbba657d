/- The reference's small calls: digits, words, pieces. -/
import Derived.Test.YtnimaenhijlcmaaGreatDoorVo
namespace Go.Proofs.YtnimaenhijlcmaaGreatDoor.K.Ref
open Go.RowKit Go.Proofs.YtnimaenhijlcmaaGreatDoor.Q Go.Proofs.YtnimaenhijlcmaaGreatDoor.K Go.Proofs.YtnimaenhijlcmaaGreatDoor.Mb Go.Proofs.YtnimaenhijlcmaaGreatDoorW.PrintWords
set_option linter.unusedVariables false
set_option linter.unusedSimpArgs false

set_option maxHeartbeats 2000000 in
theorem small_c (c : Int) (w : World) : Calls Tryz.prog 143 #[.int .u8 c] w fun e w' => e = .returned (.bool (smlB c)) ∧ w' = w := by
  refine enter (args := [.int .u8 c]) Tryz.func143 rfl Tryz.ntmps143 rfl ?_
  repeat' (first | (with_reducible first | refine p_tn ?_ | refine wp_seq ?_ | refine w_reg ?_ | refine wp_ret ?_ | refine l_nil ?_) | (with_reducible (refine is_l ?_; (first | (refine l_off rfl ?_) | (refine l_p tys rfl rfl ?_) | (refine l_t tys rfl rfl (fun _ => ?_) (fun _ => ?_))))))
  all_goals (refine end1 rfl rfl ?_; exact ⟨by simp [smlB, *], rfl⟩)
set_option maxHeartbeats 2000000 in
theorem capital_c (c : Int) (w : World) : Calls Tryz.prog 144 #[.int .u8 c] w fun e w' => e = .returned (.bool (capB c)) ∧ w' = w := by
  refine enter (args := [.int .u8 c]) Tryz.func144 rfl Tryz.ntmps144 rfl ?_
  repeat' (first | (with_reducible first | refine p_tn ?_ | refine wp_seq ?_ | refine w_reg ?_ | refine wp_ret ?_ | refine l_nil ?_) | (with_reducible (refine is_l ?_; (first | (refine l_off rfl ?_) | (refine l_p tys rfl rfl ?_) | (refine l_t tys rfl rfl (fun _ => ?_) (fun _ => ?_))))))
  all_goals (refine end1 rfl rfl ?_; exact ⟨by simp [capB, *], rfl⟩)
set_option maxHeartbeats 2000000 in
theorem digit_c (c : Int) (w : World) : Calls Tryz.prog 145 #[.int .u8 c] w fun e w' => e = .returned (.bool (digB c)) ∧ w' = w := by
  refine enter (args := [.int .u8 c]) Tryz.func145 rfl Tryz.ntmps145 rfl ?_
  repeat' (first | (with_reducible first | refine p_tn ?_ | refine wp_seq ?_ | refine w_reg ?_ | refine wp_ret ?_ | refine l_nil ?_) | (with_reducible (refine is_l ?_; (first | (refine l_off rfl ?_) | (refine l_p tys rfl rfl ?_) | (refine l_t tys rfl rfl (fun _ => ?_) (fun _ => ?_))))))
  all_goals (refine end1 rfl rfl ?_; exact ⟨by simp [digB, *], rfl⟩)
theorem strC_snoc (l : List L) (x : L) : strC (l ++ [x]) = strC l ++ [.string (strOfNums x)] := by simp [strC]
theorem bl_ext (s : ByteArray) (a b : Nat) : Value.string (s.extract a b) = .string (strOfNums (((bl s).drop a).take (b - a))) := by rw [← blE, strS]
/-- A list at a place between two others. -/
theorem split_at {l : L} {a i : Nat} {x : Int} (hai : a ≤ i) (hx : l[i]? = some x) : l.drop a = (l.drop a).take (i - a) ++ x :: l.drop (i + 1) := by
  have hi : i < l.length := (List.getElem?_eq_some_iff.1 hx).1
  have h1 := List.take_append_drop (i - a) (l.drop a)
  rw [List.drop_drop, show a + (i - a) = i by omega, List.drop_eq_getElem_cons hi] at h1
  rw [(List.getElem?_eq_some_iff.1 hx).2] at h1
  exact h1.symm
theorem take_at {l : L} {a i : Nat} {x : Int} (hai : a ≤ i) (hx : l[i]? = some x) : (l.drop a).take (i + 1 - a) = (l.drop a).take (i - a) ++ [x] := by
  have hi : i < l.length := (List.getElem?_eq_some_iff.1 hx).1
  rw [show i + 1 - a = (i - a) + 1 by omega, List.take_succ_eq_append_getElem (by rw [List.length_drop]; omega)]
  congr 2
  rw [List.getElem_drop]
  have := (List.getElem?_eq_some_iff.1 hx).2
  simp only [show a + (i - a) = i by omega]
  exact this
theorem at_of {l : L} {i : Nat} {x : Int} (hx : l[i]? = some x) : at_ l (i : Int) = x := by unfold at_; rw [Int.toNat_natCast, List.getD_eq_getElem?_getD, hx]; rfl
def digsB (s : L) : Bool := s.all digB && !s.isEmpty
set_option maxHeartbeats 4000000 in
theorem digits_c (t : ByteArray) (w : World) (ht : t.size ≤ 100000000) : Calls Tryz.prog 147 #[.string t] w fun e w' => e = .returned (.bool (digsB (bl t))) ∧ w' = w := by
  have hlen := bl_length t
  refine enter (args := [.string t]) Tryz.func147 rfl Tryz.ntmps147 rfl ?_
  have H := Hp.nil w
  repeat' (first | (with_reducible first | refine p_tn ?_ | refine wp_seq ?_ | refine wp_block ?_ | refine w_reg ?_ | refine l_nil ?_) | ((with_reducible refine g_on ?_); ((with_reducible refine g_as ?_); refine l_p txs rfl rfl ?_)))
  refine w_loop (σ := Nat) (S := fun s => [(0, .string t), (3, .int .i64 (s : Int))]) (J := fun s w' => w' = w ∧ s ≤ t.size ∧ ((bl t).take s).all digB = true) (μ := fun s => t.size - s) 0 ⟨rfl, rfl, trivial⟩ ⟨rfl, by omega, by simp⟩ ?_
  rintro i f w_ ⟨rfl, hi, ha⟩
  repeat' (first | (with_reducible first | refine wp_seq ?_ | refine w_reg ?_) | ((with_reducible refine g_on ?_); (first | ((with_reducible refine g_mv ?_); refine l_p txs rfl rfl ?_) | ((with_reducible refine g_cl ?_); refine l_p txs rfl rfl ?_))))
  (with_reducible refine is_l ?_); refine l_t txs rfl rfl (fun hlt => ?_) (fun hge => ?_)
  · obtain ⟨x, hx⟩ : ∃ x, (bl t)[i]? = some x := ⟨_, List.getElem?_eq_getElem (by omega)⟩
    have hat := at_of hx
    repeat' (first | (with_reducible first | refine p_tn ?_ | refine wp_seq ?_ | refine wp_block ?_ | refine w_reg ?_) | (with_reducible (refine is_if ?_; (refine w_ift rfl ?_))) | (with_reducible first | refine wp_skip ?_ | refine l_nil ?_) | ((with_reducible refine g_on ?_); (first | ((with_reducible refine g_mv ?_); refine l_p txs rfl rfl ?_) | ((with_reducible refine g_ix ?_); refine l_ix txs rfl rfl (by first | omega | assumption | decide) (by first | omega | assumption | decide) ?_))))
    rw [hat]
    skip
    (with_reducible refine is_l ?_); refine l_callp rfl rfl (by kernel_rfl) (digit_c x _) ?_
    cases hd : digB x
    · have hn : digsB (bl t) = false := by unfold digsB; rw [not_all hx hd]; rfl
      repeat' (first | (with_reducible first | refine p_tn ?_ | refine p_tr ?_ | refine p_br ?_ | refine wp_seq ?_ | refine w_reg ?_) | (with_reducible (refine is_if ?_; (refine w_ift rfl ?_))) | (with_reducible first | refine wp_ret ?_ | refine l_nil ?_) | ((with_reducible refine g_on ?_); (first | ((with_reducible refine g_as ?_); refine l_p txs rfl rfl ?_) | ((with_reducible refine g_un ?_); (refine l_p txs rfl rfl ?_)))))
      refine end1 rfl rfl ?_
      exact ⟨by rw [hn], rfl⟩
    · repeat' (first | (with_reducible first | refine p_tn ?_ | refine p_bn ?_ | refine w_reg ?_) | (with_reducible (refine is_if ?_; (refine w_iff rfl ?_))) | (with_reducible first | refine wp_skip ?_ | refine l_nil ?_) | ((with_reducible refine g_on ?_); (first | ((with_reducible refine g_mv ?_); refine l_p txs rfl rfl ?_) | ((with_reducible refine g_as ?_); refine l_p txs rfl rfl ?_) | ((with_reducible refine g_un ?_); (refine l_p txs rfl rfl ?_)) | ((with_reducible refine g_bi ?_); (refine l_a txs rfl rfl (by first | exact in_i64 (by omega) (by omega) | exact in_u8 (by omega) (by omega) | exact in_u64 (by omega) (by omega) | exact in_i32 (by omega) (by omega)) ?_)))))
      exact ⟨i + 1, _, rfl, ⟨rfl, rfl, trivial⟩, ⟨rfl, by omega, take_all hx hd ha⟩, by omega⟩
  · have hall : (bl t).all digB = true := by rw [← List.take_of_length_le (l := bl t) (i := i) (by omega)]; exact ha
    repeat' (first | (with_reducible first | refine p_tn ?_ | refine p_tx ?_ | refine x_hit ?_ | refine wp_seq ?_ | refine w_reg ?_) | (with_reducible (refine is_if ?_; (refine w_iff rfl ?_))) | (with_reducible first | refine wp_exit ?_ | refine l_nil ?_) | ((with_reducible refine g_on ?_); ((with_reducible refine g_mv ?_); refine l_p txs rfl rfl ?_)))
    (with_reducible refine is_l ?_); refine l_t txs rfl rfl (fun h1 => ?_) (fun h1 => ?_)
    · have h1 : bl t ≠ [] := h1
      repeat' (first | (with_reducible first | refine p_tn ?_ | refine wp_ret ?_ | refine l_nil ?_) | ((with_reducible refine g_on ?_); ((with_reducible refine g_as ?_); refine l_p txs rfl rfl ?_)))
      refine end1 rfl rfl ?_
      exact ⟨by unfold digsB; rw [hall]; simp [h1], rfl⟩
    · have h1 : bl t = [] := Classical.not_not.1 h1
      repeat' (first | (with_reducible first | refine p_tn ?_ | refine wp_ret ?_ | refine l_nil ?_) | ((with_reducible refine g_on ?_); ((with_reducible refine g_as ?_); refine l_p txs rfl rfl ?_)))
      refine end1 rfl rfl ?_
      exact ⟨by unfold digsB; rw [h1]; rfl, rfl⟩
theorem numB_digs (s : L) : numB s = (digsB s && (decide (s = [48]) || decide (s.head? ≠ some 48))) := rfl
theorem head_at {s : L} (h : s ≠ []) : s.head? = some (at_ s 0) := by
  unfold at_
  cases s with
  | nil => exact absurd rfl h
  | cons x r => rfl
set_option maxHeartbeats 4000000 in
theorem number_c (t : ByteArray) (w : World) (ht : t.size ≤ 100000000) : Calls Tryz.prog 115 #[.string t] w fun e w' => e = .returned (.bool (numB (bl t))) ∧ w' = w := by
  have hlen := bl_length t
  refine enter (args := [.string t]) Tryz.func115 rfl Tryz.ntmps115 rfl ?_
  have H := Hp.nil w
  rw [numB_digs]
  repeat' (first | (with_reducible first | refine p_tn ?_ | refine wp_seq ?_ | refine w_reg ?_ | refine l_nil ?_) | ((with_reducible refine g_on ?_); (first | ((with_reducible refine g_mv ?_); refine l_p txs rfl rfl ?_) | ((with_reducible refine g_as ?_); refine l_p txs rfl rfl ?_))))
  (with_reducible refine is_l ?_); refine l_callp rfl rfl (by kernel_rfl) (digits_c t _ ht) ?_
  cases hd : digsB (bl t)
  · repeat' (first | (with_reducible first | refine p_tn ?_ | refine wp_ret ?_ | refine l_nil ?_) | ((with_reducible refine g_on ?_); (first | ((with_reducible refine g_mv ?_); refine l_p txs rfl rfl ?_) | ((with_reducible refine g_as ?_); refine l_p txs rfl rfl ?_) | ((with_reducible refine g_pk ?_); refine l_p txs rfl rfl ?_))) | ((with_reducible refine g_if ?_); (refine l_off rfl ?_)))
    refine end1 rfl rfl ?_
    exact ⟨rfl, rfl⟩
  · have hne : bl t ≠ [] := fun e => by rw [e] at hd; cases hd
    have hpos : 0 < t.size := by rw [← hlen]; exact List.length_pos_iff.2 hne
    have hh := head_at hne
    repeat' (first | ((with_reducible refine g_on ?_); ((with_reducible refine g_mv ?_); refine l_p txs rfl rfl ?_)) | ((with_reducible refine g_if ?_); ((with_reducible refine g_mv ?_); refine l_p txs rfl rfl ?_)))
    (with_reducible refine is_l ?_); refine l_t txs rfl rfl (fun h2 => ?_) (fun h2 => ?_)
    · have h2 : bl t = [48] := h2
      repeat' (first | (with_reducible first | refine p_tn ?_ | refine wp_ret ?_ | refine l_nil ?_) | ((with_reducible refine g_on ?_); (first | ((with_reducible refine g_as ?_); refine l_p txs rfl rfl ?_) | ((with_reducible refine g_pk ?_); refine l_p txs rfl rfl ?_))) | ((with_reducible refine g_if ?_); (first | (refine l_off rfl ?_) | ((with_reducible refine g_mv ?_); refine l_p txs rfl rfl ?_) | ((with_reducible refine g_pk ?_); refine l_p txs rfl rfl ?_))))
      refine end1 rfl rfl ?_
      exact ⟨by simp [h2], rfl⟩
    · have h2 : ¬ bl t = [48] := h2
      repeat' ((with_reducible refine g_if ?_); (first | ((with_reducible refine g_mv ?_); refine l_p txs rfl rfl ?_) | ((with_reducible refine g_ix ?_); refine l_ix txs rfl rfl (by first | omega | assumption | decide) (by first | omega | assumption | decide) ?_)))
      (with_reducible refine is_l ?_); refine l_t txs rfl rfl (fun h3 => ?_) (fun h3 => ?_)
      · repeat' (first | (with_reducible first | refine p_tn ?_ | refine wp_ret ?_ | refine l_nil ?_) | ((with_reducible refine g_on ?_); (first | ((with_reducible refine g_as ?_); refine l_p txs rfl rfl ?_) | ((with_reducible refine g_pk ?_); refine l_p txs rfl rfl ?_))) | ((with_reducible refine g_if ?_); ((with_reducible refine g_pk ?_); refine l_p txs rfl rfl ?_)))
        refine end1 rfl rfl ?_
        exact ⟨by rw [hh]; simp [h3], rfl⟩
      · have h3 : at_ (bl t) 0 = 48 := Classical.not_not.1 h3
        repeat' (first | (with_reducible first | refine p_tn ?_ | refine wp_ret ?_ | refine l_nil ?_) | ((with_reducible refine g_on ?_); (first | ((with_reducible refine g_as ?_); refine l_p txs rfl rfl ?_) | ((with_reducible refine g_pk ?_); refine l_p txs rfl rfl ?_))) | ((with_reducible refine g_if ?_); ((with_reducible refine g_pk ?_); refine l_p txs rfl rfl ?_)))
        refine end1 rfl rfl ?_
        exact ⟨by rw [hh, h3]; simp [h2], rfl⟩
set_option maxHeartbeats 4000000 in
theorem pieces_c (s : ByteArray) (c : Int) (w : World) (hs : s.size ≤ 100000000) : Calls Tryz.prog 47 #[.string s, .int .u8 c] w fun e w' => ∃ A1 c1, e = .returned (.slice A1 (splitC c (bl s)).length c1) ∧ Hp w w' [] [rowT (.slice A1 (splitC c (bl s)).length c1) (splitC c (bl s))] := by
  refine enter (args := [.string s, .int .u8 c]) Tryz.func47 rfl Tryz.ntmps47 rfl ?_
  have hbl := bl_length s
  have H := (Hp.nil w).nilRow 9 1
  repeat' (first | (with_reducible first | refine p_tn ?_ | refine wp_seq ?_ | refine wp_block ?_ | refine w_reg ?_ | refine l_nil ?_) | ((with_reducible refine g_on ?_); ((with_reducible refine g_as ?_); refine l_p txs rfl rfl ?_)))
  refine w_loop (σ := (Nat × Nat) × List L × Option Addr × Nat) (S := fun t => [(0, .string s), (1, .int .u8 c), (5, .slice t.2.2.1 t.2.1.length t.2.2.2), (6, .int .i64 (t.1.1 : Int)), (7, .int .i64 (t.1.2 : Int))])
    (J := fun t w' => Hp w w' [] [rowT (.slice t.2.2.1 t.2.1.length t.2.2.2) t.2.1] ∧ t.1.1 ≤ t.1.2 ∧ t.1.2 ≤ s.size ∧ t.2.1.length ≤ t.1.1 ∧ c ∉ ((bl s).drop t.1.1).take (t.1.2 - t.1.1) ∧ splitC c (bl s) = t.2.1 ++ splitC c ((bl s).drop t.1.1)) (μ := fun t => s.size - t.1.2) ((0, 0), [], none, 0) ⟨rfl, rfl, rfl, rfl, rfl, trivial⟩ ⟨H, Nat.le_refl _, Nat.zero_le _, Nat.le_refl _, by simp, rfl⟩ ?_
  rintro ⟨⟨a, i⟩, acc, A2, c2⟩ f w_ ⟨H, hai, hi, hac, hno, hD⟩
  simp only at H hai hi hac hno hD ⊢
  repeat' (first | (with_reducible first | refine wp_seq ?_ | refine w_reg ?_) | ((with_reducible refine g_on ?_); (first | ((with_reducible refine g_mv ?_); refine l_p txs rfl rfl ?_) | ((with_reducible refine g_cl ?_); refine l_p txs rfl rfl ?_))))
  (with_reducible refine is_l ?_); refine l_t txs rfl rfl (fun hlt => ?_) (fun hge => ?_)
  · obtain ⟨x, hx⟩ : ∃ x, (bl s)[i]? = some x := ⟨_, List.getElem?_eq_getElem (by omega)⟩
    have hat := at_of hx
    have hsp := split_at hai hx
    have hta := take_at hai hx
    repeat' (first | (with_reducible first | refine p_tn ?_ | refine wp_seq ?_ | refine wp_block ?_ | refine w_reg ?_) | (with_reducible (refine is_if ?_; (refine w_ift rfl ?_))) | (with_reducible first | refine wp_skip ?_ | refine l_nil ?_) | ((with_reducible refine g_on ?_); (first | ((with_reducible refine g_mv ?_); refine l_p txs rfl rfl ?_) | ((with_reducible refine g_ix ?_); refine l_ix txs rfl rfl (by first | omega | assumption | decide) (by first | omega | assumption | decide) ?_))))
    rw [hat]
    skip
    (with_reducible refine is_l ?_); refine l_t txs rfl rfl (fun he => ?_) (fun he => ?_)
    · subst he
      rw [hsp, splitC_cut _ hno] at hD
      repeat' (first | (with_reducible first | refine p_tn ?_ | refine wp_seq ?_ | refine w_reg ?_) | (with_reducible (refine is_if ?_; (refine w_ift rfl ?_))) | (with_reducible refine l_nil ?_) | ((with_reducible refine g_on ?_); (first | ((with_reducible refine g_mv ?_); refine l_p txs rfl rfl ?_) | ((with_reducible refine g_sl ?_); refine l_sl txs rfl rfl (by first | omega | assumption | decide) (by first | omega | assumption | decide) (by first | omega | assumption | decide) ?_))))
      (with_reducible refine is_l ?_); refine h_bs H info_str3 Tryz.underlying25 (by decide) (by decide) rfl rfl (fill_s _) (fun g_ w_ H => ?_)
      (with_reducible refine is_l ?_); refine h_app H 0 rfl info_str3 Tryz.underlying25 rfl rfl rfl rfl (H.cellRd 0 rfl) rfl rfl (by show (acc.length + 1) * 16 ≤ _; omega) (fun v w_ hv H => ?_)
      obtain ⟨A', c', rfl⟩ := hv
      repeat' (first | (with_reducible first | refine p_tn ?_ | refine p_bn ?_ | refine w_reg ?_ | refine l_nil ?_) | ((with_reducible refine g_on ?_); (first | ((with_reducible refine g_mv ?_); refine l_p txs rfl rfl ?_) | ((with_reducible refine g_as ?_); refine l_p txs rfl rfl ?_) | ((with_reducible refine g_bi ?_); (refine l_a txs rfl rfl (by first | exact in_i64 (by omega) (by omega) | exact in_u8 (by omega) (by omega) | exact in_u64 (by omega) (by omega) | exact in_i32 (by omega) (by omega)) ?_)))))
      have H := H.pick [] [0] (by decide) (by decide) rfl rfl
      refine ⟨((i + 1, i + 1), acc ++ [((bl s).drop a).take (i - a)], A', c'), _, rfl, ⟨rfl, rfl, ?_, rfl, rfl, trivial⟩, ⟨?_, Nat.le_refl _, by show i + 1 ≤ _; omega, ?_, ?_, ?_⟩, by show _ - (i + 1) < _ - i; omega⟩
      · show Value.slice A' (acc.length + 1) c' = Value.slice A' (acc ++ [((bl s).drop a).take (i - a)]).length c'
        simp
      · show Hp w _ [] [rowT (.slice A' (acc ++ [((bl s).drop a).take (i - a)]).length c') (acc ++ [((bl s).drop a).take (i - a)])]
        have e1 : (acc ++ [((bl s).drop a).take (i - a)]).length = acc.length + 1 := by simp
        unfold rowT
        rw [e1, strC_snoc, ← bl_ext]
        exact H
      · show (acc ++ [((bl s).drop a).take (i - a)]).length ≤ i + 1
        simp
        omega
      · show _ ∉ ((bl s).drop (i + 1)).take (i + 1 - (i + 1))
        simp
      · show _ = (acc ++ [((bl s).drop a).take (i - a)]) ++ splitC _ ((bl s).drop (i + 1))
        rw [hD, List.append_assoc]
        rfl
    · repeat' (first | (with_reducible first | refine p_tn ?_ | refine p_bn ?_ | refine w_reg ?_) | (with_reducible (refine is_if ?_; (refine w_iff rfl ?_))) | (with_reducible first | refine wp_skip ?_ | refine l_nil ?_) | ((with_reducible refine g_on ?_); (first | ((with_reducible refine g_mv ?_); refine l_p txs rfl rfl ?_) | ((with_reducible refine g_as ?_); refine l_p txs rfl rfl ?_) | ((with_reducible refine g_bi ?_); (refine l_a txs rfl rfl (by first | exact in_i64 (by omega) (by omega) | exact in_u8 (by omega) (by omega) | exact in_u64 (by omega) (by omega) | exact in_i32 (by omega) (by omega)) ?_)))))
      refine ⟨((a, i + 1), acc, A2, c2), _, rfl, ⟨rfl, rfl, rfl, rfl, rfl, trivial⟩, ⟨H, by show a ≤ i + 1; omega, by show i + 1 ≤ _; omega, hac, ?_, hD⟩, by show _ - (i + 1) < _ - i; omega⟩
      show c ∉ ((bl s).drop a).take (i + 1 - a)
      rw [hta, List.mem_append, not_or]
      exact ⟨hno, by simp; exact fun e => he e.symm⟩
  · have his : i = s.size := by omega
    have hall : ((bl s).drop a).take (i - a) = (bl s).drop a := List.take_of_length_le (by rw [List.length_drop]; omega)
    rw [hall] at hno
    rw [splitC_none hno] at hD
    repeat' (first | (with_reducible first | refine p_tn ?_ | refine p_tx ?_ | refine x_hit ?_ | refine wp_seq ?_ | refine w_reg ?_) | (with_reducible (refine is_if ?_; (refine w_iff rfl ?_))) | (with_reducible first | refine wp_exit ?_ | refine l_nil ?_) | ((with_reducible refine g_on ?_); (first | ((with_reducible refine g_mv ?_); refine l_p txs rfl rfl ?_) | ((with_reducible refine g_sl ?_); refine l_sl txs rfl rfl (by first | omega | assumption | decide) (by first | omega | assumption | decide) (by first | omega | assumption | decide) ?_))))
    (with_reducible refine is_l ?_); refine h_bs H info_str3 Tryz.underlying25 (by decide) (by decide) rfl rfl (fill_s _) (fun g_ w_ H => ?_)
    (with_reducible refine is_l ?_); refine h_app H 0 rfl info_str3 Tryz.underlying25 rfl rfl rfl rfl (H.cellRd 0 rfl) rfl rfl (by show (acc.length + 1) * 16 ≤ _; omega) (fun v w_ hv H => ?_)
    obtain ⟨A', c', rfl⟩ := hv
    repeat' (first | (with_reducible first | refine p_tn ?_ | refine wp_ret ?_ | refine l_nil ?_) | ((with_reducible refine g_on ?_); ((with_reducible refine g_as ?_); refine l_p txs rfl rfl ?_)))
    refine end1 rfl rfl ?_
    have H := H.pick [] [0] (by decide) (by decide) rfl rfl
    have e1 : (acc ++ [(bl s).drop a]).length = acc.length + 1 := by simp
    rw [hD]
    unfold rowT
    rw [e1, strC_snoc]
    refine ⟨A', c', rfl, ?_⟩
    have e2 : Value.string (s.extract a s.size) = .string (strOfNums ((bl s).drop a)) := by rw [bl_ext, List.take_of_length_le (by rw [List.length_drop]; omega)]
    rw [← e2]
    exact H
theorem head_ahead (c : Int) (s : L) : (splitC c s).headD [] = aheadC c s := by
  unfold aheadC
  cases h : cutC c s with
  | none => rw [splitC_none (cutC_none h)]; rfl
  | some p =>
    obtain ⟨a, b⟩ := p
    obtain ⟨rfl, hn⟩ := cutC_some h
    rw [splitC_cut _ hn]
    rfl
set_option maxHeartbeats 4000000 in
theorem ahead_c (t : ByteArray) (c : Int) (w : World) (ht : t.size ≤ 100000000) : Calls Tryz.prog 117 #[.string t, .int .u8 c] w fun e w' => e = .returned (.string (strOfNums (aheadC c (bl t)))) ∧ Below w.heap.size w w' := by
  refine enter (args := [.string t, .int .u8 c]) Tryz.func117 rfl Tryz.ntmps117 rfl ?_
  have H := Hp.nil w
  have hne := splitC_ne (c := c) (bl t)
  rw [← head_ahead]
  repeat' (first | (with_reducible first | refine p_tn ?_ | refine wp_seq ?_ | refine w_reg ?_ | refine l_nil ?_) | ((with_reducible refine g_on ?_); (first | ((with_reducible refine g_mv ?_); refine l_p txs rfl rfl ?_) | ((with_reducible refine g_as ?_); refine l_p txs rfl rfl ?_))))
  (with_reducible refine is_l ?_); refine l_call rfl rfl (by kernel_rfl) (pieces_c t c w ht) (fun e w_ hR => ?_)
  generalize splitC c (bl t) = N at hR hne ⊢
  obtain ⟨A1, c1, rfl, K⟩ := hR
  refine ⟨_, rfl, ?_⟩
  obtain ⟨x, r, rfl⟩ : ∃ x r, N = x :: r := by
    cases N with
    | nil => exact absurd rfl hne
    | cons x r => exact ⟨x, r, rfl⟩
  have hlx : (x :: r).length = r.length + 1 := rfl
  obtain ⟨A3, c3, e3, _, hRd, hAn⟩ := K.rd 0 rfl
  cases e3
  obtain ⟨ad, rfl⟩ : ∃ ad, A1 = some ad := by
    cases A1 with
    | some ad => exact ⟨ad, rfl⟩
    | none => exact absurd (hAn rfl).2 (by show (x :: r).length ≠ 0; omega)
  repeat' (first | (with_reducible first | refine p_tn ?_ | refine wp_seq ?_ | refine w_reg ?_ | refine l_nil ?_) | ((with_reducible refine g_on ?_); (first | ((with_reducible refine g_mv ?_); refine l_p txs rfl rfl ?_) | ((with_reducible refine g_as ?_); refine l_p txs rfl rfl ?_) | ((with_reducible refine g_ia ?_); refine l_ia txs rfl rfl (by first | omega | assumption | decide) (by first | omega | assumption | decide) ?_))))
  (with_reducible refine is_l ?_); refine l_ld txs rfl rfl (hRd.2 ad rfl 0 (.string (strOfNums x)) rfl) ?_
  repeat' (first | (with_reducible first | refine p_tn ?_ | refine wp_ret ?_ | refine l_nil ?_) | ((with_reducible refine g_on ?_); ((with_reducible refine g_as ?_); refine l_p txs rfl rfl ?_)))
  refine end1 rfl rfl ?_
  exact ⟨rfl, K.B⟩
end Go.Proofs.YtnimaenhijlcmaaGreatDoor.K.Ref
