/- The reference's Major and Fits. -/
import Derived.Test.YtnimaenhijlcmaaGreatDoorFa
namespace Go.Proofs.YtnimaenhijlcmaaGreatDoor.K.Ref
open Go.RowKit Go.Proofs.YtnimaenhijlcmaaGreatDoor.Q Go.Proofs.YtnimaenhijlcmaaGreatDoor.K Go.Proofs.YtnimaenhijlcmaaGreatDoor.Mb Go.Proofs.YtnimaenhijlcmaaGreatDoorW.PrintWords
set_option linter.unusedVariables false
set_option linter.unusedSimpArgs false

theorem ext_tail {y : L} (hb : Bytes y) (h : 1 ≤ y.length) : (strOfNums y).extract (1 : Int).toNat ((strOfNums y).size : Int).toNat = strOfNums y.tail := by
  refine bl_inj ?_
  have hz := sizeS' hb
  rw [blE, blS hb, blS (fun z hz => hb z (List.mem_of_mem_tail hz)), Int.toNat_natCast, hz]
  show (y.drop 1).take (y.length - 1) = y.tail
  rw [List.take_of_length_le (by rw [List.length_drop]; omega), List.drop_one]
set_option maxRecDepth 100000 in
set_option maxHeartbeats 8000000 in
theorem hosted_c (t : ByteArray) (w : World) (ht : t.size ≤ 1000000) : Calls Tryz.prog 113 #[.string t] w fun e w' => e = .returned (.string (strOfNums (hostedS (bl t)))) ∧ Below w.heap.size w w' := by
  have hlen := bl_length t
  have hbt := bl_bytes t
  refine enter (args := [.string t]) Tryz.func113 rfl Tryz.ntmps113 rfl ?_
  have H := Hp.nil w
  have z9 : (⟨#[45, 117, 110, 115, 116, 97, 98, 108, 101]⟩ : ByteArray).size = 9 := rfl
  have hen := fun w1 => ends_c t ⟨#[45, 117, 110, 115, 116, 97, 98, 108, 101]⟩ w1 (by omega) (by omega)
  rw [show bl (⟨#[45, 117, 110, 115, 116, 97, 98, 108, 101]⟩ : ByteArray) = unstable from rfl] at hen
  have hV : hostedS (bl t) = if (splitC 46 ((endCut (bl t) unstable).getD (bl t))).length < 2 ∨ ((splitC 46 ((endCut (bl t) unstable).getD (bl t))).getLastD []).length < 2 ∨ ((splitC 46 ((endCut (bl t) unstable).getD (bl t))).getLastD []).head? ≠ some 118 ∨ numB ((splitC 46 ((endCut (bl t) unstable).getD (bl t))).getLastD []).tail = false then [] else ((splitC 46 ((endCut (bl t) unstable).getD (bl t))).getLastD []).tail := rfl
  obtain ⟨hs1, hs2⟩ := endCut_sub (r := bl t) (e := unstable)
  obtain ⟨s, hs⟩ : ∃ b, b = (endCut (bl t) unstable).getD (bl t) := ⟨_, rfl⟩
  rw [← hs] at hs1 hs2 hV
  have bs : Bytes s := fun y hy => hbt y (hs1 y hy)
  have zs := sizeS' bs
  repeat' (first | (first | (with_reducible refine p_tn ?_) | (with_reducible refine p_tx ?_) | (with_reducible refine p_tr ?_) | (with_reducible refine p_bn ?_) | (with_reducible refine p_br ?_) | (with_reducible refine x_hit ?_) | (with_reducible refine x_miss rfl ?_) | (with_reducible refine wp_seq ?_) | (with_reducible refine wp_block ?_) | (with_reducible refine w_reg ?_) | (with_reducible (refine is_if ?_; first | refine w_ift rfl ?_ | refine w_iff rfl ?_)) | ((with_reducible refine is_if ?_); first | refine w_ift rfl ?_ | refine w_iff rfl ?_) | (with_reducible refine wp_skip ?_) | (with_reducible refine wp_exit ?_) | (with_reducible refine wp_ret ?_)) | (with_reducible refine p_sn ?_) | (with_reducible refine p_sr ?_) | (with_reducible refine p_sx ?_) | (with_reducible refine wp_scope_straight ?_) | (with_reducible refine wp_label ?_))
  repeat' (first | (with_reducible refine l_nil ?_) | ((with_reducible refine g_on ?_); ((with_reducible refine g_as ?_); refine l_p txs rfl rfl ?_)))
  with_reducible refine p_tn ?_
  refine w_cut (σ := Unit) (S := fun _ => [(0, .string (strOfNums s))]) (J := fun _ w' => Hp w w' [] []) ?_ ?_
  · repeat' (first | (with_reducible first | refine wp_seq ?_ | refine w_reg ?_) | ((with_reducible refine g_on ?_); ((with_reducible refine g_mv ?_); refine l_p txs rfl rfl ?_)))
    (with_reducible refine is_l ?_); refine l_callp rfl rfl (by kernel_rfl) (hen _) ?_
    cases he : endCut (bl t) unstable with
    | none =>
      rw [he] at hs
      have hs : s = bl t := hs
      rw [show (none : Option L).isSome = false from rfl]
      repeat' (first | (with_reducible refine p_tn ?_) | (with_reducible (refine is_if ?_; (refine w_iff rfl ?_))) | (with_reducible first | refine wp_skip ?_ | refine l_nil ?_))
      exact ⟨(), _, rfl, ⟨by show Value.string t = _; rw [hs, strS], trivial⟩, H⟩
    | some b =>
      rw [he] at hs
      have hs : s = b := hs
      subst hs
      have hrb := endCut_some he
      have hrl2 : t.size = s.length + 9 := by rw [← hlen, hrb, List.length_append]; rfl
      rw [show (some s).isSome = true from rfl]
      repeat' (first | (with_reducible first | refine p_tn ?_ | refine w_reg ?_) | (with_reducible (refine is_if ?_; (refine w_ift rfl ?_))) | (with_reducible refine l_nil ?_) | ((with_reducible refine g_on ?_); (first | ((with_reducible refine g_mv ?_); refine l_p txs rfl rfl ?_) | ((with_reducible refine g_as ?_); refine l_p txs rfl rfl ?_) | ((with_reducible refine g_cl ?_); refine l_p txs rfl rfl ?_) | ((with_reducible refine g_sl ?_); refine l_sl txs rfl rfl (by first | omega | assumption | decide) (by first | omega | assumption | decide) (by first | omega | assumption | decide) ?_) | ((with_reducible refine g_bi ?_); (refine l_a txs rfl rfl (by first | exact in_i64 (by omega) (by omega) | exact in_u8 (by omega) (by omega) | exact in_u64 (by omega) (by omega) | exact in_i32 (by omega) (by omega)) ?_)))))
      refine ⟨(), _, rfl, ⟨?_, trivial⟩, H⟩
      show Value.string (t.extract (0 : Int).toNat ((t.size : Int) - 9).toNat) = .string (strOfNums s)
      congr 1
      refine bl_inj ?_
      rw [blE, blS bs, hrb]
      show (List.drop 0 (s ++ unstable)).take (((t.size : Int) - 9).toNat - 0) = s
      rw [List.drop_zero, show ((t.size : Int) - 9).toNat - 0 = s.length by omega, List.take_left]
  clear H
  rintro ⟨⟩ f w_ H
  have hpi := fun w1 => pieces_c (strOfNums s) 46 w1 (by omega)
  rw [blS bs] at hpi
  have hsm := split_mem 46 s
  have hsl := split_len 46 s
  have hne := splitC_ne (c := 46) s
  repeat' (first | (with_reducible first | refine wp_seq ?_ | refine w_reg ?_) | ((with_reducible refine g_on ?_); ((with_reducible refine g_mv ?_); refine l_p txs rfl rfl ?_)))
  (with_reducible refine is_l ?_); refine l_call rfl rfl (by kernel_rfl) (hpi _) (fun e w_ hR => ?_)
  generalize splitC 46 s = N at hR hV hsm hsl hne
  obtain ⟨A1, c1, rfl, K⟩ := hR
  refine ⟨_, rfl, ?_⟩
  obtain ⟨ad, rfl⟩ := row_some K 0 rfl hne
  have H := H.join K
  have hcell := rdT_cell (rowT_at K 0 rfl) (last_get hne)
  have hNp := List.length_pos_iff.2 hne
  have by' : Bytes (N.getLastD []) := fun z hz => bs z ((hsm _ (last_mem hne)).1 z hz)
  have hyl := (hsm _ (last_mem hne)).2
  generalize N.getLastD [] = y at hV hcell by' hyl
  have zy := sizeS' by'
  repeat' (first | (with_reducible first | refine p_tn ?_ | refine wp_seq ?_ | refine w_reg ?_ | refine l_nil ?_) | ((with_reducible refine g_on ?_); (first | ((with_reducible refine g_mv ?_); refine l_p txs rfl rfl ?_) | ((with_reducible refine g_as ?_); refine l_p txs rfl rfl ?_) | ((with_reducible refine g_cl ?_); refine l_p txs rfl rfl ?_) | ((with_reducible refine g_ia ?_); refine l_ia txs rfl rfl (by first | omega | assumption | decide) (by first | omega | assumption | decide) ?_) | ((with_reducible refine g_bi ?_); (refine l_a txs rfl rfl (by first | exact in_i64 (by omega) (by omega) | exact in_u8 (by omega) (by omega) | exact in_u64 (by omega) (by omega) | exact in_i32 (by omega) (by omega)) ?_)))))
  (with_reducible refine is_l ?_); refine l_ld txs rfl rfl (by rw [show ((N.length : Int) - 1).toNat = N.length - 1 by omega]; exact hcell) ?_
  repeat' (first | (with_reducible first | refine p_tn ?_ | refine wp_seq ?_ | refine w_reg ?_ | refine l_nil ?_) | ((with_reducible refine g_on ?_); (first | ((with_reducible refine g_mv ?_); refine l_p txs rfl rfl ?_) | ((with_reducible refine g_as ?_); refine l_p txs rfl rfl ?_) | ((with_reducible refine g_cl ?_); refine l_p txs rfl rfl ?_))))
  (with_reducible refine is_l ?_); refine l_t txs rfl rfl (fun q1 => ?_) (fun q1 => ?_)
  · have hn : hostedS (bl t) = [] := by rw [hV, if_pos (.inl (by omega))]
    repeat' (first | (with_reducible first | refine p_tn ?_ | refine p_tr ?_ | refine wp_seq ?_ | refine w_reg ?_) | (with_reducible (refine is_if ?_; (refine w_ift rfl ?_))) | (with_reducible first | refine wp_ret ?_ | refine l_nil ?_) | ((with_reducible refine g_on ?_); (first | ((with_reducible refine g_mv ?_); refine l_p txs rfl rfl ?_) | ((with_reducible refine g_as ?_); refine l_p txs rfl rfl ?_) | ((with_reducible refine g_pk ?_); refine l_p txs rfl rfl ?_))) | ((with_reducible refine g_if ?_); (refine l_off rfl ?_)))
    refine end1 rfl rfl ?_
    exact ⟨by rw [hn]; rfl, H.B⟩
  repeat' (first | ((with_reducible refine g_on ?_); ((with_reducible refine g_mv ?_); refine l_p txs rfl rfl ?_)) | ((with_reducible refine g_if ?_); (first | ((with_reducible refine g_mv ?_); refine l_p txs rfl rfl ?_) | ((with_reducible refine g_cl ?_); refine l_p txs rfl rfl ?_))))
  (with_reducible refine is_l ?_); refine l_t txs rfl rfl (fun q2 => ?_) (fun q2 => ?_)
  · have hn : hostedS (bl t) = [] := by rw [hV, if_pos (.inr (.inl (by omega)))]
    repeat' (first | (with_reducible first | refine p_tn ?_ | refine p_tr ?_ | refine wp_seq ?_ | refine w_reg ?_) | (with_reducible (refine is_if ?_; (refine w_ift rfl ?_))) | (with_reducible first | refine wp_ret ?_ | refine l_nil ?_) | ((with_reducible refine g_on ?_); (first | ((with_reducible refine g_mv ?_); refine l_p txs rfl rfl ?_) | ((with_reducible refine g_as ?_); refine l_p txs rfl rfl ?_) | ((with_reducible refine g_pk ?_); refine l_p txs rfl rfl ?_))) | ((with_reducible refine g_if ?_); (refine l_off rfl ?_)))
    refine end1 rfl rfl ?_
    exact ⟨by rw [hn]; rfl, H.B⟩
  have hy0 : y ≠ [] := fun e => by
    have h0 : y.length = 0 := by rw [e]; rfl
    omega
  have hhd := head_at hy0
  repeat' (first | ((with_reducible refine g_on ?_); (first | ((with_reducible refine g_mv ?_); refine l_p txs rfl rfl ?_) | ((with_reducible refine g_pk ?_); refine l_p txs rfl rfl ?_))) | ((with_reducible refine g_if ?_); (first | ((with_reducible refine g_mv ?_); refine l_p txs rfl rfl ?_) | ((with_reducible refine g_ix ?_); refine l_ix txs rfl rfl (by first | omega | assumption | decide) (by first | omega | assumption | decide) ?_))))
  rw [blS by']
  skip
  (with_reducible refine is_l ?_); refine l_t txs rfl rfl (fun q3 => ?_) (fun q3 => ?_)
  · have hn : hostedS (bl t) = [] := by rw [hV, if_pos (.inr (.inr (.inl (by rw [hhd]; exact fun e => q3 (Option.some.inj e)))))]
    repeat' (first | (with_reducible first | refine p_tn ?_ | refine p_tr ?_ | refine wp_seq ?_ | refine w_reg ?_) | (with_reducible (refine is_if ?_; (refine w_ift rfl ?_))) | (with_reducible first | refine wp_ret ?_ | refine l_nil ?_) | ((with_reducible refine g_on ?_); (first | ((with_reducible refine g_mv ?_); refine l_p txs rfl rfl ?_) | ((with_reducible refine g_as ?_); refine l_p txs rfl rfl ?_) | ((with_reducible refine g_pk ?_); refine l_p txs rfl rfl ?_))) | ((with_reducible refine g_if ?_); (refine l_off rfl ?_)))
    refine end1 rfl rfl ?_
    exact ⟨by rw [hn]; rfl, H.B⟩
  have bt : Bytes y.tail := fun z hz => by' z (List.mem_of_mem_tail hz)
  have hnu := fun w1 => number_c (strOfNums y.tail) w1 (by rw [sizeS' bt, List.length_tail]; omega)
  rw [blS bt] at hnu
  repeat' (first | ((with_reducible refine g_on ?_); (first | ((with_reducible refine g_mv ?_); refine l_p txs rfl rfl ?_) | ((with_reducible refine g_pk ?_); refine l_p txs rfl rfl ?_))) | ((with_reducible refine g_if ?_); (first | ((with_reducible refine g_mv ?_); refine l_p txs rfl rfl ?_) | ((with_reducible refine g_sl ?_); refine l_sl txs rfl rfl (by first | omega | assumption | decide) (by first | omega | assumption | decide) (by first | omega | assumption | decide) ?_))))
  rw [ext_tail by' (by omega)]
  (with_reducible refine is_l ?_); refine l_callp rfl rfl (by kernel_rfl) (hnu _) ?_
  cases q4 : numB y.tail
  · have hn : hostedS (bl t) = [] := by rw [hV, if_pos (.inr (.inr (.inr q4)))]
    repeat' (first | (with_reducible first | refine p_tn ?_ | refine p_tr ?_ | refine wp_seq ?_ | refine w_reg ?_) | (with_reducible (refine is_if ?_; (refine w_ift rfl ?_))) | (with_reducible first | refine wp_ret ?_ | refine l_nil ?_) | ((with_reducible refine g_on ?_); (first | ((with_reducible refine g_as ?_); refine l_p txs rfl rfl ?_) | ((with_reducible refine g_pk ?_); refine l_p txs rfl rfl ?_))) | ((with_reducible refine g_if ?_); ((with_reducible refine g_un ?_); (refine l_p txs rfl rfl ?_))))
    refine end1 rfl rfl ?_
    exact ⟨by rw [hn]; rfl, H.B⟩
  · have hn : hostedS (bl t) = y.tail := by
      rw [hV, if_neg]
      rintro (h | h | h | h)
      · omega
      · omega
      · rw [hhd, Classical.not_not.1 q3] at h
        exact h rfl
      · rw [q4] at h
        cases h
    repeat' (first | (with_reducible first | refine p_tn ?_ | refine wp_seq ?_ | refine w_reg ?_) | (with_reducible (refine is_if ?_; (refine w_iff rfl ?_))) | (with_reducible first | refine wp_skip ?_ | refine wp_ret ?_ | refine l_nil ?_) | ((with_reducible refine g_on ?_); (first | ((with_reducible refine g_mv ?_); refine l_p txs rfl rfl ?_) | ((with_reducible refine g_as ?_); refine l_p txs rfl rfl ?_) | ((with_reducible refine g_pk ?_); refine l_p txs rfl rfl ?_) | ((with_reducible refine g_sl ?_); refine l_sl txs rfl rfl (by first | omega | assumption | decide) (by first | omega | assumption | decide) (by first | omega | assumption | decide) ?_))) | ((with_reducible refine g_if ?_); ((with_reducible refine g_un ?_); (refine l_p txs rfl rfl ?_))))
    rw [ext_tail by' (by omega)]
    skip
    refine end1 rfl rfl ?_
    exact ⟨by rw [hn], H.B⟩
theorem relem_ne {x : L} (h : relemB x = true) : x ≠ [] := by
  intro e
  rw [e] at h
  cases h
set_option maxRecDepth 100000 in
set_option maxHeartbeats 16000000 in
theorem Major_c {w : World} {t2 : TypeId} {fr : Nat × Nat} (hD : w.heap[3]? = some (.cells deC t2 fr)) (t : ByteArray) :
    Calls Tryz.prog 69 #[.string t] w fun e w' => e = .returned (.tuple #[.string (strOfNums (refMajor (bl t)).1), .bool (refMajor (bl t)).2]) ∧ Below w.heap.size w w' := by
  have hDb : ∀ w1, Below w.heap.size w w1 → w1.heap[3]? = some (.cells deC t2 fr) := fun w1 K => (K.block _ (blk_lt hD)).trans hD
  have hlen := bl_length t
  have hbt := bl_bytes t
  refine enter (args := [.string t]) Tryz.func69 rfl Tryz.ntmps69 rfl ?_
  have H := Hp.nil w
  have hV : refMajor (bl t) = if 255 < (bl t).length then ([], false) else if (splitC 47 (bl t)).all relemB = false then ([], false) else if hostB ((splitC 47 (bl t)).headD []) = false then ([], false)
    else if (splitC 47 (bl t)).headD [] = gopkg then (hostedS ((splitC 47 (bl t)).getLastD []), decide (hostedS ((splitC 47 (bl t)).getLastD []) ≠ []) && decide (1 < (splitC 47 (bl t)).length))
    else if (decide (1 < (splitC 47 (bl t)).length) && tailedB ((splitC 47 (bl t)).getLastD [])) = true then (((splitC 47 (bl t)).getLastD []).tail, numB ((splitC 47 (bl t)).getLastD []).tail && decide (((splitC 47 (bl t)).getLastD []).tail ≠ [48]) && decide (((splitC 47 (bl t)).getLastD []).tail ≠ [49]))
    else ([], true) := rfl
  repeat' (first | (with_reducible first | refine p_tn ?_ | refine wp_seq ?_ | refine w_reg ?_ | refine l_nil ?_) | ((with_reducible refine g_on ?_); (first | ((with_reducible refine g_mv ?_); refine l_p txs rfl rfl ?_) | ((with_reducible refine g_as ?_); refine l_p txs rfl rfl ?_) | ((with_reducible refine g_cl ?_); refine l_p txs rfl rfl ?_))))
  (with_reducible refine is_l ?_); refine l_t txs rfl rfl (fun q1 => ?_) (fun q1 => ?_)
  · have hn : refMajor (bl t) = ([], false) := by rw [hV, if_pos (by omega)]
    repeat' (first | (with_reducible first | refine p_tn ?_ | refine p_tr ?_ | refine wp_seq ?_ | refine w_reg ?_) | (with_reducible (refine is_if ?_; (refine w_ift rfl ?_))) | (with_reducible first | refine wp_ret ?_ | refine l_nil ?_) | ((with_reducible refine g_on ?_); ((with_reducible refine g_as ?_); refine l_p txs rfl rfl ?_)))
    refine end2 rfl rfl rfl ?_
    exact ⟨by rw [hn]; first | done | rfl, H.B⟩
  rw [if_neg (by omega)] at hV
  have hpi := fun w1 => pieces_c t 47 w1 (by omega)
  have hsm := split_mem 47 (bl t)
  have hsl := split_len 47 (bl t)
  have hne := splitC_ne (c := 47) (bl t)
  repeat' (first | (with_reducible first | refine p_tn ?_ | refine wp_seq ?_ | refine w_reg ?_) | (with_reducible (refine is_if ?_; (refine w_iff rfl ?_))) | (with_reducible first | refine wp_skip ?_ | refine l_nil ?_) | ((with_reducible refine g_on ?_); ((with_reducible refine g_mv ?_); refine l_p txs rfl rfl ?_)))
  (with_reducible refine is_l ?_); refine l_call rfl rfl (by kernel_rfl) (hpi _) (fun e w_ hR => ?_)
  generalize splitC 47 (bl t) = N at hR hV hsm hsl hne
  obtain ⟨A1, c1, rfl, KK⟩ := hR
  refine ⟨_, rfl, ?_⟩
  obtain ⟨ad, rfl⟩ := row_some KK 0 rfl hne
  have hRd := rowT_at KK 0 rfl
  have H := H.join KK
  have hNp := List.length_pos_iff.2 hne
  repeat' (first | (with_reducible first | refine p_tn ?_ | refine wp_seq ?_ | refine wp_block ?_ | refine w_reg ?_ | refine l_nil ?_) | ((with_reducible refine g_on ?_); ((with_reducible refine g_as ?_); refine l_p txs rfl rfl ?_)))
  refine w_loop (σ := Nat) (S := fun s => [(4, .slice (some ad) N.length c1), (5, .int .i64 (s : Int))]) (J := fun s w' => Hp w w' [] [rowT (.slice (some ad) N.length c1) N] ∧ s ≤ N.length ∧ (N.take s).all relemB = true) (μ := fun s => N.length - s) 0 ⟨rfl, rfl, trivial⟩ ⟨H, by omega, by simp⟩ ?_
  clear H hRd
  rintro i f w_ ⟨H, hi, ha⟩
  have hRd := rowT_at H 0 rfl
  repeat' (first | (with_reducible first | refine wp_seq ?_ | refine w_reg ?_) | ((with_reducible refine g_on ?_); (first | ((with_reducible refine g_mv ?_); refine l_p txs rfl rfl ?_) | ((with_reducible refine g_cl ?_); refine l_p txs rfl rfl ?_))))
  (with_reducible refine is_l ?_); refine l_t txs rfl rfl (fun hlt => ?_) (fun hge => ?_)
  · obtain ⟨y, hy⟩ : ∃ y, N[i]? = some y := ⟨_, List.getElem?_eq_getElem (by omega)⟩
    obtain ⟨m1, m2⟩ := hsm y (List.mem_of_getElem? hy)
    have by' : Bytes y := fun z hz => hbt z (m1 z hz)
    have zy := sizeS' by'
    have hcell := rdT_cell hRd hy
    repeat' (first | (with_reducible first | refine p_tn ?_ | refine wp_seq ?_ | refine wp_block ?_ | refine w_reg ?_) | (with_reducible (refine is_if ?_; (refine w_ift rfl ?_))) | (with_reducible first | refine wp_skip ?_ | refine l_nil ?_) | ((with_reducible refine g_on ?_); (first | ((with_reducible refine g_mv ?_); refine l_p txs rfl rfl ?_) | ((with_reducible refine g_ia ?_); refine l_ia txs rfl rfl (by first | omega | assumption | decide) (by first | omega | assumption | decide) ?_))))
    (with_reducible refine is_l ?_); refine l_ld txs rfl rfl (by rw [Int.toNat_natCast]; exact hcell) ?_
    have hw := element_c (hDb _ H.B) (strOfNums y) (by omega)
    rw [blS by'] at hw
    (with_reducible refine is_l ?_); refine l_callv rfl rfl (by kernel_rfl) hw (fun w_ K => ?_)
    have H := H.call K
    cases hwb : relemB y
    · have hn : refMajor (bl t) = ([], false) := by
        rw [hV, if_pos]
        rw [List.all_eq_false]
        exact ⟨y, List.mem_of_getElem? hy, by rw [hwb]; simp⟩
      repeat' (first | (with_reducible first | refine p_tn ?_ | refine p_tr ?_ | refine p_br ?_ | refine wp_seq ?_ | refine w_reg ?_) | (with_reducible (refine is_if ?_; (refine w_ift rfl ?_))) | (with_reducible first | refine wp_ret ?_ | refine l_nil ?_) | ((with_reducible refine g_on ?_); (first | ((with_reducible refine g_as ?_); refine l_p txs rfl rfl ?_) | ((with_reducible refine g_un ?_); (refine l_p txs rfl rfl ?_)))))
      refine end2 rfl rfl rfl ?_
      exact ⟨by rw [hn]; first | done | rfl, H.B⟩
    · repeat' (first | (with_reducible first | refine p_tn ?_ | refine p_bn ?_ | refine w_reg ?_) | (with_reducible (refine is_if ?_; (refine w_iff rfl ?_))) | (with_reducible first | refine wp_skip ?_ | refine l_nil ?_) | ((with_reducible refine g_on ?_); (first | ((with_reducible refine g_mv ?_); refine l_p txs rfl rfl ?_) | ((with_reducible refine g_as ?_); refine l_p txs rfl rfl ?_) | ((with_reducible refine g_un ?_); (refine l_p txs rfl rfl ?_)) | ((with_reducible refine g_bi ?_); (refine l_a txs rfl rfl (by first | exact in_i64 (by omega) (by omega) | exact in_u8 (by omega) (by omega) | exact in_u64 (by omega) (by omega) | exact in_i32 (by omega) (by omega)) ?_)))))
      refine ⟨i + 1, _, rfl, ⟨rfl, rfl, trivial⟩, ⟨H, by omega, ?_⟩, by omega⟩
      rw [List.take_succ_eq_append_getElem (by omega), List.all_append, ha, (List.getElem?_eq_some_iff.1 hy).2]
      simp [hwb]
  have hall : N.all relemB = true := by rw [← List.take_of_length_le (l := N) (i := i) (by omega)]; exact ha
  rw [if_neg (by rw [hall]; simp)] at hV
  obtain ⟨x, r, hxr⟩ : ∃ x r, N = x :: r := by
    cases N with
    | nil => exact absurd rfl hne
    | cons x r => exact ⟨x, r, rfl⟩
  have hx0 : N[0]? = some x := by rw [hxr]; rfl
  have hhx : N.headD [] = x := by rw [hxr]; rfl
  rw [hhx] at hV
  obtain ⟨m1, m2⟩ := hsm x (List.mem_of_getElem? hx0)
  have bx : Bytes x := fun z hz => hbt z (m1 z hz)
  have zx := sizeS' bx
  have xne := relem_ne (List.all_eq_true.1 hall x (List.mem_of_getElem? hx0))
  obtain ⟨l1, l2⟩ := hsm _ (last_mem hne)
  have hlc := rdT_cell hRd (last_get hne)
  have yne := relem_ne (List.all_eq_true.1 hall _ (last_mem hne))
  generalize N.getLastD [] = y at hV l1 l2 hlc yne
  have by' : Bytes y := fun z hz => hbt z (l1 z hz)
  have zy := sizeS' by'
  have yl := List.length_pos_iff.2 yne
  repeat' (first | (with_reducible first | refine p_tn ?_ | refine p_tx ?_ | refine x_hit ?_ | refine wp_seq ?_ | refine w_reg ?_) | (with_reducible (refine is_if ?_; (refine w_iff rfl ?_))) | (with_reducible first | refine wp_exit ?_ | refine l_nil ?_) | ((with_reducible refine g_on ?_); (first | ((with_reducible refine g_mv ?_); refine l_p txs rfl rfl ?_) | ((with_reducible refine g_ia ?_); refine l_ia txs rfl rfl (by first | omega | assumption | decide) (by first | omega | assumption | decide) ?_))))
  (with_reducible refine is_l ?_); refine l_ld txs rfl rfl (rdT_cell hRd hx0) ?_
  have hfi := fun w1 => first_c (strOfNums x) w1 (by omega) (by rw [blS bx]; exact xne)
  rw [blS bx] at hfi
  (with_reducible refine is_l ?_); refine l_callv rfl rfl (by kernel_rfl) (hfi _) (fun w_ K => ?_)
  have hRd := hRd.below K
  have hlc := pw_cell_below K hlc
  have H := H.call K
  cases hfb : hostB x
  · have hn : refMajor (bl t) = ([], false) := by rw [hV, if_pos hfb]
    repeat' (first | (with_reducible first | refine p_tn ?_ | refine p_tr ?_ | refine wp_seq ?_ | refine w_reg ?_) | (with_reducible (refine is_if ?_; (refine w_ift rfl ?_))) | (with_reducible first | refine wp_ret ?_ | refine l_nil ?_) | ((with_reducible refine g_on ?_); (first | ((with_reducible refine g_as ?_); refine l_p txs rfl rfl ?_) | ((with_reducible refine g_un ?_); (refine l_p txs rfl rfl ?_)))))
    refine end2 rfl rfl rfl ?_
    exact ⟨by rw [hn]; first | done | rfl, H.B⟩
  rw [if_neg (by rw [hfb]; simp)] at hV
  repeat' (first | (with_reducible first | refine p_tn ?_ | refine wp_seq ?_ | refine w_reg ?_) | (with_reducible (refine is_if ?_; (refine w_iff rfl ?_))) | (with_reducible first | refine wp_skip ?_ | refine l_nil ?_) | ((with_reducible refine g_on ?_); (first | ((with_reducible refine g_mv ?_); refine l_p txs rfl rfl ?_) | ((with_reducible refine g_un ?_); (refine l_p txs rfl rfl ?_)) | ((with_reducible refine g_cl ?_); refine l_p txs rfl rfl ?_) | ((with_reducible refine g_ia ?_); refine l_ia txs rfl rfl (by first | omega | assumption | decide) (by first | omega | assumption | decide) ?_) | ((with_reducible refine g_bi ?_); (refine l_a txs rfl rfl (by first | exact in_i64 (by omega) (by omega) | exact in_u8 (by omega) (by omega) | exact in_u64 (by omega) (by omega) | exact in_i32 (by omega) (by omega)) ?_)))))
  (with_reducible refine is_l ?_); refine l_ld txs rfl rfl (by rw [show ((N.length : Int) - 1).toNat = N.length - 1 by omega]; exact hlc) ?_
  repeat' (first | (with_reducible first | refine p_tn ?_ | refine wp_seq ?_ | refine w_reg ?_ | refine l_nil ?_) | ((with_reducible refine g_on ?_); (first | ((with_reducible refine g_mv ?_); refine l_p txs rfl rfl ?_) | ((with_reducible refine g_as ?_); refine l_p txs rfl rfl ?_) | ((with_reducible refine g_ia ?_); refine l_ia txs rfl rfl (by first | omega | assumption | decide) (by first | omega | assumption | decide) ?_))))
  (with_reducible refine is_l ?_); refine l_ld txs rfl rfl (rdT_cell hRd hx0) ?_
  skip
  (with_reducible refine is_l ?_); refine l_t txs rfl rfl (fun q2 => ?_) (fun q2 => ?_)
  · rw [blS bx, show bl (⟨#[103, 111, 112, 107, 103, 46, 105, 110]⟩ : ByteArray) = gopkg from rfl] at q2
    rw [if_pos q2] at hV
    have hho := fun w1 => hosted_c (strOfNums y) w1 (by omega)
    rw [blS by'] at hho
    have bh : Bytes (hostedS y) := fun z hz => by'  z (by
      unfold hostedS at hz
      split at hz
      · cases hz
      · have h1 := List.mem_of_mem_tail hz
        exact (endCut_sub (r := y) (e := unstable)).1 z ((split_mem 46 ((endCut y unstable).getD y) _ (last_mem (splitC_ne _))).1 z h1))
    generalize hostedS y = m at hV hho bh
    repeat' (first | (with_reducible first | refine p_tn ?_ | refine wp_seq ?_ | refine w_reg ?_) | (with_reducible (refine is_if ?_; (refine w_ift rfl ?_))) | (with_reducible refine l_nil ?_) | ((with_reducible refine g_on ?_); ((with_reducible refine g_mv ?_); refine l_p txs rfl rfl ?_)))
    (with_reducible refine is_l ?_); refine l_callv rfl rfl (by kernel_rfl) (hho _) (fun w_ K => ?_)
    have H := H.call K
    repeat' (first | (with_reducible first | refine p_tn ?_ | refine wp_seq ?_ | refine w_reg ?_ | refine l_nil ?_) | ((with_reducible refine g_on ?_); (first | ((with_reducible refine g_mv ?_); refine l_p txs rfl rfl ?_) | ((with_reducible refine g_as ?_); refine l_p txs rfl rfl ?_))))
    (with_reducible refine is_l ?_); refine l_t txs rfl rfl (fun q3 => ?_) (fun q3 => ?_)
    · rw [blS bh] at q3
      have q3 : m ≠ [] := q3
      repeat' (first | ((with_reducible refine g_on ?_); ((with_reducible refine g_mv ?_); refine l_p txs rfl rfl ?_)) | ((with_reducible refine g_if ?_); (first | ((with_reducible refine g_mv ?_); refine l_p txs rfl rfl ?_) | ((with_reducible refine g_cl ?_); refine l_p txs rfl rfl ?_))))
      (with_reducible refine is_l ?_); refine l_t txs rfl rfl (fun q4 => ?_) (fun q4 => ?_)
      · have hn : refMajor (bl t) = (m, true) := by rw [hV, decide_eq_true q3, decide_eq_true (by omega)]; rfl
        repeat' (first | (with_reducible first | refine p_tn ?_ | refine p_tr ?_ | refine wp_ret ?_ | refine l_nil ?_) | ((with_reducible refine g_on ?_); (first | ((with_reducible refine g_as ?_); refine l_p txs rfl rfl ?_) | ((with_reducible refine g_pk ?_); refine l_p txs rfl rfl ?_))))
        refine end2 rfl rfl rfl ?_
        exact ⟨by rw [hn]; first | done | rfl, H.B⟩
      · have hn : refMajor (bl t) = (m, false) := by rw [hV, decide_eq_true q3, decide_eq_false (by omega)]; rfl
        repeat' (first | (with_reducible first | refine p_tn ?_ | refine p_tr ?_ | refine wp_ret ?_ | refine l_nil ?_) | ((with_reducible refine g_on ?_); (first | ((with_reducible refine g_as ?_); refine l_p txs rfl rfl ?_) | ((with_reducible refine g_pk ?_); refine l_p txs rfl rfl ?_))))
        refine end2 rfl rfl rfl ?_
        exact ⟨by rw [hn]; first | done | rfl, H.B⟩
    · rw [blS bh] at q3
      have q3 : m = [] := Classical.not_not.1 q3
      have hn : refMajor (bl t) = (m, false) := by rw [hV, q3]; rfl
      repeat' (first | (with_reducible first | refine p_tn ?_ | refine p_tr ?_ | refine wp_ret ?_ | refine l_nil ?_) | ((with_reducible refine g_on ?_); (first | ((with_reducible refine g_mv ?_); refine l_p txs rfl rfl ?_) | ((with_reducible refine g_as ?_); refine l_p txs rfl rfl ?_) | ((with_reducible refine g_pk ?_); refine l_p txs rfl rfl ?_))) | ((with_reducible refine g_if ?_); (refine l_off rfl ?_)))
      refine end2 rfl rfl rfl ?_
      exact ⟨by rw [hn]; first | done | rfl, H.B⟩
  rw [blS bx, show bl (⟨#[103, 111, 112, 107, 103, 46, 105, 110]⟩ : ByteArray) = gopkg from rfl] at q2
  rw [if_neg q2] at hV
  repeat' (first | (with_reducible first | refine p_tn ?_ | refine wp_seq ?_ | refine w_reg ?_) | (with_reducible (refine is_if ?_; (refine w_iff rfl ?_))) | (with_reducible first | refine wp_skip ?_ | refine l_nil ?_) | ((with_reducible refine g_on ?_); (first | ((with_reducible refine g_mv ?_); refine l_p txs rfl rfl ?_) | ((with_reducible refine g_cl ?_); refine l_p txs rfl rfl ?_))))
  (with_reducible refine is_l ?_); refine l_t txs rfl rfl (fun q3 => ?_) (fun q3 => ?_)
  rotate_left
  · have hn : refMajor (bl t) = ([], true) := by rw [hV, decide_eq_false (by omega), if_neg (by simp)]
    repeat' (first | (with_reducible first | refine p_tn ?_ | refine wp_seq ?_ | refine w_reg ?_) | (with_reducible (refine is_if ?_; (refine w_iff rfl ?_))) | (with_reducible first | refine wp_skip ?_ | refine wp_ret ?_ | refine l_nil ?_) | ((with_reducible refine g_on ?_); (first | ((with_reducible refine g_mv ?_); refine l_p txs rfl rfl ?_) | ((with_reducible refine g_as ?_); refine l_p txs rfl rfl ?_) | ((with_reducible refine g_pk ?_); refine l_p txs rfl rfl ?_))) | ((with_reducible refine g_if ?_); (refine l_off rfl ?_)))
    refine end2 rfl rfl rfl ?_
    exact ⟨by rw [hn]; first | done | rfl, H.B⟩
  rw [decide_eq_true (show 1 < N.length by omega), Bool.true_and] at hV
  have hta := fun w1 => tailed_c (strOfNums y) w1 (by omega)
  rw [blS by'] at hta
  repeat' (first | ((with_reducible refine g_on ?_); ((with_reducible refine g_mv ?_); refine l_p txs rfl rfl ?_)) | ((with_reducible refine g_if ?_); ((with_reducible refine g_mv ?_); refine l_p txs rfl rfl ?_)))
  (with_reducible refine is_l ?_); refine l_callv rfl rfl (by kernel_rfl) (hta _) (fun w_ K => ?_)
  have H := H.call K
  cases q4 : tailedB y
  · have hn : refMajor (bl t) = ([], true) := by rw [hV, q4, if_neg (by simp)]
    repeat' (first | (with_reducible first | refine p_tn ?_ | refine wp_seq ?_ | refine w_reg ?_) | (with_reducible (refine is_if ?_; (refine w_iff rfl ?_))) | (with_reducible first | refine wp_skip ?_ | refine wp_ret ?_ | refine l_nil ?_) | ((with_reducible refine g_on ?_); (first | ((with_reducible refine g_as ?_); refine l_p txs rfl rfl ?_) | ((with_reducible refine g_pk ?_); refine l_p txs rfl rfl ?_))))
    refine end2 rfl rfl rfl ?_
    exact ⟨by rw [hn]; first | done | rfl, H.B⟩
  rw [if_pos q4] at hV
  have bt : Bytes y.tail := fun z hz => by' z (List.mem_of_mem_tail hz)
  have hnu := fun w1 => number_c (strOfNums y.tail) w1 (by rw [sizeS' bt, List.length_tail]; omega)
  rw [blS bt] at hnu
  repeat' (first | (with_reducible first | refine p_tn ?_ | refine wp_seq ?_ | refine w_reg ?_) | (with_reducible (refine is_if ?_; (refine w_ift rfl ?_))) | (with_reducible refine l_nil ?_) | ((with_reducible refine g_on ?_); (first | ((with_reducible refine g_mv ?_); refine l_p txs rfl rfl ?_) | ((with_reducible refine g_as ?_); refine l_p txs rfl rfl ?_) | ((with_reducible refine g_pk ?_); refine l_p txs rfl rfl ?_) | ((with_reducible refine g_sl ?_); refine l_sl txs rfl rfl (by first | omega | assumption | decide) (by first | omega | assumption | decide) (by first | omega | assumption | decide) ?_))))
  rw [ext_tail by' (by omega)]
  skip
  (with_reducible refine is_l ?_); refine l_callp rfl rfl (by kernel_rfl) (hnu _) ?_
  have e48 : bl (⟨#[48]⟩ : ByteArray) = [48] := rfl
  have e49 : bl (⟨#[49]⟩ : ByteArray) = [49] := rfl
  cases q5 : numB y.tail
  · have hn : refMajor (bl t) = (y.tail, false) := by rw [hV, q5]; rfl
    repeat' (first | (with_reducible first | refine p_tn ?_ | refine p_tr ?_ | refine wp_ret ?_ | refine l_nil ?_) | ((with_reducible refine g_on ?_); (first | ((with_reducible refine g_mv ?_); refine l_p txs rfl rfl ?_) | ((with_reducible refine g_as ?_); refine l_p txs rfl rfl ?_) | ((with_reducible refine g_pk ?_); refine l_p txs rfl rfl ?_))) | ((with_reducible refine g_if ?_); (refine l_off rfl ?_)))
    refine end2 rfl rfl rfl ?_
    exact ⟨by rw [hn]; first | done | rfl, H.B⟩
  repeat' (first | ((with_reducible refine g_on ?_); ((with_reducible refine g_mv ?_); refine l_p txs rfl rfl ?_)) | ((with_reducible refine g_if ?_); ((with_reducible refine g_mv ?_); refine l_p txs rfl rfl ?_)))
  (with_reducible refine is_l ?_); refine l_t txs rfl rfl (fun q6 => ?_) (fun q6 => ?_)
  rotate_left
  · rw [blS bt, e48] at q6
    have hn : refMajor (bl t) = (y.tail, false) := by rw [hV, Classical.not_not.1 q6]; simp
    repeat' (first | (with_reducible first | refine p_tn ?_ | refine p_tr ?_ | refine wp_ret ?_ | refine l_nil ?_) | ((with_reducible refine g_on ?_); (first | ((with_reducible refine g_mv ?_); refine l_p txs rfl rfl ?_) | ((with_reducible refine g_as ?_); refine l_p txs rfl rfl ?_) | ((with_reducible refine g_pk ?_); refine l_p txs rfl rfl ?_))) | ((with_reducible refine g_if ?_); (refine l_off rfl ?_)))
    refine end2 rfl rfl rfl ?_
    exact ⟨by rw [hn]; first | done | rfl, H.B⟩
  rw [blS bt, e48] at q6
  repeat' (first | ((with_reducible refine g_on ?_); (first | ((with_reducible refine g_mv ?_); refine l_p txs rfl rfl ?_) | ((with_reducible refine g_pk ?_); refine l_p txs rfl rfl ?_))) | ((with_reducible refine g_if ?_); ((with_reducible refine g_mv ?_); refine l_p txs rfl rfl ?_)))
  (with_reducible refine is_l ?_); refine l_t txs rfl rfl (fun q7 => ?_) (fun q7 => ?_)
  rotate_left
  · rw [blS bt, e49] at q7
    have hn : refMajor (bl t) = (y.tail, false) := by rw [hV, Classical.not_not.1 q7]; simp
    repeat' (first | (with_reducible first | refine p_tn ?_ | refine p_tr ?_ | refine wp_ret ?_ | refine l_nil ?_) | ((with_reducible refine g_on ?_); (first | ((with_reducible refine g_as ?_); refine l_p txs rfl rfl ?_) | ((with_reducible refine g_pk ?_); refine l_p txs rfl rfl ?_))))
    refine end2 rfl rfl rfl ?_
    exact ⟨by rw [hn]; first | done | rfl, H.B⟩
  rw [blS bt, e49] at q7
  have hn : refMajor (bl t) = (y.tail, true) := by rw [hV, q5, decide_eq_true q6, decide_eq_true q7]; rfl
  repeat' (first | (with_reducible first | refine p_tn ?_ | refine p_tr ?_ | refine wp_ret ?_ | refine l_nil ?_) | ((with_reducible refine g_on ?_); (first | ((with_reducible refine g_as ?_); refine l_p txs rfl rfl ?_) | ((with_reducible refine g_pk ?_); refine l_p txs rfl rfl ?_))))
  refine end2 rfl rfl rfl ?_
  exact ⟨by rw [hn]; first | done | rfl, H.B⟩
end Go.Proofs.YtnimaenhijlcmaaGreatDoor.K.Ref
