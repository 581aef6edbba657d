/- Paths. -/
import Derived.Test.YtnimaenhijlcmaaGreatDoorVl
namespace Go.Proofs.YtnimaenhijlcmaaGreatDoor.K
open Go.RowKit Go.Proofs.YtnimaenhijlcmaaGreatDoor.Q Go.Proofs.YtnimaenhijlcmaaGreatDoor.Mb Go.Proofs.YtnimaenhijlcmaaGreatDoorW.PrintWords
set_option linter.unusedVariables false
set_option linter.unusedSimpArgs false

theorem path_one {N : List L} {i : Nat} {y : L} (hy : N[i]? = some y) (ha : (N.take i).all elemB = true) (h : elemB y = true) : (N.take (i + 1)).all elemB = true := by
  obtain ⟨hi, rfl⟩ := List.getElem?_eq_some_iff.1 hy
  rw [List.take_succ_eq_append_getElem hi, List.all_append, ha]
  simp [h]
set_option maxRecDepth 100000 in
set_option maxHeartbeats 8000000 in
theorem isPath_c {w : World} {mx : Int} (hM : w.cell? ⟨0, 0, none⟩ = some (.int .i64 mx)) {t1 : TypeId} {fr1 : Nat × Nat} (hT : w.heap[1]? = some (.cells mkC t1 fr1)) {t2 : TypeId} {fr : Nat × Nat} (hD : w.heap[2]? = some (.cells deC t2 fr)) (t : ByteArray) :
    Calls Tryz.prog 67 #[.string t] w fun e w' => e = .returned (.bool (pathS (bl t))) ∧ Below w.heap.size w w' := by
  have hDb : ∀ w1, Below w.heap.size w w1 → w1.heap[2]? = some (.cells deC t2 fr) := fun w1 K => (K.block _ (blk_lt hD)).trans hD
  have hTb : ∀ w1, Below w.heap.size w w1 → w1.heap[1]? = some (.cells mkC t1 fr1) := fun w1 K => (K.block _ (blk_lt hT)).trans hT
  have hlen := bl_length t
  have hbt := bl_bytes t
  have e47 : ((47 : UInt8).toNat : Int) = 47 := rfl
  refine enter (args := [.string t]) Tryz.func67 rfl Tryz.ntmps67 rfl ?_
  have H := Hp.nil w
  repeat' (first | (with_reducible first | refine p_tn ?_ | refine wp_seq ?_ | refine w_reg ?_ | refine l_nil ?_) | ((with_reducible refine g_on ?_); (first | ((with_reducible refine g_mv ?_); refine l_p txs rfl rfl ?_) | ((with_reducible refine g_as ?_); refine l_p txs rfl rfl ?_))))
  (with_reducible refine is_l ?_); refine l_t txs rfl rfl (fun h1 => ?_) (fun h1 => ?_)
  · have h1 : bl t = [] := h1
    have hn : pathS (bl t) = false := by rw [h1]; rfl
    repeat' (first | (with_reducible first | refine p_tn ?_ | refine p_tr ?_ | refine wp_seq ?_ | refine w_reg ?_) | (with_reducible (refine is_if ?_; (refine w_ift rfl ?_))) | (with_reducible first | refine wp_ret ?_ | refine l_nil ?_) | ((with_reducible refine g_on ?_); (first | ((with_reducible refine g_mv ?_); refine l_p txs rfl rfl ?_) | ((with_reducible refine g_as ?_); refine l_p txs rfl rfl ?_) | ((with_reducible refine g_pk ?_); refine l_p txs rfl rfl ?_))) | ((with_reducible refine g_if ?_); (refine l_off rfl ?_)))
    refine end1 rfl rfl ?_
    exact ⟨by rw [hn]; first | done | rfl, H.B⟩
  have h1 : bl t ≠ [] := h1
  have he : (bl t).isEmpty = false := by cases hb : bl t with | nil => exact absurd hb h1 | cons x r => rfl
  repeat' (first | ((with_reducible refine g_on ?_); ((with_reducible refine g_mv ?_); refine l_p txs rfl rfl ?_)) | ((with_reducible refine g_if ?_); (first | ((with_reducible refine g_mv ?_); refine l_p txs rfl rfl ?_) | ((with_reducible refine g_cl ?_); refine l_p txs rfl rfl ?_))))
  (with_reducible refine is_l ?_); refine l_t txs rfl rfl (fun h2 => ?_) (fun h2 => ?_)
  · have hn : pathS (bl t) = false := by unfold pathS; rw [decide_eq_false (by omega)]; simp
    repeat' (first | (with_reducible first | refine p_tn ?_ | refine p_tr ?_ | refine wp_seq ?_ | refine w_reg ?_) | (with_reducible (refine is_if ?_; (refine w_ift rfl ?_))) | (with_reducible first | refine wp_ret ?_ | refine l_nil ?_) | ((with_reducible refine g_on ?_); (first | ((with_reducible refine g_as ?_); refine l_p txs rfl rfl ?_) | ((with_reducible refine g_pk ?_); refine l_p txs rfl rfl ?_))))
    refine end1 rfl rfl ?_
    exact ⟨by rw [hn]; first | done | rfl, H.B⟩
  have hV : pathS (bl t) = ((bl t).all pathB && (splitC 47 (bl t)).all elemB && hostB ((splitC 47 (bl t)).headD []) && (majorS (bl t)).2) := by
    unfold pathS
    rw [he, decide_eq_true (by omega)]
    rfl
  have hNo : ∀ {b : Int} {p : Nat}, (bl t)[p]? = some b → pathB b = false → pathS (bl t) = false := fun hb hv => by rw [hV, not_all hb hv]; simp
  repeat' (first | (with_reducible first | refine p_tn ?_ | refine wp_seq ?_ | refine w_reg ?_) | (with_reducible (refine is_if ?_; (refine w_iff rfl ?_))) | (with_reducible first | refine wp_skip ?_ | refine l_nil ?_) | ((with_reducible refine g_on ?_); (first | ((with_reducible refine g_mv ?_); refine l_p txs rfl rfl ?_) | ((with_reducible refine g_pk ?_); refine l_p txs rfl rfl ?_))))
  (with_reducible refine is_l ?_); refine l_range H Tryz.underlying9 rfl rfl (fun g w_ H hk hg => ?_)
  repeat' (with_reducible first | refine p_tn ?_ | refine wp_block ?_ | refine l_nil ?_)
  refine w_loop (σ := Nat) (S := fun s => [(0, .string t), (17, .pointer (some ⟨g, 0, none⟩))]) (J := fun s w' => Hp w w' [] [] ∧ w'.heap[g]? = some (.stringIter t s) ∧ ((bl t).take s).all pathB = true) (μ := fun s => t.size - s) 0 ⟨rfl, rfl, trivial⟩ ⟨H, hk, by simp⟩ ?_
  clear hk H
  rintro p f w_ ⟨H, hk, ha⟩
  repeat' (with_reducible first | refine wp_seq ?_ | refine w_reg ?_)
  by_cases hp : p < t.size
  · obtain ⟨b, hb, hbb⟩ := dec_byte t p hp
    (with_reducible refine is_l ?_); refine l_nextV H hk hg hp rfl rfl (fun w_ H hk => ?_)
    rcases hbb with ⟨k1, k2, k3⟩ | ⟨k1, k2⟩
    · rw [k3] at hk
      rw [k2]
      repeat' (first | (with_reducible first | refine p_tn ?_ | refine wp_seq ?_ | refine wp_block ?_ | refine w_reg ?_) | (with_reducible (refine is_if ?_; (refine w_ift rfl ?_))) | (with_reducible first | refine wp_skip ?_ | refine l_nil ?_) | ((with_reducible refine g_on ?_); (first | ((with_reducible refine g_mv ?_); refine l_p txs rfl rfl ?_) | ((with_reducible refine g_as ?_); refine l_p txs rfl rfl ?_) | ((with_reducible refine g_ex ?_); refine l_p txs rfl rfl ?_))))
      (with_reducible refine is_l ?_); refine l_callp rfl rfl (by kernel_rfl) (isPathRune_c (hTb _ H.B) b) ?_
      cases hd : pathB b
      · have hn := hNo hb hd
        repeat' (first | (with_reducible first | refine p_tn ?_ | refine p_tr ?_ | refine p_br ?_ | refine wp_seq ?_ | refine w_reg ?_) | (with_reducible (refine is_if ?_; (refine w_ift rfl ?_))) | (with_reducible first | refine wp_ret ?_ | refine l_nil ?_) | ((with_reducible refine g_on ?_); (first | ((with_reducible refine g_as ?_); refine l_p txs rfl rfl ?_) | ((with_reducible refine g_un ?_); (refine l_p txs rfl rfl ?_)))))
        refine end1 rfl rfl ?_
        exact ⟨by rw [hn]; first | done | rfl, H.B⟩
      · repeat' (first | (with_reducible first | refine p_tn ?_ | refine p_bn ?_) | (with_reducible (refine is_if ?_; (refine w_iff rfl ?_))) | (with_reducible first | refine wp_skip ?_ | refine l_nil ?_) | ((with_reducible refine g_on ?_); ((with_reducible refine g_un ?_); (refine l_p txs rfl rfl ?_))))
        exact ⟨p + 1, _, rfl, ⟨rfl, rfl, trivial⟩, ⟨H, hk, take_all hb hd ha⟩, by omega⟩
    · have hn := hNo hb (by cases h : pathB b with | false => rfl | true => exact absurd (path_small h) (by omega))
      generalize ((Utf8.decode t p).1 : Int) = q at k2 ⊢
      repeat' (first | (with_reducible first | refine p_tn ?_ | refine wp_seq ?_ | refine wp_block ?_ | refine w_reg ?_) | (with_reducible (refine is_if ?_; (refine w_ift rfl ?_))) | (with_reducible first | refine wp_skip ?_ | refine l_nil ?_) | ((with_reducible refine g_on ?_); (first | ((with_reducible refine g_mv ?_); refine l_p txs rfl rfl ?_) | ((with_reducible refine g_as ?_); refine l_p txs rfl rfl ?_) | ((with_reducible refine g_ex ?_); refine l_p txs rfl rfl ?_))))
      have hd2 := isPathRune_c (hTb _ H.B) q
      rw [show pathB q = false by cases h : pathB q with | false => rfl | true => exact absurd (path_small h) (by omega)] at hd2
      (with_reducible refine is_l ?_); refine l_callp rfl rfl (by kernel_rfl) hd2 ?_
      repeat' (first | (with_reducible first | refine p_tn ?_ | refine p_tr ?_ | refine p_br ?_ | refine wp_seq ?_ | refine w_reg ?_) | (with_reducible (refine is_if ?_; (refine w_ift rfl ?_))) | (with_reducible first | refine wp_ret ?_ | refine l_nil ?_) | ((with_reducible refine g_on ?_); (first | ((with_reducible refine g_as ?_); refine l_p txs rfl rfl ?_) | ((with_reducible refine g_un ?_); (refine l_p txs rfl rfl ?_)))))
      refine end1 rfl rfl ?_
      exact ⟨by rw [hn]; first | done | rfl, H.B⟩
  have hall : (bl t).all pathB = true := by rw [← List.take_of_length_le (l := bl t) (i := p) (by omega)]; exact ha
  rw [hall, Bool.true_and] at hV
  (with_reducible refine is_l ?_); refine l_nextE hk hp rfl rfl ?_
  repeat' (first | (with_reducible first | refine p_tn ?_ | refine p_tx ?_ | refine x_hit ?_ | refine wp_seq ?_ | refine w_reg ?_) | (with_reducible (refine is_if ?_; (refine w_iff rfl ?_))) | (with_reducible first | refine wp_exit ?_ | refine l_nil ?_) | ((with_reducible refine g_on ?_); (first | ((with_reducible refine g_mv ?_); refine l_p txs rfl rfl ?_) | ((with_reducible refine g_ex ?_); refine l_p txs rfl rfl ?_))))
  have hsp := split_c t 47 (by omega) w_ mx (H.old hM)
  rw [e47] at hsp
  (with_reducible refine is_l ?_); refine l_call rfl rfl (by kernel_rfl) hsp (fun e w_ hR => ?_)
  obtain ⟨gN, rfl, K⟩ := hR
  refine ⟨_, rfl, ?_⟩
  have hne := splitC_ne (c := 47) (bl t)
  have hsm := split_mem 47 (bl t)
  have hsl := split_len 47 (bl t)
  generalize splitC 47 (bl t) = N at K hne hsm hsl hV ⊢
  have hNl : (strC N).length = N.length := List.length_map _
  have H := (H.join K).entRow (by rw [hNl]; simp only [maxLen]; omega)
  rw [hNl] at H
  have H : Hp w w_ [] [rowT (.slice (some ⟨gN, 0, none⟩) N.length N.length) N] := H
  have hpos := List.length_pos_iff.2 hne
  repeat' (first | (with_reducible first | refine p_tn ?_ | refine wp_block ?_ | refine l_nil ?_) | ((with_reducible refine g_on ?_); (first | ((with_reducible refine g_mv ?_); refine l_p txs rfl rfl ?_) | ((with_reducible refine g_cl ?_); refine l_p txs rfl rfl ?_))))
  refine w_loop (σ := Nat) (S := fun s => [(0, .string t), (25, .slice (some ⟨gN, 0, none⟩) N.length N.length), (26, .int .i64 (N.length : Int)), (27, .int .i64 (s : Int))]) (J := fun s w' => Hp w w' [] [rowT (.slice (some ⟨gN, 0, none⟩) N.length N.length) N] ∧ s ≤ N.length ∧ (N.take s).all elemB = true ∧ (1 ≤ s → hostB (N.headD []) = true)) (μ := fun s => N.length - s) 0 ⟨rfl, rfl, rfl, rfl, trivial⟩ ⟨H, by omega, rfl, fun h => by omega⟩ ?_
  clear H hk ha
  rintro i f w_ ⟨H, hi, ha, hh⟩
  repeat' (with_reducible first | refine wp_seq ?_ | refine w_reg ?_)
  (with_reducible refine is_l ?_); refine l_t txs rfl rfl (fun hlt => ?_) (fun hge => ?_)
  · obtain ⟨y, hy⟩ : ∃ y, N[i]? = some y := ⟨_, List.getElem?_eq_getElem (by omega)⟩
    have hmem := List.mem_of_getElem? hy
    obtain ⟨m1, m2⟩ := hsm y hmem
    have by' : Bytes y := fun z hz => hbt z (m1 z hz)
    have zy := sizeS' by'
    have hP : (bl (strOfNums y)).all pathB = true := by rw [blS by']; exact List.all_eq_true.2 fun z hz => List.all_eq_true.1 hall z (m1 z hz)
    have hcell := rdT_cell (rowT_at H 0 rfl) hy
    repeat' (first | (with_reducible first | refine p_tn ?_ | refine wp_seq ?_ | refine wp_block ?_ | refine w_reg ?_) | (with_reducible (refine is_if ?_; (refine w_ift rfl ?_))) | (with_reducible first | refine wp_skip ?_ | refine l_nil ?_) | ((with_reducible refine g_on ?_); (first | ((with_reducible refine g_mv ?_); refine l_p txs rfl rfl ?_) | ((with_reducible refine g_ia ?_); refine l_ia txs rfl rfl (by first | omega | assumption | decide) (by first | omega | assumption | decide) ?_))))
    (with_reducible refine is_l ?_); refine l_ld txs rfl rfl (by rw [Int.toNat_natCast]; exact hcell) ?_
    repeat' (first | (with_reducible first | refine p_tn ?_ | refine wp_seq ?_ | refine w_reg ?_ | refine l_nil ?_) | ((with_reducible refine g_on ?_); (first | ((with_reducible refine g_mv ?_); refine l_p txs rfl rfl ?_) | ((with_reducible refine g_as ?_); refine l_p txs rfl rfl ?_))))
    have hel := isElement_c (H.old hM) (hDb _ H.B) (strOfNums y) (by omega) hP
    rw [blS by'] at hel
    (with_reducible refine is_l ?_); refine l_callv rfl rfl (by kernel_rfl) hel (fun w_ K => ?_)
    have H := H.call K
    cases hey : elemB y
    · have hn : pathS (bl t) = false := by
        have : N.all elemB = false := by
          cases hq : N.all elemB with
          | false => rfl
          | true => have := List.all_eq_true.1 hq y hmem; rw [hey] at this; cases this
        rw [hV, this]; rfl
      repeat' (first | (with_reducible first | refine p_tn ?_ | refine p_tr ?_ | refine p_br ?_ | refine wp_seq ?_ | refine w_reg ?_) | (with_reducible (refine is_if ?_; (refine w_ift rfl ?_))) | (with_reducible first | refine wp_ret ?_ | refine l_nil ?_) | ((with_reducible refine g_on ?_); (first | ((with_reducible refine g_mv ?_); refine l_p txs rfl rfl ?_) | ((with_reducible refine g_as ?_); refine l_p txs rfl rfl ?_) | ((with_reducible refine g_pk ?_); refine l_p txs rfl rfl ?_) | ((with_reducible refine g_un ?_); (refine l_p txs rfl rfl ?_)))) | ((with_reducible refine g_if ?_); (refine l_off rfl ?_)))
      refine end1 rfl rfl ?_
      exact ⟨by rw [hn]; first | done | rfl, H.B⟩
    · have hyn : y ≠ [] := fun e => by rw [e] at hey; cases hey
      repeat' (first | ((with_reducible refine g_on ?_); (first | ((with_reducible refine g_mv ?_); refine l_p txs rfl rfl ?_) | ((with_reducible refine g_un ?_); (refine l_p txs rfl rfl ?_)))) | ((with_reducible refine g_if ?_); ((with_reducible refine g_mv ?_); refine l_p txs rfl rfl ?_)))
      (with_reducible refine is_l ?_); refine l_t txs rfl rfl (fun h0 => ?_) (fun h0 => ?_)
      · have hi0 : i = 0 := by omega
        have hhd : N.headD [] = y := by
          cases N with
          | nil => exact absurd rfl hne
          | cons a r => rw [hi0] at hy; exact Option.some.inj hy
        repeat' ((with_reducible refine g_if ?_); ((with_reducible refine g_mv ?_); refine l_p txs rfl rfl ?_))
        have hho := isHost_c (strOfNums y) w_ (by omega) (by rw [blS by']; exact hyn) hP
        rw [blS by'] at hho
        (with_reducible refine is_l ?_); refine l_callv rfl rfl (by kernel_rfl) hho (fun w_ K => ?_)
        have H := H.call K
        cases hhy : hostB y
        · have hn : pathS (bl t) = false := by rw [hV, hhd, hhy]; simp
          repeat' (first | (with_reducible first | refine p_tn ?_ | refine p_tr ?_ | refine p_br ?_ | refine wp_seq ?_ | refine w_reg ?_) | (with_reducible (refine is_if ?_; (refine w_ift rfl ?_))) | (with_reducible first | refine wp_ret ?_ | refine l_nil ?_) | ((with_reducible refine g_on ?_); (first | ((with_reducible refine g_as ?_); refine l_p txs rfl rfl ?_) | ((with_reducible refine g_pk ?_); refine l_p txs rfl rfl ?_))) | ((with_reducible refine g_if ?_); (first | ((with_reducible refine g_pk ?_); refine l_p txs rfl rfl ?_) | ((with_reducible refine g_un ?_); (refine l_p txs rfl rfl ?_)))))
          refine end1 rfl rfl ?_
          exact ⟨by rw [hn]; first | done | rfl, H.B⟩
        · repeat' (first | (with_reducible first | refine p_tn ?_ | refine p_bn ?_ | refine w_reg ?_) | (with_reducible (refine is_if ?_; (refine w_iff rfl ?_))) | (with_reducible first | refine wp_skip ?_ | refine l_nil ?_) | ((with_reducible refine g_on ?_); (first | ((with_reducible refine g_mv ?_); refine l_p txs rfl rfl ?_) | ((with_reducible refine g_pk ?_); refine l_p txs rfl rfl ?_) | ((with_reducible refine g_bi ?_); (refine l_a txs rfl rfl (by first | exact in_i64 (by omega) (by omega) | exact in_u8 (by omega) (by omega) | exact in_u64 (by omega) (by omega) | exact in_i32 (by omega) (by omega)) ?_)))) | ((with_reducible refine g_if ?_); (first | ((with_reducible refine g_pk ?_); refine l_p txs rfl rfl ?_) | ((with_reducible refine g_un ?_); (refine l_p txs rfl rfl ?_)))))
          exact ⟨i + 1, _, rfl, ⟨rfl, rfl, rfl, rfl, trivial⟩, ⟨H, by omega, path_one hy ha hey, fun _ => by rw [hhd]; exact hhy⟩, by omega⟩
      · repeat' (first | (with_reducible first | refine p_tn ?_ | refine p_bn ?_ | refine w_reg ?_) | (with_reducible (refine is_if ?_; (refine w_iff rfl ?_))) | (with_reducible first | refine wp_skip ?_ | refine l_nil ?_) | ((with_reducible refine g_on ?_); (first | ((with_reducible refine g_mv ?_); refine l_p txs rfl rfl ?_) | ((with_reducible refine g_pk ?_); refine l_p txs rfl rfl ?_) | ((with_reducible refine g_bi ?_); (refine l_a txs rfl rfl (by first | exact in_i64 (by omega) (by omega) | exact in_u8 (by omega) (by omega) | exact in_u64 (by omega) (by omega) | exact in_i32 (by omega) (by omega)) ?_)))) | ((with_reducible refine g_if ?_); (first | (refine l_off rfl ?_) | ((with_reducible refine g_mv ?_); refine l_p txs rfl rfl ?_) | ((with_reducible refine g_pk ?_); refine l_p txs rfl rfl ?_))))
        exact ⟨i + 1, _, rfl, ⟨rfl, rfl, rfl, rfl, trivial⟩, ⟨H, by omega, path_one hy ha hey, fun _ => hh (by omega)⟩, by omega⟩
  have hel : N.all elemB = true := by rw [← List.take_of_length_le (l := N) (i := i) (by omega)]; exact ha
  have hho := hh (by omega)
  rw [hel, hho] at hV
  repeat' (first | (with_reducible first | refine p_tn ?_ | refine p_tx ?_ | refine x_hit ?_ | refine wp_seq ?_ | refine w_reg ?_) | (with_reducible (refine is_if ?_; (refine w_iff rfl ?_))) | (with_reducible first | refine wp_exit ?_ | refine l_nil ?_) | ((with_reducible refine g_on ?_); ((with_reducible refine g_mv ?_); refine l_p txs rfl rfl ?_)))
  (with_reducible refine is_l ?_); refine l_callv rfl rfl (by kernel_rfl) (majorOf_c (H.old hM) t (by omega)) (fun w_ K => ?_)
  have H := H.call K
  have hn : pathS (bl t) = (majorS (bl t)).2 := hV
  repeat' (first | (with_reducible first | refine p_tn ?_ | refine wp_seq ?_ | refine w_reg ?_ | refine wp_ret ?_ | refine l_nil ?_) | ((with_reducible refine g_on ?_); (first | ((with_reducible refine g_mv ?_); refine l_p txs rfl rfl ?_) | ((with_reducible refine g_as ?_); refine l_p txs rfl rfl ?_) | ((with_reducible refine g_ex ?_); refine l_p txs rfl rfl ?_))))
  refine end1 rfl rfl ?_
  exact ⟨by rw [hn]; first | done | rfl, H.B⟩
end Go.Proofs.YtnimaenhijlcmaaGreatDoor.K
