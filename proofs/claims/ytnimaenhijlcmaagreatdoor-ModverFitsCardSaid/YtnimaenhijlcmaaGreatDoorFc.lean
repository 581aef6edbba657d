/- The reference's Fits and Key. -/
import Derived.Test.YtnimaenhijlcmaaGreatDoorFb
namespace Go.Proofs.YtnimaenhijlcmaaGreatDoor.K.Ref
open Go.RowKit Go.Proofs.YtnimaenhijlcmaaGreatDoor.Q Go.Proofs.YtnimaenhijlcmaaGreatDoor.K Go.Proofs.YtnimaenhijlcmaaGreatDoor.Mb Go.Proofs.YtnimaenhijlcmaaGreatDoorW.PrintWords
set_option linter.unusedVariables false
set_option linter.unusedSimpArgs false

set_option maxRecDepth 100000 in
set_option maxHeartbeats 16000000 in
theorem Fits_c {w : World} {t2 : TypeId} {fr : Nat × Nat} (hD : w.heap[3]? = some (.cells deC t2 fr)) (t u : ByteArray) :
    Calls Tryz.prog 46 #[.string t, .string u] w fun e w' => e = .returned (.int .i64 (checkS (bl t) (bl u) : Int)) ∧ Below w.heap.size w w' := by
  refine enter (args := [.string t, .string u]) Tryz.func46 rfl Tryz.ntmps46 rfl ?_
  have H := Hp.nil w
  have hV : checkS (bl t) (bl u) = if pathS (bl t) = false then 110 else match parseV (bl u) with | none => 111 | some x => if fitsV x (bl t) then 0 else 111 := rfl
  have hma := fun (w1 : World) (h1 : w1.heap[3]? = some (.cells deC t2 fr)) => Major_c h1 t
  rw [refMajor_eq] at hma
  have bm : Bytes (majorS (bl t)).1 := fun y hy => bl_bytes t y (major_sub _ y hy)
  cases hp : pathS (bl t)
  · rw [hp] at hma
    have hn : checkS (bl t) (bl u) = 110 := by rw [hV, if_pos hp]
    repeat' (first | (with_reducible first | refine p_tn ?_ | refine wp_seq ?_ | refine w_reg ?_ | refine l_nil ?_) | ((with_reducible refine g_on ?_); (first | ((with_reducible refine g_mv ?_); refine l_p txs rfl rfl ?_) | ((with_reducible refine g_as ?_); refine l_p txs rfl rfl ?_))))
    (with_reducible refine is_l ?_); refine l_callv rfl rfl (by kernel_rfl) (hma _ hD) (fun w_ K => ?_)
    have H := H.call K
    repeat' (first | (with_reducible first | refine p_tn ?_ | refine p_tr ?_ | refine wp_seq ?_ | refine w_reg ?_) | (with_reducible (refine is_if ?_; (refine w_ift rfl ?_))) | (with_reducible first | refine wp_ret ?_ | refine l_nil ?_) | ((with_reducible refine g_on ?_); (first | ((with_reducible refine g_mv ?_); refine l_p txs rfl rfl ?_) | ((with_reducible refine g_as ?_); refine l_p txs rfl rfl ?_) | ((with_reducible refine g_ex ?_); refine l_p txs rfl rfl ?_) | ((with_reducible refine g_un ?_); (refine l_p txs rfl rfl ?_)))))
    refine end1 rfl rfl ?_
    exact ⟨by rw [hn]; first | done | rfl, H.B⟩
  · rw [hp, if_pos rfl] at hma
    rw [if_neg (by rw [hp]; simp)] at hV
    have hF : ∀ v : Ver, fitsV v (bl t) = if (majorS (bl t)).1 ≠ [] then !v.odd && decide (v.a = (majorS (bl t)).1) else v.odd || decide (v.a = [48]) || decide (v.a = [49]) := fun v => rfl
    generalize (majorS (bl t)).1 = m at hma hF bm
    repeat' (first | (with_reducible first | refine p_tn ?_ | refine wp_seq ?_ | refine w_reg ?_ | refine l_nil ?_) | ((with_reducible refine g_on ?_); (first | ((with_reducible refine g_mv ?_); refine l_p txs rfl rfl ?_) | ((with_reducible refine g_as ?_); refine l_p txs rfl rfl ?_))))
    (with_reducible refine is_l ?_); refine l_callv rfl rfl (by kernel_rfl) (hma _ hD) (fun w_ K => ?_)
    have H := H.call K
    repeat' (first | (with_reducible first | refine p_tn ?_ | refine wp_seq ?_ | refine w_reg ?_) | (with_reducible (refine is_if ?_; (refine w_iff rfl ?_))) | (with_reducible first | refine wp_skip ?_ | refine l_nil ?_) | ((with_reducible refine g_on ?_); (first | ((with_reducible refine g_mv ?_); refine l_p txs rfl rfl ?_) | ((with_reducible refine g_as ?_); refine l_p txs rfl rfl ?_) | ((with_reducible refine g_ex ?_); refine l_p txs rfl rfl ?_) | ((with_reducible refine g_un ?_); (refine l_p txs rfl rfl ?_)))))
    (with_reducible refine is_l ?_); refine l_call rfl rfl (by kernel_rfl) (Split_c u _) (fun e w_ hR => ?_)
    unfold PaR at hR
    cases hq : parseV (bl u) with
    | none =>
      rw [hq] at hR hV
      obtain ⟨x, y, z, A, n, c, bo, rfl, K⟩ := hR
      refine ⟨_, rfl, ?_⟩
      have H := H.call K
      have hn : checkS (bl t) (bl u) = 111 := hV
      repeat' (first | (with_reducible first | refine p_tn ?_ | refine p_tr ?_ | refine wp_seq ?_ | refine w_reg ?_) | (with_reducible (refine is_if ?_; (refine w_ift rfl ?_))) | (with_reducible first | refine wp_ret ?_ | refine l_nil ?_) | ((with_reducible refine g_on ?_); (first | ((with_reducible refine g_mv ?_); refine l_p txs rfl rfl ?_) | ((with_reducible refine g_as ?_); refine l_p txs rfl rfl ?_) | ((with_reducible refine g_ex ?_); refine l_p txs rfl rfl ?_) | ((with_reducible refine g_st ?_); (refine h_stR recs H 0 rfl rfl rfl rfl rfl rfl rfl rfl rfl (fun w_ H => ?_))) | ((with_reducible refine g_al ?_); refine h_alloc recs H rfl rfl (fun g_ w_ H => ?_)) | ((with_reducible refine g_un ?_); (refine l_p txs rfl rfl ?_)))))
      refine end1 rfl rfl ?_
      exact ⟨by rw [hn]; first | done | rfl, H.B⟩
    | some v =>
      rw [hq] at hR hV
      obtain ⟨A2, c2, rfl, K⟩ := hR
      refine ⟨_, rfl, ?_⟩
      have H := H.call K.B
      have hV : checkS (bl t) (bl u) = if fitsV v (bl t) = true then 0 else 111 := hV
      have hf := hF v
      have iv := ver_in hq
      have e48 : bl (⟨#[48]⟩ : ByteArray) = [48] := rfl
      have e49 : bl (⟨#[49]⟩ : ByteArray) = [49] := rfl
      repeat' (first | (with_reducible first | refine p_tn ?_ | refine wp_seq ?_ | refine w_reg ?_) | (with_reducible (refine is_if ?_; (refine w_iff rfl ?_))) | (with_reducible first | refine wp_skip ?_ | refine l_nil ?_) | ((with_reducible refine g_on ?_); (first | ((with_reducible refine g_mv ?_); refine l_p txs rfl rfl ?_) | ((with_reducible refine g_as ?_); refine l_p txs rfl rfl ?_) | ((with_reducible refine g_ex ?_); refine l_p txs rfl rfl ?_) | ((with_reducible refine g_st ?_); (refine h_stR recs H 0 rfl rfl rfl rfl rfl rfl rfl rfl rfl (fun w_ H => ?_))) | ((with_reducible refine g_al ?_); refine h_alloc recs H rfl rfl (fun g_ w_ H => ?_)) | ((with_reducible refine g_un ?_); (refine l_p txs rfl rfl ?_)))))
      (with_reducible refine is_l ?_); refine l_t txs rfl rfl (fun q1 => ?_) (fun q1 => ?_)
      · rw [blS bm] at q1
        have q1 : m ≠ [] := q1
        rw [if_pos q1] at hf
        rw [hf] at hV
        repeat' (first | (with_reducible first | refine p_tn ?_ | refine wp_seq ?_ | refine w_reg ?_) | (with_reducible (refine is_if ?_; (refine w_ift rfl ?_))) | (with_reducible refine l_nil ?_) | ((with_reducible refine g_on ?_); ((with_reducible refine g_fa ?_); refine h_fa flds rfl rfl ?_)))
        (with_reducible refine is_l ?_); refine l_iaa Tryz.underlying87 info_str1 rfl rfl rfl (by decide) (by decide) ?_
        repeat' ((with_reducible refine g_on ?_); (first | ((with_reducible refine g_mv ?_); refine l_p txs rfl rfl ?_) | ((with_reducible refine g_ld ?_); (refine h_ld txs H 0 rfl rfl rfl rfl ?_))))
        (with_reducible refine is_l ?_); refine l_t txs rfl rfl (fun q2 => ?_) (fun q2 => ?_)
        · rw [blS iv.a.1, blS bm] at q2
          have hn : checkS (bl t) (bl u) = 111 := by rw [hV, decide_eq_false q2]; simp
          repeat' (first | (with_reducible first | refine p_tn ?_ | refine p_tr ?_ | refine wp_seq ?_ | refine w_reg ?_) | (with_reducible (refine is_if ?_; (refine w_ift rfl ?_))) | (with_reducible first | refine wp_ret ?_ | refine l_nil ?_) | ((with_reducible refine g_on ?_); (first | ((with_reducible refine g_mv ?_); refine l_p txs rfl rfl ?_) | ((with_reducible refine g_as ?_); refine l_p txs rfl rfl ?_) | ((with_reducible refine g_pk ?_); refine l_p txs rfl rfl ?_))) | ((with_reducible refine g_if ?_); (refine l_off rfl ?_)))
          refine end1 rfl rfl ?_
          exact ⟨by rw [hn]; first | done | rfl, H.B⟩
        · rw [blS iv.a.1, blS bm] at q2
          cases ho : v.odd
          · rw [ho] at hV H
            have hn : checkS (bl t) (bl u) = 0 := by rw [hV, decide_eq_true (Classical.not_not.1 q2)]; simp
            repeat' (first | (with_reducible first | refine p_tn ?_ | refine p_tr ?_ | refine wp_seq ?_ | refine w_reg ?_) | (with_reducible (refine is_if ?_; (refine w_iff rfl ?_))) | (with_reducible first | refine wp_skip ?_ | refine wp_ret ?_ | refine l_nil ?_) | ((with_reducible refine g_on ?_); (first | ((with_reducible refine g_mv ?_); refine l_p txs rfl rfl ?_) | ((with_reducible refine g_as ?_); refine l_p txs rfl rfl ?_) | ((with_reducible refine g_pk ?_); refine l_p txs rfl rfl ?_))) | ((with_reducible refine g_if ?_); (first | ((with_reducible refine g_fa ?_); refine h_fa flds rfl rfl ?_) | ((with_reducible refine g_ld ?_); (refine h_ld txs H 0 rfl rfl rfl rfl ?_)))))
            refine end1 rfl rfl ?_
            exact ⟨by rw [hn]; first | done | rfl, H.B⟩
          · rw [ho] at hV H
            have hn : checkS (bl t) (bl u) = 111 := by rw [hV]; simp
            repeat' (first | (with_reducible first | refine p_tn ?_ | refine p_tr ?_ | refine wp_seq ?_ | refine w_reg ?_) | (with_reducible (refine is_if ?_; (refine w_ift rfl ?_))) | (with_reducible first | refine wp_ret ?_ | refine l_nil ?_) | ((with_reducible refine g_on ?_); (first | ((with_reducible refine g_mv ?_); refine l_p txs rfl rfl ?_) | ((with_reducible refine g_as ?_); refine l_p txs rfl rfl ?_) | ((with_reducible refine g_pk ?_); refine l_p txs rfl rfl ?_))) | ((with_reducible refine g_if ?_); (first | ((with_reducible refine g_fa ?_); refine h_fa flds rfl rfl ?_) | ((with_reducible refine g_ld ?_); (refine h_ld txs H 0 rfl rfl rfl rfl ?_)))))
            refine end1 rfl rfl ?_
            exact ⟨by rw [hn]; first | done | rfl, H.B⟩
      · rw [blS bm] at q1
        have q1 : m = [] := Classical.not_not.1 q1
        rw [if_neg (fun h => h q1)] at hf
        rw [hf] at hV
        repeat' (first | (with_reducible first | refine p_tn ?_ | refine wp_seq ?_ | refine w_reg ?_) | (with_reducible (refine is_if ?_; (refine w_iff rfl ?_))) | (with_reducible first | refine wp_skip ?_ | refine l_nil ?_) | ((with_reducible refine g_on ?_); ((with_reducible refine g_fa ?_); refine h_fa flds rfl rfl ?_)))
        (with_reducible refine is_l ?_); refine l_iaa Tryz.underlying87 info_str1 rfl rfl rfl (by decide) (by decide) ?_
        repeat' ((with_reducible refine g_on ?_); ((with_reducible refine g_ld ?_); (refine h_ld txs H 0 rfl rfl rfl rfl ?_)))
        (with_reducible refine is_l ?_); refine l_t txs rfl rfl (fun q2 => ?_) (fun q2 => ?_)
        · rw [blS iv.a.1, e48] at q2
          repeat' (first | ((with_reducible refine g_on ?_); ((with_reducible refine g_mv ?_); refine l_p txs rfl rfl ?_)) | ((with_reducible refine g_if ?_); ((with_reducible refine g_fa ?_); refine h_fa flds rfl rfl ?_)))
          (with_reducible refine is_l ?_); refine l_iaa Tryz.underlying87 info_str1 rfl rfl rfl (by decide) (by decide) ?_
          repeat' ((with_reducible refine g_if ?_); ((with_reducible refine g_ld ?_); (refine h_ld txs H 0 rfl rfl rfl rfl ?_)))
          (with_reducible refine is_l ?_); refine l_t txs rfl rfl (fun q3 => ?_) (fun q3 => ?_)
          · rw [blS iv.a.1, e49] at q3
            cases ho : v.odd
            · rw [ho] at hV H
              have hn : checkS (bl t) (bl u) = 111 := by rw [hV, decide_eq_false q2, decide_eq_false q3]; simp
              repeat' (first | (with_reducible first | refine p_tn ?_ | refine p_tr ?_ | refine wp_seq ?_ | refine w_reg ?_) | (with_reducible (refine is_if ?_; (refine w_ift rfl ?_))) | (with_reducible first | refine wp_ret ?_ | refine l_nil ?_) | ((with_reducible refine g_on ?_); (first | ((with_reducible refine g_mv ?_); refine l_p txs rfl rfl ?_) | ((with_reducible refine g_as ?_); refine l_p txs rfl rfl ?_) | ((with_reducible refine g_pk ?_); refine l_p txs rfl rfl ?_))) | ((with_reducible refine g_if ?_); (first | ((with_reducible refine g_fa ?_); refine h_fa flds rfl rfl ?_) | ((with_reducible refine g_ld ?_); (refine h_ld txs H 0 rfl rfl rfl rfl ?_)) | ((with_reducible refine g_un ?_); (refine l_p txs rfl rfl ?_)))))
              refine end1 rfl rfl ?_
              exact ⟨by rw [hn]; first | done | rfl, H.B⟩
            · rw [ho] at hV H
              have hn : checkS (bl t) (bl u) = 0 := by rw [hV]; simp
              repeat' (first | (with_reducible first | refine p_tn ?_ | refine wp_seq ?_ | refine w_reg ?_) | (with_reducible (refine is_if ?_; (refine w_iff rfl ?_))) | (with_reducible first | refine wp_skip ?_ | refine wp_ret ?_ | refine l_nil ?_) | ((with_reducible refine g_on ?_); (first | ((with_reducible refine g_mv ?_); refine l_p txs rfl rfl ?_) | ((with_reducible refine g_as ?_); refine l_p txs rfl rfl ?_) | ((with_reducible refine g_pk ?_); refine l_p txs rfl rfl ?_))) | ((with_reducible refine g_if ?_); (first | ((with_reducible refine g_fa ?_); refine h_fa flds rfl rfl ?_) | ((with_reducible refine g_ld ?_); (refine h_ld txs H 0 rfl rfl rfl rfl ?_)) | ((with_reducible refine g_un ?_); (refine l_p txs rfl rfl ?_)))))
              refine end1 rfl rfl ?_
              exact ⟨by rw [hn]; first | done | rfl, H.B⟩
          · rw [blS iv.a.1, e49] at q3
            have hn : checkS (bl t) (bl u) = 0 := by rw [hV, decide_eq_true (Classical.not_not.1 q3)]; simp
            repeat' (first | (with_reducible first | refine p_tn ?_ | refine wp_seq ?_ | refine w_reg ?_) | (with_reducible (refine is_if ?_; (refine w_iff rfl ?_))) | (with_reducible first | refine wp_skip ?_ | refine wp_ret ?_ | refine l_nil ?_) | ((with_reducible refine g_on ?_); (first | ((with_reducible refine g_mv ?_); refine l_p txs rfl rfl ?_) | ((with_reducible refine g_as ?_); refine l_p txs rfl rfl ?_) | ((with_reducible refine g_pk ?_); refine l_p txs rfl rfl ?_))) | ((with_reducible refine g_if ?_); (refine l_off rfl ?_)))
            refine end1 rfl rfl ?_
            exact ⟨by rw [hn]; first | done | rfl, H.B⟩
        · rw [blS iv.a.1, e48] at q2
          have hn : checkS (bl t) (bl u) = 0 := by rw [hV, decide_eq_true (Classical.not_not.1 q2)]; simp
          repeat' (first | (with_reducible first | refine p_tn ?_ | refine wp_seq ?_ | refine w_reg ?_) | (with_reducible (refine is_if ?_; (refine w_iff rfl ?_))) | (with_reducible first | refine wp_skip ?_ | refine wp_ret ?_ | refine l_nil ?_) | ((with_reducible refine g_on ?_); (first | ((with_reducible refine g_mv ?_); refine l_p txs rfl rfl ?_) | ((with_reducible refine g_as ?_); refine l_p txs rfl rfl ?_) | ((with_reducible refine g_pk ?_); refine l_p txs rfl rfl ?_))) | ((with_reducible refine g_if ?_); (refine l_off rfl ?_)))
          refine end1 rfl rfl ?_
          exact ⟨by rw [hn]; first | done | rfl, H.B⟩
theorem Key_r {w : World} {t2 : TypeId} {fr : Nat × Nat} (hD : w.heap[3]? = some (.cells deC t2 fr)) (t u : ByteArray) :
    Calls Tryz.prog 20 #[.string t, .string u] w fun e w' => e = .returned (.tuple #[.string (keyT t u), .int .i64 (checkS (bl t) (bl u) : Int)]) ∧ Below w.heap.size w w' := by
  refine enter (args := [.string t, .string u]) Tryz.func20 rfl Tryz.ntmps20 rfl ?_
  have H := Hp.nil w
  repeat' (first | (with_reducible first | refine p_tn ?_ | refine wp_seq ?_ | refine w_reg ?_ | refine l_nil ?_) | ((with_reducible refine g_on ?_); (first | ((with_reducible refine g_mv ?_); refine l_p txs rfl rfl ?_) | ((with_reducible refine g_as ?_); refine l_p txs rfl rfl ?_))))
  (with_reducible refine is_l ?_); refine l_callv rfl rfl (by kernel_rfl) (Fits_c hD t u) (fun w_ K => ?_)
  have H := H.call K
  have hsm : checkS (bl t) (bl u) = 0 → t.size ≤ 255 ∧ u.size ≤ 128 := fun h => by
    obtain ⟨h1, x, h2, _⟩ := check_ok h
    rw [← bl_length, ← bl_length]
    exact ⟨(path_ne h1).2, (ver_no h2).2.2.2.2.2.2⟩
  unfold keyT
  generalize checkS (bl t) (bl u) = k at hsm ⊢
  repeat' (first | (with_reducible first | refine p_tn ?_ | refine wp_seq ?_ | refine w_reg ?_ | refine l_nil ?_) | ((with_reducible refine g_on ?_); (first | ((with_reducible refine g_mv ?_); refine l_p txs rfl rfl ?_) | ((with_reducible refine g_as ?_); refine l_p txs rfl rfl ?_))))
  (with_reducible refine is_l ?_); refine l_t txs rfl rfl (fun h1 => ?_) (fun h1 => ?_)
  · repeat' (first | (with_reducible first | refine p_tn ?_ | refine p_tr ?_ | refine wp_seq ?_ | refine w_reg ?_) | (with_reducible (refine is_if ?_; (refine w_ift rfl ?_))) | (with_reducible first | refine wp_ret ?_ | refine l_nil ?_) | ((with_reducible refine g_on ?_); (first | ((with_reducible refine g_mv ?_); refine l_p txs rfl rfl ?_) | ((with_reducible refine g_as ?_); refine l_p txs rfl rfl ?_))))
    refine end2 rfl rfl rfl ?_
    exact ⟨by rw [if_neg (by omega)], H.B⟩
  · have h0 : k = 0 := by omega
    subst h0
    obtain ⟨hts, hus⟩ := hsm rfl
    have hz1 : (⟨#[64]⟩ : ByteArray).size = 1 := rfl
    repeat' (first | (with_reducible first | refine p_tn ?_ | refine wp_seq ?_ | refine w_reg ?_) | (with_reducible (refine is_if ?_; (refine w_iff rfl ?_))) | (with_reducible first | refine wp_skip ?_ | refine l_nil ?_) | ((with_reducible refine g_on ?_); ((with_reducible refine g_mv ?_); refine l_p txs rfl rfl ?_)))
    (with_reducible refine is_l ?_); refine l_cat rfl rfl (by omega) ?_
    repeat' ((with_reducible refine g_on ?_); ((with_reducible refine g_mv ?_); refine l_p txs rfl rfl ?_))
    (with_reducible refine is_l ?_); refine l_cat rfl rfl (by rw [ByteArray.size_append]; omega) ?_
    repeat' (first | (with_reducible first | refine p_tn ?_ | refine wp_ret ?_ | refine l_nil ?_) | ((with_reducible refine g_on ?_); ((with_reducible refine g_as ?_); refine l_p txs rfl rfl ?_)))
    refine end2 rfl rfl rfl ?_
    exact ⟨by rw [if_pos rfl]; rfl, H.B⟩
end Go.Proofs.YtnimaenhijlcmaaGreatDoor.K.Ref
