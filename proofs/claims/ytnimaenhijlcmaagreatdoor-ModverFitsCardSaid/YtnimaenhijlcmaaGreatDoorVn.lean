/- A path and a version fit; keys. -/
import Derived.Test.YtnimaenhijlcmaaGreatDoorVm
namespace Go.Proofs.YtnimaenhijlcmaaGreatDoor.K
open Go.RowKit Go.Proofs.YtnimaenhijlcmaaGreatDoor.Q Go.Proofs.YtnimaenhijlcmaaGreatDoor.Mb Go.Proofs.YtnimaenhijlcmaaGreatDoorW.PrintWords
set_option linter.unusedVariables false
set_option linter.unusedSimpArgs false

theorem major_sub (s : L) : ∀ y ∈ (majorS s).1, y ∈ s := by
  have hne := splitC_ne (c := 47) s
  have hsm := split_mem 47 s
  unfold majorS
  generalize splitC 47 s = N at hne hsm ⊢
  cases N with
  | nil => exact absurd rfl hne
  | cons x r =>
    rw [majE_eq x r _ rfl]
    have hz : ∀ y ∈ (x :: r).getLastD [], y ∈ s := by
      rw [List.getLastD_eq_getLast?, List.getLast?_eq_some_getLast hne]
      exact (hsm _ (List.getLast_mem hne)).1
    generalize (x :: r).getLastD [] = z at hz ⊢
    split
    · intro y hy
      refine hz y ((endCut_sub (r := z) (e := unstable)).1 y ?_)
      unfold majG at hy
      rw [← bare_tail ((endCut z unstable).getD z)]
      exact List.mem_append_right _ hy
    · unfold majL
      split
      · intro y hy; cases hy
      · intro y hy; exact hz y (List.mem_of_mem_tail hy)
set_option maxRecDepth 100000 in
set_option maxHeartbeats 8000000 in
theorem fits_c {w : World} {mx : Int} (hM : w.cell? ⟨0, 0, none⟩ = some (.int .i64 mx)) {v : Ver} (hv : VerIn v) (A : Option Addr) (c : Nat) (t : ByteArray) (ht : t.size ≤ 100000000) :
    Calls Tryz.prog 68 #[.agg (verA v A c), .string t] w fun e w' => e = .returned (.bool (fitsV v (bl t))) ∧ Below w.heap.size w w' := by
  refine enter (args := [.agg (verA v A c), .string t]) Tryz.func68 rfl Tryz.ntmps68 rfl ?_
  have H := Hp.nil w
  have bm : Bytes (majorS (bl t)).1 := fun y hy => bl_bytes t y (major_sub _ y hy)
  have hV : fitsV v (bl t) = if (majorS (bl t)).1 ≠ [] then !v.odd && decide (v.a = (majorS (bl t)).1) else v.odd || decide (v.a = [48]) || decide (v.a = [49]) := rfl
  have e48 : bl (⟨#[48]⟩ : ByteArray) = [48] := rfl
  have e49 : bl (⟨#[49]⟩ : ByteArray) = [49] := rfl
  repeat' (with_reducible first | refine wp_seq ?_ | refine w_reg ?_)
  (with_reducible refine is_l ?_); refine h_box H rfl rfl rfl (fun gX w_ H => ?_)
  repeat' (first | (with_reducible first | refine p_tn ?_ | refine wp_seq ?_ | refine w_reg ?_ | refine l_nil ?_) | ((with_reducible refine g_on ?_); (first | ((with_reducible refine g_mv ?_); refine l_p txs rfl rfl ?_) | ((with_reducible refine g_as ?_); refine l_p txs rfl rfl ?_))))
  (with_reducible refine is_l ?_); refine l_callv rfl rfl (by kernel_rfl) (majorOf_c (H.old hM) t ht) (fun w_ K => ?_)
  have H := H.call K
  generalize (majorS (bl t)).1 = m at bm hV ⊢
  repeat' (first | (with_reducible first | refine p_tn ?_ | refine wp_seq ?_ | refine w_reg ?_ | refine l_nil ?_) | ((with_reducible refine g_on ?_); (first | ((with_reducible refine g_mv ?_); refine l_p txs rfl rfl ?_) | ((with_reducible refine g_as ?_); refine l_p txs rfl rfl ?_) | ((with_reducible refine g_ex ?_); refine l_p txs rfl rfl ?_))))
  (with_reducible refine is_l ?_); refine l_t txs rfl rfl (fun h1 => ?_) (fun h1 => ?_)
  · rw [blS bm] at h1
    have h1 : m ≠ [] := h1
    rw [if_pos h1] at hV
    cases ho : v.odd
    · rw [ho] at H hV
      repeat' (first | (with_reducible first | refine p_tn ?_ | refine wp_seq ?_ | refine w_reg ?_) | (with_reducible (refine is_if ?_; (refine w_ift rfl ?_))) | (with_reducible refine l_nil ?_) | ((with_reducible refine g_on ?_); (first | ((with_reducible refine g_mv ?_); refine l_p txs rfl rfl ?_) | ((with_reducible refine g_fa ?_); refine h_fa flds rfl rfl ?_) | ((with_reducible refine g_ld ?_); (refine h_ld txs H 0 rfl rfl rfl rfl ?_)) | ((with_reducible refine g_un ?_); (refine l_p txs rfl rfl ?_)))) | ((with_reducible refine g_if ?_); ((with_reducible refine g_fa ?_); refine h_fa flds rfl rfl ?_)))
      (with_reducible refine is_l ?_); refine l_iaa Tryz.underlying87 info_str1 rfl rfl rfl (by decide) (by decide) ?_
      repeat' ((with_reducible refine g_if ?_); (first | ((with_reducible refine g_mv ?_); refine l_p txs rfl rfl ?_) | ((with_reducible refine g_ld ?_); (refine h_ld txs H 0 rfl rfl rfl rfl ?_))))
      (with_reducible refine is_l ?_); refine l_t txs rfl rfl (fun h2 => ?_) (fun h2 => ?_)
      · rw [blS hv.a.1, blS bm] at h2
        have hn : fitsV v (bl t) = true := by rw [hV, decide_eq_true h2]; rfl
        repeat' (first | (with_reducible first | refine p_tn ?_ | refine p_tr ?_ | refine wp_ret ?_ | refine l_nil ?_) | ((with_reducible refine g_on ?_); (first | ((with_reducible refine g_as ?_); refine l_p txs rfl rfl ?_) | ((with_reducible refine g_pk ?_); refine l_p txs rfl rfl ?_))))
        refine end1 rfl rfl ?_
        exact ⟨by rw [hn]; first | done | rfl, H.B⟩
      · rw [blS hv.a.1, blS bm] at h2
        have hn : fitsV v (bl t) = false := by rw [hV, decide_eq_false h2]; rfl
        repeat' (first | (with_reducible first | refine p_tn ?_ | refine p_tr ?_ | refine wp_ret ?_ | refine l_nil ?_) | ((with_reducible refine g_on ?_); (first | ((with_reducible refine g_as ?_); refine l_p txs rfl rfl ?_) | ((with_reducible refine g_pk ?_); refine l_p txs rfl rfl ?_))))
        refine end1 rfl rfl ?_
        exact ⟨by rw [hn]; first | done | rfl, H.B⟩
    · rw [ho] at H hV
      have hn : fitsV v (bl t) = false := by rw [hV]; rfl
      repeat' (first | (with_reducible first | refine p_tn ?_ | refine p_tr ?_ | refine wp_seq ?_ | refine w_reg ?_) | (with_reducible (refine is_if ?_; (refine w_ift rfl ?_))) | (with_reducible first | refine wp_ret ?_ | refine l_nil ?_) | ((with_reducible refine g_on ?_); (first | ((with_reducible refine g_mv ?_); refine l_p txs rfl rfl ?_) | ((with_reducible refine g_as ?_); refine l_p txs rfl rfl ?_) | ((with_reducible refine g_pk ?_); refine l_p txs rfl rfl ?_) | ((with_reducible refine g_fa ?_); refine h_fa flds rfl rfl ?_) | ((with_reducible refine g_ld ?_); (refine h_ld txs H 0 rfl rfl rfl rfl ?_)) | ((with_reducible refine g_un ?_); (refine l_p txs rfl rfl ?_)))) | ((with_reducible refine g_if ?_); (refine l_off rfl ?_)))
      refine end1 rfl rfl ?_
      exact ⟨by rw [hn]; first | done | rfl, H.B⟩
  · rw [blS bm] at h1
    have h1 : m = [] := Classical.not_not.1 h1
    rw [if_neg (fun h => h h1)] at hV
    cases ho : v.odd
    · rw [ho] at H hV
      repeat' (first | (with_reducible first | refine p_tn ?_ | refine wp_seq ?_ | refine w_reg ?_) | (with_reducible (refine is_if ?_; (refine w_iff rfl ?_))) | (with_reducible first | refine wp_skip ?_ | refine l_nil ?_) | ((with_reducible refine g_on ?_); (first | ((with_reducible refine g_mv ?_); refine l_p txs rfl rfl ?_) | ((with_reducible refine g_fa ?_); refine h_fa flds rfl rfl ?_) | ((with_reducible refine g_ld ?_); (refine h_ld txs H 0 rfl rfl rfl rfl ?_)))) | ((with_reducible refine g_if ?_); ((with_reducible refine g_fa ?_); refine h_fa flds rfl rfl ?_)))
      (with_reducible refine is_l ?_); refine l_iaa Tryz.underlying87 info_str1 rfl rfl rfl (by decide) (by decide) ?_
      repeat' ((with_reducible refine g_if ?_); ((with_reducible refine g_ld ?_); (refine h_ld txs H 0 rfl rfl rfl rfl ?_)))
      (with_reducible refine is_l ?_); refine l_t txs rfl rfl (fun h2 => ?_) (fun h2 => ?_)
      · rw [blS hv.a.1, e48] at h2
        have hn : fitsV v (bl t) = true := by rw [hV, decide_eq_true h2]; simp
        repeat' (first | (with_reducible first | refine p_tn ?_ | refine wp_ret ?_ | refine l_nil ?_) | ((with_reducible refine g_on ?_); (first | ((with_reducible refine g_mv ?_); refine l_p txs rfl rfl ?_) | ((with_reducible refine g_as ?_); refine l_p txs rfl rfl ?_) | ((with_reducible refine g_pk ?_); refine l_p txs rfl rfl ?_))) | ((with_reducible refine g_if ?_); (refine l_off rfl ?_)))
        refine end1 rfl rfl ?_
        exact ⟨by rw [hn]; first | done | rfl, H.B⟩
      · rw [blS hv.a.1, e48] at h2
        repeat' (first | ((with_reducible refine g_on ?_); (first | ((with_reducible refine g_mv ?_); refine l_p txs rfl rfl ?_) | ((with_reducible refine g_pk ?_); refine l_p txs rfl rfl ?_))) | ((with_reducible refine g_if ?_); ((with_reducible refine g_fa ?_); refine h_fa flds rfl rfl ?_)))
        (with_reducible refine is_l ?_); refine l_iaa Tryz.underlying87 info_str1 rfl rfl rfl (by decide) (by decide) ?_
        repeat' ((with_reducible refine g_if ?_); ((with_reducible refine g_ld ?_); (refine h_ld txs H 0 rfl rfl rfl rfl ?_)))
        (with_reducible refine is_l ?_); refine l_t txs rfl rfl (fun h3 => ?_) (fun h3 => ?_)
        · rw [blS hv.a.1, e49] at h3
          have hn : fitsV v (bl t) = true := by rw [hV, decide_eq_true h3]; simp
          repeat' (first | (with_reducible first | refine p_tn ?_ | refine wp_ret ?_ | refine l_nil ?_) | ((with_reducible refine g_on ?_); (first | ((with_reducible refine g_as ?_); refine l_p txs rfl rfl ?_) | ((with_reducible refine g_pk ?_); refine l_p txs rfl rfl ?_))))
          refine end1 rfl rfl ?_
          exact ⟨by rw [hn]; first | done | rfl, H.B⟩
        · rw [blS hv.a.1, e49] at h3
          have hn : fitsV v (bl t) = false := by rw [hV, decide_eq_false h2, decide_eq_false h3]; rfl
          repeat' (first | (with_reducible first | refine p_tn ?_ | refine wp_ret ?_ | refine l_nil ?_) | ((with_reducible refine g_on ?_); (first | ((with_reducible refine g_as ?_); refine l_p txs rfl rfl ?_) | ((with_reducible refine g_pk ?_); refine l_p txs rfl rfl ?_))))
          refine end1 rfl rfl ?_
          exact ⟨by rw [hn]; first | done | rfl, H.B⟩
    · rw [ho] at H hV
      have hn : fitsV v (bl t) = true := by rw [hV]; simp
      repeat' (first | (with_reducible first | refine p_tn ?_ | refine wp_seq ?_ | refine w_reg ?_) | (with_reducible (refine is_if ?_; (refine w_iff rfl ?_))) | (with_reducible first | refine wp_skip ?_ | refine wp_ret ?_ | refine l_nil ?_) | ((with_reducible refine g_on ?_); (first | ((with_reducible refine g_mv ?_); refine l_p txs rfl rfl ?_) | ((with_reducible refine g_as ?_); refine l_p txs rfl rfl ?_) | ((with_reducible refine g_pk ?_); refine l_p txs rfl rfl ?_) | ((with_reducible refine g_fa ?_); refine h_fa flds rfl rfl ?_) | ((with_reducible refine g_ld ?_); (refine h_ld txs H 0 rfl rfl rfl rfl ?_)))) | ((with_reducible refine g_if ?_); (refine l_off rfl ?_)))
      refine end1 rfl rfl ?_
      exact ⟨by rw [hn]; first | done | rfl, H.B⟩
/-- The seat's variables, as they lie. -/
structure Lay (w : World) : Prop where
  mxs : ∃ mx, w.cell? ⟨0, 0, none⟩ = some (.int .i64 mx)
  mks : ∃ t fr, w.heap[1]? = some (.cells mkC t fr)
  des : ∃ t fr, w.heap[2]? = some (.cells deC t fr)
theorem Lay.below {w w' : World} (h : Lay w) (K : Below w.heap.size w w') : Lay w' := by
  obtain ⟨⟨m, hm⟩, ⟨t1, f1, h1⟩, ⟨t2, f2, h2⟩⟩ := h
  exact ⟨⟨m, (Hp.nil w |>.call K).old hm⟩, ⟨t1, f1, (K.block _ (blk_lt h1)).trans h1⟩, ⟨t2, f2, (K.block _ (blk_lt h2)).trans h2⟩⟩
set_option maxHeartbeats 8000000 in
theorem check_c {w : World} (hL : Lay w) (t u : ByteArray) :
    Calls Tryz.prog 39 #[.string t, .string u] w fun e w' => e = .returned (.int .i64 (checkS (bl t) (bl u) : Int)) ∧ Below w.heap.size w w' := by
  obtain ⟨⟨mx, hM⟩, ⟨t1, fr1, hT⟩, ⟨t2, fr2, hD⟩⟩ := hL
  refine enter (args := [.string t, .string u]) Tryz.func39 rfl Tryz.ntmps39 rfl ?_
  have H := Hp.nil w
  have hV : checkS (bl t) (bl u) = if pathS (bl t) = false then 110 else match parseV (bl u) with | none => 111 | some x => if fitsV x (bl t) then 0 else 111 := rfl
  repeat' (first | (with_reducible first | refine p_tn ?_ | refine wp_seq ?_ | refine w_reg ?_ | refine l_nil ?_) | ((with_reducible refine g_on ?_); (first | ((with_reducible refine g_mv ?_); refine l_p txs rfl rfl ?_) | ((with_reducible refine g_as ?_); refine l_p txs rfl rfl ?_))))
  (with_reducible refine is_l ?_); refine l_callv rfl rfl (by kernel_rfl) (isPath_c hM hT hD t) (fun w_ K => ?_)
  have H := H.call K
  cases hp : pathS (bl t)
  · rw [if_pos hp] at hV
    have hn := hV
    repeat' (first | (with_reducible first | refine p_tn ?_ | refine p_tr ?_ | refine wp_seq ?_ | refine w_reg ?_) | (with_reducible (refine is_if ?_; (refine w_ift rfl ?_))) | (with_reducible first | refine wp_ret ?_ | refine l_nil ?_) | ((with_reducible refine g_on ?_); (first | ((with_reducible refine g_as ?_); refine l_p txs rfl rfl ?_) | ((with_reducible refine g_un ?_); (refine l_p txs rfl rfl ?_)))))
    refine end1 rfl rfl ?_
    exact ⟨by rw [hn]; first | done | rfl, H.B⟩
  rw [if_neg (by rw [hp]; simp)] at hV
  have htl : t.size ≤ 255 := by rw [← bl_length]; exact (path_ne hp).2
  repeat' (first | (with_reducible first | refine p_tn ?_ | refine wp_seq ?_ | refine w_reg ?_) | (with_reducible (refine is_if ?_; (refine w_iff rfl ?_))) | (with_reducible first | refine wp_skip ?_ | refine l_nil ?_) | ((with_reducible refine g_on ?_); (first | ((with_reducible refine g_mv ?_); refine l_p txs rfl rfl ?_) | ((with_reducible refine g_un ?_); (refine l_p txs rfl rfl ?_)))))
  (with_reducible refine is_l ?_); refine l_call rfl rfl (by kernel_rfl) (parse_c (H.old hM) u) (fun e w_ hR => ?_)
  unfold PaR at hR
  cases hq : parseV (bl u) with
  | none =>
    rw [hq] at hR hV
    obtain ⟨x, y, z, A, n, c, b, rfl, K⟩ := hR
    refine ⟨_, rfl, ?_⟩
    have H := H.call K
    have hn : checkS (bl t) (bl u) = 111 := hV
    repeat' (first | (with_reducible first | refine p_tn ?_ | refine p_tr ?_ | refine wp_seq ?_ | refine w_reg ?_) | (with_reducible (refine is_if ?_; (refine w_ift rfl ?_))) | (with_reducible first | refine wp_ret ?_ | refine l_nil ?_) | ((with_reducible refine g_on ?_); (first | ((with_reducible refine g_mv ?_); refine l_p txs rfl rfl ?_) | ((with_reducible refine g_as ?_); refine l_p txs rfl rfl ?_) | ((with_reducible refine g_ex ?_); refine l_p txs rfl rfl ?_) | ((with_reducible refine g_pk ?_); refine l_p txs rfl rfl ?_) | ((with_reducible refine g_st ?_); (refine h_stR recs H 0 rfl rfl rfl rfl rfl rfl rfl rfl rfl (fun w_ H => ?_))) | ((with_reducible refine g_al ?_); refine h_alloc recs H rfl rfl (fun g_ w_ H => ?_)) | ((with_reducible refine g_un ?_); (refine l_p txs rfl rfl ?_)))) | ((with_reducible refine g_if ?_); (refine l_off rfl ?_)))
    refine end1 rfl rfl ?_
    exact ⟨by rw [hn]; first | done | rfl, H.B⟩
  | some v =>
    rw [hq] at hR hV
    obtain ⟨A, c, rfl, K⟩ := hR
    refine ⟨_, rfl, ?_⟩
    have H := H.join K
    have hV : checkS (bl t) (bl u) = if fitsV v (bl t) = true then 0 else 111 := hV
    repeat' (first | (with_reducible first | refine p_tn ?_ | refine wp_seq ?_ | refine w_reg ?_ | refine l_nil ?_) | ((with_reducible refine g_on ?_); (first | ((with_reducible refine g_mv ?_); refine l_p txs rfl rfl ?_) | ((with_reducible refine g_as ?_); refine l_p txs rfl rfl ?_) | ((with_reducible refine g_ex ?_); refine l_p txs rfl rfl ?_) | ((with_reducible refine g_st ?_); (refine h_stR recs H 0 rfl rfl rfl rfl rfl rfl rfl rfl rfl (fun w_ H => ?_))) | ((with_reducible refine g_al ?_); refine h_alloc recs H rfl rfl (fun g_ w_ H => ?_)) | ((with_reducible refine g_un ?_); (refine l_p txs rfl rfl ?_)))) | ((with_reducible refine g_if ?_); (first | ((with_reducible refine g_mv ?_); refine l_p txs rfl rfl ?_) | ((with_reducible refine g_ld ?_); (refine h_ldR recs H 0 rfl rfl rfl rfl rfl ?_)))))
    (with_reducible refine is_l ?_); refine l_callv rfl rfl (by kernel_rfl) (fits_c (H.old hM) (ver_in hq) A c t (by omega)) (fun w_ K => ?_)
    have H := H.call K
    cases hf : fitsV v (bl t)
    · have hn : checkS (bl t) (bl u) = 111 := by rw [hV, hf]; rfl
      repeat' (first | (with_reducible first | refine p_tn ?_ | refine p_tr ?_ | refine wp_seq ?_ | refine w_reg ?_) | (with_reducible (refine is_if ?_; (refine w_ift rfl ?_))) | (with_reducible first | refine wp_ret ?_ | refine l_nil ?_) | ((with_reducible refine g_on ?_); (first | ((with_reducible refine g_as ?_); refine l_p txs rfl rfl ?_) | ((with_reducible refine g_pk ?_); refine l_p txs rfl rfl ?_))) | ((with_reducible refine g_if ?_); ((with_reducible refine g_un ?_); (refine l_p txs rfl rfl ?_))))
      refine end1 rfl rfl ?_
      exact ⟨by rw [hn]; first | done | rfl, H.B⟩
    · have hn : checkS (bl t) (bl u) = 0 := by rw [hV, hf]; rfl
      repeat' (first | (with_reducible first | refine p_tn ?_ | refine wp_seq ?_ | refine w_reg ?_) | (with_reducible (refine is_if ?_; (refine w_iff rfl ?_))) | (with_reducible first | refine wp_skip ?_ | refine wp_ret ?_ | refine l_nil ?_) | ((with_reducible refine g_on ?_); (first | ((with_reducible refine g_as ?_); refine l_p txs rfl rfl ?_) | ((with_reducible refine g_pk ?_); refine l_p txs rfl rfl ?_))) | ((with_reducible refine g_if ?_); ((with_reducible refine g_un ?_); (refine l_p txs rfl rfl ?_))))
      refine end1 rfl rfl ?_
      exact ⟨by rw [hn]; first | done | rfl, H.B⟩
def pathN (p : L) : Nat := if pathS p then 0 else 110
theorem checkPath_c {w : World} (hL : Lay w) (t : ByteArray) :
    Calls Tryz.prog 40 #[.string t] w fun e w' => e = .returned (.int .i64 (pathN (bl t) : Int)) ∧ Below w.heap.size w w' := by
  obtain ⟨⟨mx, hM⟩, ⟨t1, fr1, hT⟩, ⟨t2, fr2, hD⟩⟩ := hL
  refine enter (args := [.string t]) Tryz.func40 rfl Tryz.ntmps40 rfl ?_
  have H := Hp.nil w
  repeat' (first | (with_reducible first | refine p_tn ?_ | refine wp_seq ?_ | refine w_reg ?_ | refine l_nil ?_) | ((with_reducible refine g_on ?_); (first | ((with_reducible refine g_mv ?_); refine l_p txs rfl rfl ?_) | ((with_reducible refine g_as ?_); refine l_p txs rfl rfl ?_))))
  (with_reducible refine is_l ?_); refine l_callv rfl rfl (by kernel_rfl) (isPath_c hM hT hD t) (fun w_ K => ?_)
  have H := H.call K
  cases hp : pathS (bl t)
  · have hn : pathN (bl t) = 110 := by unfold pathN; rw [hp]; rfl
    repeat' (first | (with_reducible first | refine p_tn ?_ | refine p_tr ?_ | refine wp_seq ?_ | refine w_reg ?_) | (with_reducible (refine is_if ?_; (refine w_ift rfl ?_))) | (with_reducible first | refine wp_ret ?_ | refine l_nil ?_) | ((with_reducible refine g_on ?_); (first | ((with_reducible refine g_as ?_); refine l_p txs rfl rfl ?_) | ((with_reducible refine g_un ?_); (refine l_p txs rfl rfl ?_)))))
    refine end1 rfl rfl ?_
    exact ⟨by rw [hn]; first | done | rfl, H.B⟩
  · have hn : pathN (bl t) = 0 := by unfold pathN; rw [hp]; rfl
    repeat' (first | (with_reducible first | refine p_tn ?_ | refine wp_seq ?_ | refine w_reg ?_) | (with_reducible (refine is_if ?_; (refine w_iff rfl ?_))) | (with_reducible first | refine wp_skip ?_ | refine wp_ret ?_ | refine l_nil ?_) | ((with_reducible refine g_on ?_); (first | ((with_reducible refine g_as ?_); refine l_p txs rfl rfl ?_) | ((with_reducible refine g_un ?_); (refine l_p txs rfl rfl ?_)))))
    refine end1 rfl rfl ?_
    exact ⟨by rw [hn]; first | done | rfl, H.B⟩
/-- A key's text. -/
def keyT (t u : ByteArray) : ByteArray := if checkS (bl t) (bl u) = 0 then t ++ ⟨#[64]⟩ ++ u else ⟨#[]⟩
theorem Key_c {w : World} (hL : Lay w) (t u : ByteArray) :
    Calls Tryz.prog 21 #[.string t, .string u] w fun e w' => e = .returned (.tuple #[.string (keyT t u), .int .i64 (checkS (bl t) (bl u) : Int)]) ∧ Below w.heap.size w w' := by
  refine enter (args := [.string t, .string u]) Tryz.func21 rfl Tryz.ntmps21 rfl ?_
  have H := Hp.nil w
  repeat' (first | (with_reducible first | refine p_tn ?_ | refine wp_seq ?_ | refine w_reg ?_ | refine l_nil ?_) | ((with_reducible refine g_on ?_); (first | ((with_reducible refine g_mv ?_); refine l_p txs rfl rfl ?_) | ((with_reducible refine g_as ?_); refine l_p txs rfl rfl ?_))))
  (with_reducible refine is_l ?_); refine l_callv rfl rfl (by kernel_rfl) (check_c hL t u) (fun w_ K => ?_)
  have H := H.call K
  have hsm : checkS (bl t) (bl u) = 0 → t.size ≤ 255 ∧ u.size ≤ 128 := fun h => by
    obtain ⟨h1, x, h2, _⟩ := check_ok h
    rw [← bl_length, ← bl_length]
    exact ⟨(path_ne h1).2, (ver_no h2).2.2.2.2.2.2⟩
  unfold keyT
  generalize checkS (bl t) (bl u) = k at hsm ⊢
  repeat' (first | (with_reducible first | refine p_tn ?_ | refine wp_seq ?_ | refine w_reg ?_ | refine l_nil ?_) | ((with_reducible refine g_on ?_); (first | ((with_reducible refine g_mv ?_); refine l_p txs rfl rfl ?_) | ((with_reducible refine g_as ?_); refine l_p txs rfl rfl ?_))))
  (with_reducible refine is_l ?_); refine l_t txs rfl rfl (fun h1 => ?_) (fun h1 => ?_)
  · repeat' (first | (with_reducible first | refine p_tn ?_ | refine p_tr ?_ | refine wp_seq ?_ | refine w_reg ?_) | (with_reducible (refine is_if ?_; (refine w_ift rfl ?_))) | (with_reducible first | refine wp_ret ?_ | refine l_nil ?_) | ((with_reducible refine g_on ?_); (first | ((with_reducible refine g_mv ?_); refine l_p txs rfl rfl ?_) | ((with_reducible refine g_as ?_); refine l_p txs rfl rfl ?_))))
    refine end2 rfl rfl rfl ?_
    exact ⟨by rw [if_neg (by omega)], H.B⟩
  · have h0 : k = 0 := by omega
    subst h0
    obtain ⟨hts, hus⟩ := hsm rfl
    have hz1 : (⟨#[64]⟩ : ByteArray).size = 1 := rfl
    repeat' (first | (with_reducible first | refine p_tn ?_ | refine wp_seq ?_ | refine w_reg ?_) | (with_reducible (refine is_if ?_; (refine w_iff rfl ?_))) | (with_reducible first | refine wp_skip ?_ | refine l_nil ?_) | ((with_reducible refine g_on ?_); ((with_reducible refine g_mv ?_); refine l_p txs rfl rfl ?_)))
    (with_reducible refine is_l ?_); refine l_cat rfl rfl (by omega) ?_
    repeat' ((with_reducible refine g_on ?_); ((with_reducible refine g_mv ?_); refine l_p txs rfl rfl ?_))
    (with_reducible refine is_l ?_); refine l_cat rfl rfl (by rw [ByteArray.size_append]; omega) ?_
    repeat' (first | (with_reducible first | refine p_tn ?_ | refine wp_ret ?_ | refine l_nil ?_) | ((with_reducible refine g_on ?_); ((with_reducible refine g_as ?_); refine l_p txs rfl rfl ?_)))
    refine end2 rfl rfl rfl ?_
    exact ⟨by rw [if_pos rfl]; rfl, H.B⟩
end Go.Proofs.YtnimaenhijlcmaaGreatDoor.K
