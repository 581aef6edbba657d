/- CheckVersion, Compare. -/
import Derived.Test.YtnimaenhijlcmaaGreatDoorVg
namespace Go.Proofs.YtnimaenhijlcmaaGreatDoor.K
open Go.RowKit Go.Proofs.YtnimaenhijlcmaaGreatDoor.Q Go.Proofs.YtnimaenhijlcmaaGreatDoor.Mb Go.Proofs.YtnimaenhijlcmaaGreatDoorW.PrintWords
set_option linter.unusedVariables false
set_option linter.unusedSimpArgs false

theorem dig_bytes {l : L} (h : l.all digB = true) : Bytes l := fun x hx => by
  have := List.all_eq_true.1 h x hx
  unfold digB at this
  simp at this
  omega
theorem word_bytes {l : L} (h : wordB l = true) : Bytes l := fun x hx => by
  unfold wordB at h
  simp only [Bool.and_eq_true] at h
  have := List.all_eq_true.1 h.1.1 x hx
  unfold wordC digB smlB capB at this
  simp at this
  omega
theorem ver_in {s : L} {v : Ver} (h : parseV s = some v) : VerIn v := by
  obtain ⟨pre, hs, hw, ha, hb, hc, hall, _, hl⟩ := parseV_text h
  have hlen : v.a.length + v.b.length + v.c.length + (preT pre).length ≤ s.length := by
    rw [hs]; unfold verText; simp; omega
  have hwl : v.words.length ≤ 129 ∧ ∀ x ∈ v.words, x.length ≤ 128 := by
    rw [← hw]
    cases pre with
    | none => exact ⟨by simp [verWords], fun x hx => by simp [verWords] at hx⟩
    | some p =>
      have hp : (preT (some p)).length = p.length + 1 := rfl
      have h1 := split_len 46 p
      refine ⟨by show (splitC 46 p).length ≤ _; omega, fun x hx => ?_⟩
      have := (split_mem 46 p x hx).2
      omega
  exact ⟨⟨dig_bytes (numB_dig ha).1, by omega⟩, ⟨dig_bytes (numB_dig hb).1, by omega⟩, ⟨dig_bytes (numB_dig hc).1, by omega⟩, fun x hx => ⟨word_bytes (hall x hx), by have := hwl.2 x hx; omega⟩, by omega⟩
/-- What CheckVersion says. -/
def chkV (s : L) : Int := if (parseV s).isSome then 0 else 111
set_option maxHeartbeats 4000000 in
theorem checkVersion_c {w : World} {mx : Int} (hM : w.cell? ⟨0, 0, none⟩ = some (.int .i64 mx)) (t : ByteArray) :
    Calls Tryz.prog 42 #[.string t] w fun e w' => e = .returned (.int .i64 (chkV (bl t))) ∧ Below w.heap.size w w' := by
  refine enter (args := [.string t]) Tryz.func42 rfl Tryz.ntmps42 rfl ?_
  have H := Hp.nil w
  repeat' (first | (with_reducible first | refine p_tn ?_ | refine wp_seq ?_ | refine w_reg ?_ | refine l_nil ?_) | ((with_reducible refine g_on ?_); (first | ((with_reducible refine g_mv ?_); refine l_p txs rfl rfl ?_) | ((with_reducible refine g_as ?_); refine l_p txs rfl rfl ?_))))
  (with_reducible refine is_l ?_); refine l_call rfl rfl (by kernel_rfl) (parse_c (H.old hM) t) (fun e w_ hR => ?_)
  unfold PaR at hR
  unfold chkV
  cases hp : parseV (bl t) with
  | none =>
    rw [hp] at hR
    obtain ⟨x, y, z, A, n, c, b, rfl, K⟩ := hR
    refine ⟨_, rfl, ?_⟩
    have H := H.call K
    repeat' (first | (with_reducible first | refine p_tn ?_ | refine p_tr ?_ | refine wp_seq ?_ | refine w_reg ?_) | (with_reducible (refine is_if ?_; (refine w_ift rfl ?_))) | (with_reducible first | refine wp_ret ?_ | refine l_nil ?_) | ((with_reducible refine g_on ?_); (first | ((with_reducible refine g_mv ?_); refine l_p txs rfl rfl ?_) | ((with_reducible refine g_as ?_); refine l_p txs rfl rfl ?_) | ((with_reducible refine g_ex ?_); refine l_p txs rfl rfl ?_) | ((with_reducible refine g_st ?_); (refine h_stR recs H 0 rfl rfl rfl rfl rfl rfl rfl rfl rfl (fun w_ H => ?_))) | ((with_reducible refine g_al ?_); refine h_alloc recs H rfl rfl (fun g_ w_ H => ?_)) | ((with_reducible refine g_un ?_); (refine l_p txs rfl rfl ?_)))))
    refine end1 rfl rfl ?_
    exact ⟨rfl, H.B⟩
  | some v =>
    rw [hp] at hR
    obtain ⟨A, c, rfl, K⟩ := hR
    refine ⟨_, rfl, ?_⟩
    have H := H.join K
    repeat' (first | (with_reducible first | refine p_tn ?_ | refine wp_seq ?_ | refine w_reg ?_) | (with_reducible (refine is_if ?_; (refine w_iff rfl ?_))) | (with_reducible first | refine wp_skip ?_ | refine wp_ret ?_ | refine l_nil ?_) | ((with_reducible refine g_on ?_); (first | ((with_reducible refine g_mv ?_); refine l_p txs rfl rfl ?_) | ((with_reducible refine g_as ?_); refine l_p txs rfl rfl ?_) | ((with_reducible refine g_ex ?_); refine l_p txs rfl rfl ?_) | ((with_reducible refine g_st ?_); (refine h_stR recs H 0 rfl rfl rfl rfl rfl rfl rfl rfl rfl (fun w_ H => ?_))) | ((with_reducible refine g_al ?_); refine h_alloc recs H rfl rfl (fun g_ w_ H => ?_)) | ((with_reducible refine g_un ?_); (refine l_p txs rfl rfl ?_)))))
    refine end1 rfl rfl ?_
    exact ⟨rfl, H.B⟩
set_option maxRecDepth 100000 in
set_option maxHeartbeats 4000000 in
theorem Compare_c {w : World} {mx : Int} (hM : w.cell? ⟨0, 0, none⟩ = some (.int .i64 mx)) (t u : ByteArray) :
    Calls Tryz.prog 31 #[.string t, .string u] w fun e w' => e = .returned (.int .i64 (compareS (bl t) (bl u))) ∧ Below w.heap.size w w' := by
  refine enter (args := [.string t, .string u]) Tryz.func31 rfl Tryz.ntmps31 rfl ?_
  have H := Hp.nil w
  repeat' (first | (with_reducible first | refine p_tn ?_ | refine wp_seq ?_ | refine w_reg ?_ | refine l_nil ?_) | ((with_reducible refine g_on ?_); (first | ((with_reducible refine g_mv ?_); refine l_p txs rfl rfl ?_) | ((with_reducible refine g_as ?_); refine l_p txs rfl rfl ?_))))
  (with_reducible refine is_l ?_); refine l_call rfl rfl (by kernel_rfl) (parse_c (H.old hM) t) (fun e w_ hR => ?_)
  unfold PaR at hR
  unfold compareS
  cases hp : parseV (bl t) with
  | none =>
    rw [hp] at hR
    obtain ⟨x, y, z, A, n, c, b, rfl, K⟩ := hR
    refine ⟨_, rfl, ?_⟩
    have H := H.call K
    repeat' (first | (with_reducible first | refine p_tn ?_ | refine wp_seq ?_ | refine w_reg ?_ | refine l_nil ?_) | ((with_reducible refine g_on ?_); (first | ((with_reducible refine g_mv ?_); refine l_p txs rfl rfl ?_) | ((with_reducible refine g_as ?_); refine l_p txs rfl rfl ?_) | ((with_reducible refine g_ex ?_); refine l_p txs rfl rfl ?_) | ((with_reducible refine g_st ?_); (refine h_stR recs H 0 rfl rfl rfl rfl rfl rfl rfl rfl rfl (fun w_ H => ?_))) | ((with_reducible refine g_al ?_); refine h_alloc recs H rfl rfl (fun g_ w_ H => ?_)))))
    (with_reducible refine is_l ?_); refine l_call rfl rfl (by kernel_rfl) (parse_c (H.old hM) u) (fun e w_ hR => ?_)
    unfold PaR at hR
    cases hq : parseV (bl u) with
    | none =>
      rw [hq] at hR
      obtain ⟨x9, y9, z9, A9, n9, c9, b9, rfl, K⟩ := hR
      refine ⟨_, rfl, ?_⟩
      have H := H.call K
      repeat' (first | (with_reducible first | refine p_tn ?_ | refine p_bn ?_ | refine wp_seq ?_ | refine wp_block ?_ | refine w_reg ?_) | (with_reducible (refine is_if ?_; (refine w_iff rfl ?_))) | (with_reducible first | refine wp_skip ?_ | refine wp_ret ?_ | refine l_nil ?_) | ((with_reducible refine g_on ?_); (first | ((with_reducible refine g_mv ?_); refine l_p txs rfl rfl ?_) | ((with_reducible refine g_as ?_); refine l_p txs rfl rfl ?_) | ((with_reducible refine g_ex ?_); refine l_p txs rfl rfl ?_) | ((with_reducible refine g_pk ?_); refine l_p txs rfl rfl ?_) | ((with_reducible refine g_st ?_); (refine h_stR recs H 0 rfl rfl rfl rfl rfl rfl rfl rfl rfl (fun w_ H => ?_))) | ((with_reducible refine g_al ?_); refine h_alloc recs H rfl rfl (fun g_ w_ H => ?_)))) | ((with_reducible refine g_if ?_); (refine l_off rfl ?_)))
      refine end1 rfl rfl ?_
      exact ⟨rfl, H.B⟩
    | some v9 =>
      rw [hq] at hR
      obtain ⟨A9, c9, rfl, K⟩ := hR
      refine ⟨_, rfl, ?_⟩
      have H := H.join K
      repeat' (first | (with_reducible first | refine p_tn ?_ | refine p_tr ?_ | refine p_br ?_ | refine wp_seq ?_ | refine wp_block ?_ | refine w_reg ?_) | (with_reducible (refine is_if ?_; (first | (refine w_ift rfl ?_) | (refine w_iff rfl ?_)))) | (with_reducible first | refine wp_ret ?_ | refine l_nil ?_) | ((with_reducible refine g_on ?_); (first | ((with_reducible refine g_mv ?_); refine l_p txs rfl rfl ?_) | ((with_reducible refine g_as ?_); refine l_p txs rfl rfl ?_) | ((with_reducible refine g_ex ?_); refine l_p txs rfl rfl ?_) | ((with_reducible refine g_pk ?_); refine l_p txs rfl rfl ?_) | ((with_reducible refine g_st ?_); (refine h_stR recs H 0 rfl rfl rfl rfl rfl rfl rfl rfl rfl (fun w_ H => ?_))) | ((with_reducible refine g_al ?_); refine h_alloc recs H rfl rfl (fun g_ w_ H => ?_)))) | ((with_reducible refine g_if ?_); (refine l_off rfl ?_)))
      refine end1 rfl rfl ?_
      exact ⟨rfl, H.B⟩
  | some v =>
    rw [hp] at hR
    obtain ⟨A, c, rfl, K⟩ := hR
    refine ⟨_, rfl, ?_⟩
    have H := H.join K
    repeat' (first | (with_reducible first | refine p_tn ?_ | refine wp_seq ?_ | refine w_reg ?_ | refine l_nil ?_) | ((with_reducible refine g_on ?_); (first | ((with_reducible refine g_mv ?_); refine l_p txs rfl rfl ?_) | ((with_reducible refine g_as ?_); refine l_p txs rfl rfl ?_) | ((with_reducible refine g_ex ?_); refine l_p txs rfl rfl ?_) | ((with_reducible refine g_st ?_); (refine h_stR recs H 0 rfl rfl rfl rfl rfl rfl rfl rfl rfl (fun w_ H => ?_))) | ((with_reducible refine g_al ?_); refine h_alloc recs H rfl rfl (fun g_ w_ H => ?_)))))
    (with_reducible refine is_l ?_); refine l_call rfl rfl (by kernel_rfl) (parse_c (H.old hM) u) (fun e w_ hR => ?_)
    unfold PaR at hR
    cases hq : parseV (bl u) with
    | none =>
      rw [hq] at hR
      obtain ⟨x9, y9, z9, A9, n9, c9, b9, rfl, K⟩ := hR
      refine ⟨_, rfl, ?_⟩
      have H := H.call K
      repeat' (first | (with_reducible first | refine p_tn ?_ | refine p_tr ?_ | refine p_br ?_ | refine wp_seq ?_ | refine wp_block ?_ | refine w_reg ?_) | (with_reducible (refine is_if ?_; (first | (refine w_ift rfl ?_) | (refine w_iff rfl ?_)))) | (with_reducible first | refine wp_ret ?_ | refine l_nil ?_) | ((with_reducible refine g_on ?_); (first | ((with_reducible refine g_mv ?_); refine l_p txs rfl rfl ?_) | ((with_reducible refine g_as ?_); refine l_p txs rfl rfl ?_) | ((with_reducible refine g_ex ?_); refine l_p txs rfl rfl ?_) | ((with_reducible refine g_pk ?_); refine l_p txs rfl rfl ?_) | ((with_reducible refine g_st ?_); (refine h_stR recs H 0 rfl rfl rfl rfl rfl rfl rfl rfl rfl (fun w_ H => ?_))) | ((with_reducible refine g_al ?_); refine h_alloc recs H rfl rfl (fun g_ w_ H => ?_)))) | ((with_reducible refine g_if ?_); ((with_reducible refine g_mv ?_); refine l_p txs rfl rfl ?_)))
      refine end1 rfl rfl ?_
      exact ⟨rfl, H.B⟩
    | some v9 =>
      rw [hq] at hR
      obtain ⟨A9, c9, rfl, K⟩ := hR
      refine ⟨_, rfl, ?_⟩
      have H := H.join K
      repeat' (first | (with_reducible first | refine p_tn ?_ | refine wp_seq ?_ | refine wp_block ?_ | refine w_reg ?_) | (with_reducible (refine is_if ?_; (refine w_ift rfl ?_))) | (with_reducible refine l_nil ?_) | ((with_reducible refine g_on ?_); (first | ((with_reducible refine g_mv ?_); refine l_p txs rfl rfl ?_) | ((with_reducible refine g_as ?_); refine l_p txs rfl rfl ?_) | ((with_reducible refine g_ex ?_); refine l_p txs rfl rfl ?_) | ((with_reducible refine g_pk ?_); refine l_p txs rfl rfl ?_) | ((with_reducible refine g_ld ?_); (first | (refine h_ldR recs H 0 rfl rfl rfl rfl rfl ?_) | (refine h_ldR recs H 1 rfl rfl rfl rfl rfl ?_))) | ((with_reducible refine g_st ?_); (refine h_stR recs H 0 rfl rfl rfl rfl rfl rfl rfl rfl rfl (fun w_ H => ?_))) | ((with_reducible refine g_al ?_); refine h_alloc recs H rfl rfl (fun g_ w_ H => ?_)))) | ((with_reducible refine g_if ?_); ((with_reducible refine g_mv ?_); refine l_p txs rfl rfl ?_)))
      (with_reducible refine is_l ?_); refine l_callv rfl rfl (by kernel_rfl) (compare_c (ver_in hp) (ver_in hq) (rowT_at H 1 rfl) (rowT_at H 0 rfl)) (fun w_ K => ?_)
      have H := H.call K
      repeat' (first | (with_reducible first | refine p_tn ?_ | refine p_tr ?_ | refine p_br ?_ | refine wp_ret ?_ | refine l_nil ?_) | ((with_reducible refine g_on ?_); ((with_reducible refine g_as ?_); refine l_p txs rfl rfl ?_)))
      refine end1 rfl rfl ?_
      exact ⟨rfl, H.B⟩
end Go.Proofs.YtnimaenhijlcmaaGreatDoor.K
