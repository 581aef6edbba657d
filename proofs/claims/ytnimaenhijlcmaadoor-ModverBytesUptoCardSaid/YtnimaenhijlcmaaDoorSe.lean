/- ModverBytes. -/
import Derived.Test.YtnimaenhijlcmaaDoorSa
namespace Go.Proofs.YtnimaenhijlcmaaDoor.K.Rec
open Go.RowKit Go.Proofs.YtnimaenhijlcmaaDoor.Q Go.Proofs.YtnimaenhijlcmaaDoor.K Go.Proofs.YtnimaenhijlcmaaDoor.Mb Go.Proofs.YtnimaenhijlcmaaDoorW.PrintWords
set_option linter.unusedVariables false
set_option linter.unusedSimpArgs false

theorem pathB_iff (c : Int) : pathB c = true ↔ (48 ≤ c ∧ c ≤ 57) ∨ (97 ≤ c ∧ c ≤ 122) ∨ (65 ≤ c ∧ c ≤ 90) ∨ c = 45 ∨ c = 46 ∨ c = 95 ∨ c = 126 ∨ c = 47 := by
  unfold pathB digB smlB capB
  simp
  omega
theorem verB_iff (c : Int) : verB c = true ↔ (48 ≤ c ∧ c ≤ 57) ∨ (97 ≤ c ∧ c ≤ 122) ∨ (65 ≤ c ∧ c ≤ 90) ∨ c = 45 ∨ c = 46 ∨ c = 43 := by
  unfold verB wordC digB smlB capB
  simp
  omega
theorem chkV_none {s : L} (h : parseV s = none) : (chkV s : Int) = 111 := by
  unfold chkV
  rw [h]
  rfl
theorem ver_b {p : ByteArray} {x : L} (hx : bl p = x) {n : Int} (hn : (chkV x : Int) = n) {w : World} (hL : Lay w) :
    Calls Tryd.prog 13 #[.string p] w fun e w' => e = .returned (.int .i64 n) ∧ Below w.heap.size w w' := by
  obtain ⟨mx, hM⟩ := hL.mxs
  have h := checkVersion_c hM p
  rw [hx, hn] at h
  exact h
theorem path_b' {p : ByteArray} (hx : pathS (bl p) = false) {w : World} (hL : Lay w) :
    Calls Tryd.prog 22 #[.string p] w fun e w' => e = .returned (.int .i64 110) ∧ Below w.heap.size w w' := by
  have h := checkPath_c hL p
  rw [show pathN (bl p) = 110 by unfold pathN; rw [hx]; rfl] at h
  exact h
set_option maxRecDepth 100000 in
set_option maxHeartbeats 16000000 in
theorem bytes_c {w : World} (hL : Lay w) (t u : ByteArray) (c : Int) (h0 : 0 ≤ c) (h1 : c ≤ 255) (ht : t.size ≤ 1048576) (hu : u.size ≤ 1048576) :
    Calls Tryd.prog 8 #[.string t, .int .u8 c, .string u] w fun e w' => e = .returned (.bool true) ∧ Below w.heap.size w w' := by
  have hbc : Bytes [c] := fun y hy => by
    rw [List.mem_singleton.1 hy]
    exact ⟨h0, h1⟩
  have hz1 : (strOfNums [c]).size = 1 := by rw [← bl_length, blS hbc]; rfl
  have hz0 : (chkV (bl ⟨#[118, 48, 46, 48, 46, 48]⟩) : Int) = 0 := by decide +kernel
  have hT : bl (t ++ strOfNums [c] ++ u) = bl t ++ [c] ++ bl u := by rw [bl_cat, bl_cat, blS hbc]
  have hP : (pathB c = false → pathS (bl (t ++ strOfNums [c] ++ u)) = false) ∧ (verB c = false → parseV (bl (t ++ strOfNums [c] ++ u)) = none) := by
    rw [hT]
    exact ⟨fun h => path_byte (by simp) h, fun h => ver_byte (by simp) h⟩
  refine enter (args := [.string t, .int .u8 c, .string u]) Tryd.func8 rfl Tryd.ntmps8 rfl ?_
  have H := Hp.nil w
  have ip := pathB_iff c
  have iv := verB_iff c
  cases hp : pathB c
  · rw [hp] at ip
    simp only [Bool.false_eq_true, false_iff] at ip
    cases hv : verB c
    · have hP := And.intro (hP.1 hp) (hP.2 hv)
      rw [hv] at iv
      simp only [Bool.false_eq_true, false_iff] at iv
      all_goals
        repeat' (first | (with_reducible first | refine p_tn ?_ | refine wp_seq ?_ | refine w_reg ?_ | refine l_nil ?_) | ((with_reducible refine g_on ?_); (first | ((with_reducible refine g_mv ?_); refine l_p txs rfl rfl ?_) | ((with_reducible refine g_as ?_); refine l_p txs rfl rfl ?_))))
        first
        | ((with_reducible refine is_l ?_); refine l_t txs rfl rfl (fun h => ?_) (fun h => ?_))
        | skip
      all_goals try (exfalso; clear hP; omega)
      all_goals
        repeat' (first | ((with_reducible refine g_on ?_); (first | ((with_reducible refine g_mv ?_); refine l_p txs rfl rfl ?_) | ((with_reducible refine g_pk ?_); refine l_p txs rfl rfl ?_))) | ((with_reducible refine g_if ?_); (first | (refine l_off rfl ?_) | ((with_reducible refine g_mv ?_); refine l_p txs rfl rfl ?_))))
        first
        | ((with_reducible refine is_l ?_); refine l_t txs rfl rfl (fun h => ?_) (fun h => ?_))
        | skip
      all_goals try (exfalso; clear hP; omega)
      all_goals
        repeat' (first | ((with_reducible refine g_on ?_); (first | ((with_reducible refine g_mv ?_); refine l_p txs rfl rfl ?_) | ((with_reducible refine g_pk ?_); refine l_p txs rfl rfl ?_))) | ((with_reducible refine g_if ?_); (first | (refine l_off rfl ?_) | ((with_reducible refine g_mv ?_); refine l_p txs rfl rfl ?_) | ((with_reducible refine g_pk ?_); refine l_p txs rfl rfl ?_))))
        first
        | ((with_reducible refine is_l ?_); refine l_t txs rfl rfl (fun h => ?_) (fun h => ?_))
        | skip
      all_goals try (exfalso; clear hP; omega)
      all_goals
        repeat' (first | (with_reducible first | refine p_tn ?_ | refine wp_seq ?_ | refine w_reg ?_ | refine l_nil ?_) | ((with_reducible refine g_on ?_); (first | ((with_reducible refine g_mv ?_); refine l_p txs rfl rfl ?_) | ((with_reducible refine g_as ?_); refine l_p txs rfl rfl ?_) | ((with_reducible refine g_pk ?_); refine l_p txs rfl rfl ?_))) | ((with_reducible refine g_if ?_); (first | (refine l_off rfl ?_) | ((with_reducible refine g_mv ?_); refine l_p txs rfl rfl ?_) | ((with_reducible refine g_pk ?_); refine l_p txs rfl rfl ?_))))
        first
        | ((with_reducible refine is_l ?_); refine l_t txs rfl rfl (fun h => ?_) (fun h => ?_))
        | skip
      all_goals try (exfalso; clear hP; omega)
      all_goals
        repeat' (first | (with_reducible first | refine p_tn ?_ | refine wp_seq ?_ | refine w_reg ?_ | refine l_nil ?_) | ((with_reducible refine g_on ?_); (first | ((with_reducible refine g_mv ?_); refine l_p txs rfl rfl ?_) | ((with_reducible refine g_as ?_); refine l_p txs rfl rfl ?_) | ((with_reducible refine g_pk ?_); refine l_p txs rfl rfl ?_))) | ((with_reducible refine g_if ?_); (first | ((with_reducible refine g_mv ?_); refine l_p txs rfl rfl ?_) | ((with_reducible refine g_pk ?_); refine l_p txs rfl rfl ?_))))
        first
        | ((with_reducible refine is_l ?_); refine l_t txs rfl rfl (fun h => ?_) (fun h => ?_))
        | skip
      all_goals try (exfalso; clear hP; omega)
      all_goals
        repeat' (first | (with_reducible first | refine p_tn ?_ | refine wp_seq ?_ | refine w_reg ?_ | refine l_nil ?_) | ((with_reducible refine g_on ?_); (first | ((with_reducible refine g_mv ?_); refine l_p txs rfl rfl ?_) | ((with_reducible refine g_as ?_); refine l_p txs rfl rfl ?_) | ((with_reducible refine g_pk ?_); refine l_p txs rfl rfl ?_))) | ((with_reducible refine g_if ?_); (first | ((with_reducible refine g_mv ?_); refine l_p txs rfl rfl ?_) | ((with_reducible refine g_pk ?_); refine l_p txs rfl rfl ?_))))
        first
        | ((with_reducible refine is_l ?_); refine l_t txs rfl rfl (fun h => ?_) (fun h => ?_))
        | skip
      all_goals try (exfalso; clear hP; omega)
      all_goals
        repeat' (first | (with_reducible first | refine p_tn ?_ | refine wp_seq ?_ | refine w_reg ?_ | refine l_nil ?_) | ((with_reducible refine g_on ?_); (first | ((with_reducible refine g_mv ?_); refine l_p txs rfl rfl ?_) | ((with_reducible refine g_as ?_); refine l_p txs rfl rfl ?_) | ((with_reducible refine g_pk ?_); refine l_p txs rfl rfl ?_))) | ((with_reducible refine g_if ?_); (first | ((with_reducible refine g_mv ?_); refine l_p txs rfl rfl ?_) | ((with_reducible refine g_pk ?_); refine l_p txs rfl rfl ?_))))
        first
        | ((with_reducible refine is_l ?_); refine l_t txs rfl rfl (fun h => ?_) (fun h => ?_))
        | skip
      all_goals try (exfalso; clear hP; omega)
      all_goals
        repeat' (first | ((with_reducible refine g_on ?_); (first | ((with_reducible refine g_mv ?_); refine l_p txs rfl rfl ?_) | ((with_reducible refine g_pk ?_); refine l_p txs rfl rfl ?_))) | ((with_reducible refine g_if ?_); ((with_reducible refine g_mv ?_); refine l_p txs rfl rfl ?_)))
        first
        | ((with_reducible refine is_l ?_); refine l_t txs rfl rfl (fun h => ?_) (fun h => ?_))
        | skip
      all_goals try (exfalso; clear hP; omega)
      all_goals
        repeat' (first | (with_reducible first | refine p_tn ?_ | refine wp_seq ?_ | refine w_reg ?_ | refine l_nil ?_) | ((with_reducible refine g_on ?_); (first | ((with_reducible refine g_mv ?_); refine l_p txs rfl rfl ?_) | ((with_reducible refine g_as ?_); refine l_p txs rfl rfl ?_) | ((with_reducible refine g_pk ?_); refine l_p txs rfl rfl ?_))) | ((with_reducible refine g_if ?_); ((with_reducible refine g_mv ?_); refine l_p txs rfl rfl ?_)))
        first
        | ((with_reducible refine is_l ?_); refine l_t txs rfl rfl (fun h => ?_) (fun h => ?_))
        | skip
      all_goals try (exfalso; clear hP; omega)
      all_goals
        repeat' (first | (with_reducible first | refine p_tn ?_ | refine wp_seq ?_ | refine w_reg ?_ | refine l_nil ?_) | ((with_reducible refine g_on ?_); (first | ((with_reducible refine g_mv ?_); refine l_p txs rfl rfl ?_) | ((with_reducible refine g_as ?_); refine l_p txs rfl rfl ?_) | ((with_reducible refine g_pk ?_); refine l_p txs rfl rfl ?_))) | ((with_reducible refine g_if ?_); ((with_reducible refine g_mv ?_); refine l_p txs rfl rfl ?_)))
        first
        | ((with_reducible refine is_l ?_); refine l_t txs rfl rfl (fun h => ?_) (fun h => ?_))
        | skip
      all_goals try (exfalso; clear hP; omega)
      all_goals
        repeat' (first | (with_reducible first | refine p_tn ?_ | refine wp_seq ?_ | refine w_reg ?_ | refine l_nil ?_) | ((with_reducible refine g_on ?_); (first | ((with_reducible refine g_mv ?_); refine l_p txs rfl rfl ?_) | ((with_reducible refine g_as ?_); refine l_p txs rfl rfl ?_) | ((with_reducible refine g_pk ?_); refine l_p txs rfl rfl ?_))) | ((with_reducible refine g_if ?_); ((with_reducible refine g_mv ?_); refine l_p txs rfl rfl ?_)))
        first
        | ((with_reducible refine is_l ?_); refine l_t txs rfl rfl (fun h => ?_) (fun h => ?_))
        | skip
      all_goals try (exfalso; clear hP; omega)
      all_goals
        repeat' (first | (with_reducible first | refine p_tn ?_ | refine wp_seq ?_ | refine w_reg ?_ | refine l_nil ?_) | ((with_reducible refine g_on ?_); (first | ((with_reducible refine g_mv ?_); refine l_p txs rfl rfl ?_) | ((with_reducible refine g_as ?_); refine l_p txs rfl rfl ?_) | ((with_reducible refine g_pk ?_); refine l_p txs rfl rfl ?_))) | ((with_reducible refine g_if ?_); ((with_reducible refine g_mv ?_); refine l_p txs rfl rfl ?_)))
        first
        | ((with_reducible refine is_l ?_); refine l_t txs rfl rfl (fun h => ?_) (fun h => ?_))
        | skip
      all_goals try (exfalso; clear hP; omega)
      all_goals
        repeat' (first | (with_reducible first | refine p_tn ?_ | refine wp_seq ?_ | refine w_reg ?_ | refine l_nil ?_) | ((with_reducible refine g_on ?_); (first | ((with_reducible refine g_mv ?_); refine l_p txs rfl rfl ?_) | ((with_reducible refine g_as ?_); refine l_p txs rfl rfl ?_) | ((with_reducible refine g_pk ?_); refine l_p txs rfl rfl ?_))) | ((with_reducible refine g_if ?_); ((with_reducible refine g_mv ?_); refine l_p txs rfl rfl ?_)))
        first
        | ((with_reducible refine is_l ?_); refine l_t txs rfl rfl (fun h => ?_) (fun h => ?_))
        | skip
      all_goals try (exfalso; clear hP; omega)
      all_goals
        repeat' (first | (with_reducible first | refine p_tn ?_ | refine wp_seq ?_ | refine w_reg ?_ | refine l_nil ?_) | ((with_reducible refine g_on ?_); (first | ((with_reducible refine g_mv ?_); refine l_p txs rfl rfl ?_) | ((with_reducible refine g_as ?_); refine l_p txs rfl rfl ?_) | ((with_reducible refine g_pk ?_); refine l_p txs rfl rfl ?_))) | ((with_reducible refine g_if ?_); ((with_reducible refine g_mv ?_); refine l_p txs rfl rfl ?_)))
        first
        | ((with_reducible refine is_l ?_); refine l_t txs rfl rfl (fun h => ?_) (fun h => ?_))
        | skip
      all_goals try (exfalso; clear hP; omega)
      all_goals
        repeat' (first | (with_reducible first | refine p_tn ?_ | refine wp_seq ?_ | refine w_reg ?_ | refine l_nil ?_) | ((with_reducible refine g_on ?_); (first | ((with_reducible refine g_mv ?_); refine l_p txs rfl rfl ?_) | ((with_reducible refine g_as ?_); refine l_p txs rfl rfl ?_) | ((with_reducible refine g_pk ?_); refine l_p txs rfl rfl ?_))))
        (with_reducible refine is_l ?_); refine h_bs H info_u8 Tryd.underlying38 (by decide) (by decide) rfl rfl (by kernel_rfl) (fun g_ w_ H => ?_)
        skip
        (with_reducible refine is_l ?_); refine l_text rfl rfl Tryd.underlying38 Tryd.underlying5 Tryd.underlying9 (reads_of_rd (xs := [c]) (H.cellRd 0 rfl) (by show 1 ≤ 9223372036854775807; decide)) ?_
        skip
        (with_reducible refine is_l ?_); refine l_cat rfl rfl (by omega) ?_
        repeat' ((with_reducible refine g_on ?_); ((with_reducible refine g_mv ?_); refine l_p txs rfl rfl ?_))
        (with_reducible refine is_l ?_); refine l_cat rfl rfl (by rw [ByteArray.size_append]; omega) ?_
        clear hT
        generalize t ++ strOfNums [c] ++ u = s at hP ⊢
        repeat' (first | (with_reducible first | refine p_tn ?_ | refine wp_seq ?_ | refine w_reg ?_ | refine l_nil ?_) | ((with_reducible refine g_on ?_); ((with_reducible refine g_as ?_); refine l_p txs rfl rfl ?_)))
        (with_reducible refine is_l ?_); refine l_callv rfl rfl (by kernel_rfl) (sample_c (hL.below H.B)) (fun w_ K => ?_)
        have H := H.call K
        repeat' ((with_reducible refine g_on ?_); (first | ((with_reducible refine g_mv ?_); refine l_p txs rfl rfl ?_) | ((with_reducible refine g_un ?_); (refine l_p txs rfl rfl ?_))))
        (with_reducible refine is_l ?_); refine l_callv rfl rfl (by kernel_rfl) (ver_b (p := ⟨#[118, 48, 46, 48, 46, 48]⟩) rfl hz0 (hL.below H.B)) (fun w_ K => ?_)
        have H := H.call K
        skip
        (with_reducible refine is_l ?_); refine l_t txs rfl rfl (fun h => absurd rfl h) (fun _ => ?_)
        repeat' (first | (with_reducible first | refine p_tn ?_ | refine wp_seq ?_ | refine w_reg ?_) | (with_reducible (refine is_if ?_; (refine w_iff rfl ?_))) | (with_reducible first | refine wp_skip ?_ | refine l_nil ?_) | ((with_reducible refine g_on ?_); (first | ((with_reducible refine g_mv ?_); refine l_p txs rfl rfl ?_) | ((with_reducible refine g_pk ?_); refine l_p txs rfl rfl ?_) | ((with_reducible refine g_un ?_); (refine l_p txs rfl rfl ?_)))) | ((with_reducible refine g_if ?_); ((with_reducible refine g_mv ?_); refine l_p txs rfl rfl ?_)))
      all_goals
        (with_reducible refine is_l ?_); refine l_callv rfl rfl (by kernel_rfl) (path_b' hP.1 (hL.below H.B)) (fun w_ K => ?_)
        have H := H.call K
        skip
        (with_reducible refine is_l ?_); refine l_t txs rfl rfl (fun h => absurd rfl h) (fun _ => ?_)
        repeat' (first | (with_reducible first | refine p_tn ?_ | refine wp_seq ?_ | refine w_reg ?_) | (with_reducible (refine is_if ?_; (refine w_iff rfl ?_))) | (with_reducible first | refine wp_skip ?_ | refine l_nil ?_) | ((with_reducible refine g_on ?_); (first | ((with_reducible refine g_mv ?_); refine l_p txs rfl rfl ?_) | ((with_reducible refine g_pk ?_); refine l_p txs rfl rfl ?_))) | ((with_reducible refine g_if ?_); ((with_reducible refine g_mv ?_); refine l_p txs rfl rfl ?_)))
        (with_reducible refine is_l ?_); refine l_callv rfl rfl (by kernel_rfl) (ver_b (p := s) rfl (chkV_none hP.2) (hL.below H.B)) (fun w_ K => ?_)
        have H := H.call K
        skip
        (with_reducible refine is_l ?_); refine l_t txs rfl rfl (fun _ => ?_) (fun h => absurd rfl h)
        repeat' (first | (with_reducible first | refine p_tn ?_ | refine wp_ret ?_ | refine l_nil ?_) | ((with_reducible refine g_on ?_); (first | ((with_reducible refine g_as ?_); refine l_p txs rfl rfl ?_) | ((with_reducible refine g_pk ?_); refine l_p txs rfl rfl ?_))))
        refine end1 rfl rfl ?_
        exact ⟨rfl, H.B⟩
    · have hP := hP.1 hp
      rw [hv] at iv
      simp only [true_iff] at iv
      all_goals
        repeat' (first | (with_reducible first | refine p_tn ?_ | refine wp_seq ?_ | refine w_reg ?_ | refine l_nil ?_) | ((with_reducible refine g_on ?_); (first | ((with_reducible refine g_mv ?_); refine l_p txs rfl rfl ?_) | ((with_reducible refine g_as ?_); refine l_p txs rfl rfl ?_))))
        first
        | ((with_reducible refine is_l ?_); refine l_t txs rfl rfl (fun h => ?_) (fun h => ?_))
        | skip
      all_goals try (exfalso; clear hP; omega)
      all_goals
        repeat' (first | ((with_reducible refine g_on ?_); (first | ((with_reducible refine g_mv ?_); refine l_p txs rfl rfl ?_) | ((with_reducible refine g_pk ?_); refine l_p txs rfl rfl ?_))) | ((with_reducible refine g_if ?_); (first | (refine l_off rfl ?_) | ((with_reducible refine g_mv ?_); refine l_p txs rfl rfl ?_))))
        first
        | ((with_reducible refine is_l ?_); refine l_t txs rfl rfl (fun h => ?_) (fun h => ?_))
        | skip
      all_goals try (exfalso; clear hP; omega)
      all_goals
        repeat' (first | ((with_reducible refine g_on ?_); (first | ((with_reducible refine g_mv ?_); refine l_p txs rfl rfl ?_) | ((with_reducible refine g_pk ?_); refine l_p txs rfl rfl ?_))) | ((with_reducible refine g_if ?_); (first | (refine l_off rfl ?_) | ((with_reducible refine g_mv ?_); refine l_p txs rfl rfl ?_) | ((with_reducible refine g_pk ?_); refine l_p txs rfl rfl ?_))))
        first
        | ((with_reducible refine is_l ?_); refine l_t txs rfl rfl (fun h => ?_) (fun h => ?_))
        | skip
      all_goals try (exfalso; clear hP; omega)
      all_goals
        repeat' (first | (with_reducible first | refine p_tn ?_ | refine wp_seq ?_ | refine w_reg ?_ | refine l_nil ?_) | ((with_reducible refine g_on ?_); (first | ((with_reducible refine g_mv ?_); refine l_p txs rfl rfl ?_) | ((with_reducible refine g_as ?_); refine l_p txs rfl rfl ?_) | ((with_reducible refine g_pk ?_); refine l_p txs rfl rfl ?_))) | ((with_reducible refine g_if ?_); (first | (refine l_off rfl ?_) | ((with_reducible refine g_mv ?_); refine l_p txs rfl rfl ?_) | ((with_reducible refine g_pk ?_); refine l_p txs rfl rfl ?_))))
        first
        | ((with_reducible refine is_l ?_); refine l_t txs rfl rfl (fun h => ?_) (fun h => ?_))
        | skip
      all_goals try (exfalso; clear hP; omega)
      all_goals
        repeat' (first | ((with_reducible refine g_on ?_); (first | ((with_reducible refine g_mv ?_); refine l_p txs rfl rfl ?_) | ((with_reducible refine g_pk ?_); refine l_p txs rfl rfl ?_))) | ((with_reducible refine g_if ?_); ((with_reducible refine g_mv ?_); refine l_p txs rfl rfl ?_)))
        first
        | ((with_reducible refine is_l ?_); refine l_t txs rfl rfl (fun h => ?_) (fun h => ?_))
        | skip
      all_goals try (exfalso; clear hP; omega)
      all_goals
        repeat' (first | ((with_reducible refine g_on ?_); (first | ((with_reducible refine g_mv ?_); refine l_p txs rfl rfl ?_) | ((with_reducible refine g_pk ?_); refine l_p txs rfl rfl ?_))) | ((with_reducible refine g_if ?_); ((with_reducible refine g_mv ?_); refine l_p txs rfl rfl ?_)))
        first
        | ((with_reducible refine is_l ?_); refine l_t txs rfl rfl (fun h => ?_) (fun h => ?_))
        | skip
      all_goals try (exfalso; clear hP; omega)
      all_goals
        repeat' (first | ((with_reducible refine g_on ?_); (first | ((with_reducible refine g_mv ?_); refine l_p txs rfl rfl ?_) | ((with_reducible refine g_pk ?_); refine l_p txs rfl rfl ?_))) | ((with_reducible refine g_if ?_); ((with_reducible refine g_mv ?_); refine l_p txs rfl rfl ?_)))
        first
        | ((with_reducible refine is_l ?_); refine l_t txs rfl rfl (fun h => ?_) (fun h => ?_))
        | skip
      all_goals try (exfalso; clear hP; omega)
      all_goals
        repeat' (first | ((with_reducible refine g_on ?_); (first | ((with_reducible refine g_mv ?_); refine l_p txs rfl rfl ?_) | ((with_reducible refine g_pk ?_); refine l_p txs rfl rfl ?_))) | ((with_reducible refine g_if ?_); ((with_reducible refine g_mv ?_); refine l_p txs rfl rfl ?_)))
        first
        | ((with_reducible refine is_l ?_); refine l_t txs rfl rfl (fun h => ?_) (fun h => ?_))
        | skip
      all_goals try (exfalso; clear hP; omega)
      all_goals
        repeat' (first | (with_reducible first | refine p_tn ?_ | refine wp_seq ?_ | refine w_reg ?_ | refine l_nil ?_) | ((with_reducible refine g_on ?_); (first | ((with_reducible refine g_mv ?_); refine l_p txs rfl rfl ?_) | ((with_reducible refine g_as ?_); refine l_p txs rfl rfl ?_) | ((with_reducible refine g_pk ?_); refine l_p txs rfl rfl ?_))) | ((with_reducible refine g_if ?_); ((with_reducible refine g_mv ?_); refine l_p txs rfl rfl ?_)))
        first
        | ((with_reducible refine is_l ?_); refine l_t txs rfl rfl (fun h => ?_) (fun h => ?_))
        | skip
      all_goals try (exfalso; clear hP; omega)
      all_goals
        repeat' (first | ((with_reducible refine g_on ?_); (first | ((with_reducible refine g_mv ?_); refine l_p txs rfl rfl ?_) | ((with_reducible refine g_pk ?_); refine l_p txs rfl rfl ?_))) | ((with_reducible refine g_if ?_); ((with_reducible refine g_mv ?_); refine l_p txs rfl rfl ?_)))
        first
        | ((with_reducible refine is_l ?_); refine l_t txs rfl rfl (fun h => ?_) (fun h => ?_))
        | skip
      all_goals try (exfalso; clear hP; omega)
      all_goals
        repeat' (first | ((with_reducible refine g_on ?_); (first | ((with_reducible refine g_mv ?_); refine l_p txs rfl rfl ?_) | ((with_reducible refine g_pk ?_); refine l_p txs rfl rfl ?_))) | ((with_reducible refine g_if ?_); ((with_reducible refine g_mv ?_); refine l_p txs rfl rfl ?_)))
        first
        | ((with_reducible refine is_l ?_); refine l_t txs rfl rfl (fun h => ?_) (fun h => ?_))
        | skip
      all_goals try (exfalso; clear hP; omega)
      all_goals
        repeat' (first | (with_reducible first | refine p_tn ?_ | refine wp_seq ?_ | refine w_reg ?_ | refine l_nil ?_) | ((with_reducible refine g_on ?_); (first | ((with_reducible refine g_mv ?_); refine l_p txs rfl rfl ?_) | ((with_reducible refine g_as ?_); refine l_p txs rfl rfl ?_) | ((with_reducible refine g_pk ?_); refine l_p txs rfl rfl ?_))))
        first
        | ((with_reducible refine is_l ?_); refine l_t txs rfl rfl (fun h => ?_) (fun h => ?_))
        | skip
      all_goals try (exfalso; clear hP; omega)
      all_goals
        skip
        first
        | ((with_reducible refine is_l ?_); refine l_t txs rfl rfl (fun h => ?_) (fun h => ?_))
        | skip
      all_goals try (exfalso; clear hP; omega)
      all_goals
        skip
        first
        | ((with_reducible refine is_l ?_); refine l_t txs rfl rfl (fun h => ?_) (fun h => ?_))
        | skip
      all_goals try (exfalso; clear hP; omega)
      all_goals
        skip
        (with_reducible refine is_l ?_); refine h_bs H info_u8 Tryd.underlying38 (by decide) (by decide) rfl rfl (by kernel_rfl) (fun g_ w_ H => ?_)
        skip
        (with_reducible refine is_l ?_); refine l_text rfl rfl Tryd.underlying38 Tryd.underlying5 Tryd.underlying9 (reads_of_rd (xs := [c]) (H.cellRd 0 rfl) (by show 1 ≤ 9223372036854775807; decide)) ?_
        skip
        (with_reducible refine is_l ?_); refine l_cat rfl rfl (by omega) ?_
        repeat' ((with_reducible refine g_on ?_); ((with_reducible refine g_mv ?_); refine l_p txs rfl rfl ?_))
        (with_reducible refine is_l ?_); refine l_cat rfl rfl (by rw [ByteArray.size_append]; omega) ?_
        clear hT
        generalize t ++ strOfNums [c] ++ u = s at hP ⊢
        repeat' (first | (with_reducible first | refine p_tn ?_ | refine wp_seq ?_ | refine w_reg ?_ | refine l_nil ?_) | ((with_reducible refine g_on ?_); ((with_reducible refine g_as ?_); refine l_p txs rfl rfl ?_)))
        (with_reducible refine is_l ?_); refine l_callv rfl rfl (by kernel_rfl) (sample_c (hL.below H.B)) (fun w_ K => ?_)
        have H := H.call K
        repeat' ((with_reducible refine g_on ?_); (first | ((with_reducible refine g_mv ?_); refine l_p txs rfl rfl ?_) | ((with_reducible refine g_un ?_); (refine l_p txs rfl rfl ?_))))
        (with_reducible refine is_l ?_); refine l_callv rfl rfl (by kernel_rfl) (ver_b (p := ⟨#[118, 48, 46, 48, 46, 48]⟩) rfl hz0 (hL.below H.B)) (fun w_ K => ?_)
        have H := H.call K
        skip
        (with_reducible refine is_l ?_); refine l_t txs rfl rfl (fun h => absurd rfl h) (fun _ => ?_)
        repeat' (first | (with_reducible first | refine p_tn ?_ | refine wp_seq ?_ | refine w_reg ?_) | (with_reducible (refine is_if ?_; (refine w_iff rfl ?_))) | (with_reducible first | refine wp_skip ?_ | refine l_nil ?_) | ((with_reducible refine g_on ?_); (first | ((with_reducible refine g_mv ?_); refine l_p txs rfl rfl ?_) | ((with_reducible refine g_pk ?_); refine l_p txs rfl rfl ?_) | ((with_reducible refine g_un ?_); (refine l_p txs rfl rfl ?_)))) | ((with_reducible refine g_if ?_); ((with_reducible refine g_mv ?_); refine l_p txs rfl rfl ?_)))
      all_goals
        (with_reducible refine is_l ?_); refine l_callv rfl rfl (by kernel_rfl) (path_b' hP (hL.below H.B)) (fun w_ K => ?_)
        have H := H.call K
        skip
        (with_reducible refine is_l ?_); refine l_t txs rfl rfl (fun h => absurd rfl h) (fun _ => ?_)
        repeat' (first | (with_reducible first | refine p_tn ?_ | refine wp_seq ?_ | refine w_reg ?_) | (with_reducible (refine is_if ?_; (refine w_iff rfl ?_))) | (with_reducible first | refine wp_skip ?_ | refine wp_ret ?_ | refine l_nil ?_) | ((with_reducible refine g_on ?_); (first | ((with_reducible refine g_mv ?_); refine l_p txs rfl rfl ?_) | ((with_reducible refine g_as ?_); refine l_p txs rfl rfl ?_) | ((with_reducible refine g_pk ?_); refine l_p txs rfl rfl ?_))) | ((with_reducible refine g_if ?_); (refine l_off rfl ?_)))
        refine end1 rfl rfl ?_
        exact ⟨rfl, H.B⟩
  · rw [hp] at ip
    simp only [true_iff] at ip
    cases hv : verB c
    · have hP := hP.2 hv
      rw [hv] at iv
      simp only [Bool.false_eq_true, false_iff] at iv
      all_goals
        repeat' (first | (with_reducible first | refine p_tn ?_ | refine wp_seq ?_ | refine w_reg ?_ | refine l_nil ?_) | ((with_reducible refine g_on ?_); (first | ((with_reducible refine g_mv ?_); refine l_p txs rfl rfl ?_) | ((with_reducible refine g_as ?_); refine l_p txs rfl rfl ?_))))
        first
        | ((with_reducible refine is_l ?_); refine l_t txs rfl rfl (fun h => ?_) (fun h => ?_))
        | skip
      all_goals try (exfalso; clear hP; omega)
      all_goals
        repeat' (first | ((with_reducible refine g_on ?_); (first | ((with_reducible refine g_mv ?_); refine l_p txs rfl rfl ?_) | ((with_reducible refine g_pk ?_); refine l_p txs rfl rfl ?_))) | ((with_reducible refine g_if ?_); (first | (refine l_off rfl ?_) | ((with_reducible refine g_mv ?_); refine l_p txs rfl rfl ?_))))
        first
        | ((with_reducible refine is_l ?_); refine l_t txs rfl rfl (fun h => ?_) (fun h => ?_))
        | skip
      all_goals try (exfalso; clear hP; omega)
      all_goals
        repeat' (first | ((with_reducible refine g_on ?_); (first | ((with_reducible refine g_mv ?_); refine l_p txs rfl rfl ?_) | ((with_reducible refine g_pk ?_); refine l_p txs rfl rfl ?_))) | ((with_reducible refine g_if ?_); (first | (refine l_off rfl ?_) | ((with_reducible refine g_mv ?_); refine l_p txs rfl rfl ?_) | ((with_reducible refine g_pk ?_); refine l_p txs rfl rfl ?_))))
        first
        | ((with_reducible refine is_l ?_); refine l_t txs rfl rfl (fun h => ?_) (fun h => ?_))
        | skip
      all_goals try (exfalso; clear hP; omega)
      all_goals
        repeat' (first | (with_reducible first | refine p_tn ?_ | refine wp_seq ?_ | refine w_reg ?_ | refine l_nil ?_) | ((with_reducible refine g_on ?_); (first | ((with_reducible refine g_mv ?_); refine l_p txs rfl rfl ?_) | ((with_reducible refine g_as ?_); refine l_p txs rfl rfl ?_) | ((with_reducible refine g_pk ?_); refine l_p txs rfl rfl ?_))) | ((with_reducible refine g_if ?_); (first | (refine l_off rfl ?_) | ((with_reducible refine g_mv ?_); refine l_p txs rfl rfl ?_) | ((with_reducible refine g_pk ?_); refine l_p txs rfl rfl ?_))))
        first
        | ((with_reducible refine is_l ?_); refine l_t txs rfl rfl (fun h => ?_) (fun h => ?_))
        | skip
      all_goals try (exfalso; clear hP; omega)
      all_goals
        repeat' (first | ((with_reducible refine g_on ?_); (first | ((with_reducible refine g_mv ?_); refine l_p txs rfl rfl ?_) | ((with_reducible refine g_pk ?_); refine l_p txs rfl rfl ?_))) | ((with_reducible refine g_if ?_); (first | ((with_reducible refine g_mv ?_); refine l_p txs rfl rfl ?_) | ((with_reducible refine g_pk ?_); refine l_p txs rfl rfl ?_))))
        first
        | ((with_reducible refine is_l ?_); refine l_t txs rfl rfl (fun h => ?_) (fun h => ?_))
        | skip
      all_goals try (exfalso; clear hP; omega)
      all_goals
        repeat' (first | (with_reducible first | refine p_tn ?_ | refine wp_seq ?_ | refine w_reg ?_ | refine l_nil ?_) | ((with_reducible refine g_on ?_); (first | ((with_reducible refine g_mv ?_); refine l_p txs rfl rfl ?_) | ((with_reducible refine g_as ?_); refine l_p txs rfl rfl ?_) | ((with_reducible refine g_pk ?_); refine l_p txs rfl rfl ?_))) | ((with_reducible refine g_if ?_); (first | ((with_reducible refine g_mv ?_); refine l_p txs rfl rfl ?_) | ((with_reducible refine g_pk ?_); refine l_p txs rfl rfl ?_))))
        first
        | ((with_reducible refine is_l ?_); refine l_t txs rfl rfl (fun h => ?_) (fun h => ?_))
        | skip
      all_goals try (exfalso; clear hP; omega)
      all_goals
        repeat' (first | (with_reducible first | refine p_tn ?_ | refine wp_seq ?_ | refine w_reg ?_ | refine l_nil ?_) | ((with_reducible refine g_on ?_); (first | ((with_reducible refine g_mv ?_); refine l_p txs rfl rfl ?_) | ((with_reducible refine g_as ?_); refine l_p txs rfl rfl ?_) | ((with_reducible refine g_pk ?_); refine l_p txs rfl rfl ?_))) | ((with_reducible refine g_if ?_); (first | ((with_reducible refine g_mv ?_); refine l_p txs rfl rfl ?_) | ((with_reducible refine g_pk ?_); refine l_p txs rfl rfl ?_))))
        first
        | ((with_reducible refine is_l ?_); refine l_t txs rfl rfl (fun h => ?_) (fun h => ?_))
        | skip
      all_goals try (exfalso; clear hP; omega)
      all_goals
        repeat' (first | ((with_reducible refine g_on ?_); (first | ((with_reducible refine g_mv ?_); refine l_p txs rfl rfl ?_) | ((with_reducible refine g_pk ?_); refine l_p txs rfl rfl ?_))) | ((with_reducible refine g_if ?_); ((with_reducible refine g_mv ?_); refine l_p txs rfl rfl ?_)))
        first
        | ((with_reducible refine is_l ?_); refine l_t txs rfl rfl (fun h => ?_) (fun h => ?_))
        | skip
      all_goals try (exfalso; clear hP; omega)
      all_goals
        repeat' (first | (with_reducible first | refine p_tn ?_ | refine wp_seq ?_ | refine w_reg ?_ | refine l_nil ?_) | ((with_reducible refine g_on ?_); (first | ((with_reducible refine g_mv ?_); refine l_p txs rfl rfl ?_) | ((with_reducible refine g_as ?_); refine l_p txs rfl rfl ?_) | ((with_reducible refine g_pk ?_); refine l_p txs rfl rfl ?_))) | ((with_reducible refine g_if ?_); (first | (refine l_off rfl ?_) | ((with_reducible refine g_mv ?_); refine l_p txs rfl rfl ?_))))
        first
        | ((with_reducible refine is_l ?_); refine l_t txs rfl rfl (fun h => ?_) (fun h => ?_))
        | skip
      all_goals try (exfalso; clear hP; omega)
      all_goals
        repeat' (first | ((with_reducible refine g_on ?_); (first | ((with_reducible refine g_mv ?_); refine l_p txs rfl rfl ?_) | ((with_reducible refine g_pk ?_); refine l_p txs rfl rfl ?_))) | ((with_reducible refine g_if ?_); ((with_reducible refine g_mv ?_); refine l_p txs rfl rfl ?_)))
        first
        | ((with_reducible refine is_l ?_); refine l_t txs rfl rfl (fun h => ?_) (fun h => ?_))
        | skip
      all_goals try (exfalso; clear hP; omega)
      all_goals
        repeat' (first | (with_reducible first | refine p_tn ?_ | refine wp_seq ?_ | refine w_reg ?_ | refine l_nil ?_) | ((with_reducible refine g_on ?_); (first | ((with_reducible refine g_mv ?_); refine l_p txs rfl rfl ?_) | ((with_reducible refine g_as ?_); refine l_p txs rfl rfl ?_) | ((with_reducible refine g_pk ?_); refine l_p txs rfl rfl ?_))) | ((with_reducible refine g_if ?_); (first | (refine l_off rfl ?_) | ((with_reducible refine g_mv ?_); refine l_p txs rfl rfl ?_))))
        first
        | ((with_reducible refine is_l ?_); refine l_t txs rfl rfl (fun h => ?_) (fun h => ?_))
        | skip
      all_goals try (exfalso; clear hP; omega)
      all_goals
        repeat' (first | (with_reducible first | refine p_tn ?_ | refine wp_seq ?_ | refine w_reg ?_ | refine l_nil ?_) | ((with_reducible refine g_on ?_); (first | ((with_reducible refine g_mv ?_); refine l_p txs rfl rfl ?_) | ((with_reducible refine g_as ?_); refine l_p txs rfl rfl ?_) | ((with_reducible refine g_pk ?_); refine l_p txs rfl rfl ?_))) | ((with_reducible refine g_if ?_); ((with_reducible refine g_mv ?_); refine l_p txs rfl rfl ?_)))
        first
        | ((with_reducible refine is_l ?_); refine l_t txs rfl rfl (fun h => ?_) (fun h => ?_))
        | skip
      all_goals try (exfalso; clear hP; omega)
      all_goals
        repeat' (first | ((with_reducible refine g_on ?_); (first | ((with_reducible refine g_mv ?_); refine l_p txs rfl rfl ?_) | ((with_reducible refine g_pk ?_); refine l_p txs rfl rfl ?_))) | ((with_reducible refine g_if ?_); ((with_reducible refine g_mv ?_); refine l_p txs rfl rfl ?_)))
        first
        | ((with_reducible refine is_l ?_); refine l_t txs rfl rfl (fun h => ?_) (fun h => ?_))
        | skip
      all_goals try (exfalso; clear hP; omega)
      all_goals
        repeat' (first | (with_reducible first | refine p_tn ?_ | refine wp_seq ?_ | refine w_reg ?_ | refine l_nil ?_) | ((with_reducible refine g_on ?_); (first | ((with_reducible refine g_mv ?_); refine l_p txs rfl rfl ?_) | ((with_reducible refine g_as ?_); refine l_p txs rfl rfl ?_) | ((with_reducible refine g_pk ?_); refine l_p txs rfl rfl ?_))))
        first
        | ((with_reducible refine is_l ?_); refine l_t txs rfl rfl (fun h => ?_) (fun h => ?_))
        | skip
      all_goals try (exfalso; clear hP; omega)
      all_goals
        skip
        (with_reducible refine is_l ?_); refine h_bs H info_u8 Tryd.underlying38 (by decide) (by decide) rfl rfl (by kernel_rfl) (fun g_ w_ H => ?_)
        skip
        (with_reducible refine is_l ?_); refine l_text rfl rfl Tryd.underlying38 Tryd.underlying5 Tryd.underlying9 (reads_of_rd (xs := [c]) (H.cellRd 0 rfl) (by show 1 ≤ 9223372036854775807; decide)) ?_
        skip
        (with_reducible refine is_l ?_); refine l_cat rfl rfl (by omega) ?_
        repeat' ((with_reducible refine g_on ?_); ((with_reducible refine g_mv ?_); refine l_p txs rfl rfl ?_))
        (with_reducible refine is_l ?_); refine l_cat rfl rfl (by rw [ByteArray.size_append]; omega) ?_
        clear hT
        generalize t ++ strOfNums [c] ++ u = s at hP ⊢
        repeat' (first | (with_reducible first | refine p_tn ?_ | refine wp_seq ?_ | refine w_reg ?_ | refine l_nil ?_) | ((with_reducible refine g_on ?_); ((with_reducible refine g_as ?_); refine l_p txs rfl rfl ?_)))
        (with_reducible refine is_l ?_); refine l_callv rfl rfl (by kernel_rfl) (sample_c (hL.below H.B)) (fun w_ K => ?_)
        have H := H.call K
        repeat' ((with_reducible refine g_on ?_); (first | ((with_reducible refine g_mv ?_); refine l_p txs rfl rfl ?_) | ((with_reducible refine g_un ?_); (refine l_p txs rfl rfl ?_))))
        (with_reducible refine is_l ?_); refine l_callv rfl rfl (by kernel_rfl) (ver_b (p := ⟨#[118, 48, 46, 48, 46, 48]⟩) rfl hz0 (hL.below H.B)) (fun w_ K => ?_)
        have H := H.call K
        skip
        (with_reducible refine is_l ?_); refine l_t txs rfl rfl (fun h => absurd rfl h) (fun _ => ?_)
        repeat' (first | (with_reducible first | refine p_tn ?_ | refine wp_seq ?_ | refine w_reg ?_) | (with_reducible (refine is_if ?_; (refine w_iff rfl ?_))) | (with_reducible first | refine wp_skip ?_ | refine l_nil ?_) | ((with_reducible refine g_on ?_); (first | ((with_reducible refine g_mv ?_); refine l_p txs rfl rfl ?_) | ((with_reducible refine g_pk ?_); refine l_p txs rfl rfl ?_) | ((with_reducible refine g_un ?_); (refine l_p txs rfl rfl ?_)))) | ((with_reducible refine g_if ?_); (first | (refine l_off rfl ?_) | ((with_reducible refine g_mv ?_); refine l_p txs rfl rfl ?_))))
      all_goals
        (with_reducible refine is_l ?_); refine l_callv rfl rfl (by kernel_rfl) (ver_b (p := s) rfl (chkV_none hP) (hL.below H.B)) (fun w_ K => ?_)
        have H := H.call K
        skip
        (with_reducible refine is_l ?_); refine l_t txs rfl rfl (fun _ => ?_) (fun h => absurd rfl h)
        repeat' (first | (with_reducible first | refine p_tn ?_ | refine wp_ret ?_ | refine l_nil ?_) | ((with_reducible refine g_on ?_); (first | ((with_reducible refine g_as ?_); refine l_p txs rfl rfl ?_) | ((with_reducible refine g_pk ?_); refine l_p txs rfl rfl ?_))))
        refine end1 rfl rfl ?_
        exact ⟨rfl, H.B⟩
    · clear hP
      have hP : bl (t ++ strOfNums [c] ++ u) = bl (t ++ strOfNums [c] ++ u) := rfl
      rw [hv] at iv
      simp only [true_iff] at iv
      all_goals
        repeat' (first | (with_reducible first | refine p_tn ?_ | refine wp_seq ?_ | refine w_reg ?_ | refine l_nil ?_) | ((with_reducible refine g_on ?_); (first | ((with_reducible refine g_mv ?_); refine l_p txs rfl rfl ?_) | ((with_reducible refine g_as ?_); refine l_p txs rfl rfl ?_))))
        first
        | ((with_reducible refine is_l ?_); refine l_t txs rfl rfl (fun h => ?_) (fun h => ?_))
        | skip
      all_goals try (exfalso; clear hP; omega)
      all_goals
        repeat' (first | ((with_reducible refine g_on ?_); (first | ((with_reducible refine g_mv ?_); refine l_p txs rfl rfl ?_) | ((with_reducible refine g_pk ?_); refine l_p txs rfl rfl ?_))) | ((with_reducible refine g_if ?_); (first | (refine l_off rfl ?_) | ((with_reducible refine g_mv ?_); refine l_p txs rfl rfl ?_))))
        first
        | ((with_reducible refine is_l ?_); refine l_t txs rfl rfl (fun h => ?_) (fun h => ?_))
        | skip
      all_goals try (exfalso; clear hP; omega)
      all_goals
        repeat' (first | (with_reducible first | refine p_tn ?_ | refine wp_seq ?_ | refine w_reg ?_ | refine l_nil ?_) | ((with_reducible refine g_on ?_); (first | ((with_reducible refine g_mv ?_); refine l_p txs rfl rfl ?_) | ((with_reducible refine g_as ?_); refine l_p txs rfl rfl ?_) | ((with_reducible refine g_pk ?_); refine l_p txs rfl rfl ?_))) | ((with_reducible refine g_if ?_); (first | (refine l_off rfl ?_) | ((with_reducible refine g_mv ?_); refine l_p txs rfl rfl ?_) | ((with_reducible refine g_pk ?_); refine l_p txs rfl rfl ?_))))
        first
        | ((with_reducible refine is_l ?_); refine l_t txs rfl rfl (fun h => ?_) (fun h => ?_))
        | skip
      all_goals try (exfalso; clear hP; omega)
      all_goals
        repeat' (first | (with_reducible first | refine p_tn ?_ | refine wp_seq ?_ | refine w_reg ?_ | refine l_nil ?_) | ((with_reducible refine g_on ?_); (first | ((with_reducible refine g_mv ?_); refine l_p txs rfl rfl ?_) | ((with_reducible refine g_as ?_); refine l_p txs rfl rfl ?_) | ((with_reducible refine g_pk ?_); refine l_p txs rfl rfl ?_))) | ((with_reducible refine g_if ?_); (first | (refine l_off rfl ?_) | ((with_reducible refine g_mv ?_); refine l_p txs rfl rfl ?_) | ((with_reducible refine g_pk ?_); refine l_p txs rfl rfl ?_))))
        first
        | ((with_reducible refine is_l ?_); refine l_t txs rfl rfl (fun h => ?_) (fun h => ?_))
        | skip
      all_goals try (exfalso; clear hP; omega)
      all_goals
        repeat' (first | (with_reducible first | refine p_tn ?_ | refine wp_seq ?_ | refine w_reg ?_ | refine l_nil ?_) | ((with_reducible refine g_on ?_); (first | ((with_reducible refine g_mv ?_); refine l_p txs rfl rfl ?_) | ((with_reducible refine g_as ?_); refine l_p txs rfl rfl ?_) | ((with_reducible refine g_pk ?_); refine l_p txs rfl rfl ?_))) | ((with_reducible refine g_if ?_); (first | (refine l_off rfl ?_) | ((with_reducible refine g_mv ?_); refine l_p txs rfl rfl ?_) | ((with_reducible refine g_pk ?_); refine l_p txs rfl rfl ?_))))
        first
        | ((with_reducible refine is_l ?_); refine l_t txs rfl rfl (fun h => ?_) (fun h => ?_))
        | skip
      all_goals try (exfalso; clear hP; omega)
      all_goals
        repeat' (first | (with_reducible first | refine p_tn ?_ | refine wp_seq ?_ | refine w_reg ?_ | refine l_nil ?_) | ((with_reducible refine g_on ?_); (first | ((with_reducible refine g_mv ?_); refine l_p txs rfl rfl ?_) | ((with_reducible refine g_as ?_); refine l_p txs rfl rfl ?_) | ((with_reducible refine g_pk ?_); refine l_p txs rfl rfl ?_))) | ((with_reducible refine g_if ?_); (first | (refine l_off rfl ?_) | ((with_reducible refine g_mv ?_); refine l_p txs rfl rfl ?_))))
        first
        | ((with_reducible refine is_l ?_); refine l_t txs rfl rfl (fun h => ?_) (fun h => ?_))
        | skip
      all_goals try (exfalso; clear hP; omega)
      all_goals
        repeat' (first | ((with_reducible refine g_on ?_); (first | ((with_reducible refine g_mv ?_); refine l_p txs rfl rfl ?_) | ((with_reducible refine g_pk ?_); refine l_p txs rfl rfl ?_))) | ((with_reducible refine g_if ?_); ((with_reducible refine g_mv ?_); refine l_p txs rfl rfl ?_)))
        first
        | ((with_reducible refine is_l ?_); refine l_t txs rfl rfl (fun h => ?_) (fun h => ?_))
        | skip
      all_goals try (exfalso; clear hP; omega)
      all_goals
        repeat' (first | (with_reducible first | refine p_tn ?_ | refine wp_seq ?_ | refine w_reg ?_ | refine l_nil ?_) | ((with_reducible refine g_on ?_); (first | ((with_reducible refine g_mv ?_); refine l_p txs rfl rfl ?_) | ((with_reducible refine g_as ?_); refine l_p txs rfl rfl ?_) | ((with_reducible refine g_pk ?_); refine l_p txs rfl rfl ?_))) | ((with_reducible refine g_if ?_); (refine l_off rfl ?_)))
        first
        | ((with_reducible refine is_l ?_); refine l_t txs rfl rfl (fun h => ?_) (fun h => ?_))
        | skip
      all_goals try (exfalso; clear hP; omega)
      all_goals
        skip
        first
        | ((with_reducible refine is_l ?_); refine l_t txs rfl rfl (fun h => ?_) (fun h => ?_))
        | skip
      all_goals try (exfalso; clear hP; omega)
      all_goals
        skip
        first
        | ((with_reducible refine is_l ?_); refine l_t txs rfl rfl (fun h => ?_) (fun h => ?_))
        | skip
      all_goals try (exfalso; clear hP; omega)
      all_goals
        skip
        first
        | ((with_reducible refine is_l ?_); refine l_t txs rfl rfl (fun h => ?_) (fun h => ?_))
        | skip
      all_goals try (exfalso; clear hP; omega)
      all_goals
        skip
        first
        | ((with_reducible refine is_l ?_); refine l_t txs rfl rfl (fun h => ?_) (fun h => ?_))
        | skip
      all_goals try (exfalso; clear hP; omega)
      all_goals
        skip
        first
        | ((with_reducible refine is_l ?_); refine l_t txs rfl rfl (fun h => ?_) (fun h => ?_))
        | skip
      all_goals try (exfalso; clear hP; omega)
      all_goals
        skip
        first
        | ((with_reducible refine is_l ?_); refine l_t txs rfl rfl (fun h => ?_) (fun h => ?_))
        | skip
      all_goals try (exfalso; clear hP; omega)
      all_goals
        skip
        (with_reducible refine is_l ?_); refine h_bs H info_u8 Tryd.underlying38 (by decide) (by decide) rfl rfl (by kernel_rfl) (fun g_ w_ H => ?_)
        skip
        (with_reducible refine is_l ?_); refine l_text rfl rfl Tryd.underlying38 Tryd.underlying5 Tryd.underlying9 (reads_of_rd (xs := [c]) (H.cellRd 0 rfl) (by show 1 ≤ 9223372036854775807; decide)) ?_
        skip
        (with_reducible refine is_l ?_); refine l_cat rfl rfl (by omega) ?_
        repeat' ((with_reducible refine g_on ?_); ((with_reducible refine g_mv ?_); refine l_p txs rfl rfl ?_))
        (with_reducible refine is_l ?_); refine l_cat rfl rfl (by rw [ByteArray.size_append]; omega) ?_
        clear hT
        generalize t ++ strOfNums [c] ++ u = s at hP ⊢
        repeat' (first | (with_reducible first | refine p_tn ?_ | refine wp_seq ?_ | refine w_reg ?_ | refine l_nil ?_) | ((with_reducible refine g_on ?_); ((with_reducible refine g_as ?_); refine l_p txs rfl rfl ?_)))
        (with_reducible refine is_l ?_); refine l_callv rfl rfl (by kernel_rfl) (sample_c (hL.below H.B)) (fun w_ K => ?_)
        have H := H.call K
        repeat' ((with_reducible refine g_on ?_); (first | ((with_reducible refine g_mv ?_); refine l_p txs rfl rfl ?_) | ((with_reducible refine g_un ?_); (refine l_p txs rfl rfl ?_))))
        (with_reducible refine is_l ?_); refine l_callv rfl rfl (by kernel_rfl) (ver_b (p := ⟨#[118, 48, 46, 48, 46, 48]⟩) rfl hz0 (hL.below H.B)) (fun w_ K => ?_)
        have H := H.call K
        skip
        (with_reducible refine is_l ?_); refine l_t txs rfl rfl (fun h => absurd rfl h) (fun _ => ?_)
        repeat' (first | (with_reducible first | refine p_tn ?_ | refine wp_seq ?_ | refine w_reg ?_) | (with_reducible (refine is_if ?_; (refine w_iff rfl ?_))) | (with_reducible first | refine wp_skip ?_ | refine wp_ret ?_ | refine l_nil ?_) | ((with_reducible refine g_on ?_); (first | ((with_reducible refine g_mv ?_); refine l_p txs rfl rfl ?_) | ((with_reducible refine g_as ?_); refine l_p txs rfl rfl ?_) | ((with_reducible refine g_pk ?_); refine l_p txs rfl rfl ?_) | ((with_reducible refine g_un ?_); (refine l_p txs rfl rfl ?_)))) | ((with_reducible refine g_if ?_); (refine l_off rfl ?_)))
      all_goals
        refine end1 rfl rfl ?_
        exact ⟨rfl, H.B⟩
end Go.Proofs.YtnimaenhijlcmaaDoor.K.Rec
