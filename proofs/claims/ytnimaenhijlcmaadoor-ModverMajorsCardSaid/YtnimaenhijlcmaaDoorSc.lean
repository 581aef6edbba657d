/- ModverMajors. -/
import Derived.Test.YtnimaenhijlcmaaDoorSa
import Derived.Test.YtnimaenhijlcmaaDoorMMaj
namespace Go.Proofs.YtnimaenhijlcmaaDoor.K.Rec
open Go.RowKit Go.Proofs.YtnimaenhijlcmaaDoor.Q Go.Proofs.YtnimaenhijlcmaaDoor.K Go.Proofs.YtnimaenhijlcmaaDoor.Mb Go.Proofs.YtnimaenhijlcmaaDoorW.PrintWords
set_option linter.unusedVariables false
set_option linter.unusedSimpArgs false

theorem takes_b {p v : ByteArray} {x y : L} (hx : bl p = x) (hy : bl v = y) {b : Bool} (hb : decide (checkS x y = 0) = b) {w : World} (hL : Lay w) :
    Calls Tryd.prog 21 #[.string p, .string v] w fun e w' => e = .returned (.bool b) ∧ Below w.heap.size w w' := by
  have h := takes_c hL p v
  rw [hx, hy, hb] at h
  exact h
theorem path_b {p : ByteArray} {x : L} (hx : bl p = x) {n : Int} (hn : (pathN x : Int) = n) {w : World} (hL : Lay w) :
    Calls Tryd.prog 22 #[.string p] w fun e w' => e = .returned (.int .i64 n) ∧ Below w.heap.size w w' := by
  have h := checkPath_c hL p
  rw [hx, hn] at h
  exact h
abbrev twelveB : List ByteArray := [⟨#[47]⟩, ⟨#[47, 118, 48]⟩, ⟨#[47, 118, 49]⟩, ⟨#[47, 118, 48, 50]⟩, ⟨#[47, 118, 50, 46, 48]⟩, ⟨#[47, 47, 98]⟩, ⟨#[47, 46, 98]⟩, ⟨#[47, 98, 46]⟩, ⟨#[47, 97, 32, 98]⟩, ⟨#[47, 99, 111, 110]⟩, ⟨#[47, 78, 117, 108, 46, 120]⟩, ⟨#[47, 120, 126, 49]⟩]
theorem twelve_bl : twelveB.map bl = twelve := by decide +kernel
theorem twelve_size : ∀ s ∈ twelveB, s.size ≤ 10 := by
  have h : twelveB.all (fun s => decide (s.size ≤ 10)) = true := by decide +kernel
  intro s hs
  exact of_decide_eq_true (List.all_eq_true.1 h s hs)
abbrev tc : List Value := twelveB.map Value.string
theorem bad_n {p : L} (h : pathS p = false) : (pathN p : Int) = 110 := by unfold pathN; rw [h]; rfl
theorem good_n {p : L} (h : pathS p = true) : (pathN p : Int) = 0 := by unfold pathN; rw [h]; rfl
set_option maxRecDepth 100000 in
set_option maxHeartbeats 16000000 in
theorem majors_c {w : World} (hL : Lay w) (t : ByteArray) :
    Calls Tryd.prog 7 #[.string t] w fun e w' => e = .returned (.bool true) ∧ Below w.heap.size w w' := by
  have hlen := bl_length t
  have ha : checkS (bl ⟨#[97, 46, 99, 111, 109]⟩) one0 = 0 := by decide +kernel
  refine enter (args := [.string t]) Tryd.func7 rfl Tryd.ntmps7 rfl ?_
  have H := Hp.nil w
  repeat' (first | (with_reducible first | refine p_tn ?_ | refine wp_seq ?_ | refine w_reg ?_ | refine l_nil ?_) | ((with_reducible refine g_on ?_); ((with_reducible refine g_as ?_); refine l_p txs rfl rfl ?_)))
  (with_reducible refine is_l ?_); refine l_callv rfl rfl (by kernel_rfl) (sample_c (hL.below H.B)) (fun w_ K => ?_)
  have H := H.call K
  repeat' ((with_reducible refine g_on ?_); (first | ((with_reducible refine g_mv ?_); refine l_p txs rfl rfl ?_) | ((with_reducible refine g_un ?_); (refine l_p txs rfl rfl ?_))))
  (with_reducible refine is_l ?_); refine l_callv rfl rfl (by kernel_rfl) (takes_b (p := ⟨#[97, 46, 99, 111, 109]⟩) (v := ⟨#[118, 49, 46, 48, 46, 48]⟩) rfl (show bl (⟨#[118, 49, 46, 48, 46, 48]⟩ : ByteArray) = one0 from by kernel_rfl) (decide_eq_true ha) (hL.below H.B)) (fun w_ K => ?_)
  have H := H.call K
  by_cases h1 : checkS (bl t) one0 = 0
  rotate_left
  · skip
    repeat' (first | (with_reducible first | refine p_tn ?_ | refine wp_seq ?_ | refine w_reg ?_) | (with_reducible (refine is_if ?_; (refine w_iff rfl ?_))) | (with_reducible first | refine wp_skip ?_ | refine l_nil ?_) | ((with_reducible refine g_on ?_); (first | ((with_reducible refine g_mv ?_); refine l_p txs rfl rfl ?_) | ((with_reducible refine g_pk ?_); refine l_p txs rfl rfl ?_))) | ((with_reducible refine g_if ?_); ((with_reducible refine g_un ?_); (refine l_p txs rfl rfl ?_))))
    (with_reducible refine is_l ?_); refine l_callv rfl rfl (by kernel_rfl) (takes_b (p := t) (v := ⟨#[118, 49, 46, 48, 46, 48]⟩) rfl (show bl (⟨#[118, 49, 46, 48, 46, 48]⟩ : ByteArray) = one0 from by kernel_rfl) (decide_eq_false h1) (hL.below H.B)) (fun w_ K => ?_)
    have H := H.call K
    repeat' (first | (with_reducible first | refine p_tn ?_ | refine p_tr ?_ | refine wp_seq ?_ | refine w_reg ?_) | (with_reducible (refine is_if ?_; (refine w_ift rfl ?_))) | (with_reducible first | refine wp_ret ?_ | refine l_nil ?_) | ((with_reducible refine g_on ?_); (first | ((with_reducible refine g_mv ?_); refine l_p txs rfl rfl ?_) | ((with_reducible refine g_as ?_); refine l_p txs rfl rfl ?_) | ((with_reducible refine g_pk ?_); refine l_p txs rfl rfl ?_) | ((with_reducible refine g_un ?_); (refine l_p txs rfl rfl ?_)))) | ((with_reducible refine g_if ?_); (refine l_off rfl ?_)))
    refine end1 rfl rfl ?_
    exact ⟨rfl, H.B⟩
  repeat' (first | (with_reducible first | refine p_tn ?_ | refine wp_seq ?_ | refine w_reg ?_) | (with_reducible (refine is_if ?_; (refine w_iff rfl ?_))) | (with_reducible first | refine wp_skip ?_ | refine l_nil ?_) | ((with_reducible refine g_on ?_); (first | ((with_reducible refine g_mv ?_); refine l_p txs rfl rfl ?_) | ((with_reducible refine g_pk ?_); refine l_p txs rfl rfl ?_))) | ((with_reducible refine g_if ?_); ((with_reducible refine g_un ?_); (refine l_p txs rfl rfl ?_))))
  (with_reducible refine is_l ?_); refine l_callv rfl rfl (by kernel_rfl) (takes_b (p := t) (v := ⟨#[118, 49, 46, 48, 46, 48]⟩) rfl (show bl (⟨#[118, 49, 46, 48, 46, 48]⟩ : ByteArray) = one0 from by kernel_rfl) (decide_eq_true h1) (hL.below H.B)) (fun w_ K => ?_)
  have H := H.call K
  by_cases h0 : checkS (bl t) zero0 = 0
  rotate_left
  · skip
    repeat' (first | ((with_reducible refine g_on ?_); (first | ((with_reducible refine g_mv ?_); refine l_p txs rfl rfl ?_) | ((with_reducible refine g_un ?_); (refine l_p txs rfl rfl ?_)))) | ((with_reducible refine g_if ?_); ((with_reducible refine g_mv ?_); refine l_p txs rfl rfl ?_)))
    (with_reducible refine is_l ?_); refine l_callv rfl rfl (by kernel_rfl) (takes_b (p := t) (v := ⟨#[118, 48, 46, 48, 46, 48]⟩) rfl (show bl (⟨#[118, 48, 46, 48, 46, 48]⟩ : ByteArray) = zero0 from by kernel_rfl) (decide_eq_false h0) (hL.below H.B)) (fun w_ K => ?_)
    have H := H.call K
    repeat' (first | (with_reducible first | refine p_tn ?_ | refine p_tr ?_ | refine wp_seq ?_ | refine w_reg ?_) | (with_reducible (refine is_if ?_; (refine w_ift rfl ?_))) | (with_reducible first | refine wp_ret ?_ | refine l_nil ?_) | ((with_reducible refine g_on ?_); (first | ((with_reducible refine g_mv ?_); refine l_p txs rfl rfl ?_) | ((with_reducible refine g_as ?_); refine l_p txs rfl rfl ?_) | ((with_reducible refine g_pk ?_); refine l_p txs rfl rfl ?_))) | ((with_reducible refine g_if ?_); (first | (refine l_off rfl ?_) | ((with_reducible refine g_un ?_); (refine l_p txs rfl rfl ?_)))))
    refine end1 rfl rfl ?_
    exact ⟨rfl, H.B⟩
  repeat' (first | ((with_reducible refine g_on ?_); (first | ((with_reducible refine g_mv ?_); refine l_p txs rfl rfl ?_) | ((with_reducible refine g_un ?_); (refine l_p txs rfl rfl ?_)))) | ((with_reducible refine g_if ?_); ((with_reducible refine g_mv ?_); refine l_p txs rfl rfl ?_)))
  (with_reducible refine is_l ?_); refine l_callv rfl rfl (by kernel_rfl) (takes_b (p := t) (v := ⟨#[118, 48, 46, 48, 46, 48]⟩) rfl (show bl (⟨#[118, 48, 46, 48, 46, 48]⟩ : ByteArray) = zero0 from by kernel_rfl) (decide_eq_true h0) (hL.below H.B)) (fun w_ K => ?_)
  have H := H.call K
  repeat' (first | ((with_reducible refine g_on ?_); (first | ((with_reducible refine g_mv ?_); refine l_p txs rfl rfl ?_) | ((with_reducible refine g_pk ?_); refine l_p txs rfl rfl ?_))) | ((with_reducible refine g_if ?_); (first | ((with_reducible refine g_mv ?_); refine l_p txs rfl rfl ?_) | ((with_reducible refine g_un ?_); (refine l_p txs rfl rfl ?_)) | ((with_reducible refine g_cl ?_); refine l_p txs rfl rfl ?_))))
  (with_reducible refine is_l ?_); refine l_t txs rfl rfl (fun hbig => ?_) (fun hsm => ?_)
  · repeat' (first | (with_reducible first | refine p_tn ?_ | refine p_tr ?_ | refine wp_seq ?_ | refine w_reg ?_) | (with_reducible (refine is_if ?_; (refine w_ift rfl ?_))) | (with_reducible first | refine wp_ret ?_ | refine l_nil ?_) | ((with_reducible refine g_on ?_); (first | ((with_reducible refine g_as ?_); refine l_p txs rfl rfl ?_) | ((with_reducible refine g_pk ?_); refine l_p txs rfl rfl ?_))))
    refine end1 rfl rfl ?_
    exact ⟨rfl, H.B⟩
  have F := maj_facts h1 h0 (by omega)
  have z2 : (⟨#[47, 118, 50]⟩ : ByteArray).size = 3 := rfl
  have zx : (⟨#[47, 118, 120]⟩ : ByteArray).size = 3 := rfl
  have z1 : (⟨#[47]⟩ : ByteArray).size = 1 := rfl
  have htwo : bl (t ++ ⟨#[47, 118, 50]⟩) = bl t ++ sl2 := by rw [bl_cat]; rfl
  have hx : bl (t ++ ⟨#[47, 118, 120]⟩) = bl t ++ slx := by rw [bl_cat]; rfl
  have hs : bl (⟨#[47]⟩ ++ t) = 47 :: bl t := by rw [bl_cat]; rfl
  repeat' (first | (with_reducible first | refine p_tn ?_ | refine wp_seq ?_ | refine w_reg ?_) | (with_reducible (refine is_if ?_; (refine w_iff rfl ?_))) | (with_reducible first | refine wp_skip ?_ | refine l_nil ?_) | ((with_reducible refine g_on ?_); (first | ((with_reducible refine g_mv ?_); refine l_p txs rfl rfl ?_) | ((with_reducible refine g_pk ?_); refine l_p txs rfl rfl ?_))))
  (with_reducible refine is_l ?_); refine l_callv rfl rfl (by kernel_rfl) (takes_b (p := t) (v := ⟨#[118, 50, 46, 48, 46, 48]⟩) rfl (show bl (⟨#[118, 50, 46, 48, 46, 48]⟩ : ByteArray) = v200 from by kernel_rfl) (decide_eq_false F.a) (hL.below H.B)) (fun w_ K => ?_)
  have H := H.call K
  repeat' (first | ((with_reducible refine g_on ?_); ((with_reducible refine g_mv ?_); refine l_p txs rfl rfl ?_)) | ((with_reducible refine g_if ?_); ((with_reducible refine g_mv ?_); refine l_p txs rfl rfl ?_)))
  (with_reducible refine is_l ?_); refine l_callv rfl rfl (by kernel_rfl) (takes_b (p := t) (v := ⟨#[118, 50, 46, 48, 46, 48, 43, 105, 110, 99, 111, 109, 112, 97, 116, 105, 98, 108, 101]⟩) rfl (show bl (⟨#[118, 50, 46, 48, 46, 48, 43, 105, 110, 99, 111, 109, 112, 97, 116, 105, 98, 108, 101]⟩ : ByteArray) = v200i from by kernel_rfl) (decide_eq_true F.b) (hL.below H.B)) (fun w_ K => ?_)
  have H := H.call K
  repeat' (first | ((with_reducible refine g_on ?_); (first | ((with_reducible refine g_mv ?_); refine l_p txs rfl rfl ?_) | ((with_reducible refine g_pk ?_); refine l_p txs rfl rfl ?_))) | ((with_reducible refine g_if ?_); (first | ((with_reducible refine g_mv ?_); refine l_p txs rfl rfl ?_) | ((with_reducible refine g_un ?_); (refine l_p txs rfl rfl ?_)))))
  (with_reducible refine is_l ?_); refine l_callv rfl rfl (by kernel_rfl) (takes_b (p := t) (v := ⟨#[118, 57, 46, 49, 46, 48, 45, 97, 43, 105, 110, 99, 111, 109, 112, 97, 116, 105, 98, 108, 101]⟩) rfl (show bl (⟨#[118, 57, 46, 49, 46, 48, 45, 97, 43, 105, 110, 99, 111, 109, 112, 97, 116, 105, 98, 108, 101]⟩ : ByteArray) = v910i from by kernel_rfl) (decide_eq_true F.c) (hL.below H.B)) (fun w_ K => ?_)
  have H := H.call K
  repeat' (first | (with_reducible first | refine p_tn ?_ | refine wp_seq ?_ | refine w_reg ?_) | (with_reducible (refine is_if ?_; (refine w_iff rfl ?_))) | (with_reducible first | refine wp_skip ?_ | refine l_nil ?_) | ((with_reducible refine g_on ?_); (first | ((with_reducible refine g_mv ?_); refine l_p txs rfl rfl ?_) | ((with_reducible refine g_pk ?_); refine l_p txs rfl rfl ?_))) | ((with_reducible refine g_if ?_); ((with_reducible refine g_un ?_); (refine l_p txs rfl rfl ?_))))
  (with_reducible refine is_l ?_); refine l_cat rfl rfl (by omega) ?_
  generalize t ++ ⟨#[47, 118, 50]⟩ = t2 at htwo ⊢
  repeat' (first | (with_reducible first | refine p_tn ?_ | refine wp_seq ?_ | refine w_reg ?_ | refine l_nil ?_) | ((with_reducible refine g_on ?_); (first | ((with_reducible refine g_mv ?_); refine l_p txs rfl rfl ?_) | ((with_reducible refine g_as ?_); refine l_p txs rfl rfl ?_))))
  (with_reducible refine is_l ?_); refine l_callv rfl rfl (by kernel_rfl) (takes_b (p := t2) (v := ⟨#[118, 50, 46, 48, 46, 48]⟩) htwo (show bl (⟨#[118, 50, 46, 48, 46, 48]⟩ : ByteArray) = v200 from by kernel_rfl) (decide_eq_true F.d) (hL.below H.B)) (fun w_ K => ?_)
  have H := H.call K
  repeat' (first | ((with_reducible refine g_on ?_); (first | ((with_reducible refine g_mv ?_); refine l_p txs rfl rfl ?_) | ((with_reducible refine g_un ?_); (refine l_p txs rfl rfl ?_)))) | ((with_reducible refine g_if ?_); ((with_reducible refine g_mv ?_); refine l_p txs rfl rfl ?_)))
  (with_reducible refine is_l ?_); refine l_callv rfl rfl (by kernel_rfl) (takes_b (p := t2) (v := ⟨#[118, 50, 46, 51, 46, 52, 45, 120]⟩) htwo (show bl (⟨#[118, 50, 46, 51, 46, 52, 45, 120]⟩ : ByteArray) = v234x from by kernel_rfl) (decide_eq_true F.e) (hL.below H.B)) (fun w_ K => ?_)
  have H := H.call K
  repeat' (first | ((with_reducible refine g_on ?_); (first | ((with_reducible refine g_mv ?_); refine l_p txs rfl rfl ?_) | ((with_reducible refine g_pk ?_); refine l_p txs rfl rfl ?_))) | ((with_reducible refine g_if ?_); (first | ((with_reducible refine g_mv ?_); refine l_p txs rfl rfl ?_) | ((with_reducible refine g_un ?_); (refine l_p txs rfl rfl ?_)))))
  (with_reducible refine is_l ?_); refine l_callv rfl rfl (by kernel_rfl) (takes_b (p := t2) (v := ⟨#[118, 49, 46, 48, 46, 48]⟩) htwo (show bl (⟨#[118, 49, 46, 48, 46, 48]⟩ : ByteArray) = one0 from by kernel_rfl) (decide_eq_false F.f) (hL.below H.B)) (fun w_ K => ?_)
  have H := H.call K
  repeat' (first | ((with_reducible refine g_on ?_); (first | ((with_reducible refine g_mv ?_); refine l_p txs rfl rfl ?_) | ((with_reducible refine g_pk ?_); refine l_p txs rfl rfl ?_))) | ((with_reducible refine g_if ?_); ((with_reducible refine g_mv ?_); refine l_p txs rfl rfl ?_)))
  (with_reducible refine is_l ?_); refine l_callv rfl rfl (by kernel_rfl) (takes_b (p := t2) (v := ⟨#[118, 51, 46, 48, 46, 48]⟩) htwo (show bl (⟨#[118, 51, 46, 48, 46, 48]⟩ : ByteArray) = v300 from by kernel_rfl) (decide_eq_false F.g) (hL.below H.B)) (fun w_ K => ?_)
  have H := H.call K
  repeat' (first | ((with_reducible refine g_on ?_); (first | ((with_reducible refine g_mv ?_); refine l_p txs rfl rfl ?_) | ((with_reducible refine g_pk ?_); refine l_p txs rfl rfl ?_))) | ((with_reducible refine g_if ?_); ((with_reducible refine g_mv ?_); refine l_p txs rfl rfl ?_)))
  (with_reducible refine is_l ?_); refine l_callv rfl rfl (by kernel_rfl) (takes_b (p := t2) (v := ⟨#[118, 50, 46, 48, 46, 48, 43, 105, 110, 99, 111, 109, 112, 97, 116, 105, 98, 108, 101]⟩) htwo (show bl (⟨#[118, 50, 46, 48, 46, 48, 43, 105, 110, 99, 111, 109, 112, 97, 116, 105, 98, 108, 101]⟩ : ByteArray) = v200i from by kernel_rfl) (decide_eq_false F.h) (hL.below H.B)) (fun w_ K => ?_)
  have H := H.call K
  repeat' (first | (with_reducible first | refine p_tn ?_ | refine wp_seq ?_ | refine w_reg ?_) | (with_reducible (refine is_if ?_; (refine w_iff rfl ?_))) | (with_reducible first | refine wp_skip ?_ | refine l_nil ?_) | ((with_reducible refine g_on ?_); ((with_reducible refine g_pk ?_); refine l_p txs rfl rfl ?_)))
  (with_reducible refine is_l ?_); refine h_bsn (cs := tc) (pv := tc.zipIdx.map fun x => (x.2, x.1)) H info_str3 Tryd.underlying36 (by decide) (by decide) rfl (by kernel_rfl) (fun gq w_ H => ?_)
  repeat' (first | (with_reducible first | refine p_tn ?_ | refine wp_block ?_ | refine l_nil ?_) | ((with_reducible refine g_on ?_); (first | ((with_reducible refine g_mv ?_); refine l_p txs rfl rfl ?_) | ((with_reducible refine g_cl ?_); refine l_p txs rfl rfl ?_))))
  refine w_loop (σ := Nat) (S := fun s => [(0, .string t), (59, .slice (some ⟨gq, 0, none⟩) 12 12), (60, .int .i64 12), (61, .int .i64 (s : Int))]) (J := fun s w' => Hp w w' [(gq, 9, tc)] [] ∧ s ≤ 12) (μ := fun s => 12 - s) 0 ⟨rfl, rfl, rfl, rfl, trivial⟩ ⟨H, by omega⟩ ?_
  clear H
  rintro i f w_ ⟨H, hi⟩
  repeat' (with_reducible first | refine wp_seq ?_ | refine w_reg ?_)
  (with_reducible refine is_l ?_); refine l_t txs rfl rfl (fun hlt => ?_) (fun hge => ?_)
  · have hlB : twelveB.length = 12 := rfl
    obtain ⟨s, hs⟩ : ∃ s, twelveB[i]? = some s := ⟨_, List.getElem?_eq_getElem (by omega)⟩
    have hmem := List.mem_of_getElem? hs
    have hz := twelve_size s hmem
    have hm2 : bl s ∈ twelve := by rw [← twelve_bl]; exact List.mem_map_of_mem hmem
    have hcell : w_.cell? ((⟨gq, 0, none⟩ : Addr).add (Int.toNat (i : Int) * 1)) = some (.string s) := by
      rw [Int.toNat_natCast, Nat.mul_one, Addr.add_lit, Nat.zero_add]
      exact H.cellAt 0 rfl (by rw [List.getElem?_map, hs]; rfl)
    repeat' (first | (with_reducible first | refine p_tn ?_ | refine wp_seq ?_ | refine wp_block ?_ | refine w_reg ?_) | (with_reducible (refine is_if ?_; (refine w_ift rfl ?_))) | (with_reducible first | refine wp_skip ?_ | refine l_nil ?_) | ((with_reducible refine g_on ?_); ((with_reducible refine g_ia ?_); refine l_ia txs rfl rfl (by first | omega | assumption | decide) (by first | omega | assumption | decide) ?_)))
    (with_reducible refine is_l ?_); refine l_ld txs rfl rfl hcell ?_
    repeat' (first | (with_reducible first | refine p_tn ?_ | refine wp_seq ?_ | refine w_reg ?_ | refine l_nil ?_) | ((with_reducible refine g_on ?_); (first | ((with_reducible refine g_mv ?_); refine l_p txs rfl rfl ?_) | ((with_reducible refine g_as ?_); refine l_p txs rfl rfl ?_))))
    (with_reducible refine is_l ?_); refine l_cat rfl rfl (by omega) ?_
    have hts : bl (t ++ s) = bl t ++ bl s := bl_cat t s
    generalize t ++ s = ts at hts ⊢
    skip
    (with_reducible refine is_l ?_); refine l_callv rfl rfl (by kernel_rfl) (path_b (p := ts) hts (bad_n (F.i _ hm2)) (hL.below H.B)) (fun w_ K => ?_)
    have H := H.call K
    skip
    (with_reducible refine is_l ?_); refine l_t txs rfl rfl (fun h => absurd rfl h) (fun _ => ?_)
    repeat' (first | (with_reducible first | refine p_tn ?_ | refine p_bn ?_ | refine w_reg ?_) | (with_reducible (refine is_if ?_; (refine w_iff rfl ?_))) | (with_reducible first | refine wp_skip ?_ | refine l_nil ?_) | ((with_reducible refine g_on ?_); (first | ((with_reducible refine g_mv ?_); refine l_p txs rfl rfl ?_) | ((with_reducible refine g_bi ?_); (refine l_a txs rfl rfl (by first | exact in_i64 (by omega) (by omega) | exact in_u8 (by omega) (by omega) | exact in_u64 (by omega) (by omega) | exact in_i32 (by omega) (by omega)) ?_)))))
    exact ⟨i + 1, _, rfl, ⟨rfl, rfl, rfl, rfl, trivial⟩, ⟨H, by omega⟩, by omega⟩
  · repeat' (first | (with_reducible first | refine p_tn ?_ | refine p_tx ?_ | refine x_hit ?_ | refine wp_seq ?_ | refine w_reg ?_) | (with_reducible (refine is_if ?_; (refine w_iff rfl ?_))) | (with_reducible first | refine wp_exit ?_ | refine l_nil ?_) | ((with_reducible refine g_on ?_); ((with_reducible refine g_mv ?_); refine l_p txs rfl rfl ?_)))
    (with_reducible refine is_l ?_); refine l_cat rfl rfl (by omega) ?_
    generalize ⟨#[47]⟩ ++ t = ts at hs ⊢
    skip
    (with_reducible refine is_l ?_); refine l_callv rfl rfl (by kernel_rfl) (path_b (p := ts) hs (bad_n F.j) (hL.below H.B)) (fun w_ K => ?_)
    have H := H.call K
    skip
    (with_reducible refine is_l ?_); refine l_t txs rfl rfl (fun _ => ?_) (fun h => absurd rfl h)
    repeat' (first | ((with_reducible refine g_on ?_); ((with_reducible refine g_mv ?_); refine l_p txs rfl rfl ?_)) | ((with_reducible refine g_if ?_); ((with_reducible refine g_mv ?_); refine l_p txs rfl rfl ?_)))
    (with_reducible refine is_l ?_); refine l_cat rfl rfl (by omega) ?_
    generalize t ++ ⟨#[47, 118, 120]⟩ = tx at hx ⊢
    skip
    (with_reducible refine is_l ?_); refine l_callv rfl rfl (by kernel_rfl) (path_b (p := tx) hx (good_n F.k) (hL.below H.B)) (fun w_ K => ?_)
    have H := H.call K
    skip
    (with_reducible refine is_l ?_); refine l_t txs rfl rfl (fun _ => ?_) (fun h => absurd rfl h)
    repeat' (first | (with_reducible first | refine p_tn ?_ | refine wp_ret ?_ | refine l_nil ?_) | ((with_reducible refine g_on ?_); (first | ((with_reducible refine g_as ?_); refine l_p txs rfl rfl ?_) | ((with_reducible refine g_pk ?_); refine l_p txs rfl rfl ?_))))
    refine end1 rfl rfl ?_
    exact ⟨rfl, H.B⟩
end Go.Proofs.YtnimaenhijlcmaaDoor.K.Rec
