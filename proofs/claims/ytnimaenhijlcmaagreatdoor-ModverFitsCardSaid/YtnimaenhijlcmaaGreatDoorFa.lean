/- The reference's elements, first elements, tails. -/
import Derived.Test.YtnimaenhijlcmaaGreatDoorCe
import Derived.Test.YtnimaenhijlcmaaGreatDoorVu
import Derived.Test.YtnimaenhijlcmaaGreatDoorMRef
namespace Go.Proofs.YtnimaenhijlcmaaGreatDoor.K.Ref
open Go.RowKit Go.Proofs.YtnimaenhijlcmaaGreatDoor.Q Go.Proofs.YtnimaenhijlcmaaGreatDoor.K Go.Proofs.YtnimaenhijlcmaaGreatDoor.Mb Go.Proofs.YtnimaenhijlcmaaGreatDoorW.PrintWords
set_option linter.unusedVariables false
set_option linter.unusedSimpArgs false

set_option maxHeartbeats 4000000 in
theorem below_c (s : ByteArray) (w : World) (hs : s.size ≤ 1000000000) : Calls Tryz.prog 146 #[.string s] w fun e w' => e = .returned (.string (strOfNums (lowS (bl s)))) ∧ Below w.heap.size w w' := by
  refine enter (args := [.string s]) Tryz.func146 rfl Tryz.ntmps146 rfl ?_
  have hbl := bl_length s
  have H := (Hp.nil w).nilRow 5 1
  repeat' (first | (with_reducible first | refine p_tn ?_ | refine wp_seq ?_ | refine wp_block ?_ | refine w_reg ?_ | refine l_nil ?_) | ((with_reducible refine g_on ?_); ((with_reducible refine g_as ?_); refine l_p txs rfl rfl ?_)))
  refine w_loop (σ := Nat × Option Addr × Nat) (S := fun s' => [(0, .string s), (3, .slice s'.2.1 (lowS ((bl s).take s'.1)).length s'.2.2), (4, .int .i64 (s'.1 : Int))])
    (J := fun s' w' => Hp w w' [] [rowB (.slice s'.2.1 (lowS ((bl s).take s'.1)).length s'.2.2) (lowS ((bl s).take s'.1))] ∧ s'.1 ≤ s.size) (μ := fun s' => s.size - s'.1) (0, none, 0) ⟨rfl, rfl, rfl, trivial⟩ ⟨H, by omega⟩ ?_
  rintro ⟨i, A2, c2⟩ f w_ ⟨H, hi⟩
  simp only at H hi ⊢
  repeat' (first | (with_reducible first | refine wp_seq ?_ | refine w_reg ?_) | ((with_reducible refine g_on ?_); (first | ((with_reducible refine g_mv ?_); refine l_p txs rfl rfl ?_) | ((with_reducible refine g_cl ?_); refine l_p txs rfl rfl ?_))))
  (with_reducible refine is_l ?_); refine l_t txs rfl rfl (fun hlt => ?_) (fun hge => ?_)
  · obtain ⟨x, hx⟩ : ∃ x, (bl s)[i]? = some x := ⟨_, List.getElem?_eq_getElem (by omega)⟩
    have hx2 := bl_bytes s x (List.mem_of_getElem? hx)
    have hlow := low_take hx
    have hl0 : (lowS ((bl s).take i)).length = i := by unfold lowS; rw [List.length_map, List.length_take]; omega
    have hl1 : (lowS ((bl s).take (i + 1))).length = (lowS ((bl s).take i)).length + 1 := by rw [hlow]; simp
    have hat := at_of hx
    repeat' (first | (with_reducible first | refine p_tn ?_ | refine wp_seq ?_ | refine wp_block ?_ | refine w_reg ?_) | (with_reducible (refine is_if ?_; (refine w_ift rfl ?_))) | (with_reducible first | refine wp_skip ?_ | refine l_nil ?_) | ((with_reducible refine g_on ?_); (first | ((with_reducible refine g_mv ?_); refine l_p txs rfl rfl ?_) | ((with_reducible refine g_as ?_); refine l_p txs rfl rfl ?_) | ((with_reducible refine g_ix ?_); refine l_ix txs rfl rfl (by first | omega | assumption | decide) (by first | omega | assumption | decide) ?_))))
    rw [hat]
    skip
    (with_reducible refine is_l ?_); refine l_callp rfl rfl (by kernel_rfl) (capital_c x _) ?_
    cases hc : capB x
    · have hxe : lowB x = x := by
        unfold capB at hc
        simp at hc
        exact if_neg (by omega)
      repeat' (first | (with_reducible first | refine p_tn ?_ | refine w_reg ?_) | (with_reducible (refine is_if ?_; (refine w_iff rfl ?_))) | (with_reducible first | refine wp_skip ?_ | refine l_nil ?_) | ((with_reducible refine g_on ?_); ((with_reducible refine g_mv ?_); refine l_p txs rfl rfl ?_)))
      (with_reducible refine is_l ?_); refine h_bs H info_u8 Tryz.underlying34 (by decide) (by decide) rfl rfl (by kernel_rfl) (fun g_ w_ H => ?_)
      (with_reducible refine is_l ?_); refine h_app H 0 rfl info_u8 Tryz.underlying34 rfl rfl rfl rfl (H.cellRd 0 rfl) rfl rfl (by show ((lowS ((bl s).take i)).length + 1) * 1 ≤ _; omega) (fun v w_ hv H => ?_)
      obtain ⟨A', c', rfl⟩ := hv
      have H := H.pick [] [0] (by decide) (by decide) rfl rfl
      repeat' (first | (with_reducible first | refine p_tn ?_ | refine p_bn ?_ | refine w_reg ?_ | refine l_nil ?_) | ((with_reducible refine g_on ?_); (first | ((with_reducible refine g_mv ?_); refine l_p txs rfl rfl ?_) | ((with_reducible refine g_as ?_); refine l_p txs rfl rfl ?_) | ((with_reducible refine g_bi ?_); (refine l_a txs rfl rfl (by first | exact in_i64 (by omega) (by omega) | exact in_u8 (by omega) (by omega) | exact in_u64 (by omega) (by omega) | exact in_i32 (by omega) (by omega)) ?_)))))
      refine ⟨(i + 1, A', c'), _, rfl, ⟨rfl, ?_, rfl, trivial⟩, ⟨?_, by show i + 1 ≤ _; omega⟩, by show _ - (i + 1) < _ - i; omega⟩
      · show Value.slice A' ((lowS ((bl s).take i)).length + 1) c' = Value.slice A' (lowS ((bl s).take (i + 1))).length c'
        rw [hl1]
      · show Hp w _ [] [rowB (.slice A' (lowS ((bl s).take (i + 1))).length c') (lowS ((bl s).take (i + 1)))]
        unfold rowB
        rw [hl1, hlow, hxe, nums_snoc]
        exact H
    · have hcr : 65 ≤ x ∧ x ≤ 90 := by
        unfold capB at hc
        simpa using hc
      have hxe : lowB x = x + 32 := if_pos ⟨by omega, by omega⟩
      repeat' (first | (with_reducible first | refine p_tn ?_ | refine w_reg ?_) | (with_reducible (refine is_if ?_; (refine w_ift rfl ?_))) | (with_reducible refine l_nil ?_) | ((with_reducible refine g_on ?_); (first | ((with_reducible refine g_mv ?_); refine l_p txs rfl rfl ?_) | ((with_reducible refine g_as ?_); refine l_p txs rfl rfl ?_) | ((with_reducible refine g_bi ?_); (refine l_a txs rfl rfl (by first | exact in_i64 (by omega) (by omega) | exact in_u8 (by omega) (by omega) | exact in_u64 (by omega) (by omega) | exact in_i32 (by omega) (by omega)) ?_)))))
      (with_reducible refine is_l ?_); refine h_bs H info_u8 Tryz.underlying34 (by decide) (by decide) rfl rfl (by kernel_rfl) (fun g_ w_ H => ?_)
      (with_reducible refine is_l ?_); refine h_app H 0 rfl info_u8 Tryz.underlying34 rfl rfl rfl rfl (H.cellRd 0 rfl) rfl rfl (by show ((lowS ((bl s).take i)).length + 1) * 1 ≤ _; omega) (fun v w_ hv H => ?_)
      obtain ⟨A', c', rfl⟩ := hv
      have H := H.pick [] [0] (by decide) (by decide) rfl rfl
      repeat' (first | (with_reducible first | refine p_tn ?_ | refine p_bn ?_ | refine w_reg ?_ | refine l_nil ?_) | ((with_reducible refine g_on ?_); (first | ((with_reducible refine g_mv ?_); refine l_p txs rfl rfl ?_) | ((with_reducible refine g_as ?_); refine l_p txs rfl rfl ?_) | ((with_reducible refine g_bi ?_); (refine l_a txs rfl rfl (by first | exact in_i64 (by omega) (by omega) | exact in_u8 (by omega) (by omega) | exact in_u64 (by omega) (by omega) | exact in_i32 (by omega) (by omega)) ?_)))))
      refine ⟨(i + 1, A', c'), _, rfl, ⟨rfl, ?_, rfl, trivial⟩, ⟨?_, by show i + 1 ≤ _; omega⟩, by show _ - (i + 1) < _ - i; omega⟩
      · show Value.slice A' ((lowS ((bl s).take i)).length + 1) c' = Value.slice A' (lowS ((bl s).take (i + 1))).length c'
        rw [hl1]
      · show Hp w _ [] [rowB (.slice A' (lowS ((bl s).take (i + 1))).length c') (lowS ((bl s).take (i + 1)))]
        unfold rowB
        rw [hl1, hlow, hxe, nums_snoc]
        exact H
  · have hall : (bl s).take i = bl s := List.take_of_length_le (by omega)
    simp only [hall] at H ⊢
    repeat' (first | (with_reducible first | refine p_tn ?_ | refine p_tx ?_ | refine x_hit ?_ | refine wp_seq ?_ | refine w_reg ?_) | (with_reducible (refine is_if ?_; (refine w_iff rfl ?_))) | (with_reducible first | refine wp_exit ?_ | refine l_nil ?_) | ((with_reducible refine g_on ?_); ((with_reducible refine g_mv ?_); refine l_p txs rfl rfl ?_)))
    (with_reducible refine is_l ?_); refine l_text rfl rfl Tryz.underlying34 Tryz.underlying5 Tryz.underlying9 (rowB_rd H 0 (F := A2) (f := c2) (x := lowS (bl s)) rfl).1 ?_
    repeat' (first | (with_reducible first | refine p_tn ?_ | refine wp_ret ?_ | refine l_nil ?_) | ((with_reducible refine g_on ?_); ((with_reducible refine g_as ?_); refine l_p txs rfl rfl ?_)))
    refine end1 rfl rfl ?_
    exact ⟨rfl, H.B⟩
theorem cell_of_heap {w : World} {g k : Nat} {cs : Array Value} {t : TypeId} {fr : Nat × Nat} {v : Value} (h : w.heap[g]? = some (.cells cs t fr)) (hc : cs[k]? = some v) : w.cell? ⟨g, k, none⟩ = some v := by
  simp [World.cell?, h, hc]
/-- A list of texts in a row of the call's own, with its place. -/
theorem row_some {w0 w : World} {l : List Ent} {r : List RowD} {A : Option Addr} {c : Nat} {N : List L} (H : Hp w0 w l r) (k : Nat) (hk : r[k]? = some (rowT (.slice A N.length c) N)) (hN : N ≠ []) : ∃ ad, A = some ad := by
  obtain ⟨A3, c3, e3, _, _, hAn⟩ := H.rd k hk
  cases e3
  cases A with
  | some ad => exact ⟨ad, rfl⟩
  | none => exact absurd (hAn rfl).2 (by have := List.length_pos_iff.2 hN; show N.length ≠ 0; omega)
theorem last_get {N : List L} (h : N ≠ []) : N[N.length - 1]? = some (N.getLastD []) := by
  have hp := List.length_pos_iff.2 h
  rw [List.getLastD_eq_getLast?, List.getLast?_eq_getElem?, List.getElem?_eq_getElem (by omega)]
  rfl
theorem last_mem {N : List L} (h : N ≠ []) : N.getLastD [] ∈ N := List.mem_of_getElem? (last_get h)
set_option maxRecDepth 100000 in
set_option maxHeartbeats 8000000 in
theorem element_c {w : World} {t2 : TypeId} {fr : Nat × Nat} (hD : w.heap[3]? = some (.cells deC t2 fr)) (t : ByteArray) (ht : t.size ≤ 1000000) :
    Calls Tryz.prog 111 #[.string t] w fun e w' => e = .returned (.bool (relemB (bl t))) ∧ Below w.heap.size w w' := by
  have hDb : ∀ w1, Below w.heap.size w w1 → w1.heap[3]? = some (.cells deC t2 fr) := fun w1 K => (K.block _ (blk_lt hD)).trans hD
  have hlen := bl_length t
  have hbt := bl_bytes t
  refine enter (args := [.string t]) Tryz.func111 rfl Tryz.ntmps111 rfl ?_
  have H := Hp.nil w
  repeat' (first | (with_reducible first | refine p_tn ?_ | refine wp_seq ?_ | refine w_reg ?_ | refine l_nil ?_) | ((with_reducible refine g_on ?_); (first | ((with_reducible refine g_mv ?_); refine l_p txs rfl rfl ?_) | ((with_reducible refine g_as ?_); refine l_p txs rfl rfl ?_))))
  (with_reducible refine is_l ?_); refine l_t txs rfl rfl (fun h1 => ?_) (fun h1 => ?_)
  · have h1 : bl t = [] := h1
    have hn : relemB (bl t) = false := by rw [h1]; rfl
    repeat' (first | (with_reducible first | refine p_tn ?_ | refine p_tr ?_ | refine wp_seq ?_ | refine w_reg ?_) | (with_reducible (refine is_if ?_; (refine w_ift rfl ?_))) | (with_reducible first | refine wp_ret ?_ | refine l_nil ?_) | ((with_reducible refine g_on ?_); (first | ((with_reducible refine g_mv ?_); refine l_p txs rfl rfl ?_) | ((with_reducible refine g_as ?_); refine l_p txs rfl rfl ?_) | ((with_reducible refine g_pk ?_); refine l_p txs rfl rfl ?_))) | ((with_reducible refine g_if ?_); (refine l_off rfl ?_)))
    refine end1 rfl rfl ?_
    exact ⟨by rw [hn], H.B⟩
  have h1 : bl t ≠ [] := h1
  have hpos : 0 < t.size := by rw [← hlen]; exact List.length_pos_iff.2 h1
  have hhd := K.head_at h1
  have hlast := last_at h1
  rw [hlen] at hlast
  repeat' (first | ((with_reducible refine g_on ?_); ((with_reducible refine g_mv ?_); refine l_p txs rfl rfl ?_)) | ((with_reducible refine g_if ?_); (first | ((with_reducible refine g_mv ?_); refine l_p txs rfl rfl ?_) | ((with_reducible refine g_ix ?_); refine l_ix txs rfl rfl (by first | omega | assumption | decide) (by first | omega | assumption | decide) ?_))))
  (with_reducible refine is_l ?_); refine l_t txs rfl rfl (fun h2 => ?_) (fun h2 => ?_)
  · have hn : relemB (bl t) = false := by unfold relemB; rw [hhd, h2]; simp
    repeat' (first | (with_reducible first | refine p_tn ?_ | refine p_tr ?_ | refine wp_seq ?_ | refine w_reg ?_) | (with_reducible (refine is_if ?_; (refine w_ift rfl ?_))) | (with_reducible first | refine wp_ret ?_ | refine l_nil ?_) | ((with_reducible refine g_on ?_); (first | ((with_reducible refine g_mv ?_); refine l_p txs rfl rfl ?_) | ((with_reducible refine g_as ?_); refine l_p txs rfl rfl ?_) | ((with_reducible refine g_pk ?_); refine l_p txs rfl rfl ?_))) | ((with_reducible refine g_if ?_); (refine l_off rfl ?_)))
    refine end1 rfl rfl ?_
    exact ⟨by rw [hn], H.B⟩
  repeat' (first | ((with_reducible refine g_on ?_); (first | ((with_reducible refine g_mv ?_); refine l_p txs rfl rfl ?_) | ((with_reducible refine g_pk ?_); refine l_p txs rfl rfl ?_))) | ((with_reducible refine g_if ?_); (first | ((with_reducible refine g_mv ?_); refine l_p txs rfl rfl ?_) | ((with_reducible refine g_cl ?_); refine l_p txs rfl rfl ?_) | ((with_reducible refine g_ix ?_); refine l_ix txs rfl rfl (by first | omega | assumption | decide) (by first | omega | assumption | decide) ?_) | ((with_reducible refine g_bi ?_); (refine l_a txs rfl rfl (by first | exact in_i64 (by omega) (by omega) | exact in_u8 (by omega) (by omega) | exact in_u64 (by omega) (by omega) | exact in_i32 (by omega) (by omega)) ?_)))))
  (with_reducible refine is_l ?_); refine l_t txs rfl rfl (fun h3 => ?_) (fun h3 => ?_)
  · have hn : relemB (bl t) = false := by unfold relemB; rw [hlast, h3]; simp
    repeat' (first | (with_reducible first | refine p_tn ?_ | refine p_tr ?_ | refine wp_seq ?_ | refine w_reg ?_) | (with_reducible (refine is_if ?_; (refine w_ift rfl ?_))) | (with_reducible first | refine wp_ret ?_ | refine l_nil ?_) | ((with_reducible refine g_on ?_); (first | ((with_reducible refine g_as ?_); refine l_p txs rfl rfl ?_) | ((with_reducible refine g_pk ?_); refine l_p txs rfl rfl ?_))))
    refine end1 rfl rfl ?_
    exact ⟨by rw [hn], H.B⟩
  have hE : relemB (bl t) = ((bl t).all elC && !(devices.contains (lowS (aheadC 46 (bl t)))) && tildeB (aheadC 46 (bl t))) := by
    unfold relemB
    rw [hhd, hlast, decide_eq_true (show some (at_ (bl t) 0) ≠ some 46 from fun e => h2 (Option.some.inj e)), decide_eq_true (show some (at_ (bl t) ((t.size : Int) - 1)) ≠ some 46 from fun e => h3 (Option.some.inj e))]
    have : (bl t).isEmpty = false := by cases hb : bl t with | nil => exact absurd hb h1 | cons x r => rfl
    rw [this]
    simp
  repeat' (first | (with_reducible first | refine p_tn ?_ | refine wp_seq ?_ | refine wp_block ?_ | refine w_reg ?_) | (with_reducible (refine is_if ?_; (refine w_iff rfl ?_))) | (with_reducible first | refine wp_skip ?_ | refine l_nil ?_) | ((with_reducible refine g_on ?_); (first | ((with_reducible refine g_as ?_); refine l_p txs rfl rfl ?_) | ((with_reducible refine g_pk ?_); refine l_p txs rfl rfl ?_))))
  refine w_loop (σ := Nat) (S := fun s => [(0, .string t), (3, .int .i64 (s : Int))]) (J := fun s w' => Hp w w' [] [] ∧ s ≤ t.size ∧ ((bl t).take s).all elC = true) (μ := fun s => t.size - s) 0 ⟨rfl, rfl, trivial⟩ ⟨H, by omega, by simp⟩ ?_
  clear H
  rintro i f w_ ⟨H, hi, ha⟩
  repeat' (first | (with_reducible first | refine wp_seq ?_ | refine w_reg ?_) | ((with_reducible refine g_on ?_); (first | ((with_reducible refine g_mv ?_); refine l_p txs rfl rfl ?_) | ((with_reducible refine g_cl ?_); refine l_p txs rfl rfl ?_))))
  (with_reducible refine is_l ?_); refine l_t txs rfl rfl (fun hlt => ?_) (fun hge => ?_)
  · obtain ⟨x, hx⟩ : ∃ x, (bl t)[i]? = some x := ⟨_, List.getElem?_eq_getElem (by omega)⟩
    have hat := at_of hx
    repeat' (first | (with_reducible first | refine p_tn ?_ | refine wp_seq ?_ | refine wp_block ?_ | refine w_reg ?_) | (with_reducible (refine is_if ?_; (refine w_ift rfl ?_))) | (with_reducible first | refine wp_skip ?_ | refine l_nil ?_) | ((with_reducible refine g_on ?_); (first | ((with_reducible refine g_mv ?_); refine l_p txs rfl rfl ?_) | ((with_reducible refine g_as ?_); refine l_p txs rfl rfl ?_) | ((with_reducible refine g_ix ?_); refine l_ix txs rfl rfl (by first | omega | assumption | decide) (by first | omega | assumption | decide) ?_))))
    rw [hat]
    skip
    (with_reducible refine is_l ?_); refine l_callp rfl rfl (by kernel_rfl) (small_c x _) ?_
    cases q1 : smlB x
    rotate_left
    · have hw : elC x = true := by unfold elC; rw [q1]; simp
      repeat' (first | (with_reducible first | refine p_tn ?_ | refine p_bn ?_ | refine w_reg ?_) | (with_reducible (refine is_if ?_; (refine w_iff rfl ?_))) | (with_reducible first | refine wp_skip ?_ | refine l_nil ?_) | ((with_reducible refine g_on ?_); (first | ((with_reducible refine g_mv ?_); refine l_p txs rfl rfl ?_) | ((with_reducible refine g_as ?_); refine l_p txs rfl rfl ?_) | ((with_reducible refine g_pk ?_); refine l_p txs rfl rfl ?_) | ((with_reducible refine g_un ?_); (refine l_p txs rfl rfl ?_)) | ((with_reducible refine g_bi ?_); (refine l_a txs rfl rfl (by first | exact in_i64 (by omega) (by omega) | exact in_u8 (by omega) (by omega) | exact in_u64 (by omega) (by omega) | exact in_i32 (by omega) (by omega)) ?_)))) | ((with_reducible refine g_if ?_); (refine l_off rfl ?_)))
      exact ⟨i + 1, _, rfl, ⟨rfl, rfl, trivial⟩, ⟨H, by omega, take_all hx hw ha⟩, by omega⟩
    repeat' (first | ((with_reducible refine g_on ?_); (first | ((with_reducible refine g_mv ?_); refine l_p txs rfl rfl ?_) | ((with_reducible refine g_un ?_); (refine l_p txs rfl rfl ?_)))) | ((with_reducible refine g_if ?_); ((with_reducible refine g_mv ?_); refine l_p txs rfl rfl ?_)))
    (with_reducible refine is_l ?_); refine l_callp rfl rfl (by kernel_rfl) (capital_c x _) ?_
    cases q2 : capB x
    rotate_left
    · have hw : elC x = true := by unfold elC; rw [q2]; simp
      repeat' (first | (with_reducible first | refine p_tn ?_ | refine p_bn ?_ | refine w_reg ?_) | (with_reducible (refine is_if ?_; (refine w_iff rfl ?_))) | (with_reducible first | refine wp_skip ?_ | refine l_nil ?_) | ((with_reducible refine g_on ?_); (first | ((with_reducible refine g_mv ?_); refine l_p txs rfl rfl ?_) | ((with_reducible refine g_as ?_); refine l_p txs rfl rfl ?_) | ((with_reducible refine g_pk ?_); refine l_p txs rfl rfl ?_) | ((with_reducible refine g_bi ?_); (refine l_a txs rfl rfl (by first | exact in_i64 (by omega) (by omega) | exact in_u8 (by omega) (by omega) | exact in_u64 (by omega) (by omega) | exact in_i32 (by omega) (by omega)) ?_)))) | ((with_reducible refine g_if ?_); (first | (refine l_off rfl ?_) | ((with_reducible refine g_un ?_); (refine l_p txs rfl rfl ?_)))))
      exact ⟨i + 1, _, rfl, ⟨rfl, rfl, trivial⟩, ⟨H, by omega, take_all hx hw ha⟩, by omega⟩
    repeat' (first | ((with_reducible refine g_on ?_); (first | ((with_reducible refine g_mv ?_); refine l_p txs rfl rfl ?_) | ((with_reducible refine g_pk ?_); refine l_p txs rfl rfl ?_))) | ((with_reducible refine g_if ?_); (first | ((with_reducible refine g_mv ?_); refine l_p txs rfl rfl ?_) | ((with_reducible refine g_un ?_); (refine l_p txs rfl rfl ?_)))))
    (with_reducible refine is_l ?_); refine l_callp rfl rfl (by kernel_rfl) (digit_c x _) ?_
    cases q3 : digB x
    rotate_left
    · have hw : elC x = true := by unfold elC; rw [q3]; simp
      repeat' (first | (with_reducible first | refine p_tn ?_ | refine p_bn ?_ | refine w_reg ?_) | (with_reducible (refine is_if ?_; (refine w_iff rfl ?_))) | (with_reducible first | refine wp_skip ?_ | refine l_nil ?_) | ((with_reducible refine g_on ?_); (first | ((with_reducible refine g_mv ?_); refine l_p txs rfl rfl ?_) | ((with_reducible refine g_as ?_); refine l_p txs rfl rfl ?_) | ((with_reducible refine g_pk ?_); refine l_p txs rfl rfl ?_) | ((with_reducible refine g_bi ?_); (refine l_a txs rfl rfl (by first | exact in_i64 (by omega) (by omega) | exact in_u8 (by omega) (by omega) | exact in_u64 (by omega) (by omega) | exact in_i32 (by omega) (by omega)) ?_)))) | ((with_reducible refine g_if ?_); (first | (refine l_off rfl ?_) | ((with_reducible refine g_un ?_); (refine l_p txs rfl rfl ?_)))))
      exact ⟨i + 1, _, rfl, ⟨rfl, rfl, trivial⟩, ⟨H, by omega, take_all hx hw ha⟩, by omega⟩
    repeat' (first | ((with_reducible refine g_on ?_); (first | ((with_reducible refine g_mv ?_); refine l_p txs rfl rfl ?_) | ((with_reducible refine g_pk ?_); refine l_p txs rfl rfl ?_))) | ((with_reducible refine g_if ?_); (first | ((with_reducible refine g_mv ?_); refine l_p txs rfl rfl ?_) | ((with_reducible refine g_un ?_); (refine l_p txs rfl rfl ?_)))))
    (with_reducible refine is_l ?_); refine l_t txs rfl rfl (fun q4 => ?_) (fun q4 => ?_)
    rotate_left
    · have hw : elC x = true := by unfold elC; simp [Classical.not_not.1 q4]
      repeat' (first | (with_reducible first | refine p_tn ?_ | refine p_bn ?_ | refine w_reg ?_) | (with_reducible (refine is_if ?_; (refine w_iff rfl ?_))) | (with_reducible first | refine wp_skip ?_ | refine l_nil ?_) | ((with_reducible refine g_on ?_); (first | ((with_reducible refine g_mv ?_); refine l_p txs rfl rfl ?_) | ((with_reducible refine g_as ?_); refine l_p txs rfl rfl ?_) | ((with_reducible refine g_pk ?_); refine l_p txs rfl rfl ?_) | ((with_reducible refine g_bi ?_); (refine l_a txs rfl rfl (by first | exact in_i64 (by omega) (by omega) | exact in_u8 (by omega) (by omega) | exact in_u64 (by omega) (by omega) | exact in_i32 (by omega) (by omega)) ?_)))) | ((with_reducible refine g_if ?_); (refine l_off rfl ?_)))
      exact ⟨i + 1, _, rfl, ⟨rfl, rfl, trivial⟩, ⟨H, by omega, take_all hx hw ha⟩, by omega⟩
    repeat' (first | ((with_reducible refine g_on ?_); (first | ((with_reducible refine g_mv ?_); refine l_p txs rfl rfl ?_) | ((with_reducible refine g_pk ?_); refine l_p txs rfl rfl ?_))) | ((with_reducible refine g_if ?_); ((with_reducible refine g_mv ?_); refine l_p txs rfl rfl ?_)))
    (with_reducible refine is_l ?_); refine l_t txs rfl rfl (fun q5 => ?_) (fun q5 => ?_)
    rotate_left
    · have hw : elC x = true := by unfold elC; simp [Classical.not_not.1 q5]
      repeat' (first | (with_reducible first | refine p_tn ?_ | refine p_bn ?_ | refine w_reg ?_) | (with_reducible (refine is_if ?_; (refine w_iff rfl ?_))) | (with_reducible first | refine wp_skip ?_ | refine l_nil ?_) | ((with_reducible refine g_on ?_); (first | ((with_reducible refine g_mv ?_); refine l_p txs rfl rfl ?_) | ((with_reducible refine g_as ?_); refine l_p txs rfl rfl ?_) | ((with_reducible refine g_pk ?_); refine l_p txs rfl rfl ?_) | ((with_reducible refine g_bi ?_); (refine l_a txs rfl rfl (by first | exact in_i64 (by omega) (by omega) | exact in_u8 (by omega) (by omega) | exact in_u64 (by omega) (by omega) | exact in_i32 (by omega) (by omega)) ?_)))) | ((with_reducible refine g_if ?_); (refine l_off rfl ?_)))
      exact ⟨i + 1, _, rfl, ⟨rfl, rfl, trivial⟩, ⟨H, by omega, take_all hx hw ha⟩, by omega⟩
    repeat' (first | ((with_reducible refine g_on ?_); (first | ((with_reducible refine g_mv ?_); refine l_p txs rfl rfl ?_) | ((with_reducible refine g_pk ?_); refine l_p txs rfl rfl ?_))) | ((with_reducible refine g_if ?_); ((with_reducible refine g_mv ?_); refine l_p txs rfl rfl ?_)))
    (with_reducible refine is_l ?_); refine l_t txs rfl rfl (fun q6 => ?_) (fun q6 => ?_)
    rotate_left
    · have hw : elC x = true := by unfold elC; simp [Classical.not_not.1 q6]
      repeat' (first | (with_reducible first | refine p_tn ?_ | refine p_bn ?_ | refine w_reg ?_) | (with_reducible (refine is_if ?_; (refine w_iff rfl ?_))) | (with_reducible first | refine wp_skip ?_ | refine l_nil ?_) | ((with_reducible refine g_on ?_); (first | ((with_reducible refine g_mv ?_); refine l_p txs rfl rfl ?_) | ((with_reducible refine g_as ?_); refine l_p txs rfl rfl ?_) | ((with_reducible refine g_pk ?_); refine l_p txs rfl rfl ?_) | ((with_reducible refine g_bi ?_); (refine l_a txs rfl rfl (by first | exact in_i64 (by omega) (by omega) | exact in_u8 (by omega) (by omega) | exact in_u64 (by omega) (by omega) | exact in_i32 (by omega) (by omega)) ?_)))) | ((with_reducible refine g_if ?_); (refine l_off rfl ?_)))
      exact ⟨i + 1, _, rfl, ⟨rfl, rfl, trivial⟩, ⟨H, by omega, take_all hx hw ha⟩, by omega⟩
    repeat' (first | ((with_reducible refine g_on ?_); (first | ((with_reducible refine g_mv ?_); refine l_p txs rfl rfl ?_) | ((with_reducible refine g_pk ?_); refine l_p txs rfl rfl ?_))) | ((with_reducible refine g_if ?_); ((with_reducible refine g_mv ?_); refine l_p txs rfl rfl ?_)))
    (with_reducible refine is_l ?_); refine l_t txs rfl rfl (fun q7 => ?_) (fun q7 => ?_)
    rotate_left
    · have hw : elC x = true := by unfold elC; simp [Classical.not_not.1 q7]
      repeat' (first | (with_reducible first | refine p_tn ?_ | refine p_bn ?_ | refine w_reg ?_) | (with_reducible (refine is_if ?_; (refine w_iff rfl ?_))) | (with_reducible first | refine wp_skip ?_ | refine l_nil ?_) | ((with_reducible refine g_on ?_); (first | ((with_reducible refine g_mv ?_); refine l_p txs rfl rfl ?_) | ((with_reducible refine g_as ?_); refine l_p txs rfl rfl ?_) | ((with_reducible refine g_pk ?_); refine l_p txs rfl rfl ?_) | ((with_reducible refine g_bi ?_); (refine l_a txs rfl rfl (by first | exact in_i64 (by omega) (by omega) | exact in_u8 (by omega) (by omega) | exact in_u64 (by omega) (by omega) | exact in_i32 (by omega) (by omega)) ?_)))))
      exact ⟨i + 1, _, rfl, ⟨rfl, rfl, trivial⟩, ⟨H, by omega, take_all hx hw ha⟩, by omega⟩
    have hw : elC x = false := by unfold elC; rw [q1, q2, q3]; simp [q4, q5, q6, q7]
    have hn : relemB (bl t) = false := by rw [hE, not_all hx hw]; rfl
    repeat' (first | (with_reducible first | refine p_tn ?_ | refine p_tr ?_ | refine p_br ?_ | refine wp_seq ?_ | refine w_reg ?_) | (with_reducible (refine is_if ?_; (refine w_ift rfl ?_))) | (with_reducible first | refine wp_ret ?_ | refine l_nil ?_) | ((with_reducible refine g_on ?_); (first | ((with_reducible refine g_as ?_); refine l_p txs rfl rfl ?_) | ((with_reducible refine g_pk ?_); refine l_p txs rfl rfl ?_))))
    refine end1 rfl rfl ?_
    exact ⟨by rw [hn], H.B⟩
  · have hall : (bl t).all elC = true := by rw [← List.take_of_length_le (l := bl t) (i := i) (by omega)]; exact ha
    rw [hall, Bool.true_and] at hE
    obtain ⟨sm1, sm2⟩ := ahead_sub 46 (bl t)
    repeat' (first | (with_reducible first | refine p_tn ?_ | refine p_tx ?_ | refine x_hit ?_ | refine wp_seq ?_ | refine w_reg ?_) | (with_reducible (refine is_if ?_; (refine w_iff rfl ?_))) | (with_reducible first | refine wp_exit ?_ | refine l_nil ?_) | ((with_reducible refine g_on ?_); ((with_reducible refine g_mv ?_); refine l_p txs rfl rfl ?_)))
    (with_reducible refine is_l ?_); refine l_callv rfl rfl (by kernel_rfl) (ahead_c t 46 _ (by omega)) (fun w_ K => ?_)
    have H := H.call K
    generalize aheadC 46 (bl t) = s at hE sm1 sm2 ⊢
    have bs : Bytes s := fun y hy => hbt y (sm1 y hy)
    have zs := sizeS' bs
    have hlo := fun w1 => below_c (strOfNums s) w1 (by omega)
    rw [blS bs] at hlo
    have bls : Bytes (lowS s) := fun y hy => by
      obtain ⟨x, hx, rfl⟩ := List.mem_map.1 hy
      have := bs x hx
      unfold lowB
      split <;> omega
    have eL := blS bls
    repeat' (first | (with_reducible first | refine p_tn ?_ | refine wp_seq ?_ | refine w_reg ?_ | refine l_nil ?_) | ((with_reducible refine g_on ?_); (first | ((with_reducible refine g_mv ?_); refine l_p txs rfl rfl ?_) | ((with_reducible refine g_as ?_); refine l_p txs rfl rfl ?_))))
    (with_reducible refine is_l ?_); refine l_callv rfl rfl (by kernel_rfl) (hlo _) (fun w_ K => ?_)
    have H := H.call K
    repeat' (first | (with_reducible first | refine p_tn ?_ | refine wp_seq ?_ | refine wp_block ?_ | refine w_reg ?_ | refine l_nil ?_) | ((with_reducible refine g_on ?_); ((with_reducible refine g_as ?_); refine l_p txs rfl rfl ?_)))
    refine w_loop (σ := Nat) (S := fun k => [(5, .string (strOfNums s)), (6, .string (strOfNums (lowS s))), (7, .int .i64 (k : Int))]) (J := fun k w' => Hp w w' [] [] ∧ k ≤ 22 ∧ devices.contains (lowS s) = (devices.drop k).contains (lowS s)) (μ := fun k => 22 - k) 0 ⟨rfl, rfl, rfl, trivial⟩ ⟨H, by omega, rfl⟩ ?_
    clear H
    rintro k f w_ ⟨H, hk, hl⟩
    repeat' (first | (with_reducible first | refine wp_seq ?_ | refine w_reg ?_) | ((with_reducible refine g_on ?_); ((with_reducible refine g_mv ?_); refine l_p txs rfl rfl ?_)))
    (with_reducible refine is_l ?_); refine l_t txs rfl rfl (fun hlt => ?_) (fun hge => ?_)
    · have hk' : k < 22 := by omega
      obtain ⟨q1, q2⟩ := de_at k hk'
      rw [q2, List.contains_cons] at hl
      repeat' (first | (with_reducible first | refine p_tn ?_ | refine wp_seq ?_ | refine wp_block ?_ | refine w_reg ?_) | (with_reducible (refine is_if ?_; (refine w_ift rfl ?_))) | (with_reducible first | refine wp_skip ?_ | refine l_nil ?_) | ((with_reducible refine g_on ?_); ((with_reducible refine g_mv ?_); refine l_p txs rfl rfl ?_)))
      (with_reducible refine is_l ?_); refine l_iaa Tryz.underlying138 info_str1 rfl rfl rfl (by omega) (by omega) ?_
      (with_reducible refine is_l ?_); refine l_ld txs rfl rfl (by rw [Int.toNat_natCast]; exact cell_of_heap (hDb _ H.B) q1) ?_
      skip
      (with_reducible refine is_l ?_); refine l_t txs rfl rfl (fun hh => ?_) (fun hnn => ?_)
      · have hn : relemB (bl t) = false := by rw [hE, hl, ← hh, eL]; simp
        repeat' (first | (with_reducible first | refine p_tn ?_ | refine p_tr ?_ | refine p_br ?_ | refine wp_seq ?_ | refine w_reg ?_) | (with_reducible (refine is_if ?_; (refine w_ift rfl ?_))) | (with_reducible first | refine wp_ret ?_ | refine l_nil ?_) | ((with_reducible refine g_on ?_); ((with_reducible refine g_as ?_); refine l_p txs rfl rfl ?_)))
        refine end1 rfl rfl ?_
        exact ⟨by rw [hn], H.B⟩
      · rw [eL] at hnn
        repeat' (first | (with_reducible first | refine p_tn ?_ | refine p_bn ?_ | refine w_reg ?_) | (with_reducible (refine is_if ?_; (refine w_iff rfl ?_))) | (with_reducible first | refine wp_skip ?_ | refine l_nil ?_) | ((with_reducible refine g_on ?_); (first | ((with_reducible refine g_mv ?_); refine l_p txs rfl rfl ?_) | ((with_reducible refine g_as ?_); refine l_p txs rfl rfl ?_) | ((with_reducible refine g_bi ?_); (refine l_a txs rfl rfl (by first | exact in_i64 (by omega) (by omega) | exact in_u8 (by omega) (by omega) | exact in_u64 (by omega) (by omega) | exact in_i32 (by omega) (by omega)) ?_)))))
        exact ⟨k + 1, _, rfl, ⟨rfl, rfl, rfl, trivial⟩, ⟨H, by omega, by rw [hl, beq_eq_false_iff_ne.2 hnn]; simp⟩, by omega⟩
    · have hnil : devices.drop k = [] := List.drop_eq_nil_of_le (by show 22 ≤ k; omega)
      rw [hnil] at hl
      rw [hl] at hE
      have hE : relemB (bl t) = (decide ((splitC 126 s).length < 2) || !digB1 ((splitC 126 s).getLastD [])) := by rw [hE]; simp [tildeB]
      have hpi := fun w1 => pieces_c (strOfNums s) 126 w1 (by omega)
      rw [blS bs] at hpi
      have hsm := split_mem 126 s
      have hsl := split_len 126 s
      have hne := splitC_ne (c := 126) s
      repeat' (first | (with_reducible first | refine p_tn ?_ | refine p_tx ?_ | refine x_hit ?_ | refine wp_seq ?_ | refine w_reg ?_) | (with_reducible (refine is_if ?_; (refine w_iff rfl ?_))) | (with_reducible first | refine wp_exit ?_ | refine l_nil ?_) | ((with_reducible refine g_on ?_); ((with_reducible refine g_mv ?_); refine l_p txs rfl rfl ?_)))
      (with_reducible refine is_l ?_); refine l_call rfl rfl (by kernel_rfl) (hpi _) (fun e w_ hR => ?_)
      generalize splitC 126 s = N at hR hE hsm hsl hne
      obtain ⟨A1, c1, rfl, K⟩ := hR
      refine ⟨_, rfl, ?_⟩
      obtain ⟨ad, rfl⟩ := row_some K 0 rfl hne
      have H := H.join K
      have hcell := rdT_cell (rowT_at K 0 rfl) (last_get hne)
      have hNp := List.length_pos_iff.2 hne
      repeat' (first | (with_reducible first | refine p_tn ?_ | refine wp_seq ?_ | refine w_reg ?_ | refine l_nil ?_) | ((with_reducible refine g_on ?_); (first | ((with_reducible refine g_mv ?_); refine l_p txs rfl rfl ?_) | ((with_reducible refine g_as ?_); refine l_p txs rfl rfl ?_) | ((with_reducible refine g_cl ?_); refine l_p txs rfl rfl ?_))))
      (with_reducible refine is_l ?_); refine l_t txs rfl rfl (fun e1 => ?_) (fun e1 => ?_)
      · have hn : relemB (bl t) = true := by rw [hE, decide_eq_true (by omega)]; rfl
        repeat' (first | (with_reducible first | refine p_tn ?_ | refine wp_ret ?_ | refine l_nil ?_) | ((with_reducible refine g_on ?_); (first | ((with_reducible refine g_mv ?_); refine l_p txs rfl rfl ?_) | ((with_reducible refine g_as ?_); refine l_p txs rfl rfl ?_) | ((with_reducible refine g_pk ?_); refine l_p txs rfl rfl ?_))) | ((with_reducible refine g_if ?_); (refine l_off rfl ?_)))
        refine end1 rfl rfl ?_
        exact ⟨by rw [hn], H.B⟩
      · have hyb : Bytes (N.getLastD []) := fun z hz => bs z ((hsm _ (last_mem hne)).1 z hz)
        have hyl := (hsm _ (last_mem hne)).2
        have hdg := fun w1 => digits_c (strOfNums (N.getLastD [])) w1 (by rw [sizeS' hyb]; omega)
        rw [blS hyb] at hdg
        generalize N.getLastD [] = y at hE hcell hdg
        repeat' (first | ((with_reducible refine g_on ?_); ((with_reducible refine g_mv ?_); refine l_p txs rfl rfl ?_)) | ((with_reducible refine g_if ?_); (first | ((with_reducible refine g_mv ?_); refine l_p txs rfl rfl ?_) | ((with_reducible refine g_cl ?_); refine l_p txs rfl rfl ?_) | ((with_reducible refine g_ia ?_); refine l_ia txs rfl rfl (by first | omega | assumption | decide) (by first | omega | assumption | decide) ?_) | ((with_reducible refine g_bi ?_); (refine l_a txs rfl rfl (by first | exact in_i64 (by omega) (by omega) | exact in_u8 (by omega) (by omega) | exact in_u64 (by omega) (by omega) | exact in_i32 (by omega) (by omega)) ?_)))))
        (with_reducible refine is_l ?_); refine l_ld txs rfl rfl (by rw [show ((N.length : Int) - 1).toNat = N.length - 1 by omega]; exact hcell) ?_
        (with_reducible refine is_l ?_); refine l_callp rfl rfl (by kernel_rfl) (hdg _) ?_
        have hn : relemB (bl t) = !digsB y := by rw [hE, decide_eq_false (by omega)]; rfl
        repeat' (first | (with_reducible first | refine p_tn ?_ | refine wp_ret ?_ | refine l_nil ?_) | ((with_reducible refine g_on ?_); (first | ((with_reducible refine g_as ?_); refine l_p txs rfl rfl ?_) | ((with_reducible refine g_pk ?_); refine l_p txs rfl rfl ?_))) | ((with_reducible refine g_if ?_); ((with_reducible refine g_un ?_); (refine l_p txs rfl rfl ?_))))
        refine end1 rfl rfl ?_
        exact ⟨by rw [hn], H.B⟩
set_option maxHeartbeats 8000000 in
theorem first_c (t : ByteArray) (w : World) (ht : t.size ≤ 1000000) (h1 : bl t ≠ []) : Calls Tryz.prog 112 #[.string t] w fun e w' => e = .returned (.bool (hostB (bl t))) ∧ Below w.heap.size w w' := by
  have hlen := bl_length t
  have hpos : 0 < t.size := by rw [← hlen]; exact List.length_pos_iff.2 h1
  have hhd := K.head_at h1
  have hV : hostB (bl t) = ((bl t).all (fun c => !(capB c || decide (c = 95) || decide (c = 126))) && (bl t).contains 46 && decide ((bl t).head? ≠ some 45)) := rfl
  refine enter (args := [.string t]) Tryz.func112 rfl Tryz.ntmps112 rfl ?_
  have H := Hp.nil w
  repeat' (first | (with_reducible first | refine p_tn ?_ | refine wp_seq ?_ | refine wp_block ?_ | refine w_reg ?_ | refine l_nil ?_) | ((with_reducible refine g_on ?_); ((with_reducible refine g_as ?_); refine l_p txs rfl rfl ?_)))
  refine w_loop (σ := Nat × Nat) (S := fun s => [(0, .string t), (3, .int .i64 (s.2 : Int)), (4, .int .i64 (s.1 : Int))]) (J := fun s w' => Hp w w' [] [] ∧ s.1 ≤ t.size ∧ s.2 ≤ s.1 ∧ ((bl t).take s.1).all (fun c => !(capB c || decide (c = 95) || decide (c = 126))) = true ∧ ((bl t).take s.1).contains 46 = decide (0 < s.2)) (μ := fun s => t.size - s.1) (0, 0) ⟨rfl, rfl, rfl, trivial⟩ ⟨H, by omega, by omega, by simp, by simp⟩ ?_
  clear H
  rintro ⟨i, n⟩ f w_ ⟨H, hi, hni, ha, hc⟩
  simp only at H hi hni ha hc ⊢
  repeat' (first | (with_reducible first | refine wp_seq ?_ | refine w_reg ?_) | ((with_reducible refine g_on ?_); (first | ((with_reducible refine g_mv ?_); refine l_p txs rfl rfl ?_) | ((with_reducible refine g_cl ?_); refine l_p txs rfl rfl ?_))))
  (with_reducible refine is_l ?_); refine l_t txs rfl rfl (fun hlt => ?_) (fun hge => ?_)
  · obtain ⟨x, hx⟩ : ∃ x, (bl t)[i]? = some x := ⟨_, List.getElem?_eq_getElem (by omega)⟩
    have hat := at_of hx
    have hbad : (!(capB x || decide (x = 95) || decide (x = 126))) = false → hostB (bl t) = false := fun h => by rw [hV, not_all hx h]; rfl
    have htk : (bl t).take (i + 1) = (bl t).take i ++ [x] := by
      rw [List.take_succ_eq_append_getElem (by omega), (List.getElem?_eq_some_iff.1 hx).2]
    repeat' (first | (with_reducible first | refine p_tn ?_ | refine wp_seq ?_ | refine wp_block ?_ | refine w_reg ?_) | (with_reducible (refine is_if ?_; (refine w_ift rfl ?_))) | (with_reducible first | refine wp_skip ?_ | refine l_nil ?_) | ((with_reducible refine g_on ?_); (first | ((with_reducible refine g_mv ?_); refine l_p txs rfl rfl ?_) | ((with_reducible refine g_as ?_); refine l_p txs rfl rfl ?_) | ((with_reducible refine g_ix ?_); refine l_ix txs rfl rfl (by first | omega | assumption | decide) (by first | omega | assumption | decide) ?_))))
    rw [hat]
    skip
    (with_reducible refine is_l ?_); refine l_callp rfl rfl (by kernel_rfl) (capital_c x _) ?_
    cases q1 : capB x
    rotate_left
    · have hn := hbad (by rw [q1]; rfl)
      repeat' (first | (with_reducible first | refine p_tn ?_ | refine p_tr ?_ | refine p_br ?_ | refine wp_seq ?_ | refine w_reg ?_) | (with_reducible (refine is_if ?_; (refine w_ift rfl ?_))) | (with_reducible first | refine wp_ret ?_ | refine l_nil ?_) | ((with_reducible refine g_on ?_); (first | ((with_reducible refine g_mv ?_); refine l_p txs rfl rfl ?_) | ((with_reducible refine g_as ?_); refine l_p txs rfl rfl ?_) | ((with_reducible refine g_pk ?_); refine l_p txs rfl rfl ?_))) | ((with_reducible refine g_if ?_); (refine l_off rfl ?_)))
      refine end1 rfl rfl ?_
      exact ⟨by rw [hn], H.B⟩
    repeat' (first | ((with_reducible refine g_on ?_); ((with_reducible refine g_mv ?_); refine l_p txs rfl rfl ?_)) | ((with_reducible refine g_if ?_); ((with_reducible refine g_mv ?_); refine l_p txs rfl rfl ?_)))
    (with_reducible refine is_l ?_); refine l_t txs rfl rfl (fun q2 => ?_) (fun q2 => ?_)
    · have hn := hbad (by rw [q2]; simp)
      repeat' (first | (with_reducible first | refine p_tn ?_ | refine p_tr ?_ | refine p_br ?_ | refine wp_seq ?_ | refine w_reg ?_) | (with_reducible (refine is_if ?_; (refine w_ift rfl ?_))) | (with_reducible first | refine wp_ret ?_ | refine l_nil ?_) | ((with_reducible refine g_on ?_); (first | ((with_reducible refine g_mv ?_); refine l_p txs rfl rfl ?_) | ((with_reducible refine g_as ?_); refine l_p txs rfl rfl ?_) | ((with_reducible refine g_pk ?_); refine l_p txs rfl rfl ?_))) | ((with_reducible refine g_if ?_); (refine l_off rfl ?_)))
      refine end1 rfl rfl ?_
      exact ⟨by rw [hn], H.B⟩
    repeat' (first | ((with_reducible refine g_on ?_); (first | ((with_reducible refine g_mv ?_); refine l_p txs rfl rfl ?_) | ((with_reducible refine g_pk ?_); refine l_p txs rfl rfl ?_))) | ((with_reducible refine g_if ?_); ((with_reducible refine g_mv ?_); refine l_p txs rfl rfl ?_)))
    (with_reducible refine is_l ?_); refine l_t txs rfl rfl (fun q3 => ?_) (fun q3 => ?_)
    · have hn := hbad (by rw [q3]; simp)
      repeat' (first | (with_reducible first | refine p_tn ?_ | refine p_tr ?_ | refine p_br ?_ | refine wp_seq ?_ | refine w_reg ?_) | (with_reducible (refine is_if ?_; (refine w_ift rfl ?_))) | (with_reducible first | refine wp_ret ?_ | refine l_nil ?_) | ((with_reducible refine g_on ?_); (first | ((with_reducible refine g_as ?_); refine l_p txs rfl rfl ?_) | ((with_reducible refine g_pk ?_); refine l_p txs rfl rfl ?_))))
      refine end1 rfl rfl ?_
      exact ⟨by rw [hn], H.B⟩
    have hw : (!(capB x || decide (x = 95) || decide (x = 126))) = true := by rw [q1]; simp [q2, q3]
    have ha2 := take_all (p := fun c => !(capB c || decide (c = 95) || decide (c = 126))) hx hw ha
    repeat' (first | (with_reducible first | refine p_tn ?_ | refine wp_seq ?_ | refine w_reg ?_) | (with_reducible (refine is_if ?_; (refine w_iff rfl ?_))) | (with_reducible first | refine wp_skip ?_ | refine l_nil ?_) | ((with_reducible refine g_on ?_); (first | ((with_reducible refine g_mv ?_); refine l_p txs rfl rfl ?_) | ((with_reducible refine g_pk ?_); refine l_p txs rfl rfl ?_))))
    (with_reducible refine is_l ?_); refine l_t txs rfl rfl (fun q4 => ?_) (fun q4 => ?_)
    · repeat' (first | (with_reducible first | refine p_tn ?_ | refine p_bn ?_ | refine w_reg ?_) | (with_reducible (refine is_if ?_; (refine w_ift rfl ?_))) | (with_reducible refine l_nil ?_) | ((with_reducible refine g_on ?_); (first | ((with_reducible refine g_mv ?_); refine l_p txs rfl rfl ?_) | ((with_reducible refine g_as ?_); refine l_p txs rfl rfl ?_) | ((with_reducible refine g_bi ?_); (refine l_a txs rfl rfl (by first | exact in_i64 (by omega) (by omega) | exact in_u8 (by omega) (by omega) | exact in_u64 (by omega) (by omega) | exact in_i32 (by omega) (by omega)) ?_)))))
      exact ⟨(i + 1, n + 1), _, rfl, ⟨rfl, rfl, rfl, trivial⟩, ⟨H, by show i + 1 ≤ _; omega, by show n + 1 ≤ i + 1; omega, ha2, by show ((bl t).take (i + 1)).contains 46 = decide (0 < n + 1); rw [htk, q4]; simp⟩, by show _ - (i + 1) < _ - i; omega⟩
    · repeat' (first | (with_reducible first | refine p_tn ?_ | refine p_bn ?_ | refine w_reg ?_) | (with_reducible (refine is_if ?_; (refine w_iff rfl ?_))) | (with_reducible first | refine wp_skip ?_ | refine l_nil ?_) | ((with_reducible refine g_on ?_); (first | ((with_reducible refine g_mv ?_); refine l_p txs rfl rfl ?_) | ((with_reducible refine g_as ?_); refine l_p txs rfl rfl ?_) | ((with_reducible refine g_bi ?_); (refine l_a txs rfl rfl (by first | exact in_i64 (by omega) (by omega) | exact in_u8 (by omega) (by omega) | exact in_u64 (by omega) (by omega) | exact in_i32 (by omega) (by omega)) ?_)))))
      exact ⟨(i + 1, n), _, rfl, ⟨rfl, rfl, rfl, trivial⟩, ⟨H, by show i + 1 ≤ _; omega, by show n ≤ i + 1; omega, ha2, by show ((bl t).take (i + 1)).contains 46 = decide (0 < n); rw [htk, ← hc]; simp [Ne.symm q4]⟩, by show _ - (i + 1) < _ - i; omega⟩
  · have hall : (bl t).take i = bl t := List.take_of_length_le (by omega)
    rw [hall] at ha hc
    rw [ha, hc, hhd] at hV
    repeat' (first | (with_reducible first | refine p_tn ?_ | refine p_tx ?_ | refine x_hit ?_ | refine wp_seq ?_ | refine w_reg ?_) | (with_reducible (refine is_if ?_; (refine w_iff rfl ?_))) | (with_reducible first | refine wp_exit ?_ | refine l_nil ?_) | ((with_reducible refine g_on ?_); ((with_reducible refine g_mv ?_); refine l_p txs rfl rfl ?_)))
    (with_reducible refine is_l ?_); refine l_t txs rfl rfl (fun q1 => ?_) (fun q1 => ?_)
    · repeat' (first | ((with_reducible refine g_on ?_); ((with_reducible refine g_mv ?_); refine l_p txs rfl rfl ?_)) | ((with_reducible refine g_if ?_); (first | ((with_reducible refine g_mv ?_); refine l_p txs rfl rfl ?_) | ((with_reducible refine g_ix ?_); refine l_ix txs rfl rfl (by first | omega | assumption | decide) (by first | omega | assumption | decide) ?_))))
      (with_reducible refine is_l ?_); refine l_t txs rfl rfl (fun q2 => ?_) (fun q2 => ?_)
      · have hn : hostB (bl t) = true := by rw [hV, decide_eq_true (by omega)]; simp [q2]
        repeat' (first | (with_reducible first | refine p_tn ?_ | refine wp_ret ?_ | refine l_nil ?_) | ((with_reducible refine g_on ?_); (first | ((with_reducible refine g_as ?_); refine l_p txs rfl rfl ?_) | ((with_reducible refine g_pk ?_); refine l_p txs rfl rfl ?_))))
        refine end1 rfl rfl ?_
        exact ⟨by rw [hn], H.B⟩
      · have hn : hostB (bl t) = false := by rw [hV, Classical.not_not.1 q2]; simp
        repeat' (first | (with_reducible first | refine p_tn ?_ | refine wp_ret ?_ | refine l_nil ?_) | ((with_reducible refine g_on ?_); (first | ((with_reducible refine g_as ?_); refine l_p txs rfl rfl ?_) | ((with_reducible refine g_pk ?_); refine l_p txs rfl rfl ?_))))
        refine end1 rfl rfl ?_
        exact ⟨by rw [hn], H.B⟩
    · have hn : hostB (bl t) = false := by rw [hV, decide_eq_false (by omega)]; rfl
      repeat' (first | (with_reducible first | refine p_tn ?_ | refine wp_ret ?_ | refine l_nil ?_) | ((with_reducible refine g_on ?_); (first | ((with_reducible refine g_mv ?_); refine l_p txs rfl rfl ?_) | ((with_reducible refine g_as ?_); refine l_p txs rfl rfl ?_) | ((with_reducible refine g_pk ?_); refine l_p txs rfl rfl ?_))) | ((with_reducible refine g_if ?_); (refine l_off rfl ?_)))
      refine end1 rfl rfl ?_
      exact ⟨by rw [hn], H.B⟩
set_option maxHeartbeats 8000000 in
theorem tailed_c (t : ByteArray) (w : World) (ht : t.size ≤ 1000000) : Calls Tryz.prog 114 #[.string t] w fun e w' => e = .returned (.bool (tailedB (bl t))) ∧ Below w.heap.size w w' := by
  have hlen := bl_length t
  have hV : tailedB (bl t) = (decide (2 ≤ (bl t).length) && decide ((bl t).head? = some 118) && ((bl t).tail.all fun c => digB c || decide (c = 46))) := rfl
  refine enter (args := [.string t]) Tryz.func114 rfl Tryz.ntmps114 rfl ?_
  have H := Hp.nil w
  repeat' (first | (with_reducible first | refine p_tn ?_ | refine wp_seq ?_ | refine w_reg ?_ | refine l_nil ?_) | ((with_reducible refine g_on ?_); (first | ((with_reducible refine g_mv ?_); refine l_p txs rfl rfl ?_) | ((with_reducible refine g_as ?_); refine l_p txs rfl rfl ?_) | ((with_reducible refine g_cl ?_); refine l_p txs rfl rfl ?_))))
  (with_reducible refine is_l ?_); refine l_t txs rfl rfl (fun q1 => ?_) (fun q1 => ?_)
  · have hn : tailedB (bl t) = false := by rw [hV, decide_eq_false (by omega)]; rfl
    repeat' (first | (with_reducible first | refine p_tn ?_ | refine p_tr ?_ | refine wp_seq ?_ | refine w_reg ?_) | (with_reducible (refine is_if ?_; (refine w_ift rfl ?_))) | (with_reducible first | refine wp_ret ?_ | refine l_nil ?_) | ((with_reducible refine g_on ?_); (first | ((with_reducible refine g_mv ?_); refine l_p txs rfl rfl ?_) | ((with_reducible refine g_as ?_); refine l_p txs rfl rfl ?_) | ((with_reducible refine g_pk ?_); refine l_p txs rfl rfl ?_))) | ((with_reducible refine g_if ?_); (refine l_off rfl ?_)))
    refine end1 rfl rfl ?_
    exact ⟨by rw [hn], H.B⟩
  have h1 : bl t ≠ [] := fun e => by rw [e] at hlen; simp at hlen; omega
  have hhd := K.head_at h1
  repeat' (first | ((with_reducible refine g_on ?_); ((with_reducible refine g_mv ?_); refine l_p txs rfl rfl ?_)) | ((with_reducible refine g_if ?_); (first | ((with_reducible refine g_mv ?_); refine l_p txs rfl rfl ?_) | ((with_reducible refine g_ix ?_); refine l_ix txs rfl rfl (by first | omega | assumption | decide) (by first | omega | assumption | decide) ?_))))
  (with_reducible refine is_l ?_); refine l_t txs rfl rfl (fun q2 => ?_) (fun q2 => ?_)
  · have hn : tailedB (bl t) = false := by rw [hV, hhd, decide_eq_false (show ¬ some (at_ (bl t) 0) = some 118 from fun e => q2 (Option.some.inj e))]; simp
    repeat' (first | (with_reducible first | refine p_tn ?_ | refine p_tr ?_ | refine wp_seq ?_ | refine w_reg ?_) | (with_reducible (refine is_if ?_; (refine w_ift rfl ?_))) | (with_reducible first | refine wp_ret ?_ | refine l_nil ?_) | ((with_reducible refine g_on ?_); (first | ((with_reducible refine g_as ?_); refine l_p txs rfl rfl ?_) | ((with_reducible refine g_pk ?_); refine l_p txs rfl rfl ?_))))
    refine end1 rfl rfl ?_
    exact ⟨by rw [hn], H.B⟩
  rw [hhd, Classical.not_not.1 q2, decide_eq_true (show 2 ≤ (bl t).length by omega)] at hV
  have hV : tailedB (bl t) = (bl t).tail.all fun c => digB c || decide (c = 46) := by rw [hV]; simp
  have htl : ∀ i, (bl t)[i + 1]? = (bl t).tail[i]? := fun i => by rw [List.getElem?_tail]
  have htn : (bl t).tail.length = t.size - 1 := by rw [List.length_tail]; omega
  generalize (bl t).tail = q at hV htl htn
  repeat' (first | (with_reducible first | refine p_tn ?_ | refine wp_seq ?_ | refine wp_block ?_ | refine w_reg ?_) | (with_reducible (refine is_if ?_; (refine w_iff rfl ?_))) | (with_reducible first | refine wp_skip ?_ | refine l_nil ?_) | ((with_reducible refine g_on ?_); (first | ((with_reducible refine g_as ?_); refine l_p txs rfl rfl ?_) | ((with_reducible refine g_pk ?_); refine l_p txs rfl rfl ?_))))
  refine w_loop (σ := Nat) (S := fun s => [(0, .string t), (3, .int .i64 ((s + 1 : Nat) : Int))]) (J := fun s w' => Hp w w' [] [] ∧ s + 1 ≤ t.size ∧ (q.take s).all (fun c => digB c || decide (c = 46)) = true) (μ := fun s => t.size - s) 0 ⟨rfl, rfl, trivial⟩ ⟨H, by omega, by simp⟩ ?_
  clear H
  rintro i f w_ ⟨H, hi, ha⟩
  repeat' (first | (with_reducible first | refine wp_seq ?_ | refine w_reg ?_) | ((with_reducible refine g_on ?_); (first | ((with_reducible refine g_mv ?_); refine l_p txs rfl rfl ?_) | ((with_reducible refine g_cl ?_); refine l_p txs rfl rfl ?_))))
  (with_reducible refine is_l ?_); refine l_t txs rfl rfl (fun hlt => ?_) (fun hge => ?_)
  · obtain ⟨x, hx⟩ : ∃ x, (bl t)[i + 1]? = some x := ⟨_, List.getElem?_eq_getElem (by omega)⟩
    have hat := at_of hx
    rw [htl] at hx
    repeat' (first | (with_reducible first | refine p_tn ?_ | refine wp_seq ?_ | refine wp_block ?_ | refine w_reg ?_) | (with_reducible (refine is_if ?_; (refine w_ift rfl ?_))) | (with_reducible first | refine wp_skip ?_ | refine l_nil ?_) | ((with_reducible refine g_on ?_); (first | ((with_reducible refine g_mv ?_); refine l_p txs rfl rfl ?_) | ((with_reducible refine g_ix ?_); refine l_ix txs rfl rfl (by first | omega | assumption | decide) (by first | omega | assumption | decide) ?_))))
    rw [hat]
    skip
    (with_reducible refine is_l ?_); refine l_callp rfl rfl (by kernel_rfl) (digit_c x _) ?_
    cases q3 : digB x
    · repeat' (first | ((with_reducible refine g_on ?_); (first | ((with_reducible refine g_mv ?_); refine l_p txs rfl rfl ?_) | ((with_reducible refine g_un ?_); (refine l_p txs rfl rfl ?_)))) | ((with_reducible refine g_if ?_); (first | ((with_reducible refine g_mv ?_); refine l_p txs rfl rfl ?_) | ((with_reducible refine g_ix ?_); refine l_ix txs rfl rfl (by first | omega | assumption | decide) (by first | omega | assumption | decide) ?_))))
      rw [hat]
      skip
      (with_reducible refine is_l ?_); refine l_t txs rfl rfl (fun q4 => ?_) (fun q4 => ?_)
      · have hn : tailedB (bl t) = false := by rw [hV, not_all hx (by rw [q3]; simp [q4])]
        repeat' (first | (with_reducible first | refine p_tn ?_ | refine p_tr ?_ | refine p_br ?_ | refine wp_seq ?_ | refine w_reg ?_) | (with_reducible (refine is_if ?_; (refine w_ift rfl ?_))) | (with_reducible first | refine wp_ret ?_ | refine l_nil ?_) | ((with_reducible refine g_on ?_); (first | ((with_reducible refine g_as ?_); refine l_p txs rfl rfl ?_) | ((with_reducible refine g_pk ?_); refine l_p txs rfl rfl ?_))))
        refine end1 rfl rfl ?_
        exact ⟨by rw [hn], H.B⟩
      · repeat' (first | (with_reducible first | refine p_tn ?_ | refine p_bn ?_ | refine w_reg ?_) | (with_reducible (refine is_if ?_; (refine w_iff rfl ?_))) | (with_reducible first | refine wp_skip ?_ | refine l_nil ?_) | ((with_reducible refine g_on ?_); (first | ((with_reducible refine g_mv ?_); refine l_p txs rfl rfl ?_) | ((with_reducible refine g_as ?_); refine l_p txs rfl rfl ?_) | ((with_reducible refine g_pk ?_); refine l_p txs rfl rfl ?_) | ((with_reducible refine g_bi ?_); (refine l_a txs rfl rfl (by first | exact in_i64 (by omega) (by omega) | exact in_u8 (by omega) (by omega) | exact in_u64 (by omega) (by omega) | exact in_i32 (by omega) (by omega)) ?_)))))
        exact ⟨i + 1, _, rfl, ⟨rfl, rfl, trivial⟩, ⟨H, by omega, take_all (p := fun c => digB c || decide (c = 46)) hx (by simp [Classical.not_not.1 q4]) ha⟩, by omega⟩
    · repeat' (first | (with_reducible first | refine p_tn ?_ | refine p_bn ?_ | refine w_reg ?_) | (with_reducible (refine is_if ?_; (refine w_iff rfl ?_))) | (with_reducible first | refine wp_skip ?_ | refine l_nil ?_) | ((with_reducible refine g_on ?_); (first | ((with_reducible refine g_mv ?_); refine l_p txs rfl rfl ?_) | ((with_reducible refine g_as ?_); refine l_p txs rfl rfl ?_) | ((with_reducible refine g_pk ?_); refine l_p txs rfl rfl ?_) | ((with_reducible refine g_un ?_); (refine l_p txs rfl rfl ?_)) | ((with_reducible refine g_bi ?_); (refine l_a txs rfl rfl (by first | exact in_i64 (by omega) (by omega) | exact in_u8 (by omega) (by omega) | exact in_u64 (by omega) (by omega) | exact in_i32 (by omega) (by omega)) ?_)))) | ((with_reducible refine g_if ?_); (refine l_off rfl ?_)))
      exact ⟨i + 1, _, rfl, ⟨rfl, rfl, trivial⟩, ⟨H, by omega, take_all (p := fun c => digB c || decide (c = 46)) hx (by simp [q3]) ha⟩, by omega⟩
  · have hall : q.take i = q := List.take_of_length_le (by omega)
    rw [hall] at ha
    have hn : tailedB (bl t) = true := by rw [hV, ha]
    repeat' (first | (with_reducible first | refine p_tn ?_ | refine p_tx ?_ | refine x_hit ?_ | refine wp_seq ?_ | refine w_reg ?_) | (with_reducible (refine is_if ?_; (refine w_iff rfl ?_))) | (with_reducible first | refine wp_exit ?_ | refine wp_ret ?_ | refine l_nil ?_) | ((with_reducible refine g_on ?_); ((with_reducible refine g_as ?_); refine l_p txs rfl rfl ?_)))
    refine end1 rfl rfl ?_
    exact ⟨by rw [hn], H.B⟩
end Go.Proofs.YtnimaenhijlcmaaGreatDoor.K.Ref
