/- Joined texts of mine, 4: Fa, Fb, Fc, MBit, Fd, Vw, Vx, Vy, Fe, Ff, LaidZ. -/
import Derived.Test.YtnimaenhijlcmaaGreatDoorCards
import Derived.LaidLaws
import Derived.ChangeSame
import Derived.ChangeArms
import Derived.OpenShut
import Derived.Lay
import Derived.Deep.DeepWitnessRowRef
import Derived.Lib.LaidU8
import Derived.Lib.LaidTab
import Derived.ProofKit
import Derived.WalkKit
import Derived.Test.YtnimaenhijlcmaaGreatDoorPa3
section
namespace Go.Proofs.YtnimaenhijlcmaaGreatDoor.K.Ref
open Go.RowKit Go.Proofs.YtnimaenhijlcmaaGreatDoor.Q Go.Proofs.YtnimaenhijlcmaaGreatDoor.K Go.Proofs.YtnimaenhijlcmaaGreatDoor.Mb Go.Proofs.YtnimaenhijlcmaaGreatDoorW.PrintWords
set_option linter.unusedVariables false
set_option linter.unusedSimpArgs false
set_option maxHeartbeats 4000000 in
theorem below_c (s : ByteArray) (w : World) (hs : s.size ≤ 1000000000) : Calls Tryz.prog 146 #[.string s] w fun e w' => e = .returned (.string (strOfNums (lowS (bl s)))) ∧ Below w.heap.size w w' := by
  refine enter (args := [.string s]) Tryz.func146 rfl Tryz.ntmps146 rfl ?_
  have hbl := bl_length s
  have H := (Hp.nil w).nilRow 5 1
  repeat' (first | (with_reducible first | refine p_tn ?_ | refine wp_seq ?_ | refine wp_block ?_ | refine w_reg ?_ | refine l_nil ?_) | ((with_reducible refine g_on ?_); ((with_reducible refine g_as ?_); refine l_p txs rfl rfl ?_)))
  refine w_loop (σ := Nat × Option Addr × Nat) (S := fun s' => [(0, .string s), (3, .slice s'.2.1 (lowS ((bl s).take s'.1)).length s'.2.2), (4, .int .i64 (s'.1 : Int))])
    (J := fun s' w' => Hp w w' [] [rowB (.slice s'.2.1 (lowS ((bl s).take s'.1)).length s'.2.2) (lowS ((bl s).take s'.1))] ∧ s'.1 ≤ s.size) (μ := fun s' => s.size - s'.1) (0, none, 0) ⟨rfl, rfl, rfl, trivial⟩ ⟨H, by omega⟩ ?_
  rintro ⟨i, A2, c2⟩ f w_ ⟨H, hi⟩
  simp only at H hi ⊢
  repeat' (first | (with_reducible first | refine wp_seq ?_ | refine w_reg ?_) | ((with_reducible refine g_on ?_); (first | ((with_reducible refine g_mv ?_); refine l_p txs rfl rfl ?_) | ((with_reducible refine g_cl ?_); refine l_p txs rfl rfl ?_))))
  (with_reducible refine is_l ?_); refine l_t txs rfl rfl (fun hlt => ?_) (fun hge => ?_)
  · obtain ⟨x, hx⟩ : ∃ x, (bl s)[i]? = some x := ⟨_, List.getElem?_eq_getElem (by omega)⟩
    have hx2 := bl_bytes s x (List.mem_of_getElem? hx)
    have hlow := low_take hx
    have hl0 : (lowS ((bl s).take i)).length = i := by unfold lowS; rw [List.length_map, List.length_take]; omega
    have hl1 : (lowS ((bl s).take (i + 1))).length = (lowS ((bl s).take i)).length + 1 := by rw [hlow]; simp
    have hat := at_of hx
    repeat' (first | (with_reducible first | refine p_tn ?_ | refine wp_seq ?_ | refine wp_block ?_ | refine w_reg ?_) | (with_reducible (refine is_if ?_; (refine w_ift rfl ?_))) | (with_reducible first | refine wp_skip ?_ | refine l_nil ?_) | ((with_reducible refine g_on ?_); (first | ((with_reducible refine g_mv ?_); refine l_p txs rfl rfl ?_) | ((with_reducible refine g_as ?_); refine l_p txs rfl rfl ?_) | ((with_reducible refine g_ix ?_); refine l_ix txs rfl rfl (by first | omega | assumption | decide) (by first | omega | assumption | decide) ?_))))
    rw [hat]
    skip
    (with_reducible refine is_l ?_); refine l_callp rfl rfl (by kernel_rfl) (capital_c x _) ?_
    cases hc : capB x
    · have hxe : lowB x = x := by
        unfold capB at hc
        simp at hc
        exact if_neg (by omega)
      repeat' (first | (with_reducible first | refine p_tn ?_ | refine w_reg ?_) | (with_reducible (refine is_if ?_; (refine w_iff rfl ?_))) | (with_reducible first | refine wp_skip ?_ | refine l_nil ?_) | ((with_reducible refine g_on ?_); ((with_reducible refine g_mv ?_); refine l_p txs rfl rfl ?_)))
      (with_reducible refine is_l ?_); refine h_bs H info_u8 Tryz.underlying34 (by decide) (by decide) rfl rfl (by kernel_rfl) (fun g_ w_ H => ?_)
      (with_reducible refine is_l ?_); refine h_app H 0 rfl info_u8 Tryz.underlying34 rfl rfl rfl rfl (H.cellRd 0 rfl) rfl rfl (by show ((lowS ((bl s).take i)).length + 1) * 1 ≤ _; omega) (fun v w_ hv H => ?_)
      obtain ⟨A', c', rfl⟩ := hv
      have H := H.pick [] [0] (by decide) (by decide) rfl rfl
      repeat' (first | (with_reducible first | refine p_tn ?_ | refine p_bn ?_ | refine w_reg ?_ | refine l_nil ?_) | ((with_reducible refine g_on ?_); (first | ((with_reducible refine g_mv ?_); refine l_p txs rfl rfl ?_) | ((with_reducible refine g_as ?_); refine l_p txs rfl rfl ?_) | ((with_reducible refine g_bi ?_); (refine l_a txs rfl rfl (by first | exact in_i64 (by omega) (by omega) | exact in_u8 (by omega) (by omega) | exact in_u64 (by omega) (by omega) | exact in_i32 (by omega) (by omega)) ?_)))))
      refine ⟨(i + 1, A', c'), _, rfl, ⟨rfl, ?_, rfl, trivial⟩, ⟨?_, by show i + 1 ≤ _; omega⟩, by show _ - (i + 1) < _ - i; omega⟩
      · show Value.slice A' ((lowS ((bl s).take i)).length + 1) c' = Value.slice A' (lowS ((bl s).take (i + 1))).length c'
        rw [hl1]
      · show Hp w _ [] [rowB (.slice A' (lowS ((bl s).take (i + 1))).length c') (lowS ((bl s).take (i + 1)))]
        unfold rowB
        rw [hl1, hlow, hxe, nums_snoc]
        exact H
    · have hcr : 65 ≤ x ∧ x ≤ 90 := by
        unfold capB at hc
        simpa using hc
      have hxe : lowB x = x + 32 := if_pos ⟨by omega, by omega⟩
      repeat' (first | (with_reducible first | refine p_tn ?_ | refine w_reg ?_) | (with_reducible (refine is_if ?_; (refine w_ift rfl ?_))) | (with_reducible refine l_nil ?_) | ((with_reducible refine g_on ?_); (first | ((with_reducible refine g_mv ?_); refine l_p txs rfl rfl ?_) | ((with_reducible refine g_as ?_); refine l_p txs rfl rfl ?_) | ((with_reducible refine g_bi ?_); (refine l_a txs rfl rfl (by first | exact in_i64 (by omega) (by omega) | exact in_u8 (by omega) (by omega) | exact in_u64 (by omega) (by omega) | exact in_i32 (by omega) (by omega)) ?_)))))
      (with_reducible refine is_l ?_); refine h_bs H info_u8 Tryz.underlying34 (by decide) (by decide) rfl rfl (by kernel_rfl) (fun g_ w_ H => ?_)
      (with_reducible refine is_l ?_); refine h_app H 0 rfl info_u8 Tryz.underlying34 rfl rfl rfl rfl (H.cellRd 0 rfl) rfl rfl (by show ((lowS ((bl s).take i)).length + 1) * 1 ≤ _; omega) (fun v w_ hv H => ?_)
      obtain ⟨A', c', rfl⟩ := hv
      have H := H.pick [] [0] (by decide) (by decide) rfl rfl
      repeat' (first | (with_reducible first | refine p_tn ?_ | refine p_bn ?_ | refine w_reg ?_ | refine l_nil ?_) | ((with_reducible refine g_on ?_); (first | ((with_reducible refine g_mv ?_); refine l_p txs rfl rfl ?_) | ((with_reducible refine g_as ?_); refine l_p txs rfl rfl ?_) | ((with_reducible refine g_bi ?_); (refine l_a txs rfl rfl (by first | exact in_i64 (by omega) (by omega) | exact in_u8 (by omega) (by omega) | exact in_u64 (by omega) (by omega) | exact in_i32 (by omega) (by omega)) ?_)))))
      refine ⟨(i + 1, A', c'), _, rfl, ⟨rfl, ?_, rfl, trivial⟩, ⟨?_, by show i + 1 ≤ _; omega⟩, by show _ - (i + 1) < _ - i; omega⟩
      · show Value.slice A' ((lowS ((bl s).take i)).length + 1) c' = Value.slice A' (lowS ((bl s).take (i + 1))).length c'
        rw [hl1]
      · show Hp w _ [] [rowB (.slice A' (lowS ((bl s).take (i + 1))).length c') (lowS ((bl s).take (i + 1)))]
        unfold rowB
        rw [hl1, hlow, hxe, nums_snoc]
        exact H
  · have hall : (bl s).take i = bl s := List.take_of_length_le (by omega)
    simp only [hall] at H ⊢
    repeat' (first | (with_reducible first | refine p_tn ?_ | refine p_tx ?_ | refine x_hit ?_ | refine wp_seq ?_ | refine w_reg ?_) | (with_reducible (refine is_if ?_; (refine w_iff rfl ?_))) | (with_reducible first | refine wp_exit ?_ | refine l_nil ?_) | ((with_reducible refine g_on ?_); ((with_reducible refine g_mv ?_); refine l_p txs rfl rfl ?_)))
    (with_reducible refine is_l ?_); refine l_text rfl rfl Tryz.underlying34 Tryz.underlying5 Tryz.underlying9 (rowB_rd H 0 (F := A2) (f := c2) (x := lowS (bl s)) rfl).1 ?_
    repeat' (first | (with_reducible first | refine p_tn ?_ | refine wp_ret ?_ | refine l_nil ?_) | ((with_reducible refine g_on ?_); ((with_reducible refine g_as ?_); refine l_p txs rfl rfl ?_)))
    refine end1 rfl rfl ?_
    exact ⟨rfl, H.B⟩
theorem cell_of_heap {w : World} {g k : Nat} {cs : Array Value} {t : TypeId} {fr : Nat × Nat} {v : Value} (h : w.heap[g]? = some (.cells cs t fr)) (hc : cs[k]? = some v) : w.cell? ⟨g, k, none⟩ = some v := by
  simp [World.cell?, h, hc]
theorem row_some {w0 w : World} {l : List Ent} {r : List RowD} {A : Option Addr} {c : Nat} {N : List L} (H : Hp w0 w l r) (k : Nat) (hk : r[k]? = some (rowT (.slice A N.length c) N)) (hN : N ≠ []) : ∃ ad, A = some ad := by
  obtain ⟨A3, c3, e3, _, _, hAn⟩ := H.rd k hk
  cases e3
  cases A with
  | some ad => exact ⟨ad, rfl⟩
  | none => exact absurd (hAn rfl).2 (by have := List.length_pos_iff.2 hN; show N.length ≠ 0; omega)
theorem last_get {N : List L} (h : N ≠ []) : N[N.length - 1]? = some (N.getLastD []) := by
  have hp := List.length_pos_iff.2 h
  rw [List.getLastD_eq_getLast?, List.getLast?_eq_getElem?, List.getElem?_eq_getElem (by omega)]
  rfl
theorem last_mem {N : List L} (h : N ≠ []) : N.getLastD [] ∈ N := List.mem_of_getElem? (last_get h)
set_option maxRecDepth 100000 in
set_option maxHeartbeats 8000000 in
theorem element_c {w : World} {t2 : TypeId} {fr : Nat × Nat} (hD : w.heap[3]? = some (.cells deC t2 fr)) (t : ByteArray) (ht : t.size ≤ 1000000) :
    Calls Tryz.prog 111 #[.string t] w fun e w' => e = .returned (.bool (relemB (bl t))) ∧ Below w.heap.size w w' := by
  have hDb : ∀ w1, Below w.heap.size w w1 → w1.heap[3]? = some (.cells deC t2 fr) := fun w1 K => (K.block _ (blk_lt hD)).trans hD
  have hlen := bl_length t
  have hbt := bl_bytes t
  refine enter (args := [.string t]) Tryz.func111 rfl Tryz.ntmps111 rfl ?_
  have H := Hp.nil w
  repeat' (first | (with_reducible first | refine p_tn ?_ | refine wp_seq ?_ | refine w_reg ?_ | refine l_nil ?_) | ((with_reducible refine g_on ?_); (first | ((with_reducible refine g_mv ?_); refine l_p txs rfl rfl ?_) | ((with_reducible refine g_as ?_); refine l_p txs rfl rfl ?_))))
  (with_reducible refine is_l ?_); refine l_t txs rfl rfl (fun h1 => ?_) (fun h1 => ?_)
  · have h1 : bl t = [] := h1
    have hn : relemB (bl t) = false := by rw [h1]; rfl
    repeat' (first | (with_reducible first | refine p_tn ?_ | refine p_tr ?_ | refine wp_seq ?_ | refine w_reg ?_) | (with_reducible (refine is_if ?_; (refine w_ift rfl ?_))) | (with_reducible first | refine wp_ret ?_ | refine l_nil ?_) | ((with_reducible refine g_on ?_); (first | ((with_reducible refine g_mv ?_); refine l_p txs rfl rfl ?_) | ((with_reducible refine g_as ?_); refine l_p txs rfl rfl ?_) | ((with_reducible refine g_pk ?_); refine l_p txs rfl rfl ?_))) | ((with_reducible refine g_if ?_); (refine l_off rfl ?_)))
    refine end1 rfl rfl ?_
    exact ⟨by rw [hn], H.B⟩
  have h1 : bl t ≠ [] := h1
  have hpos : 0 < t.size := by rw [← hlen]; exact List.length_pos_iff.2 h1
  have hhd := K.head_at h1
  have hlast := last_at h1
  rw [hlen] at hlast
  repeat' (first | ((with_reducible refine g_on ?_); ((with_reducible refine g_mv ?_); refine l_p txs rfl rfl ?_)) | ((with_reducible refine g_if ?_); (first | ((with_reducible refine g_mv ?_); refine l_p txs rfl rfl ?_) | ((with_reducible refine g_ix ?_); refine l_ix txs rfl rfl (by first | omega | assumption | decide) (by first | omega | assumption | decide) ?_))))
  (with_reducible refine is_l ?_); refine l_t txs rfl rfl (fun h2 => ?_) (fun h2 => ?_)
  · have hn : relemB (bl t) = false := by unfold relemB; rw [hhd, h2]; simp
    repeat' (first | (with_reducible first | refine p_tn ?_ | refine p_tr ?_ | refine wp_seq ?_ | refine w_reg ?_) | (with_reducible (refine is_if ?_; (refine w_ift rfl ?_))) | (with_reducible first | refine wp_ret ?_ | refine l_nil ?_) | ((with_reducible refine g_on ?_); (first | ((with_reducible refine g_mv ?_); refine l_p txs rfl rfl ?_) | ((with_reducible refine g_as ?_); refine l_p txs rfl rfl ?_) | ((with_reducible refine g_pk ?_); refine l_p txs rfl rfl ?_))) | ((with_reducible refine g_if ?_); (refine l_off rfl ?_)))
    refine end1 rfl rfl ?_
    exact ⟨by rw [hn], H.B⟩
  repeat' (first | ((with_reducible refine g_on ?_); (first | ((with_reducible refine g_mv ?_); refine l_p txs rfl rfl ?_) | ((with_reducible refine g_pk ?_); refine l_p txs rfl rfl ?_))) | ((with_reducible refine g_if ?_); (first | ((with_reducible refine g_mv ?_); refine l_p txs rfl rfl ?_) | ((with_reducible refine g_cl ?_); refine l_p txs rfl rfl ?_) | ((with_reducible refine g_ix ?_); refine l_ix txs rfl rfl (by first | omega | assumption | decide) (by first | omega | assumption | decide) ?_) | ((with_reducible refine g_bi ?_); (refine l_a txs rfl rfl (by first | exact in_i64 (by omega) (by omega) | exact in_u8 (by omega) (by omega) | exact in_u64 (by omega) (by omega) | exact in_i32 (by omega) (by omega)) ?_)))))
  (with_reducible refine is_l ?_); refine l_t txs rfl rfl (fun h3 => ?_) (fun h3 => ?_)
  · have hn : relemB (bl t) = false := by unfold relemB; rw [hlast, h3]; simp
    repeat' (first | (with_reducible first | refine p_tn ?_ | refine p_tr ?_ | refine wp_seq ?_ | refine w_reg ?_) | (with_reducible (refine is_if ?_; (refine w_ift rfl ?_))) | (with_reducible first | refine wp_ret ?_ | refine l_nil ?_) | ((with_reducible refine g_on ?_); (first | ((with_reducible refine g_as ?_); refine l_p txs rfl rfl ?_) | ((with_reducible refine g_pk ?_); refine l_p txs rfl rfl ?_))))
    refine end1 rfl rfl ?_
    exact ⟨by rw [hn], H.B⟩
  have hE : relemB (bl t) = ((bl t).all elC && !(devices.contains (lowS (aheadC 46 (bl t)))) && tildeB (aheadC 46 (bl t))) := by
    unfold relemB
    rw [hhd, hlast, decide_eq_true (show some (at_ (bl t) 0) ≠ some 46 from fun e => h2 (Option.some.inj e)), decide_eq_true (show some (at_ (bl t) ((t.size : Int) - 1)) ≠ some 46 from fun e => h3 (Option.some.inj e))]
    have : (bl t).isEmpty = false := by cases hb : bl t with | nil => exact absurd hb h1 | cons x r => rfl
    rw [this]
    simp
  repeat' (first | (with_reducible first | refine p_tn ?_ | refine wp_seq ?_ | refine wp_block ?_ | refine w_reg ?_) | (with_reducible (refine is_if ?_; (refine w_iff rfl ?_))) | (with_reducible first | refine wp_skip ?_ | refine l_nil ?_) | ((with_reducible refine g_on ?_); (first | ((with_reducible refine g_as ?_); refine l_p txs rfl rfl ?_) | ((with_reducible refine g_pk ?_); refine l_p txs rfl rfl ?_))))
  refine w_loop (σ := Nat) (S := fun s => [(0, .string t), (3, .int .i64 (s : Int))]) (J := fun s w' => Hp w w' [] [] ∧ s ≤ t.size ∧ ((bl t).take s).all elC = true) (μ := fun s => t.size - s) 0 ⟨rfl, rfl, trivial⟩ ⟨H, by omega, by simp⟩ ?_
  clear H
  rintro i f w_ ⟨H, hi, ha⟩
  repeat' (first | (with_reducible first | refine wp_seq ?_ | refine w_reg ?_) | ((with_reducible refine g_on ?_); (first | ((with_reducible refine g_mv ?_); refine l_p txs rfl rfl ?_) | ((with_reducible refine g_cl ?_); refine l_p txs rfl rfl ?_))))
  (with_reducible refine is_l ?_); refine l_t txs rfl rfl (fun hlt => ?_) (fun hge => ?_)
  · obtain ⟨x, hx⟩ : ∃ x, (bl t)[i]? = some x := ⟨_, List.getElem?_eq_getElem (by omega)⟩
    have hat := at_of hx
    repeat' (first | (with_reducible first | refine p_tn ?_ | refine wp_seq ?_ | refine wp_block ?_ | refine w_reg ?_) | (with_reducible (refine is_if ?_; (refine w_ift rfl ?_))) | (with_reducible first | refine wp_skip ?_ | refine l_nil ?_) | ((with_reducible refine g_on ?_); (first | ((with_reducible refine g_mv ?_); refine l_p txs rfl rfl ?_) | ((with_reducible refine g_as ?_); refine l_p txs rfl rfl ?_) | ((with_reducible refine g_ix ?_); refine l_ix txs rfl rfl (by first | omega | assumption | decide) (by first | omega | assumption | decide) ?_))))
    rw [hat]
    skip
    (with_reducible refine is_l ?_); refine l_callp rfl rfl (by kernel_rfl) (small_c x _) ?_
    cases q1 : smlB x
    rotate_left
    · have hw : elC x = true := by unfold elC; rw [q1]; simp
      repeat' (first | (with_reducible first | refine p_tn ?_ | refine p_bn ?_ | refine w_reg ?_) | (with_reducible (refine is_if ?_; (refine w_iff rfl ?_))) | (with_reducible first | refine wp_skip ?_ | refine l_nil ?_) | ((with_reducible refine g_on ?_); (first | ((with_reducible refine g_mv ?_); refine l_p txs rfl rfl ?_) | ((with_reducible refine g_as ?_); refine l_p txs rfl rfl ?_) | ((with_reducible refine g_pk ?_); refine l_p txs rfl rfl ?_) | ((with_reducible refine g_un ?_); (refine l_p txs rfl rfl ?_)) | ((with_reducible refine g_bi ?_); (refine l_a txs rfl rfl (by first | exact in_i64 (by omega) (by omega) | exact in_u8 (by omega) (by omega) | exact in_u64 (by omega) (by omega) | exact in_i32 (by omega) (by omega)) ?_)))) | ((with_reducible refine g_if ?_); (refine l_off rfl ?_)))
      exact ⟨i + 1, _, rfl, ⟨rfl, rfl, trivial⟩, ⟨H, by omega, take_all hx hw ha⟩, by omega⟩
    repeat' (first | ((with_reducible refine g_on ?_); (first | ((with_reducible refine g_mv ?_); refine l_p txs rfl rfl ?_) | ((with_reducible refine g_un ?_); (refine l_p txs rfl rfl ?_)))) | ((with_reducible refine g_if ?_); ((with_reducible refine g_mv ?_); refine l_p txs rfl rfl ?_)))
    (with_reducible refine is_l ?_); refine l_callp rfl rfl (by kernel_rfl) (capital_c x _) ?_
    cases q2 : capB x
    rotate_left
    · have hw : elC x = true := by unfold elC; rw [q2]; simp
      repeat' (first | (with_reducible first | refine p_tn ?_ | refine p_bn ?_ | refine w_reg ?_) | (with_reducible (refine is_if ?_; (refine w_iff rfl ?_))) | (with_reducible first | refine wp_skip ?_ | refine l_nil ?_) | ((with_reducible refine g_on ?_); (first | ((with_reducible refine g_mv ?_); refine l_p txs rfl rfl ?_) | ((with_reducible refine g_as ?_); refine l_p txs rfl rfl ?_) | ((with_reducible refine g_pk ?_); refine l_p txs rfl rfl ?_) | ((with_reducible refine g_bi ?_); (refine l_a txs rfl rfl (by first | exact in_i64 (by omega) (by omega) | exact in_u8 (by omega) (by omega) | exact in_u64 (by omega) (by omega) | exact in_i32 (by omega) (by omega)) ?_)))) | ((with_reducible refine g_if ?_); (first | (refine l_off rfl ?_) | ((with_reducible refine g_un ?_); (refine l_p txs rfl rfl ?_)))))
      exact ⟨i + 1, _, rfl, ⟨rfl, rfl, trivial⟩, ⟨H, by omega, take_all hx hw ha⟩, by omega⟩
    repeat' (first | ((with_reducible refine g_on ?_); (first | ((with_reducible refine g_mv ?_); refine l_p txs rfl rfl ?_) | ((with_reducible refine g_pk ?_); refine l_p txs rfl rfl ?_))) | ((with_reducible refine g_if ?_); (first | ((with_reducible refine g_mv ?_); refine l_p txs rfl rfl ?_) | ((with_reducible refine g_un ?_); (refine l_p txs rfl rfl ?_)))))
    (with_reducible refine is_l ?_); refine l_callp rfl rfl (by kernel_rfl) (digit_c x _) ?_
    cases q3 : digB x
    rotate_left
    · have hw : elC x = true := by unfold elC; rw [q3]; simp
      repeat' (first | (with_reducible first | refine p_tn ?_ | refine p_bn ?_ | refine w_reg ?_) | (with_reducible (refine is_if ?_; (refine w_iff rfl ?_))) | (with_reducible first | refine wp_skip ?_ | refine l_nil ?_) | ((with_reducible refine g_on ?_); (first | ((with_reducible refine g_mv ?_); refine l_p txs rfl rfl ?_) | ((with_reducible refine g_as ?_); refine l_p txs rfl rfl ?_) | ((with_reducible refine g_pk ?_); refine l_p txs rfl rfl ?_) | ((with_reducible refine g_bi ?_); (refine l_a txs rfl rfl (by first | exact in_i64 (by omega) (by omega) | exact in_u8 (by omega) (by omega) | exact in_u64 (by omega) (by omega) | exact in_i32 (by omega) (by omega)) ?_)))) | ((with_reducible refine g_if ?_); (first | (refine l_off rfl ?_) | ((with_reducible refine g_un ?_); (refine l_p txs rfl rfl ?_)))))
      exact ⟨i + 1, _, rfl, ⟨rfl, rfl, trivial⟩, ⟨H, by omega, take_all hx hw ha⟩, by omega⟩
    repeat' (first | ((with_reducible refine g_on ?_); (first | ((with_reducible refine g_mv ?_); refine l_p txs rfl rfl ?_) | ((with_reducible refine g_pk ?_); refine l_p txs rfl rfl ?_))) | ((with_reducible refine g_if ?_); (first | ((with_reducible refine g_mv ?_); refine l_p txs rfl rfl ?_) | ((with_reducible refine g_un ?_); (refine l_p txs rfl rfl ?_)))))
    (with_reducible refine is_l ?_); refine l_t txs rfl rfl (fun q4 => ?_) (fun q4 => ?_)
    rotate_left
    · have hw : elC x = true := by unfold elC; simp [Classical.not_not.1 q4]
      repeat' (first | (with_reducible first | refine p_tn ?_ | refine p_bn ?_ | refine w_reg ?_) | (with_reducible (refine is_if ?_; (refine w_iff rfl ?_))) | (with_reducible first | refine wp_skip ?_ | refine l_nil ?_) | ((with_reducible refine g_on ?_); (first | ((with_reducible refine g_mv ?_); refine l_p txs rfl rfl ?_) | ((with_reducible refine g_as ?_); refine l_p txs rfl rfl ?_) | ((with_reducible refine g_pk ?_); refine l_p txs rfl rfl ?_) | ((with_reducible refine g_bi ?_); (refine l_a txs rfl rfl (by first | exact in_i64 (by omega) (by omega) | exact in_u8 (by omega) (by omega) | exact in_u64 (by omega) (by omega) | exact in_i32 (by omega) (by omega)) ?_)))) | ((with_reducible refine g_if ?_); (refine l_off rfl ?_)))
      exact ⟨i + 1, _, rfl, ⟨rfl, rfl, trivial⟩, ⟨H, by omega, take_all hx hw ha⟩, by omega⟩
    repeat' (first | ((with_reducible refine g_on ?_); (first | ((with_reducible refine g_mv ?_); refine l_p txs rfl rfl ?_) | ((with_reducible refine g_pk ?_); refine l_p txs rfl rfl ?_))) | ((with_reducible refine g_if ?_); ((with_reducible refine g_mv ?_); refine l_p txs rfl rfl ?_)))
    (with_reducible refine is_l ?_); refine l_t txs rfl rfl (fun q5 => ?_) (fun q5 => ?_)
    rotate_left
    · have hw : elC x = true := by unfold elC; simp [Classical.not_not.1 q5]
      repeat' (first | (with_reducible first | refine p_tn ?_ | refine p_bn ?_ | refine w_reg ?_) | (with_reducible (refine is_if ?_; (refine w_iff rfl ?_))) | (with_reducible first | refine wp_skip ?_ | refine l_nil ?_) | ((with_reducible refine g_on ?_); (first | ((with_reducible refine g_mv ?_); refine l_p txs rfl rfl ?_) | ((with_reducible refine g_as ?_); refine l_p txs rfl rfl ?_) | ((with_reducible refine g_pk ?_); refine l_p txs rfl rfl ?_) | ((with_reducible refine g_bi ?_); (refine l_a txs rfl rfl (by first | exact in_i64 (by omega) (by omega) | exact in_u8 (by omega) (by omega) | exact in_u64 (by omega) (by omega) | exact in_i32 (by omega) (by omega)) ?_)))) | ((with_reducible refine g_if ?_); (refine l_off rfl ?_)))
      exact ⟨i + 1, _, rfl, ⟨rfl, rfl, trivial⟩, ⟨H, by omega, take_all hx hw ha⟩, by omega⟩
    repeat' (first | ((with_reducible refine g_on ?_); (first | ((with_reducible refine g_mv ?_); refine l_p txs rfl rfl ?_) | ((with_reducible refine g_pk ?_); refine l_p txs rfl rfl ?_))) | ((with_reducible refine g_if ?_); ((with_reducible refine g_mv ?_); refine l_p txs rfl rfl ?_)))
    (with_reducible refine is_l ?_); refine l_t txs rfl rfl (fun q6 => ?_) (fun q6 => ?_)
    rotate_left
    · have hw : elC x = true := by unfold elC; simp [Classical.not_not.1 q6]
      repeat' (first | (with_reducible first | refine p_tn ?_ | refine p_bn ?_ | refine w_reg ?_) | (with_reducible (refine is_if ?_; (refine w_iff rfl ?_))) | (with_reducible first | refine wp_skip ?_ | refine l_nil ?_) | ((with_reducible refine g_on ?_); (first | ((with_reducible refine g_mv ?_); refine l_p txs rfl rfl ?_) | ((with_reducible refine g_as ?_); refine l_p txs rfl rfl ?_) | ((with_reducible refine g_pk ?_); refine l_p txs rfl rfl ?_) | ((with_reducible refine g_bi ?_); (refine l_a txs rfl rfl (by first | exact in_i64 (by omega) (by omega) | exact in_u8 (by omega) (by omega) | exact in_u64 (by omega) (by omega) | exact in_i32 (by omega) (by omega)) ?_)))) | ((with_reducible refine g_if ?_); (refine l_off rfl ?_)))
      exact ⟨i + 1, _, rfl, ⟨rfl, rfl, trivial⟩, ⟨H, by omega, take_all hx hw ha⟩, by omega⟩
    repeat' (first | ((with_reducible refine g_on ?_); (first | ((with_reducible refine g_mv ?_); refine l_p txs rfl rfl ?_) | ((with_reducible refine g_pk ?_); refine l_p txs rfl rfl ?_))) | ((with_reducible refine g_if ?_); ((with_reducible refine g_mv ?_); refine l_p txs rfl rfl ?_)))
    (with_reducible refine is_l ?_); refine l_t txs rfl rfl (fun q7 => ?_) (fun q7 => ?_)
    rotate_left
    · have hw : elC x = true := by unfold elC; simp [Classical.not_not.1 q7]
      repeat' (first | (with_reducible first | refine p_tn ?_ | refine p_bn ?_ | refine w_reg ?_) | (with_reducible (refine is_if ?_; (refine w_iff rfl ?_))) | (with_reducible first | refine wp_skip ?_ | refine l_nil ?_) | ((with_reducible refine g_on ?_); (first | ((with_reducible refine g_mv ?_); refine l_p txs rfl rfl ?_) | ((with_reducible refine g_as ?_); refine l_p txs rfl rfl ?_) | ((with_reducible refine g_pk ?_); refine l_p txs rfl rfl ?_) | ((with_reducible refine g_bi ?_); (refine l_a txs rfl rfl (by first | exact in_i64 (by omega) (by omega) | exact in_u8 (by omega) (by omega) | exact in_u64 (by omega) (by omega) | exact in_i32 (by omega) (by omega)) ?_)))))
      exact ⟨i + 1, _, rfl, ⟨rfl, rfl, trivial⟩, ⟨H, by omega, take_all hx hw ha⟩, by omega⟩
    have hw : elC x = false := by unfold elC; rw [q1, q2, q3]; simp [q4, q5, q6, q7]
    have hn : relemB (bl t) = false := by rw [hE, not_all hx hw]; rfl
    repeat' (first | (with_reducible first | refine p_tn ?_ | refine p_tr ?_ | refine p_br ?_ | refine wp_seq ?_ | refine w_reg ?_) | (with_reducible (refine is_if ?_; (refine w_ift rfl ?_))) | (with_reducible first | refine wp_ret ?_ | refine l_nil ?_) | ((with_reducible refine g_on ?_); (first | ((with_reducible refine g_as ?_); refine l_p txs rfl rfl ?_) | ((with_reducible refine g_pk ?_); refine l_p txs rfl rfl ?_))))
    refine end1 rfl rfl ?_
    exact ⟨by rw [hn], H.B⟩
  · have hall : (bl t).all elC = true := by rw [← List.take_of_length_le (l := bl t) (i := i) (by omega)]; exact ha
    rw [hall, Bool.true_and] at hE
    obtain ⟨sm1, sm2⟩ := ahead_sub 46 (bl t)
    repeat' (first | (with_reducible first | refine p_tn ?_ | refine p_tx ?_ | refine x_hit ?_ | refine wp_seq ?_ | refine w_reg ?_) | (with_reducible (refine is_if ?_; (refine w_iff rfl ?_))) | (with_reducible first | refine wp_exit ?_ | refine l_nil ?_) | ((with_reducible refine g_on ?_); ((with_reducible refine g_mv ?_); refine l_p txs rfl rfl ?_)))
    (with_reducible refine is_l ?_); refine l_callv rfl rfl (by kernel_rfl) (ahead_c t 46 _ (by omega)) (fun w_ K => ?_)
    have H := H.call K
    generalize aheadC 46 (bl t) = s at hE sm1 sm2 ⊢
    have bs : Bytes s := fun y hy => hbt y (sm1 y hy)
    have zs := sizeS' bs
    have hlo := fun w1 => below_c (strOfNums s) w1 (by omega)
    rw [blS bs] at hlo
    have bls : Bytes (lowS s) := fun y hy => by
      obtain ⟨x, hx, rfl⟩ := List.mem_map.1 hy
      have := bs x hx
      unfold lowB
      split <;> omega
    have eL := blS bls
    repeat' (first | (with_reducible first | refine p_tn ?_ | refine wp_seq ?_ | refine w_reg ?_ | refine l_nil ?_) | ((with_reducible refine g_on ?_); (first | ((with_reducible refine g_mv ?_); refine l_p txs rfl rfl ?_) | ((with_reducible refine g_as ?_); refine l_p txs rfl rfl ?_))))
    (with_reducible refine is_l ?_); refine l_callv rfl rfl (by kernel_rfl) (hlo _) (fun w_ K => ?_)
    have H := H.call K
    repeat' (first | (with_reducible first | refine p_tn ?_ | refine wp_seq ?_ | refine wp_block ?_ | refine w_reg ?_ | refine l_nil ?_) | ((with_reducible refine g_on ?_); ((with_reducible refine g_as ?_); refine l_p txs rfl rfl ?_)))
    refine w_loop (σ := Nat) (S := fun k => [(5, .string (strOfNums s)), (6, .string (strOfNums (lowS s))), (7, .int .i64 (k : Int))]) (J := fun k w' => Hp w w' [] [] ∧ k ≤ 22 ∧ devices.contains (lowS s) = (devices.drop k).contains (lowS s)) (μ := fun k => 22 - k) 0 ⟨rfl, rfl, rfl, trivial⟩ ⟨H, by omega, rfl⟩ ?_
    clear H
    rintro k f w_ ⟨H, hk, hl⟩
    repeat' (first | (with_reducible first | refine wp_seq ?_ | refine w_reg ?_) | ((with_reducible refine g_on ?_); ((with_reducible refine g_mv ?_); refine l_p txs rfl rfl ?_)))
    (with_reducible refine is_l ?_); refine l_t txs rfl rfl (fun hlt => ?_) (fun hge => ?_)
    · have hk' : k < 22 := by omega
      obtain ⟨q1, q2⟩ := de_at k hk'
      rw [q2, List.contains_cons] at hl
      repeat' (first | (with_reducible first | refine p_tn ?_ | refine wp_seq ?_ | refine wp_block ?_ | refine w_reg ?_) | (with_reducible (refine is_if ?_; (refine w_ift rfl ?_))) | (with_reducible first | refine wp_skip ?_ | refine l_nil ?_) | ((with_reducible refine g_on ?_); ((with_reducible refine g_mv ?_); refine l_p txs rfl rfl ?_)))
      (with_reducible refine is_l ?_); refine l_iaa Tryz.underlying138 info_str1 rfl rfl rfl (by omega) (by omega) ?_
      (with_reducible refine is_l ?_); refine l_ld txs rfl rfl (by rw [Int.toNat_natCast]; exact cell_of_heap (hDb _ H.B) q1) ?_
      skip
      (with_reducible refine is_l ?_); refine l_t txs rfl rfl (fun hh => ?_) (fun hnn => ?_)
      · have hn : relemB (bl t) = false := by rw [hE, hl, ← hh, eL]; simp
        repeat' (first | (with_reducible first | refine p_tn ?_ | refine p_tr ?_ | refine p_br ?_ | refine wp_seq ?_ | refine w_reg ?_) | (with_reducible (refine is_if ?_; (refine w_ift rfl ?_))) | (with_reducible first | refine wp_ret ?_ | refine l_nil ?_) | ((with_reducible refine g_on ?_); ((with_reducible refine g_as ?_); refine l_p txs rfl rfl ?_)))
        refine end1 rfl rfl ?_
        exact ⟨by rw [hn], H.B⟩
      · rw [eL] at hnn
        repeat' (first | (with_reducible first | refine p_tn ?_ | refine p_bn ?_ | refine w_reg ?_) | (with_reducible (refine is_if ?_; (refine w_iff rfl ?_))) | (with_reducible first | refine wp_skip ?_ | refine l_nil ?_) | ((with_reducible refine g_on ?_); (first | ((with_reducible refine g_mv ?_); refine l_p txs rfl rfl ?_) | ((with_reducible refine g_as ?_); refine l_p txs rfl rfl ?_) | ((with_reducible refine g_bi ?_); (refine l_a txs rfl rfl (by first | exact in_i64 (by omega) (by omega) | exact in_u8 (by omega) (by omega) | exact in_u64 (by omega) (by omega) | exact in_i32 (by omega) (by omega)) ?_)))))
        exact ⟨k + 1, _, rfl, ⟨rfl, rfl, rfl, trivial⟩, ⟨H, by omega, by rw [hl, beq_eq_false_iff_ne.2 hnn]; simp⟩, by omega⟩
    · have hnil : devices.drop k = [] := List.drop_eq_nil_of_le (by show 22 ≤ k; omega)
      rw [hnil] at hl
      rw [hl] at hE
      have hE : relemB (bl t) = (decide ((splitC 126 s).length < 2) || !digB1 ((splitC 126 s).getLastD [])) := by rw [hE]; simp [tildeB]
      have hpi := fun w1 => pieces_c (strOfNums s) 126 w1 (by omega)
      rw [blS bs] at hpi
      have hsm := split_mem 126 s
      have hsl := split_len 126 s
      have hne := splitC_ne (c := 126) s
      repeat' (first | (with_reducible first | refine p_tn ?_ | refine p_tx ?_ | refine x_hit ?_ | refine wp_seq ?_ | refine w_reg ?_) | (with_reducible (refine is_if ?_; (refine w_iff rfl ?_))) | (with_reducible first | refine wp_exit ?_ | refine l_nil ?_) | ((with_reducible refine g_on ?_); ((with_reducible refine g_mv ?_); refine l_p txs rfl rfl ?_)))
      (with_reducible refine is_l ?_); refine l_call rfl rfl (by kernel_rfl) (hpi _) (fun e w_ hR => ?_)
      generalize splitC 126 s = N at hR hE hsm hsl hne
      obtain ⟨A1, c1, rfl, K⟩ := hR
      refine ⟨_, rfl, ?_⟩
      obtain ⟨ad, rfl⟩ := row_some K 0 rfl hne
      have H := H.join K
      have hcell := rdT_cell (rowT_at K 0 rfl) (last_get hne)
      have hNp := List.length_pos_iff.2 hne
      repeat' (first | (with_reducible first | refine p_tn ?_ | refine wp_seq ?_ | refine w_reg ?_ | refine l_nil ?_) | ((with_reducible refine g_on ?_); (first | ((with_reducible refine g_mv ?_); refine l_p txs rfl rfl ?_) | ((with_reducible refine g_as ?_); refine l_p txs rfl rfl ?_) | ((with_reducible refine g_cl ?_); refine l_p txs rfl rfl ?_))))
      (with_reducible refine is_l ?_); refine l_t txs rfl rfl (fun e1 => ?_) (fun e1 => ?_)
      · have hn : relemB (bl t) = true := by rw [hE, decide_eq_true (by omega)]; rfl
        repeat' (first | (with_reducible first | refine p_tn ?_ | refine wp_ret ?_ | refine l_nil ?_) | ((with_reducible refine g_on ?_); (first | ((with_reducible refine g_mv ?_); refine l_p txs rfl rfl ?_) | ((with_reducible refine g_as ?_); refine l_p txs rfl rfl ?_) | ((with_reducible refine g_pk ?_); refine l_p txs rfl rfl ?_))) | ((with_reducible refine g_if ?_); (refine l_off rfl ?_)))
        refine end1 rfl rfl ?_
        exact ⟨by rw [hn], H.B⟩
      · have hyb : Bytes (N.getLastD []) := fun z hz => bs z ((hsm _ (last_mem hne)).1 z hz)
        have hyl := (hsm _ (last_mem hne)).2
        have hdg := fun w1 => digits_c (strOfNums (N.getLastD [])) w1 (by rw [sizeS' hyb]; omega)
        rw [blS hyb] at hdg
        generalize N.getLastD [] = y at hE hcell hdg
        repeat' (first | ((with_reducible refine g_on ?_); ((with_reducible refine g_mv ?_); refine l_p txs rfl rfl ?_)) | ((with_reducible refine g_if ?_); (first | ((with_reducible refine g_mv ?_); refine l_p txs rfl rfl ?_) | ((with_reducible refine g_cl ?_); refine l_p txs rfl rfl ?_) | ((with_reducible refine g_ia ?_); refine l_ia txs rfl rfl (by first | omega | assumption | decide) (by first | omega | assumption | decide) ?_) | ((with_reducible refine g_bi ?_); (refine l_a txs rfl rfl (by first | exact in_i64 (by omega) (by omega) | exact in_u8 (by omega) (by omega) | exact in_u64 (by omega) (by omega) | exact in_i32 (by omega) (by omega)) ?_)))))
        (with_reducible refine is_l ?_); refine l_ld txs rfl rfl (by rw [show ((N.length : Int) - 1).toNat = N.length - 1 by omega]; exact hcell) ?_
        (with_reducible refine is_l ?_); refine l_callp rfl rfl (by kernel_rfl) (hdg _) ?_
        have hn : relemB (bl t) = !digsB y := by rw [hE, decide_eq_false (by omega)]; rfl
        repeat' (first | (with_reducible first | refine p_tn ?_ | refine wp_ret ?_ | refine l_nil ?_) | ((with_reducible refine g_on ?_); (first | ((with_reducible refine g_as ?_); refine l_p txs rfl rfl ?_) | ((with_reducible refine g_pk ?_); refine l_p txs rfl rfl ?_))) | ((with_reducible refine g_if ?_); ((with_reducible refine g_un ?_); (refine l_p txs rfl rfl ?_))))
        refine end1 rfl rfl ?_
        exact ⟨by rw [hn], H.B⟩
set_option maxHeartbeats 8000000 in
theorem first_c (t : ByteArray) (w : World) (ht : t.size ≤ 1000000) (h1 : bl t ≠ []) : Calls Tryz.prog 112 #[.string t] w fun e w' => e = .returned (.bool (hostB (bl t))) ∧ Below w.heap.size w w' := by
  have hlen := bl_length t
  have hpos : 0 < t.size := by rw [← hlen]; exact List.length_pos_iff.2 h1
  have hhd := K.head_at h1
  have hV : hostB (bl t) = ((bl t).all (fun c => !(capB c || decide (c = 95) || decide (c = 126))) && (bl t).contains 46 && decide ((bl t).head? ≠ some 45)) := rfl
  refine enter (args := [.string t]) Tryz.func112 rfl Tryz.ntmps112 rfl ?_
  have H := Hp.nil w
  repeat' (first | (with_reducible first | refine p_tn ?_ | refine wp_seq ?_ | refine wp_block ?_ | refine w_reg ?_ | refine l_nil ?_) | ((with_reducible refine g_on ?_); ((with_reducible refine g_as ?_); refine l_p txs rfl rfl ?_)))
  refine w_loop (σ := Nat × Nat) (S := fun s => [(0, .string t), (3, .int .i64 (s.2 : Int)), (4, .int .i64 (s.1 : Int))]) (J := fun s w' => Hp w w' [] [] ∧ s.1 ≤ t.size ∧ s.2 ≤ s.1 ∧ ((bl t).take s.1).all (fun c => !(capB c || decide (c = 95) || decide (c = 126))) = true ∧ ((bl t).take s.1).contains 46 = decide (0 < s.2)) (μ := fun s => t.size - s.1) (0, 0) ⟨rfl, rfl, rfl, trivial⟩ ⟨H, by omega, by omega, by simp, by simp⟩ ?_
  clear H
  rintro ⟨i, n⟩ f w_ ⟨H, hi, hni, ha, hc⟩
  simp only at H hi hni ha hc ⊢
  repeat' (first | (with_reducible first | refine wp_seq ?_ | refine w_reg ?_) | ((with_reducible refine g_on ?_); (first | ((with_reducible refine g_mv ?_); refine l_p txs rfl rfl ?_) | ((with_reducible refine g_cl ?_); refine l_p txs rfl rfl ?_))))
  (with_reducible refine is_l ?_); refine l_t txs rfl rfl (fun hlt => ?_) (fun hge => ?_)
  · obtain ⟨x, hx⟩ : ∃ x, (bl t)[i]? = some x := ⟨_, List.getElem?_eq_getElem (by omega)⟩
    have hat := at_of hx
    have hbad : (!(capB x || decide (x = 95) || decide (x = 126))) = false → hostB (bl t) = false := fun h => by rw [hV, not_all hx h]; rfl
    have htk : (bl t).take (i + 1) = (bl t).take i ++ [x] := by
      rw [List.take_succ_eq_append_getElem (by omega), (List.getElem?_eq_some_iff.1 hx).2]
    repeat' (first | (with_reducible first | refine p_tn ?_ | refine wp_seq ?_ | refine wp_block ?_ | refine w_reg ?_) | (with_reducible (refine is_if ?_; (refine w_ift rfl ?_))) | (with_reducible first | refine wp_skip ?_ | refine l_nil ?_) | ((with_reducible refine g_on ?_); (first | ((with_reducible refine g_mv ?_); refine l_p txs rfl rfl ?_) | ((with_reducible refine g_as ?_); refine l_p txs rfl rfl ?_) | ((with_reducible refine g_ix ?_); refine l_ix txs rfl rfl (by first | omega | assumption | decide) (by first | omega | assumption | decide) ?_))))
    rw [hat]
    skip
    (with_reducible refine is_l ?_); refine l_callp rfl rfl (by kernel_rfl) (capital_c x _) ?_
    cases q1 : capB x
    rotate_left
    · have hn := hbad (by rw [q1]; rfl)
      repeat' (first | (with_reducible first | refine p_tn ?_ | refine p_tr ?_ | refine p_br ?_ | refine wp_seq ?_ | refine w_reg ?_) | (with_reducible (refine is_if ?_; (refine w_ift rfl ?_))) | (with_reducible first | refine wp_ret ?_ | refine l_nil ?_) | ((with_reducible refine g_on ?_); (first | ((with_reducible refine g_mv ?_); refine l_p txs rfl rfl ?_) | ((with_reducible refine g_as ?_); refine l_p txs rfl rfl ?_) | ((with_reducible refine g_pk ?_); refine l_p txs rfl rfl ?_))) | ((with_reducible refine g_if ?_); (refine l_off rfl ?_)))
      refine end1 rfl rfl ?_
      exact ⟨by rw [hn], H.B⟩
    repeat' (first | ((with_reducible refine g_on ?_); ((with_reducible refine g_mv ?_); refine l_p txs rfl rfl ?_)) | ((with_reducible refine g_if ?_); ((with_reducible refine g_mv ?_); refine l_p txs rfl rfl ?_)))
    (with_reducible refine is_l ?_); refine l_t txs rfl rfl (fun q2 => ?_) (fun q2 => ?_)
    · have hn := hbad (by rw [q2]; simp)
      repeat' (first | (with_reducible first | refine p_tn ?_ | refine p_tr ?_ | refine p_br ?_ | refine wp_seq ?_ | refine w_reg ?_) | (with_reducible (refine is_if ?_; (refine w_ift rfl ?_))) | (with_reducible first | refine wp_ret ?_ | refine l_nil ?_) | ((with_reducible refine g_on ?_); (first | ((with_reducible refine g_mv ?_); refine l_p txs rfl rfl ?_) | ((with_reducible refine g_as ?_); refine l_p txs rfl rfl ?_) | ((with_reducible refine g_pk ?_); refine l_p txs rfl rfl ?_))) | ((with_reducible refine g_if ?_); (refine l_off rfl ?_)))
      refine end1 rfl rfl ?_
      exact ⟨by rw [hn], H.B⟩
    repeat' (first | ((with_reducible refine g_on ?_); (first | ((with_reducible refine g_mv ?_); refine l_p txs rfl rfl ?_) | ((with_reducible refine g_pk ?_); refine l_p txs rfl rfl ?_))) | ((with_reducible refine g_if ?_); ((with_reducible refine g_mv ?_); refine l_p txs rfl rfl ?_)))
    (with_reducible refine is_l ?_); refine l_t txs rfl rfl (fun q3 => ?_) (fun q3 => ?_)
    · have hn := hbad (by rw [q3]; simp)
      repeat' (first | (with_reducible first | refine p_tn ?_ | refine p_tr ?_ | refine p_br ?_ | refine wp_seq ?_ | refine w_reg ?_) | (with_reducible (refine is_if ?_; (refine w_ift rfl ?_))) | (with_reducible first | refine wp_ret ?_ | refine l_nil ?_) | ((with_reducible refine g_on ?_); (first | ((with_reducible refine g_as ?_); refine l_p txs rfl rfl ?_) | ((with_reducible refine g_pk ?_); refine l_p txs rfl rfl ?_))))
      refine end1 rfl rfl ?_
      exact ⟨by rw [hn], H.B⟩
    have hw : (!(capB x || decide (x = 95) || decide (x = 126))) = true := by rw [q1]; simp [q2, q3]
    have ha2 := take_all (p := fun c => !(capB c || decide (c = 95) || decide (c = 126))) hx hw ha
    repeat' (first | (with_reducible first | refine p_tn ?_ | refine wp_seq ?_ | refine w_reg ?_) | (with_reducible (refine is_if ?_; (refine w_iff rfl ?_))) | (with_reducible first | refine wp_skip ?_ | refine l_nil ?_) | ((with_reducible refine g_on ?_); (first | ((with_reducible refine g_mv ?_); refine l_p txs rfl rfl ?_) | ((with_reducible refine g_pk ?_); refine l_p txs rfl rfl ?_))))
    (with_reducible refine is_l ?_); refine l_t txs rfl rfl (fun q4 => ?_) (fun q4 => ?_)
    · repeat' (first | (with_reducible first | refine p_tn ?_ | refine p_bn ?_ | refine w_reg ?_) | (with_reducible (refine is_if ?_; (refine w_ift rfl ?_))) | (with_reducible refine l_nil ?_) | ((with_reducible refine g_on ?_); (first | ((with_reducible refine g_mv ?_); refine l_p txs rfl rfl ?_) | ((with_reducible refine g_as ?_); refine l_p txs rfl rfl ?_) | ((with_reducible refine g_bi ?_); (refine l_a txs rfl rfl (by first | exact in_i64 (by omega) (by omega) | exact in_u8 (by omega) (by omega) | exact in_u64 (by omega) (by omega) | exact in_i32 (by omega) (by omega)) ?_)))))
      exact ⟨(i + 1, n + 1), _, rfl, ⟨rfl, rfl, rfl, trivial⟩, ⟨H, by show i + 1 ≤ _; omega, by show n + 1 ≤ i + 1; omega, ha2, by show ((bl t).take (i + 1)).contains 46 = decide (0 < n + 1); rw [htk, q4]; simp⟩, by show _ - (i + 1) < _ - i; omega⟩
    · repeat' (first | (with_reducible first | refine p_tn ?_ | refine p_bn ?_ | refine w_reg ?_) | (with_reducible (refine is_if ?_; (refine w_iff rfl ?_))) | (with_reducible first | refine wp_skip ?_ | refine l_nil ?_) | ((with_reducible refine g_on ?_); (first | ((with_reducible refine g_mv ?_); refine l_p txs rfl rfl ?_) | ((with_reducible refine g_as ?_); refine l_p txs rfl rfl ?_) | ((with_reducible refine g_bi ?_); (refine l_a txs rfl rfl (by first | exact in_i64 (by omega) (by omega) | exact in_u8 (by omega) (by omega) | exact in_u64 (by omega) (by omega) | exact in_i32 (by omega) (by omega)) ?_)))))
      exact ⟨(i + 1, n), _, rfl, ⟨rfl, rfl, rfl, trivial⟩, ⟨H, by show i + 1 ≤ _; omega, by show n ≤ i + 1; omega, ha2, by show ((bl t).take (i + 1)).contains 46 = decide (0 < n); rw [htk, ← hc]; simp [Ne.symm q4]⟩, by show _ - (i + 1) < _ - i; omega⟩
  · have hall : (bl t).take i = bl t := List.take_of_length_le (by omega)
    rw [hall] at ha hc
    rw [ha, hc, hhd] at hV
    repeat' (first | (with_reducible first | refine p_tn ?_ | refine p_tx ?_ | refine x_hit ?_ | refine wp_seq ?_ | refine w_reg ?_) | (with_reducible (refine is_if ?_; (refine w_iff rfl ?_))) | (with_reducible first | refine wp_exit ?_ | refine l_nil ?_) | ((with_reducible refine g_on ?_); ((with_reducible refine g_mv ?_); refine l_p txs rfl rfl ?_)))
    (with_reducible refine is_l ?_); refine l_t txs rfl rfl (fun q1 => ?_) (fun q1 => ?_)
    · repeat' (first | ((with_reducible refine g_on ?_); ((with_reducible refine g_mv ?_); refine l_p txs rfl rfl ?_)) | ((with_reducible refine g_if ?_); (first | ((with_reducible refine g_mv ?_); refine l_p txs rfl rfl ?_) | ((with_reducible refine g_ix ?_); refine l_ix txs rfl rfl (by first | omega | assumption | decide) (by first | omega | assumption | decide) ?_))))
      (with_reducible refine is_l ?_); refine l_t txs rfl rfl (fun q2 => ?_) (fun q2 => ?_)
      · have hn : hostB (bl t) = true := by rw [hV, decide_eq_true (by omega)]; simp [q2]
        repeat' (first | (with_reducible first | refine p_tn ?_ | refine wp_ret ?_ | refine l_nil ?_) | ((with_reducible refine g_on ?_); (first | ((with_reducible refine g_as ?_); refine l_p txs rfl rfl ?_) | ((with_reducible refine g_pk ?_); refine l_p txs rfl rfl ?_))))
        refine end1 rfl rfl ?_
        exact ⟨by rw [hn], H.B⟩
      · have hn : hostB (bl t) = false := by rw [hV, Classical.not_not.1 q2]; simp
        repeat' (first | (with_reducible first | refine p_tn ?_ | refine wp_ret ?_ | refine l_nil ?_) | ((with_reducible refine g_on ?_); (first | ((with_reducible refine g_as ?_); refine l_p txs rfl rfl ?_) | ((with_reducible refine g_pk ?_); refine l_p txs rfl rfl ?_))))
        refine end1 rfl rfl ?_
        exact ⟨by rw [hn], H.B⟩
    · have hn : hostB (bl t) = false := by rw [hV, decide_eq_false (by omega)]; rfl
      repeat' (first | (with_reducible first | refine p_tn ?_ | refine wp_ret ?_ | refine l_nil ?_) | ((with_reducible refine g_on ?_); (first | ((with_reducible refine g_mv ?_); refine l_p txs rfl rfl ?_) | ((with_reducible refine g_as ?_); refine l_p txs rfl rfl ?_) | ((with_reducible refine g_pk ?_); refine l_p txs rfl rfl ?_))) | ((with_reducible refine g_if ?_); (refine l_off rfl ?_)))
      refine end1 rfl rfl ?_
      exact ⟨by rw [hn], H.B⟩
set_option maxHeartbeats 8000000 in
theorem tailed_c (t : ByteArray) (w : World) (ht : t.size ≤ 1000000) : Calls Tryz.prog 114 #[.string t] w fun e w' => e = .returned (.bool (tailedB (bl t))) ∧ Below w.heap.size w w' := by
  have hlen := bl_length t
  have hV : tailedB (bl t) = (decide (2 ≤ (bl t).length) && decide ((bl t).head? = some 118) && ((bl t).tail.all fun c => digB c || decide (c = 46))) := rfl
  refine enter (args := [.string t]) Tryz.func114 rfl Tryz.ntmps114 rfl ?_
  have H := Hp.nil w
  repeat' (first | (with_reducible first | refine p_tn ?_ | refine wp_seq ?_ | refine w_reg ?_ | refine l_nil ?_) | ((with_reducible refine g_on ?_); (first | ((with_reducible refine g_mv ?_); refine l_p txs rfl rfl ?_) | ((with_reducible refine g_as ?_); refine l_p txs rfl rfl ?_) | ((with_reducible refine g_cl ?_); refine l_p txs rfl rfl ?_))))
  (with_reducible refine is_l ?_); refine l_t txs rfl rfl (fun q1 => ?_) (fun q1 => ?_)
  · have hn : tailedB (bl t) = false := by rw [hV, decide_eq_false (by omega)]; rfl
    repeat' (first | (with_reducible first | refine p_tn ?_ | refine p_tr ?_ | refine wp_seq ?_ | refine w_reg ?_) | (with_reducible (refine is_if ?_; (refine w_ift rfl ?_))) | (with_reducible first | refine wp_ret ?_ | refine l_nil ?_) | ((with_reducible refine g_on ?_); (first | ((with_reducible refine g_mv ?_); refine l_p txs rfl rfl ?_) | ((with_reducible refine g_as ?_); refine l_p txs rfl rfl ?_) | ((with_reducible refine g_pk ?_); refine l_p txs rfl rfl ?_))) | ((with_reducible refine g_if ?_); (refine l_off rfl ?_)))
    refine end1 rfl rfl ?_
    exact ⟨by rw [hn], H.B⟩
  have h1 : bl t ≠ [] := fun e => by rw [e] at hlen; simp at hlen; omega
  have hhd := K.head_at h1
  repeat' (first | ((with_reducible refine g_on ?_); ((with_reducible refine g_mv ?_); refine l_p txs rfl rfl ?_)) | ((with_reducible refine g_if ?_); (first | ((with_reducible refine g_mv ?_); refine l_p txs rfl rfl ?_) | ((with_reducible refine g_ix ?_); refine l_ix txs rfl rfl (by first | omega | assumption | decide) (by first | omega | assumption | decide) ?_))))
  (with_reducible refine is_l ?_); refine l_t txs rfl rfl (fun q2 => ?_) (fun q2 => ?_)
  · have hn : tailedB (bl t) = false := by rw [hV, hhd, decide_eq_false (show ¬ some (at_ (bl t) 0) = some 118 from fun e => q2 (Option.some.inj e))]; simp
    repeat' (first | (with_reducible first | refine p_tn ?_ | refine p_tr ?_ | refine wp_seq ?_ | refine w_reg ?_) | (with_reducible (refine is_if ?_; (refine w_ift rfl ?_))) | (with_reducible first | refine wp_ret ?_ | refine l_nil ?_) | ((with_reducible refine g_on ?_); (first | ((with_reducible refine g_as ?_); refine l_p txs rfl rfl ?_) | ((with_reducible refine g_pk ?_); refine l_p txs rfl rfl ?_))))
    refine end1 rfl rfl ?_
    exact ⟨by rw [hn], H.B⟩
  rw [hhd, Classical.not_not.1 q2, decide_eq_true (show 2 ≤ (bl t).length by omega)] at hV
  have hV : tailedB (bl t) = (bl t).tail.all fun c => digB c || decide (c = 46) := by rw [hV]; simp
  have htl : ∀ i, (bl t)[i + 1]? = (bl t).tail[i]? := fun i => by rw [List.getElem?_tail]
  have htn : (bl t).tail.length = t.size - 1 := by rw [List.length_tail]; omega
  generalize (bl t).tail = q at hV htl htn
  repeat' (first | (with_reducible first | refine p_tn ?_ | refine wp_seq ?_ | refine wp_block ?_ | refine w_reg ?_) | (with_reducible (refine is_if ?_; (refine w_iff rfl ?_))) | (with_reducible first | refine wp_skip ?_ | refine l_nil ?_) | ((with_reducible refine g_on ?_); (first | ((with_reducible refine g_as ?_); refine l_p txs rfl rfl ?_) | ((with_reducible refine g_pk ?_); refine l_p txs rfl rfl ?_))))
  refine w_loop (σ := Nat) (S := fun s => [(0, .string t), (3, .int .i64 ((s + 1 : Nat) : Int))]) (J := fun s w' => Hp w w' [] [] ∧ s + 1 ≤ t.size ∧ (q.take s).all (fun c => digB c || decide (c = 46)) = true) (μ := fun s => t.size - s) 0 ⟨rfl, rfl, trivial⟩ ⟨H, by omega, by simp⟩ ?_
  clear H
  rintro i f w_ ⟨H, hi, ha⟩
  repeat' (first | (with_reducible first | refine wp_seq ?_ | refine w_reg ?_) | ((with_reducible refine g_on ?_); (first | ((with_reducible refine g_mv ?_); refine l_p txs rfl rfl ?_) | ((with_reducible refine g_cl ?_); refine l_p txs rfl rfl ?_))))
  (with_reducible refine is_l ?_); refine l_t txs rfl rfl (fun hlt => ?_) (fun hge => ?_)
  · obtain ⟨x, hx⟩ : ∃ x, (bl t)[i + 1]? = some x := ⟨_, List.getElem?_eq_getElem (by omega)⟩
    have hat := at_of hx
    rw [htl] at hx
    repeat' (first | (with_reducible first | refine p_tn ?_ | refine wp_seq ?_ | refine wp_block ?_ | refine w_reg ?_) | (with_reducible (refine is_if ?_; (refine w_ift rfl ?_))) | (with_reducible first | refine wp_skip ?_ | refine l_nil ?_) | ((with_reducible refine g_on ?_); (first | ((with_reducible refine g_mv ?_); refine l_p txs rfl rfl ?_) | ((with_reducible refine g_ix ?_); refine l_ix txs rfl rfl (by first | omega | assumption | decide) (by first | omega | assumption | decide) ?_))))
    rw [hat]
    skip
    (with_reducible refine is_l ?_); refine l_callp rfl rfl (by kernel_rfl) (digit_c x _) ?_
    cases q3 : digB x
    · repeat' (first | ((with_reducible refine g_on ?_); (first | ((with_reducible refine g_mv ?_); refine l_p txs rfl rfl ?_) | ((with_reducible refine g_un ?_); (refine l_p txs rfl rfl ?_)))) | ((with_reducible refine g_if ?_); (first | ((with_reducible refine g_mv ?_); refine l_p txs rfl rfl ?_) | ((with_reducible refine g_ix ?_); refine l_ix txs rfl rfl (by first | omega | assumption | decide) (by first | omega | assumption | decide) ?_))))
      rw [hat]
      skip
      (with_reducible refine is_l ?_); refine l_t txs rfl rfl (fun q4 => ?_) (fun q4 => ?_)
      · have hn : tailedB (bl t) = false := by rw [hV, not_all hx (by rw [q3]; simp [q4])]
        repeat' (first | (with_reducible first | refine p_tn ?_ | refine p_tr ?_ | refine p_br ?_ | refine wp_seq ?_ | refine w_reg ?_) | (with_reducible (refine is_if ?_; (refine w_ift rfl ?_))) | (with_reducible first | refine wp_ret ?_ | refine l_nil ?_) | ((with_reducible refine g_on ?_); (first | ((with_reducible refine g_as ?_); refine l_p txs rfl rfl ?_) | ((with_reducible refine g_pk ?_); refine l_p txs rfl rfl ?_))))
        refine end1 rfl rfl ?_
        exact ⟨by rw [hn], H.B⟩
      · repeat' (first | (with_reducible first | refine p_tn ?_ | refine p_bn ?_ | refine w_reg ?_) | (with_reducible (refine is_if ?_; (refine w_iff rfl ?_))) | (with_reducible first | refine wp_skip ?_ | refine l_nil ?_) | ((with_reducible refine g_on ?_); (first | ((with_reducible refine g_mv ?_); refine l_p txs rfl rfl ?_) | ((with_reducible refine g_as ?_); refine l_p txs rfl rfl ?_) | ((with_reducible refine g_pk ?_); refine l_p txs rfl rfl ?_) | ((with_reducible refine g_bi ?_); (refine l_a txs rfl rfl (by first | exact in_i64 (by omega) (by omega) | exact in_u8 (by omega) (by omega) | exact in_u64 (by omega) (by omega) | exact in_i32 (by omega) (by omega)) ?_)))))
        exact ⟨i + 1, _, rfl, ⟨rfl, rfl, trivial⟩, ⟨H, by omega, take_all (p := fun c => digB c || decide (c = 46)) hx (by simp [Classical.not_not.1 q4]) ha⟩, by omega⟩
    · repeat' (first | (with_reducible first | refine p_tn ?_ | refine p_bn ?_ | refine w_reg ?_) | (with_reducible (refine is_if ?_; (refine w_iff rfl ?_))) | (with_reducible first | refine wp_skip ?_ | refine l_nil ?_) | ((with_reducible refine g_on ?_); (first | ((with_reducible refine g_mv ?_); refine l_p txs rfl rfl ?_) | ((with_reducible refine g_as ?_); refine l_p txs rfl rfl ?_) | ((with_reducible refine g_pk ?_); refine l_p txs rfl rfl ?_) | ((with_reducible refine g_un ?_); (refine l_p txs rfl rfl ?_)) | ((with_reducible refine g_bi ?_); (refine l_a txs rfl rfl (by first | exact in_i64 (by omega) (by omega) | exact in_u8 (by omega) (by omega) | exact in_u64 (by omega) (by omega) | exact in_i32 (by omega) (by omega)) ?_)))) | ((with_reducible refine g_if ?_); (refine l_off rfl ?_)))
      exact ⟨i + 1, _, rfl, ⟨rfl, rfl, trivial⟩, ⟨H, by omega, take_all (p := fun c => digB c || decide (c = 46)) hx (by simp [q3]) ha⟩, by omega⟩
  · have hall : q.take i = q := List.take_of_length_le (by omega)
    rw [hall] at ha
    have hn : tailedB (bl t) = true := by rw [hV, ha]
    repeat' (first | (with_reducible first | refine p_tn ?_ | refine p_tx ?_ | refine x_hit ?_ | refine wp_seq ?_ | refine w_reg ?_) | (with_reducible (refine is_if ?_; (refine w_iff rfl ?_))) | (with_reducible first | refine wp_exit ?_ | refine wp_ret ?_ | refine l_nil ?_) | ((with_reducible refine g_on ?_); ((with_reducible refine g_as ?_); refine l_p txs rfl rfl ?_)))
    refine end1 rfl rfl ?_
    exact ⟨by rw [hn], H.B⟩
end Go.Proofs.YtnimaenhijlcmaaGreatDoor.K.Ref
end
section
namespace Go.Proofs.YtnimaenhijlcmaaGreatDoor.K.Ref
open Go.RowKit Go.Proofs.YtnimaenhijlcmaaGreatDoor.Q Go.Proofs.YtnimaenhijlcmaaGreatDoor.K Go.Proofs.YtnimaenhijlcmaaGreatDoor.Mb Go.Proofs.YtnimaenhijlcmaaGreatDoorW.PrintWords
set_option linter.unusedVariables false
set_option linter.unusedSimpArgs false
theorem ext_tail {y : L} (hb : Bytes y) (h : 1 ≤ y.length) : (strOfNums y).extract (1 : Int).toNat ((strOfNums y).size : Int).toNat = strOfNums y.tail := by
  refine bl_inj ?_
  have hz := sizeS' hb
  rw [blE, blS hb, blS (fun z hz => hb z (List.mem_of_mem_tail hz)), Int.toNat_natCast, hz]
  show (y.drop 1).take (y.length - 1) = y.tail
  rw [List.take_of_length_le (by rw [List.length_drop]; omega), List.drop_one]
set_option maxRecDepth 100000 in
set_option maxHeartbeats 8000000 in
theorem hosted_c (t : ByteArray) (w : World) (ht : t.size ≤ 1000000) : Calls Tryz.prog 113 #[.string t] w fun e w' => e = .returned (.string (strOfNums (hostedS (bl t)))) ∧ Below w.heap.size w w' := by
  have hlen := bl_length t
  have hbt := bl_bytes t
  refine enter (args := [.string t]) Tryz.func113 rfl Tryz.ntmps113 rfl ?_
  have H := Hp.nil w
  have z9 : (⟨#[45, 117, 110, 115, 116, 97, 98, 108, 101]⟩ : ByteArray).size = 9 := rfl
  have hen := fun w1 => ends_c t ⟨#[45, 117, 110, 115, 116, 97, 98, 108, 101]⟩ w1 (by omega) (by omega)
  rw [show bl (⟨#[45, 117, 110, 115, 116, 97, 98, 108, 101]⟩ : ByteArray) = unstable from rfl] at hen
  have hV : hostedS (bl t) = if (splitC 46 ((endCut (bl t) unstable).getD (bl t))).length < 2 ∨ ((splitC 46 ((endCut (bl t) unstable).getD (bl t))).getLastD []).length < 2 ∨ ((splitC 46 ((endCut (bl t) unstable).getD (bl t))).getLastD []).head? ≠ some 118 ∨ numB ((splitC 46 ((endCut (bl t) unstable).getD (bl t))).getLastD []).tail = false then [] else ((splitC 46 ((endCut (bl t) unstable).getD (bl t))).getLastD []).tail := rfl
  obtain ⟨hs1, hs2⟩ := endCut_sub (r := bl t) (e := unstable)
  obtain ⟨s, hs⟩ : ∃ b, b = (endCut (bl t) unstable).getD (bl t) := ⟨_, rfl⟩
  rw [← hs] at hs1 hs2 hV
  have bs : Bytes s := fun y hy => hbt y (hs1 y hy)
  have zs := sizeS' bs
  repeat' (first | (first | (with_reducible refine p_tn ?_) | (with_reducible refine p_tx ?_) | (with_reducible refine p_tr ?_) | (with_reducible refine p_bn ?_) | (with_reducible refine p_br ?_) | (with_reducible refine x_hit ?_) | (with_reducible refine x_miss rfl ?_) | (with_reducible refine wp_seq ?_) | (with_reducible refine wp_block ?_) | (with_reducible refine w_reg ?_) | (with_reducible (refine is_if ?_; first | refine w_ift rfl ?_ | refine w_iff rfl ?_)) | ((with_reducible refine is_if ?_); first | refine w_ift rfl ?_ | refine w_iff rfl ?_) | (with_reducible refine wp_skip ?_) | (with_reducible refine wp_exit ?_) | (with_reducible refine wp_ret ?_)) | (with_reducible refine p_sn ?_) | (with_reducible refine p_sr ?_) | (with_reducible refine p_sx ?_) | (with_reducible refine wp_scope_straight ?_) | (with_reducible refine wp_label ?_))
  repeat' (first | (with_reducible refine l_nil ?_) | ((with_reducible refine g_on ?_); ((with_reducible refine g_as ?_); refine l_p txs rfl rfl ?_)))
  with_reducible refine p_tn ?_
  refine w_cut (σ := Unit) (S := fun _ => [(0, .string (strOfNums s))]) (J := fun _ w' => Hp w w' [] []) ?_ ?_
  · repeat' (first | (with_reducible first | refine wp_seq ?_ | refine w_reg ?_) | ((with_reducible refine g_on ?_); ((with_reducible refine g_mv ?_); refine l_p txs rfl rfl ?_)))
    (with_reducible refine is_l ?_); refine l_callp rfl rfl (by kernel_rfl) (hen _) ?_
    cases he : endCut (bl t) unstable with
    | none =>
      rw [he] at hs
      have hs : s = bl t := hs
      rw [show (none : Option L).isSome = false from rfl]
      repeat' (first | (with_reducible refine p_tn ?_) | (with_reducible (refine is_if ?_; (refine w_iff rfl ?_))) | (with_reducible first | refine wp_skip ?_ | refine l_nil ?_))
      exact ⟨(), _, rfl, ⟨by show Value.string t = _; rw [hs, strS], trivial⟩, H⟩
    | some b =>
      rw [he] at hs
      have hs : s = b := hs
      subst hs
      have hrb := endCut_some he
      have hrl2 : t.size = s.length + 9 := by rw [← hlen, hrb, List.length_append]; rfl
      rw [show (some s).isSome = true from rfl]
      repeat' (first | (with_reducible first | refine p_tn ?_ | refine w_reg ?_) | (with_reducible (refine is_if ?_; (refine w_ift rfl ?_))) | (with_reducible refine l_nil ?_) | ((with_reducible refine g_on ?_); (first | ((with_reducible refine g_mv ?_); refine l_p txs rfl rfl ?_) | ((with_reducible refine g_as ?_); refine l_p txs rfl rfl ?_) | ((with_reducible refine g_cl ?_); refine l_p txs rfl rfl ?_) | ((with_reducible refine g_sl ?_); refine l_sl txs rfl rfl (by first | omega | assumption | decide) (by first | omega | assumption | decide) (by first | omega | assumption | decide) ?_) | ((with_reducible refine g_bi ?_); (refine l_a txs rfl rfl (by first | exact in_i64 (by omega) (by omega) | exact in_u8 (by omega) (by omega) | exact in_u64 (by omega) (by omega) | exact in_i32 (by omega) (by omega)) ?_)))))
      refine ⟨(), _, rfl, ⟨?_, trivial⟩, H⟩
      show Value.string (t.extract (0 : Int).toNat ((t.size : Int) - 9).toNat) = .string (strOfNums s)
      congr 1
      refine bl_inj ?_
      rw [blE, blS bs, hrb]
      show (List.drop 0 (s ++ unstable)).take (((t.size : Int) - 9).toNat - 0) = s
      rw [List.drop_zero, show ((t.size : Int) - 9).toNat - 0 = s.length by omega, List.take_left]
  clear H
  rintro ⟨⟩ f w_ H
  have hpi := fun w1 => pieces_c (strOfNums s) 46 w1 (by omega)
  rw [blS bs] at hpi
  have hsm := split_mem 46 s
  have hsl := split_len 46 s
  have hne := splitC_ne (c := 46) s
  repeat' (first | (with_reducible first | refine wp_seq ?_ | refine w_reg ?_) | ((with_reducible refine g_on ?_); ((with_reducible refine g_mv ?_); refine l_p txs rfl rfl ?_)))
  (with_reducible refine is_l ?_); refine l_call rfl rfl (by kernel_rfl) (hpi _) (fun e w_ hR => ?_)
  generalize splitC 46 s = N at hR hV hsm hsl hne
  obtain ⟨A1, c1, rfl, K⟩ := hR
  refine ⟨_, rfl, ?_⟩
  obtain ⟨ad, rfl⟩ := row_some K 0 rfl hne
  have H := H.join K
  have hcell := rdT_cell (rowT_at K 0 rfl) (last_get hne)
  have hNp := List.length_pos_iff.2 hne
  have by' : Bytes (N.getLastD []) := fun z hz => bs z ((hsm _ (last_mem hne)).1 z hz)
  have hyl := (hsm _ (last_mem hne)).2
  generalize N.getLastD [] = y at hV hcell by' hyl
  have zy := sizeS' by'
  repeat' (first | (with_reducible first | refine p_tn ?_ | refine wp_seq ?_ | refine w_reg ?_ | refine l_nil ?_) | ((with_reducible refine g_on ?_); (first | ((with_reducible refine g_mv ?_); refine l_p txs rfl rfl ?_) | ((with_reducible refine g_as ?_); refine l_p txs rfl rfl ?_) | ((with_reducible refine g_cl ?_); refine l_p txs rfl rfl ?_) | ((with_reducible refine g_ia ?_); refine l_ia txs rfl rfl (by first | omega | assumption | decide) (by first | omega | assumption | decide) ?_) | ((with_reducible refine g_bi ?_); (refine l_a txs rfl rfl (by first | exact in_i64 (by omega) (by omega) | exact in_u8 (by omega) (by omega) | exact in_u64 (by omega) (by omega) | exact in_i32 (by omega) (by omega)) ?_)))))
  (with_reducible refine is_l ?_); refine l_ld txs rfl rfl (by rw [show ((N.length : Int) - 1).toNat = N.length - 1 by omega]; exact hcell) ?_
  repeat' (first | (with_reducible first | refine p_tn ?_ | refine wp_seq ?_ | refine w_reg ?_ | refine l_nil ?_) | ((with_reducible refine g_on ?_); (first | ((with_reducible refine g_mv ?_); refine l_p txs rfl rfl ?_) | ((with_reducible refine g_as ?_); refine l_p txs rfl rfl ?_) | ((with_reducible refine g_cl ?_); refine l_p txs rfl rfl ?_))))
  (with_reducible refine is_l ?_); refine l_t txs rfl rfl (fun q1 => ?_) (fun q1 => ?_)
  · have hn : hostedS (bl t) = [] := by rw [hV, if_pos (.inl (by omega))]
    repeat' (first | (with_reducible first | refine p_tn ?_ | refine p_tr ?_ | refine wp_seq ?_ | refine w_reg ?_) | (with_reducible (refine is_if ?_; (refine w_ift rfl ?_))) | (with_reducible first | refine wp_ret ?_ | refine l_nil ?_) | ((with_reducible refine g_on ?_); (first | ((with_reducible refine g_mv ?_); refine l_p txs rfl rfl ?_) | ((with_reducible refine g_as ?_); refine l_p txs rfl rfl ?_) | ((with_reducible refine g_pk ?_); refine l_p txs rfl rfl ?_))) | ((with_reducible refine g_if ?_); (refine l_off rfl ?_)))
    refine end1 rfl rfl ?_
    exact ⟨by rw [hn]; rfl, H.B⟩
  repeat' (first | ((with_reducible refine g_on ?_); ((with_reducible refine g_mv ?_); refine l_p txs rfl rfl ?_)) | ((with_reducible refine g_if ?_); (first | ((with_reducible refine g_mv ?_); refine l_p txs rfl rfl ?_) | ((with_reducible refine g_cl ?_); refine l_p txs rfl rfl ?_))))
  (with_reducible refine is_l ?_); refine l_t txs rfl rfl (fun q2 => ?_) (fun q2 => ?_)
  · have hn : hostedS (bl t) = [] := by rw [hV, if_pos (.inr (.inl (by omega)))]
    repeat' (first | (with_reducible first | refine p_tn ?_ | refine p_tr ?_ | refine wp_seq ?_ | refine w_reg ?_) | (with_reducible (refine is_if ?_; (refine w_ift rfl ?_))) | (with_reducible first | refine wp_ret ?_ | refine l_nil ?_) | ((with_reducible refine g_on ?_); (first | ((with_reducible refine g_mv ?_); refine l_p txs rfl rfl ?_) | ((with_reducible refine g_as ?_); refine l_p txs rfl rfl ?_) | ((with_reducible refine g_pk ?_); refine l_p txs rfl rfl ?_))) | ((with_reducible refine g_if ?_); (refine l_off rfl ?_)))
    refine end1 rfl rfl ?_
    exact ⟨by rw [hn]; rfl, H.B⟩
  have hy0 : y ≠ [] := fun e => by
    have h0 : y.length = 0 := by rw [e]; rfl
    omega
  have hhd := head_at hy0
  repeat' (first | ((with_reducible refine g_on ?_); (first | ((with_reducible refine g_mv ?_); refine l_p txs rfl rfl ?_) | ((with_reducible refine g_pk ?_); refine l_p txs rfl rfl ?_))) | ((with_reducible refine g_if ?_); (first | ((with_reducible refine g_mv ?_); refine l_p txs rfl rfl ?_) | ((with_reducible refine g_ix ?_); refine l_ix txs rfl rfl (by first | omega | assumption | decide) (by first | omega | assumption | decide) ?_))))
  rw [blS by']
  skip
  (with_reducible refine is_l ?_); refine l_t txs rfl rfl (fun q3 => ?_) (fun q3 => ?_)
  · have hn : hostedS (bl t) = [] := by rw [hV, if_pos (.inr (.inr (.inl (by rw [hhd]; exact fun e => q3 (Option.some.inj e)))))]
    repeat' (first | (with_reducible first | refine p_tn ?_ | refine p_tr ?_ | refine wp_seq ?_ | refine w_reg ?_) | (with_reducible (refine is_if ?_; (refine w_ift rfl ?_))) | (with_reducible first | refine wp_ret ?_ | refine l_nil ?_) | ((with_reducible refine g_on ?_); (first | ((with_reducible refine g_mv ?_); refine l_p txs rfl rfl ?_) | ((with_reducible refine g_as ?_); refine l_p txs rfl rfl ?_) | ((with_reducible refine g_pk ?_); refine l_p txs rfl rfl ?_))) | ((with_reducible refine g_if ?_); (refine l_off rfl ?_)))
    refine end1 rfl rfl ?_
    exact ⟨by rw [hn]; rfl, H.B⟩
  have bt : Bytes y.tail := fun z hz => by' z (List.mem_of_mem_tail hz)
  have hnu := fun w1 => number_c (strOfNums y.tail) w1 (by rw [sizeS' bt, List.length_tail]; omega)
  rw [blS bt] at hnu
  repeat' (first | ((with_reducible refine g_on ?_); (first | ((with_reducible refine g_mv ?_); refine l_p txs rfl rfl ?_) | ((with_reducible refine g_pk ?_); refine l_p txs rfl rfl ?_))) | ((with_reducible refine g_if ?_); (first | ((with_reducible refine g_mv ?_); refine l_p txs rfl rfl ?_) | ((with_reducible refine g_sl ?_); refine l_sl txs rfl rfl (by first | omega | assumption | decide) (by first | omega | assumption | decide) (by first | omega | assumption | decide) ?_))))
  rw [ext_tail by' (by omega)]
  (with_reducible refine is_l ?_); refine l_callp rfl rfl (by kernel_rfl) (hnu _) ?_
  cases q4 : numB y.tail
  · have hn : hostedS (bl t) = [] := by rw [hV, if_pos (.inr (.inr (.inr q4)))]
    repeat' (first | (with_reducible first | refine p_tn ?_ | refine p_tr ?_ | refine wp_seq ?_ | refine w_reg ?_) | (with_reducible (refine is_if ?_; (refine w_ift rfl ?_))) | (with_reducible first | refine wp_ret ?_ | refine l_nil ?_) | ((with_reducible refine g_on ?_); (first | ((with_reducible refine g_as ?_); refine l_p txs rfl rfl ?_) | ((with_reducible refine g_pk ?_); refine l_p txs rfl rfl ?_))) | ((with_reducible refine g_if ?_); ((with_reducible refine g_un ?_); (refine l_p txs rfl rfl ?_))))
    refine end1 rfl rfl ?_
    exact ⟨by rw [hn]; rfl, H.B⟩
  · have hn : hostedS (bl t) = y.tail := by
      rw [hV, if_neg]
      rintro (h | h | h | h)
      · omega
      · omega
      · rw [hhd, Classical.not_not.1 q3] at h
        exact h rfl
      · rw [q4] at h
        cases h
    repeat' (first | (with_reducible first | refine p_tn ?_ | refine wp_seq ?_ | refine w_reg ?_) | (with_reducible (refine is_if ?_; (refine w_iff rfl ?_))) | (with_reducible first | refine wp_skip ?_ | refine wp_ret ?_ | refine l_nil ?_) | ((with_reducible refine g_on ?_); (first | ((with_reducible refine g_mv ?_); refine l_p txs rfl rfl ?_) | ((with_reducible refine g_as ?_); refine l_p txs rfl rfl ?_) | ((with_reducible refine g_pk ?_); refine l_p txs rfl rfl ?_) | ((with_reducible refine g_sl ?_); refine l_sl txs rfl rfl (by first | omega | assumption | decide) (by first | omega | assumption | decide) (by first | omega | assumption | decide) ?_))) | ((with_reducible refine g_if ?_); ((with_reducible refine g_un ?_); (refine l_p txs rfl rfl ?_))))
    rw [ext_tail by' (by omega)]
    skip
    refine end1 rfl rfl ?_
    exact ⟨by rw [hn], H.B⟩
theorem relem_ne {x : L} (h : relemB x = true) : x ≠ [] := by
  intro e
  rw [e] at h
  cases h
set_option maxRecDepth 100000 in
set_option maxHeartbeats 16000000 in
theorem Major_c {w : World} {t2 : TypeId} {fr : Nat × Nat} (hD : w.heap[3]? = some (.cells deC t2 fr)) (t : ByteArray) :
    Calls Tryz.prog 69 #[.string t] w fun e w' => e = .returned (.tuple #[.string (strOfNums (refMajor (bl t)).1), .bool (refMajor (bl t)).2]) ∧ Below w.heap.size w w' := by
  have hDb : ∀ w1, Below w.heap.size w w1 → w1.heap[3]? = some (.cells deC t2 fr) := fun w1 K => (K.block _ (blk_lt hD)).trans hD
  have hlen := bl_length t
  have hbt := bl_bytes t
  refine enter (args := [.string t]) Tryz.func69 rfl Tryz.ntmps69 rfl ?_
  have H := Hp.nil w
  have hV : refMajor (bl t) = if 255 < (bl t).length then ([], false) else if (splitC 47 (bl t)).all relemB = false then ([], false) else if hostB ((splitC 47 (bl t)).headD []) = false then ([], false)
    else if (splitC 47 (bl t)).headD [] = gopkg then (hostedS ((splitC 47 (bl t)).getLastD []), decide (hostedS ((splitC 47 (bl t)).getLastD []) ≠ []) && decide (1 < (splitC 47 (bl t)).length))
    else if (decide (1 < (splitC 47 (bl t)).length) && tailedB ((splitC 47 (bl t)).getLastD [])) = true then (((splitC 47 (bl t)).getLastD []).tail, numB ((splitC 47 (bl t)).getLastD []).tail && decide (((splitC 47 (bl t)).getLastD []).tail ≠ [48]) && decide (((splitC 47 (bl t)).getLastD []).tail ≠ [49]))
    else ([], true) := rfl
  repeat' (first | (with_reducible first | refine p_tn ?_ | refine wp_seq ?_ | refine w_reg ?_ | refine l_nil ?_) | ((with_reducible refine g_on ?_); (first | ((with_reducible refine g_mv ?_); refine l_p txs rfl rfl ?_) | ((with_reducible refine g_as ?_); refine l_p txs rfl rfl ?_) | ((with_reducible refine g_cl ?_); refine l_p txs rfl rfl ?_))))
  (with_reducible refine is_l ?_); refine l_t txs rfl rfl (fun q1 => ?_) (fun q1 => ?_)
  · have hn : refMajor (bl t) = ([], false) := by rw [hV, if_pos (by omega)]
    repeat' (first | (with_reducible first | refine p_tn ?_ | refine p_tr ?_ | refine wp_seq ?_ | refine w_reg ?_) | (with_reducible (refine is_if ?_; (refine w_ift rfl ?_))) | (with_reducible first | refine wp_ret ?_ | refine l_nil ?_) | ((with_reducible refine g_on ?_); ((with_reducible refine g_as ?_); refine l_p txs rfl rfl ?_)))
    refine end2 rfl rfl rfl ?_
    exact ⟨by rw [hn]; first | done | rfl, H.B⟩
  rw [if_neg (by omega)] at hV
  have hpi := fun w1 => pieces_c t 47 w1 (by omega)
  have hsm := split_mem 47 (bl t)
  have hsl := split_len 47 (bl t)
  have hne := splitC_ne (c := 47) (bl t)
  repeat' (first | (with_reducible first | refine p_tn ?_ | refine wp_seq ?_ | refine w_reg ?_) | (with_reducible (refine is_if ?_; (refine w_iff rfl ?_))) | (with_reducible first | refine wp_skip ?_ | refine l_nil ?_) | ((with_reducible refine g_on ?_); ((with_reducible refine g_mv ?_); refine l_p txs rfl rfl ?_)))
  (with_reducible refine is_l ?_); refine l_call rfl rfl (by kernel_rfl) (hpi _) (fun e w_ hR => ?_)
  generalize splitC 47 (bl t) = N at hR hV hsm hsl hne
  obtain ⟨A1, c1, rfl, KK⟩ := hR
  refine ⟨_, rfl, ?_⟩
  obtain ⟨ad, rfl⟩ := row_some KK 0 rfl hne
  have hRd := rowT_at KK 0 rfl
  have H := H.join KK
  have hNp := List.length_pos_iff.2 hne
  repeat' (first | (with_reducible first | refine p_tn ?_ | refine wp_seq ?_ | refine wp_block ?_ | refine w_reg ?_ | refine l_nil ?_) | ((with_reducible refine g_on ?_); ((with_reducible refine g_as ?_); refine l_p txs rfl rfl ?_)))
  refine w_loop (σ := Nat) (S := fun s => [(4, .slice (some ad) N.length c1), (5, .int .i64 (s : Int))]) (J := fun s w' => Hp w w' [] [rowT (.slice (some ad) N.length c1) N] ∧ s ≤ N.length ∧ (N.take s).all relemB = true) (μ := fun s => N.length - s) 0 ⟨rfl, rfl, trivial⟩ ⟨H, by omega, by simp⟩ ?_
  clear H hRd
  rintro i f w_ ⟨H, hi, ha⟩
  have hRd := rowT_at H 0 rfl
  repeat' (first | (with_reducible first | refine wp_seq ?_ | refine w_reg ?_) | ((with_reducible refine g_on ?_); (first | ((with_reducible refine g_mv ?_); refine l_p txs rfl rfl ?_) | ((with_reducible refine g_cl ?_); refine l_p txs rfl rfl ?_))))
  (with_reducible refine is_l ?_); refine l_t txs rfl rfl (fun hlt => ?_) (fun hge => ?_)
  · obtain ⟨y, hy⟩ : ∃ y, N[i]? = some y := ⟨_, List.getElem?_eq_getElem (by omega)⟩
    obtain ⟨m1, m2⟩ := hsm y (List.mem_of_getElem? hy)
    have by' : Bytes y := fun z hz => hbt z (m1 z hz)
    have zy := sizeS' by'
    have hcell := rdT_cell hRd hy
    repeat' (first | (with_reducible first | refine p_tn ?_ | refine wp_seq ?_ | refine wp_block ?_ | refine w_reg ?_) | (with_reducible (refine is_if ?_; (refine w_ift rfl ?_))) | (with_reducible first | refine wp_skip ?_ | refine l_nil ?_) | ((with_reducible refine g_on ?_); (first | ((with_reducible refine g_mv ?_); refine l_p txs rfl rfl ?_) | ((with_reducible refine g_ia ?_); refine l_ia txs rfl rfl (by first | omega | assumption | decide) (by first | omega | assumption | decide) ?_))))
    (with_reducible refine is_l ?_); refine l_ld txs rfl rfl (by rw [Int.toNat_natCast]; exact hcell) ?_
    have hw := element_c (hDb _ H.B) (strOfNums y) (by omega)
    rw [blS by'] at hw
    (with_reducible refine is_l ?_); refine l_callv rfl rfl (by kernel_rfl) hw (fun w_ K => ?_)
    have H := H.call K
    cases hwb : relemB y
    · have hn : refMajor (bl t) = ([], false) := by
        rw [hV, if_pos]
        rw [List.all_eq_false]
        exact ⟨y, List.mem_of_getElem? hy, by rw [hwb]; simp⟩
      repeat' (first | (with_reducible first | refine p_tn ?_ | refine p_tr ?_ | refine p_br ?_ | refine wp_seq ?_ | refine w_reg ?_) | (with_reducible (refine is_if ?_; (refine w_ift rfl ?_))) | (with_reducible first | refine wp_ret ?_ | refine l_nil ?_) | ((with_reducible refine g_on ?_); (first | ((with_reducible refine g_as ?_); refine l_p txs rfl rfl ?_) | ((with_reducible refine g_un ?_); (refine l_p txs rfl rfl ?_)))))
      refine end2 rfl rfl rfl ?_
      exact ⟨by rw [hn]; first | done | rfl, H.B⟩
    · repeat' (first | (with_reducible first | refine p_tn ?_ | refine p_bn ?_ | refine w_reg ?_) | (with_reducible (refine is_if ?_; (refine w_iff rfl ?_))) | (with_reducible first | refine wp_skip ?_ | refine l_nil ?_) | ((with_reducible refine g_on ?_); (first | ((with_reducible refine g_mv ?_); refine l_p txs rfl rfl ?_) | ((with_reducible refine g_as ?_); refine l_p txs rfl rfl ?_) | ((with_reducible refine g_un ?_); (refine l_p txs rfl rfl ?_)) | ((with_reducible refine g_bi ?_); (refine l_a txs rfl rfl (by first | exact in_i64 (by omega) (by omega) | exact in_u8 (by omega) (by omega) | exact in_u64 (by omega) (by omega) | exact in_i32 (by omega) (by omega)) ?_)))))
      refine ⟨i + 1, _, rfl, ⟨rfl, rfl, trivial⟩, ⟨H, by omega, ?_⟩, by omega⟩
      rw [List.take_succ_eq_append_getElem (by omega), List.all_append, ha, (List.getElem?_eq_some_iff.1 hy).2]
      simp [hwb]
  have hall : N.all relemB = true := by rw [← List.take_of_length_le (l := N) (i := i) (by omega)]; exact ha
  rw [if_neg (by rw [hall]; simp)] at hV
  obtain ⟨x, r, hxr⟩ : ∃ x r, N = x :: r := by
    cases N with
    | nil => exact absurd rfl hne
    | cons x r => exact ⟨x, r, rfl⟩
  have hx0 : N[0]? = some x := by rw [hxr]; rfl
  have hhx : N.headD [] = x := by rw [hxr]; rfl
  rw [hhx] at hV
  obtain ⟨m1, m2⟩ := hsm x (List.mem_of_getElem? hx0)
  have bx : Bytes x := fun z hz => hbt z (m1 z hz)
  have zx := sizeS' bx
  have xne := relem_ne (List.all_eq_true.1 hall x (List.mem_of_getElem? hx0))
  obtain ⟨l1, l2⟩ := hsm _ (last_mem hne)
  have hlc := rdT_cell hRd (last_get hne)
  have yne := relem_ne (List.all_eq_true.1 hall _ (last_mem hne))
  generalize N.getLastD [] = y at hV l1 l2 hlc yne
  have by' : Bytes y := fun z hz => hbt z (l1 z hz)
  have zy := sizeS' by'
  have yl := List.length_pos_iff.2 yne
  repeat' (first | (with_reducible first | refine p_tn ?_ | refine p_tx ?_ | refine x_hit ?_ | refine wp_seq ?_ | refine w_reg ?_) | (with_reducible (refine is_if ?_; (refine w_iff rfl ?_))) | (with_reducible first | refine wp_exit ?_ | refine l_nil ?_) | ((with_reducible refine g_on ?_); (first | ((with_reducible refine g_mv ?_); refine l_p txs rfl rfl ?_) | ((with_reducible refine g_ia ?_); refine l_ia txs rfl rfl (by first | omega | assumption | decide) (by first | omega | assumption | decide) ?_))))
  (with_reducible refine is_l ?_); refine l_ld txs rfl rfl (rdT_cell hRd hx0) ?_
  have hfi := fun w1 => first_c (strOfNums x) w1 (by omega) (by rw [blS bx]; exact xne)
  rw [blS bx] at hfi
  (with_reducible refine is_l ?_); refine l_callv rfl rfl (by kernel_rfl) (hfi _) (fun w_ K => ?_)
  have hRd := hRd.below K
  have hlc := pw_cell_below K hlc
  have H := H.call K
  cases hfb : hostB x
  · have hn : refMajor (bl t) = ([], false) := by rw [hV, if_pos hfb]
    repeat' (first | (with_reducible first | refine p_tn ?_ | refine p_tr ?_ | refine wp_seq ?_ | refine w_reg ?_) | (with_reducible (refine is_if ?_; (refine w_ift rfl ?_))) | (with_reducible first | refine wp_ret ?_ | refine l_nil ?_) | ((with_reducible refine g_on ?_); (first | ((with_reducible refine g_as ?_); refine l_p txs rfl rfl ?_) | ((with_reducible refine g_un ?_); (refine l_p txs rfl rfl ?_)))))
    refine end2 rfl rfl rfl ?_
    exact ⟨by rw [hn]; first | done | rfl, H.B⟩
  rw [if_neg (by rw [hfb]; simp)] at hV
  repeat' (first | (with_reducible first | refine p_tn ?_ | refine wp_seq ?_ | refine w_reg ?_) | (with_reducible (refine is_if ?_; (refine w_iff rfl ?_))) | (with_reducible first | refine wp_skip ?_ | refine l_nil ?_) | ((with_reducible refine g_on ?_); (first | ((with_reducible refine g_mv ?_); refine l_p txs rfl rfl ?_) | ((with_reducible refine g_un ?_); (refine l_p txs rfl rfl ?_)) | ((with_reducible refine g_cl ?_); refine l_p txs rfl rfl ?_) | ((with_reducible refine g_ia ?_); refine l_ia txs rfl rfl (by first | omega | assumption | decide) (by first | omega | assumption | decide) ?_) | ((with_reducible refine g_bi ?_); (refine l_a txs rfl rfl (by first | exact in_i64 (by omega) (by omega) | exact in_u8 (by omega) (by omega) | exact in_u64 (by omega) (by omega) | exact in_i32 (by omega) (by omega)) ?_)))))
  (with_reducible refine is_l ?_); refine l_ld txs rfl rfl (by rw [show ((N.length : Int) - 1).toNat = N.length - 1 by omega]; exact hlc) ?_
  repeat' (first | (with_reducible first | refine p_tn ?_ | refine wp_seq ?_ | refine w_reg ?_ | refine l_nil ?_) | ((with_reducible refine g_on ?_); (first | ((with_reducible refine g_mv ?_); refine l_p txs rfl rfl ?_) | ((with_reducible refine g_as ?_); refine l_p txs rfl rfl ?_) | ((with_reducible refine g_ia ?_); refine l_ia txs rfl rfl (by first | omega | assumption | decide) (by first | omega | assumption | decide) ?_))))
  (with_reducible refine is_l ?_); refine l_ld txs rfl rfl (rdT_cell hRd hx0) ?_
  skip
  (with_reducible refine is_l ?_); refine l_t txs rfl rfl (fun q2 => ?_) (fun q2 => ?_)
  · rw [blS bx, show bl (⟨#[103, 111, 112, 107, 103, 46, 105, 110]⟩ : ByteArray) = gopkg from rfl] at q2
    rw [if_pos q2] at hV
    have hho := fun w1 => hosted_c (strOfNums y) w1 (by omega)
    rw [blS by'] at hho
    have bh : Bytes (hostedS y) := fun z hz => by'  z (by
      unfold hostedS at hz
      split at hz
      · cases hz
      · have h1 := List.mem_of_mem_tail hz
        exact (endCut_sub (r := y) (e := unstable)).1 z ((split_mem 46 ((endCut y unstable).getD y) _ (last_mem (splitC_ne _))).1 z h1))
    generalize hostedS y = m at hV hho bh
    repeat' (first | (with_reducible first | refine p_tn ?_ | refine wp_seq ?_ | refine w_reg ?_) | (with_reducible (refine is_if ?_; (refine w_ift rfl ?_))) | (with_reducible refine l_nil ?_) | ((with_reducible refine g_on ?_); ((with_reducible refine g_mv ?_); refine l_p txs rfl rfl ?_)))
    (with_reducible refine is_l ?_); refine l_callv rfl rfl (by kernel_rfl) (hho _) (fun w_ K => ?_)
    have H := H.call K
    repeat' (first | (with_reducible first | refine p_tn ?_ | refine wp_seq ?_ | refine w_reg ?_ | refine l_nil ?_) | ((with_reducible refine g_on ?_); (first | ((with_reducible refine g_mv ?_); refine l_p txs rfl rfl ?_) | ((with_reducible refine g_as ?_); refine l_p txs rfl rfl ?_))))
    (with_reducible refine is_l ?_); refine l_t txs rfl rfl (fun q3 => ?_) (fun q3 => ?_)
    · rw [blS bh] at q3
      have q3 : m ≠ [] := q3
      repeat' (first | ((with_reducible refine g_on ?_); ((with_reducible refine g_mv ?_); refine l_p txs rfl rfl ?_)) | ((with_reducible refine g_if ?_); (first | ((with_reducible refine g_mv ?_); refine l_p txs rfl rfl ?_) | ((with_reducible refine g_cl ?_); refine l_p txs rfl rfl ?_))))
      (with_reducible refine is_l ?_); refine l_t txs rfl rfl (fun q4 => ?_) (fun q4 => ?_)
      · have hn : refMajor (bl t) = (m, true) := by rw [hV, decide_eq_true q3, decide_eq_true (by omega)]; rfl
        repeat' (first | (with_reducible first | refine p_tn ?_ | refine p_tr ?_ | refine wp_ret ?_ | refine l_nil ?_) | ((with_reducible refine g_on ?_); (first | ((with_reducible refine g_as ?_); refine l_p txs rfl rfl ?_) | ((with_reducible refine g_pk ?_); refine l_p txs rfl rfl ?_))))
        refine end2 rfl rfl rfl ?_
        exact ⟨by rw [hn]; first | done | rfl, H.B⟩
      · have hn : refMajor (bl t) = (m, false) := by rw [hV, decide_eq_true q3, decide_eq_false (by omega)]; rfl
        repeat' (first | (with_reducible first | refine p_tn ?_ | refine p_tr ?_ | refine wp_ret ?_ | refine l_nil ?_) | ((with_reducible refine g_on ?_); (first | ((with_reducible refine g_as ?_); refine l_p txs rfl rfl ?_) | ((with_reducible refine g_pk ?_); refine l_p txs rfl rfl ?_))))
        refine end2 rfl rfl rfl ?_
        exact ⟨by rw [hn]; first | done | rfl, H.B⟩
    · rw [blS bh] at q3
      have q3 : m = [] := Classical.not_not.1 q3
      have hn : refMajor (bl t) = (m, false) := by rw [hV, q3]; rfl
      repeat' (first | (with_reducible first | refine p_tn ?_ | refine p_tr ?_ | refine wp_ret ?_ | refine l_nil ?_) | ((with_reducible refine g_on ?_); (first | ((with_reducible refine g_mv ?_); refine l_p txs rfl rfl ?_) | ((with_reducible refine g_as ?_); refine l_p txs rfl rfl ?_) | ((with_reducible refine g_pk ?_); refine l_p txs rfl rfl ?_))) | ((with_reducible refine g_if ?_); (refine l_off rfl ?_)))
      refine end2 rfl rfl rfl ?_
      exact ⟨by rw [hn]; first | done | rfl, H.B⟩
  rw [blS bx, show bl (⟨#[103, 111, 112, 107, 103, 46, 105, 110]⟩ : ByteArray) = gopkg from rfl] at q2
  rw [if_neg q2] at hV
  repeat' (first | (with_reducible first | refine p_tn ?_ | refine wp_seq ?_ | refine w_reg ?_) | (with_reducible (refine is_if ?_; (refine w_iff rfl ?_))) | (with_reducible first | refine wp_skip ?_ | refine l_nil ?_) | ((with_reducible refine g_on ?_); (first | ((with_reducible refine g_mv ?_); refine l_p txs rfl rfl ?_) | ((with_reducible refine g_cl ?_); refine l_p txs rfl rfl ?_))))
  (with_reducible refine is_l ?_); refine l_t txs rfl rfl (fun q3 => ?_) (fun q3 => ?_)
  rotate_left
  · have hn : refMajor (bl t) = ([], true) := by rw [hV, decide_eq_false (by omega), if_neg (by simp)]
    repeat' (first | (with_reducible first | refine p_tn ?_ | refine wp_seq ?_ | refine w_reg ?_) | (with_reducible (refine is_if ?_; (refine w_iff rfl ?_))) | (with_reducible first | refine wp_skip ?_ | refine wp_ret ?_ | refine l_nil ?_) | ((with_reducible refine g_on ?_); (first | ((with_reducible refine g_mv ?_); refine l_p txs rfl rfl ?_) | ((with_reducible refine g_as ?_); refine l_p txs rfl rfl ?_) | ((with_reducible refine g_pk ?_); refine l_p txs rfl rfl ?_))) | ((with_reducible refine g_if ?_); (refine l_off rfl ?_)))
    refine end2 rfl rfl rfl ?_
    exact ⟨by rw [hn]; first | done | rfl, H.B⟩
  rw [decide_eq_true (show 1 < N.length by omega), Bool.true_and] at hV
  have hta := fun w1 => tailed_c (strOfNums y) w1 (by omega)
  rw [blS by'] at hta
  repeat' (first | ((with_reducible refine g_on ?_); ((with_reducible refine g_mv ?_); refine l_p txs rfl rfl ?_)) | ((with_reducible refine g_if ?_); ((with_reducible refine g_mv ?_); refine l_p txs rfl rfl ?_)))
  (with_reducible refine is_l ?_); refine l_callv rfl rfl (by kernel_rfl) (hta _) (fun w_ K => ?_)
  have H := H.call K
  cases q4 : tailedB y
  · have hn : refMajor (bl t) = ([], true) := by rw [hV, q4, if_neg (by simp)]
    repeat' (first | (with_reducible first | refine p_tn ?_ | refine wp_seq ?_ | refine w_reg ?_) | (with_reducible (refine is_if ?_; (refine w_iff rfl ?_))) | (with_reducible first | refine wp_skip ?_ | refine wp_ret ?_ | refine l_nil ?_) | ((with_reducible refine g_on ?_); (first | ((with_reducible refine g_as ?_); refine l_p txs rfl rfl ?_) | ((with_reducible refine g_pk ?_); refine l_p txs rfl rfl ?_))))
    refine end2 rfl rfl rfl ?_
    exact ⟨by rw [hn]; first | done | rfl, H.B⟩
  rw [if_pos q4] at hV
  have bt : Bytes y.tail := fun z hz => by' z (List.mem_of_mem_tail hz)
  have hnu := fun w1 => number_c (strOfNums y.tail) w1 (by rw [sizeS' bt, List.length_tail]; omega)
  rw [blS bt] at hnu
  repeat' (first | (with_reducible first | refine p_tn ?_ | refine wp_seq ?_ | refine w_reg ?_) | (with_reducible (refine is_if ?_; (refine w_ift rfl ?_))) | (with_reducible refine l_nil ?_) | ((with_reducible refine g_on ?_); (first | ((with_reducible refine g_mv ?_); refine l_p txs rfl rfl ?_) | ((with_reducible refine g_as ?_); refine l_p txs rfl rfl ?_) | ((with_reducible refine g_pk ?_); refine l_p txs rfl rfl ?_) | ((with_reducible refine g_sl ?_); refine l_sl txs rfl rfl (by first | omega | assumption | decide) (by first | omega | assumption | decide) (by first | omega | assumption | decide) ?_))))
  rw [ext_tail by' (by omega)]
  skip
  (with_reducible refine is_l ?_); refine l_callp rfl rfl (by kernel_rfl) (hnu _) ?_
  have e48 : bl (⟨#[48]⟩ : ByteArray) = [48] := rfl
  have e49 : bl (⟨#[49]⟩ : ByteArray) = [49] := rfl
  cases q5 : numB y.tail
  · have hn : refMajor (bl t) = (y.tail, false) := by rw [hV, q5]; rfl
    repeat' (first | (with_reducible first | refine p_tn ?_ | refine p_tr ?_ | refine wp_ret ?_ | refine l_nil ?_) | ((with_reducible refine g_on ?_); (first | ((with_reducible refine g_mv ?_); refine l_p txs rfl rfl ?_) | ((with_reducible refine g_as ?_); refine l_p txs rfl rfl ?_) | ((with_reducible refine g_pk ?_); refine l_p txs rfl rfl ?_))) | ((with_reducible refine g_if ?_); (refine l_off rfl ?_)))
    refine end2 rfl rfl rfl ?_
    exact ⟨by rw [hn]; first | done | rfl, H.B⟩
  repeat' (first | ((with_reducible refine g_on ?_); ((with_reducible refine g_mv ?_); refine l_p txs rfl rfl ?_)) | ((with_reducible refine g_if ?_); ((with_reducible refine g_mv ?_); refine l_p txs rfl rfl ?_)))
  (with_reducible refine is_l ?_); refine l_t txs rfl rfl (fun q6 => ?_) (fun q6 => ?_)
  rotate_left
  · rw [blS bt, e48] at q6
    have hn : refMajor (bl t) = (y.tail, false) := by rw [hV, Classical.not_not.1 q6]; simp
    repeat' (first | (with_reducible first | refine p_tn ?_ | refine p_tr ?_ | refine wp_ret ?_ | refine l_nil ?_) | ((with_reducible refine g_on ?_); (first | ((with_reducible refine g_mv ?_); refine l_p txs rfl rfl ?_) | ((with_reducible refine g_as ?_); refine l_p txs rfl rfl ?_) | ((with_reducible refine g_pk ?_); refine l_p txs rfl rfl ?_))) | ((with_reducible refine g_if ?_); (refine l_off rfl ?_)))
    refine end2 rfl rfl rfl ?_
    exact ⟨by rw [hn]; first | done | rfl, H.B⟩
  rw [blS bt, e48] at q6
  repeat' (first | ((with_reducible refine g_on ?_); (first | ((with_reducible refine g_mv ?_); refine l_p txs rfl rfl ?_) | ((with_reducible refine g_pk ?_); refine l_p txs rfl rfl ?_))) | ((with_reducible refine g_if ?_); ((with_reducible refine g_mv ?_); refine l_p txs rfl rfl ?_)))
  (with_reducible refine is_l ?_); refine l_t txs rfl rfl (fun q7 => ?_) (fun q7 => ?_)
  rotate_left
  · rw [blS bt, e49] at q7
    have hn : refMajor (bl t) = (y.tail, false) := by rw [hV, Classical.not_not.1 q7]; simp
    repeat' (first | (with_reducible first | refine p_tn ?_ | refine p_tr ?_ | refine wp_ret ?_ | refine l_nil ?_) | ((with_reducible refine g_on ?_); (first | ((with_reducible refine g_as ?_); refine l_p txs rfl rfl ?_) | ((with_reducible refine g_pk ?_); refine l_p txs rfl rfl ?_))))
    refine end2 rfl rfl rfl ?_
    exact ⟨by rw [hn]; first | done | rfl, H.B⟩
  rw [blS bt, e49] at q7
  have hn : refMajor (bl t) = (y.tail, true) := by rw [hV, q5, decide_eq_true q6, decide_eq_true q7]; rfl
  repeat' (first | (with_reducible first | refine p_tn ?_ | refine p_tr ?_ | refine wp_ret ?_ | refine l_nil ?_) | ((with_reducible refine g_on ?_); (first | ((with_reducible refine g_as ?_); refine l_p txs rfl rfl ?_) | ((with_reducible refine g_pk ?_); refine l_p txs rfl rfl ?_))))
  refine end2 rfl rfl rfl ?_
  exact ⟨by rw [hn]; first | done | rfl, H.B⟩
end Go.Proofs.YtnimaenhijlcmaaGreatDoor.K.Ref
end
section
namespace Go.Proofs.YtnimaenhijlcmaaGreatDoor.K.Ref
open Go.RowKit Go.Proofs.YtnimaenhijlcmaaGreatDoor.Q Go.Proofs.YtnimaenhijlcmaaGreatDoor.K Go.Proofs.YtnimaenhijlcmaaGreatDoor.Mb Go.Proofs.YtnimaenhijlcmaaGreatDoorW.PrintWords
set_option linter.unusedVariables false
set_option linter.unusedSimpArgs false
set_option maxRecDepth 100000 in
set_option maxHeartbeats 16000000 in
theorem Fits_c {w : World} {t2 : TypeId} {fr : Nat × Nat} (hD : w.heap[3]? = some (.cells deC t2 fr)) (t u : ByteArray) :
    Calls Tryz.prog 46 #[.string t, .string u] w fun e w' => e = .returned (.int .i64 (checkS (bl t) (bl u) : Int)) ∧ Below w.heap.size w w' := by
  refine enter (args := [.string t, .string u]) Tryz.func46 rfl Tryz.ntmps46 rfl ?_
  have H := Hp.nil w
  have hV : checkS (bl t) (bl u) = if pathS (bl t) = false then 110 else match parseV (bl u) with | none => 111 | some x => if fitsV x (bl t) then 0 else 111 := rfl
  have hma := fun (w1 : World) (h1 : w1.heap[3]? = some (.cells deC t2 fr)) => Major_c h1 t
  rw [refMajor_eq] at hma
  have bm : Bytes (majorS (bl t)).1 := fun y hy => bl_bytes t y (major_sub _ y hy)
  cases hp : pathS (bl t)
  · rw [hp] at hma
    have hn : checkS (bl t) (bl u) = 110 := by rw [hV, if_pos hp]
    repeat' (first | (with_reducible first | refine p_tn ?_ | refine wp_seq ?_ | refine w_reg ?_ | refine l_nil ?_) | ((with_reducible refine g_on ?_); (first | ((with_reducible refine g_mv ?_); refine l_p txs rfl rfl ?_) | ((with_reducible refine g_as ?_); refine l_p txs rfl rfl ?_))))
    (with_reducible refine is_l ?_); refine l_callv rfl rfl (by kernel_rfl) (hma _ hD) (fun w_ K => ?_)
    have H := H.call K
    repeat' (first | (with_reducible first | refine p_tn ?_ | refine p_tr ?_ | refine wp_seq ?_ | refine w_reg ?_) | (with_reducible (refine is_if ?_; (refine w_ift rfl ?_))) | (with_reducible first | refine wp_ret ?_ | refine l_nil ?_) | ((with_reducible refine g_on ?_); (first | ((with_reducible refine g_mv ?_); refine l_p txs rfl rfl ?_) | ((with_reducible refine g_as ?_); refine l_p txs rfl rfl ?_) | ((with_reducible refine g_ex ?_); refine l_p txs rfl rfl ?_) | ((with_reducible refine g_un ?_); (refine l_p txs rfl rfl ?_)))))
    refine end1 rfl rfl ?_
    exact ⟨by rw [hn]; first | done | rfl, H.B⟩
  · rw [hp, if_pos rfl] at hma
    rw [if_neg (by rw [hp]; simp)] at hV
    have hF : ∀ v : Ver, fitsV v (bl t) = if (majorS (bl t)).1 ≠ [] then !v.odd && decide (v.a = (majorS (bl t)).1) else v.odd || decide (v.a = [48]) || decide (v.a = [49]) := fun v => rfl
    generalize (majorS (bl t)).1 = m at hma hF bm
    repeat' (first | (with_reducible first | refine p_tn ?_ | refine wp_seq ?_ | refine w_reg ?_ | refine l_nil ?_) | ((with_reducible refine g_on ?_); (first | ((with_reducible refine g_mv ?_); refine l_p txs rfl rfl ?_) | ((with_reducible refine g_as ?_); refine l_p txs rfl rfl ?_))))
    (with_reducible refine is_l ?_); refine l_callv rfl rfl (by kernel_rfl) (hma _ hD) (fun w_ K => ?_)
    have H := H.call K
    repeat' (first | (with_reducible first | refine p_tn ?_ | refine wp_seq ?_ | refine w_reg ?_) | (with_reducible (refine is_if ?_; (refine w_iff rfl ?_))) | (with_reducible first | refine wp_skip ?_ | refine l_nil ?_) | ((with_reducible refine g_on ?_); (first | ((with_reducible refine g_mv ?_); refine l_p txs rfl rfl ?_) | ((with_reducible refine g_as ?_); refine l_p txs rfl rfl ?_) | ((with_reducible refine g_ex ?_); refine l_p txs rfl rfl ?_) | ((with_reducible refine g_un ?_); (refine l_p txs rfl rfl ?_)))))
    (with_reducible refine is_l ?_); refine l_call rfl rfl (by kernel_rfl) (Split_c u _) (fun e w_ hR => ?_)
    unfold PaR at hR
    cases hq : parseV (bl u) with
    | none =>
      rw [hq] at hR hV
      obtain ⟨x, y, z, A, n, c, bo, rfl, K⟩ := hR
      refine ⟨_, rfl, ?_⟩
      have H := H.call K
      have hn : checkS (bl t) (bl u) = 111 := hV
      repeat' (first | (with_reducible first | refine p_tn ?_ | refine p_tr ?_ | refine wp_seq ?_ | refine w_reg ?_) | (with_reducible (refine is_if ?_; (refine w_ift rfl ?_))) | (with_reducible first | refine wp_ret ?_ | refine l_nil ?_) | ((with_reducible refine g_on ?_); (first | ((with_reducible refine g_mv ?_); refine l_p txs rfl rfl ?_) | ((with_reducible refine g_as ?_); refine l_p txs rfl rfl ?_) | ((with_reducible refine g_ex ?_); refine l_p txs rfl rfl ?_) | ((with_reducible refine g_st ?_); (refine h_stR recs H 0 rfl rfl rfl rfl rfl rfl rfl rfl rfl (fun w_ H => ?_))) | ((with_reducible refine g_al ?_); refine h_alloc recs H rfl rfl (fun g_ w_ H => ?_)) | ((with_reducible refine g_un ?_); (refine l_p txs rfl rfl ?_)))))
      refine end1 rfl rfl ?_
      exact ⟨by rw [hn]; first | done | rfl, H.B⟩
    | some v =>
      rw [hq] at hR hV
      obtain ⟨A2, c2, rfl, K⟩ := hR
      refine ⟨_, rfl, ?_⟩
      have H := H.call K.B
      have hV : checkS (bl t) (bl u) = if fitsV v (bl t) = true then 0 else 111 := hV
      have hf := hF v
      have iv := ver_in hq
      have e48 : bl (⟨#[48]⟩ : ByteArray) = [48] := rfl
      have e49 : bl (⟨#[49]⟩ : ByteArray) = [49] := rfl
      repeat' (first | (with_reducible first | refine p_tn ?_ | refine wp_seq ?_ | refine w_reg ?_) | (with_reducible (refine is_if ?_; (refine w_iff rfl ?_))) | (with_reducible first | refine wp_skip ?_ | refine l_nil ?_) | ((with_reducible refine g_on ?_); (first | ((with_reducible refine g_mv ?_); refine l_p txs rfl rfl ?_) | ((with_reducible refine g_as ?_); refine l_p txs rfl rfl ?_) | ((with_reducible refine g_ex ?_); refine l_p txs rfl rfl ?_) | ((with_reducible refine g_st ?_); (refine h_stR recs H 0 rfl rfl rfl rfl rfl rfl rfl rfl rfl (fun w_ H => ?_))) | ((with_reducible refine g_al ?_); refine h_alloc recs H rfl rfl (fun g_ w_ H => ?_)) | ((with_reducible refine g_un ?_); (refine l_p txs rfl rfl ?_)))))
      (with_reducible refine is_l ?_); refine l_t txs rfl rfl (fun q1 => ?_) (fun q1 => ?_)
      · rw [blS bm] at q1
        have q1 : m ≠ [] := q1
        rw [if_pos q1] at hf
        rw [hf] at hV
        repeat' (first | (with_reducible first | refine p_tn ?_ | refine wp_seq ?_ | refine w_reg ?_) | (with_reducible (refine is_if ?_; (refine w_ift rfl ?_))) | (with_reducible refine l_nil ?_) | ((with_reducible refine g_on ?_); ((with_reducible refine g_fa ?_); refine h_fa flds rfl rfl ?_)))
        (with_reducible refine is_l ?_); refine l_iaa Tryz.underlying87 info_str1 rfl rfl rfl (by decide) (by decide) ?_
        repeat' ((with_reducible refine g_on ?_); (first | ((with_reducible refine g_mv ?_); refine l_p txs rfl rfl ?_) | ((with_reducible refine g_ld ?_); (refine h_ld txs H 0 rfl rfl rfl rfl ?_))))
        (with_reducible refine is_l ?_); refine l_t txs rfl rfl (fun q2 => ?_) (fun q2 => ?_)
        · rw [blS iv.a.1, blS bm] at q2
          have hn : checkS (bl t) (bl u) = 111 := by rw [hV, decide_eq_false q2]; simp
          repeat' (first | (with_reducible first | refine p_tn ?_ | refine p_tr ?_ | refine wp_seq ?_ | refine w_reg ?_) | (with_reducible (refine is_if ?_; (refine w_ift rfl ?_))) | (with_reducible first | refine wp_ret ?_ | refine l_nil ?_) | ((with_reducible refine g_on ?_); (first | ((with_reducible refine g_mv ?_); refine l_p txs rfl rfl ?_) | ((with_reducible refine g_as ?_); refine l_p txs rfl rfl ?_) | ((with_reducible refine g_pk ?_); refine l_p txs rfl rfl ?_))) | ((with_reducible refine g_if ?_); (refine l_off rfl ?_)))
          refine end1 rfl rfl ?_
          exact ⟨by rw [hn]; first | done | rfl, H.B⟩
        · rw [blS iv.a.1, blS bm] at q2
          cases ho : v.odd
          · rw [ho] at hV H
            have hn : checkS (bl t) (bl u) = 0 := by rw [hV, decide_eq_true (Classical.not_not.1 q2)]; simp
            repeat' (first | (with_reducible first | refine p_tn ?_ | refine p_tr ?_ | refine wp_seq ?_ | refine w_reg ?_) | (with_reducible (refine is_if ?_; (refine w_iff rfl ?_))) | (with_reducible first | refine wp_skip ?_ | refine wp_ret ?_ | refine l_nil ?_) | ((with_reducible refine g_on ?_); (first | ((with_reducible refine g_mv ?_); refine l_p txs rfl rfl ?_) | ((with_reducible refine g_as ?_); refine l_p txs rfl rfl ?_) | ((with_reducible refine g_pk ?_); refine l_p txs rfl rfl ?_))) | ((with_reducible refine g_if ?_); (first | ((with_reducible refine g_fa ?_); refine h_fa flds rfl rfl ?_) | ((with_reducible refine g_ld ?_); (refine h_ld txs H 0 rfl rfl rfl rfl ?_)))))
            refine end1 rfl rfl ?_
            exact ⟨by rw [hn]; first | done | rfl, H.B⟩
          · rw [ho] at hV H
            have hn : checkS (bl t) (bl u) = 111 := by rw [hV]; simp
            repeat' (first | (with_reducible first | refine p_tn ?_ | refine p_tr ?_ | refine wp_seq ?_ | refine w_reg ?_) | (with_reducible (refine is_if ?_; (refine w_ift rfl ?_))) | (with_reducible first | refine wp_ret ?_ | refine l_nil ?_) | ((with_reducible refine g_on ?_); (first | ((with_reducible refine g_mv ?_); refine l_p txs rfl rfl ?_) | ((with_reducible refine g_as ?_); refine l_p txs rfl rfl ?_) | ((with_reducible refine g_pk ?_); refine l_p txs rfl rfl ?_))) | ((with_reducible refine g_if ?_); (first | ((with_reducible refine g_fa ?_); refine h_fa flds rfl rfl ?_) | ((with_reducible refine g_ld ?_); (refine h_ld txs H 0 rfl rfl rfl rfl ?_)))))
            refine end1 rfl rfl ?_
            exact ⟨by rw [hn]; first | done | rfl, H.B⟩
      · rw [blS bm] at q1
        have q1 : m = [] := Classical.not_not.1 q1
        rw [if_neg (fun h => h q1)] at hf
        rw [hf] at hV
        repeat' (first | (with_reducible first | refine p_tn ?_ | refine wp_seq ?_ | refine w_reg ?_) | (with_reducible (refine is_if ?_; (refine w_iff rfl ?_))) | (with_reducible first | refine wp_skip ?_ | refine l_nil ?_) | ((with_reducible refine g_on ?_); ((with_reducible refine g_fa ?_); refine h_fa flds rfl rfl ?_)))
        (with_reducible refine is_l ?_); refine l_iaa Tryz.underlying87 info_str1 rfl rfl rfl (by decide) (by decide) ?_
        repeat' ((with_reducible refine g_on ?_); ((with_reducible refine g_ld ?_); (refine h_ld txs H 0 rfl rfl rfl rfl ?_)))
        (with_reducible refine is_l ?_); refine l_t txs rfl rfl (fun q2 => ?_) (fun q2 => ?_)
        · rw [blS iv.a.1, e48] at q2
          repeat' (first | ((with_reducible refine g_on ?_); ((with_reducible refine g_mv ?_); refine l_p txs rfl rfl ?_)) | ((with_reducible refine g_if ?_); ((with_reducible refine g_fa ?_); refine h_fa flds rfl rfl ?_)))
          (with_reducible refine is_l ?_); refine l_iaa Tryz.underlying87 info_str1 rfl rfl rfl (by decide) (by decide) ?_
          repeat' ((with_reducible refine g_if ?_); ((with_reducible refine g_ld ?_); (refine h_ld txs H 0 rfl rfl rfl rfl ?_)))
          (with_reducible refine is_l ?_); refine l_t txs rfl rfl (fun q3 => ?_) (fun q3 => ?_)
          · rw [blS iv.a.1, e49] at q3
            cases ho : v.odd
            · rw [ho] at hV H
              have hn : checkS (bl t) (bl u) = 111 := by rw [hV, decide_eq_false q2, decide_eq_false q3]; simp
              repeat' (first | (with_reducible first | refine p_tn ?_ | refine p_tr ?_ | refine wp_seq ?_ | refine w_reg ?_) | (with_reducible (refine is_if ?_; (refine w_ift rfl ?_))) | (with_reducible first | refine wp_ret ?_ | refine l_nil ?_) | ((with_reducible refine g_on ?_); (first | ((with_reducible refine g_mv ?_); refine l_p txs rfl rfl ?_) | ((with_reducible refine g_as ?_); refine l_p txs rfl rfl ?_) | ((with_reducible refine g_pk ?_); refine l_p txs rfl rfl ?_))) | ((with_reducible refine g_if ?_); (first | ((with_reducible refine g_fa ?_); refine h_fa flds rfl rfl ?_) | ((with_reducible refine g_ld ?_); (refine h_ld txs H 0 rfl rfl rfl rfl ?_)) | ((with_reducible refine g_un ?_); (refine l_p txs rfl rfl ?_)))))
              refine end1 rfl rfl ?_
              exact ⟨by rw [hn]; first | done | rfl, H.B⟩
            · rw [ho] at hV H
              have hn : checkS (bl t) (bl u) = 0 := by rw [hV]; simp
              repeat' (first | (with_reducible first | refine p_tn ?_ | refine wp_seq ?_ | refine w_reg ?_) | (with_reducible (refine is_if ?_; (refine w_iff rfl ?_))) | (with_reducible first | refine wp_skip ?_ | refine wp_ret ?_ | refine l_nil ?_) | ((with_reducible refine g_on ?_); (first | ((with_reducible refine g_mv ?_); refine l_p txs rfl rfl ?_) | ((with_reducible refine g_as ?_); refine l_p txs rfl rfl ?_) | ((with_reducible refine g_pk ?_); refine l_p txs rfl rfl ?_))) | ((with_reducible refine g_if ?_); (first | ((with_reducible refine g_fa ?_); refine h_fa flds rfl rfl ?_) | ((with_reducible refine g_ld ?_); (refine h_ld txs H 0 rfl rfl rfl rfl ?_)) | ((with_reducible refine g_un ?_); (refine l_p txs rfl rfl ?_)))))
              refine end1 rfl rfl ?_
              exact ⟨by rw [hn]; first | done | rfl, H.B⟩
          · rw [blS iv.a.1, e49] at q3
            have hn : checkS (bl t) (bl u) = 0 := by rw [hV, decide_eq_true (Classical.not_not.1 q3)]; simp
            repeat' (first | (with_reducible first | refine p_tn ?_ | refine wp_seq ?_ | refine w_reg ?_) | (with_reducible (refine is_if ?_; (refine w_iff rfl ?_))) | (with_reducible first | refine wp_skip ?_ | refine wp_ret ?_ | refine l_nil ?_) | ((with_reducible refine g_on ?_); (first | ((with_reducible refine g_mv ?_); refine l_p txs rfl rfl ?_) | ((with_reducible refine g_as ?_); refine l_p txs rfl rfl ?_) | ((with_reducible refine g_pk ?_); refine l_p txs rfl rfl ?_))) | ((with_reducible refine g_if ?_); (refine l_off rfl ?_)))
            refine end1 rfl rfl ?_
            exact ⟨by rw [hn]; first | done | rfl, H.B⟩
        · rw [blS iv.a.1, e48] at q2
          have hn : checkS (bl t) (bl u) = 0 := by rw [hV, decide_eq_true (Classical.not_not.1 q2)]; simp
          repeat' (first | (with_reducible first | refine p_tn ?_ | refine wp_seq ?_ | refine w_reg ?_) | (with_reducible (refine is_if ?_; (refine w_iff rfl ?_))) | (with_reducible first | refine wp_skip ?_ | refine wp_ret ?_ | refine l_nil ?_) | ((with_reducible refine g_on ?_); (first | ((with_reducible refine g_mv ?_); refine l_p txs rfl rfl ?_) | ((with_reducible refine g_as ?_); refine l_p txs rfl rfl ?_) | ((with_reducible refine g_pk ?_); refine l_p txs rfl rfl ?_))) | ((with_reducible refine g_if ?_); (refine l_off rfl ?_)))
          refine end1 rfl rfl ?_
          exact ⟨by rw [hn]; first | done | rfl, H.B⟩
theorem Key_r {w : World} {t2 : TypeId} {fr : Nat × Nat} (hD : w.heap[3]? = some (.cells deC t2 fr)) (t u : ByteArray) :
    Calls Tryz.prog 20 #[.string t, .string u] w fun e w' => e = .returned (.tuple #[.string (keyT t u), .int .i64 (checkS (bl t) (bl u) : Int)]) ∧ Below w.heap.size w w' := by
  refine enter (args := [.string t, .string u]) Tryz.func20 rfl Tryz.ntmps20 rfl ?_
  have H := Hp.nil w
  repeat' (first | (with_reducible first | refine p_tn ?_ | refine wp_seq ?_ | refine w_reg ?_ | refine l_nil ?_) | ((with_reducible refine g_on ?_); (first | ((with_reducible refine g_mv ?_); refine l_p txs rfl rfl ?_) | ((with_reducible refine g_as ?_); refine l_p txs rfl rfl ?_))))
  (with_reducible refine is_l ?_); refine l_callv rfl rfl (by kernel_rfl) (Fits_c hD t u) (fun w_ K => ?_)
  have H := H.call K
  have hsm : checkS (bl t) (bl u) = 0 → t.size ≤ 255 ∧ u.size ≤ 128 := fun h => by
    obtain ⟨h1, x, h2, _⟩ := check_ok h
    rw [← bl_length, ← bl_length]
    exact ⟨(path_ne h1).2, (ver_no h2).2.2.2.2.2.2⟩
  unfold keyT
  generalize checkS (bl t) (bl u) = k at hsm ⊢
  repeat' (first | (with_reducible first | refine p_tn ?_ | refine wp_seq ?_ | refine w_reg ?_ | refine l_nil ?_) | ((with_reducible refine g_on ?_); (first | ((with_reducible refine g_mv ?_); refine l_p txs rfl rfl ?_) | ((with_reducible refine g_as ?_); refine l_p txs rfl rfl ?_))))
  (with_reducible refine is_l ?_); refine l_t txs rfl rfl (fun h1 => ?_) (fun h1 => ?_)
  · repeat' (first | (with_reducible first | refine p_tn ?_ | refine p_tr ?_ | refine wp_seq ?_ | refine w_reg ?_) | (with_reducible (refine is_if ?_; (refine w_ift rfl ?_))) | (with_reducible first | refine wp_ret ?_ | refine l_nil ?_) | ((with_reducible refine g_on ?_); (first | ((with_reducible refine g_mv ?_); refine l_p txs rfl rfl ?_) | ((with_reducible refine g_as ?_); refine l_p txs rfl rfl ?_))))
    refine end2 rfl rfl rfl ?_
    exact ⟨by rw [if_neg (by omega)], H.B⟩
  · have h0 : k = 0 := by omega
    subst h0
    obtain ⟨hts, hus⟩ := hsm rfl
    have hz1 : (⟨#[64]⟩ : ByteArray).size = 1 := rfl
    repeat' (first | (with_reducible first | refine p_tn ?_ | refine wp_seq ?_ | refine w_reg ?_) | (with_reducible (refine is_if ?_; (refine w_iff rfl ?_))) | (with_reducible first | refine wp_skip ?_ | refine l_nil ?_) | ((with_reducible refine g_on ?_); ((with_reducible refine g_mv ?_); refine l_p txs rfl rfl ?_)))
    (with_reducible refine is_l ?_); refine l_cat rfl rfl (by omega) ?_
    repeat' ((with_reducible refine g_on ?_); ((with_reducible refine g_mv ?_); refine l_p txs rfl rfl ?_))
    (with_reducible refine is_l ?_); refine l_cat rfl rfl (by rw [ByteArray.size_append]; omega) ?_
    repeat' (first | (with_reducible first | refine p_tn ?_ | refine wp_ret ?_ | refine l_nil ?_) | ((with_reducible refine g_on ?_); ((with_reducible refine g_as ?_); refine l_p txs rfl rfl ?_)))
    refine end2 rfl rfl rfl ?_
    exact ⟨by rw [if_pos rfl]; rfl, H.B⟩
end Go.Proofs.YtnimaenhijlcmaaGreatDoor.K.Ref
end
section
namespace Go.Proofs.YtnimaenhijlcmaaGreatDoor.Mb
set_option linter.unusedVariables false
set_option linter.unusedSimpArgs false
def bits8 (x : Int) : L := [x / 2 ^ 7 % 2, x / 2 ^ 6 % 2, x / 2 ^ 5 % 2, x / 2 ^ 4 % 2, x / 2 ^ 3 % 2, x / 2 ^ 2 % 2, x / 2 ^ 1 % 2, x / 2 ^ 0 % 2]
def bitsOf : L → L
  | [] => []
  | x :: r => bits8 x ++ bitsOf r
theorem bitsOf_length : ∀ l, (bitsOf l).length = 8 * l.length
  | [] => rfl
  | x :: r => by simp only [bitsOf, bits8, List.length_append, List.length_cons, List.length_nil, bitsOf_length r]; omega
def six (a b c d e f : Int) : Int := a * 32 + b * 16 + c * 8 + d * 4 + e * 2 + f
def letters : L → L
  | a :: b :: c :: d :: e :: f :: r => lt (six a b c d e f) :: letters r
  | _ => []
def Bits (l : L) : Prop := ∀ x ∈ l, 0 ≤ x ∧ x ≤ 1
theorem bits_bits8 (x : Int) : Bits (bits8 x) := by
  intro y hy
  simp only [bits8, List.mem_cons, List.not_mem_nil, or_false] at hy
  rcases hy with rfl | rfl | rfl | rfl | rfl | rfl | rfl | rfl <;> omega
theorem bits_bitsOf : ∀ l, Bits (bitsOf l)
  | [] => fun _ h => by cases h
  | x :: r => fun y hy => by
    simp only [bitsOf, List.mem_append] at hy
    rcases hy with h | h
    · exact bits_bits8 x y h
    · exact bits_bitsOf r y h
def zeros (n : Nat) : L := if n % 3 = 1 then [0, 0, 0, 0] else if n % 3 = 2 then [0, 0] else []
theorem letters_bits : ∀ {l : L}, Byt l → letters (bitsOf l ++ zeros l.length) ++ pads l.length = enc64 l
  | [], _ => rfl
  | [a], h => by
    have ha := h a (by simp)
    simp only [bitsOf, bits8, zeros, pads, List.length_cons, List.length_nil, List.append_nil, List.cons_append, List.nil_append, enc64, letters]
    rw [show six (a / 2 ^ 7 % 2) (a / 2 ^ 6 % 2) (a / 2 ^ 5 % 2) (a / 2 ^ 4 % 2) (a / 2 ^ 3 % 2) (a / 2 ^ 2 % 2) = a / 4 from by unfold six; omega]
    simp only [show (0 + 1) % 3 = 1 from rfl, if_true, List.cons_append, List.nil_append, letters]
    rw [show six (a / 2 ^ 1 % 2) (a / 2 ^ 0 % 2) 0 0 0 0 = a % 4 * 16 from by unfold six; omega]
  | [a, b], h => by
    have ha := h a (by simp)
    have hb := h b (by simp)
    simp only [bitsOf, bits8, zeros, pads, List.length_cons, List.length_nil, List.append_nil, List.cons_append, List.nil_append, enc64, letters]
    simp only [show (0 + 1 + 1) % 3 = 2 from rfl, show ¬ (2 = 1) from by decide, if_true, if_false, List.cons_append, List.nil_append, letters]
    rw [show six (a / 2 ^ 7 % 2) (a / 2 ^ 6 % 2) (a / 2 ^ 5 % 2) (a / 2 ^ 4 % 2) (a / 2 ^ 3 % 2) (a / 2 ^ 2 % 2) = a / 4 from by unfold six; omega,
      show six (a / 2 ^ 1 % 2) (a / 2 ^ 0 % 2) (b / 2 ^ 7 % 2) (b / 2 ^ 6 % 2) (b / 2 ^ 5 % 2) (b / 2 ^ 4 % 2) = a % 4 * 16 + b / 16 from by unfold six; omega,
      show six (b / 2 ^ 3 % 2) (b / 2 ^ 2 % 2) (b / 2 ^ 1 % 2) (b / 2 ^ 0 % 2) 0 0 = b % 16 * 4 from by unfold six; omega]
  | a :: b :: c :: r, h => by
    have ha := h a (by simp)
    have hb := h b (by simp)
    have hc := h c (by simp)
    have ih := letters_bits (l := r) (fun x hx => h x (by simp [hx]))
    have hp : pads (r.length + 1 + 1 + 1) = pads r.length := by unfold pads; rw [show (r.length + 1 + 1 + 1) % 3 = r.length % 3 from by omega]
    have hq : zeros (r.length + 1 + 1 + 1) = zeros r.length := by unfold zeros; rw [show (r.length + 1 + 1 + 1) % 3 = r.length % 3 from by omega]
    simp only [bitsOf, bits8, List.length_cons, hp, hq, List.append_nil, List.cons_append, List.nil_append, enc64, letters]
    rw [ih, show six (a / 2 ^ 7 % 2) (a / 2 ^ 6 % 2) (a / 2 ^ 5 % 2) (a / 2 ^ 4 % 2) (a / 2 ^ 3 % 2) (a / 2 ^ 2 % 2) = a / 4 from by unfold six; omega,
      show six (a / 2 ^ 1 % 2) (a / 2 ^ 0 % 2) (b / 2 ^ 7 % 2) (b / 2 ^ 6 % 2) (b / 2 ^ 5 % 2) (b / 2 ^ 4 % 2) = a % 4 * 16 + b / 16 from by unfold six; omega,
      show six (b / 2 ^ 3 % 2) (b / 2 ^ 2 % 2) (b / 2 ^ 1 % 2) (b / 2 ^ 0 % 2) (c / 2 ^ 7 % 2) (c / 2 ^ 6 % 2) = b % 16 * 4 + c / 64 from by unfold six; omega,
      show six (c / 2 ^ 5 % 2) (c / 2 ^ 4 % 2) (c / 2 ^ 3 % 2) (c / 2 ^ 2 % 2) (c / 2 ^ 1 % 2) (c / 2 ^ 0 % 2) = c % 64 from by unfold six; omega]
theorem letters_length : ∀ (n : Nat) (r : L), r.length = 6 * n → (letters r).length = n
  | 0, [], _ => rfl
  | 0, _ :: _, h => by simp at h
  | n + 1, a :: b :: c :: d :: e :: f :: r, h => by
    simp only [List.length_cons] at h
    simp only [letters, List.length_cons, letters_length n r (by omega)]
  | n + 1, [], h => by simp at h
  | n + 1, [_], h => by simp at h; omega
  | n + 1, [_, _], h => by simp at h; omega
  | n + 1, [_, _, _], h => by simp at h; omega
  | n + 1, [_, _, _, _], h => by simp at h; omega
  | n + 1, [_, _, _, _, _], h => by simp at h; omega
theorem bits8_at (x : Int) : ∀ k, k < 8 → (bits8 x)[k]? = some (x / 2 ^ (7 - k) % 2)
  | 0, _ => rfl
  | 1, _ => rfl
  | 2, _ => rfl
  | 3, _ => rfl
  | 4, _ => rfl
  | 5, _ => rfl
  | 6, _ => rfl
  | 7, _ => rfl
  | k + 8, h => absurd h (by omega)
theorem bits8_len (x : Int) : (bits8 x).length = 8 := rfl
theorem bitsOf_app (a b : L) : bitsOf (a ++ b) = bitsOf a ++ bitsOf b := by
  induction a with
  | nil => rfl
  | cons x r ih => simp only [List.cons_append, bitsOf, ih, List.append_assoc]
def numOf (l : L) : Int := l.foldl (fun n b => 2 * n + b) 0
theorem numOf_snoc (l : L) (b : Int) : numOf (l ++ [b]) = 2 * numOf l + b := by unfold numOf; rw [List.foldl_append]; rfl
theorem numOf_small {l : L} (h : Bits l) (hl : l.length ≤ 6) : 0 ≤ numOf l ∧ numOf l < 64 := by
  have hz : ∀ x ∈ l, 0 ≤ x ∧ x ≤ 1 := h
  unfold numOf
  match l, hl, hz with
  | [], _, _ => exact ⟨by decide, by decide⟩
  | [a], _, hz =>
    have ha := hz a (by simp)
    simp only [List.foldl_cons, List.foldl_nil]
    omega
  | [a, b], _, hz =>
    have ha := hz a (by simp)
    have hb := hz b (by simp)
    simp only [List.foldl_cons, List.foldl_nil]
    omega
  | [a, b, c], _, hz =>
    have ha := hz a (by simp)
    have hb := hz b (by simp)
    have hc := hz c (by simp)
    simp only [List.foldl_cons, List.foldl_nil]
    omega
  | [a, b, c, d], _, hz =>
    have ha := hz a (by simp)
    have hb := hz b (by simp)
    have hc := hz c (by simp)
    have hd := hz d (by simp)
    simp only [List.foldl_cons, List.foldl_nil]
    omega
  | [a, b, c, d, e], _, hz =>
    have ha := hz a (by simp)
    have hb := hz b (by simp)
    have hc := hz c (by simp)
    have hd := hz d (by simp)
    have he := hz e (by simp)
    simp only [List.foldl_cons, List.foldl_nil]
    omega
  | [a, b, c, d, e, f], _, hz =>
    have ha := hz a (by simp)
    have hb := hz b (by simp)
    have hc := hz c (by simp)
    have hd := hz d (by simp)
    have he := hz e (by simp)
    have hf := hz f (by simp)
    simp only [List.foldl_cons, List.foldl_nil]
    omega
  | _ :: _ :: _ :: _ :: _ :: _ :: _ :: _, hl, _ => simp only [List.length_cons] at hl; omega
theorem six_num (a b c d e f : Int) : numOf [a, b, c, d, e, f] = six a b c d e f := by
  unfold numOf six
  simp only [List.foldl_cons, List.foldl_nil]
  omega
theorem letters_app : ∀ (n : Nat) (a b : L), a.length = 6 * n → letters (a ++ b) = letters a ++ letters b
  | 0, [], _, _ => rfl
  | 0, _ :: _, _, h => by simp at h
  | n + 1, x1 :: x2 :: x3 :: x4 :: x5 :: x6 :: r, b, h => by
    simp only [List.length_cons] at h
    simp only [List.cons_append, letters, letters_app n r b (by omega)]
  | n + 1, [], _, h => by simp at h
  | n + 1, [_], _, h => by simp at h; omega
  | n + 1, [_, _], _, h => by simp at h; omega
  | n + 1, [_, _, _], _, h => by simp at h; omega
  | n + 1, [_, _, _, _], _, h => by simp at h; omega
  | n + 1, [_, _, _, _, _], _, h => by simp at h; omega
theorem letters_six {l : L} (h : l.length = 6) : letters l = [lt (numOf l)] := by
  match l, h with
  | [a, b, c, d, e, f], _ => rw [six_num]; rfl
end Go.Proofs.YtnimaenhijlcmaaGreatDoor.Mb
end
section
namespace Go.Proofs.YtnimaenhijlcmaaGreatDoor.K.Ref
open Go.RowKit Go.Proofs.YtnimaenhijlcmaaGreatDoor.Q Go.Proofs.YtnimaenhijlcmaaGreatDoor.K Go.Proofs.YtnimaenhijlcmaaGreatDoor.Mb Go.Proofs.YtnimaenhijlcmaaGreatDoorW.PrintWords
set_option linter.unusedVariables false
set_option linter.unusedSimpArgs false
section
variable {P : Program} {n : Nat} {ops : Array Oper} {Q : Exit → Act → World → Prop} {rest : List Oper} {f : Fr} {w w0 : World} {d : Option Nat} {tt : TypeId} {ps : String} {af : Array Edge} {gd : Option (Nat × Bool)}
theorem l_cvi {src dst : TypeId} {k k2 : IntKind} {z y : Int} {x : Operand} (hs : P.underlying src = some (.int k)) (hd : P.underlying dst = some (.int k2)) (hw : want n ops f ⟨d, .convert src dst x, tt, ps, af, gd⟩ = true) (hx : nf (X n f x) = some (.int k z)) (hz : k2.wrap z = y) (h : WL P ops Q rest (act n (put f d (.int k2 y))) w) : WL P ops Q (⟨d, .convert src dst x, tt, ps, af, gd⟩ :: rest) (act n f) w := by
  subst hz
  refine l_val hw ?_ h
  have hx' := nf_eq hx
  unfold execOp
  simp [go_sem, ← hx', convert, run_underlying hs, run_underlying hd]
end
abbrev rowI (v : Value) (b : L) : RowD := ⟨v, 3, 1, b.length, nums .i64 b⟩
theorem numsI_snoc (x : L) (c : Int) : nums .i64 (x ++ [c]) = nums .i64 x ++ [.int .i64 c] := by simp [nums]
theorem info_i : (Tryz.prog.info? 3).map (fun i => (i.zero, i.size, i.bytes)) = some (some (.int .i64 0), 1, 8) := by kernel_rfl
theorem shrB (t : TypeId) (w : World) {k : IntKind} (s : Nat) (hs : s ≤ 7) {x : Int} (h0 : 0 ≤ x) : (binOp .shr t (.int .u8 x) (.int k (s : Int))).run Tryz.prog w = .ok (.int .u8 (x / 2 ^ s)) w := by
  have h3 : ¬ ((s : Int) < 0) := by omega
  have h4 : min s IntKind.u8.bits = s := Nat.min_eq_left (by show s ≤ 8; omega)
  rw [binOp_shr]
  simp only [Op.shift]
  rw [if_neg h3, Int.toNat_natCast, h4, Int.fdiv_eq_ediv_of_nonneg _ (by exact_mod_cast Nat.zero_le _)]
  rfl
theorem rd_at {w : World} {ad : Addr} {l : L} {i : Nat} {x : Int} {k : IntKind} (h : Rd w (some ad) (nums k l)) (hx : l[i]? = some x) : w.cell? (ad.add (i * 1)) = some (.int k x) := by
  rw [Nat.mul_one]
  exact h.2 ad rfl i _ (by unfold nums; rw [List.getElem?_map, hx]; rfl)
theorem rd_some' {w : World} {A : Option Addr} {l : L} {k : IntKind} (h : Rd w A (nums k l)) (hl : 0 < l.length) : ∃ ad, A = some ad := by
  cases A with
  | some ad => exact ⟨ad, rfl⟩
  | none =>
    have := h.1 rfl
    cases l with
    | nil => exact absurd hl (by simp)
    | cons x r => simp [nums] at this
theorem bits_take {l : L} {i : Nat} {x : Int} (h : l[i]? = some x) : bitsOf (l.take (i + 1)) = bitsOf (l.take i) ++ bits8 x := by
  obtain ⟨h1, h2⟩ := List.getElem?_eq_some_iff.1 h
  rw [List.take_succ_eq_append_getElem h1, h2, bitsOf_app]
  simp [bitsOf]
theorem div_pow_le {x : Int} (h0 : 0 ≤ x) (h1 : x ≤ 255) (s : Nat) : 0 ≤ x / 2 ^ s ∧ x / 2 ^ s ≤ 255 := by
  have h2 : 0 ≤ x / 2 ^ s := Int.ediv_nonneg h0 (by exact_mod_cast Nat.zero_le _)
  have h3 : x / 2 ^ s ≤ x := Int.ediv_le_self _ h0
  omega
set_option maxRecDepth 100000 in
set_option maxHeartbeats 8000000 in
theorem bits_c {w : World} {A : Option Addr} {c : Nat} {l : L} (hR : Rd w A (nums .u8 l)) (hb : Bytes l) (hl : l.length ≤ 1000) :
    Calls Tryz.prog 81 #[.slice A l.length c] w fun e w' => ∃ A1 c1, e = .returned (.slice A1 (bitsOf l).length c1) ∧ Hp w w' [] [rowI (.slice A1 (bitsOf l).length c1) (bitsOf l)] := by
  have hbl := bitsOf_length l
  refine enter (args := [.slice A l.length c]) Tryz.func81 rfl Tryz.ntmps81 rfl ?_
  have H := (Hp.nil w).nilRow 3 1
  repeat' (first | (with_reducible first | refine p_tn ?_ | refine wp_seq ?_ | refine wp_block ?_ | refine w_reg ?_ | refine l_nil ?_) | ((with_reducible refine g_on ?_); ((with_reducible refine g_as ?_); refine l_p txs rfl rfl ?_)))
  refine w_loop (σ := Nat × Option Addr × Nat) (S := fun s => [(0, .slice A l.length c), (3, .slice s.2.1 (bitsOf (l.take s.1)).length s.2.2), (4, .int .i64 (s.1 : Int))])
    (J := fun s w' => Hp w w' [] [rowI (.slice s.2.1 (bitsOf (l.take s.1)).length s.2.2) (bitsOf (l.take s.1))] ∧ s.1 ≤ l.length) (μ := fun s => l.length - s.1) (0, none, 0) ⟨rfl, rfl, rfl, trivial⟩ ⟨H, by omega⟩ ?_
  clear H
  rintro ⟨i, A2, c2⟩ f w_ ⟨H, hi⟩
  simp only at H hi ⊢
  repeat' (first | (with_reducible first | refine wp_seq ?_ | refine w_reg ?_) | ((with_reducible refine g_on ?_); (first | ((with_reducible refine g_mv ?_); refine l_p txs rfl rfl ?_) | ((with_reducible refine g_cl ?_); refine l_p txs rfl rfl ?_))))
  (with_reducible refine is_l ?_); refine l_t txs rfl rfl (fun hlt => ?_) (fun hge => ?_)
  · obtain ⟨x, hx⟩ : ∃ x, l[i]? = some x := ⟨_, List.getElem?_eq_getElem (by omega)⟩
    have hx2 := hb x (List.mem_of_getElem? hx)
    obtain ⟨ad, rfl⟩ := rd_some' hR (by omega)
    have hbt := bits_take hx
    have hbtl := bitsOf_length (l.take i)
    rw [List.length_take_of_le (by omega)] at hbtl
    generalize bitsOf (l.take i) = base at H hbt hbtl ⊢
    repeat' (first | (with_reducible first | refine p_tn ?_ | refine wp_seq ?_ | refine wp_block ?_ | refine w_reg ?_) | (with_reducible (refine is_if ?_; (refine w_ift rfl ?_))) | (with_reducible first | refine wp_skip ?_ | refine l_nil ?_) | ((with_reducible refine g_on ?_); ((with_reducible refine g_as ?_); refine l_p txs rfl rfl ?_)))
    refine w_loop (σ := Nat × L × Option Addr × Nat) (S := fun s => [(0, .slice (some ad) l.length c), (3, .slice s.2.2.1 s.2.1.length s.2.2.2), (4, .int .i64 (i : Int)), (5, .int .i64 (7 - (s.1 : Int)))])
      (J := fun s w' => Hp w w' [] [rowI (.slice s.2.2.1 s.2.1.length s.2.2.2) s.2.1] ∧ s.1 ≤ 8 ∧ s.2.1 = base ++ (bits8 x).take s.1) (μ := fun s => 8 - s.1) (0, base, A2, c2) ⟨rfl, rfl, rfl, rfl, trivial⟩ ⟨H, by omega, by simp⟩ ?_
    clear H
    rintro ⟨k, acc, A3, c3⟩ f w_ ⟨H, hk, hacc⟩
    simp only at H hk hacc ⊢
    have hal : acc.length ≤ base.length + 8 := by
      rw [hacc, List.length_append, List.length_take]
      have := bits8_len x
      omega
    repeat' (first | (with_reducible first | refine wp_seq ?_ | refine w_reg ?_) | ((with_reducible refine g_on ?_); ((with_reducible refine g_mv ?_); refine l_p txs rfl rfl ?_)))
    (with_reducible refine is_l ?_); refine l_t txs rfl rfl (fun hk0 => ?_) (fun hk8 => ?_)
    · have hat := bits8_at x k (by omega)
      obtain ⟨y, hy⟩ : ∃ y, y = x / 2 ^ (7 - k) % 2 := ⟨_, rfl⟩
      have hdp := div_pow_le hx2.1 hx2.2 (7 - k)
      have hjk : (7 : Int) - (k : Int) = ((7 - k : Nat) : Int) := by omega
      repeat' (first | (with_reducible first | refine p_tn ?_ | refine wp_seq ?_ | refine wp_block ?_ | refine w_reg ?_) | (with_reducible (refine is_if ?_; (refine w_ift rfl ?_))) | (with_reducible first | refine wp_skip ?_ | refine l_nil ?_) | ((with_reducible refine g_on ?_); (first | ((with_reducible refine g_mv ?_); refine l_p txs rfl rfl ?_) | ((with_reducible refine g_ia ?_); refine l_ia txs rfl rfl (by first | omega | assumption | decide) (by first | omega | assumption | decide) ?_))))
      (with_reducible refine is_l ?_); refine l_ld txs rfl rfl (by rw [Int.toNat_natCast]; exact rd_at (hR.below H.B) hx) ?_
      repeat' ((with_reducible refine g_on ?_); ((with_reducible refine g_mv ?_); refine l_p txs rfl rfl ?_))
      (with_reducible refine is_l ?_); refine l_cvi (y := ((7 - k : Nat) : Int)) Tryz.underlying3 Tryz.underlying97 rfl rfl (by rw [IntKind.wrap_u64]; omega) ?_
      (with_reducible refine is_l ?_); refine l_bii rfl rfl rfl (shrB _ _ (7 - k) (by omega) hx2.1) ?_
      repeat' ((with_reducible refine g_on ?_); ((with_reducible refine g_cv ?_); (refine l_a txs rfl rfl (by first | exact in_i64 (by omega) (by omega) | exact in_u8 (by omega) (by omega) | exact in_u64 (by omega) (by omega) | exact in_i32 (by omega) (by omega)) ?_)))
      (with_reducible refine is_l ?_); refine l_rem rfl rfl (by omega) (by decide) ?_
      rw [← hy] at hat ⊢
      (with_reducible refine is_l ?_); refine h_bs H info_i Tryz.underlying98 (by decide) (by decide) rfl rfl (by kernel_rfl) (fun g_ w_ H => ?_)
      (with_reducible refine is_l ?_); refine h_app H 0 rfl info_i Tryz.underlying98 rfl rfl rfl rfl (H.cellRd 0 rfl) rfl rfl (by show (acc.length + 1) * 8 ≤ _; omega) (fun v w_ hv H => ?_)
      obtain ⟨A', c', rfl⟩ := hv
      have H := H.pick [] [0] (by decide) (by decide) rfl rfl
      have H : Hp w w_ [] [rowI (.slice A' (acc.length + 1) c') (acc ++ [y])] := by
        unfold rowI
        rw [numsI_snoc, List.length_append, List.length_singleton]
        exact H
      have hal2 : (acc ++ [y]).length = acc.length + 1 := by rw [List.length_append, List.length_singleton]
      repeat' (first | (with_reducible first | refine p_tn ?_ | refine p_bn ?_ | refine w_reg ?_ | refine l_nil ?_) | ((with_reducible refine g_on ?_); (first | ((with_reducible refine g_mv ?_); refine l_p txs rfl rfl ?_) | ((with_reducible refine g_as ?_); refine l_p txs rfl rfl ?_) | ((with_reducible refine g_bi ?_); (refine l_a txs rfl rfl (by first | exact in_i64 (by omega) (by omega) | exact in_u8 (by omega) (by omega) | exact in_u64 (by omega) (by omega) | exact in_i32 (by omega) (by omega)) ?_)))))
      refine ⟨(k + 1, acc ++ [y], A', c'), _, rfl, ⟨rfl, by show _ = Value.slice A' (acc ++ [y]).length c'; rw [hal2]; rfl, rfl, by show Value.int .i64 (7 - (k : Int) - 1) = Value.int .i64 (7 - ((k + 1 : Nat) : Int)); congr 1; omega, trivial⟩, ⟨by rw [hal2]; exact H, by show k + 1 ≤ 8; omega, ?_⟩, by show 8 - (k + 1) < 8 - k; omega⟩
      show acc ++ [y] = base ++ (bits8 x).take (k + 1)
      obtain ⟨g1, g2⟩ := List.getElem?_eq_some_iff.1 hat
      rw [List.take_succ_eq_append_getElem g1, g2, hacc, List.append_assoc]
    · obtain rfl : k = 8 := by omega
      have hfull : acc = bitsOf (l.take (i + 1)) := by
        rw [hbt, hacc, List.take_of_length_le (by rw [bits8_len]; omega)]
      rw [hfull] at H ⊢
      repeat' (first | (with_reducible first | refine p_tn ?_ | refine p_tx ?_ | refine p_bn ?_ | refine x_hit ?_ | refine w_reg ?_) | (with_reducible (refine is_if ?_; (refine w_iff rfl ?_))) | (with_reducible first | refine wp_exit ?_ | refine l_nil ?_) | ((with_reducible refine g_on ?_); (first | ((with_reducible refine g_mv ?_); refine l_p txs rfl rfl ?_) | ((with_reducible refine g_as ?_); refine l_p txs rfl rfl ?_) | ((with_reducible refine g_bi ?_); (refine l_a txs rfl rfl (by first | exact in_i64 (by omega) (by omega) | exact in_u8 (by omega) (by omega) | exact in_u64 (by omega) (by omega) | exact in_i32 (by omega) (by omega)) ?_)))))
      exact ⟨(i + 1, A3, c3), _, rfl, ⟨rfl, rfl, rfl, trivial⟩, ⟨H, by show i + 1 ≤ _; omega⟩, by show _ - (i + 1) < _ - i; omega⟩
  · have hall : l.take i = l := List.take_of_length_le (by omega)
    simp only [hall] at H ⊢
    repeat' (first | (with_reducible first | refine p_tn ?_ | refine p_tx ?_ | refine x_hit ?_ | refine wp_seq ?_ | refine w_reg ?_) | (with_reducible (refine is_if ?_; (refine w_iff rfl ?_))) | (with_reducible first | refine wp_exit ?_ | refine wp_ret ?_ | refine l_nil ?_) | ((with_reducible refine g_on ?_); (first | ((with_reducible refine g_mv ?_); refine l_p txs rfl rfl ?_) | ((with_reducible refine g_as ?_); refine l_p txs rfl rfl ?_))))
    refine end1 rfl rfl ?_
    exact ⟨A2, c2, rfl, H⟩
theorem zeros_rep (n : Nat) : zeros n = List.replicate (zeros n).length 0 ∧ (8 * n + (zeros n).length) % 6 = 0 ∧ (zeros n).length ≤ 4 := by
  unfold zeros
  split
  · exact ⟨rfl, by show (8 * n + 4) % 6 = 0; omega, by decide⟩
  split
  · exact ⟨rfl, by show (8 * n + 2) % 6 = 0; omega, by decide⟩
  · exact ⟨rfl, by show (8 * n + 0) % 6 = 0; omega, by decide⟩
theorem pads_rep (n : Nat) : pads n = List.replicate (pads n).length 61 ∧ ((8 * n + (zeros n).length) / 6 + (pads n).length) % 4 = 0 ∧ (pads n).length ≤ 2 := by
  unfold pads zeros
  split
  · exact ⟨rfl, by show ((8 * n + 4) / 6 + 2) % 4 = 0; omega, by decide⟩
  split
  · exact ⟨rfl, by show ((8 * n + 2) / 6 + 1) % 4 = 0; omega, by decide⟩
  · exact ⟨rfl, by show ((8 * n + 0) / 6 + 0) % 4 = 0; omega, by decide⟩
theorem letters_take {b : L} {m : Nat} (h : 6 * m + 6 ≤ b.length) : letters (b.take (6 * (m + 1))) = letters (b.take (6 * m)) ++ [lt (numOf ((b.drop (6 * m)).take 6))] := by
  have e : b.take (6 * (m + 1)) = b.take (6 * m) ++ (b.drop (6 * m)).take 6 := by
    rw [show 6 * (m + 1) = 6 * m + 6 by omega, List.take_add]
  rw [e, letters_app m _ _ (by rw [List.length_take_of_le (by omega)]), letters_six (l := (b.drop (6 * m)).take 6) (by rw [List.length_take, List.length_drop]; omega)]
theorem int_row {w0 w : World} {l : List Ent} {r : List RowD} {A : Option Addr} {c : Nat} {b : L} (H : Hp w0 w l r) (k : Nat) (hk : r[k]? = some (rowI (.slice A b.length c) b)) : Rd w A (nums .i64 b) := by
  obtain ⟨A3, c3, e3, _, hRd, hAn⟩ := H.rd k hk
  cases e3
  exact hRd
set_option maxRecDepth 100000 in
set_option maxHeartbeats 16000000 in
theorem enc_r {w : World} {A : Option Addr} {c : Nat} {l : L} (hR : Rd w A (nums .u8 l)) (hb : Bytes l) (hl : l.length ≤ 1000) :
    Calls Tryz.prog 49 #[.slice A l.length c] w fun e w' => e = .returned (.string (strOfNums (enc64 l))) ∧ Below w.heap.size w w' := by
  obtain ⟨zr1, zr2, zr3⟩ := zeros_rep l.length
  obtain ⟨pr1, pr2, pr3⟩ := pads_rep l.length
  have hle := letters_bits hb
  have hbl := bitsOf_length l
  have hbb := bits_bitsOf l
  refine enter (args := [.slice A l.length c]) Tryz.func49 rfl Tryz.ntmps49 rfl ?_
  have H := Hp.nil w
  repeat' (first | (with_reducible first | refine p_tn ?_ | refine wp_seq ?_ | refine w_reg ?_ | refine l_nil ?_) | ((with_reducible refine g_on ?_); (first | ((with_reducible refine g_mv ?_); refine l_p txs rfl rfl ?_) | ((with_reducible refine g_as ?_); refine l_p txs rfl rfl ?_))))
  (with_reducible refine is_l ?_); refine l_call rfl rfl (by kernel_rfl) (bits_c hR hb hl) (fun e w_ hRr => ?_)
  obtain ⟨A1, c1, rfl, K⟩ := hRr
  refine ⟨_, rfl, ?_⟩
  have H := H.join K
  have H : Hp w w_ [] [rowI (.slice A1 (bitsOf l).length c1) (bitsOf l)] := H
  generalize bitsOf l = bs at H hle hbl hbb
  generalize zeros l.length = zs at zr1 zr2 zr3 pr2 hle
  generalize pads l.length = ps at pr1 pr2 pr3 hle
  repeat' (first | (with_reducible first | refine p_tn ?_ | refine wp_seq ?_ | refine wp_block ?_ | refine l_nil ?_) | ((with_reducible refine g_on ?_); ((with_reducible refine g_as ?_); refine l_p txs rfl rfl ?_)))
  refine w_loop (σ := Nat × L × Option Addr × Nat) (S := fun s => [(3, .slice s.2.2.1 s.2.1.length s.2.2.2)])
    (J := fun s w' => Hp w w' [] [rowI (.slice s.2.2.1 s.2.1.length s.2.2.2) s.2.1] ∧ s.1 ≤ zs.length ∧ s.2.1 = bs ++ List.replicate s.1 0) (μ := fun s => zs.length - s.1) (0, bs, A1, c1) ⟨rfl, trivial⟩ ⟨H, by omega, by simp⟩ ?_
  clear H
  rintro ⟨k, acc, A2, c2⟩ f w_ ⟨H, hk, hacc⟩
  simp only at H hk hacc ⊢
  have hal : acc.length = 8 * l.length + k := by rw [hacc, List.length_append, List.length_replicate, hbl]
  repeat' (first | (with_reducible first | refine wp_seq ?_ | refine w_reg ?_) | ((with_reducible refine g_on ?_); (first | ((with_reducible refine g_mv ?_); refine l_p txs rfl rfl ?_) | ((with_reducible refine g_cl ?_); refine l_p txs rfl rfl ?_))))
  (with_reducible refine is_l ?_); refine l_rem rfl rfl (by omega) (by decide) ?_
  skip
  (with_reducible refine is_l ?_); refine l_t txs rfl rfl (fun hne => ?_) (fun heq => ?_)
  · repeat' (first | (with_reducible first | refine p_tn ?_ | refine wp_block ?_ | refine w_reg ?_) | (with_reducible (refine is_if ?_; (refine w_ift rfl ?_))) | (with_reducible first | refine wp_skip ?_ | refine l_nil ?_) | ((with_reducible refine g_on ?_); ((with_reducible refine g_mv ?_); refine l_p txs rfl rfl ?_)))
    (with_reducible refine is_l ?_); refine h_bs H info_i Tryz.underlying98 (by decide) (by decide) rfl rfl (by kernel_rfl) (fun g_ w_ H => ?_)
    (with_reducible refine is_l ?_); refine h_app H 0 rfl info_i Tryz.underlying98 rfl rfl rfl rfl (H.cellRd 0 rfl) rfl rfl (by show (acc.length + 1) * 8 ≤ _; omega) (fun v w_ hv H => ?_)
    obtain ⟨A', c', rfl⟩ := hv
    have H := H.pick [] [0] (by decide) (by decide) rfl rfl
    have H : Hp w w_ [] [rowI (.slice A' (acc.length + 1) c') (acc ++ [0])] := by
      unfold rowI
      rw [numsI_snoc, List.length_append, List.length_singleton]
      exact H
    have hal2 : (acc ++ [0]).length = acc.length + 1 := by rw [List.length_append, List.length_singleton]
    repeat' (first | (with_reducible first | refine p_tn ?_ | refine p_bn ?_ | refine l_nil ?_) | ((with_reducible refine g_on ?_); ((with_reducible refine g_as ?_); refine l_p txs rfl rfl ?_)))
    have hlt : k < zs.length := by
      rcases Nat.lt_or_ge k zs.length with h | h
      · exact h
      · exfalso
        have hk2 : k = zs.length := by omega
        apply hne
        rw [hal, hk2]
        omega
    exact ⟨(k + 1, acc ++ [0], A', c'), _, rfl, ⟨by show _ = Value.slice A' (acc ++ [0]).length c'; rw [hal2]; rfl, trivial⟩, ⟨by rw [hal2]; exact H, by show k + 1 ≤ zs.length; omega, by show acc ++ [0] = bs ++ List.replicate (k + 1) 0; rw [hacc, List.append_assoc, List.replicate_succ']⟩, by show _ - (k + 1) < _ - k; omega⟩
  have heq : ((acc.length : Int)) % 6 = 0 := Classical.not_not.1 heq
  have hkz : k = zs.length := by omega
  have hB : acc = bs ++ zs := by rw [hacc, hkz, ← zr1]
  rw [← hB] at hle
  have hbits : Bits acc := by
    intro x hx
    rw [hacc] at hx
    rcases List.mem_append.1 hx with h | h
    · exact hbb x h
    · rw [(List.mem_replicate.1 h).2]; omega
  clear hacc hB
  obtain ⟨M, hM⟩ : ∃ M, acc.length = 6 * M := ⟨acc.length / 6, by omega⟩
  have hMl : M ≤ 2000 := by omega
  have hpM : (M + ps.length) % 4 = 0 := by
    have : (8 * l.length + zs.length) / 6 = M := by omega
    rw [this] at pr2
    exact pr2
  have H := H.nilRow 5 1
  generalize acc = B at H hle hbits hM hal ⊢
  repeat' (first | (with_reducible first | refine p_tn ?_ | refine p_tx ?_ | refine x_hit ?_ | refine wp_seq ?_ | refine wp_block ?_ | refine w_reg ?_) | (with_reducible (refine is_if ?_; (refine w_iff rfl ?_))) | (with_reducible first | refine wp_exit ?_ | refine l_nil ?_) | ((with_reducible refine g_on ?_); ((with_reducible refine g_as ?_); refine l_p txs rfl rfl ?_)))
  refine w_loop (σ := Nat × Option Addr × Nat) (S := fun s => [(3, .slice A2 B.length c2), (4, .slice s.2.1 (letters (B.take (6 * s.1))).length s.2.2), (5, .int .i64 ((6 * s.1 : Nat) : Int))])
    (J := fun s w' => Hp w w' [] [rowB (.slice s.2.1 (letters (B.take (6 * s.1))).length s.2.2) (letters (B.take (6 * s.1))), rowI (.slice A2 B.length c2) B] ∧ s.1 ≤ M) (μ := fun s => M - s.1) (0, none, 0) ⟨rfl, rfl, rfl, trivial⟩ ⟨H, by omega⟩ ?_
  clear H
  rintro ⟨m, A3, c3⟩ f w_ ⟨H, hm⟩
  simp only at H hm ⊢
  have hll := letters_length m (B.take (6 * m)) (by rw [List.length_take_of_le (by omega)])
  repeat' (first | (with_reducible first | refine wp_seq ?_ | refine w_reg ?_) | ((with_reducible refine g_on ?_); (first | ((with_reducible refine g_mv ?_); refine l_p txs rfl rfl ?_) | ((with_reducible refine g_cl ?_); refine l_p txs rfl rfl ?_))))
  (with_reducible refine is_l ?_); refine l_t txs rfl rfl (fun hlt => ?_) (fun hge => ?_)
  · have hlt6 := letters_take (b := B) (m := m) (by omega)
    have hRb := int_row H 1 rfl
    obtain ⟨ad, rfl⟩ := rd_some' hRb (by omega)
    have hdl : (B.drop (6 * m)).length = B.length - 6 * m := by rw [List.length_drop]
    generalize hacc : letters (B.take (6 * m)) = acc at H hll hlt6 ⊢
    repeat' (first | (with_reducible first | refine p_tn ?_ | refine wp_seq ?_ | refine wp_block ?_ | refine w_reg ?_) | (with_reducible (refine is_if ?_; (refine w_ift rfl ?_))) | (with_reducible first | refine wp_skip ?_ | refine l_nil ?_) | ((with_reducible refine g_on ?_); ((with_reducible refine g_as ?_); refine l_p txs rfl rfl ?_)))
    refine w_loop (σ := Nat) (S := fun s => [(3, .slice (some ad) B.length c2), (4, .slice A3 acc.length c3), (5, .int .i64 ((6 * m : Nat) : Int)), (6, .int .i64 (numOf ((B.drop (6 * m)).take s))), (7, .int .i64 (s : Int))])
      (J := fun s w' => Hp w w' [] [rowB (.slice A3 acc.length c3) acc, rowI (.slice (some ad) B.length c2) B] ∧ s ≤ 6) (μ := fun s => 6 - s) 0 ⟨rfl, rfl, rfl, rfl, rfl, trivial⟩ ⟨H, by omega⟩ ?_
    clear H hRb
    rintro j f w_ ⟨H, hj⟩
    have hRb := int_row H 1 rfl
    have hsm := numOf_small (l := (B.drop (6 * m)).take j) (fun x hx => hbits x (List.mem_of_mem_drop (List.mem_of_mem_take hx))) (by rw [List.length_take]; omega)
    repeat' (first | (with_reducible first | refine wp_seq ?_ | refine w_reg ?_) | ((with_reducible refine g_on ?_); ((with_reducible refine g_mv ?_); refine l_p txs rfl rfl ?_)))
    (with_reducible refine is_l ?_); refine l_t txs rfl rfl (fun hj6 => ?_) (fun hj6 => ?_)
    · obtain ⟨x, hx⟩ : ∃ x, (B.drop (6 * m))[j]? = some x := ⟨_, List.getElem?_eq_getElem (by omega)⟩
      have hx2 : B[6 * m + j]? = some x := by rw [← List.getElem?_drop]; exact hx
      have hxb := hbits x (List.mem_of_getElem? hx2)
      have hnx : numOf ((B.drop (6 * m)).take (j + 1)) = 2 * numOf ((B.drop (6 * m)).take j) + x := by
        obtain ⟨g1, g2⟩ := List.getElem?_eq_some_iff.1 hx
        rw [List.take_succ_eq_append_getElem g1, g2, numOf_snoc]
      generalize numOf ((B.drop (6 * m)).take j) = q at hsm hnx ⊢
      repeat' (first | (with_reducible first | refine p_tn ?_ | refine wp_seq ?_ | refine wp_block ?_ | refine w_reg ?_) | (with_reducible (refine is_if ?_; (refine w_ift rfl ?_))) | (with_reducible first | refine wp_skip ?_ | refine l_nil ?_) | ((with_reducible refine g_on ?_); (first | ((with_reducible refine g_mv ?_); refine l_p txs rfl rfl ?_) | ((with_reducible refine g_ia ?_); refine l_ia txs rfl rfl (by first | omega | assumption | decide) (by first | omega | assumption | decide) ?_) | ((with_reducible refine g_bi ?_); (refine l_a txs rfl rfl (by first | exact in_i64 (by omega) (by omega) | exact in_u8 (by omega) (by omega) | exact in_u64 (by omega) (by omega) | exact in_i32 (by omega) (by omega)) ?_)))))
      (with_reducible refine is_l ?_); refine l_ld txs rfl rfl (by rw [show (((6 * m : Nat) : Int) + (j : Int)).toNat = 6 * m + j by omega]; exact rd_at hRb hx2) ?_
      repeat' (first | (with_reducible first | refine p_tn ?_ | refine p_bn ?_ | refine w_reg ?_ | refine l_nil ?_) | ((with_reducible refine g_on ?_); (first | ((with_reducible refine g_mv ?_); refine l_p txs rfl rfl ?_) | ((with_reducible refine g_as ?_); refine l_p txs rfl rfl ?_) | ((with_reducible refine g_bi ?_); (refine l_a txs rfl rfl (by first | exact in_i64 (by omega) (by omega) | exact in_u8 (by omega) (by omega) | exact in_u64 (by omega) (by omega) | exact in_i32 (by omega) (by omega)) ?_)))))
      exact ⟨j + 1, _, rfl, ⟨rfl, rfl, rfl, by show _ = Value.int .i64 (numOf _); rw [hnx]; rfl, rfl, trivial⟩, ⟨H, by omega⟩, by omega⟩
    · obtain rfl : j = 6 := by omega
      generalize numOf ((B.drop (6 * m)).take 6) = q at hsm hlt6 ⊢
      repeat' (first | (with_reducible first | refine p_tn ?_ | refine p_tx ?_ | refine x_hit ?_ | refine w_reg ?_) | (with_reducible (refine is_if ?_; (refine w_iff rfl ?_))) | (with_reducible first | refine wp_exit ?_ | refine l_nil ?_) | ((with_reducible refine g_on ?_); ((with_reducible refine g_mv ?_); refine l_p txs rfl rfl ?_)))
      (with_reducible refine is_l ?_); refine l_val rfl (let_run txs rfl hsm.1 hsm.2) ?_
      (with_reducible refine is_l ?_); refine h_bs H info_u8 Tryz.underlying34 (by decide) (by decide) rfl rfl (by kernel_rfl) (fun g_ w_ H => ?_)
      (with_reducible refine is_l ?_); refine h_app H 0 rfl info_u8 Tryz.underlying34 rfl rfl rfl rfl (H.cellRd 0 rfl) rfl rfl (by show (acc.length + 1) * 1 ≤ _; omega) (fun v w_ hv H => ?_)
      obtain ⟨A', c', rfl⟩ := hv
      have H := H.pick [] [0, 1] (by decide) (by decide) rfl rfl
      repeat' (first | (with_reducible first | refine p_tn ?_ | refine p_bn ?_ | refine w_reg ?_ | refine l_nil ?_) | ((with_reducible refine g_on ?_); (first | ((with_reducible refine g_mv ?_); refine l_p txs rfl rfl ?_) | ((with_reducible refine g_as ?_); refine l_p txs rfl rfl ?_) | ((with_reducible refine g_bi ?_); (refine l_a txs rfl rfl (by first | exact in_i64 (by omega) (by omega) | exact in_u8 (by omega) (by omega) | exact in_u64 (by omega) (by omega) | exact in_i32 (by omega) (by omega)) ?_)))))
      have hal2 : (acc ++ [lt q]).length = acc.length + 1 := by rw [List.length_append, List.length_singleton]
      rw [← hlt6] at hal2
      refine ⟨(m + 1, A', c'), _, rfl, ⟨rfl, by show _ = Value.slice A' (letters (B.take (6 * (m + 1)))).length c'; rw [hal2]; rfl, by show Value.int .i64 (((6 * m : Nat) : Int) + 6) = Value.int .i64 ((6 * (m + 1) : Nat) : Int); congr 1, trivial⟩, ⟨?_, by show m + 1 ≤ M; omega⟩, by show _ - (m + 1) < _ - m; omega⟩
      show Hp w _ [] [rowB (.slice A' (letters (B.take (6 * (m + 1)))).length c') (letters (B.take (6 * (m + 1)))), _]
      unfold rowB
      rw [hal2, hlt6, nums_snoc]
      exact H
  · obtain rfl : m = M := by omega
    have hfull : B.take (6 * m) = B := List.take_of_length_le (by omega)
    rw [hfull] at H hll ⊢
    have H := H.pick [] [0] (by decide) (by decide) rfl rfl
    generalize letters B = O at H hll hle ⊢
    repeat' (first | (with_reducible first | refine p_tn ?_ | refine p_tx ?_ | refine x_hit ?_ | refine wp_seq ?_ | refine wp_block ?_) | (with_reducible (refine is_if ?_; (refine w_iff rfl ?_))) | (with_reducible first | refine wp_exit ?_ | refine l_nil ?_))
    refine w_loop (σ := Nat × L × Option Addr × Nat) (S := fun s => [(4, .slice s.2.2.1 s.2.1.length s.2.2.2)])
      (J := fun s w' => Hp w w' [] [rowB (.slice s.2.2.1 s.2.1.length s.2.2.2) s.2.1] ∧ s.1 ≤ ps.length ∧ s.2.1 = O ++ List.replicate s.1 61) (μ := fun s => ps.length - s.1) (0, O, A3, c3) ⟨rfl, trivial⟩ ⟨H, by omega, by simp⟩ ?_
    clear H
    rintro ⟨k, acc, A4, c4⟩ f w_ ⟨H, hk, hacc⟩
    simp only at H hk hacc ⊢
    have hal : acc.length = m + k := by rw [hacc, List.length_append, List.length_replicate, hll]
    repeat' (first | (with_reducible first | refine wp_seq ?_ | refine w_reg ?_) | ((with_reducible refine g_on ?_); (first | ((with_reducible refine g_mv ?_); refine l_p txs rfl rfl ?_) | ((with_reducible refine g_cl ?_); refine l_p txs rfl rfl ?_))))
    (with_reducible refine is_l ?_); refine l_rem rfl rfl (by omega) (by decide) ?_
    skip
    (with_reducible refine is_l ?_); refine l_t txs rfl rfl (fun hne => ?_) (fun heq => ?_)
    · repeat' (first | (with_reducible first | refine p_tn ?_ | refine wp_block ?_ | refine w_reg ?_) | (with_reducible (refine is_if ?_; (refine w_ift rfl ?_))) | (with_reducible first | refine wp_skip ?_ | refine l_nil ?_) | ((with_reducible refine g_on ?_); ((with_reducible refine g_mv ?_); refine l_p txs rfl rfl ?_)))
      (with_reducible refine is_l ?_); refine h_bs H info_u8 Tryz.underlying34 (by decide) (by decide) rfl rfl (by kernel_rfl) (fun g_ w_ H => ?_)
      (with_reducible refine is_l ?_); refine h_app H 0 rfl info_u8 Tryz.underlying34 rfl rfl rfl rfl (H.cellRd 0 rfl) rfl rfl (by show (acc.length + 1) * 1 ≤ _; omega) (fun v w_ hv H => ?_)
      obtain ⟨A', c', rfl⟩ := hv
      have H := H.pick [] [0] (by decide) (by decide) rfl rfl
      repeat' (first | (with_reducible first | refine p_tn ?_ | refine p_bn ?_ | refine l_nil ?_) | ((with_reducible refine g_on ?_); ((with_reducible refine g_as ?_); refine l_p txs rfl rfl ?_)))
      have hal2 : (acc ++ [61]).length = acc.length + 1 := by rw [List.length_append, List.length_singleton]
      have hlt : k < ps.length := by
        rcases Nat.lt_or_ge k ps.length with h | h
        · exact h
        · exfalso
          apply hne
          have hk2 : k = ps.length := by omega
          rw [hal, hk2]
          omega
      refine ⟨(k + 1, acc ++ [61], A', c'), _, rfl, ⟨by show _ = Value.slice A' (acc ++ [61]).length c'; rw [hal2]; rfl, trivial⟩, ⟨?_, by show k + 1 ≤ ps.length; omega, by show acc ++ [61] = O ++ List.replicate (k + 1) 61; rw [hacc, List.append_assoc, List.replicate_succ']⟩, by show _ - (k + 1) < _ - k; omega⟩
      show Hp w _ [] [rowB (.slice A' (acc ++ [61]).length c') (acc ++ [61])]
      unfold rowB
      rw [hal2, nums_snoc]
      exact H
    · have heq : ((acc.length : Int)) % 4 = 0 := Classical.not_not.1 heq
      have hkp : k = ps.length := by omega
      have hfin : acc = enc64 l := by rw [hacc, hkp, ← pr1, hle]
      repeat' (first | (with_reducible first | refine p_tn ?_ | refine p_tx ?_ | refine x_hit ?_ | refine wp_seq ?_ | refine w_reg ?_) | (with_reducible (refine is_if ?_; (refine w_iff rfl ?_))) | (with_reducible first | refine wp_exit ?_ | refine l_nil ?_) | ((with_reducible refine g_on ?_); ((with_reducible refine g_mv ?_); refine l_p txs rfl rfl ?_)))
      (with_reducible refine is_l ?_); refine l_text rfl rfl Tryz.underlying34 Tryz.underlying5 Tryz.underlying9 (rowB_rd H 0 (F := A4) (f := c4) (x := acc) rfl).1 ?_
      repeat' (first | (with_reducible first | refine p_tn ?_ | refine wp_ret ?_ | refine l_nil ?_) | ((with_reducible refine g_on ?_); ((with_reducible refine g_as ?_); refine l_p txs rfl rfl ?_)))
      refine end1 rfl rfl ?_
      exact ⟨by rw [hfin], H.B⟩
end Go.Proofs.YtnimaenhijlcmaaGreatDoor.K.Ref
end
section
namespace Go.Proofs.YtnimaenhijlcmaaGreatDoor.K
open Go.RowKit Go.Proofs.YtnimaenhijlcmaaGreatDoor.Q Go.Proofs.YtnimaenhijlcmaaGreatDoor.Mb Go.Proofs.YtnimaenhijlcmaaGreatDoorW.PrintWords
set_option linter.unusedVariables false
set_option linter.unusedSimpArgs false
def DeR (w : World) (o : Option L) (n : Int) (e : Ending) (w' : World) : Prop := match o with
  | none => e = .returned (.tuple #[.slice none 0 0, .int .i64 n]) ∧ Below w.heap.size w w'
  | some l => ∃ A c, e = .returned (.tuple #[.slice A l.length c, .int .i64 0]) ∧ Hp w w' [] [rowB (.slice A l.length c) l]
theorem der_none {w w' : World} {o : Option L} {n : Int} {e : Ending} (ho : o = none) (he : e = .returned (.tuple #[.slice none 0 0, .int .i64 n])) (hb : Below w.heap.size w w') : DeR w o n e w' := by
  subst ho
  exact ⟨he, hb⟩
theorem der_some {w w' : World} {o : Option L} {l : L} {n : Int} {e : Ending} {A : Option Addr} {c : Nat} (ho : o = some l) (he : e = .returned (.tuple #[.slice A l.length c, .int .i64 0])) (H : Hp w w' [] [rowB (.slice A l.length c) l]) : DeR w o n e w' := by
  subst ho
  exact ⟨A, c, he, H⟩
theorem trimE_sub (s : L) : ∀ y ∈ trimE s, y ∈ s := by
  intro y hy
  rcases trimE_cases s with ⟨l, h1, h2⟩ | ⟨_, h2⟩
  · rw [h2] at hy
    rw [h1]
    exact List.mem_append_left _ hy
  · rw [h2] at hy
    exact hy
theorem trimE_len (s : L) : (trimE s).length ≤ s.length := by
  rcases trimE_cases s with ⟨l, h1, h2⟩ | ⟨_, h2⟩
  · rw [h2, h1, List.length_append]; omega
  · rw [h2]; exact Nat.le_refl _
set_option maxRecDepth 100000 in
set_option maxHeartbeats 8000000 in
theorem dec_c (t : ByteArray) (w : World) :
    Calls Tryz.prog 53 #[.string t] w fun e w' => DeR w (if 1048576 < t.size then none else b64D (bl t)) (if 1048576 < t.size then 2 else 60) e w' := by
  have hlen := bl_length t
  refine enter (args := [.string t]) Tryz.func53 rfl Tryz.ntmps53 rfl ?_
  have H := Hp.nil w
  repeat' (first | (with_reducible first | refine p_tn ?_ | refine wp_seq ?_ | refine w_reg ?_ | refine l_nil ?_) | ((with_reducible refine g_on ?_); (first | ((with_reducible refine g_mv ?_); refine l_p txs rfl rfl ?_) | ((with_reducible refine g_as ?_); refine l_p txs rfl rfl ?_) | ((with_reducible refine g_cl ?_); refine l_p txs rfl rfl ?_))))
  (with_reducible refine is_l ?_); refine l_t txs rfl rfl (fun hbig => ?_) (fun hsm => ?_)
  · rw [if_pos (by omega), if_pos (by omega)]
    have hno : (none : Option L) = none := rfl
    repeat' (first | (with_reducible first | refine p_tn ?_ | refine p_tr ?_ | refine wp_seq ?_ | refine w_reg ?_) | (with_reducible (refine is_if ?_; (refine w_ift rfl ?_))) | (with_reducible first | refine wp_ret ?_ | refine l_nil ?_) | ((with_reducible refine g_on ?_); ((with_reducible refine g_as ?_); refine l_p txs rfl rfl ?_)))
    refine end2 rfl rfl rfl ?_
    exact der_none hno rfl H.B
  rw [if_neg (by omega), if_neg (by omega)]
  have hB : b64D (bl t) = if (bl t).length % 4 = 0 then decG (trimE (trimE (bl t))) 0 0 else none := rfl
  repeat' (first | (with_reducible first | refine p_tn ?_ | refine wp_seq ?_ | refine w_reg ?_) | (with_reducible (refine is_if ?_; (refine w_iff rfl ?_))) | (with_reducible first | refine wp_skip ?_ | refine l_nil ?_) | ((with_reducible refine g_on ?_); (first | ((with_reducible refine g_mv ?_); refine l_p txs rfl rfl ?_) | ((with_reducible refine g_cl ?_); refine l_p txs rfl rfl ?_))))
  (with_reducible refine is_l ?_); refine l_rem rfl rfl (by omega) (by decide) ?_
  skip
  (with_reducible refine is_l ?_); refine l_t txs rfl rfl (fun h4 => ?_) (fun h4 => ?_)
  · have hno : b64D (bl t) = none := by rw [hB, if_neg (by omega)]
    repeat' (first | (with_reducible first | refine p_tn ?_ | refine p_tr ?_ | refine wp_seq ?_ | refine w_reg ?_) | (with_reducible (refine is_if ?_; (refine w_ift rfl ?_))) | (with_reducible first | refine wp_ret ?_ | refine l_nil ?_) | ((with_reducible refine g_on ?_); ((with_reducible refine g_as ?_); refine l_p txs rfl rfl ?_)))
    refine end2 rfl rfl rfl ?_
    exact der_none hno rfl H.B
  rw [if_pos (by omega)] at hB
  have b1 : Bytes (trimE (bl t)) := fun y hy => bl_bytes t y (trimE_sub _ y hy)
  have b2 : Bytes (trimE (trimE (bl t))) := fun y hy => b1 y (trimE_sub _ y hy)
  have l1 := trimE_len (bl t)
  have l2 := trimE_len (trimE (bl t))
  have e61 : bl (⟨#[61]⟩ : ByteArray) = [61] := rfl
  have t1 := trimSuf_c t ⟨#[61]⟩ w (by omega)
  rw [e61] at t1
  have t1 : Calls Tryz.prog 84 #[.string t, .string ⟨#[61]⟩] w fun e w' => e = .returned (.string (strOfNums (trimE (bl t)))) ∧ w' = w := t1
  have t2 := trimSuf_c (strOfNums (trimE (bl t))) ⟨#[61]⟩ w (by rw [← bl_length, blS b1]; omega)
  rw [e61, blS b1] at t2
  have t2 : Calls Tryz.prog 84 #[.string (strOfNums (trimE (bl t))), .string ⟨#[61]⟩] w fun e w' => e = .returned (.string (strOfNums (trimE (trimE (bl t))))) ∧ w' = w := t2
  repeat' (first | (with_reducible first | refine p_tn ?_ | refine wp_seq ?_ | refine w_reg ?_) | (with_reducible (refine is_if ?_; (refine w_iff rfl ?_))) | (with_reducible first | refine wp_skip ?_ | refine l_nil ?_) | ((with_reducible refine g_on ?_); ((with_reducible refine g_mv ?_); refine l_p txs rfl rfl ?_)))
  (with_reducible refine is_l ?_); refine l_callp rfl rfl (by kernel_rfl) t1 ?_
  skip
  (with_reducible refine is_l ?_); refine l_callp rfl rfl (by kernel_rfl) t2 ?_
  generalize hs : trimE (trimE (bl t)) = s at hB b2 l2 ⊢
  have hz : (strOfNums s).size = s.length := by rw [← bl_length, blS b2]
  repeat' (first | (with_reducible first | refine p_tn ?_ | refine wp_seq ?_ | refine w_reg ?_ | refine l_nil ?_) | ((with_reducible refine g_on ?_); (first | ((with_reducible refine g_mv ?_); refine l_p txs rfl rfl ?_) | ((with_reducible refine g_as ?_); refine l_p txs rfl rfl ?_) | ((with_reducible refine g_cl ?_); refine l_p txs rfl rfl ?_))))
  (with_reducible refine is_l ?_); refine l_bii rfl rfl rfl (quoZ _ 4 (by omega) (by omega) (by decide) rfl) ?_
  repeat' ((with_reducible refine g_on ?_); ((with_reducible refine g_bi ?_); (refine l_a txs rfl rfl (by first | exact in_i64 (by omega) (by omega) | exact in_u8 (by omega) (by omega) | exact in_u64 (by omega) (by omega) | exact in_i32 (by omega) (by omega)) ?_)))
  (with_reducible refine is_l ?_); refine h_mk0 (c := t.size / 4 * 3) H info_u8 Tryz.underlying34 rfl rfl rfl (by omega) (by omega) (by simp only [maxLen]; omega) (fun gm w_ H => ?_)
  repeat' (first | (with_reducible first | refine p_tn ?_ | refine wp_seq ?_ | refine wp_block ?_ | refine w_reg ?_ | refine l_nil ?_) | ((with_reducible refine g_on ?_); (first | ((with_reducible refine g_mv ?_); refine l_p txs rfl rfl ?_) | ((with_reducible refine g_as ?_); refine l_p txs rfl rfl ?_) | ((with_reducible refine g_cl ?_); refine l_p txs rfl rfl ?_))))
  refine w_loop (σ := Nat × L × Int × Nat × Option Addr × Nat) (S := fun q => [(4, .string (strOfNums s)), (5, .slice q.2.2.2.2.1 q.2.1.length q.2.2.2.2.2), (6, .int .i64 q.2.2.1), (7, .int .i64 (q.2.2.2.1 : Int)), (26, .int .i64 ((strOfNums s).size : Int)), (27, .int .i64 (q.1 : Int))])
    (J := fun q w' => Hp w w' [] [rowB (.slice q.2.2.2.2.1 q.2.1.length q.2.2.2.2.2) q.2.1] ∧ q.1 ≤ s.length ∧ q.2.1.length ≤ q.1 ∧ 0 ≤ q.2.2.1 ∧ ((q.2.2.2.1 = 0 ∧ q.2.2.1 = 0) ∨ ∃ (h : Nat) (p : Int), q.2.2.2.1 = h + 2 ∧ p = 2 ^ h ∧ ((h = 0 ∧ p = 1 ∧ q.2.2.1 < 4) ∨ (h = 2 ∧ p = 4 ∧ q.2.2.1 < 16) ∨ (h = 4 ∧ p = 16 ∧ q.2.2.1 < 64))) ∧ decG s 0 0 = (decG (s.drop q.1) q.2.2.1 q.2.2.2.1).map (q.2.1 ++ ·)) (μ := fun q => s.length - q.1) (0, [], 0, 0, some ⟨gm, 0, none⟩, t.size / 4 * 3) ⟨rfl, rfl, rfl, rfl, rfl, rfl, trivial⟩ ⟨H, by omega, by simp, by show (0 : Int) ≤ 0; omega, .inl ⟨rfl, rfl⟩, by show decG s 0 0 = (decG s 0 0).map (fun z => [] ++ z); cases decG s 0 0 <;> rfl⟩ ?_
  clear H
  rintro ⟨i, acc, bits, held, A2, c2⟩ f w_ ⟨H, hi, hal, hb0, hst, hV⟩
  simp only at H hi hal hb0 hst hV ⊢
  repeat' (with_reducible first | refine wp_seq ?_ | refine w_reg ?_)
  (with_reducible refine is_l ?_); refine l_t txs rfl rfl (fun hlt => ?_) (fun hge => ?_)
  · obtain ⟨x, hx⟩ : ∃ x, s[i]? = some x := ⟨_, List.getElem?_eq_getElem (by omega)⟩
    have hx2 := b2 x (List.mem_of_getElem? hx)
    have hat : at_ (bl (strOfNums s)) (i : Int) = x := by rw [blS b2]; unfold at_; rw [Int.toNat_natCast, List.getD_eq_getElem?_getD, hx]; rfl
    have hdr : s.drop i = x :: s.drop (i + 1) := by
      obtain ⟨h1, h2⟩ := List.getElem?_eq_some_iff.1 hx
      rw [List.drop_eq_getElem_cons h1, h2]
    rw [hdr] at hV
    repeat' (first | (with_reducible first | refine p_tn ?_ | refine wp_seq ?_ | refine wp_block ?_ | refine w_reg ?_) | (with_reducible (refine is_if ?_; (refine w_ift rfl ?_))) | (with_reducible first | refine wp_skip ?_ | refine l_nil ?_) | ((with_reducible refine g_on ?_); (first | ((with_reducible refine g_mv ?_); refine l_p txs rfl rfl ?_) | ((with_reducible refine g_as ?_); refine l_p txs rfl rfl ?_) | ((with_reducible refine g_ix ?_); refine l_ix txs rfl rfl (by first | omega | assumption | decide) (by first | omega | assumption | decide) ?_))))
    rw [hat]
    skip
    (with_reducible refine is_l ?_); refine l_callp rfl rfl (by kernel_rfl) (value_c x hx2.1 hx2.2 _) ?_
    have hvc := val_cases x
    generalize hv : val x = v at hvc ⊢
    repeat' (first | (with_reducible first | refine p_tn ?_ | refine wp_seq ?_ | refine w_reg ?_ | refine l_nil ?_) | ((with_reducible refine g_on ?_); (first | ((with_reducible refine g_mv ?_); refine l_p txs rfl rfl ?_) | ((with_reducible refine g_as ?_); refine l_p txs rfl rfl ?_))))
    (with_reducible refine is_l ?_); refine l_t txs rfl rfl (fun hneg => ?_) (fun hpos => ?_)
    · have hno : b64D (bl t) = none := by rw [hB, hV, decG_bad _ _ _ (by omega)]; rfl
      repeat' (first | (with_reducible first | refine p_tn ?_ | refine p_tr ?_ | refine p_br ?_ | refine wp_seq ?_ | refine w_reg ?_) | (with_reducible (refine is_if ?_; (refine w_ift rfl ?_))) | (with_reducible first | refine wp_ret ?_ | refine l_nil ?_) | ((with_reducible refine g_on ?_); ((with_reducible refine g_as ?_); refine l_p txs rfl rfl ?_)))
      refine end2 rfl rfl rfl ?_
      exact der_none hno rfl H.B
    have hbl : bits < 64 := by rcases hst with ⟨_, h⟩ | ⟨_, _, _, _, ⟨_, _, h⟩ | ⟨_, _, h⟩ | ⟨_, _, h⟩⟩ <;> omega
    have hhl : held ≤ 6 := by rcases hst with ⟨h, _⟩ | ⟨_, _, h, _, ⟨_, _, _⟩ | ⟨_, _, _⟩ | ⟨_, _, _⟩⟩ <;> omega
    repeat' (first | (with_reducible first | refine p_tn ?_ | refine wp_seq ?_ | refine w_reg ?_) | (with_reducible (refine is_if ?_; (refine w_iff rfl ?_))) | (with_reducible first | refine wp_skip ?_ | refine l_nil ?_) | ((with_reducible refine g_on ?_); ((with_reducible refine g_mv ?_); refine l_p txs rfl rfl ?_)))
    (with_reducible refine is_l ?_); refine l_bii (z := .int .i64 (bits * 64)) rfl rfl rfl (shlI _ _ 6 (by decide) (x := bits) (z := bits * 64) rfl (by omega) (by omega)) ?_
    repeat' ((with_reducible refine g_on ?_); ((with_reducible refine g_mv ?_); refine l_p txs rfl rfl ?_))
    (with_reducible refine is_l ?_); refine l_bii (z := .int .i64 (bits * 64 + v)) rfl rfl rfl (orI _ _ 6 (by decide) (x := bits * 64) (y := v) (by omega) (by omega) (by omega) (by omega) (by omega) rfl) ?_
    repeat' (first | (with_reducible first | refine p_tn ?_ | refine wp_seq ?_ | refine w_reg ?_ | refine l_nil ?_) | ((with_reducible refine g_on ?_); (first | ((with_reducible refine g_mv ?_); refine l_p txs rfl rfl ?_) | ((with_reducible refine g_as ?_); refine l_p txs rfl rfl ?_) | ((with_reducible refine g_bi ?_); (refine l_a txs rfl rfl (by first | exact in_i64 (by omega) (by omega) | exact in_u8 (by omega) (by omega) | exact in_u64 (by omega) (by omega) | exact in_i32 (by omega) (by omega)) ?_)))))
    rcases hst with ⟨rfl, rfl⟩ | ⟨h, p, rfl, hp, hpp⟩
    · rw [decG_0 _ _ (by omega), hv] at hV
      (with_reducible refine is_l ?_); refine l_t txs rfl rfl (fun h8 => absurd h8 (by omega)) (fun _ => ?_)
      repeat' (first | (with_reducible first | refine p_tn ?_ | refine p_bn ?_ | refine w_reg ?_) | (with_reducible (refine is_if ?_; (refine w_iff rfl ?_))) | (with_reducible first | refine wp_skip ?_ | refine l_nil ?_) | ((with_reducible refine g_on ?_); (first | ((with_reducible refine g_mv ?_); refine l_p txs rfl rfl ?_) | ((with_reducible refine g_bi ?_); (refine l_a txs rfl rfl (by first | exact in_i64 (by omega) (by omega) | exact in_u8 (by omega) (by omega) | exact in_u64 (by omega) (by omega) | exact in_i32 (by omega) (by omega)) ?_)))))
      exact ⟨(i + 1, acc, 0 * 64 + v, 6, A2, c2), _, rfl, ⟨rfl, rfl, rfl, rfl, rfl, rfl, trivial⟩, ⟨H, by show i + 1 ≤ _; omega, by show acc.length ≤ i + 1; omega, by show 0 ≤ 0 * 64 + v; omega, .inr ⟨4, 16, rfl, by decide, .inr (.inr ⟨rfl, rfl, by show 0 * 64 + v < 64; omega⟩)⟩, hV⟩, by show _ - (i + 1) < _ - i; omega⟩
    · rw [decG_n _ _ (by omega) (by omega), hv, show h + 2 - 2 = h by omega, ← hp, map_map_cons] at hV
      generalize hN : bits * 64 + v = N at hV ⊢
      have hq : 0 ≤ N / p ∧ N / p ≤ 255 := by rcases hpp with ⟨_, rfl, _⟩ | ⟨_, rfl, _⟩ | ⟨_, rfl, _⟩ <;> omega
      have hm : 0 ≤ N % p ∧ N % p < p := by rcases hpp with ⟨_, rfl, _⟩ | ⟨_, rfl, _⟩ | ⟨_, rfl, _⟩ <;> omega
      have hp16 : 1 ≤ p ∧ p ≤ 16 ∧ h ≤ 4 := by rcases hpp with ⟨_, rfl, _⟩ | ⟨_, rfl, _⟩ | ⟨_, rfl, _⟩ <;> omega
      rw [show N / p % 256 = N / p by omega] at hV
      generalize hy : N / p = y at hq hV
      generalize hmm : N % p = m at hm hV
      (with_reducible refine is_l ?_); refine l_t txs rfl rfl (fun _ => ?_) (fun h8 => absurd (by omega) h8)
      have hh8 : ((h + 2 : Nat) : Int) + 6 - 8 = (h : Int) := by omega
      repeat' (first | (with_reducible first | refine p_tn ?_ | refine wp_seq ?_ | refine w_reg ?_) | (with_reducible (refine is_if ?_; (refine w_ift rfl ?_))) | (with_reducible refine l_nil ?_) | ((with_reducible refine g_on ?_); (first | ((with_reducible refine g_mv ?_); refine l_p txs rfl rfl ?_) | ((with_reducible refine g_as ?_); refine l_p txs rfl rfl ?_) | ((with_reducible refine g_bi ?_); (refine l_a txs rfl rfl (by first | exact in_i64 (by omega) (by omega) | exact in_u8 (by omega) (by omega) | exact in_u64 (by omega) (by omega) | exact in_i32 (by omega) (by omega)) ?_)))))
      rw [hh8]
      (with_reducible refine is_l ?_); refine l_bii (z := .int .i64 y) rfl rfl rfl (shrI _ _ h (by omega) (x := N) (z := y) (by omega) (by rw [← hp, hy])) ?_
      repeat' ((with_reducible refine g_on ?_); ((with_reducible refine g_cv ?_); (refine l_a txs rfl rfl (by first | exact in_i64 (by omega) (by omega) | exact in_u8 (by omega) (by omega) | exact in_u64 (by omega) (by omega) | exact in_i32 (by omega) (by omega)) ?_)))
      (with_reducible refine is_l ?_); refine h_bs H info_u8 Tryz.underlying34 (by decide) (by decide) rfl rfl (by kernel_rfl) (fun g_ w_ H => ?_)
      (with_reducible refine is_l ?_); refine h_app H 0 rfl info_u8 Tryz.underlying34 rfl rfl rfl rfl (H.cellRd 0 rfl) rfl rfl (by show (acc.length + 1) * 1 ≤ _; omega) (fun v w_ hv H => ?_)
      obtain ⟨A', c', rfl⟩ := hv
      have H := H.pick [] [0] (by decide) (by decide) rfl rfl
      have H : Hp w w_ [] [rowB (.slice A' (acc.length + 1) c') (acc ++ [y])] := by
        unfold rowB
        rw [nums_snoc, List.length_append, List.length_singleton]
        exact H
      have hal2 : (acc ++ [y]).length = acc.length + 1 := by rw [List.length_append, List.length_singleton]
      repeat' (first | (with_reducible first | refine p_tn ?_ | refine w_reg ?_ | refine l_nil ?_) | ((with_reducible refine g_on ?_); (first | ((with_reducible refine g_mv ?_); refine l_p txs rfl rfl ?_) | ((with_reducible refine g_as ?_); refine l_p txs rfl rfl ?_))))
      (with_reducible refine is_l ?_); refine l_bii (z := .int .i64 p) rfl rfl rfl (shlI _ _ h (by omega) (x := 1) (z := p) (by rw [hp]; omega) (by omega) (by omega)) ?_
      repeat' ((with_reducible refine g_on ?_); ((with_reducible refine g_bi ?_); (refine l_a txs rfl rfl (by first | exact in_i64 (by omega) (by omega) | exact in_u8 (by omega) (by omega) | exact in_u64 (by omega) (by omega) | exact in_i32 (by omega) (by omega)) ?_)))
      (with_reducible refine is_l ?_); refine l_bii (z := .int .i64 m) rfl rfl rfl (andI _ _ h (by omega) (x := N) (m := p - 1) (z := m) (by rw [hp]) (by omega) (by omega) (by rw [← hp, hmm])) ?_
      repeat' (first | (with_reducible first | refine p_tn ?_ | refine p_bn ?_ | refine w_reg ?_ | refine l_nil ?_) | ((with_reducible refine g_on ?_); (first | ((with_reducible refine g_mv ?_); refine l_p txs rfl rfl ?_) | ((with_reducible refine g_as ?_); refine l_p txs rfl rfl ?_) | ((with_reducible refine g_bi ?_); (refine l_a txs rfl rfl (by first | exact in_i64 (by omega) (by omega) | exact in_u8 (by omega) (by omega) | exact in_u64 (by omega) (by omega) | exact in_i32 (by omega) (by omega)) ?_)))))
      refine ⟨(i + 1, acc ++ [y], m, h, A', c'), _, rfl, ⟨rfl, by show _ = Value.slice A' (acc ++ [y]).length c'; rw [hal2]; rfl, rfl, rfl, rfl, rfl, trivial⟩, ⟨by rw [hal2]; exact H, by show i + 1 ≤ _; omega, by show (acc ++ [y]).length ≤ i + 1; omega, hm.1, ?_, hV⟩, by show _ - (i + 1) < _ - i; omega⟩
      show (h = 0 ∧ m = 0) ∨ _
      rcases hpp with ⟨h0, h1, _⟩ | ⟨h0, h1, _⟩ | ⟨h0, h1, _⟩
      · exact .inl ⟨h0, by omega⟩
      · exact .inr ⟨0, 1, h0, by decide, .inl ⟨rfl, rfl, by show m < 4; omega⟩⟩
      · exact .inr ⟨2, 4, h0, by decide, .inr (.inl ⟨rfl, rfl, by show m < 16; omega⟩)⟩
  · have hnil : s.drop i = [] := List.drop_eq_nil_of_le (by omega)
    rw [hnil, decG_nil] at hV
    repeat' (first | (with_reducible first | refine p_tn ?_ | refine p_tx ?_ | refine x_hit ?_ | refine wp_seq ?_ | refine w_reg ?_) | (with_reducible (refine is_if ?_; (refine w_iff rfl ?_))) | (with_reducible first | refine wp_exit ?_ | refine l_nil ?_) | ((with_reducible refine g_on ?_); ((with_reducible refine g_mv ?_); refine l_p txs rfl rfl ?_)))
    (with_reducible refine is_l ?_); refine l_t txs rfl rfl (fun hne => ?_) (fun heq => ?_)
    · have hno : b64D (bl t) = none := by rw [hB, hV, if_neg hne]; rfl
      repeat' (first | (with_reducible first | refine p_tn ?_ | refine p_tr ?_ | refine wp_seq ?_ | refine w_reg ?_) | (with_reducible (refine is_if ?_; (refine w_ift rfl ?_))) | (with_reducible first | refine wp_ret ?_ | refine l_nil ?_) | ((with_reducible refine g_on ?_); ((with_reducible refine g_as ?_); refine l_p txs rfl rfl ?_)))
      refine end2 rfl rfl rfl ?_
      exact der_none hno rfl H.B
    · have hso : b64D (bl t) = some acc := by rw [hB, hV, if_pos (Classical.not_not.1 heq)]; simp
      repeat' (first | (with_reducible first | refine p_tn ?_ | refine wp_seq ?_ | refine w_reg ?_) | (with_reducible (refine is_if ?_; (refine w_iff rfl ?_))) | (with_reducible first | refine wp_skip ?_ | refine wp_ret ?_ | refine l_nil ?_) | ((with_reducible refine g_on ?_); (first | ((with_reducible refine g_mv ?_); refine l_p txs rfl rfl ?_) | ((with_reducible refine g_as ?_); refine l_p txs rfl rfl ?_))))
      refine end2 rfl rfl rfl ?_
      exact der_some hso rfl H
end Go.Proofs.YtnimaenhijlcmaaGreatDoor.K
end
section
namespace Go.Proofs.YtnimaenhijlcmaaGreatDoor.K.Rec
open Go.RowKit Go.Proofs.YtnimaenhijlcmaaGreatDoor.Q Go.Proofs.YtnimaenhijlcmaaGreatDoor.K Go.Proofs.YtnimaenhijlcmaaGreatDoor.Mb Go.Proofs.YtnimaenhijlcmaaGreatDoorW.PrintWords
set_option linter.unusedVariables false
set_option linter.unusedSimpArgs false
abbrev zL : L := [0, 0, 0, 0, 0, 0, 0, 0, 0, 0, 0, 0, 0, 0, 0, 0, 0, 0, 0, 0, 0, 0, 0, 0, 0, 0, 0, 0, 0, 0, 0, 0]
def rt : Nat → Option (List Value)
  | 22 => some (nums .u8 zL)
  | 87 => some [.string ⟨#[]⟩, .string ⟨#[]⟩, .string ⟨#[]⟩]
  | t => K.rt t
theorem recOkA : RecOk Tryz.prog 22 (nums .u8 zL) := ⟨⟨_, Tryz.underlying22, rfl⟩, by kernel_rfl⟩
theorem recOkB : RecOk Tryz.prog 87 [.string ⟨#[]⟩, .string ⟨#[]⟩, .string ⟨#[]⟩] := ⟨⟨_, Tryz.underlying87, rfl⟩, by kernel_rfl⟩
theorem recs : Recs Tryz.prog rt := by
  intro t zs h
  unfold rt at h
  split at h
  · cases h; exact recOkA
  · cases h; exact recOkB
  · exact K.recs t zs h
section
variable {P : Program} {n : Nat} {ops : Array Oper} {Q : Exit → Act → World → Prop} {rest : List Oper} {f : Fr} {w w0 : World} {d : Option Nat} {op : Op} {tt : TypeId} {ps : String} {af : Array Edge} {gd : Option (Nat × Bool)} {l l' : List Ent} {r : List RowD}
theorem l_slW {t e : TypeId} {m : Nat} {x : Operand} {g : Nat} (ht : P.underlying t = some (.array m e)) (he : (P.info? e).map (·.size) = some 1) (hw : want n ops f ⟨d, .slice t x none none none, tt, ps, af, gd⟩ = true) (hx : nf (X n f x) = some (.pointer (some ⟨g, 0, none⟩)))
    (h : WL P ops Q rest (act n (put f d (.slice (some ⟨g, 0, none⟩) m m))) w) : WL P ops Q (⟨d, .slice t x none none none, tt, ps, af, gd⟩ :: rest) (act n f) w := by
  refine l_val hw ?_ h
  have hx' := nf_eq hx
  obtain ⟨i0, hi, hz⟩ := Option.map_eq_some_iff.1 he
  unfold execOp
  have hel : P.elem t = e := by simp [Program.elem, ht]
  simp [go_sem, ← hx', Instr.sliceAt, Instr.slice, Instr.sliceBounds, Instr.sliceBound, run_underlying ht, sizeOf, typeInfo, hi, hz, hel, Addr.add_lit]
theorem l_s2a {t e : TypeId} {m q c : Nat} {x : Operand} {A : Option Addr} (ht : P.underlying t = some (.array m e)) (hw : want n ops f ⟨d, .sliceToArrayPointer t x, tt, ps, af, gd⟩ = true) (hx : nf (X n f x) = some (.slice A q c)) (hm : m ≤ q)
    (h : WL P ops Q rest (act n (put f d (.pointer A))) w) : WL P ops Q (⟨d, .sliceToArrayPointer t x, tt, ps, af, gd⟩ :: rest) (act n f) w := by
  refine l_val hw ?_ h
  have hx' := nf_eq hx
  have hlt : ¬ q < m := by omega
  unfold execOp
  simp [go_sem, ← hx', Instr.arrayAt, run_underlying ht, hlt]
end
theorem nums_one (x : L) : (nums .u8 x).all (·.oneCell') = true := by
  unfold nums
  rw [List.all_map, List.all_eq_true]
  intro y _
  rfl
theorem nums_length (x : L) : (nums .u8 x).length = x.length := by simp [nums]
set_option maxHeartbeats 4000000 in
theorem Sum_c (x : L) (hb : Bytes x) (hx : x.length = 32) (w : World) : Calls Tryz.prog 23 #[.agg (nums .u8 x).toArray] w fun e w' => e = .returned (.string (strOfNums (sumS x))) ∧ Below w.heap.size w w' := by
  refine enter (args := [.agg (nums .u8 x).toArray]) Tryz.func23 rfl Tryz.ntmps23 rfl ?_
  have H := Hp.nil w
  have hn : (nums .u8 x).length = 32 := by rw [nums_length, hx]
  have e1 : (⟨#[104, 49, 58]⟩ : ByteArray) ++ strOfNums (enc64 x) = strOfNums (sumS x) := by
    refine bl_inj ?_
    rw [bl_cat, blS (enc64_bytes hb), blS]
    · rfl
    · intro y hy
      rcases List.mem_append.1 hy with hy | hy
      · unfold h1S at hy
        simp only [List.mem_cons, List.not_mem_nil, or_false] at hy
        rcases hy with rfl | rfl | rfl <;> omega
      · exact enc64_bytes hb y hy
  repeat' (with_reducible first | refine wp_seq ?_ | refine w_reg ?_)
  (with_reducible refine is_l ?_); refine h_box H rfl rfl (nfL_eq _ _) (fun gX w_ H => ?_)
  repeat' (first | (with_reducible first | refine p_tn ?_ | refine wp_seq ?_ | refine w_reg ?_ | refine l_nil ?_) | ((with_reducible refine g_on ?_); ((with_reducible refine g_as ?_); refine l_p txs rfl rfl ?_)))
  (with_reducible refine is_l ?_); refine l_slW Tryz.underlying22 one0_1 rfl rfl ?_
  skip
  have he := enc_c (w := w_) (g := gX) (j := 0) (c := 32) x hb (by omega) (by omega) (fun i v hv => by rw [Nat.zero_add]; exact H.cellAt 0 rfl hv)
  rw [hx] at he
  (with_reducible refine is_l ?_); refine l_callv rfl rfl (by kernel_rfl) he (fun w_ K => ?_)
  have H := H.call K
  skip
  (with_reducible refine is_l ?_); refine l_cat rfl rfl (by
    rw [← bl_length (strOfNums (enc64 x)), blS (enc64_bytes hb), enc64_length, hx]
    decide) ?_
  repeat' (first | (with_reducible first | refine p_tn ?_ | refine wp_ret ?_ | refine l_nil ?_) | ((with_reducible refine g_on ?_); ((with_reducible refine g_as ?_); refine l_p txs rfl rfl ?_)))
  refine end1 rfl rfl ?_
  exact ⟨by rw [e1], H.B⟩
theorem pre_take (s p : List UInt8) : p.isPrefixOf s = decide ((s.map fun b => (b.toNat : Int)).take p.length = p.map fun b => (b.toNat : Int)) := by
  rw [← List.map_take]
  by_cases h : p.isPrefixOf s = true
  · rw [h]
    have h1 := List.isPrefixOf_iff_prefix.1 h
    have h2 := List.prefix_iff_eq_take.1 h1
    rw [decide_eq_true (by rw [← h2])]
  · rw [Bool.not_eq_true] at h
    rw [h, decide_eq_false (fun e => ?_)]
    have h2 := map_inj8 e
    have h1 : p.isPrefixOf s = true := List.isPrefixOf_iff_prefix.2 (List.prefix_iff_eq_take.2 h2.symm)
    rw [h] at h1
    cases h1
theorem cutPre_c (t p : ByteArray) (w : World) : Calls Tryz.prog 52 #[.string t, .string p] w fun e w' => e = .returned (.tuple #[.string (strOfNums (if (bl t).take p.size = bl p then (bl t).drop p.size else bl t)), .bool (decide ((bl t).take p.size = bl p))]) ∧ w' = w := by
  refine (Tryz.strings_CutPrefix t p w).mono fun e w' ⟨h1, h2⟩ => ⟨?_, h2⟩
  rw [h1]
  have hs := pre_take t.data.toList p.data.toList
  have hs : p.data.toList.isPrefixOf t.data.toList = decide ((bl t).take p.size = bl p) := hs
  unfold Lib.trimPrefix Lib.hasPrefix
  rw [hs]
  by_cases h : (bl t).take p.size = bl p
  · rw [if_pos h, decide_eq_true h]
    have : strOfNums ((bl t).drop p.size) = ⟨(t.data.toList.drop p.data.toList.length).toArray⟩ := by
      refine bl_inj ?_
      rw [blS (fun y hy => bl_bytes t y (List.mem_of_mem_drop hy))]
      show (bl t).drop p.data.toList.length = (t.data.toList.drop p.data.toList.length).map _
      rw [List.map_drop]
      rfl
    rw [this]
    rfl
  · rw [if_neg h, decide_eq_false h, strS]
    rfl
theorem parSum_if (s : L) : parSum s = if s.take 3 = h1S then (match b64D (s.drop 3) with | some l => if l.length = 32 then some l else none | none => none) else none := by
  unfold parSum h1S
  split
  · rename_i r
    rw [if_pos (show List.take 3 (104 :: 49 :: 58 :: r) = [104, 49, 58] from rfl)]
    rfl
  · rename_i hn
    rw [if_neg]
    intro h
    match s, h with
    | a :: b :: c :: r, h =>
      simp only [List.take_succ_cons, List.take_zero, List.cons.injEq, and_true] at h
      obtain ⟨rfl, rfl, rfl⟩ := h
      exact hn r rfl
    | [], h => cases h
    | [_], h => cases h
    | [_, _], h => cases h
def psL (o : Option L) : L := o.getD zL
def psE (o : Option L) : Int := match o with | some _ => 0 | none => 114
set_option maxRecDepth 100000 in
set_option maxHeartbeats 8000000 in
theorem ParseSum_c (t : ByteArray) (w : World) : Calls Tryz.prog 26 #[.string t] w fun e w' => e = .returned (.tuple #[.agg (nums .u8 (psL (parSum (bl t)))).toArray, .int .i64 (psE (parSum (bl t)))]) ∧ Below w.heap.size w w' := by
  have hbt := bl_bytes t
  refine enter (args := [.string t]) Tryz.func26 rfl Tryz.ntmps26 rfl ?_
  have H := Hp.nil w
  have hP := parSum_if (bl t)
  have hcp := fun w1 => cutPre_c t ⟨#[104, 49, 58]⟩ w1
  rw [show bl (⟨#[104, 49, 58]⟩ : ByteArray) = h1S from rfl, show (⟨#[104, 49, 58]⟩ : ByteArray).size = 3 from rfl] at hcp
  repeat' (first | (with_reducible first | refine p_tn ?_ | refine wp_seq ?_ | refine w_reg ?_ | refine l_nil ?_) | ((with_reducible refine g_on ?_); (first | ((with_reducible refine g_mv ?_); refine l_p txs rfl rfl ?_) | ((with_reducible refine g_as ?_); refine l_p txs rfl rfl ?_) | ((with_reducible refine g_al ?_); refine h_alloc recs H rfl rfl (fun g_ w_ H => ?_)))))
  (with_reducible refine is_l ?_); refine l_callp rfl rfl (by kernel_rfl) (hcp _) ?_
  by_cases hh : (bl t).take 3 = h1S
  · rw [if_pos hh] at hP
    rw [if_pos hh, decide_eq_true hh]
    have hbd : Bytes ((bl t).drop 3) := fun y hy => hbt y (List.mem_of_mem_drop hy)
    generalize (bl t).drop 3 = s at hP hbd ⊢
    repeat' (first | (with_reducible first | refine p_tn ?_ | refine wp_seq ?_ | refine w_reg ?_) | (with_reducible (refine is_if ?_; (refine w_iff rfl ?_))) | (with_reducible first | refine wp_skip ?_ | refine l_nil ?_) | ((with_reducible refine g_on ?_); (first | ((with_reducible refine g_mv ?_); refine l_p txs rfl rfl ?_) | ((with_reducible refine g_as ?_); refine l_p txs rfl rfl ?_) | ((with_reducible refine g_ex ?_); refine l_p txs rfl rfl ?_) | ((with_reducible refine g_un ?_); (refine l_p txs rfl rfl ?_)))))
    have hde := fun w1 => dec_c (strOfNums s) w1
    have hz : (strOfNums s).size = s.length := by rw [← bl_length, blS hbd]
    rw [blS hbd, hz] at hde
    obtain ⟨o, n, ho, hn, hde, hP⟩ : ∃ (o : Option L) (n : Int), o = (if 1048576 < s.length then none else b64D s) ∧ n ≠ 0 ∧ (∀ w1, Calls Tryz.prog 53 #[.string (strOfNums s)] w1 fun e w' => DeR w1 o n e w') ∧ parSum (bl t) = (match o with | some l => if l.length = 32 then some l else none | none => none) := by
      refine ⟨_, _, rfl, ?_, hde, ?_⟩
      · split <;> omega
      · by_cases hb : 1048576 < s.length
        · rw [if_pos hb, hP]
          cases hs : b64D s with
          | none => rfl
          | some l =>
            obtain ⟨_, h2⟩ := b64D_sound hs
            have := congrArg List.length h2
            rw [enc64_length] at this
            simp only
            rw [if_neg (by omega)]
        · rw [if_neg hb, hP]
    clear ho
    (with_reducible refine is_l ?_); refine l_call rfl rfl (by kernel_rfl) (hde _) (fun e w_ hR => ?_)
    cases o with
    | none =>
      obtain ⟨rfl, K⟩ := hR
      refine ⟨_, rfl, ?_⟩
      have H := H.call K
      have hno : parSum (bl t) = none := hP
      repeat' (first | (with_reducible first | refine p_tn ?_ | refine wp_seq ?_ | refine w_reg ?_ | refine l_nil ?_) | ((with_reducible refine g_on ?_); (first | ((with_reducible refine g_mv ?_); refine l_p txs rfl rfl ?_) | ((with_reducible refine g_as ?_); refine l_p txs rfl rfl ?_) | ((with_reducible refine g_ex ?_); refine l_p txs rfl rfl ?_))))
      (with_reducible refine is_l ?_); refine l_t txs rfl rfl (fun _ => ?_) (fun h => absurd hn h)
      repeat' (first | (with_reducible first | refine p_tn ?_ | refine wp_seq ?_ | refine w_reg ?_) | (with_reducible (refine is_if ?_; (refine w_ift rfl ?_))) | (with_reducible refine l_nil ?_) | ((with_reducible refine g_on ?_); (first | ((with_reducible refine g_mv ?_); refine l_p txs rfl rfl ?_) | ((with_reducible refine g_pk ?_); refine l_p txs rfl rfl ?_))) | ((with_reducible refine g_if ?_); (refine l_off rfl ?_)))
      (with_reducible refine is_l ?_); refine h_bld rfl rfl (show Tryz.prog.built 22 [] = some (nums .u8 zL).toArray by kernel_rfl) ?_
      repeat' (first | (with_reducible first | refine p_tn ?_ | refine p_tr ?_ | refine wp_ret ?_ | refine l_nil ?_) | ((with_reducible refine g_on ?_); (first | ((with_reducible refine g_as ?_); refine l_p txs rfl rfl ?_) | ((with_reducible refine g_st ?_); (refine h_stR recs H 0 rfl rfl rfl rfl rfl rfl rfl rfl rfl (fun w_ H => ?_))))))
      refine end_ct recs H 0 rfl rfl rfl rfl rfl rfl ?_
      exact ⟨by rw [hno]; rfl, H.B⟩
    | some l =>
      obtain ⟨A, c, rfl, K⟩ := hR
      refine ⟨_, rfl, ?_⟩
      have H := H.join K
      have hP : parSum (bl t) = if l.length = 32 then some l else none := hP
      repeat' (first | (with_reducible first | refine p_tn ?_ | refine wp_seq ?_ | refine w_reg ?_ | refine l_nil ?_) | ((with_reducible refine g_on ?_); (first | ((with_reducible refine g_mv ?_); refine l_p txs rfl rfl ?_) | ((with_reducible refine g_as ?_); refine l_p txs rfl rfl ?_) | ((with_reducible refine g_ex ?_); refine l_p txs rfl rfl ?_))))
      (with_reducible refine is_l ?_); refine l_t txs rfl rfl (fun h => absurd rfl h) (fun _ => ?_)
      repeat' (first | ((with_reducible refine g_on ?_); ((with_reducible refine g_mv ?_); refine l_p txs rfl rfl ?_)) | ((with_reducible refine g_if ?_); (first | ((with_reducible refine g_mv ?_); refine l_p txs rfl rfl ?_) | ((with_reducible refine g_cl ?_); refine l_p txs rfl rfl ?_))))
      (with_reducible refine is_l ?_); refine l_t txs rfl rfl (fun h32 => ?_) (fun h32 => ?_)
      · have hno : parSum (bl t) = none := by rw [hP, if_neg (by omega)]
        repeat' (first | (with_reducible first | refine p_tn ?_ | refine wp_seq ?_ | refine w_reg ?_) | (with_reducible (refine is_if ?_; (refine w_ift rfl ?_))) | (with_reducible refine l_nil ?_) | ((with_reducible refine g_on ?_); ((with_reducible refine g_pk ?_); refine l_p txs rfl rfl ?_)))
        (with_reducible refine is_l ?_); refine h_bld rfl rfl (show Tryz.prog.built 22 [] = some (nums .u8 zL).toArray by kernel_rfl) ?_
        repeat' (first | (with_reducible first | refine p_tn ?_ | refine p_tr ?_ | refine wp_ret ?_ | refine l_nil ?_) | ((with_reducible refine g_on ?_); (first | ((with_reducible refine g_as ?_); refine l_p txs rfl rfl ?_) | ((with_reducible refine g_st ?_); (refine h_stR recs H 0 rfl rfl rfl rfl rfl rfl rfl rfl rfl (fun w_ H => ?_))))))
        refine end_ct recs H 0 rfl rfl rfl rfl rfl rfl ?_
        exact ⟨by rw [hno]; rfl, H.B⟩
      · have h32 : l.length = 32 := by omega
        have hso : parSum (bl t) = some l := by rw [hP, if_pos h32]
        have hRd := H.rd 0 rfl
        obtain ⟨A3, c3, e3, _, hRd, hAn⟩ := hRd
        cases e3
        obtain ⟨ad, rfl⟩ : ∃ ad, A = some ad := by
          cases A with
          | some ad => exact ⟨ad, rfl⟩
          | none => exact absurd (hAn rfl).2 (by show l.length ≠ 0; omega)
        repeat' (first | (with_reducible first | refine p_tn ?_ | refine wp_seq ?_ | refine w_reg ?_) | (with_reducible (refine is_if ?_; (refine w_iff rfl ?_))) | (with_reducible first | refine wp_skip ?_ | refine l_nil ?_) | ((with_reducible refine g_on ?_); (first | ((with_reducible refine g_mv ?_); refine l_p txs rfl rfl ?_) | ((with_reducible refine g_pk ?_); refine l_p txs rfl rfl ?_))))
        (with_reducible refine is_l ?_); refine l_s2a Tryz.underlying22 rfl rfl (by omega) ?_
        (with_reducible refine is_l ?_); refine h_ldA recs (cs := nums .u8 l) (fun j v hv => hRd.2 ad rfl j v hv) rfl rfl rfl (by rw [nums_length, h32]; rfl) ?_
        (with_reducible refine is_l ?_); refine h_stR recs H 0 rfl rfl rfl rfl rfl (nfL_eq _ _) (by rw [nums_length, h32]; rfl) (nums_one l) rfl (fun w_ H => ?_)
        repeat' (first | (with_reducible first | refine p_tn ?_ | refine wp_ret ?_ | refine l_nil ?_) | ((with_reducible refine g_on ?_); ((with_reducible refine g_as ?_); refine l_p txs rfl rfl ?_)))
        refine end_ct recs H 0 rfl rfl rfl rfl (by rw [nums_length, h32]; rfl) rfl ?_
        exact ⟨by rw [hso]; rfl, H.B⟩
  · rw [if_neg hh] at hP
    rw [if_neg hh, decide_eq_false hh]
    have hno := hP
    repeat' (first | (with_reducible first | refine p_tn ?_ | refine wp_seq ?_ | refine w_reg ?_) | (with_reducible (refine is_if ?_; (refine w_ift rfl ?_))) | (with_reducible refine l_nil ?_) | ((with_reducible refine g_on ?_); (first | ((with_reducible refine g_mv ?_); refine l_p txs rfl rfl ?_) | ((with_reducible refine g_as ?_); refine l_p txs rfl rfl ?_) | ((with_reducible refine g_ex ?_); refine l_p txs rfl rfl ?_) | ((with_reducible refine g_un ?_); (refine l_p txs rfl rfl ?_)))))
    (with_reducible refine is_l ?_); refine h_bld rfl rfl (show Tryz.prog.built 22 [] = some (nums .u8 zL).toArray by kernel_rfl) ?_
    repeat' (first | (with_reducible first | refine p_tn ?_ | refine p_tr ?_ | refine wp_ret ?_ | refine l_nil ?_) | ((with_reducible refine g_on ?_); (first | ((with_reducible refine g_as ?_); refine l_p txs rfl rfl ?_) | ((with_reducible refine g_st ?_); (refine h_stR recs H 0 rfl rfl rfl rfl rfl rfl rfl rfl rfl (fun w_ H => ?_))))))
    refine end_ct recs H 0 rfl rfl rfl rfl rfl rfl ?_
    exact ⟨by rw [hno]; rfl, H.B⟩
theorem psL_length (s : L) : (psL (parSum s)).length = 32 := by
  cases h : parSum s with
  | none => rfl
  | some l => exact (parSum_some h).2.1
end Go.Proofs.YtnimaenhijlcmaaGreatDoor.K.Rec
end
section
namespace Go.Proofs.YtnimaenhijlcmaaGreatDoor.K.Rec
open Go.RowKit Go.Proofs.YtnimaenhijlcmaaGreatDoor.Q Go.Proofs.YtnimaenhijlcmaaGreatDoor.K Go.Proofs.YtnimaenhijlcmaaGreatDoor.Mb Go.Proofs.YtnimaenhijlcmaaGreatDoorW.PrintWords
set_option linter.unusedVariables false
set_option linter.unusedSimpArgs false
def woC (o : Option (L × L × L)) : List Value := match o with
  | some (x, y, z) => [.string (strOfNums x), .string (strOfNums y), .string (strOfNums z)]
  | none => [.string ⟨#[]⟩, .string ⟨#[]⟩, .string ⟨#[]⟩]
theorem words_none {s : L} (h : (splitC 32 s).length ≠ 3) : wordsS s = none := by
  unfold wordsS
  split
  · rename_i hs
    rw [hs] at h
    exact absurd rfl h
  · rfl
theorem words_three {s x y z : L} (h : splitC 32 s = [x, y, z]) : wordsS s = if x = [] ∨ y = [] ∨ z = [] then none else some (x, y, z) := by
  unfold wordsS
  rw [h]
set_option maxRecDepth 100000 in
set_option maxHeartbeats 8000000 in
theorem words_c {w : World} {mx : Int} (hM : w.cell? ⟨0, 0, none⟩ = some (.int .i64 mx)) (t : ByteArray) (ht : t.size ≤ 100000000) : Calls Tryz.prog 57 #[.string t] w fun e w' => e = .returned (.tuple #[.agg (woC (wordsS (bl t))).toArray, .bool (wordsS (bl t)).isSome]) ∧ Below w.heap.size w w' := by
  refine enter (args := [.string t]) Tryz.func57 rfl Tryz.ntmps57 rfl ?_
  have H := Hp.nil w
  repeat' (first | (with_reducible first | refine p_tn ?_ | refine wp_seq ?_ | refine w_reg ?_ | refine l_nil ?_) | ((with_reducible refine g_on ?_); (first | ((with_reducible refine g_mv ?_); refine l_p txs rfl rfl ?_) | ((with_reducible refine g_as ?_); refine l_p txs rfl rfl ?_) | ((with_reducible refine g_al ?_); refine h_alloc recs H rfl rfl (fun g_ w_ H => ?_)))))
  have hsp := split_c t 32 (by omega) _ mx (H.old hM)
  rw [show ((32 : UInt8).toNat : Int) = 32 from rfl] at hsp
  (with_reducible refine is_l ?_); refine l_call rfl rfl (by kernel_rfl) hsp (fun e w_ hR => ?_)
  obtain ⟨gN, rfl, K⟩ := hR
  refine ⟨_, rfl, ?_⟩
  have H := H.join K
  have hV := @words_none (bl t)
  have hT := @words_three (bl t)
  have hsm := split_mem 32 (bl t)
  have hbt := bl_bytes t
  generalize wordsS (bl t) = o at hV hT ⊢
  generalize splitC 32 (bl t) = N at K H hsm hV hT ⊢
  repeat' (first | (with_reducible first | refine p_tn ?_ | refine wp_seq ?_ | refine w_reg ?_ | refine l_nil ?_) | ((with_reducible refine g_on ?_); (first | ((with_reducible refine g_mv ?_); refine l_p txs rfl rfl ?_) | ((with_reducible refine g_as ?_); refine l_p txs rfl rfl ?_) | ((with_reducible refine g_cl ?_); refine l_p txs rfl rfl ?_))))
  (with_reducible refine is_l ?_); refine l_t txs rfl rfl (fun h3 => ?_) (fun h3 => ?_)
  · have hno := hV (by omega)
    repeat' (first | (with_reducible first | refine p_tn ?_ | refine wp_seq ?_ | refine w_reg ?_) | (with_reducible (refine is_if ?_; (refine w_ift rfl ?_))) | (with_reducible refine l_nil ?_) | ((with_reducible refine g_on ?_); (first | ((with_reducible refine g_mv ?_); refine l_p txs rfl rfl ?_) | ((with_reducible refine g_pk ?_); refine l_p txs rfl rfl ?_))) | ((with_reducible refine g_if ?_); (refine l_off rfl ?_)))
    (with_reducible refine is_l ?_); refine h_bld rfl rfl (show Tryz.prog.built 87 [] = some #[.string ⟨#[]⟩, .string ⟨#[]⟩, .string ⟨#[]⟩] by kernel_rfl) ?_
    repeat' (first | (with_reducible first | refine p_tn ?_ | refine p_tr ?_ | refine wp_ret ?_ | refine l_nil ?_) | ((with_reducible refine g_on ?_); (first | ((with_reducible refine g_as ?_); refine l_p txs rfl rfl ?_) | ((with_reducible refine g_st ?_); (refine h_stR recs H 1 rfl rfl rfl rfl rfl rfl rfl rfl rfl (fun w_ H => ?_))))))
    refine end_ct recs H 1 rfl rfl rfl rfl rfl rfl ?_
    exact ⟨by rw [hno]; rfl, H.B⟩
  obtain ⟨x, y, z, rfl⟩ : ∃ x y z, N = [x, y, z] := by
    match N, h3 with
    | [x, y, z], _ => exact ⟨x, y, z, rfl⟩
    | [], h => exact absurd h (by simp)
    | [_], h => exact absurd h (by simp)
    | [_, _], h => exact absurd h (by simp)
    | _ :: _ :: _ :: _ :: _, h => simp only [List.length_cons] at h; omega
  have hT := hT rfl
  have hbx : Bytes x := fun c hc => hbt c ((hsm x (by simp)).1 c hc)
  have hby : Bytes y := fun c hc => hbt c ((hsm y (by simp)).1 c hc)
  have hbz : Bytes z := fun c hc => hbt c ((hsm z (by simp)).1 c hc)
  repeat' (first | ((with_reducible refine g_on ?_); ((with_reducible refine g_mv ?_); refine l_p txs rfl rfl ?_)) | ((with_reducible refine g_if ?_); (first | ((with_reducible refine g_mv ?_); refine l_p txs rfl rfl ?_) | ((with_reducible refine g_ld ?_); (refine h_ld txs H 0 rfl rfl rfl rfl ?_)) | ((with_reducible refine g_ia ?_); refine l_ia txs rfl rfl (by first | omega | assumption | decide) (by first | omega | assumption | decide) ?_))))
  (with_reducible refine is_l ?_); refine l_t txs rfl rfl (fun h4 => ?_) (fun h4 => ?_)
  · rw [blS hbx] at h4
    have hno : o = none := by rw [hT, if_pos (.inl h4)]
    repeat' (first | (with_reducible first | refine p_tn ?_ | refine wp_seq ?_ | refine w_reg ?_) | (with_reducible (refine is_if ?_; (refine w_ift rfl ?_))) | (with_reducible refine l_nil ?_) | ((with_reducible refine g_on ?_); (first | ((with_reducible refine g_mv ?_); refine l_p txs rfl rfl ?_) | ((with_reducible refine g_pk ?_); refine l_p txs rfl rfl ?_))) | ((with_reducible refine g_if ?_); (refine l_off rfl ?_)))
    (with_reducible refine is_l ?_); refine h_bld rfl rfl (show Tryz.prog.built 87 [] = some #[.string ⟨#[]⟩, .string ⟨#[]⟩, .string ⟨#[]⟩] by kernel_rfl) ?_
    repeat' (first | (with_reducible first | refine p_tn ?_ | refine p_tr ?_ | refine wp_ret ?_ | refine l_nil ?_) | ((with_reducible refine g_on ?_); (first | ((with_reducible refine g_as ?_); refine l_p txs rfl rfl ?_) | ((with_reducible refine g_st ?_); (refine h_stR recs H 1 rfl rfl rfl rfl rfl rfl rfl rfl rfl (fun w_ H => ?_))))))
    refine end_ct recs H 1 rfl rfl rfl rfl rfl rfl ?_
    exact ⟨by rw [hno]; rfl, H.B⟩
  rw [blS hbx] at h4
  repeat' (first | ((with_reducible refine g_on ?_); (first | ((with_reducible refine g_mv ?_); refine l_p txs rfl rfl ?_) | ((with_reducible refine g_pk ?_); refine l_p txs rfl rfl ?_))) | ((with_reducible refine g_if ?_); (first | ((with_reducible refine g_mv ?_); refine l_p txs rfl rfl ?_) | ((with_reducible refine g_ld ?_); (refine h_ld txs H 0 rfl rfl rfl rfl ?_)) | ((with_reducible refine g_ia ?_); refine l_ia txs rfl rfl (by first | omega | assumption | decide) (by first | omega | assumption | decide) ?_))))
  (with_reducible refine is_l ?_); refine l_t txs rfl rfl (fun h5 => ?_) (fun h5 => ?_)
  · rw [blS hby] at h5
    have hno : o = none := by rw [hT, if_pos (.inr (.inl h5))]
    repeat' (first | (with_reducible first | refine p_tn ?_ | refine wp_seq ?_ | refine w_reg ?_) | (with_reducible (refine is_if ?_; (refine w_ift rfl ?_))) | (with_reducible refine l_nil ?_) | ((with_reducible refine g_on ?_); (first | ((with_reducible refine g_mv ?_); refine l_p txs rfl rfl ?_) | ((with_reducible refine g_pk ?_); refine l_p txs rfl rfl ?_))) | ((with_reducible refine g_if ?_); (refine l_off rfl ?_)))
    (with_reducible refine is_l ?_); refine h_bld rfl rfl (show Tryz.prog.built 87 [] = some #[.string ⟨#[]⟩, .string ⟨#[]⟩, .string ⟨#[]⟩] by kernel_rfl) ?_
    repeat' (first | (with_reducible first | refine p_tn ?_ | refine p_tr ?_ | refine wp_ret ?_ | refine l_nil ?_) | ((with_reducible refine g_on ?_); (first | ((with_reducible refine g_as ?_); refine l_p txs rfl rfl ?_) | ((with_reducible refine g_st ?_); (refine h_stR recs H 1 rfl rfl rfl rfl rfl rfl rfl rfl rfl (fun w_ H => ?_))))))
    refine end_ct recs H 1 rfl rfl rfl rfl rfl rfl ?_
    exact ⟨by rw [hno]; rfl, H.B⟩
  rw [blS hby] at h5
  repeat' (first | ((with_reducible refine g_on ?_); (first | ((with_reducible refine g_mv ?_); refine l_p txs rfl rfl ?_) | ((with_reducible refine g_pk ?_); refine l_p txs rfl rfl ?_))) | ((with_reducible refine g_if ?_); (first | ((with_reducible refine g_mv ?_); refine l_p txs rfl rfl ?_) | ((with_reducible refine g_ld ?_); (refine h_ld txs H 0 rfl rfl rfl rfl ?_)) | ((with_reducible refine g_ia ?_); refine l_ia txs rfl rfl (by first | omega | assumption | decide) (by first | omega | assumption | decide) ?_))))
  (with_reducible refine is_l ?_); refine l_t txs rfl rfl (fun h6 => ?_) (fun h6 => ?_)
  · rw [blS hbz] at h6
    have hno : o = none := by rw [hT, if_pos (.inr (.inr h6))]
    repeat' (first | (with_reducible first | refine p_tn ?_ | refine wp_seq ?_ | refine w_reg ?_) | (with_reducible (refine is_if ?_; (refine w_ift rfl ?_))) | (with_reducible refine l_nil ?_) | ((with_reducible refine g_on ?_); ((with_reducible refine g_pk ?_); refine l_p txs rfl rfl ?_)))
    (with_reducible refine is_l ?_); refine h_bld rfl rfl (show Tryz.prog.built 87 [] = some #[.string ⟨#[]⟩, .string ⟨#[]⟩, .string ⟨#[]⟩] by kernel_rfl) ?_
    repeat' (first | (with_reducible first | refine p_tn ?_ | refine p_tr ?_ | refine wp_ret ?_ | refine l_nil ?_) | ((with_reducible refine g_on ?_); (first | ((with_reducible refine g_as ?_); refine l_p txs rfl rfl ?_) | ((with_reducible refine g_st ?_); (refine h_stR recs H 1 rfl rfl rfl rfl rfl rfl rfl rfl rfl (fun w_ H => ?_))))))
    refine end_ct recs H 1 rfl rfl rfl rfl rfl rfl ?_
    exact ⟨by rw [hno]; rfl, H.B⟩
  rw [blS hbz] at h6
  have hso : o = some (x, y, z) := by
    rw [hT, if_neg]
    rintro (h | h | h)
    · exact h4 h
    · exact h5 h
    · exact h6 h
  repeat' (first | (with_reducible first | refine p_tn ?_ | refine wp_seq ?_ | refine w_reg ?_) | (with_reducible (refine is_if ?_; (refine w_iff rfl ?_))) | (with_reducible first | refine wp_skip ?_ | refine l_nil ?_) | ((with_reducible refine g_on ?_); (first | ((with_reducible refine g_mv ?_); refine l_p txs rfl rfl ?_) | ((with_reducible refine g_pk ?_); refine l_p txs rfl rfl ?_))))
  (with_reducible refine is_l ?_); refine l_s2a Tryz.underlying87 rfl rfl (Nat.le_refl 3) ?_
  repeat' (first | (with_reducible first | refine p_tn ?_ | refine wp_ret ?_ | refine l_nil ?_) | ((with_reducible refine g_on ?_); (first | ((with_reducible refine g_as ?_); refine l_p txs rfl rfl ?_) | ((with_reducible refine g_ld ?_); (refine h_ldR recs H 0 rfl rfl rfl rfl rfl ?_)) | ((with_reducible refine g_st ?_); (refine h_stR recs H 1 rfl rfl rfl rfl rfl rfl rfl rfl rfl (fun w_ H => ?_))))))
  refine end_ct recs H 1 rfl rfl rfl rfl rfl rfl ?_
  exact ⟨by rw [hso]; rfl, H.B⟩
def recT (t u : ByteArray) (a b : L) : ByteArray := if checkS (bl t) (bl u) = 0 then strOfNums (recS (bl t) (bl u) a b) else ⟨#[]⟩
theorem sum_bytes {x : L} (hb : Bytes x) : Bytes (sumS x) := by
  intro y hy
  rcases List.mem_append.1 hy with hy | hy
  · unfold h1S at hy
    simp only [List.mem_cons, List.not_mem_nil, or_false] at hy
    rcases hy with rfl | rfl | rfl <;> omega
  · exact enc64_bytes hb y hy
theorem sum_size {x : L} (hb : Bytes x) (hx : x.length = 32) : (strOfNums (sumS x)).size = 47 := by rw [← bl_length, blS (sum_bytes hb), sum_length hx]
set_option maxRecDepth 100000 in
set_option maxHeartbeats 8000000 in
theorem Record_c {w : World} (hL : Lay w) (t u : ByteArray) (a b : L) (ha : Bytes a) (la : a.length = 32) (hb : Bytes b) (lb : b.length = 32) :
    Calls Tryz.prog 28 #[.string t, .string u, .agg (nums .u8 a).toArray, .agg (nums .u8 b).toArray] w fun e w' => e = .returned (.tuple #[.string (recT t u a b), .int .i64 (checkS (bl t) (bl u) : Int)]) ∧ Below w.heap.size w w' := by
  refine enter (args := [.string t, .string u, .agg (nums .u8 a).toArray, .agg (nums .u8 b).toArray]) Tryz.func28 rfl Tryz.ntmps28 rfl ?_
  have H := Hp.nil w
  repeat' (with_reducible first | refine wp_seq ?_ | refine w_reg ?_)
  (with_reducible refine is_l ?_); refine h_box H rfl rfl (nfL_eq _ _) (fun gA w_ H => ?_)
  (with_reducible refine is_l ?_); refine h_box H rfl rfl (nfL_eq _ _) (fun gB w_ H => ?_)
  repeat' (first | (with_reducible first | refine p_tn ?_ | refine wp_seq ?_ | refine w_reg ?_ | refine l_nil ?_) | ((with_reducible refine g_on ?_); (first | ((with_reducible refine g_mv ?_); refine l_p txs rfl rfl ?_) | ((with_reducible refine g_as ?_); refine l_p txs rfl rfl ?_))))
  (with_reducible refine is_l ?_); refine l_callv rfl rfl (by kernel_rfl) (check_c (hL.below H.B) t u) (fun w_ K => ?_)
  have H := H.call K
  have hsm : checkS (bl t) (bl u) = 0 → t.size ≤ 255 ∧ u.size ≤ 128 := fun h => by
    obtain ⟨h1, x, h2, _⟩ := check_ok h
    rw [← bl_length, ← bl_length]
    exact ⟨(path_ne h1).2, (ver_no h2).2.2.2.2.2.2⟩
  unfold recT
  generalize checkS (bl t) (bl u) = k at hsm ⊢
  repeat' (first | (with_reducible first | refine p_tn ?_ | refine wp_seq ?_ | refine w_reg ?_ | refine l_nil ?_) | ((with_reducible refine g_on ?_); (first | ((with_reducible refine g_mv ?_); refine l_p txs rfl rfl ?_) | ((with_reducible refine g_as ?_); refine l_p txs rfl rfl ?_))))
  (with_reducible refine is_l ?_); refine l_t txs rfl rfl (fun h1 => ?_) (fun h1 => ?_)
  · repeat' (first | (with_reducible first | refine p_tn ?_ | refine p_tr ?_ | refine wp_seq ?_ | refine w_reg ?_) | (with_reducible (refine is_if ?_; (refine w_ift rfl ?_))) | (with_reducible first | refine wp_ret ?_ | refine l_nil ?_) | ((with_reducible refine g_on ?_); (first | ((with_reducible refine g_mv ?_); refine l_p txs rfl rfl ?_) | ((with_reducible refine g_as ?_); refine l_p txs rfl rfl ?_))))
    refine end2 rfl rfl rfl ?_
    exact ⟨by rw [if_neg (by omega)], H.B⟩
  · have h0 : k = 0 := by omega
    subst h0
    obtain ⟨hts, hus⟩ := hsm rfl
    have z1 : (⟨#[32]⟩ : ByteArray).size = 1 := rfl
    have z2 : (⟨#[10]⟩ : ByteArray).size = 1 := rfl
    have z3 : (⟨#[47, 103, 111, 46, 109, 111, 100]⟩ : ByteArray).size = 7 := rfl
    have za := sum_size ha la
    have zb := sum_size hb lb
    have hfin : (((((((((((t ++ ⟨#[32]⟩) ++ u) ++ ⟨#[32]⟩) ++ strOfNums (sumS a)) ++ ⟨#[10]⟩) ++ t) ++ ⟨#[32]⟩) ++ u) ++ ⟨#[47, 103, 111, 46, 109, 111, 100]⟩) ++ ⟨#[32]⟩) ++ strOfNums (sumS b)) ++ ⟨#[10]⟩ = strOfNums (recS (bl t) (bl u) a b) := by
      refine bl_inj ?_
      have hbr : Bytes (recS (bl t) (bl u) a b) := by
        intro y hy
        unfold recS line1 modS at hy
        simp only [List.mem_append, List.mem_cons, List.not_mem_nil, or_false] at hy
        have q1 := bl_bytes t y
        have q2 := bl_bytes u y
        have q3 := sum_bytes ha y
        have q4 := sum_bytes hb y
        have q5 : y = 32 ∨ y = 10 ∨ y = 47 ∨ y = 103 ∨ y = 111 ∨ y = 46 ∨ y = 109 ∨ y = 100 → 0 ≤ y ∧ y ≤ 255 := by omega
        grind
      rw [blS hbr]
      simp only [bl_cat, blS (sum_bytes ha), blS (sum_bytes hb)]
      rw [show bl (⟨#[32]⟩ : ByteArray) = [32] from rfl, show bl (⟨#[10]⟩ : ByteArray) = [10] from rfl, show bl (⟨#[47, 103, 111, 46, 109, 111, 100]⟩ : ByteArray) = modS from rfl]
      unfold recS line1
      simp
    have hSa := Sum_c a ha la
    have hSb := Sum_c b hb lb
    generalize strOfNums (sumS a) = sa at hfin za hSa
    generalize strOfNums (sumS b) = sb at hfin zb hSb
    have hla : (nums .u8 a).length = (nums .u8 zL).length := by rw [nums_length, la]; rfl
    have hlb : (nums .u8 b).length = (nums .u8 zL).length := by rw [nums_length, lb]; rfl
    repeat' (first | (with_reducible first | refine p_tn ?_ | refine wp_seq ?_) | (with_reducible (refine is_if ?_; (refine w_iff rfl ?_))) | (with_reducible first | refine wp_skip ?_ | refine l_nil ?_))
    refine w_draw (C := fun w' => Hp w w' [(gB, 22, nums .u8 b), (gA, 22, nums .u8 a)] []) (by kernel_rfl) (by kernel_rfl) H.drew ?_
    repeat' (first | (with_reducible refine q_nil ?_) | ((with_reducible refine is_q ?_); first | (refine q_off rfl ?_) | (refine q_p txs rfl rfl ?_) | (refine q_a txs rfl rfl (by first | exact in_i64 (by omega) (by omega) | exact in_u8 (by omega) (by omega) | exact in_u64 (by omega) (by omega) | exact in_i32 (by omega) (by omega)) ?_)))
    refine q_cat rfl rfl (by (try simp only [ByteArray.size_append]); omega) ?_
    repeat' (first | (with_reducible refine q_nil ?_) | ((with_reducible refine is_q ?_); first | (refine q_off rfl ?_) | (refine q_p txs rfl rfl ?_) | (refine q_a txs rfl rfl (by first | exact in_i64 (by omega) (by omega) | exact in_u8 (by omega) (by omega) | exact in_u64 (by omega) (by omega) | exact in_i32 (by omega) (by omega)) ?_)))
    refine q_cat rfl rfl (by (try simp only [ByteArray.size_append]); omega) ?_
    repeat' (first | (with_reducible refine q_nil ?_) | ((with_reducible refine is_q ?_); first | (refine q_off rfl ?_) | (refine q_p txs rfl rfl ?_) | (refine q_a txs rfl rfl (by first | exact in_i64 (by omega) (by omega) | exact in_u8 (by omega) (by omega) | exact in_u64 (by omega) (by omega) | exact in_i32 (by omega) (by omega)) ?_)))
    refine q_cat rfl rfl (by (try simp only [ByteArray.size_append]); omega) ?_
    repeat' (first | (with_reducible refine q_nil ?_) | ((with_reducible refine is_q ?_); first | (refine q_off rfl ?_) | (refine q_p txs rfl rfl ?_) | (refine q_a txs rfl rfl (by first | exact in_i64 (by omega) (by omega) | exact in_u8 (by omega) (by omega) | exact in_u64 (by omega) (by omega) | exact in_i32 (by omega) (by omega)) ?_)))
    refine q_val rfl (fun w' K => evLR_run (o := ⟨_, _, _, _, _, _⟩) recs rfl rfl (K.range 1 rfl) hla) ?_
    refine q_call rfl rfl (by kernel_rfl) (fun w1 K => (hSa w1).mono fun e w2 h => ⟨h.1, K.call h.2⟩) ?_
    repeat' (first | (with_reducible refine q_nil ?_) | ((with_reducible refine is_q ?_); first | (refine q_off rfl ?_) | (refine q_p txs rfl rfl ?_) | (refine q_a txs rfl rfl (by first | exact in_i64 (by omega) (by omega) | exact in_u8 (by omega) (by omega) | exact in_u64 (by omega) (by omega) | exact in_i32 (by omega) (by omega)) ?_)))
    refine q_cat rfl rfl (by (try simp only [ByteArray.size_append]); omega) ?_
    repeat' (first | (with_reducible refine q_nil ?_) | ((with_reducible refine is_q ?_); first | (refine q_off rfl ?_) | (refine q_p txs rfl rfl ?_) | (refine q_a txs rfl rfl (by first | exact in_i64 (by omega) (by omega) | exact in_u8 (by omega) (by omega) | exact in_u64 (by omega) (by omega) | exact in_i32 (by omega) (by omega)) ?_)))
    refine q_cat rfl rfl (by (try simp only [ByteArray.size_append]); omega) ?_
    repeat' (first | (with_reducible refine q_nil ?_) | ((with_reducible refine is_q ?_); first | (refine q_off rfl ?_) | (refine q_p txs rfl rfl ?_) | (refine q_a txs rfl rfl (by first | exact in_i64 (by omega) (by omega) | exact in_u8 (by omega) (by omega) | exact in_u64 (by omega) (by omega) | exact in_i32 (by omega) (by omega)) ?_)))
    refine q_cat rfl rfl (by (try simp only [ByteArray.size_append]); omega) ?_
    repeat' (first | (with_reducible refine q_nil ?_) | ((with_reducible refine is_q ?_); first | (refine q_off rfl ?_) | (refine q_p txs rfl rfl ?_) | (refine q_a txs rfl rfl (by first | exact in_i64 (by omega) (by omega) | exact in_u8 (by omega) (by omega) | exact in_u64 (by omega) (by omega) | exact in_i32 (by omega) (by omega)) ?_)))
    refine q_cat rfl rfl (by (try simp only [ByteArray.size_append]); omega) ?_
    repeat' (first | (with_reducible refine q_nil ?_) | ((with_reducible refine is_q ?_); first | (refine q_off rfl ?_) | (refine q_p txs rfl rfl ?_) | (refine q_a txs rfl rfl (by first | exact in_i64 (by omega) (by omega) | exact in_u8 (by omega) (by omega) | exact in_u64 (by omega) (by omega) | exact in_i32 (by omega) (by omega)) ?_)))
    refine q_cat rfl rfl (by (try simp only [ByteArray.size_append]); omega) ?_
    repeat' (first | (with_reducible refine q_nil ?_) | ((with_reducible refine is_q ?_); first | (refine q_off rfl ?_) | (refine q_p txs rfl rfl ?_) | (refine q_a txs rfl rfl (by first | exact in_i64 (by omega) (by omega) | exact in_u8 (by omega) (by omega) | exact in_u64 (by omega) (by omega) | exact in_i32 (by omega) (by omega)) ?_)))
    refine q_cat rfl rfl (by (try simp only [ByteArray.size_append]); omega) ?_
    repeat' (first | (with_reducible refine q_nil ?_) | ((with_reducible refine is_q ?_); first | (refine q_off rfl ?_) | (refine q_p txs rfl rfl ?_) | (refine q_a txs rfl rfl (by first | exact in_i64 (by omega) (by omega) | exact in_u8 (by omega) (by omega) | exact in_u64 (by omega) (by omega) | exact in_i32 (by omega) (by omega)) ?_)))
    refine q_cat rfl rfl (by (try simp only [ByteArray.size_append]); omega) ?_
    repeat' (first | (with_reducible refine q_nil ?_) | ((with_reducible refine is_q ?_); first | (refine q_off rfl ?_) | (refine q_p txs rfl rfl ?_) | (refine q_a txs rfl rfl (by first | exact in_i64 (by omega) (by omega) | exact in_u8 (by omega) (by omega) | exact in_u64 (by omega) (by omega) | exact in_i32 (by omega) (by omega)) ?_)))
    refine q_val rfl (fun w' K => evLR_run (o := ⟨_, _, _, _, _, _⟩) recs rfl rfl (K.range 0 rfl) hlb) ?_
    refine q_call rfl rfl (by kernel_rfl) (fun w1 K => (hSb w1).mono fun e w2 h => ⟨h.1, K.call h.2⟩) ?_
    repeat' (first | (with_reducible refine q_nil ?_) | ((with_reducible refine is_q ?_); first | (refine q_off rfl ?_) | (refine q_p txs rfl rfl ?_) | (refine q_a txs rfl rfl (by first | exact in_i64 (by omega) (by omega) | exact in_u8 (by omega) (by omega) | exact in_u64 (by omega) (by omega) | exact in_i32 (by omega) (by omega)) ?_)))
    refine q_cat rfl rfl (by (try simp only [ByteArray.size_append]); omega) ?_
    repeat' (first | (with_reducible refine q_nil ?_) | ((with_reducible refine is_q ?_); first | (refine q_off rfl ?_) | (refine q_p txs rfl rfl ?_) | (refine q_a txs rfl rfl (by first | exact in_i64 (by omega) (by omega) | exact in_u8 (by omega) (by omega) | exact in_u64 (by omega) (by omega) | exact in_i32 (by omega) (by omega)) ?_)))
    refine q_cat rfl rfl (by (try simp only [ByteArray.size_append]); omega) ?_
    repeat' (first | (with_reducible refine q_nil ?_) | ((with_reducible refine is_q ?_); first | (refine q_off rfl ?_) | (refine q_p txs rfl rfl ?_) | (refine q_a txs rfl rfl (by first | exact in_i64 (by omega) (by omega) | exact in_u8 (by omega) (by omega) | exact in_u64 (by omega) (by omega) | exact in_i32 (by omega) (by omega)) ?_)))
    clear H
    intro w_ H
    repeat' (with_reducible first | refine p_tn ?_ | refine wp_ret ?_)
    refine end2 rfl rfl rfl ?_
    exact ⟨by rw [if_pos rfl, ← hfin]; rfl, H.B⟩
end Go.Proofs.YtnimaenhijlcmaaGreatDoor.K.Rec
end
section
namespace Go.Proofs.YtnimaenhijlcmaaGreatDoor.K.Rec
open Go.RowKit Go.Proofs.YtnimaenhijlcmaaGreatDoor.Q Go.Proofs.YtnimaenhijlcmaaGreatDoor.K Go.Proofs.YtnimaenhijlcmaaGreatDoor.Mb Go.Proofs.YtnimaenhijlcmaaGreatDoorW.PrintWords
set_option linter.unusedVariables false
set_option linter.unusedSimpArgs false
theorem byte_row {w0 w : World} {l : List Ent} {r : List RowD} {A : Option Addr} {c : Nat} {b : L} (H : Hp w0 w l r) (k : Nat) (hk : r[k]? = some (rowB (.slice A b.length c) b)) : Rd w A (nums .u8 b) := by
  obtain ⟨A3, c3, e3, _, hRd, hAn⟩ := H.rd k hk
  cases e3
  exact hRd
theorem e_sum {x : L} (hb : Bytes x) : (⟨#[104, 49, 58]⟩ : ByteArray) ++ strOfNums (enc64 x) = strOfNums (sumS x) := by
  refine bl_inj ?_
  rw [bl_cat, blS (enc64_bytes hb), blS]
  · rfl
  · intro y hy
    rcases List.mem_append.1 hy with hy | hy
    · unfold h1S at hy
      simp only [List.mem_cons, List.not_mem_nil, or_false] at hy
      rcases hy with rfl | rfl | rfl <;> omega
    · exact enc64_bytes hb y hy
set_option maxRecDepth 100000 in
set_option maxHeartbeats 8000000 in
theorem Sum_r (x : L) (hb : Bytes x) (hx : x.length = 32) (w : World) : Calls Tryz.prog 24 #[.agg (nums .u8 x).toArray] w fun e w' => e = .returned (.string (strOfNums (sumS x))) ∧ Below w.heap.size w w' := by
  refine enter (args := [.agg (nums .u8 x).toArray]) Tryz.func24 rfl Tryz.ntmps24 rfl ?_
  have H := Hp.nil w
  have hn : (nums .u8 x).length = 32 := by rw [nums_length, hx]
  have e1 := e_sum hb
  repeat' (with_reducible first | refine wp_seq ?_ | refine w_reg ?_)
  (with_reducible refine is_l ?_); refine h_box H rfl rfl (nfL_eq _ _) (fun gX w_ H => ?_)
  repeat' (first | (with_reducible first | refine p_tn ?_ | refine wp_seq ?_ | refine wp_block ?_ | refine w_reg ?_ | refine l_nil ?_) | ((with_reducible refine g_on ?_); ((with_reducible refine g_as ?_); refine l_p txs rfl rfl ?_)))
  have H := H.nilRow 5 1
  refine w_loop (σ := Nat × Option Addr × Nat) (S := fun s => [(1, .pointer (some ⟨gX, 0, none⟩)), (3, .slice s.2.1 (x.take s.1).length s.2.2), (4, .int .i64 (s.1 : Int))])
    (J := fun s w' => Hp w w' [(gX, 22, nums .u8 x)] [rowB (.slice s.2.1 (x.take s.1).length s.2.2) (x.take s.1)] ∧ s.1 ≤ 32) (μ := fun s => 32 - s.1) (0, none, 0) ⟨rfl, rfl, rfl, trivial⟩ ⟨H, by omega⟩ ?_
  clear H
  rintro ⟨i, A2, c2⟩ f w_ ⟨H, hi⟩
  simp only at H hi ⊢
  repeat' (first | (with_reducible first | refine wp_seq ?_ | refine w_reg ?_) | ((with_reducible refine g_on ?_); ((with_reducible refine g_mv ?_); refine l_p txs rfl rfl ?_)))
  (with_reducible refine is_l ?_); refine l_t txs rfl rfl (fun hlt => ?_) (fun hge => ?_)
  · obtain ⟨v, hv⟩ : ∃ v, x[i]? = some v := ⟨_, List.getElem?_eq_getElem (by omega)⟩
    have hvv : (nums .u8 x)[i]? = some (.int .u8 v) := by unfold nums; rw [List.getElem?_map, hv]; rfl
    have hl0 : (x.take i).length = i := List.length_take_of_le (by omega)
    have hl1 : (x.take (i + 1)).length = (x.take i).length + 1 := by rw [hl0, List.length_take_of_le (by omega)]
    have hxt : x.take (i + 1) = x.take i ++ [v] := by
      obtain ⟨g1, g2⟩ := List.getElem?_eq_some_iff.1 hv
      rw [List.take_succ_eq_append_getElem g1, g2]
    repeat' (first | (with_reducible first | refine p_tn ?_ | refine wp_seq ?_ | refine wp_block ?_ | refine w_reg ?_) | (with_reducible (refine is_if ?_; (refine w_ift rfl ?_))) | (with_reducible first | refine wp_skip ?_ | refine l_nil ?_) | ((with_reducible refine g_on ?_); ((with_reducible refine g_mv ?_); refine l_p txs rfl rfl ?_)))
    (with_reducible refine is_l ?_); refine l_iaa Tryz.underlying22 one0_1 rfl rfl rfl (by omega) (by omega) ?_
    skip
    (with_reducible refine is_l ?_); refine l_ld txs rfl rfl (H.cellAt 0 rfl hvv) ?_
    skip
    (with_reducible refine is_l ?_); refine h_bs H info_u8 Tryz.underlying34 (by decide) (by decide) rfl rfl (by kernel_rfl) (fun g_ w_ H => ?_)
    (with_reducible refine is_l ?_); refine h_app H 0 rfl info_u8 Tryz.underlying34 rfl rfl rfl rfl (H.cellRd 0 rfl) rfl rfl (by show ((x.take i).length + 1) * 1 ≤ _; rw [hl0]; omega) (fun v w_ hv H => ?_)
    obtain ⟨A', c', rfl⟩ := hv
    have H := H.pick [1] [0] (by decide) (by decide) rfl rfl
    repeat' (first | (with_reducible first | refine p_tn ?_ | refine p_bn ?_ | refine w_reg ?_ | refine l_nil ?_) | ((with_reducible refine g_on ?_); (first | ((with_reducible refine g_mv ?_); refine l_p txs rfl rfl ?_) | ((with_reducible refine g_as ?_); refine l_p txs rfl rfl ?_) | ((with_reducible refine g_bi ?_); (refine l_a txs rfl rfl (by first | exact in_i64 (by omega) (by omega) | exact in_u8 (by omega) (by omega) | exact in_u64 (by omega) (by omega) | exact in_i32 (by omega) (by omega)) ?_)))))
    refine ⟨(i + 1, A', c'), _, rfl, ⟨rfl, ?_, rfl, trivial⟩, ⟨?_, by show i + 1 ≤ _; omega⟩, by show _ - (i + 1) < _ - i; omega⟩
    · show Value.slice A' ((x.take i).length + 1) c' = Value.slice A' (x.take (i + 1)).length c'
      rw [hl1]
    · show Hp w _ _ [rowB (.slice A' (x.take (i + 1)).length c') (x.take (i + 1))]
      unfold rowB
      rw [hl1, hxt, nums_snoc]
      exact H
  · have hall : x.take i = x := List.take_of_length_le (by omega)
    simp only [hall] at H ⊢
    repeat' (first | (with_reducible first | refine p_tn ?_ | refine p_tx ?_ | refine x_hit ?_ | refine wp_seq ?_ | refine w_reg ?_) | (with_reducible (refine is_if ?_; (refine w_iff rfl ?_))) | (with_reducible first | refine wp_exit ?_ | refine l_nil ?_) | ((with_reducible refine g_on ?_); ((with_reducible refine g_mv ?_); refine l_p txs rfl rfl ?_)))
    (with_reducible refine is_l ?_); refine l_callv rfl rfl (by kernel_rfl) (Ref.enc_r (byte_row H 0 rfl) hb (by omega)) (fun w_ K => ?_)
    have H := H.call K
    skip
    (with_reducible refine is_l ?_); refine l_cat rfl rfl (by
      rw [← bl_length (strOfNums (enc64 x)), blS (enc64_bytes hb), enc64_length, hx]
      decide) ?_
    repeat' (first | (with_reducible first | refine p_tn ?_ | refine wp_ret ?_ | refine l_nil ?_) | ((with_reducible refine g_on ?_); ((with_reducible refine g_as ?_); refine l_p txs rfl rfl ?_)))
    refine end1 rfl rfl ?_
    exact ⟨by rw [e1], H.B⟩
set_option maxRecDepth 100000 in
set_option maxHeartbeats 8000000 in
theorem Record_r {w : World} {t2 : TypeId} {fr : Nat × Nat} (hD : w.heap[3]? = some (.cells deC t2 fr)) (t u : ByteArray) (a b : L) (ha : Bytes a) (la : a.length = 32) (hb : Bytes b) (lb : b.length = 32) :
    Calls Tryz.prog 27 #[.string t, .string u, .agg (nums .u8 a).toArray, .agg (nums .u8 b).toArray] w fun e w' => e = .returned (.tuple #[.string (recT t u a b), .int .i64 (checkS (bl t) (bl u) : Int)]) ∧ Below w.heap.size w w' := by
  refine enter (args := [.string t, .string u, .agg (nums .u8 a).toArray, .agg (nums .u8 b).toArray]) Tryz.func27 rfl Tryz.ntmps27 rfl ?_
  have H := Hp.nil w
  repeat' (with_reducible first | refine wp_seq ?_ | refine w_reg ?_)
  (with_reducible refine is_l ?_); refine h_box H rfl rfl (nfL_eq _ _) (fun gA w_ H => ?_)
  (with_reducible refine is_l ?_); refine h_box H rfl rfl (nfL_eq _ _) (fun gB w_ H => ?_)
  repeat' (first | (with_reducible first | refine p_tn ?_ | refine wp_seq ?_ | refine w_reg ?_ | refine l_nil ?_) | ((with_reducible refine g_on ?_); (first | ((with_reducible refine g_mv ?_); refine l_p txs rfl rfl ?_) | ((with_reducible refine g_as ?_); refine l_p txs rfl rfl ?_))))
  (with_reducible refine is_l ?_); refine l_callv rfl rfl (by kernel_rfl) (Ref.Fits_c ((H.B.block _ (blk_lt hD)).trans hD) t u) (fun w_ K => ?_)
  have H := H.call K
  have hsm : checkS (bl t) (bl u) = 0 → t.size ≤ 255 ∧ u.size ≤ 128 := fun h => by
    obtain ⟨h1, x, h2, _⟩ := check_ok h
    rw [← bl_length, ← bl_length]
    exact ⟨(path_ne h1).2, (ver_no h2).2.2.2.2.2.2⟩
  unfold recT
  generalize checkS (bl t) (bl u) = k at hsm ⊢
  repeat' (first | (with_reducible first | refine p_tn ?_ | refine wp_seq ?_ | refine w_reg ?_ | refine l_nil ?_) | ((with_reducible refine g_on ?_); (first | ((with_reducible refine g_mv ?_); refine l_p txs rfl rfl ?_) | ((with_reducible refine g_as ?_); refine l_p txs rfl rfl ?_))))
  (with_reducible refine is_l ?_); refine l_t txs rfl rfl (fun h1 => ?_) (fun h1 => ?_)
  · repeat' (first | (with_reducible first | refine p_tn ?_ | refine p_tr ?_ | refine wp_seq ?_ | refine w_reg ?_) | (with_reducible (refine is_if ?_; (refine w_ift rfl ?_))) | (with_reducible first | refine wp_ret ?_ | refine l_nil ?_) | ((with_reducible refine g_on ?_); (first | ((with_reducible refine g_mv ?_); refine l_p txs rfl rfl ?_) | ((with_reducible refine g_as ?_); refine l_p txs rfl rfl ?_))))
    refine end2 rfl rfl rfl ?_
    exact ⟨by rw [if_neg (by omega)], H.B⟩
  · have h0 : k = 0 := by omega
    subst h0
    obtain ⟨hts, hus⟩ := hsm rfl
    have z1 : (⟨#[32]⟩ : ByteArray).size = 1 := rfl
    have z2 : (⟨#[10]⟩ : ByteArray).size = 1 := rfl
    have z3 : (⟨#[47, 103, 111, 46, 109, 111, 100, 32]⟩ : ByteArray).size = 8 := rfl
    have za := sum_size ha la
    have zb := sum_size hb lb
    have hfin : ((((((((((t ++ ⟨#[32]⟩) ++ u) ++ ⟨#[32]⟩) ++ strOfNums (sumS a)) ++ ⟨#[10]⟩) ++ t) ++ ⟨#[32]⟩) ++ u) ++ ⟨#[47, 103, 111, 46, 109, 111, 100, 32]⟩) ++ strOfNums (sumS b)) ++ ⟨#[10]⟩ = strOfNums (recS (bl t) (bl u) a b) := by
      refine bl_inj ?_
      have hbr : Bytes (recS (bl t) (bl u) a b) := by
        intro y hy
        unfold recS line1 modS at hy
        simp only [List.mem_append, List.mem_cons, List.not_mem_nil, or_false] at hy
        have q1 := bl_bytes t y
        have q2 := bl_bytes u y
        have q3 := sum_bytes ha y
        have q4 := sum_bytes hb y
        have q5 : y = 32 ∨ y = 10 ∨ y = 47 ∨ y = 103 ∨ y = 111 ∨ y = 46 ∨ y = 109 ∨ y = 100 → 0 ≤ y ∧ y ≤ 255 := by omega
        grind
      rw [blS hbr]
      simp only [bl_cat, blS (sum_bytes ha), blS (sum_bytes hb)]
      rw [show bl (⟨#[32]⟩ : ByteArray) = [32] from rfl, show bl (⟨#[10]⟩ : ByteArray) = [10] from rfl, show bl (⟨#[47, 103, 111, 46, 109, 111, 100, 32]⟩ : ByteArray) = modS ++ [32] from rfl]
      unfold recS line1
      simp
    have hSa := Sum_r a ha la
    have hSb := Sum_r b hb lb
    generalize strOfNums (sumS a) = sa at hfin za hSa
    generalize strOfNums (sumS b) = sb at hfin zb hSb
    have hla : (nums .u8 a).length = (nums .u8 zL).length := by rw [nums_length, la]; rfl
    have hlb : (nums .u8 b).length = (nums .u8 zL).length := by rw [nums_length, lb]; rfl
    repeat' (first | (with_reducible first | refine p_tn ?_ | refine wp_seq ?_) | (with_reducible (refine is_if ?_; (refine w_iff rfl ?_))) | (with_reducible first | refine wp_skip ?_ | refine l_nil ?_))
    refine w_draw (C := fun w' => Hp w w' [(gB, 22, nums .u8 b), (gA, 22, nums .u8 a)] []) (by kernel_rfl) (by kernel_rfl) H.drew ?_
    repeat' (first | (with_reducible refine q_nil ?_) | ((with_reducible refine is_q ?_); first | (refine q_off rfl ?_) | (refine q_p txs rfl rfl ?_) | (refine q_a txs rfl rfl (by first | exact in_i64 (by omega) (by omega) | exact in_u8 (by omega) (by omega) | exact in_u64 (by omega) (by omega) | exact in_i32 (by omega) (by omega)) ?_)))
    refine q_cat rfl rfl (by (try simp only [ByteArray.size_append]); omega) ?_
    repeat' (first | (with_reducible refine q_nil ?_) | ((with_reducible refine is_q ?_); first | (refine q_off rfl ?_) | (refine q_p txs rfl rfl ?_) | (refine q_a txs rfl rfl (by first | exact in_i64 (by omega) (by omega) | exact in_u8 (by omega) (by omega) | exact in_u64 (by omega) (by omega) | exact in_i32 (by omega) (by omega)) ?_)))
    refine q_cat rfl rfl (by (try simp only [ByteArray.size_append]); omega) ?_
    repeat' (first | (with_reducible refine q_nil ?_) | ((with_reducible refine is_q ?_); first | (refine q_off rfl ?_) | (refine q_p txs rfl rfl ?_) | (refine q_a txs rfl rfl (by first | exact in_i64 (by omega) (by omega) | exact in_u8 (by omega) (by omega) | exact in_u64 (by omega) (by omega) | exact in_i32 (by omega) (by omega)) ?_)))
    refine q_cat rfl rfl (by (try simp only [ByteArray.size_append]); omega) ?_
    repeat' (first | (with_reducible refine q_nil ?_) | ((with_reducible refine is_q ?_); first | (refine q_off rfl ?_) | (refine q_p txs rfl rfl ?_) | (refine q_a txs rfl rfl (by first | exact in_i64 (by omega) (by omega) | exact in_u8 (by omega) (by omega) | exact in_u64 (by omega) (by omega) | exact in_i32 (by omega) (by omega)) ?_)))
    refine q_val rfl (fun w' K => evLR_run (o := ⟨_, _, _, _, _, _⟩) recs rfl rfl (K.range 1 rfl) hla) ?_
    refine q_call rfl rfl (by kernel_rfl) (fun w1 K => (hSa w1).mono fun e w2 h => ⟨h.1, K.call h.2⟩) ?_
    repeat' (first | (with_reducible refine q_nil ?_) | ((with_reducible refine is_q ?_); first | (refine q_off rfl ?_) | (refine q_p txs rfl rfl ?_) | (refine q_a txs rfl rfl (by first | exact in_i64 (by omega) (by omega) | exact in_u8 (by omega) (by omega) | exact in_u64 (by omega) (by omega) | exact in_i32 (by omega) (by omega)) ?_)))
    refine q_cat rfl rfl (by (try simp only [ByteArray.size_append]); omega) ?_
    repeat' (first | (with_reducible refine q_nil ?_) | ((with_reducible refine is_q ?_); first | (refine q_off rfl ?_) | (refine q_p txs rfl rfl ?_) | (refine q_a txs rfl rfl (by first | exact in_i64 (by omega) (by omega) | exact in_u8 (by omega) (by omega) | exact in_u64 (by omega) (by omega) | exact in_i32 (by omega) (by omega)) ?_)))
    refine q_cat rfl rfl (by (try simp only [ByteArray.size_append]); omega) ?_
    repeat' (first | (with_reducible refine q_nil ?_) | ((with_reducible refine is_q ?_); first | (refine q_off rfl ?_) | (refine q_p txs rfl rfl ?_) | (refine q_a txs rfl rfl (by first | exact in_i64 (by omega) (by omega) | exact in_u8 (by omega) (by omega) | exact in_u64 (by omega) (by omega) | exact in_i32 (by omega) (by omega)) ?_)))
    refine q_cat rfl rfl (by (try simp only [ByteArray.size_append]); omega) ?_
    repeat' (first | (with_reducible refine q_nil ?_) | ((with_reducible refine is_q ?_); first | (refine q_off rfl ?_) | (refine q_p txs rfl rfl ?_) | (refine q_a txs rfl rfl (by first | exact in_i64 (by omega) (by omega) | exact in_u8 (by omega) (by omega) | exact in_u64 (by omega) (by omega) | exact in_i32 (by omega) (by omega)) ?_)))
    refine q_cat rfl rfl (by (try simp only [ByteArray.size_append]); omega) ?_
    repeat' (first | (with_reducible refine q_nil ?_) | ((with_reducible refine is_q ?_); first | (refine q_off rfl ?_) | (refine q_p txs rfl rfl ?_) | (refine q_a txs rfl rfl (by first | exact in_i64 (by omega) (by omega) | exact in_u8 (by omega) (by omega) | exact in_u64 (by omega) (by omega) | exact in_i32 (by omega) (by omega)) ?_)))
    refine q_cat rfl rfl (by (try simp only [ByteArray.size_append]); omega) ?_
    repeat' (first | (with_reducible refine q_nil ?_) | ((with_reducible refine is_q ?_); first | (refine q_off rfl ?_) | (refine q_p txs rfl rfl ?_) | (refine q_a txs rfl rfl (by first | exact in_i64 (by omega) (by omega) | exact in_u8 (by omega) (by omega) | exact in_u64 (by omega) (by omega) | exact in_i32 (by omega) (by omega)) ?_)))
    refine q_cat rfl rfl (by (try simp only [ByteArray.size_append]); omega) ?_
    repeat' (first | (with_reducible refine q_nil ?_) | ((with_reducible refine is_q ?_); first | (refine q_off rfl ?_) | (refine q_p txs rfl rfl ?_) | (refine q_a txs rfl rfl (by first | exact in_i64 (by omega) (by omega) | exact in_u8 (by omega) (by omega) | exact in_u64 (by omega) (by omega) | exact in_i32 (by omega) (by omega)) ?_)))
    refine q_val rfl (fun w' K => evLR_run (o := ⟨_, _, _, _, _, _⟩) recs rfl rfl (K.range 0 rfl) hlb) ?_
    refine q_call rfl rfl (by kernel_rfl) (fun w1 K => (hSb w1).mono fun e w2 h => ⟨h.1, K.call h.2⟩) ?_
    repeat' (first | (with_reducible refine q_nil ?_) | ((with_reducible refine is_q ?_); first | (refine q_off rfl ?_) | (refine q_p txs rfl rfl ?_) | (refine q_a txs rfl rfl (by first | exact in_i64 (by omega) (by omega) | exact in_u8 (by omega) (by omega) | exact in_u64 (by omega) (by omega) | exact in_i32 (by omega) (by omega)) ?_)))
    refine q_cat rfl rfl (by (try simp only [ByteArray.size_append]); omega) ?_
    repeat' (first | (with_reducible refine q_nil ?_) | ((with_reducible refine is_q ?_); first | (refine q_off rfl ?_) | (refine q_p txs rfl rfl ?_) | (refine q_a txs rfl rfl (by first | exact in_i64 (by omega) (by omega) | exact in_u8 (by omega) (by omega) | exact in_u64 (by omega) (by omega) | exact in_i32 (by omega) (by omega)) ?_)))
    refine q_cat rfl rfl (by (try simp only [ByteArray.size_append]); omega) ?_
    repeat' (first | (with_reducible refine q_nil ?_) | ((with_reducible refine is_q ?_); first | (refine q_off rfl ?_) | (refine q_p txs rfl rfl ?_) | (refine q_a txs rfl rfl (by first | exact in_i64 (by omega) (by omega) | exact in_u8 (by omega) (by omega) | exact in_u64 (by omega) (by omega) | exact in_i32 (by omega) (by omega)) ?_)))
    clear H
    intro w_ H
    repeat' (with_reducible first | refine p_tn ?_ | refine wp_ret ?_)
    refine end2 rfl rfl rfl ?_
    exact ⟨by rw [if_pos rfl, ← hfin]; rfl, H.B⟩
end Go.Proofs.YtnimaenhijlcmaaGreatDoor.K.Rec
end
section
namespace Go.Proofs.YtnimaenhijlcmaaGreatDoor.K.Rec.Law
open Go.RowKit Go.Proofs.YtnimaenhijlcmaaGreatDoor.Q Go.Proofs.YtnimaenhijlcmaaGreatDoor.K Go.Proofs.YtnimaenhijlcmaaGreatDoor.K.Rec Go.Proofs.YtnimaenhijlcmaaGreatDoor.Mb Go.Proofs.YtnimaenhijlcmaaGreatDoorW.PrintWords
set_option linter.unusedVariables false
set_option linter.unusedSimpArgs false
def fo : Nat → Nat → Option Nat
  | 27, 0 => some 0
  | 27, 1 => some 1
  | 27, 2 => some 2
  | 27, 3 => some 3
  | 27, 4 => some 35
  | 27, 5 => some 67
  | t, k => K.fo t k
theorem fld0 : fldB Tryz.prog 27 0 = some 0 := by kernel_rfl
theorem fld1 : fldB Tryz.prog 27 1 = some 1 := by kernel_rfl
theorem fld2 : fldB Tryz.prog 27 2 = some 2 := by kernel_rfl
theorem fld3 : fldB Tryz.prog 27 3 = some 3 := by kernel_rfl
theorem fld4 : fldB Tryz.prog 27 4 = some 35 := by kernel_rfl
theorem fld5 : fldB Tryz.prog 27 5 = some 67 := by kernel_rfl
theorem flds : Flds Tryz.prog fo := by
  intro t k o h
  unfold fo at h
  split at h
  · cases h; exact fld0
  · cases h; exact fld1
  · cases h; exact fld2
  · cases h; exact fld3
  · cases h; exact fld4
  · cases h; exact fld5
  · exact K.flds t k o h
abbrev opC (k : Int) (t u : ByteArray) (A B : L) (s : Value) : List Value := .int .i64 k :: .string t :: .string u :: (nums .u8 A ++ (nums .u8 B ++ [s]))
theorem op_a {k : Int} {t u : ByteArray} {A B : L} {s : Value} {j : Nat} {v : Value} (h : (nums .u8 A)[j]? = some v) : (opC k t u A B s)[3 + j]? = some v := by
  rw [Nat.add_comm 3 j]
  show (nums .u8 A ++ (nums .u8 B ++ [s]))[j]? = some v
  rw [List.getElem?_append_left (List.getElem?_eq_some_iff.1 h).1, h]
theorem op_b {k : Int} {t u : ByteArray} {A B : L} {s : Value} (lA : A.length = 32) {j : Nat} {v : Value} (h : (nums .u8 B)[j]? = some v) : (opC k t u A B s)[35 + j]? = some v := by
  rw [show 35 + j = (32 + j) + 3 by omega]
  show (nums .u8 A ++ (nums .u8 B ++ [s]))[32 + j]? = some v
  rw [List.getElem?_append_right (by rw [nums_length]; omega), nums_length, lA, Nat.add_sub_cancel_left, List.getElem?_append_left (List.getElem?_eq_some_iff.1 h).1, h]
theorem op_s {k : Int} {t u : ByteArray} {A B : L} {s : Value} (lA : A.length = 32) (lB : B.length = 32) : (opC k t u A B s)[67]? = some s := by
  show (nums .u8 A ++ (nums .u8 B ++ [s]))[64]? = some s
  rw [List.getElem?_append_right (by rw [nums_length]; omega), nums_length, lA, List.getElem?_append_right (by rw [nums_length]; omega), nums_length, lB]
  rfl
theorem cons_of {l : L} {n : Nat} (h : l.length = n + 1) : ∃ a r, l = a :: r ∧ r.length = n := by
  cases l with
  | nil => simp at h
  | cons a r => exact ⟨a, r, rfl, by simpa using h⟩
theorem list32 {l : L} (h : l.length = 32) : ∃ a0 a1 a2 a3 a4 a5 a6 a7 a8 a9 a10 a11 a12 a13 a14 a15 a16 a17 a18 a19 a20 a21 a22 a23 a24 a25 a26 a27 a28 a29 a30 a31 : Int, l = [a0, a1, a2, a3, a4, a5, a6, a7, a8, a9, a10, a11, a12, a13, a14, a15, a16, a17, a18, a19, a20, a21, a22, a23, a24, a25, a26, a27, a28, a29, a30, a31] := by
  obtain ⟨a0, l0, e0, h0⟩ := cons_of h
  obtain ⟨a1, l1, e1, h1⟩ := cons_of h0
  obtain ⟨a2, l2, e2, h2⟩ := cons_of h1
  obtain ⟨a3, l3, e3, h3⟩ := cons_of h2
  obtain ⟨a4, l4, e4, h4⟩ := cons_of h3
  obtain ⟨a5, l5, e5, h5⟩ := cons_of h4
  obtain ⟨a6, l6, e6, h6⟩ := cons_of h5
  obtain ⟨a7, l7, e7, h7⟩ := cons_of h6
  obtain ⟨a8, l8, e8, h8⟩ := cons_of h7
  obtain ⟨a9, l9, e9, h9⟩ := cons_of h8
  obtain ⟨a10, l10, e10, h10⟩ := cons_of h9
  obtain ⟨a11, l11, e11, h11⟩ := cons_of h10
  obtain ⟨a12, l12, e12, h12⟩ := cons_of h11
  obtain ⟨a13, l13, e13, h13⟩ := cons_of h12
  obtain ⟨a14, l14, e14, h14⟩ := cons_of h13
  obtain ⟨a15, l15, e15, h15⟩ := cons_of h14
  obtain ⟨a16, l16, e16, h16⟩ := cons_of h15
  obtain ⟨a17, l17, e17, h17⟩ := cons_of h16
  obtain ⟨a18, l18, e18, h18⟩ := cons_of h17
  obtain ⟨a19, l19, e19, h19⟩ := cons_of h18
  obtain ⟨a20, l20, e20, h20⟩ := cons_of h19
  obtain ⟨a21, l21, e21, h21⟩ := cons_of h20
  obtain ⟨a22, l22, e22, h22⟩ := cons_of h21
  obtain ⟨a23, l23, e23, h23⟩ := cons_of h22
  obtain ⟨a24, l24, e24, h24⟩ := cons_of h23
  obtain ⟨a25, l25, e25, h25⟩ := cons_of h24
  obtain ⟨a26, l26, e26, h26⟩ := cons_of h25
  obtain ⟨a27, l27, e27, h27⟩ := cons_of h26
  obtain ⟨a28, l28, e28, h28⟩ := cons_of h27
  obtain ⟨a29, l29, e29, h29⟩ := cons_of h28
  obtain ⟨a30, l30, e30, h30⟩ := cons_of h29
  obtain ⟨a31, l31, e31, h31⟩ := cons_of h30
  cases l31 with
  | cons a r => simp at h31
  | nil => exact ⟨a0, a1, a2, a3, a4, a5, a6, a7, a8, a9, a10, a11, a12, a13, a14, a15, a16, a17, a18, a19, a20, a21, a22, a23, a24, a25, a26, a27, a28, a29, a30, a31, by rw [e0, e1, e2, e3, e4, e5, e6, e7, e8, e9, e10, e11, e12, e13, e14, e15, e16, e17, e18, e19, e20, e21, e22, e23, e24, e25, e26, e27, e28, e29, e30, e31]⟩
theorem built_op (k : Int) (t u : ByteArray) {A B : L} (lA : A.length = 32) (lB : B.length = 32) : Tryz.prog.built 27 [(0, .int .i64 k), (1, .string t), (2, .string u), (3, .agg (nums .u8 A).toArray), (4, .agg (nums .u8 B).toArray)] = some (opC k t u A B (.slice none 0 0)).toArray := by
  obtain ⟨a0, a1, a2, a3, a4, a5, a6, a7, a8, a9, a10, a11, a12, a13, a14, a15, a16, a17, a18, a19, a20, a21, a22, a23, a24, a25, a26, a27, a28, a29, a30, a31, rfl⟩ := list32 lA
  obtain ⟨b0, b1, b2, b3, b4, b5, b6, b7, b8, b9, b10, b11, b12, b13, b14, b15, b16, b17, b18, b19, b20, b21, b22, b23, b24, b25, b26, b27, b28, b29, b30, b31, rfl⟩ := list32 lB
  kernel_rfl
section
variable {P : Program} {n : Nat} {ops : Array Oper} {Q : Exit → Act → World → Prop} {rest : List Oper} {f : Fr} {w : World} {d : Option Nat} {tt : TypeId} {ps : String} {af : Array Edge} {gd : Option (Nat × Bool)}
theorem l_iaZ {t e : TypeId} {m sz : Nat} {x y : Operand} {g : Nat} {k : IntKind} {j : Int} (ht : P.underlying t = some (.array m e)) (he : (P.info? e).map (·.size) = some sz) (hw : want n ops f ⟨d, .indexAddr t x y, tt, ps, af, gd⟩ = true) (hx : nf (X n f x) = some (.pointer (some ⟨g, 0, none⟩))) (hy : nf (X n f y) = some (.int k j)) (h0 : 0 ≤ j) (h1 : j < m)
    (h : WL P ops Q rest (act n (put f d (.pointer (some ⟨g, j.toNat * sz, none⟩)))) w) : WL P ops Q (⟨d, .indexAddr t x y, tt, ps, af, gd⟩ :: rest) (act n f) w := by
  refine l_val hw ?_ h
  have hx' := nf_eq hx
  have hy' := nf_eq hy
  obtain ⟨i0, hi, hz⟩ := Option.map_eq_some_iff.1 he
  unfold execOp
  simp [go_sem, ← hx', ← hy', Instr.indexAt, run_underlying ht, sizeOf, typeInfo, hi, hz, h0, h1, Addr.add_lit]
end
theorem size32 : (Tryz.prog.info? 22).map (·.size) = some 32 := by kernel_rfl
theorem get_a {A B : L} {j : Nat} {v : Value} (h : (nums .u8 A)[j]? = some v) : (nums .u8 (A ++ B))[j]? = some v := by
  rw [nums_app, List.getElem?_append_left (List.getElem?_eq_some_iff.1 h).1, h]
theorem get_b {A B : L} (lA : A.length = 32) {j : Nat} {v : Value} (h : (nums .u8 B)[j]? = some v) : (nums .u8 (A ++ B))[32 + j]? = some v := by
  rw [nums_app, List.getElem?_append_right (by rw [nums_length]; omega), nums_length, lA, Nat.add_sub_cancel_left, h]
structure LayR (w : World) : Prop where
  lay : Lay w
  tak : ∃ t fr, w.heap[3]? = some (.cells deC t fr)
theorem LayR.below {w w' : World} (h : LayR w) (K : Below w.heap.size w w') : LayR w' := by
  obtain ⟨hL, t, fr, h1⟩ := h
  exact ⟨hL.below K, t, fr, (K.block _ (blk_lt h1)).trans h1⟩
set_option maxRecDepth 100000 in
set_option maxHeartbeats 16000000 in
theorem records7_c {w : World} (hL : LayR w) (t u : ByteArray) (A B : L) (s : Value) :
    Calls Tryz.prog 8 #[.agg (opC 7 t u A B s).toArray] w fun e w' => e = .returned (.bool true) ∧ Below w.heap.size w w' := by
  refine enter (args := [.agg (opC 7 t u A B s).toArray]) Tryz.func8 rfl Tryz.ntmps8 rfl ?_
  have H := Hp.nil w
  repeat' (with_reducible first | refine wp_seq ?_ | refine w_reg ?_)
  (with_reducible refine is_l ?_); refine h_box H rfl rfl (nfL_eq _ _) (fun gX w_ H => ?_)
  have H : Hp w w_ [(gX, 27, opC 7 t u A B s)] [] := H
  repeat' (first | (with_reducible first | refine p_tn ?_ | refine wp_seq ?_ | refine wp_block ?_ | refine w_reg ?_ | refine l_nil ?_) | ((with_reducible refine g_on ?_); (first | ((with_reducible refine g_as ?_); refine l_p txs rfl rfl ?_) | ((with_reducible refine g_fa ?_); refine h_fa flds rfl rfl ?_) | ((with_reducible refine g_ld ?_); (refine h_ld txs H 0 rfl rfl rfl rfl ?_)))))
  (with_reducible refine is_l ?_); refine l_t txs rfl rfl (fun _ => ?_) (fun h => absurd rfl h)
  repeat' (first | (with_reducible first | refine p_tn ?_ | refine wp_seq ?_ | refine w_reg ?_) | (with_reducible (refine is_if ?_; (refine w_ift rfl ?_))) | (with_reducible refine l_nil ?_) | ((with_reducible refine g_on ?_); (first | ((with_reducible refine g_as ?_); refine l_p txs rfl rfl ?_) | ((with_reducible refine g_fa ?_); refine h_fa flds rfl rfl ?_) | ((with_reducible refine g_ld ?_); (refine h_ld txs H 0 rfl rfl rfl rfl ?_)))))
  obtain ⟨_, t2, fr, hD⟩ := hL.below H.B
  have hk := Ref.Key_r hD t u
  have hk2 := fun (w1 : World) (h1 : Lay w1) => Key_c h1 t u
  generalize keyT t u = kt at hk hk2
  generalize checkS (bl t) (bl u) = n at hk hk2
  (with_reducible refine is_l ?_); refine l_callv rfl rfl (by kernel_rfl) hk (fun w_ K => ?_)
  have H := H.call K
  repeat' (first | (with_reducible first | refine p_tn ?_ | refine wp_seq ?_ | refine w_reg ?_ | refine l_nil ?_) | ((with_reducible refine g_on ?_); (first | ((with_reducible refine g_mv ?_); refine l_p txs rfl rfl ?_) | ((with_reducible refine g_as ?_); refine l_p txs rfl rfl ?_) | ((with_reducible refine g_ex ?_); refine l_p txs rfl rfl ?_) | ((with_reducible refine g_fa ?_); refine h_fa flds rfl rfl ?_) | ((with_reducible refine g_ld ?_); (refine h_ld txs H 0 rfl rfl rfl rfl ?_)))))
  (with_reducible refine is_l ?_); refine l_callv rfl rfl (by kernel_rfl) (hk2 _ (hL.below H.B).lay) (fun w_ K => ?_)
  have H := H.call K
  repeat' (first | (with_reducible first | refine p_tn ?_ | refine wp_seq ?_ | refine w_reg ?_ | refine l_nil ?_) | ((with_reducible refine g_on ?_); (first | ((with_reducible refine g_mv ?_); refine l_p txs rfl rfl ?_) | ((with_reducible refine g_as ?_); refine l_p txs rfl rfl ?_) | ((with_reducible refine g_ex ?_); refine l_p txs rfl rfl ?_))))
  (with_reducible refine is_l ?_); refine l_t txs rfl rfl (fun _ => ?_) (fun h => absurd rfl h)
  repeat' (first | ((with_reducible refine g_on ?_); ((with_reducible refine g_mv ?_); refine l_p txs rfl rfl ?_)) | ((with_reducible refine g_if ?_); ((with_reducible refine g_mv ?_); refine l_p txs rfl rfl ?_)))
  (with_reducible refine is_l ?_); refine l_t txs rfl rfl (fun _ => ?_) (fun h => absurd rfl h)
  repeat' (first | (with_reducible first | refine p_tn ?_ | refine p_tr ?_ | refine p_br ?_ | refine wp_ret ?_ | refine l_nil ?_) | ((with_reducible refine g_on ?_); (first | ((with_reducible refine g_as ?_); refine l_p txs rfl rfl ?_) | ((with_reducible refine g_pk ?_); refine l_p txs rfl rfl ?_))))
  refine end1 rfl rfl ?_
  exact ⟨rfl, H.B⟩
set_option maxRecDepth 100000 in
set_option maxHeartbeats 16000000 in
theorem records13_c {w : World} (hL : LayR w) (t u : ByteArray) (A B : L) (bA : Bytes A) (lA : A.length = 32) (bB : Bytes B) (lB : B.length = 32) (s : Value) :
    Calls Tryz.prog 8 #[.agg (opC 13 t u A B s).toArray] w fun e w' => e = .returned (.bool true) ∧ Below w.heap.size w w' := by
  have nA : (nums .u8 A).length = (nums .u8 zL).length := by rw [nums_length, lA]; rfl
  have nB : (nums .u8 B).length = (nums .u8 zL).length := by rw [nums_length, lB]; rfl
  refine enter (args := [.agg (opC 13 t u A B s).toArray]) Tryz.func8 rfl Tryz.ntmps8 rfl ?_
  have H := Hp.nil w
  repeat' (with_reducible first | refine wp_seq ?_ | refine w_reg ?_)
  (with_reducible refine is_l ?_); refine h_box H rfl rfl (nfL_eq _ _) (fun gX w_ H => ?_)
  have H : Hp w w_ [(gX, 27, opC 13 t u A B s)] [] := H
  repeat' (first | (with_reducible first | refine p_tn ?_ | refine wp_seq ?_ | refine wp_block ?_ | refine w_reg ?_ | refine l_nil ?_) | ((with_reducible refine g_on ?_); (first | ((with_reducible refine g_as ?_); refine l_p txs rfl rfl ?_) | ((with_reducible refine g_fa ?_); refine h_fa flds rfl rfl ?_) | ((with_reducible refine g_ld ?_); (refine h_ld txs H 0 rfl rfl rfl rfl ?_)))))
  (with_reducible refine is_l ?_); refine l_t txs rfl rfl (fun h => absurd h (by decide)) (fun _ => ?_)
  repeat' (first | (with_reducible first | refine p_tn ?_ | refine wp_seq ?_ | refine w_reg ?_) | (with_reducible (refine is_if ?_; (refine w_iff rfl ?_))) | (with_reducible refine l_nil ?_) | ((with_reducible refine g_on ?_); ((with_reducible refine g_as ?_); refine l_p txs rfl rfl ?_)))
  (with_reducible refine is_l ?_); refine l_t txs rfl rfl (fun h => absurd h (by decide)) (fun _ => ?_)
  repeat' (first | (with_reducible first | refine p_tn ?_ | refine wp_seq ?_ | refine w_reg ?_) | (with_reducible (refine is_if ?_; (refine w_iff rfl ?_))) | (with_reducible refine l_nil ?_) | ((with_reducible refine g_on ?_); ((with_reducible refine g_as ?_); refine l_p txs rfl rfl ?_)))
  (with_reducible refine is_l ?_); refine l_t txs rfl rfl (fun h => absurd h (by decide)) (fun _ => ?_)
  repeat' (first | (with_reducible first | refine p_tn ?_ | refine wp_seq ?_ | refine w_reg ?_) | (with_reducible (refine is_if ?_; (refine w_iff rfl ?_))) | (with_reducible refine l_nil ?_) | ((with_reducible refine g_on ?_); ((with_reducible refine g_as ?_); refine l_p txs rfl rfl ?_)))
  (with_reducible refine is_l ?_); refine l_t txs rfl rfl (fun h => absurd h (by decide)) (fun _ => ?_)
  repeat' (first | (with_reducible first | refine p_tn ?_ | refine wp_seq ?_ | refine w_reg ?_) | (with_reducible (refine is_if ?_; (refine w_iff rfl ?_))) | (with_reducible refine l_nil ?_) | ((with_reducible refine g_on ?_); ((with_reducible refine g_as ?_); refine l_p txs rfl rfl ?_)))
  (with_reducible refine is_l ?_); refine l_t txs rfl rfl (fun _ => ?_) (fun h => absurd rfl h)
  repeat' (first | (with_reducible first | refine p_tn ?_ | refine wp_seq ?_ | refine w_reg ?_) | (with_reducible (refine is_if ?_; (refine w_ift rfl ?_))) | (with_reducible refine l_nil ?_) | ((with_reducible refine g_on ?_); (first | ((with_reducible refine g_as ?_); refine l_p txs rfl rfl ?_) | ((with_reducible refine g_fa ?_); refine h_fa flds rfl rfl ?_) | ((with_reducible refine g_ld ?_); (refine h_ld txs H 0 rfl rfl rfl rfl ?_)))))
  (with_reducible refine is_l ?_); refine h_ldA recs (cs := nums .u8 A) (fun j v hv => by show World.cell? _ ((⟨gX, 3, none⟩ : Addr).add j) = _; rw [Addr.add_lit]; exact H.cellAt 0 rfl (op_a hv)) rfl rfl rfl nA ?_
  repeat' ((with_reducible refine g_on ?_); ((with_reducible refine g_fa ?_); refine h_fa flds rfl rfl ?_))
  (with_reducible refine is_l ?_); refine h_ldA recs (cs := nums .u8 B) (fun j v hv => by show World.cell? _ ((⟨gX, 35, none⟩ : Addr).add j) = _; rw [Addr.add_lit]; exact H.cellAt 0 rfl (op_b lA hv)) rfl rfl rfl nB ?_
  skip
  obtain ⟨_, t2, fr, hD⟩ := hL.below H.B
  have hk := Record_r hD t u A B bA lA bB lB
  have hk2 := fun (w1 : World) (h1 : Lay w1) => Record_c h1 t u A B bA lA bB lB
  generalize recT t u A B = kt at hk hk2
  generalize checkS (bl t) (bl u) = n at hk hk2
  (with_reducible refine is_l ?_); refine l_callv rfl rfl (by kernel_rfl) hk (fun w_ K => ?_)
  have H := H.call K
  repeat' (first | (with_reducible first | refine p_tn ?_ | refine wp_seq ?_ | refine w_reg ?_ | refine l_nil ?_) | ((with_reducible refine g_on ?_); (first | ((with_reducible refine g_mv ?_); refine l_p txs rfl rfl ?_) | ((with_reducible refine g_as ?_); refine l_p txs rfl rfl ?_) | ((with_reducible refine g_ex ?_); refine l_p txs rfl rfl ?_) | ((with_reducible refine g_fa ?_); refine h_fa flds rfl rfl ?_) | ((with_reducible refine g_ld ?_); (refine h_ld txs H 0 rfl rfl rfl rfl ?_)))))
  (with_reducible refine is_l ?_); refine h_ldA recs (cs := nums .u8 A) (fun j v hv => by show World.cell? _ ((⟨gX, 3, none⟩ : Addr).add j) = _; rw [Addr.add_lit]; exact H.cellAt 0 rfl (op_a hv)) rfl rfl rfl nA ?_
  repeat' ((with_reducible refine g_on ?_); ((with_reducible refine g_fa ?_); refine h_fa flds rfl rfl ?_))
  (with_reducible refine is_l ?_); refine h_ldA recs (cs := nums .u8 B) (fun j v hv => by show World.cell? _ ((⟨gX, 35, none⟩ : Addr).add j) = _; rw [Addr.add_lit]; exact H.cellAt 0 rfl (op_b lA hv)) rfl rfl rfl nB ?_
  skip
  (with_reducible refine is_l ?_); refine l_callv rfl rfl (by kernel_rfl) (hk2 _ (hL.below H.B).lay) (fun w_ K => ?_)
  have H := H.call K
  repeat' (first | (with_reducible first | refine p_tn ?_ | refine wp_seq ?_ | refine w_reg ?_ | refine l_nil ?_) | ((with_reducible refine g_on ?_); (first | ((with_reducible refine g_mv ?_); refine l_p txs rfl rfl ?_) | ((with_reducible refine g_as ?_); refine l_p txs rfl rfl ?_) | ((with_reducible refine g_ex ?_); refine l_p txs rfl rfl ?_))))
  (with_reducible refine is_l ?_); refine l_t txs rfl rfl (fun _ => ?_) (fun h => absurd rfl h)
  repeat' (first | ((with_reducible refine g_on ?_); ((with_reducible refine g_mv ?_); refine l_p txs rfl rfl ?_)) | ((with_reducible refine g_if ?_); ((with_reducible refine g_mv ?_); refine l_p txs rfl rfl ?_)))
  (with_reducible refine is_l ?_); refine l_t txs rfl rfl (fun _ => ?_) (fun h => absurd rfl h)
  repeat' (first | (with_reducible first | refine p_tn ?_ | refine p_tr ?_ | refine p_br ?_ | refine wp_ret ?_ | refine l_nil ?_) | ((with_reducible refine g_on ?_); (first | ((with_reducible refine g_as ?_); refine l_p txs rfl rfl ?_) | ((with_reducible refine g_pk ?_); refine l_p txs rfl rfl ?_))))
  refine end1 rfl rfl ?_
  exact ⟨rfl, H.B⟩
set_option maxRecDepth 100000 in
set_option maxHeartbeats 16000000 in
theorem fits_c {w : World} (hL : LayR w) (t u : ByteArray) (A B : L) (bA : Bytes A) (lA : A.length = 32) (bB : Bytes B) (lB : B.length = 32) :
    Calls Tryz.prog 3 #[.string t, .string u, .agg (nums .u8 (A ++ B)).toArray] w fun e w' => e = .returned (.bool true) ∧ Below w.heap.size w w' := by
  have nA : (nums .u8 A).length = (nums .u8 zL).length := by rw [nums_length, lA]; rfl
  have nB : (nums .u8 B).length = (nums .u8 zL).length := by rw [nums_length, lB]; rfl
  refine enter (args := [.string t, .string u, .agg (nums .u8 (A ++ B)).toArray]) Tryz.func3 rfl Tryz.ntmps3 rfl ?_
  have H := Hp.nil w
  repeat' (with_reducible first | refine wp_seq ?_ | refine w_reg ?_)
  (with_reducible refine is_l ?_); refine h_box H rfl rfl (nfL_eq _ _) (fun g5 w_ H => ?_)
  have H : Hp w w_ [(g5, 23, nums .u8 (A ++ B))] [] := H
  repeat' (first | (with_reducible first | refine p_tn ?_ | refine wp_seq ?_ | refine wp_block ?_ | refine w_reg ?_ | refine l_nil ?_) | ((with_reducible refine g_on ?_); ((with_reducible refine g_as ?_); refine l_p txs rfl rfl ?_)))
  refine w_loop (σ := Nat) (S := fun s => [(0, .string t), (1, .string u), (5, .pointer (some ⟨g5, 0, none⟩)), (7, .int .i64 ((7 + s : Nat) : Int))])
    (J := fun s w' => Hp w w' [(g5, 23, nums .u8 (A ++ B))] [] ∧ s ≤ 7) (μ := fun s => 7 - s) 0 ⟨rfl, rfl, rfl, rfl, trivial⟩ ⟨H, by omega⟩ ?_
  clear H
  rintro k f w_ ⟨H, hk⟩
  repeat' (first | (with_reducible first | refine wp_seq ?_ | refine w_reg ?_) | ((with_reducible refine g_on ?_); ((with_reducible refine g_mv ?_); refine l_p txs rfl rfl ?_)))
  (with_reducible refine is_l ?_); refine l_t txs rfl rfl (fun hle => ?_) (fun hgt => ?_)
  · by_cases h0 : k = 0
    · subst h0
      repeat' (first | (with_reducible first | refine p_tn ?_ | refine wp_seq ?_ | refine wp_block ?_ | refine w_reg ?_) | (with_reducible (refine is_if ?_; (refine w_ift rfl ?_))) | (with_reducible first | refine wp_skip ?_ | refine l_nil ?_) | ((with_reducible refine g_on ?_); ((with_reducible refine g_mv ?_); refine l_p txs rfl rfl ?_)))
      (with_reducible refine is_l ?_); refine l_t txs rfl rfl (fun _ => ?_) (fun h => absurd rfl h)
      repeat' (first | (with_reducible first | refine p_tn ?_ | refine wp_seq ?_ | refine w_reg ?_) | (with_reducible (refine is_if ?_; (refine w_ift rfl ?_))) | (with_reducible refine l_nil ?_) | ((with_reducible refine g_on ?_); (first | ((with_reducible refine g_mv ?_); refine l_p txs rfl rfl ?_) | ((with_reducible refine g_pk ?_); refine l_p txs rfl rfl ?_))) | ((with_reducible refine g_if ?_); (refine l_off rfl ?_)))
      (with_reducible refine is_l ?_); refine l_iaZ Tryz.underlying23 size32 rfl rfl rfl (by decide) (by decide) ?_
      skip
      (with_reducible refine is_l ?_); refine h_ldA recs (cs := nums .u8 A) (fun j v hv => by show World.cell? _ ((⟨g5, 0, none⟩ : Addr).add j) = _; rw [Addr.add_lit, Nat.zero_add]; exact H.cellAt 0 rfl (get_a hv)) rfl rfl rfl nA ?_
      skip
      (with_reducible refine is_l ?_); refine l_iaZ Tryz.underlying23 size32 rfl rfl rfl (by decide) (by decide) ?_
      skip
      (with_reducible refine is_l ?_); refine h_ldA recs (cs := nums .u8 B) (fun j v hv => by show World.cell? _ ((⟨g5, 32, none⟩ : Addr).add j) = _; rw [Addr.add_lit]; exact H.cellAt 0 rfl (get_b lA hv)) rfl rfl rfl nB ?_
      skip
      (with_reducible refine is_l ?_); refine h_bld rfl rfl (built_op 7 t u lA lB) ?_
      skip
      (with_reducible refine is_l ?_); refine l_callv rfl rfl (by kernel_rfl) (records7_c (hL.below H.B) t u A B _) (fun w_ K => ?_)
      have H := H.call K
      repeat' (first | (with_reducible first | refine p_tn ?_ | refine p_bn ?_ | refine wp_seq ?_ | refine w_reg ?_) | (with_reducible (refine is_if ?_; (refine w_iff rfl ?_))) | (with_reducible first | refine wp_skip ?_ | refine l_nil ?_) | ((with_reducible refine g_on ?_); (first | ((with_reducible refine g_mv ?_); refine l_p txs rfl rfl ?_) | ((with_reducible refine g_as ?_); refine l_p txs rfl rfl ?_) | ((with_reducible refine g_un ?_); (refine l_p txs rfl rfl ?_)) | ((with_reducible refine g_bi ?_); (refine l_a txs rfl rfl (by first | exact in_i64 (by omega) (by omega) | exact in_u8 (by omega) (by omega) | exact in_u64 (by omega) (by omega) | exact in_i32 (by omega) (by omega)) ?_)))))
      exact ⟨1, _, rfl, ⟨rfl, rfl, rfl, rfl, trivial⟩, ⟨H, by omega⟩, by decide⟩
    by_cases h6 : k = 6
    · subst h6
      repeat' (first | (with_reducible first | refine p_tn ?_ | refine wp_seq ?_ | refine wp_block ?_ | refine w_reg ?_) | (with_reducible (refine is_if ?_; (refine w_ift rfl ?_))) | (with_reducible first | refine wp_skip ?_ | refine l_nil ?_) | ((with_reducible refine g_on ?_); ((with_reducible refine g_mv ?_); refine l_p txs rfl rfl ?_)))
      (with_reducible refine is_l ?_); refine l_t txs rfl rfl (fun h => absurd h (by decide)) (fun _ => ?_)
      repeat' (first | ((with_reducible refine g_on ?_); ((with_reducible refine g_mv ?_); refine l_p txs rfl rfl ?_)) | ((with_reducible refine g_if ?_); ((with_reducible refine g_mv ?_); refine l_p txs rfl rfl ?_)))
      (with_reducible refine is_l ?_); refine l_t txs rfl rfl (fun _ => ?_) (fun h => absurd rfl h)
      repeat' (first | (with_reducible first | refine p_tn ?_ | refine wp_seq ?_ | refine w_reg ?_) | (with_reducible (refine is_if ?_; (refine w_ift rfl ?_))) | (with_reducible refine l_nil ?_) | ((with_reducible refine g_on ?_); (first | ((with_reducible refine g_mv ?_); refine l_p txs rfl rfl ?_) | ((with_reducible refine g_pk ?_); refine l_p txs rfl rfl ?_))))
      (with_reducible refine is_l ?_); refine l_iaZ Tryz.underlying23 size32 rfl rfl rfl (by decide) (by decide) ?_
      skip
      (with_reducible refine is_l ?_); refine h_ldA recs (cs := nums .u8 A) (fun j v hv => by show World.cell? _ ((⟨g5, 0, none⟩ : Addr).add j) = _; rw [Addr.add_lit, Nat.zero_add]; exact H.cellAt 0 rfl (get_a hv)) rfl rfl rfl nA ?_
      skip
      (with_reducible refine is_l ?_); refine l_iaZ Tryz.underlying23 size32 rfl rfl rfl (by decide) (by decide) ?_
      skip
      (with_reducible refine is_l ?_); refine h_ldA recs (cs := nums .u8 B) (fun j v hv => by show World.cell? _ ((⟨g5, 32, none⟩ : Addr).add j) = _; rw [Addr.add_lit]; exact H.cellAt 0 rfl (get_b lA hv)) rfl rfl rfl nB ?_
      skip
      (with_reducible refine is_l ?_); refine h_bld rfl rfl (built_op 13 t u lA lB) ?_
      skip
      (with_reducible refine is_l ?_); refine l_callv rfl rfl (by kernel_rfl) (records13_c (hL.below H.B) t u A B bA lA bB lB _) (fun w_ K => ?_)
      have H := H.call K
      repeat' (first | (with_reducible first | refine p_tn ?_ | refine p_bn ?_ | refine wp_seq ?_ | refine w_reg ?_) | (with_reducible (refine is_if ?_; (refine w_iff rfl ?_))) | (with_reducible first | refine wp_skip ?_ | refine l_nil ?_) | ((with_reducible refine g_on ?_); (first | ((with_reducible refine g_mv ?_); refine l_p txs rfl rfl ?_) | ((with_reducible refine g_as ?_); refine l_p txs rfl rfl ?_) | ((with_reducible refine g_un ?_); (refine l_p txs rfl rfl ?_)) | ((with_reducible refine g_bi ?_); (refine l_a txs rfl rfl (by first | exact in_i64 (by omega) (by omega) | exact in_u8 (by omega) (by omega) | exact in_u64 (by omega) (by omega) | exact in_i32 (by omega) (by omega)) ?_)))))
      exact ⟨7, _, rfl, ⟨rfl, rfl, rfl, rfl, trivial⟩, ⟨H, by omega⟩, by decide⟩
    · repeat' (first | (with_reducible first | refine p_tn ?_ | refine wp_seq ?_ | refine wp_block ?_ | refine w_reg ?_) | (with_reducible (refine is_if ?_; (refine w_ift rfl ?_))) | (with_reducible first | refine wp_skip ?_ | refine l_nil ?_) | ((with_reducible refine g_on ?_); ((with_reducible refine g_mv ?_); refine l_p txs rfl rfl ?_)))
      (with_reducible refine is_l ?_); refine l_t txs rfl rfl (fun h => absurd h (by omega)) (fun _ => ?_)
      repeat' (first | ((with_reducible refine g_on ?_); ((with_reducible refine g_mv ?_); refine l_p txs rfl rfl ?_)) | ((with_reducible refine g_if ?_); ((with_reducible refine g_mv ?_); refine l_p txs rfl rfl ?_)))
      (with_reducible refine is_l ?_); refine l_t txs rfl rfl (fun h => absurd h (by omega)) (fun _ => ?_)
      repeat' (first | (with_reducible first | refine p_tn ?_ | refine p_bn ?_ | refine w_reg ?_) | (with_reducible (refine is_if ?_; (refine w_iff rfl ?_))) | (with_reducible first | refine wp_skip ?_ | refine l_nil ?_) | ((with_reducible refine g_on ?_); (first | ((with_reducible refine g_mv ?_); refine l_p txs rfl rfl ?_) | ((with_reducible refine g_as ?_); refine l_p txs rfl rfl ?_) | ((with_reducible refine g_pk ?_); refine l_p txs rfl rfl ?_) | ((with_reducible refine g_bi ?_); (refine l_a txs rfl rfl (by first | exact in_i64 (by omega) (by omega) | exact in_u8 (by omega) (by omega) | exact in_u64 (by omega) (by omega) | exact in_i32 (by omega) (by omega)) ?_)))))
      exact ⟨k + 1, _, rfl, ⟨rfl, rfl, rfl, by show Value.int .i64 (((7 + k : Nat) : Int) + 1) = Value.int .i64 ((7 + (k + 1) : Nat) : Int); congr 1, trivial⟩, ⟨H, by omega⟩, by show 7 - (k + 1) < 7 - k; omega⟩
  · repeat' (first | (with_reducible first | refine p_tn ?_ | refine p_tx ?_ | refine x_hit ?_ | refine wp_seq ?_ | refine w_reg ?_) | (with_reducible (refine is_if ?_; (refine w_iff rfl ?_))) | (with_reducible first | refine wp_exit ?_ | refine l_nil ?_))
    (with_reducible refine is_l ?_); refine l_callv rfl rfl (by kernel_rfl) (known_c (hL.below H.B).lay) (fun w_ K => ?_)
    have H := H.call K
    repeat' (first | (with_reducible first | refine p_tn ?_ | refine wp_ret ?_ | refine l_nil ?_) | ((with_reducible refine g_on ?_); ((with_reducible refine g_as ?_); refine l_p txs rfl rfl ?_)))
    refine end1 rfl rfl ?_
    exact ⟨rfl, H.B⟩
end Go.Proofs.YtnimaenhijlcmaaGreatDoor.K.Rec.Law
end
section
namespace Go.Proofs.YtnimaenhijlcmaaGreatDoor.LaidZ
open Go.ChangeShapes Go.WideShapes Go.ChangeAt Go.RowKit
open Go.Proofs.YtnimaenhijlcmaaGreatDoor.K Go.Proofs.YtnimaenhijlcmaaGreatDoor.Mb
open Go.Lib (VarReads)
set_option linter.unusedVariables false
set_option linter.unusedSimpArgs false
theorem own : ownKnob Tryz.prog.godebug = none := by kernel_rfl
def ldT (s : ByteArray) : DataW Unit := .lit (.string s.data.toList)
theorem text_in {W : World} {m : Nat} {t : TypeId} {c : List Value} {y : DataW Unit × List MemPlace} {s : ByteArray} (ht : Tryz.prog.underlying t = some .string) (h : DataW.trod (fun _ => ()) Tryz.prog W 0 (fun _ => true) false m t c = some y) (hy : y.1 = ldT s) : c = [.string s] := by
  obtain ⟨s', rfl, rfl, _⟩ := DataW.trod_string ht h
  simp [ldT] at hy
  have : s' = s := by
    cases s; cases s'
    simp only [ByteArray.mk.injEq]
    exact Array.toList_inj.1 (by simpa using hy)
  rw [this]
theorem cells_of_texts {W : World} {fuel n : Nat} {arr E : TypeId} {cs : List Value} {p : List MemPlace} {T : List ByteArray} (ht : Tryz.prog.underlying arr = some (.array n E)) (hE : Tryz.prog.underlying E = some .string) (kE : Tryz.prog.cellsOf E = 1) (kA : Tryz.prog.cellsOf arr = n) (hn : T.length = n)
    (h : DataW.trod (fun _ => ()) Tryz.prog W 0 (fun _ => true) false fuel arr cs = some (.agg (T.map ldT), p)) : cs = T.map Value.string := by
  obtain ⟨xs, m, _, hx, hl, hxl, hall⟩ := DataW.trod_array ht h
  have hmap : xs.map (·.1) = T.map ldT := by
    have := congrArg Prod.fst hx
    simpa using this.symm
  refine List.ext_getElem? fun i => ?_
  by_cases hi : i < n
  · have hiT : i < T.length := by omega
    have hxi : i < xs.length := by omega
    have ha := hall i hi
    rw [List.getElem?_eq_getElem hxi, kE, Nat.mul_one] at ha
    have he : (xs[i]).1 = ldT T[i] := by
      have := congrArg (fun l => l[i]?) hmap
      simp only [List.getElem?_map, List.getElem?_eq_getElem hxi, List.getElem?_eq_getElem hiT, Option.map_some, Option.some.injEq] at this
      exact this
    have h1 := congrArg (fun l => l[0]?) (text_in hE ha he)
    simp only [List.getElem?_map, List.getElem?_eq_getElem hiT, Option.map_some] at h1 ⊢
    rw [List.getElem?_take_of_lt (by omega), List.getElem?_drop] at h1
    simpa using h1
  · rw [List.getElem?_eq_none (by omega), List.getElem?_eq_none (by rw [List.length_map]; omega)]
theorem heap_of_var {W : World} {nm : String} {g : Nat} {cs : Array Value} (hg : Tryz.prog.globalNamed nm = some g) (h : W.var? Tryz.prog nm = some cs) : ∃ t fr, W.heap[g]? = some (.cells cs t fr) := by
  unfold World.var? at h
  rw [hg, Option.bind_some] at h
  cases hx : W.heap[g]? with
  | none => rw [hx] at h; cases h
  | some o =>
    rw [hx] at h
    cases o <;> simp at h
    subst h
    exact ⟨_, _, rfl⟩
theorem deData : Rows.laid_ledger_modver_devices = .agg (deB.map ldT) := by kernel_rfl
theorem layD {W : World} (h : VarReads Tryz.prog W "ledger/modver.devices" Rows.laid_ledger_modver_devices) : ∃ t fr, W.heap[2]? = some (.cells deC t fr) := by
  rw [deData] at h
  obtain ⟨g', t', cs, fuel, p, hg', ht', hvar, hd⟩ := h
  obtain rfl := Option.some.inj ((show Tryz.prog.globalNamed "ledger/modver.devices" = some 2 by kernel_rfl).symm.trans hg')
  obtain rfl := Option.some.inj ((show (Tryz.prog.globals[2]?).map (·.type) = some 138 by kernel_rfl).symm.trans ht')
  have e := cells_of_texts Tryz.underlying138 Tryz.underlying9 (by kernel_rfl) (by kernel_rfl) rfl hd
  have e2 : cs = deC := by
    rw [← Array.toList_inj, e]; rfl
  rw [e2] at hvar
  exact heap_of_var (by kernel_rfl) hvar
theorem taData : Rows.laid_ledger_ledgerref11_taken = .agg (deB.map ldT) := by kernel_rfl
theorem layT {W : World} (h : VarReads Tryz.prog W "ledger/ledgerref11.taken" Rows.laid_ledger_ledgerref11_taken) : ∃ t fr, W.heap[3]? = some (.cells deC t fr) := by
  rw [taData] at h
  obtain ⟨g', t', cs, fuel, p, hg', ht', hvar, hd⟩ := h
  obtain rfl := Option.some.inj ((show Tryz.prog.globalNamed "ledger/ledgerref11.taken" = some 3 by kernel_rfl).symm.trans hg')
  obtain rfl := Option.some.inj ((show (Tryz.prog.globals[3]?).map (·.type) = some 138 by kernel_rfl).symm.trans ht')
  have e := cells_of_texts Tryz.underlying138 Tryz.underlying9 (by kernel_rfl) (by kernel_rfl) rfl hd
  have e2 : cs = deC := by
    rw [← Array.toList_inj, e]; rfl
  rw [e2] at hvar
  exact heap_of_var (by kernel_rfl) hvar
theorem mkData : Rows.laid_ledger_modver_marks = Lib.tabData (H := Unit) .i32 mkL := by kernel_rfl
theorem layK {W : World} (h : VarReads Tryz.prog W "ledger/modver.marks" Rows.laid_ledger_modver_marks) : ∃ t fr, W.heap[1]? = some (.cells mkC t fr) := by
  rw [mkData] at h
  obtain ⟨g', t', cs, fuel, p, hg', ht', hvar, hd⟩ := h
  obtain rfl := Option.some.inj ((show Tryz.prog.globalNamed "ledger/modver.marks" = some 1 by kernel_rfl).symm.trans hg')
  obtain rfl := Option.some.inj ((show (Tryz.prog.globals[1]?).map (·.type) = some 137 by kernel_rfl).symm.trans ht')
  have e := Lib.cells_of_tab Tryz.underlying137 Tryz.underlying21 (show Tryz.prog.cellsOf 21 = 1 by kernel_rfl) (show Tryz.prog.cellsOf 137 = 5 by kernel_rfl) hd
  have e2 : cs = mkC := by
    rw [← Array.toList_inj, e]; rfl
  rw [e2] at hvar
  exact heap_of_var (by kernel_rfl) hvar
theorem maxLen_cell {w : World} (h : w.ShapedOpen Tryz.prog) : ∃ m, w.cell? ⟨0, 0, none⟩ = some (.int .i64 m) :=
  Go.Proofs.cell_of_shapedOpen_int (zero := #[.int .i64 0]) (t := 3) h (of_decide_eq_true (by kernel_rfl)) (by kernel_rfl) rfl (by kernel_rfl) (by kernel_rfl) Tryz.underlying3
theorem laidOut : laidOutB Tryz.prog = true := by kernel_rfl
noncomputable def world (os : Os) : World := World.laidAll Tryz.prog os Rows.modverFitsRow.laid
theorem world_os (os : Os) : (world os).os = os := World.laidAll_os _ _ _
set_option maxRecDepth 100000 in
theorem met (os : Os) (args : Array Value) : laidMet Tryz.prog Rows.modverFitsRow.laid ((world os).forCall (fun _ _ => 0) ⟨#[], args, []⟩).memory :=
  laidMet_laidAll _ (by kernel_rfl) (by kernel_rfl)
end Go.Proofs.YtnimaenhijlcmaaGreatDoor.LaidZ
end
