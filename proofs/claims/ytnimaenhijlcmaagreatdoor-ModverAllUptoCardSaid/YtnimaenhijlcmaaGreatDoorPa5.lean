/- Joined texts of mine, 5: Fg, MDe, Fh, Vz, Fi, Fj, Fk, Sa, Fl, Fm, MSort. -/
import Derived.Stop.BytesEq
import Derived.Test.YtnimaenhijlcmaaGreatDoorPa4
section
namespace Go.Proofs.YtnimaenhijlcmaaGreatDoor.K.Ref
open Go.RowKit Go.Proofs.YtnimaenhijlcmaaGreatDoor.Q Go.Proofs.YtnimaenhijlcmaaGreatDoor.K Go.Proofs.YtnimaenhijlcmaaGreatDoor.Mb Go.Proofs.YtnimaenhijlcmaaGreatDoorW.PrintWords
set_option linter.unusedVariables false
set_option linter.unusedSimpArgs false
def TakL (w : World) : Prop := ∃ t fr, w.heap[3]? = some (.cells deC t fr)
theorem TakL.below {w w' : World} (h : TakL w) (K : Below w.heap.size w w') : TakL w' := by
  obtain ⟨t, fr, h1⟩ := h
  exact ⟨t, fr, (K.block _ (blk_lt h1)).trans h1⟩
theorem checkPath_r {w : World} (hL : TakL w) (t : ByteArray) :
    Calls Tryz.prog 41 #[.string t] w fun e w' => e = .returned (.int .i64 (pathN (bl t) : Int)) ∧ Below w.heap.size w w' := by
  obtain ⟨t2, fr, hD⟩ := hL
  refine enter (args := [.string t]) Tryz.func41 rfl Tryz.ntmps41 rfl ?_
  have H := Hp.nil w
  have hma := fun (w1 : World) (h1 : w1.heap[3]? = some (.cells deC t2 fr)) => Major_c h1 t
  rw [refMajor_eq] at hma
  repeat' (first | (with_reducible first | refine p_tn ?_ | refine wp_seq ?_ | refine w_reg ?_ | refine l_nil ?_) | ((with_reducible refine g_on ?_); (first | ((with_reducible refine g_mv ?_); refine l_p txs rfl rfl ?_) | ((with_reducible refine g_as ?_); refine l_p txs rfl rfl ?_))))
  cases hp : pathS (bl t)
  · rw [hp] at hma
    have hn : pathN (bl t) = 110 := by unfold pathN; rw [hp]; rfl
    (with_reducible refine is_l ?_); refine l_callv rfl rfl (by kernel_rfl) (hma _ hD) (fun w_ K => ?_)
    have H := H.call K
    repeat' (first | (with_reducible first | refine p_tn ?_ | refine p_tr ?_ | refine wp_seq ?_ | refine w_reg ?_) | (with_reducible (refine is_if ?_; (refine w_ift rfl ?_))) | (with_reducible first | refine wp_ret ?_ | refine l_nil ?_) | ((with_reducible refine g_on ?_); (first | ((with_reducible refine g_mv ?_); refine l_p txs rfl rfl ?_) | ((with_reducible refine g_as ?_); refine l_p txs rfl rfl ?_) | ((with_reducible refine g_ex ?_); refine l_p txs rfl rfl ?_) | ((with_reducible refine g_un ?_); (refine l_p txs rfl rfl ?_)))))
    refine end1 rfl rfl ?_
    exact ⟨by rw [hn]; rfl, H.B⟩
  · rw [hp, if_pos rfl] at hma
    have hn : pathN (bl t) = 0 := by unfold pathN; rw [hp]; rfl
    generalize (majorS (bl t)).1 = m at hma
    (with_reducible refine is_l ?_); refine l_callv rfl rfl (by kernel_rfl) (hma _ hD) (fun w_ K => ?_)
    have H := H.call K
    repeat' (first | (with_reducible first | refine p_tn ?_ | refine wp_seq ?_ | refine w_reg ?_) | (with_reducible (refine is_if ?_; (refine w_iff rfl ?_))) | (with_reducible first | refine wp_skip ?_ | refine wp_ret ?_ | refine l_nil ?_) | ((with_reducible refine g_on ?_); (first | ((with_reducible refine g_mv ?_); refine l_p txs rfl rfl ?_) | ((with_reducible refine g_as ?_); refine l_p txs rfl rfl ?_) | ((with_reducible refine g_ex ?_); refine l_p txs rfl rfl ?_) | ((with_reducible refine g_un ?_); (refine l_p txs rfl rfl ?_)))))
    refine end1 rfl rfl ?_
    exact ⟨by rw [hn]; rfl, H.B⟩
theorem checkVersion_r (t : ByteArray) (w : World) :
    Calls Tryz.prog 43 #[.string t] w fun e w' => e = .returned (.int .i64 (chkV (bl t))) ∧ Below w.heap.size w w' := by
  refine enter (args := [.string t]) Tryz.func43 rfl Tryz.ntmps43 rfl ?_
  have H := Hp.nil w
  repeat' (first | (with_reducible first | refine p_tn ?_ | refine wp_seq ?_ | refine w_reg ?_ | refine l_nil ?_) | ((with_reducible refine g_on ?_); (first | ((with_reducible refine g_mv ?_); refine l_p txs rfl rfl ?_) | ((with_reducible refine g_as ?_); refine l_p txs rfl rfl ?_))))
  (with_reducible refine is_l ?_); refine l_call rfl rfl (by kernel_rfl) (Split_c t _) (fun e w_ hR => ?_)
  unfold PaR at hR
  cases hq : parseV (bl t) with
  | none =>
    rw [hq] at hR
    obtain ⟨x, y, z, A, n, c, bo, rfl, K⟩ := hR
    refine ⟨_, rfl, ?_⟩
    have H := H.call K
    have hn : chkV (bl t) = 111 := by unfold chkV; rw [hq]; rfl
    repeat' (first | (with_reducible first | refine p_tn ?_ | refine p_tr ?_ | refine wp_seq ?_ | refine w_reg ?_) | (with_reducible (refine is_if ?_; (refine w_ift rfl ?_))) | (with_reducible first | refine wp_ret ?_ | refine l_nil ?_) | ((with_reducible refine g_on ?_); (first | ((with_reducible refine g_mv ?_); refine l_p txs rfl rfl ?_) | ((with_reducible refine g_as ?_); refine l_p txs rfl rfl ?_) | ((with_reducible refine g_ex ?_); refine l_p txs rfl rfl ?_) | ((with_reducible refine g_st ?_); (refine h_stR recs H 0 rfl rfl rfl rfl rfl rfl rfl rfl rfl (fun w_ H => ?_))) | ((with_reducible refine g_al ?_); refine h_alloc recs H rfl rfl (fun g_ w_ H => ?_)) | ((with_reducible refine g_un ?_); (refine l_p txs rfl rfl ?_)))))
    refine end1 rfl rfl ?_
    exact ⟨by rw [hn], H.B⟩
  | some v =>
    rw [hq] at hR
    obtain ⟨A2, c2, rfl, K⟩ := hR
    refine ⟨_, rfl, ?_⟩
    have H := H.call K.B
    have hn : chkV (bl t) = 0 := by unfold chkV; rw [hq]; rfl
    repeat' (first | (with_reducible first | refine p_tn ?_ | refine wp_seq ?_ | refine w_reg ?_) | (with_reducible (refine is_if ?_; (refine w_iff rfl ?_))) | (with_reducible first | refine wp_skip ?_ | refine wp_ret ?_ | refine l_nil ?_) | ((with_reducible refine g_on ?_); (first | ((with_reducible refine g_mv ?_); refine l_p txs rfl rfl ?_) | ((with_reducible refine g_as ?_); refine l_p txs rfl rfl ?_) | ((with_reducible refine g_ex ?_); refine l_p txs rfl rfl ?_) | ((with_reducible refine g_st ?_); (refine h_stR recs H 0 rfl rfl rfl rfl rfl rfl rfl rfl rfl (fun w_ H => ?_))) | ((with_reducible refine g_al ?_); refine h_alloc recs H rfl rfl (fun g_ w_ H => ?_)) | ((with_reducible refine g_un ?_); (refine l_p txs rfl rfl ?_)))))
    refine end1 rfl rfl ?_
    exact ⟨by rw [hn], H.B⟩
theorem esc_take {l : L} {i : Nat} {x : Int} (h : l[i]? = some x) : escS (l.take (i + 1)) = escS (l.take i) ++ esc1 x := by
  obtain ⟨h1, h2⟩ := List.getElem?_eq_some_iff.1 h
  rw [List.take_succ_eq_append_getElem h1, h2]
  unfold escS
  simp
theorem esc_len2 (l : L) : (escS l).length ≤ 2 * l.length := by
  induction l with
  | nil => exact Nat.le_refl 0
  | cons x r ih =>
    have h1 : escS (x :: r) = esc1 x ++ escS r := rfl
    have h2 : (esc1 x).length ≤ 2 := by unfold esc1; split <;> simp
    rw [h1, List.length_append, List.length_cons]
    omega
set_option maxRecDepth 100000 in
set_option maxHeartbeats 8000000 in
theorem escaped_c (t : ByteArray) (w : World) (ht : t.size ≤ 100000000) : Calls Tryz.prog 119 #[.string t] w fun e w' => e = .returned (.string (strOfNums (escS (bl t)))) ∧ Below w.heap.size w w' := by
  have hlen := bl_length t
  refine enter (args := [.string t]) Tryz.func119 rfl Tryz.ntmps119 rfl ?_
  have H := (Hp.nil w).nilRow 5 1
  repeat' (first | (with_reducible first | refine p_tn ?_ | refine wp_seq ?_ | refine wp_block ?_ | refine w_reg ?_ | refine l_nil ?_) | ((with_reducible refine g_on ?_); ((with_reducible refine g_as ?_); refine l_p txs rfl rfl ?_)))
  refine w_loop (σ := Nat × L × Option Addr × Nat) (S := fun s => [(0, .string t), (3, .slice s.2.2.1 s.2.1.length s.2.2.2), (4, .int .i64 (s.1 : Int))])
    (J := fun s w' => Hp w w' [] [rowB (.slice s.2.2.1 s.2.1.length s.2.2.2) s.2.1] ∧ s.1 ≤ t.size ∧ s.2.1 = escS ((bl t).take s.1)) (μ := fun s => t.size - s.1) (0, [], none, 0) ⟨rfl, rfl, rfl, trivial⟩ ⟨H, by omega, rfl⟩ ?_
  clear H
  rintro ⟨i, acc, A2, c2⟩ f w_ ⟨H, hi, hV⟩
  simp only at H hi hV ⊢
  have hal : acc.length ≤ 2 * i := by
    have := esc_len2 ((bl t).take i)
    rw [← hV, List.length_take] at this
    omega
  repeat' (first | (with_reducible first | refine wp_seq ?_ | refine w_reg ?_) | ((with_reducible refine g_on ?_); (first | ((with_reducible refine g_mv ?_); refine l_p txs rfl rfl ?_) | ((with_reducible refine g_cl ?_); refine l_p txs rfl rfl ?_))))
  (with_reducible refine is_l ?_); refine l_t txs rfl rfl (fun hlt => ?_) (fun hge => ?_)
  · obtain ⟨x, hx⟩ : ∃ x, (bl t)[i]? = some x := ⟨_, List.getElem?_eq_getElem (by omega)⟩
    have hx2 := bl_bytes t x (List.mem_of_getElem? hx)
    have hat := at_of hx
    have hst := esc_take hx
    rw [← hV] at hst
    repeat' (first | (with_reducible first | refine p_tn ?_ | refine wp_seq ?_ | refine wp_block ?_ | refine w_reg ?_) | (with_reducible (refine is_if ?_; (refine w_ift rfl ?_))) | (with_reducible first | refine wp_skip ?_ | refine l_nil ?_) | ((with_reducible refine g_on ?_); (first | ((with_reducible refine g_mv ?_); refine l_p txs rfl rfl ?_) | ((with_reducible refine g_ix ?_); refine l_ix txs rfl rfl (by first | omega | assumption | decide) (by first | omega | assumption | decide) ?_))))
    rw [hat]
    skip
    (with_reducible refine is_l ?_); refine l_callp rfl rfl (by kernel_rfl) (capital_c x _) ?_
    cases hc : capB x
    · have he1 : esc1 x = [x] := by unfold esc1; rw [hc]; rfl
      rw [he1] at hst
      repeat' (first | (with_reducible first | refine p_tn ?_ | refine w_reg ?_) | (with_reducible (refine is_if ?_; (refine w_iff rfl ?_))) | (with_reducible refine l_nil ?_) | ((with_reducible refine g_on ?_); (first | ((with_reducible refine g_mv ?_); refine l_p txs rfl rfl ?_) | ((with_reducible refine g_ix ?_); refine l_ix txs rfl rfl (by first | omega | assumption | decide) (by first | omega | assumption | decide) ?_))))
      rw [hat]
      obtain ⟨y, hy⟩ : ∃ y, y = x := ⟨_, rfl⟩
      rw [← hy] at hst ⊢
      (with_reducible refine is_l ?_); refine h_bs H info_u8 Tryz.underlying34 (by decide) (by decide) rfl rfl (by kernel_rfl) (fun g_ w_ H => ?_)
      (with_reducible refine is_l ?_); refine h_app H 0 rfl info_u8 Tryz.underlying34 rfl rfl rfl rfl (H.cellRd 0 rfl) rfl rfl (by show (acc.length + 1) * 1 ≤ _; omega) (fun v w_ hv H => ?_)
      obtain ⟨A', c', rfl⟩ := hv
      have H := H.pick [] [0] (by decide) (by decide) rfl rfl
      have H : Hp w w_ [] [rowB (.slice A' (acc.length + 1) c') (acc ++ [y])] := by
        unfold rowB
        rw [nums_snoc, List.length_append, List.length_singleton]
        exact H
      have hal2 : (acc ++ [y]).length = acc.length + 1 := by rw [List.length_append, List.length_singleton]
      rw [← hal2] at H ⊢
      repeat' (first | (with_reducible first | refine p_tn ?_ | refine p_bn ?_ | refine w_reg ?_ | refine l_nil ?_) | ((with_reducible refine g_on ?_); (first | ((with_reducible refine g_mv ?_); refine l_p txs rfl rfl ?_) | ((with_reducible refine g_as ?_); refine l_p txs rfl rfl ?_) | ((with_reducible refine g_bi ?_); (refine l_a txs rfl rfl (by first | exact in_i64 (by omega) (by omega) | exact in_u8 (by omega) (by omega) | exact in_u64 (by omega) (by omega) | exact in_i32 (by omega) (by omega)) ?_)))))
      exact ⟨(i + 1, acc ++ [y], A', c'), _, rfl, ⟨rfl, rfl, rfl, trivial⟩, ⟨H, by show i + 1 ≤ _; omega, hst.symm⟩, by show _ - (i + 1) < _ - i; omega⟩
    · have he1 : esc1 x = [33, x + 32] := by unfold esc1; rw [hc]; rfl
      have hcr : 65 ≤ x ∧ x ≤ 90 := by
        unfold capB at hc
        simpa using hc
      rw [he1] at hst
      obtain ⟨y, hy⟩ : ∃ y : Int, y = 33 := ⟨_, rfl⟩
      obtain ⟨z, hz⟩ : ∃ z, z = x + 32 := ⟨_, rfl⟩
      have hst2 : (acc ++ [y]) ++ [z] = escS ((bl t).take (i + 1)) := by rw [hst, hy, hz, List.append_assoc]; rfl
      repeat' (first | (with_reducible first | refine p_tn ?_ | refine wp_seq ?_ | refine w_reg ?_) | (with_reducible (refine is_if ?_; (refine w_ift rfl ?_))) | (with_reducible refine l_nil ?_) | ((with_reducible refine g_on ?_); ((with_reducible refine g_mv ?_); refine l_p txs rfl rfl ?_)))
      rw [← hy]
      (with_reducible refine is_l ?_); refine h_bs H info_u8 Tryz.underlying34 (by decide) (by decide) rfl rfl (by kernel_rfl) (fun g_ w_ H => ?_)
      (with_reducible refine is_l ?_); refine h_app H 0 rfl info_u8 Tryz.underlying34 rfl rfl rfl rfl (H.cellRd 0 rfl) rfl rfl (by show (acc.length + 1) * 1 ≤ _; omega) (fun v w_ hv H => ?_)
      obtain ⟨A', c', rfl⟩ := hv
      have H := H.pick [] [0] (by decide) (by decide) rfl rfl
      have H : Hp w w_ [] [rowB (.slice A' (acc.length + 1) c') (acc ++ [y])] := by
        unfold rowB
        rw [nums_snoc, List.length_append, List.length_singleton]
        exact H
      have hal2 : (acc ++ [y]).length = acc.length + 1 := by rw [List.length_append, List.length_singleton]
      rw [← hal2] at H ⊢
      clear hst
      generalize acc ++ [y] = acc at H hst2 hal2 ⊢
      clear hy
      obtain ⟨y, hy⟩ : ∃ y, y = z := ⟨_, rfl⟩
      rw [← hy] at hst2
      repeat' (first | (with_reducible first | refine p_tn ?_ | refine w_reg ?_ | refine l_nil ?_) | ((with_reducible refine g_on ?_); (first | ((with_reducible refine g_mv ?_); refine l_p txs rfl rfl ?_) | ((with_reducible refine g_as ?_); refine l_p txs rfl rfl ?_) | ((with_reducible refine g_ix ?_); refine l_ix txs rfl rfl (by first | omega | assumption | decide) (by first | omega | assumption | decide) ?_) | ((with_reducible refine g_bi ?_); (refine l_a txs rfl rfl (by first | exact in_i64 (by omega) (by omega) | exact in_u8 (by omega) (by omega) | exact in_u64 (by omega) (by omega) | exact in_i32 (by omega) (by omega)) ?_)))))
      rw [hat]
      skip
      rw [← hz, ← hy]
      (with_reducible refine is_l ?_); refine h_bs H info_u8 Tryz.underlying34 (by decide) (by decide) rfl rfl (by kernel_rfl) (fun g_ w_ H => ?_)
      (with_reducible refine is_l ?_); refine h_app H 0 rfl info_u8 Tryz.underlying34 rfl rfl rfl rfl (H.cellRd 0 rfl) rfl rfl (by show (acc.length + 1) * 1 ≤ _; omega) (fun v w_ hv H => ?_)
      obtain ⟨A', c', rfl⟩ := hv
      have H := H.pick [] [0] (by decide) (by decide) rfl rfl
      have H : Hp w w_ [] [rowB (.slice A' (acc.length + 1) c') (acc ++ [y])] := by
        unfold rowB
        rw [nums_snoc, List.length_append, List.length_singleton]
        exact H
      have hal2 : (acc ++ [y]).length = acc.length + 1 := by rw [List.length_append, List.length_singleton]
      rw [← hal2] at H ⊢
      repeat' (first | (with_reducible first | refine p_tn ?_ | refine p_bn ?_ | refine w_reg ?_ | refine l_nil ?_) | ((with_reducible refine g_on ?_); (first | ((with_reducible refine g_mv ?_); refine l_p txs rfl rfl ?_) | ((with_reducible refine g_as ?_); refine l_p txs rfl rfl ?_) | ((with_reducible refine g_bi ?_); (refine l_a txs rfl rfl (by first | exact in_i64 (by omega) (by omega) | exact in_u8 (by omega) (by omega) | exact in_u64 (by omega) (by omega) | exact in_i32 (by omega) (by omega)) ?_)))))
      exact ⟨(i + 1, acc ++ [y], A', c'), _, rfl, ⟨rfl, rfl, rfl, trivial⟩, ⟨H, by show i + 1 ≤ _; omega, hst2⟩, by show _ - (i + 1) < _ - i; omega⟩
  · have hall : (bl t).take i = bl t := List.take_of_length_le (by omega)
    rw [hall] at hV
    repeat' (first | (with_reducible first | refine p_tn ?_ | refine p_tx ?_ | refine x_hit ?_ | refine wp_seq ?_ | refine w_reg ?_) | (with_reducible (refine is_if ?_; (refine w_iff rfl ?_))) | (with_reducible first | refine wp_exit ?_ | refine l_nil ?_) | ((with_reducible refine g_on ?_); ((with_reducible refine g_mv ?_); refine l_p txs rfl rfl ?_)))
    (with_reducible refine is_l ?_); refine l_text rfl rfl Tryz.underlying34 Tryz.underlying5 Tryz.underlying9 (rowB_rd H 0 (F := A2) (f := c2) (x := acc) rfl).1 ?_
    repeat' (first | (with_reducible first | refine p_tn ?_ | refine wp_ret ?_ | refine l_nil ?_) | ((with_reducible refine g_on ?_); ((with_reducible refine g_as ?_); refine l_p txs rfl rfl ?_)))
    refine end1 rfl rfl ?_
    exact ⟨by rw [hV], H.B⟩
set_option maxRecDepth 100000 in
set_option maxHeartbeats 8000000 in
theorem plain_c (t : ByteArray) (w : World) (ht : t.size ≤ 100000000) : Calls Tryz.prog 121 #[.string t] w fun e w' => e = .returned (.tuple #[.string (unT (bl t)).1, .bool (unT (bl t)).2]) ∧ Below w.heap.size w w' := by
  have hlen := bl_length t
  have hbt := bl_bytes t
  refine enter (args := [.string t]) Tryz.func121 rfl Tryz.ntmps121 rfl ?_
  have H := (Hp.nil w).nilRow 5 1
  repeat' (first | (with_reducible first | refine p_tn ?_ | refine wp_seq ?_ | refine wp_block ?_ | refine w_reg ?_ | refine l_nil ?_) | ((with_reducible refine g_on ?_); ((with_reducible refine g_as ?_); refine l_p txs rfl rfl ?_)))
  refine w_loop (σ := Nat × L × Option Addr × Nat) (S := fun s => [(0, .string t), (4, .slice s.2.2.1 s.2.1.length s.2.2.2), (5, .int .i64 (s.1 : Int))])
    (J := fun s w' => Hp w w' [] [rowB (.slice s.2.2.1 s.2.1.length s.2.2.2) s.2.1] ∧ s.1 ≤ t.size ∧ s.2.1.length ≤ s.1 ∧ unescS (bl t) = (unescS ((bl t).drop s.1)).map (s.2.1 ++ ·)) (μ := fun s => t.size - s.1) (0, [], none, 0) ⟨rfl, rfl, rfl, trivial⟩ ⟨H, by omega, by simp, by show unescS (bl t) = (unescS (bl t)).map (fun z => [] ++ z); cases unescS (bl t) <;> rfl⟩ ?_
  clear H
  rintro ⟨i, acc, A2, c2⟩ f w_ ⟨H, hi, hal, hV⟩
  simp only at H hi hal hV ⊢
  repeat' (first | (with_reducible first | refine wp_seq ?_ | refine w_reg ?_) | ((with_reducible refine g_on ?_); (first | ((with_reducible refine g_mv ?_); refine l_p txs rfl rfl ?_) | ((with_reducible refine g_cl ?_); refine l_p txs rfl rfl ?_))))
  (with_reducible refine is_l ?_); refine l_t txs rfl rfl (fun hlt => ?_) (fun hge => ?_)
  · obtain ⟨x, hx⟩ : ∃ x, (bl t)[i]? = some x := ⟨_, List.getElem?_eq_getElem (by omega)⟩
    have hx2 := bl_bytes t x (List.mem_of_getElem? hx)
    have hat : at_ (bl t) (i : Int) = x := by unfold at_; rw [Int.toNat_natCast, List.getD_eq_getElem?_getD, hx]; rfl
    have hdr : (bl t).drop i = x :: (bl t).drop (i + 1) := by
      obtain ⟨h1, h2⟩ := List.getElem?_eq_some_iff.1 hx
      rw [List.drop_eq_getElem_cons h1, h2]
    rw [hdr] at hV
    repeat' (first | (with_reducible first | refine p_tn ?_ | refine wp_seq ?_ | refine wp_block ?_ | refine w_reg ?_) | (with_reducible (refine is_if ?_; (refine w_ift rfl ?_))) | (with_reducible first | refine wp_skip ?_ | refine l_nil ?_) | ((with_reducible refine g_on ?_); (first | ((with_reducible refine g_mv ?_); refine l_p txs rfl rfl ?_) | ((with_reducible refine g_as ?_); refine l_p txs rfl rfl ?_) | ((with_reducible refine g_ix ?_); refine l_ix txs rfl rfl (by first | omega | assumption | decide) (by first | omega | assumption | decide) ?_))))
    rw [hat]
    skip
    (with_reducible refine is_l ?_); refine l_callp rfl rfl (by kernel_rfl) (capital_c x _) ?_
    cases hc : capB x
    rotate_left
    · have hno : unescS (bl t) = none := by rw [hV, unesc_cap _ hc]; rfl
      repeat' (first | (with_reducible first | refine p_tn ?_ | refine p_tr ?_ | refine p_br ?_ | refine wp_seq ?_ | refine w_reg ?_) | (with_reducible (refine is_if ?_; (refine w_ift rfl ?_))) | (with_reducible first | refine wp_ret ?_ | refine l_nil ?_) | ((with_reducible refine g_on ?_); ((with_reducible refine g_as ?_); refine l_p txs rfl rfl ?_)))
      refine end2 rfl rfl rfl ?_
      exact ⟨by rw [un_none hno], H.B⟩
    repeat' (first | (with_reducible first | refine p_tn ?_ | refine wp_seq ?_ | refine w_reg ?_) | (with_reducible (refine is_if ?_; (refine w_iff rfl ?_))) | (with_reducible first | refine wp_skip ?_ | refine l_nil ?_) | ((with_reducible refine g_on ?_); ((with_reducible refine g_mv ?_); refine l_p txs rfl rfl ?_)))
    (with_reducible refine is_l ?_); refine l_t txs rfl rfl (fun h1 => ?_) (fun h1 => ?_)
    · rw [h1] at hV
      repeat' (first | (with_reducible first | refine p_tn ?_ | refine wp_seq ?_ | refine w_reg ?_) | (with_reducible (refine is_if ?_; (refine w_ift rfl ?_))) | (with_reducible refine l_nil ?_) | ((with_reducible refine g_on ?_); (first | ((with_reducible refine g_mv ?_); refine l_p txs rfl rfl ?_) | ((with_reducible refine g_as ?_); refine l_p txs rfl rfl ?_) | ((with_reducible refine g_cl ?_); refine l_p txs rfl rfl ?_) | ((with_reducible refine g_bi ?_); (refine l_a txs rfl rfl (by first | exact in_i64 (by omega) (by omega) | exact in_u8 (by omega) (by omega) | exact in_u64 (by omega) (by omega) | exact in_i32 (by omega) (by omega)) ?_)))))
      (with_reducible refine is_l ?_); refine l_t txs rfl rfl (fun h2 => ?_) (fun h2 => ?_)
      · have hno : unescS (bl t) = none := by rw [hV, List.drop_eq_nil_of_le (by omega)]; rfl
        repeat' (first | (with_reducible first | refine p_tn ?_ | refine p_tr ?_ | refine p_br ?_ | refine wp_seq ?_ | refine w_reg ?_) | (with_reducible (refine is_if ?_; (refine w_ift rfl ?_))) | (with_reducible first | refine wp_ret ?_ | refine l_nil ?_) | ((with_reducible refine g_on ?_); (first | ((with_reducible refine g_mv ?_); refine l_p txs rfl rfl ?_) | ((with_reducible refine g_as ?_); refine l_p txs rfl rfl ?_) | ((with_reducible refine g_pk ?_); refine l_p txs rfl rfl ?_))) | ((with_reducible refine g_if ?_); (refine l_off rfl ?_)))
        refine end2 rfl rfl rfl ?_
        exact ⟨by rw [un_none hno], H.B⟩
      obtain ⟨z, hz⟩ : ∃ z, (bl t)[i + 1]? = some z := ⟨_, List.getElem?_eq_getElem (by omega)⟩
      have hz2 := bl_bytes t z (List.mem_of_getElem? hz)
      have hatz : at_ (bl t) ((i : Int) + 1) = z := by unfold at_; rw [show ((i : Int) + 1).toNat = i + 1 by omega, List.getD_eq_getElem?_getD, hz]; rfl
      have hdz : (bl t).drop (i + 1) = z :: (bl t).drop (i + 2) := by
        obtain ⟨h1, h2⟩ := List.getElem?_eq_some_iff.1 hz
        rw [List.drop_eq_getElem_cons h1, h2]
      rw [hdz] at hV
      repeat' (first | ((with_reducible refine g_on ?_); ((with_reducible refine g_mv ?_); refine l_p txs rfl rfl ?_)) | ((with_reducible refine g_if ?_); (first | ((with_reducible refine g_mv ?_); refine l_p txs rfl rfl ?_) | ((with_reducible refine g_ix ?_); refine l_ix txs rfl rfl (by first | omega | assumption | decide) (by first | omega | assumption | decide) ?_))))
      rw [hatz]
      skip
      (with_reducible refine is_l ?_); refine l_callp rfl rfl (by kernel_rfl) (small_c z _) ?_
      cases hs : smlB z
      · have hno : unescS (bl t) = none := by rw [hV, unesc_bad _ hs]; rfl
        repeat' (first | (with_reducible first | refine p_tn ?_ | refine p_tr ?_ | refine p_br ?_ | refine wp_seq ?_ | refine w_reg ?_) | (with_reducible (refine is_if ?_; (refine w_ift rfl ?_))) | (with_reducible first | refine wp_ret ?_ | refine l_nil ?_) | ((with_reducible refine g_on ?_); (first | ((with_reducible refine g_as ?_); refine l_p txs rfl rfl ?_) | ((with_reducible refine g_pk ?_); refine l_p txs rfl rfl ?_))) | ((with_reducible refine g_if ?_); ((with_reducible refine g_un ?_); (refine l_p txs rfl rfl ?_))))
        refine end2 rfl rfl rfl ?_
        exact ⟨by rw [un_none hno], H.B⟩
      rw [unesc_sml _ hs, map_map_cons] at hV
      have hzr : 97 ≤ z ∧ z ≤ 122 := by
        unfold smlB at hs
        simpa using hs
      obtain ⟨y, hy⟩ : ∃ y, y = z - 32 := ⟨_, rfl⟩
      have hy2 : z - 32 = y := by omega
      rw [← hy] at hV
      repeat' (first | (with_reducible first | refine p_tn ?_ | refine w_reg ?_) | (with_reducible (refine is_if ?_; (refine w_iff rfl ?_))) | (with_reducible first | refine wp_skip ?_ | refine l_nil ?_) | ((with_reducible refine g_on ?_); (first | ((with_reducible refine g_mv ?_); refine l_p txs rfl rfl ?_) | ((with_reducible refine g_as ?_); refine l_p txs rfl rfl ?_) | ((with_reducible refine g_pk ?_); refine l_p txs rfl rfl ?_) | ((with_reducible refine g_ix ?_); refine l_ix txs rfl rfl (by first | omega | assumption | decide) (by first | omega | assumption | decide) ?_) | ((with_reducible refine g_bi ?_); (refine l_a txs rfl rfl (by first | exact in_i64 (by omega) (by omega) | exact in_u8 (by omega) (by omega) | exact in_u64 (by omega) (by omega) | exact in_i32 (by omega) (by omega)) ?_)))) | ((with_reducible refine g_if ?_); ((with_reducible refine g_un ?_); (refine l_p txs rfl rfl ?_))))
      rw [hatz]
      skip
      rw [hy2]
      skip
      (with_reducible refine is_l ?_); refine h_bs H info_u8 Tryz.underlying34 (by decide) (by decide) rfl rfl (by kernel_rfl) (fun g_ w_ H => ?_)
      (with_reducible refine is_l ?_); refine h_app H 0 rfl info_u8 Tryz.underlying34 rfl rfl rfl rfl (H.cellRd 0 rfl) rfl rfl (by show (acc.length + 1) * 1 ≤ _; omega) (fun v w_ hv H => ?_)
      obtain ⟨A', c', rfl⟩ := hv
      have H := H.pick [] [0] (by decide) (by decide) rfl rfl
      have H : Hp w w_ [] [rowB (.slice A' (acc.length + 1) c') (acc ++ [y])] := by
        unfold rowB
        rw [nums_snoc, List.length_append, List.length_singleton]
        exact H
      repeat' (first | (with_reducible first | refine p_tn ?_ | refine p_bn ?_ | refine w_reg ?_ | refine l_nil ?_) | ((with_reducible refine g_on ?_); (first | ((with_reducible refine g_mv ?_); refine l_p txs rfl rfl ?_) | ((with_reducible refine g_as ?_); refine l_p txs rfl rfl ?_) | ((with_reducible refine g_bi ?_); (refine l_a txs rfl rfl (by first | exact in_i64 (by omega) (by omega) | exact in_u8 (by omega) (by omega) | exact in_u64 (by omega) (by omega) | exact in_i32 (by omega) (by omega)) ?_)))))
      have hal : (acc ++ [y]).length = acc.length + 1 := by rw [List.length_append, List.length_singleton]
      exact ⟨(i + 2, acc ++ [y], A', c'), _, rfl, ⟨rfl, by show _ = Value.slice A' (acc ++ [y]).length c'; rw [hal]; rfl, rfl, trivial⟩, ⟨by rw [hal]; exact H, by show i + 2 ≤ _; omega, by show (acc ++ [y]).length ≤ i + 2; omega, hV⟩, by show _ - (i + 2) < _ - i; omega⟩
    · rw [unesc_pl _ hc h1, map_map_cons] at hV
      obtain ⟨y, hy⟩ : ∃ y, y = x := ⟨_, rfl⟩
      rw [← hy] at hV ⊢
      repeat' (first | (with_reducible first | refine p_tn ?_ | refine w_reg ?_) | (with_reducible (refine is_if ?_; (refine w_iff rfl ?_))) | (with_reducible first | refine wp_skip ?_ | refine l_nil ?_) | ((with_reducible refine g_on ?_); ((with_reducible refine g_mv ?_); refine l_p txs rfl rfl ?_)))
      (with_reducible refine is_l ?_); refine h_bs H info_u8 Tryz.underlying34 (by decide) (by decide) rfl rfl (by kernel_rfl) (fun g_ w_ H => ?_)
      (with_reducible refine is_l ?_); refine h_app H 0 rfl info_u8 Tryz.underlying34 rfl rfl rfl rfl (H.cellRd 0 rfl) rfl rfl (by show (acc.length + 1) * 1 ≤ _; omega) (fun v w_ hv H => ?_)
      obtain ⟨A', c', rfl⟩ := hv
      have H := H.pick [] [0] (by decide) (by decide) rfl rfl
      have H : Hp w w_ [] [rowB (.slice A' (acc.length + 1) c') (acc ++ [y])] := by
        unfold rowB
        rw [nums_snoc, List.length_append, List.length_singleton]
        exact H
      repeat' (first | (with_reducible first | refine p_tn ?_ | refine p_bn ?_ | refine w_reg ?_ | refine l_nil ?_) | ((with_reducible refine g_on ?_); (first | ((with_reducible refine g_mv ?_); refine l_p txs rfl rfl ?_) | ((with_reducible refine g_as ?_); refine l_p txs rfl rfl ?_) | ((with_reducible refine g_bi ?_); (refine l_a txs rfl rfl (by first | exact in_i64 (by omega) (by omega) | exact in_u8 (by omega) (by omega) | exact in_u64 (by omega) (by omega) | exact in_i32 (by omega) (by omega)) ?_)))))
      have hal : (acc ++ [y]).length = acc.length + 1 := by rw [List.length_append, List.length_singleton]
      exact ⟨(i + 1, acc ++ [y], A', c'), _, rfl, ⟨rfl, by show _ = Value.slice A' (acc ++ [y]).length c'; rw [hal]; rfl, rfl, trivial⟩, ⟨by rw [hal]; exact H, by show i + 1 ≤ _; omega, by show (acc ++ [y]).length ≤ i + 1; omega, hV⟩, by show _ - (i + 1) < _ - i; omega⟩
  · have hnil : (bl t).drop i = [] := List.drop_eq_nil_of_le (by omega)
    have hs : unescS (bl t) = some acc := by rw [hV, hnil]; simp [unescS]
    repeat' (first | (with_reducible first | refine p_tn ?_ | refine p_tx ?_ | refine x_hit ?_ | refine wp_seq ?_ | refine w_reg ?_) | (with_reducible (refine is_if ?_; (refine w_iff rfl ?_))) | (with_reducible first | refine wp_exit ?_ | refine l_nil ?_) | ((with_reducible refine g_on ?_); ((with_reducible refine g_mv ?_); refine l_p txs rfl rfl ?_)))
    (with_reducible refine is_l ?_); refine l_text rfl rfl Tryz.underlying34 Tryz.underlying5 Tryz.underlying9 (rowB_rd H 0 (F := A2) (f := c2) (x := acc) rfl).1 ?_
    repeat' (first | (with_reducible first | refine p_tn ?_ | refine wp_ret ?_ | refine l_nil ?_) | ((with_reducible refine g_on ?_); ((with_reducible refine g_as ?_); refine l_p txs rfl rfl ?_)))
    refine end2 rfl rfl rfl ?_
    exact ⟨by rw [un_some hs], H.B⟩
theorem EscapePath_r {w : World} (hL : TakL w) (t : ByteArray) :
    Calls Tryz.prog 71 #[.string t] w fun e w' => e = .returned (.tuple #[.string (escPath (bl t)).1, .int .i64 (escPath (bl t)).2]) ∧ Below w.heap.size w w' := by
  refine enter (args := [.string t]) Tryz.func71 rfl Tryz.ntmps71 rfl ?_
  have H := Hp.nil w
  repeat' (first | (with_reducible first | refine p_tn ?_ | refine wp_seq ?_ | refine w_reg ?_ | refine l_nil ?_) | ((with_reducible refine g_on ?_); (first | ((with_reducible refine g_mv ?_); refine l_p txs rfl rfl ?_) | ((with_reducible refine g_as ?_); refine l_p txs rfl rfl ?_))))
  have hcp := checkPath_r hL t
  cases hp : pathS (bl t)
  · have hpn : pathN (bl t) = 110 := by unfold pathN; rw [hp]; rfl
    rw [hpn] at hcp
    (with_reducible refine is_l ?_); refine l_callv rfl rfl (by kernel_rfl) hcp (fun w_ K => ?_)
    have H := H.call K
    skip
    (with_reducible refine is_l ?_); refine l_t txs rfl rfl (fun _ => ?_) (fun h => absurd (by decide) h)
    have hn : escPath (bl t) = (⟨#[]⟩, 110) := by unfold escPath; rw [hp]; rfl
    repeat' (first | (with_reducible first | refine p_tn ?_ | refine p_tr ?_ | refine wp_seq ?_ | refine w_reg ?_) | (with_reducible (refine is_if ?_; (refine w_ift rfl ?_))) | (with_reducible first | refine wp_ret ?_ | refine l_nil ?_) | ((with_reducible refine g_on ?_); ((with_reducible refine g_as ?_); refine l_p txs rfl rfl ?_)))
    refine end2 rfl rfl rfl ?_
    exact ⟨by rw [hn]; first | done | rfl, H.B⟩
  · have hn : escPath (bl t) = (strOfNums (escS (bl t)), 0) := by unfold escPath; rw [hp]; rfl
    have hpn : pathN (bl t) = 0 := by unfold pathN; rw [hp]; rfl
    rw [hpn] at hcp
    (with_reducible refine is_l ?_); refine l_callv rfl rfl (by kernel_rfl) hcp (fun w_ K => ?_)
    have H := H.call K
    skip
    (with_reducible refine is_l ?_); refine l_t txs rfl rfl (fun h => absurd rfl h) (fun _ => ?_)
    have htl : t.size ≤ 255 := by rw [← bl_length]; exact (path_ne hp).2
    repeat' (first | (with_reducible first | refine p_tn ?_ | refine wp_seq ?_ | refine w_reg ?_) | (with_reducible (refine is_if ?_; (refine w_iff rfl ?_))) | (with_reducible first | refine wp_skip ?_ | refine l_nil ?_) | ((with_reducible refine g_on ?_); ((with_reducible refine g_mv ?_); refine l_p txs rfl rfl ?_)))
    (with_reducible refine is_l ?_); refine l_callv rfl rfl (by kernel_rfl) (escaped_c t w_ (by omega)) (fun w_ K => ?_)
    have H := H.call K
    repeat' (first | (with_reducible first | refine p_tn ?_ | refine wp_ret ?_ | refine l_nil ?_) | ((with_reducible refine g_on ?_); ((with_reducible refine g_as ?_); refine l_p txs rfl rfl ?_)))
    refine end2 rfl rfl rfl ?_
    exact ⟨by rw [hn]; first | done | rfl, H.B⟩
theorem EscapeVersion_r (t : ByteArray) (w : World) :
    Calls Tryz.prog 75 #[.string t] w fun e w' => e = .returned (.tuple #[.string (escVer (bl t)).1, .int .i64 (escVer (bl t)).2]) ∧ Below w.heap.size w w' := by
  refine enter (args := [.string t]) Tryz.func75 rfl Tryz.ntmps75 rfl ?_
  have H := Hp.nil w
  repeat' (first | (with_reducible first | refine p_tn ?_ | refine wp_seq ?_ | refine w_reg ?_ | refine l_nil ?_) | ((with_reducible refine g_on ?_); (first | ((with_reducible refine g_mv ?_); refine l_p txs rfl rfl ?_) | ((with_reducible refine g_as ?_); refine l_p txs rfl rfl ?_))))
  have hch := checkVersion_r t w
  cases hq : parseV (bl t) with
  | none =>
    have e0 : chkV (bl t) = 111 := by unfold chkV; rw [hq]; rfl
    rw [e0] at hch
    have hn : escVer (bl t) = (⟨#[]⟩, 111) := by unfold escVer; rw [hq]; rfl
    (with_reducible refine is_l ?_); refine l_callv rfl rfl (by kernel_rfl) hch (fun w_ K => ?_)
    have H := H.call K
    skip
    (with_reducible refine is_l ?_); refine l_t txs rfl rfl (fun _ => ?_) (fun h => absurd (by decide) h)
    repeat' (first | (with_reducible first | refine p_tn ?_ | refine p_tr ?_ | refine wp_seq ?_ | refine w_reg ?_) | (with_reducible (refine is_if ?_; (refine w_ift rfl ?_))) | (with_reducible first | refine wp_ret ?_ | refine l_nil ?_) | ((with_reducible refine g_on ?_); ((with_reducible refine g_as ?_); refine l_p txs rfl rfl ?_)))
    refine end2 rfl rfl rfl ?_
    exact ⟨by rw [hn]; first | done | rfl, H.B⟩
  | some v =>
    have e0 : chkV (bl t) = 0 := by unfold chkV; rw [hq]; rfl
    rw [e0] at hch
    have hn : escVer (bl t) = (strOfNums (escS (bl t)), 0) := by unfold escVer; rw [hq]; rfl
    have htl : t.size ≤ 128 := by rw [← bl_length]; exact (ver_no hq).2.2.2.2.2.2
    (with_reducible refine is_l ?_); refine l_callv rfl rfl (by kernel_rfl) hch (fun w_ K => ?_)
    have H := H.call K
    skip
    (with_reducible refine is_l ?_); refine l_t txs rfl rfl (fun h => absurd rfl h) (fun _ => ?_)
    repeat' (first | (with_reducible first | refine p_tn ?_ | refine wp_seq ?_ | refine w_reg ?_) | (with_reducible (refine is_if ?_; (refine w_iff rfl ?_))) | (with_reducible first | refine wp_skip ?_ | refine l_nil ?_) | ((with_reducible refine g_on ?_); ((with_reducible refine g_mv ?_); refine l_p txs rfl rfl ?_)))
    (with_reducible refine is_l ?_); refine l_callv rfl rfl (by kernel_rfl) (escaped_c t w_ (by omega)) (fun w_ K => ?_)
    have H := H.call K
    repeat' (first | (with_reducible first | refine p_tn ?_ | refine wp_ret ?_ | refine l_nil ?_) | ((with_reducible refine g_on ?_); ((with_reducible refine g_as ?_); refine l_p txs rfl rfl ?_)))
    refine end2 rfl rfl rfl ?_
    exact ⟨by rw [hn]; first | done | rfl, H.B⟩
theorem UnescapePath_r {w : World} (hL : TakL w) (t : ByteArray) (ht : t.size ≤ 100000000) :
    Calls Tryz.prog 73 #[.string t] w fun e w' => e = .returned (.tuple #[.string (unPath (bl t)).1, .int .i64 (unPath (bl t)).2]) ∧ Below w.heap.size w w' := by
  refine enter (args := [.string t]) Tryz.func73 rfl Tryz.ntmps73 rfl ?_
  have H := Hp.nil w
  have hnone : unescS (bl t) = none → unPath (bl t) = (⟨#[]⟩, 112) := fun h => by unfold unPath; rw [h]
  repeat' (first | (with_reducible first | refine p_tn ?_ | refine wp_seq ?_ | refine w_reg ?_ | refine l_nil ?_) | ((with_reducible refine g_on ?_); (first | ((with_reducible refine g_mv ?_); refine l_p txs rfl rfl ?_) | ((with_reducible refine g_as ?_); refine l_p txs rfl rfl ?_))))
  have hun := plain_c t w ht
  cases hu : unescS (bl t) with
  | none =>
    rw [un_none hu] at hun
    (with_reducible refine is_l ?_); refine l_callv rfl rfl (by kernel_rfl) hun (fun w_ K => ?_)
    have H := H.call K
    have hn := hnone hu
    repeat' (first | (with_reducible first | refine p_tn ?_ | refine p_tr ?_ | refine wp_seq ?_ | refine w_reg ?_) | (with_reducible (refine is_if ?_; (refine w_ift rfl ?_))) | (with_reducible first | refine wp_ret ?_ | refine l_nil ?_) | ((with_reducible refine g_on ?_); (first | ((with_reducible refine g_mv ?_); refine l_p txs rfl rfl ?_) | ((with_reducible refine g_as ?_); refine l_p txs rfl rfl ?_) | ((with_reducible refine g_ex ?_); refine l_p txs rfl rfl ?_) | ((with_reducible refine g_un ?_); (refine l_p txs rfl rfl ?_)))))
    refine end2 rfl rfl rfl ?_
    exact ⟨by rw [hn]; first | done | rfl, H.B⟩
  | some x =>
    rw [un_some hu] at hun
    have bx := un_bytes hu (bl_bytes t)
    (with_reducible refine is_l ?_); refine l_callv rfl rfl (by kernel_rfl) hun (fun w_ K => ?_)
    have H := H.call K
    repeat' (first | (with_reducible first | refine p_tn ?_ | refine wp_seq ?_ | refine w_reg ?_) | (with_reducible (refine is_if ?_; (refine w_iff rfl ?_))) | (with_reducible first | refine wp_skip ?_ | refine l_nil ?_) | ((with_reducible refine g_on ?_); (first | ((with_reducible refine g_mv ?_); refine l_p txs rfl rfl ?_) | ((with_reducible refine g_as ?_); refine l_p txs rfl rfl ?_) | ((with_reducible refine g_ex ?_); refine l_p txs rfl rfl ?_) | ((with_reducible refine g_un ?_); (refine l_p txs rfl rfl ?_)))))
    have hip := checkPath_r (hL.below H.B) (strOfNums x)
    rw [blS bx] at hip
    cases hp : pathS x
    · have hpn : pathN x = 110 := by unfold pathN; rw [hp]; rfl
      rw [hpn] at hip
      (with_reducible refine is_l ?_); refine l_callv rfl rfl (by kernel_rfl) hip (fun w_ K => ?_)
      have H := H.call K
      skip
      (with_reducible refine is_l ?_); refine l_t txs rfl rfl (fun _ => ?_) (fun h => absurd (by decide) h)
      have hn : unPath (bl t) = (⟨#[]⟩, 110) := by unfold unPath; rw [hu]; simp only; rw [hp]; rfl
      repeat' (first | (with_reducible first | refine p_tn ?_ | refine p_tr ?_ | refine wp_seq ?_ | refine w_reg ?_) | (with_reducible (refine is_if ?_; (refine w_ift rfl ?_))) | (with_reducible first | refine wp_ret ?_ | refine l_nil ?_) | ((with_reducible refine g_on ?_); ((with_reducible refine g_as ?_); refine l_p txs rfl rfl ?_)))
      refine end2 rfl rfl rfl ?_
      exact ⟨by rw [hn]; first | done | rfl, H.B⟩
    · have hpn : pathN x = 0 := by unfold pathN; rw [hp]; rfl
      rw [hpn] at hip
      (with_reducible refine is_l ?_); refine l_callv rfl rfl (by kernel_rfl) hip (fun w_ K => ?_)
      have H := H.call K
      skip
      (with_reducible refine is_l ?_); refine l_t txs rfl rfl (fun h => absurd rfl h) (fun _ => ?_)
      have hn : unPath (bl t) = (strOfNums x, 0) := by unfold unPath; rw [hu]; simp only; rw [hp]; rfl
      repeat' (first | (with_reducible first | refine p_tn ?_ | refine wp_seq ?_ | refine w_reg ?_) | (with_reducible (refine is_if ?_; (refine w_iff rfl ?_))) | (with_reducible first | refine wp_skip ?_ | refine wp_ret ?_ | refine l_nil ?_) | ((with_reducible refine g_on ?_); (first | ((with_reducible refine g_mv ?_); refine l_p txs rfl rfl ?_) | ((with_reducible refine g_as ?_); refine l_p txs rfl rfl ?_))))
      refine end2 rfl rfl rfl ?_
      exact ⟨by rw [hn]; first | done | rfl, H.B⟩
theorem UnescapeVersion_r (t : ByteArray) (w : World) (ht : t.size ≤ 100000000) :
    Calls Tryz.prog 77 #[.string t] w fun e w' => e = .returned (.tuple #[.string (unVer (bl t)).1, .int .i64 (unVer (bl t)).2]) ∧ Below w.heap.size w w' := by
  refine enter (args := [.string t]) Tryz.func77 rfl Tryz.ntmps77 rfl ?_
  have H := Hp.nil w
  have hnone : unescS (bl t) = none → unVer (bl t) = (⟨#[]⟩, 112) := fun h => by unfold unVer; rw [h]
  repeat' (first | (with_reducible first | refine p_tn ?_ | refine wp_seq ?_ | refine w_reg ?_ | refine l_nil ?_) | ((with_reducible refine g_on ?_); (first | ((with_reducible refine g_mv ?_); refine l_p txs rfl rfl ?_) | ((with_reducible refine g_as ?_); refine l_p txs rfl rfl ?_))))
  have hun := plain_c t w ht
  cases hu : unescS (bl t) with
  | none =>
    rw [un_none hu] at hun
    (with_reducible refine is_l ?_); refine l_callv rfl rfl (by kernel_rfl) hun (fun w_ K => ?_)
    have H := H.call K
    have hn := hnone hu
    repeat' (first | (with_reducible first | refine p_tn ?_ | refine p_tr ?_ | refine wp_seq ?_ | refine w_reg ?_) | (with_reducible (refine is_if ?_; (refine w_ift rfl ?_))) | (with_reducible first | refine wp_ret ?_ | refine l_nil ?_) | ((with_reducible refine g_on ?_); (first | ((with_reducible refine g_mv ?_); refine l_p txs rfl rfl ?_) | ((with_reducible refine g_as ?_); refine l_p txs rfl rfl ?_) | ((with_reducible refine g_ex ?_); refine l_p txs rfl rfl ?_) | ((with_reducible refine g_un ?_); (refine l_p txs rfl rfl ?_)))))
    refine end2 rfl rfl rfl ?_
    exact ⟨by rw [hn]; first | done | rfl, H.B⟩
  | some x =>
    rw [un_some hu] at hun
    have bx := un_bytes hu (bl_bytes t)
    (with_reducible refine is_l ?_); refine l_callv rfl rfl (by kernel_rfl) hun (fun w_ K => ?_)
    have H := H.call K
    repeat' (first | (with_reducible first | refine p_tn ?_ | refine wp_seq ?_ | refine w_reg ?_) | (with_reducible (refine is_if ?_; (refine w_iff rfl ?_))) | (with_reducible first | refine wp_skip ?_ | refine l_nil ?_) | ((with_reducible refine g_on ?_); (first | ((with_reducible refine g_mv ?_); refine l_p txs rfl rfl ?_) | ((with_reducible refine g_as ?_); refine l_p txs rfl rfl ?_) | ((with_reducible refine g_ex ?_); refine l_p txs rfl rfl ?_) | ((with_reducible refine g_un ?_); (refine l_p txs rfl rfl ?_)))))
    have hch := checkVersion_r (strOfNums x) w_
    rw [blS bx] at hch
    cases hq : parseV x with
    | none =>
      have e0 : chkV x = 111 := by unfold chkV; rw [hq]; rfl
      rw [e0] at hch
      (with_reducible refine is_l ?_); refine l_callv rfl rfl (by kernel_rfl) hch (fun w_ K => ?_)
      have H := H.call K
      have hn : unVer (bl t) = (⟨#[]⟩, 111) := by unfold unVer; rw [hu]; simp only; rw [hq]; rfl
      skip
      (with_reducible refine is_l ?_); refine l_t txs rfl rfl (fun _ => ?_) (fun h => absurd (by decide) h)
      repeat' (first | (with_reducible first | refine p_tn ?_ | refine p_tr ?_ | refine wp_seq ?_ | refine w_reg ?_) | (with_reducible (refine is_if ?_; (refine w_ift rfl ?_))) | (with_reducible first | refine wp_ret ?_ | refine l_nil ?_) | ((with_reducible refine g_on ?_); ((with_reducible refine g_as ?_); refine l_p txs rfl rfl ?_)))
      refine end2 rfl rfl rfl ?_
      exact ⟨by rw [hn]; first | done | rfl, H.B⟩
    | some v =>
      have e0 : chkV x = 0 := by unfold chkV; rw [hq]; rfl
      rw [e0] at hch
      (with_reducible refine is_l ?_); refine l_callv rfl rfl (by kernel_rfl) hch (fun w_ K => ?_)
      have H := H.call K
      have hn : unVer (bl t) = (strOfNums x, 0) := by unfold unVer; rw [hu]; simp only; rw [hq]; rfl
      skip
      (with_reducible refine is_l ?_); refine l_t txs rfl rfl (fun h => absurd rfl h) (fun _ => ?_)
      repeat' (first | (with_reducible first | refine p_tn ?_ | refine wp_seq ?_ | refine w_reg ?_) | (with_reducible (refine is_if ?_; (refine w_iff rfl ?_))) | (with_reducible first | refine wp_skip ?_ | refine wp_ret ?_ | refine l_nil ?_) | ((with_reducible refine g_on ?_); (first | ((with_reducible refine g_mv ?_); refine l_p txs rfl rfl ?_) | ((with_reducible refine g_as ?_); refine l_p txs rfl rfl ?_))))
      refine end2 rfl rfl rfl ?_
      exact ⟨by rw [hn]; first | done | rfl, H.B⟩
end Go.Proofs.YtnimaenhijlcmaaGreatDoor.K.Ref
end
section
namespace Go.Proofs.YtnimaenhijlcmaaGreatDoor.Mb
set_option linter.unusedVariables false
set_option linter.unusedSimpArgs false
def rdec : L → Int → Nat → L
  | [], _, _ => []
  | c :: r, n, h => if val c < 0 then rdec r n h else if 8 ≤ h + 6 then ((n % 256 * 64 + val c) / 2 ^ (h - 2) % 256) :: rdec r (n % 256 * 64 + val c) (h - 2) else rdec r (n % 256 * 64 + val c) (h + 6)
theorem rdec_bad {c : Int} (r : L) (n : Int) (h : Nat) (hc : val c < 0) : rdec (c :: r) n h = rdec r n h := if_pos hc
theorem rdec_out {c : Int} (r : L) (n : Int) (h : Nat) (hc : ¬ val c < 0) (h2 : 2 ≤ h) : rdec (c :: r) n h = ((n % 256 * 64 + val c) / 2 ^ (h - 2) % 256) :: rdec r (n % 256 * 64 + val c) (h - 2) := by
  rw [rdec, if_neg hc, if_pos (by omega)]
theorem rdec_in {c : Int} (r : L) (n : Int) (h : Nat) (hc : ¬ val c < 0) (h2 : h < 2) : rdec (c :: r) n h = rdec r (n % 256 * 64 + val c) (h + 6) := by
  rw [rdec, if_neg hc, if_neg (by omega)]
theorem rdec_bytes : ∀ (s : L) (n : Int) (h : Nat), Byt (rdec s n h)
  | [], _, _ => Byt.nil
  | c :: r, n, h => by
    rw [rdec]
    split
    · exact rdec_bytes r n h
    split
    · exact Byt.mk (by omega) (by omega) (rdec_bytes r _ _)
    · exact rdec_bytes r _ _
theorem rdec_len : ∀ (s : L) (n : Int) (h : Nat), (rdec s n h).length ≤ s.length
  | [], _, _ => Nat.le_refl 0
  | c :: r, n, h => by
    rw [rdec]
    split
    · have := rdec_len r n h; simp only [List.length_cons]; omega
    split
    · have := rdec_len r (n % 256 * 64 + val c) (h - 2); simp only [List.length_cons]; omega
    · have := rdec_len r (n % 256 * 64 + val c) (h + 6); simp only [List.length_cons]; omega
theorem rdec_v {x : Int} (r : L) (n : Int) (h : Nat) (h0 : 0 ≤ x) (h1 : x < 64) (h2 : 2 ≤ h) : rdec (lt x :: r) n h = ((n % 256 * 64 + x) / 2 ^ (h - 2) % 256) :: rdec r (n % 256 * 64 + x) (h - 2) := by
  have hv := (lt_at h0 h1).2.2
  rw [rdec_out r n h (by omega) h2, hv]
theorem rdec_w {x : Int} (r : L) (n : Int) (h : Nat) (h0 : 0 ≤ x) (h1 : x < 64) (h2 : h < 2) : rdec (lt x :: r) n h = rdec r (n % 256 * 64 + x) (h + 6) := by
  have hv := (lt_at h0 h1).2.2
  rw [rdec_in r n h (by omega) h2, hv]
theorem rdec_61 (r : L) (n : Int) (h : Nat) : rdec (61 :: r) n h = rdec r n h := rdec_bad r n h (by rw [val_61]; decide)
theorem rdec_enc : ∀ {l : L}, Byt l → ∀ n : Int, rdec (enc64 l) n 0 = l
  | [], _, n => rfl
  | [a], h, n => by
    have ha := h a (by simp)
    simp only [enc64]
    rw [rdec_w _ _ 0 (by omega) (by omega) (by decide), rdec_v _ _ 6 (by omega) (by omega) (by decide), rdec_61, rdec_61]
    show _ :: [] = [a]
    congr 1
    show (((n % 256 * 64 + a / 4) % 256 * 64 + a % 4 * 16) / 16) % 256 = a
    omega
  | [a, b], h, n => by
    have ha := h a (by simp)
    have hb := h b (by simp)
    simp only [enc64]
    rw [rdec_w _ _ 0 (by omega) (by omega) (by decide), rdec_v _ _ 6 (by omega) (by omega) (by decide), rdec_v _ _ 4 (by omega) (by omega) (by decide), rdec_61]
    show _ :: _ :: [] = [a, b]
    obtain ⟨m, hm⟩ : ∃ m, m = (n % 256 * 64 + a / 4) % 256 := ⟨_, rfl⟩
    rw [← hm]
    have e1 : (m * 64 + (a % 4 * 16 + b / 16)) / 16 % 256 = a := by omega
    obtain ⟨q, hq⟩ : ∃ q, q = (m * 64 + (a % 4 * 16 + b / 16)) % 256 := ⟨_, rfl⟩
    have e2 : (q * 64 + b % 16 * 4) / 4 % 256 = b := by omega
    show ((m * 64 + (a % 4 * 16 + b / 16)) / 16 % 256) :: (((m * 64 + (a % 4 * 16 + b / 16)) % 256 * 64 + b % 16 * 4) / 4 % 256) :: [] = [a, b]
    rw [← hq, e1, e2]
  | a :: b :: c :: r, h, n => by
    have ha := h a (by simp)
    have hb := h b (by simp)
    have hc := h c (by simp)
    have ih := rdec_enc (l := r) (fun x hx => h x (by simp [hx]))
    simp only [enc64]
    rw [rdec_w _ _ 0 (by omega) (by omega) (by decide), rdec_v _ _ 6 (by omega) (by omega) (by decide), rdec_v _ _ 4 (by omega) (by omega) (by decide), rdec_v _ _ 2 (by omega) (by omega) (by decide)]
    obtain ⟨m, hm⟩ : ∃ m, m = (n % 256 * 64 + a / 4) % 256 := ⟨_, rfl⟩
    rw [← hm]
    have e1 : (m * 64 + (a % 4 * 16 + b / 16)) / 16 % 256 = a := by omega
    obtain ⟨q, hq⟩ : ∃ q, q = (m * 64 + (a % 4 * 16 + b / 16)) % 256 := ⟨_, rfl⟩
    have e2 : (q * 64 + (b % 16 * 4 + c / 64)) / 4 % 256 = b := by omega
    obtain ⟨p, hp⟩ : ∃ p, p = (q * 64 + (b % 16 * 4 + c / 64)) % 256 := ⟨_, rfl⟩
    have e3 : (p * 64 + c % 64) / 1 % 256 = c := by omega
    show ((m * 64 + (a % 4 * 16 + b / 16)) / 16 % 256) :: (((m * 64 + (a % 4 * 16 + b / 16)) % 256 * 64 + (b % 16 * 4 + c / 64)) / 4 % 256) :: ((((m * 64 + (a % 4 * 16 + b / 16)) % 256 * 64 + (b % 16 * 4 + c / 64)) % 256 * 64 + c % 64) / 1 % 256) :: rdec (enc64 r) _ 0 = _
    rw [← hq, ← hp, e1, e2, e3, ih]
theorem b64D_rdec (s : L) : b64D s = if enc64 (rdec s 0 0) = s then some (rdec s 0 0) else none := by
  split
  · rename_i h
    conv => lhs; rw [← h]
    exact b64D_enc (rdec_bytes s 0 0)
  · rename_i h
    cases hb : b64D s with
    | none => rfl
    | some l =>
      obtain ⟨h1, h2⟩ := b64D_sound hb
      exfalso
      apply h
      rw [← h2, rdec_enc h1]
theorem parSum_47 {s : L} (h : s.length ≠ 47) : parSum s = none := by
  cases hp : parSum s with
  | none => rfl
  | some l =>
    obtain ⟨h1, h2, h3⟩ := parSum_some hp
    exact absurd (by rw [← h3]; exact sum_length h2) h
end Go.Proofs.YtnimaenhijlcmaaGreatDoor.Mb
end
section
namespace Go.Proofs.YtnimaenhijlcmaaGreatDoor.K.Ref
open Go.RowKit Go.Proofs.YtnimaenhijlcmaaGreatDoor.Q Go.Proofs.YtnimaenhijlcmaaGreatDoor.K Go.Proofs.YtnimaenhijlcmaaGreatDoor.Mb Go.Proofs.YtnimaenhijlcmaaGreatDoorW.PrintWords
set_option linter.unusedVariables false
set_option linter.unusedSimpArgs false
theorem place_c (c : Int) (h0 : 0 ≤ c) (h1 : c ≤ 255) (w : World) : Calls Tryz.prog 82 #[.string letB, .int .u8 c] w fun e w' => e = .returned (.int .i64 (val c)) ∧ w' = w := by
  have z64 : letB.size = 64 := rfl
  refine enter (args := [.string letB, .int .u8 c]) Tryz.func82 rfl Tryz.ntmps82 rfl ?_
  repeat' (first | (with_reducible first | refine p_tn ?_ | refine wp_seq ?_ | refine wp_block ?_ | refine w_reg ?_ | refine l_nil ?_) | ((with_reducible refine g_on ?_); ((with_reducible refine g_as ?_); refine l_p txs rfl rfl ?_)))
  refine w_loop (σ := Nat) (S := fun s => [(0, .string letB), (1, .int .u8 c), (5, .int .i64 (s : Int))]) (J := fun s w' => w' = w ∧ s ≤ 64 ∧ ∀ j : Nat, j < s → lt (j : Int) ≠ c) (μ := fun s => 64 - s) 0 ⟨rfl, rfl, rfl, trivial⟩ ⟨rfl, by omega, fun j hj => absurd hj (by omega)⟩ ?_
  rintro i f w_ ⟨rfl, hi, hV⟩
  repeat' (first | (with_reducible first | refine wp_seq ?_ | refine w_reg ?_) | ((with_reducible refine g_on ?_); (first | ((with_reducible refine g_mv ?_); refine l_p txs rfl rfl ?_) | ((with_reducible refine g_cl ?_); refine l_p txs rfl rfl ?_))))
  (with_reducible refine is_l ?_); refine l_t txs rfl rfl (fun hlt => ?_) (fun hge => ?_)
  · have hat := let_at (x := (i : Int)) (by omega) (by omega)
    have hvl := (lt_at (x := (i : Int)) (by omega) (by omega)).2.2
    repeat' (first | (with_reducible first | refine p_tn ?_ | refine wp_seq ?_ | refine wp_block ?_ | refine w_reg ?_) | (with_reducible (refine is_if ?_; (refine w_ift rfl ?_))) | (with_reducible first | refine wp_skip ?_ | refine l_nil ?_) | ((with_reducible refine g_on ?_); (first | ((with_reducible refine g_mv ?_); refine l_p txs rfl rfl ?_) | ((with_reducible refine g_ix ?_); refine l_ix txs rfl rfl (by first | omega | assumption | decide) (by first | omega | assumption | decide) ?_))))
    rw [hat]
    (with_reducible refine is_l ?_); refine l_t txs rfl rfl (fun he => ?_) (fun he => ?_)
    · repeat' (first | (with_reducible first | refine p_tn ?_ | refine p_tr ?_ | refine p_br ?_ | refine wp_seq ?_ | refine w_reg ?_) | (with_reducible (refine is_if ?_; (refine w_ift rfl ?_))) | (with_reducible first | refine wp_ret ?_ | refine l_nil ?_) | ((with_reducible refine g_on ?_); (first | ((with_reducible refine g_mv ?_); refine l_p txs rfl rfl ?_) | ((with_reducible refine g_as ?_); refine l_p txs rfl rfl ?_))))
      refine end1 rfl rfl ?_
      have he : lt (i : Int) = c := he
      exact ⟨by rw [← he, hvl], rfl⟩
    · have he : lt (i : Int) ≠ c := he
      repeat' (first | (with_reducible first | refine p_tn ?_ | refine p_bn ?_ | refine w_reg ?_) | (with_reducible (refine is_if ?_; (refine w_iff rfl ?_))) | (with_reducible first | refine wp_skip ?_ | refine l_nil ?_) | ((with_reducible refine g_on ?_); (first | ((with_reducible refine g_mv ?_); refine l_p txs rfl rfl ?_) | ((with_reducible refine g_as ?_); refine l_p txs rfl rfl ?_) | ((with_reducible refine g_bi ?_); (refine l_a txs rfl rfl (by first | exact in_i64 (by omega) (by omega) | exact in_u8 (by omega) (by omega) | exact in_u64 (by omega) (by omega) | exact in_i32 (by omega) (by omega)) ?_)))))
      refine ⟨i + 1, _, rfl, ⟨rfl, rfl, rfl, trivial⟩, ⟨rfl, by omega, fun j hj => ?_⟩, by omega⟩
      rcases Nat.lt_or_eq_of_le (Nat.le_of_lt_succ hj) with h | rfl
      · exact hV j h
      · exact he
  · have hn : val c = -1 := by
      rcases val_cases c with h | ⟨h2, h3, h4⟩
      · exact h
      · exfalso
        exact hV (val c).toNat (by omega) (by rw [Int.toNat_of_nonneg h2]; exact h4)
    repeat' (first | (with_reducible first | refine p_tn ?_ | refine p_tx ?_ | refine x_hit ?_ | refine wp_seq ?_ | refine w_reg ?_) | (with_reducible (refine is_if ?_; (refine w_iff rfl ?_))) | (with_reducible first | refine wp_exit ?_ | refine wp_ret ?_ | refine l_nil ?_) | ((with_reducible refine g_on ?_); ((with_reducible refine g_as ?_); refine l_p txs rfl rfl ?_)))
    refine end1 rfl rfl ?_
    exact ⟨by rw [hn], rfl⟩
theorem begins_c (t p : ByteArray) (w : World) (ht : t.size ≤ 100000000) (hp : p.size ≤ 100000000) : Calls Tryz.prog 50 #[.string t, .string p] w fun e w' => e = .returned (.bool (decide ((bl t).take p.size = bl p))) ∧ w' = w := by
  have hl := bl_length t
  have hlp := bl_length p
  refine enter (args := [.string t, .string p]) Tryz.func50 rfl Tryz.ntmps50 rfl ?_
  have H := Hp.nil w
  repeat' (first | (with_reducible first | refine p_tn ?_ | refine wp_seq ?_ | refine w_reg ?_ | refine l_nil ?_) | ((with_reducible refine g_on ?_); (first | ((with_reducible refine g_mv ?_); refine l_p txs rfl rfl ?_) | ((with_reducible refine g_as ?_); refine l_p txs rfl rfl ?_) | ((with_reducible refine g_cl ?_); refine l_p txs rfl rfl ?_))))
  (with_reducible refine is_l ?_); refine l_t txs rfl rfl (fun h1 => ?_) (fun h1 => ?_)
  · repeat' (first | ((with_reducible refine g_on ?_); ((with_reducible refine g_mv ?_); refine l_p txs rfl rfl ?_)) | ((with_reducible refine g_if ?_); (first | ((with_reducible refine g_mv ?_); refine l_p txs rfl rfl ?_) | ((with_reducible refine g_cl ?_); refine l_p txs rfl rfl ?_) | ((with_reducible refine g_sl ?_); refine l_sl txs rfl rfl (by first | omega | assumption | decide) (by first | omega | assumption | decide) (by first | omega | assumption | decide) ?_))))
    have hx : bl (t.extract (0 : Int).toNat (p.size : Int).toNat) = (bl t).take p.size := by
      rw [blE, Int.toNat_natCast]
      rfl
    (with_reducible refine is_l ?_); refine l_t txs rfl rfl (fun h2 => ?_) (fun h2 => ?_)
    · rw [hx] at h2
      repeat' (first | (with_reducible first | refine p_tn ?_ | refine wp_ret ?_ | refine l_nil ?_) | ((with_reducible refine g_on ?_); (first | ((with_reducible refine g_as ?_); refine l_p txs rfl rfl ?_) | ((with_reducible refine g_pk ?_); refine l_p txs rfl rfl ?_))))
      refine end1 rfl rfl ?_
      exact ⟨by rw [decide_eq_true h2], rfl⟩
    · rw [hx] at h2
      repeat' (first | (with_reducible first | refine p_tn ?_ | refine wp_ret ?_ | refine l_nil ?_) | ((with_reducible refine g_on ?_); (first | ((with_reducible refine g_as ?_); refine l_p txs rfl rfl ?_) | ((with_reducible refine g_pk ?_); refine l_p txs rfl rfl ?_))))
      refine end1 rfl rfl ?_
      exact ⟨by rw [decide_eq_false h2], rfl⟩
  · have h2 : ¬ (bl t).take p.size = bl p := fun e => by
      have := congrArg List.length e
      rw [List.length_take] at this
      omega
    repeat' (first | (with_reducible first | refine p_tn ?_ | refine wp_ret ?_ | refine l_nil ?_) | ((with_reducible refine g_on ?_); (first | ((with_reducible refine g_mv ?_); refine l_p txs rfl rfl ?_) | ((with_reducible refine g_as ?_); refine l_p txs rfl rfl ?_) | ((with_reducible refine g_pk ?_); refine l_p txs rfl rfl ?_))) | ((with_reducible refine g_if ?_); (refine l_off rfl ?_)))
    refine end1 rfl rfl ?_
    exact ⟨by rw [decide_eq_false h2], rfl⟩
set_option maxRecDepth 100000 in
set_option maxHeartbeats 16000000 in
theorem decode_r (t : ByteArray) (w : World) (ht : t.size ≤ 1000) : Calls Tryz.prog 51 #[.string t] w fun e w' => DeR w (b64D (bl t)) 60 e w' := by
  have hlen := bl_length t
  have hR := b64D_rdec (bl t)
  have hRb := rdec_bytes (bl t) 0 0
  have hRl := rdec_len (bl t) 0 0
  refine enter (args := [.string t]) Tryz.func51 rfl Tryz.ntmps51 rfl ?_
  have H := Hp.nil w
  repeat' (first | (with_reducible first | refine p_tn ?_ | refine wp_seq ?_ | refine w_reg ?_ | refine l_nil ?_) | ((with_reducible refine g_on ?_); (first | ((with_reducible refine g_mv ?_); refine l_p txs rfl rfl ?_) | ((with_reducible refine g_as ?_); refine l_p txs rfl rfl ?_) | ((with_reducible refine g_cl ?_); refine l_p txs rfl rfl ?_))))
  (with_reducible refine is_l ?_); refine l_t txs rfl rfl (fun hx => absurd hx (by omega)) (fun _ => ?_)
  have H := H.nilRow 5 1
  repeat' (first | (with_reducible first | refine p_tn ?_ | refine wp_seq ?_ | refine wp_block ?_ | refine w_reg ?_) | (with_reducible (refine is_if ?_; (refine w_iff rfl ?_))) | (with_reducible first | refine wp_skip ?_ | refine l_nil ?_) | ((with_reducible refine g_on ?_); ((with_reducible refine g_as ?_); refine l_p txs rfl rfl ?_)))
  refine w_loop (σ := Nat × L × Int × Nat × Option Addr × Nat) (S := fun s => [(0, .string t), (4, .slice s.2.2.2.2.1 s.2.1.length s.2.2.2.2.2), (5, .int .i64 (s.2.2.2.1 : Int)), (6, .int .i64 s.2.2.1), (7, .int .i64 (s.1 : Int))])
    (J := fun s w' => Hp w w' [] [rowB (.slice s.2.2.2.2.1 s.2.1.length s.2.2.2.2.2) s.2.1] ∧ s.1 ≤ t.size ∧ s.2.1.length ≤ s.1 ∧ s.2.2.2.1 ≤ 7 ∧ 0 ≤ s.2.2.1 ∧ s.2.2.1 < 16384 ∧ rdec (bl t) 0 0 = s.2.1 ++ rdec ((bl t).drop s.1) s.2.2.1 s.2.2.2.1) (μ := fun s => t.size - s.1) (0, [], 0, 0, none, 0) ⟨rfl, rfl, rfl, rfl, rfl, trivial⟩ ⟨H, by omega, by simp, by decide, by decide, by decide, rfl⟩ ?_
  clear H
  rintro ⟨i, acc, n, h, A2, c2⟩ f w_ ⟨H, hi, hal, hh, hn0, hn1, hV⟩
  simp only at H hi hal hh hn0 hn1 hV ⊢
  repeat' (first | (with_reducible first | refine wp_seq ?_ | refine w_reg ?_) | ((with_reducible refine g_on ?_); (first | ((with_reducible refine g_mv ?_); refine l_p txs rfl rfl ?_) | ((with_reducible refine g_cl ?_); refine l_p txs rfl rfl ?_))))
  (with_reducible refine is_l ?_); refine l_t txs rfl rfl (fun hlt => ?_) (fun hge => ?_)
  · obtain ⟨x, hx⟩ : ∃ x, (bl t)[i]? = some x := ⟨_, List.getElem?_eq_getElem (by omega)⟩
    have hx2 := bl_bytes t x (List.mem_of_getElem? hx)
    have hat := at_of hx
    rw [drop_at hx] at hV
    have hvc := val_cases x
    repeat' (first | (with_reducible first | refine p_tn ?_ | refine wp_seq ?_ | refine wp_block ?_ | refine w_reg ?_) | (with_reducible (refine is_if ?_; (refine w_ift rfl ?_))) | (with_reducible first | refine wp_skip ?_ | refine l_nil ?_) | ((with_reducible refine g_on ?_); (first | ((with_reducible refine g_mv ?_); refine l_p txs rfl rfl ?_) | ((with_reducible refine g_ix ?_); refine l_ix txs rfl rfl (by first | omega | assumption | decide) (by first | omega | assumption | decide) ?_))))
    rw [hat]
    skip
    (with_reducible refine is_l ?_); refine l_callp rfl rfl (by kernel_rfl) (place_c x hx2.1 hx2.2 _) ?_
    obtain ⟨v, hv⟩ : ∃ v, v = val x := ⟨_, rfl⟩
    have hbad := rdec_bad (c := x) ((bl t).drop (i + 1)) n h
    have hout := rdec_out (c := x) ((bl t).drop (i + 1)) n h
    have hin := rdec_in (c := x) ((bl t).drop (i + 1)) n h
    rw [← hv] at hvc hbad hout hin ⊢
    repeat' (first | (with_reducible first | refine p_tn ?_ | refine wp_seq ?_ | refine w_reg ?_ | refine l_nil ?_) | ((with_reducible refine g_on ?_); (first | ((with_reducible refine g_mv ?_); refine l_p txs rfl rfl ?_) | ((with_reducible refine g_as ?_); refine l_p txs rfl rfl ?_))))
    (with_reducible refine is_l ?_); refine l_t txs rfl rfl (fun q1 => ?_) (fun q1 => ?_)
    · rw [hbad q1] at hV
      repeat' (first | (with_reducible first | refine p_tn ?_ | refine p_tx ?_ | refine x_hit ?_ | refine w_reg ?_) | (with_reducible (refine is_if ?_; (refine w_ift rfl ?_))) | (with_reducible first | refine wp_exit ?_ | refine l_nil ?_) | ((with_reducible refine g_on ?_); (first | ((with_reducible refine g_mv ?_); refine l_p txs rfl rfl ?_) | ((with_reducible refine g_as ?_); refine l_p txs rfl rfl ?_) | ((with_reducible refine g_bi ?_); (refine l_a txs rfl rfl (by first | exact in_i64 (by omega) (by omega) | exact in_u8 (by omega) (by omega) | exact in_u64 (by omega) (by omega) | exact in_i32 (by omega) (by omega)) ?_)))))
      exact ⟨(i + 1, acc, n, h, A2, c2), _, rfl, ⟨rfl, rfl, rfl, rfl, rfl, trivial⟩, ⟨H, by show i + 1 ≤ _; omega, by show acc.length ≤ i + 1; omega, hh, hn0, hn1, hV⟩, by show _ - (i + 1) < _ - i; omega⟩
    have hv64 : 0 ≤ v ∧ v < 64 := by omega
    repeat' (first | (with_reducible first | refine p_tn ?_ | refine wp_seq ?_ | refine w_reg ?_) | (with_reducible (refine is_if ?_; (refine w_iff rfl ?_))) | (with_reducible first | refine wp_skip ?_ | refine l_nil ?_) | ((with_reducible refine g_on ?_); ((with_reducible refine g_mv ?_); refine l_p txs rfl rfl ?_)))
    (with_reducible refine is_l ?_); refine l_rem rfl rfl (by omega) (by decide) ?_
    obtain ⟨m, hm⟩ : ∃ m, m = n % 256 * 64 + v := ⟨_, rfl⟩
    have hm2 : 0 ≤ m ∧ m < 16384 := by omega
    repeat' (first | (with_reducible first | refine p_tn ?_ | refine wp_seq ?_ | refine w_reg ?_ | refine l_nil ?_) | ((with_reducible refine g_on ?_); (first | ((with_reducible refine g_mv ?_); refine l_p txs rfl rfl ?_) | ((with_reducible refine g_as ?_); refine l_p txs rfl rfl ?_) | ((with_reducible refine g_bi ?_); (refine l_a txs rfl rfl (by first | exact in_i64 (by omega) (by omega) | exact in_u8 (by omega) (by omega) | exact in_u64 (by omega) (by omega) | exact in_i32 (by omega) (by omega)) ?_)))))
    rw [← hm] at hout hin ⊢
    skip
    (with_reducible refine is_l ?_); refine l_t txs rfl rfl (fun q2 => ?_) (fun q2 => ?_)
    · rw [hout q1 (by omega)] at hV
      obtain ⟨y, hy⟩ : ∃ y, y = m / 2 ^ (h - 2) % 256 := ⟨_, rfl⟩
      have hy2 : 0 ≤ y ∧ y ≤ 255 := by omega
      rw [← hy] at hV
      have hh2 : (h : Int) + 6 - 8 = ((h - 2 : Nat) : Int) := by omega
      repeat' (first | (with_reducible first | refine p_tn ?_ | refine wp_seq ?_ | refine w_reg ?_) | (with_reducible (refine is_if ?_; (refine w_ift rfl ?_))) | (with_reducible refine l_nil ?_) | ((with_reducible refine g_on ?_); (first | ((with_reducible refine g_mv ?_); refine l_p txs rfl rfl ?_) | ((with_reducible refine g_as ?_); refine l_p txs rfl rfl ?_) | ((with_reducible refine g_bi ?_); (refine l_a txs rfl rfl (by first | exact in_i64 (by omega) (by omega) | exact in_u8 (by omega) (by omega) | exact in_u64 (by omega) (by omega) | exact in_i32 (by omega) (by omega)) ?_)))))
      rw [hh2]
      skip
      (with_reducible refine is_l ?_); refine l_cvi (y := ((h - 2 : Nat) : Int)) Tryz.underlying3 Tryz.underlying97 rfl rfl (by rw [IntKind.wrap_u64]; omega) ?_
      (with_reducible refine is_l ?_); refine l_bii rfl rfl rfl (shrI _ _ (h - 2) (by omega) hm2.1 rfl) ?_
      (with_reducible refine is_l ?_); refine l_cvi (y := y) Tryz.underlying3 Tryz.underlying5 rfl rfl (by rw [IntKind.wrap_u8, hy]) ?_
      skip
      (with_reducible refine is_l ?_); refine h_bs H info_u8 Tryz.underlying34 (by decide) (by decide) rfl rfl (by kernel_rfl) (fun g_ w_ H => ?_)
      (with_reducible refine is_l ?_); refine h_app H 0 rfl info_u8 Tryz.underlying34 rfl rfl rfl rfl (H.cellRd 0 rfl) rfl rfl (by show (acc.length + 1) * 1 ≤ _; omega) (fun v w_ hv H => ?_)
      obtain ⟨A', c', rfl⟩ := hv
      have H := H.pick [] [0] (by decide) (by decide) rfl rfl
      have H : Hp w w_ [] [rowB (.slice A' (acc.length + 1) c') (acc ++ [y])] := by
        unfold rowB
        rw [nums_snoc, List.length_append, List.length_singleton]
        exact H
      have hal2 : (acc ++ [y]).length = acc.length + 1 := by rw [List.length_append, List.length_singleton]
      rw [← hal2] at H ⊢
      repeat' (first | (with_reducible first | refine p_tn ?_ | refine p_bn ?_ | refine w_reg ?_ | refine l_nil ?_) | ((with_reducible refine g_on ?_); (first | ((with_reducible refine g_mv ?_); refine l_p txs rfl rfl ?_) | ((with_reducible refine g_as ?_); refine l_p txs rfl rfl ?_) | ((with_reducible refine g_bi ?_); (refine l_a txs rfl rfl (by first | exact in_i64 (by omega) (by omega) | exact in_u8 (by omega) (by omega) | exact in_u64 (by omega) (by omega) | exact in_i32 (by omega) (by omega)) ?_)))))
      exact ⟨(i + 1, acc ++ [y], m, h - 2, A', c'), _, rfl, ⟨rfl, rfl, rfl, rfl, rfl, trivial⟩, ⟨H, by show i + 1 ≤ _; omega, by show (acc ++ [y]).length ≤ i + 1; omega, by show h - 2 ≤ 7; omega, hm2.1, hm2.2, by rw [hV, List.append_assoc]; rfl⟩, by show _ - (i + 1) < _ - i; omega⟩
    · rw [hin q1 (by omega)] at hV
      repeat' (first | (with_reducible first | refine p_tn ?_ | refine p_bn ?_ | refine w_reg ?_) | (with_reducible (refine is_if ?_; (refine w_iff rfl ?_))) | (with_reducible first | refine wp_skip ?_ | refine l_nil ?_) | ((with_reducible refine g_on ?_); (first | ((with_reducible refine g_mv ?_); refine l_p txs rfl rfl ?_) | ((with_reducible refine g_as ?_); refine l_p txs rfl rfl ?_) | ((with_reducible refine g_bi ?_); (refine l_a txs rfl rfl (by first | exact in_i64 (by omega) (by omega) | exact in_u8 (by omega) (by omega) | exact in_u64 (by omega) (by omega) | exact in_i32 (by omega) (by omega)) ?_)))))
      exact ⟨(i + 1, acc, m, h + 6, A2, c2), _, rfl, ⟨rfl, rfl, by show Value.int .i64 ((h : Int) + 6) = Value.int .i64 ((h + 6 : Nat) : Int); rfl, rfl, rfl, trivial⟩, ⟨H, by show i + 1 ≤ _; omega, by show acc.length ≤ i + 1; omega, by show h + 6 ≤ 7; omega, hm2.1, hm2.2, hV⟩, by show _ - (i + 1) < _ - i; omega⟩
  · have hnil : (bl t).drop i = [] := List.drop_eq_nil_of_le (by omega)
    have hV : rdec (bl t) 0 0 = acc := by
      rw [hV, hnil]
      exact List.append_nil _
    rw [hV] at hR hRb
    repeat' (first | (with_reducible first | refine p_tn ?_ | refine p_tx ?_ | refine x_hit ?_ | refine wp_seq ?_ | refine w_reg ?_) | (with_reducible (refine is_if ?_; (refine w_iff rfl ?_))) | (with_reducible first | refine wp_exit ?_ | refine l_nil ?_) | ((with_reducible refine g_on ?_); ((with_reducible refine g_mv ?_); refine l_p txs rfl rfl ?_)))
    (with_reducible refine is_l ?_); refine l_callv rfl rfl (by kernel_rfl) (enc_r (Rec.byte_row H 0 rfl) hRb (by omega)) (fun w_ K => ?_)
    have H := H.call K
    repeat' (first | (with_reducible first | refine p_tn ?_ | refine wp_seq ?_ | refine w_reg ?_ | refine l_nil ?_) | ((with_reducible refine g_on ?_); (first | ((with_reducible refine g_mv ?_); refine l_p txs rfl rfl ?_) | ((with_reducible refine g_as ?_); refine l_p txs rfl rfl ?_))))
    (with_reducible refine is_l ?_); refine l_t txs rfl rfl (fun q1 => ?_) (fun q1 => ?_)
    · rw [blS (enc64_bytes hRb)] at q1
      rw [if_neg q1] at hR
      repeat' (first | (with_reducible first | refine p_tn ?_ | refine p_tr ?_ | refine wp_seq ?_ | refine w_reg ?_) | (with_reducible (refine is_if ?_; (refine w_ift rfl ?_))) | (with_reducible first | refine wp_ret ?_ | refine l_nil ?_) | ((with_reducible refine g_on ?_); ((with_reducible refine g_as ?_); refine l_p txs rfl rfl ?_)))
      refine end2 rfl rfl rfl ?_
      exact der_none hR rfl H.B
    · rw [blS (enc64_bytes hRb)] at q1
      rw [if_pos (Classical.not_not.1 q1)] at hR
      repeat' (first | (with_reducible first | refine p_tn ?_ | refine wp_seq ?_ | refine w_reg ?_) | (with_reducible (refine is_if ?_; (refine w_iff rfl ?_))) | (with_reducible first | refine wp_skip ?_ | refine wp_ret ?_ | refine l_nil ?_) | ((with_reducible refine g_on ?_); (first | ((with_reducible refine g_mv ?_); refine l_p txs rfl rfl ?_) | ((with_reducible refine g_as ?_); refine l_p txs rfl rfl ?_))))
      refine end2 rfl rfl rfl ?_
      exact der_some hR rfl H
end Go.Proofs.YtnimaenhijlcmaaGreatDoor.K.Ref
end
section
namespace Go.Proofs.YtnimaenhijlcmaaGreatDoor.K.Rec
open Go.RowKit Go.Proofs.YtnimaenhijlcmaaGreatDoor.Q Go.Proofs.YtnimaenhijlcmaaGreatDoor.K Go.Proofs.YtnimaenhijlcmaaGreatDoor.Mb Go.Proofs.YtnimaenhijlcmaaGreatDoorW.PrintWords
set_option linter.unusedVariables false
set_option linter.unusedSimpArgs false
theorem lines_end {s x y : L} (h : splitC 10 s = [x, y, []]) : (endCut s [10]).isSome = true := by
  have hj := join_split (c := 10) s
  rw [h] at hj
  have : s = (x ++ 10 :: y) ++ [10] := by rw [← hj]; simp [joinC]
  rw [this, endCut_app]
  rfl
theorem lines_not {s : L} (h : (splitC 10 s).length ≠ 3 ∨ (endCut s [10]).isSome = false) : linesS s = none := by
  unfold linesS
  split
  · rename_i x y hs
    rcases h with h | h
    · rw [hs] at h
      exact absurd rfl h
    · rw [lines_end hs] at h
      cases h
  · rfl
theorem lines_is {s : L} (h : (splitC 10 s).length = 3) (e : (endCut s [10]).isSome = true) : ∃ x y, splitC 10 s = [x, y, []] ∧ linesS s = some (x, y) := by
  obtain ⟨x, y, z, hs⟩ : ∃ x y z, splitC 10 s = [x, y, z] := by
    generalize splitC 10 s = N at h
    match N, h with
    | [x, y, z], _ => exact ⟨x, y, z, rfl⟩
  have hz : z = [] := by
    obtain ⟨p, hp⟩ := Option.isSome_iff_exists.1 e
    have h1 := endCut_some hp
    have hj := join_split (c := 10) s
    rw [hs] at hj
    have hno := split_no (c := 10) s z (by rw [hs]; simp)
    rcases List.eq_nil_or_concat z with rfl | ⟨z', c, rfl⟩
    · rfl
    · exfalso
      have h2 : (x ++ 10 :: (y ++ 10 :: z')) ++ [c] = p ++ [10] := by rw [← h1, ← hj]; simp [joinC]
      have h3 : c = 10 := by simpa using List.append_inj_right' h2 rfl
      subst h3
      exact hno (by simp)
  subst hz
  exact ⟨x, y, hs, by unfold linesS; rw [hs]⟩
section
variable {P : Program} {n : Nat} {f : Fr} {w w0 : World} {l : List Ent} {r : List RowD} {rt : Nat → Option (List Value)}
theorem iaa_run {d : Option Nat} {tt : TypeId} {ps : String} {af : Array Edge} {gd : Option (Nat × Bool)} {t e : TypeId} {m : Nat} {x y : Operand} {g : Nat} {k : IntKind} {j : Int} (ht : P.underlying t = some (.array m e)) (he : (P.info? e).map (·.size) = some 1) (hx : nf (X n f x) = some (.pointer (some ⟨g, 0, none⟩))) (hy : nf (X n f y) = some (.int k j)) (h0 : 0 ≤ j) (h1 : j < m) :
    (execOp (X n f) ⟨d, .indexAddr t x y, tt, ps, af, gd⟩).run P w = .ok (.value (.pointer (some ⟨g, j.toNat, none⟩))) w := by
  have hx' := nf_eq hx
  have hy' := nf_eq hy
  obtain ⟨i0, hi, hz⟩ := Option.map_eq_some_iff.1 he
  unfold execOp
  simp [go_sem, ← hx', ← hy', Instr.indexAt, run_underlying ht, sizeOf, typeInfo, hi, hz, h0, h1, Addr.add_lit]
theorem results_ttcct {fn : Func} {a b c : Tmp} {p q : Tmp} {ty tz : TypeId} (h : fn.results = #[.tmp a, .tmp b, .cell p ty, .cell q tz, .tmp c]) (tmps : Array Value) (w : World) (g g2 : Nat) (t t2 : TypeId) (cs cs2 : Array Value) (fr fr2 : Nat × Nat) (d d2 : TypeDesc)
    (hp : tmps.getD p undef = .pointer (some ⟨g, 0, none⟩)) (hg : w.heap[g]? = some (.cells cs t fr)) (hu : P.underlying ty = some d) (hd : (match d with | .struct _ | .array _ _ => true | _ => false) = true) (hi : (P.info? ty).map (·.size) = some cs.size)
    (hp2 : tmps.getD q undef = .pointer (some ⟨g2, 0, none⟩)) (hg2 : w.heap[g2]? = some (.cells cs2 t2 fr2)) (hu2 : P.underlying tz = some d2) (hd2 : (match d2 with | .struct _ | .array _ _ => true | _ => false) = true) (hi2 : (P.info? tz).map (·.size) = some cs2.size) :
    (results fn tmps).run P w = .ok (.tuple #[tmps.getD a undef, tmps.getD b undef, .agg cs, .agg cs2, tmps.getD c undef]) w := by
  have hp' : tmps[p]?.getD undef = .pointer (some ⟨g, 0, none⟩) := by simpa using hp
  have hq' : tmps[q]?.getD undef = .pointer (some ⟨g2, 0, none⟩) := by simpa using hp2
  simp [results, h, hp', hq', asAddr, run_loadVar_row w g t ty cs fr d hg hu hd hi, run_loadVar_row w g2 t2 tz cs2 fr2 d2 hg2 hu2 hd2 hi2]
theorem end_ttcct {fn : Func} {R : Ending → World → Prop} {a b c p q : Tmp} {ty tz : TypeId} (hrt : Recs P rt) (H : Hp w0 w l r) (k k2 : Nat) {g g2 : Nat} {t t2 : TypeId} {cs cs2 zs zs2 : List Value} {v v2 v3 : Value} (hr : fn.results = #[.tmp a, .tmp b, .cell p ty, .cell q tz, .tmp c])
    (hp : X n f (.tmp p) = .pointer (some ⟨g, 0, none⟩)) (hk : l[k]? = some (g, t, cs)) (hz : rt ty = some zs) (hs : cs.length = zs.length) (hp2 : X n f (.tmp q) = .pointer (some ⟨g2, 0, none⟩)) (hk2 : l[k2]? = some (g2, t2, cs2)) (hz2 : rt tz = some zs2) (hs2 : cs2.length = zs2.length)
    (hv : nf (X n f (.tmp a)) = some v) (hv2 : nf (X n f (.tmp b)) = some v2) (hv3 : nf (X n f (.tmp c)) = some v3)
    (h : R (.returned (.tuple #[v, v2, .agg cs.toArray, .agg cs2.toArray, v3])) w) : bodyPost P fn R .ret (act n f) w := by
  obtain ⟨⟨d, h1, h2⟩, h3⟩ := rec_size hrt hz hs
  obtain ⟨⟨d2, h4, h5⟩, h6⟩ := rec_size hrt hz2 hs2
  refine bodyPost_ret (results_ttcct hr _ w g g2 t t2 cs.toArray cs2.toArray (0, 0) (0, 0) d d2 (by rw [show (act n f).tmps = arr n f from rfl, getD_arr]; exact hp) (H.get k hk) h1 (by cases d <;> simp_all) h3 (by rw [show (act n f).tmps = arr n f from rfl, getD_arr]; exact hp2) (H.get k2 hk2) h4 (by cases d2 <;> simp_all) h6) rfl ?_
  rw [show (act n f).tmps = arr n f from rfl, getD_arr, getD_arr, getD_arr, ← nf_eq hv, ← nf_eq hv2, ← nf_eq hv3]
  exact h
end
def rcP : Rec → ByteArray | .is p _ _ _ => strOfNums p | .no _ => ⟨#[]⟩
def rcV : Rec → ByteArray | .is _ v _ _ => strOfNums v | .no _ => ⟨#[]⟩
def rcA : Rec → L | .is _ _ a _ => a | .no _ => zL
def rcB : Rec → L | .is _ _ _ b => b | .no _ => zL
def rcE : Rec → Int | .is _ _ _ _ => 0 | .no e => (e : Int)
set_option maxRecDepth 100000 in
set_option maxHeartbeats 16000000 in
theorem ParseRecord_c {w : World} (hL : Lay w) (t : ByteArray) :
    Calls Tryz.prog 30 #[.string t] w fun e w' => e = .returned (.tuple #[.string (rcP (parRec (bl t))), .string (rcV (parRec (bl t))), .agg (nums .u8 (rcA (parRec (bl t)))).toArray, .agg (nums .u8 (rcB (parRec (bl t)))).toArray, .int .i64 (rcE (parRec (bl t)))]) ∧ Below w.heap.size w w' := by
  obtain ⟨mx, hM⟩ := hL.mxs
  have hlen := bl_length t
  refine enter (args := [.string t]) Tryz.func30 rfl Tryz.ntmps30 rfl ?_
  have H := Hp.nil w
  have hV : parRec (bl t) = if 1024 < (bl t).length then .no 115 else match linesS (bl t) with | none => .no 115 | some l => recW l := rfl
  repeat' (first | (with_reducible first | refine p_tn ?_ | refine wp_seq ?_ | refine w_reg ?_ | refine l_nil ?_) | ((with_reducible refine g_on ?_); (first | ((with_reducible refine g_mv ?_); refine l_p txs rfl rfl ?_) | ((with_reducible refine g_as ?_); refine l_p txs rfl rfl ?_) | ((with_reducible refine g_al ?_); refine h_alloc recs H rfl rfl (fun g_ w_ H => ?_)) | ((with_reducible refine g_cl ?_); refine l_p txs rfl rfl ?_))))
  (with_reducible refine is_l ?_); refine l_t txs rfl rfl (fun hbig => ?_) (fun hsm => ?_)
  · have hno : parRec (bl t) = .no 115 := by rw [hV, if_pos (by omega)]
    repeat' (first | (with_reducible first | refine p_tn ?_ | refine wp_seq ?_) | (with_reducible (refine is_if ?_; (refine w_ift rfl ?_))) | (with_reducible refine l_nil ?_) | ((with_reducible refine g_on ?_); (first | ((with_reducible refine g_mv ?_); refine l_p txs rfl rfl ?_) | ((with_reducible refine g_pk ?_); refine l_p txs rfl rfl ?_))) | ((with_reducible refine g_if ?_); (refine l_off rfl ?_)))
    have HS := H.pick [0] [] (by decide) (by decide) rfl rfl
    refine d_start (fun w_ => HpS _ w w_ _ _) #[false, false, false, false, false, false, false] (by kernel_rfl) rfl rfl HS.drew ?_
    have H := H.drew
    have HS := HS.drew
    first | (refine d_take (i := 0) #[true, false, false, false, false, false, false] rfl (by kernel_rfl) (fun _ _ _ h => h) rfl (fun w_ K => evLR_run (o := ⟨_, _, _, _, _, _⟩) recs rfl rfl (K.range 0 rfl) rfl) HS ?_)
    first | (refine d_take (i := 1) #[true, true, false, false, false, false, false] rfl (by kernel_rfl) (fun _ _ _ h => h) rfl (fun w_ K => evLR_run (o := ⟨_, _, _, _, _, _⟩) recs rfl rfl (K.range 0 rfl) rfl) HS ?_)
    first | (refine d_pure (i := 2) #[true, true, true, false, false, false, false] rfl (by kernel_rfl) (fun _ _ _ h => h) rfl (fun w_ => evP_run (o := ⟨_, _, _, _, _, _⟩) txs rfl) ?_)
    first | (refine d_pure (i := 3) #[true, true, true, true, false, false, false] rfl (by kernel_rfl) (fun _ _ _ h => h) rfl (fun w_ => evP_run (o := ⟨_, _, _, _, _, _⟩) txs rfl) ?_)
    refine d_one (i := 4) #[true, true, true, true, true, false, false] rfl (by kernel_rfl) rfl ?_
    refine g_on ?_; ((with_reducible refine g_st ?_); (refine h_stR recs H 2 rfl rfl rfl rfl rfl rfl rfl rfl rfl (fun w_ H => ?_)))
    refine l_nil ?_
    have HS := H.pick [0] [] (by decide) (by decide) rfl rfl
    refine ⟨rfl, HS, ?_⟩
    refine d_one (i := 5) #[true, true, true, true, true, true, false] rfl (by kernel_rfl) rfl ?_
    refine g_on ?_; ((with_reducible refine g_st ?_); (refine h_stR recs H 1 rfl rfl rfl rfl rfl rfl rfl rfl rfl (fun w_ H => ?_)))
    refine l_nil ?_
    have HS := H.pick [0] [] (by decide) (by decide) rfl rfl
    refine ⟨rfl, HS, ?_⟩
    first | (refine d_pure (i := 6) #[true, true, true, true, true, true, true] rfl (by kernel_rfl) (fun _ _ _ h => h) rfl (fun w_ => evP_run (o := ⟨_, _, _, _, _, _⟩) txs rfl) ?_)
    refine d_done rfl ?_
    repeat' (with_reducible first | refine p_tn ?_ | refine p_tr ?_ | refine wp_ret ?_)
    refine end_ttcct recs H 2 1 rfl rfl rfl rfl rfl rfl rfl rfl rfl rfl rfl rfl ?_
    exact ⟨by rw [hno]; rfl, H.B⟩
  rw [if_neg (by omega)] at hV
  have hcs := count_split t 10
  rw [show ((10 : UInt8).toNat : Int) = 10 from rfl] at hcs
  repeat' (first | ((with_reducible refine g_on ?_); ((with_reducible refine g_mv ?_); refine l_p txs rfl rfl ?_)) | ((with_reducible refine g_if ?_); ((with_reducible refine g_mv ?_); refine l_p txs rfl rfl ?_)))
  (with_reducible refine is_l ?_); refine l_callp rfl rfl (by kernel_rfl) (Tryz.strings_Count_any t ⟨#[10]⟩ mx _ (by omega) (H.old hM) (by decide)) ?_
  skip
  generalize Lib.countB t ⟨#[10]⟩ = k at hcs ⊢
  (with_reducible refine is_l ?_); refine l_t txs rfl rfl (fun h1 => ?_) (fun h1 => ?_)
  · have hno : parRec (bl t) = .no 115 := by rw [hV, lines_not (.inl (by omega))]
    repeat' (first | (with_reducible first | refine p_tn ?_ | refine wp_seq ?_) | (with_reducible (refine is_if ?_; (refine w_ift rfl ?_))) | (with_reducible refine l_nil ?_) | ((with_reducible refine g_on ?_); (first | ((with_reducible refine g_mv ?_); refine l_p txs rfl rfl ?_) | ((with_reducible refine g_pk ?_); refine l_p txs rfl rfl ?_))) | ((with_reducible refine g_if ?_); (refine l_off rfl ?_)))
    have HS := H.pick [0] [] (by decide) (by decide) rfl rfl
    refine d_start (fun w_ => HpS _ w w_ _ _) #[false, false, false, false, false, false, false] (by kernel_rfl) rfl rfl HS.drew ?_
    have H := H.drew
    have HS := HS.drew
    first | (refine d_take (i := 0) #[true, false, false, false, false, false, false] rfl (by kernel_rfl) (fun _ _ _ h => h) rfl (fun w_ K => evLR_run (o := ⟨_, _, _, _, _, _⟩) recs rfl rfl (K.range 0 rfl) rfl) HS ?_)
    first | (refine d_take (i := 1) #[true, true, false, false, false, false, false] rfl (by kernel_rfl) (fun _ _ _ h => h) rfl (fun w_ K => evLR_run (o := ⟨_, _, _, _, _, _⟩) recs rfl rfl (K.range 0 rfl) rfl) HS ?_)
    first | (refine d_pure (i := 2) #[true, true, true, false, false, false, false] rfl (by kernel_rfl) (fun _ _ _ h => h) rfl (fun w_ => evP_run (o := ⟨_, _, _, _, _, _⟩) txs rfl) ?_)
    first | (refine d_pure (i := 3) #[true, true, true, true, false, false, false] rfl (by kernel_rfl) (fun _ _ _ h => h) rfl (fun w_ => evP_run (o := ⟨_, _, _, _, _, _⟩) txs rfl) ?_)
    refine d_one (i := 4) #[true, true, true, true, true, false, false] rfl (by kernel_rfl) rfl ?_
    refine g_on ?_; ((with_reducible refine g_st ?_); (refine h_stR recs H 2 rfl rfl rfl rfl rfl rfl rfl rfl rfl (fun w_ H => ?_)))
    refine l_nil ?_
    have HS := H.pick [0] [] (by decide) (by decide) rfl rfl
    refine ⟨rfl, HS, ?_⟩
    refine d_one (i := 5) #[true, true, true, true, true, true, false] rfl (by kernel_rfl) rfl ?_
    refine g_on ?_; ((with_reducible refine g_st ?_); (refine h_stR recs H 1 rfl rfl rfl rfl rfl rfl rfl rfl rfl (fun w_ H => ?_)))
    refine l_nil ?_
    have HS := H.pick [0] [] (by decide) (by decide) rfl rfl
    refine ⟨rfl, HS, ?_⟩
    first | (refine d_pure (i := 6) #[true, true, true, true, true, true, true] rfl (by kernel_rfl) (fun _ _ _ h => h) rfl (fun w_ => evP_run (o := ⟨_, _, _, _, _, _⟩) txs rfl) ?_)
    refine d_done rfl ?_
    repeat' (with_reducible first | refine p_tn ?_ | refine p_tr ?_ | refine wp_ret ?_)
    refine end_ttcct recs H 2 1 rfl rfl rfl rfl rfl rfl rfl rfl rfl rfl rfl rfl ?_
    exact ⟨by rw [hno]; rfl, H.B⟩
  have hsu := fun w1 => hasSuf_c t ⟨#[10]⟩ w1 (by omega)
  rw [show bl (⟨#[10]⟩ : ByteArray) = [10] from rfl] at hsu
  repeat' (first | ((with_reducible refine g_on ?_); (first | ((with_reducible refine g_mv ?_); refine l_p txs rfl rfl ?_) | ((with_reducible refine g_pk ?_); refine l_p txs rfl rfl ?_))) | ((with_reducible refine g_if ?_); ((with_reducible refine g_mv ?_); refine l_p txs rfl rfl ?_)))
  (with_reducible refine is_l ?_); refine l_callp rfl rfl (by kernel_rfl) (hsu _) ?_
  cases hec : (endCut (bl t) [10]).isSome
  · have hno : parRec (bl t) = .no 115 := by rw [hV, lines_not (.inr hec)]
    repeat' (first | (with_reducible first | refine p_tn ?_ | refine wp_seq ?_) | (with_reducible (refine is_if ?_; (refine w_ift rfl ?_))) | (with_reducible refine l_nil ?_) | ((with_reducible refine g_on ?_); ((with_reducible refine g_pk ?_); refine l_p txs rfl rfl ?_)) | ((with_reducible refine g_if ?_); ((with_reducible refine g_un ?_); (refine l_p txs rfl rfl ?_))))
    have HS := H.pick [0] [] (by decide) (by decide) rfl rfl
    refine d_start (fun w_ => HpS _ w w_ _ _) #[false, false, false, false, false, false, false] (by kernel_rfl) rfl rfl HS.drew ?_
    have H := H.drew
    have HS := HS.drew
    first | (refine d_take (i := 0) #[true, false, false, false, false, false, false] rfl (by kernel_rfl) (fun _ _ _ h => h) rfl (fun w_ K => evLR_run (o := ⟨_, _, _, _, _, _⟩) recs rfl rfl (K.range 0 rfl) rfl) HS ?_)
    first | (refine d_take (i := 1) #[true, true, false, false, false, false, false] rfl (by kernel_rfl) (fun _ _ _ h => h) rfl (fun w_ K => evLR_run (o := ⟨_, _, _, _, _, _⟩) recs rfl rfl (K.range 0 rfl) rfl) HS ?_)
    first | (refine d_pure (i := 2) #[true, true, true, false, false, false, false] rfl (by kernel_rfl) (fun _ _ _ h => h) rfl (fun w_ => evP_run (o := ⟨_, _, _, _, _, _⟩) txs rfl) ?_)
    first | (refine d_pure (i := 3) #[true, true, true, true, false, false, false] rfl (by kernel_rfl) (fun _ _ _ h => h) rfl (fun w_ => evP_run (o := ⟨_, _, _, _, _, _⟩) txs rfl) ?_)
    refine d_one (i := 4) #[true, true, true, true, true, false, false] rfl (by kernel_rfl) rfl ?_
    refine g_on ?_; ((with_reducible refine g_st ?_); (refine h_stR recs H 2 rfl rfl rfl rfl rfl rfl rfl rfl rfl (fun w_ H => ?_)))
    refine l_nil ?_
    have HS := H.pick [0] [] (by decide) (by decide) rfl rfl
    refine ⟨rfl, HS, ?_⟩
    refine d_one (i := 5) #[true, true, true, true, true, true, false] rfl (by kernel_rfl) rfl ?_
    refine g_on ?_; ((with_reducible refine g_st ?_); (refine h_stR recs H 1 rfl rfl rfl rfl rfl rfl rfl rfl rfl (fun w_ H => ?_)))
    refine l_nil ?_
    have HS := H.pick [0] [] (by decide) (by decide) rfl rfl
    refine ⟨rfl, HS, ?_⟩
    first | (refine d_pure (i := 6) #[true, true, true, true, true, true, true] rfl (by kernel_rfl) (fun _ _ _ h => h) rfl (fun w_ => evP_run (o := ⟨_, _, _, _, _, _⟩) txs rfl) ?_)
    refine d_done rfl ?_
    repeat' (with_reducible first | refine p_tn ?_ | refine p_tr ?_ | refine wp_ret ?_)
    refine end_ttcct recs H 2 1 rfl rfl rfl rfl rfl rfl rfl rfl rfl rfl rfl rfl ?_
    exact ⟨by rw [hno]; rfl, H.B⟩
  obtain ⟨x, y, hspl, hli⟩ := lines_is (by omega) hec
  have hV : parRec (bl t) = recW (x, y) := by rw [hV, hli]
  have hsm2 := split_mem 10 (bl t)
  have hbx : Bytes x := fun c hc => bl_bytes t c ((hsm2 x (by rw [hspl]; simp)).1 c hc)
  have hby : Bytes y := fun c hc => bl_bytes t c ((hsm2 y (by rw [hspl]; simp)).1 c hc)
  have lx : (strOfNums x).size ≤ 1024 := by rw [← bl_length, blS hbx]; have := (hsm2 x (by rw [hspl]; simp)).2; omega
  have ly : (strOfNums y).size ≤ 1024 := by rw [← bl_length, blS hby]; have := (hsm2 y (by rw [hspl]; simp)).2; omega
  repeat' (first | (with_reducible first | refine p_tn ?_ | refine wp_seq ?_ | refine w_reg ?_) | (with_reducible (refine is_if ?_; (refine w_iff rfl ?_))) | (with_reducible first | refine wp_skip ?_ | refine l_nil ?_) | ((with_reducible refine g_on ?_); (first | ((with_reducible refine g_mv ?_); refine l_p txs rfl rfl ?_) | ((with_reducible refine g_pk ?_); refine l_p txs rfl rfl ?_))) | ((with_reducible refine g_if ?_); ((with_reducible refine g_un ?_); (refine l_p txs rfl rfl ?_))))
  have hsp := split_c t 10 (by omega) _ mx (H.old hM)
  rw [show ((10 : UInt8).toNat : Int) = 10 from rfl, hspl] at hsp
  (with_reducible refine is_l ?_); refine l_call rfl rfl (by kernel_rfl) hsp (fun e w_ hR => ?_)
  have hl3 : [x, y, ([] : L)].length = 3 := rfl
  obtain ⟨gN, rfl, K⟩ := hR
  refine ⟨_, rfl, ?_⟩
  have H := H.join K
  have hw1 := words_c (H.old hM) (strOfNums x) (by omega)
  have hw2 := fun (w1 : World) (h1 : w1.cell? ⟨0, 0, none⟩ = some (.int .i64 mx)) => words_c h1 (strOfNums y) (by omega)
  rw [blS hbx] at hw1
  rw [blS hby] at hw2
  have hV : parRec (bl t) = (match wordsS x, wordsS y with | some a, some b => recG a b | _, _ => .no 115) := hV
  repeat' (first | (with_reducible first | refine p_tn ?_ | refine wp_seq ?_ | refine w_reg ?_ | refine l_nil ?_) | ((with_reducible refine g_on ?_); (first | ((with_reducible refine g_mv ?_); refine l_p txs rfl rfl ?_) | ((with_reducible refine g_as ?_); refine l_p txs rfl rfl ?_) | ((with_reducible refine g_ld ?_); (refine h_ld txs H 0 rfl rfl rfl rfl ?_)) | ((with_reducible refine g_ia ?_); refine l_ia txs rfl rfl (by first | omega | assumption | decide) (by first | omega | assumption | decide) ?_))))
  cases ho1 : wordsS x with
  | none =>
    rw [ho1] at hw1 hV
    cases ho2 : wordsS y with
    | none =>
      rw [ho2] at hw2 hV
      have hno : parRec (bl t) = .no 115 := hV
      (with_reducible refine is_l ?_); refine l_callv rfl rfl (by kernel_rfl) hw1 (fun w_ K => ?_)
      have H := H.call K
      repeat' (first | (with_reducible first | refine p_tn ?_ | refine wp_seq ?_ | refine w_reg ?_ | refine l_nil ?_) | ((with_reducible refine g_on ?_); (first | ((with_reducible refine g_mv ?_); refine l_p txs rfl rfl ?_) | ((with_reducible refine g_as ?_); refine l_p txs rfl rfl ?_) | ((with_reducible refine g_ex ?_); refine l_p txs rfl rfl ?_) | ((with_reducible refine g_ld ?_); (refine h_ld txs H 1 rfl rfl rfl rfl ?_)) | ((with_reducible refine g_st ?_); (refine h_stR recs H 0 rfl rfl rfl rfl rfl rfl rfl rfl rfl (fun w_ H => ?_))) | ((with_reducible refine g_al ?_); refine h_alloc recs H rfl rfl (fun g_ w_ H => ?_)) | ((with_reducible refine g_ia ?_); refine l_ia txs rfl rfl (by first | omega | assumption | decide) (by first | omega | assumption | decide) ?_))))
      (with_reducible refine is_l ?_); refine l_callv rfl rfl (by kernel_rfl) (hw2 _ (H.old hM)) (fun w_ K => ?_)
      have H := H.call K
      repeat' (first | (with_reducible first | refine p_tn ?_ | refine wp_seq ?_ | refine w_reg ?_) | (with_reducible (refine is_if ?_; (refine w_ift rfl ?_))) | (with_reducible refine l_nil ?_) | ((with_reducible refine g_on ?_); (first | ((with_reducible refine g_mv ?_); refine l_p txs rfl rfl ?_) | ((with_reducible refine g_as ?_); refine l_p txs rfl rfl ?_) | ((with_reducible refine g_ex ?_); refine l_p txs rfl rfl ?_) | ((with_reducible refine g_pk ?_); refine l_p txs rfl rfl ?_) | ((with_reducible refine g_st ?_); (refine h_stR recs H 0 rfl rfl rfl rfl rfl rfl rfl rfl rfl (fun w_ H => ?_))) | ((with_reducible refine g_al ?_); refine h_alloc recs H rfl rfl (fun g_ w_ H => ?_)) | ((with_reducible refine g_un ?_); (refine l_p txs rfl rfl ?_)))) | ((with_reducible refine g_if ?_); (refine l_off rfl ?_)))
      have HS := H.pick [3] [] (by decide) (by decide) rfl rfl
      refine d_start (fun w_ => HpS _ w w_ _ _) #[false, false, false, false, false, false, false] (by kernel_rfl) rfl rfl HS.drew ?_
      have H := H.drew
      have HS := HS.drew
      first | (refine d_take (i := 0) #[true, false, false, false, false, false, false] rfl (by kernel_rfl) (fun _ _ _ h => h) rfl (fun w_ K => evLR_run (o := ⟨_, _, _, _, _, _⟩) recs rfl rfl (K.range 0 rfl) rfl) HS ?_)
      first | (refine d_take (i := 1) #[true, true, false, false, false, false, false] rfl (by kernel_rfl) (fun _ _ _ h => h) rfl (fun w_ K => evLR_run (o := ⟨_, _, _, _, _, _⟩) recs rfl rfl (K.range 0 rfl) rfl) HS ?_)
      first | (refine d_pure (i := 2) #[true, true, true, false, false, false, false] rfl (by kernel_rfl) (fun _ _ _ h => h) rfl (fun w_ => evP_run (o := ⟨_, _, _, _, _, _⟩) txs rfl) ?_)
      first | (refine d_pure (i := 3) #[true, true, true, true, false, false, false] rfl (by kernel_rfl) (fun _ _ _ h => h) rfl (fun w_ => evP_run (o := ⟨_, _, _, _, _, _⟩) txs rfl) ?_)
      refine d_one (i := 4) #[true, true, true, true, true, false, false] rfl (by kernel_rfl) rfl ?_
      refine g_on ?_; ((with_reducible refine g_st ?_); (refine h_stR recs H 5 rfl rfl rfl rfl rfl rfl rfl rfl rfl (fun w_ H => ?_)))
      refine l_nil ?_
      have HS := H.pick [3] [] (by decide) (by decide) rfl rfl
      refine ⟨rfl, HS, ?_⟩
      refine d_one (i := 5) #[true, true, true, true, true, true, false] rfl (by kernel_rfl) rfl ?_
      refine g_on ?_; ((with_reducible refine g_st ?_); (refine h_stR recs H 4 rfl rfl rfl rfl rfl rfl rfl rfl rfl (fun w_ H => ?_)))
      refine l_nil ?_
      have HS := H.pick [3] [] (by decide) (by decide) rfl rfl
      refine ⟨rfl, HS, ?_⟩
      first | (refine d_pure (i := 6) #[true, true, true, true, true, true, true] rfl (by kernel_rfl) (fun _ _ _ h => h) rfl (fun w_ => evP_run (o := ⟨_, _, _, _, _, _⟩) txs rfl) ?_)
      refine d_done rfl ?_
      repeat' (with_reducible first | refine p_tn ?_ | refine p_tr ?_ | refine wp_ret ?_)
      refine end_ttcct recs H 5 4 rfl rfl rfl rfl rfl rfl rfl rfl rfl rfl rfl rfl ?_
      exact ⟨by rw [hno]; rfl, H.B⟩
    | some b =>
      obtain ⟨b0, b1, b2⟩ := b
      rw [ho2] at hw2 hV
      have hno : parRec (bl t) = .no 115 := hV
      (with_reducible refine is_l ?_); refine l_callv rfl rfl (by kernel_rfl) hw1 (fun w_ K => ?_)
      have H := H.call K
      repeat' (first | (with_reducible first | refine p_tn ?_ | refine wp_seq ?_ | refine w_reg ?_ | refine l_nil ?_) | ((with_reducible refine g_on ?_); (first | ((with_reducible refine g_mv ?_); refine l_p txs rfl rfl ?_) | ((with_reducible refine g_as ?_); refine l_p txs rfl rfl ?_) | ((with_reducible refine g_ex ?_); refine l_p txs rfl rfl ?_) | ((with_reducible refine g_ld ?_); (refine h_ld txs H 1 rfl rfl rfl rfl ?_)) | ((with_reducible refine g_st ?_); (refine h_stR recs H 0 rfl rfl rfl rfl rfl rfl rfl rfl rfl (fun w_ H => ?_))) | ((with_reducible refine g_al ?_); refine h_alloc recs H rfl rfl (fun g_ w_ H => ?_)) | ((with_reducible refine g_ia ?_); refine l_ia txs rfl rfl (by first | omega | assumption | decide) (by first | omega | assumption | decide) ?_))))
      (with_reducible refine is_l ?_); refine l_callv rfl rfl (by kernel_rfl) (hw2 _ (H.old hM)) (fun w_ K => ?_)
      have H := H.call K
      repeat' (first | (with_reducible first | refine p_tn ?_ | refine wp_seq ?_ | refine w_reg ?_) | (with_reducible (refine is_if ?_; (refine w_ift rfl ?_))) | (with_reducible refine l_nil ?_) | ((with_reducible refine g_on ?_); (first | ((with_reducible refine g_mv ?_); refine l_p txs rfl rfl ?_) | ((with_reducible refine g_as ?_); refine l_p txs rfl rfl ?_) | ((with_reducible refine g_ex ?_); refine l_p txs rfl rfl ?_) | ((with_reducible refine g_pk ?_); refine l_p txs rfl rfl ?_) | ((with_reducible refine g_st ?_); (refine h_stR recs H 0 rfl rfl rfl rfl rfl rfl rfl rfl rfl (fun w_ H => ?_))) | ((with_reducible refine g_al ?_); refine h_alloc recs H rfl rfl (fun g_ w_ H => ?_)) | ((with_reducible refine g_un ?_); (refine l_p txs rfl rfl ?_)))) | ((with_reducible refine g_if ?_); (refine l_off rfl ?_)))
      have HS := H.pick [3] [] (by decide) (by decide) rfl rfl
      refine d_start (fun w_ => HpS _ w w_ _ _) #[false, false, false, false, false, false, false] (by kernel_rfl) rfl rfl HS.drew ?_
      have H := H.drew
      have HS := HS.drew
      first | (refine d_take (i := 0) #[true, false, false, false, false, false, false] rfl (by kernel_rfl) (fun _ _ _ h => h) rfl (fun w_ K => evLR_run (o := ⟨_, _, _, _, _, _⟩) recs rfl rfl (K.range 0 rfl) rfl) HS ?_)
      first | (refine d_take (i := 1) #[true, true, false, false, false, false, false] rfl (by kernel_rfl) (fun _ _ _ h => h) rfl (fun w_ K => evLR_run (o := ⟨_, _, _, _, _, _⟩) recs rfl rfl (K.range 0 rfl) rfl) HS ?_)
      first | (refine d_pure (i := 2) #[true, true, true, false, false, false, false] rfl (by kernel_rfl) (fun _ _ _ h => h) rfl (fun w_ => evP_run (o := ⟨_, _, _, _, _, _⟩) txs rfl) ?_)
      first | (refine d_pure (i := 3) #[true, true, true, true, false, false, false] rfl (by kernel_rfl) (fun _ _ _ h => h) rfl (fun w_ => evP_run (o := ⟨_, _, _, _, _, _⟩) txs rfl) ?_)
      refine d_one (i := 4) #[true, true, true, true, true, false, false] rfl (by kernel_rfl) rfl ?_
      refine g_on ?_; ((with_reducible refine g_st ?_); (refine h_stR recs H 5 rfl rfl rfl rfl rfl rfl rfl rfl rfl (fun w_ H => ?_)))
      refine l_nil ?_
      have HS := H.pick [3] [] (by decide) (by decide) rfl rfl
      refine ⟨rfl, HS, ?_⟩
      refine d_one (i := 5) #[true, true, true, true, true, true, false] rfl (by kernel_rfl) rfl ?_
      refine g_on ?_; ((with_reducible refine g_st ?_); (refine h_stR recs H 4 rfl rfl rfl rfl rfl rfl rfl rfl rfl (fun w_ H => ?_)))
      refine l_nil ?_
      have HS := H.pick [3] [] (by decide) (by decide) rfl rfl
      refine ⟨rfl, HS, ?_⟩
      first | (refine d_pure (i := 6) #[true, true, true, true, true, true, true] rfl (by kernel_rfl) (fun _ _ _ h => h) rfl (fun w_ => evP_run (o := ⟨_, _, _, _, _, _⟩) txs rfl) ?_)
      refine d_done rfl ?_
      repeat' (with_reducible first | refine p_tn ?_ | refine p_tr ?_ | refine wp_ret ?_)
      refine end_ttcct recs H 5 4 rfl rfl rfl rfl rfl rfl rfl rfl rfl rfl rfl rfl ?_
      exact ⟨by rw [hno]; rfl, H.B⟩
  | some a =>
    obtain ⟨a0, a1, a2⟩ := a
    rw [ho1] at hw1 hV
    cases ho2 : wordsS y with
    | none =>
      rw [ho2] at hw2 hV
      have hno : parRec (bl t) = .no 115 := hV
      (with_reducible refine is_l ?_); refine l_callv rfl rfl (by kernel_rfl) hw1 (fun w_ K => ?_)
      have H := H.call K
      repeat' (first | (with_reducible first | refine p_tn ?_ | refine wp_seq ?_ | refine w_reg ?_ | refine l_nil ?_) | ((with_reducible refine g_on ?_); (first | ((with_reducible refine g_mv ?_); refine l_p txs rfl rfl ?_) | ((with_reducible refine g_as ?_); refine l_p txs rfl rfl ?_) | ((with_reducible refine g_ex ?_); refine l_p txs rfl rfl ?_) | ((with_reducible refine g_ld ?_); (refine h_ld txs H 1 rfl rfl rfl rfl ?_)) | ((with_reducible refine g_st ?_); (refine h_stR recs H 0 rfl rfl rfl rfl rfl rfl rfl rfl rfl (fun w_ H => ?_))) | ((with_reducible refine g_al ?_); refine h_alloc recs H rfl rfl (fun g_ w_ H => ?_)) | ((with_reducible refine g_ia ?_); refine l_ia txs rfl rfl (by first | omega | assumption | decide) (by first | omega | assumption | decide) ?_))))
      (with_reducible refine is_l ?_); refine l_callv rfl rfl (by kernel_rfl) (hw2 _ (H.old hM)) (fun w_ K => ?_)
      have H := H.call K
      repeat' (first | (with_reducible first | refine p_tn ?_ | refine wp_seq ?_ | refine w_reg ?_) | (with_reducible (refine is_if ?_; (refine w_ift rfl ?_))) | (with_reducible refine l_nil ?_) | ((with_reducible refine g_on ?_); (first | ((with_reducible refine g_mv ?_); refine l_p txs rfl rfl ?_) | ((with_reducible refine g_as ?_); refine l_p txs rfl rfl ?_) | ((with_reducible refine g_ex ?_); refine l_p txs rfl rfl ?_) | ((with_reducible refine g_pk ?_); refine l_p txs rfl rfl ?_) | ((with_reducible refine g_st ?_); (refine h_stR recs H 0 rfl rfl rfl rfl rfl rfl rfl rfl rfl (fun w_ H => ?_))) | ((with_reducible refine g_al ?_); refine h_alloc recs H rfl rfl (fun g_ w_ H => ?_)) | ((with_reducible refine g_un ?_); (refine l_p txs rfl rfl ?_)))) | ((with_reducible refine g_if ?_); (first | (refine l_off rfl ?_) | ((with_reducible refine g_mv ?_); refine l_p txs rfl rfl ?_) | ((with_reducible refine g_un ?_); (refine l_p txs rfl rfl ?_)))))
      have HS := H.pick [3] [] (by decide) (by decide) rfl rfl
      refine d_start (fun w_ => HpS _ w w_ _ _) #[false, false, false, false, false, false, false] (by kernel_rfl) rfl rfl HS.drew ?_
      have H := H.drew
      have HS := HS.drew
      first | (refine d_take (i := 0) #[true, false, false, false, false, false, false] rfl (by kernel_rfl) (fun _ _ _ h => h) rfl (fun w_ K => evLR_run (o := ⟨_, _, _, _, _, _⟩) recs rfl rfl (K.range 0 rfl) rfl) HS ?_)
      first | (refine d_take (i := 1) #[true, true, false, false, false, false, false] rfl (by kernel_rfl) (fun _ _ _ h => h) rfl (fun w_ K => evLR_run (o := ⟨_, _, _, _, _, _⟩) recs rfl rfl (K.range 0 rfl) rfl) HS ?_)
      first | (refine d_pure (i := 2) #[true, true, true, false, false, false, false] rfl (by kernel_rfl) (fun _ _ _ h => h) rfl (fun w_ => evP_run (o := ⟨_, _, _, _, _, _⟩) txs rfl) ?_)
      first | (refine d_pure (i := 3) #[true, true, true, true, false, false, false] rfl (by kernel_rfl) (fun _ _ _ h => h) rfl (fun w_ => evP_run (o := ⟨_, _, _, _, _, _⟩) txs rfl) ?_)
      refine d_one (i := 4) #[true, true, true, true, true, false, false] rfl (by kernel_rfl) rfl ?_
      refine g_on ?_; ((with_reducible refine g_st ?_); (refine h_stR recs H 5 rfl rfl rfl rfl rfl rfl rfl rfl rfl (fun w_ H => ?_)))
      refine l_nil ?_
      have HS := H.pick [3] [] (by decide) (by decide) rfl rfl
      refine ⟨rfl, HS, ?_⟩
      refine d_one (i := 5) #[true, true, true, true, true, true, false] rfl (by kernel_rfl) rfl ?_
      refine g_on ?_; ((with_reducible refine g_st ?_); (refine h_stR recs H 4 rfl rfl rfl rfl rfl rfl rfl rfl rfl (fun w_ H => ?_)))
      refine l_nil ?_
      have HS := H.pick [3] [] (by decide) (by decide) rfl rfl
      refine ⟨rfl, HS, ?_⟩
      first | (refine d_pure (i := 6) #[true, true, true, true, true, true, true] rfl (by kernel_rfl) (fun _ _ _ h => h) rfl (fun w_ => evP_run (o := ⟨_, _, _, _, _, _⟩) txs rfl) ?_)
      refine d_done rfl ?_
      repeat' (with_reducible first | refine p_tn ?_ | refine p_tr ?_ | refine wp_ret ?_)
      refine end_ttcct recs H 5 4 rfl rfl rfl rfl rfl rfl rfl rfl rfl rfl rfl rfl ?_
      exact ⟨by rw [hno]; rfl, H.B⟩
    | some b =>
      obtain ⟨b0, b1, b2⟩ := b
      rw [ho2] at hw2 hV
      have hV : parRec (bl t) = recG (a0, a1, a2) (b0, b1, b2) := hV
      obtain ⟨ex, na0, na1, na2⟩ := wordsS_some ho1
      obtain ⟨ey, nb0, nb1, nb2⟩ := wordsS_some ho2
      have ba0 : Bytes a0 := fun c hc => hbx c (by rw [ex]; simp [hc])
      have ba1 : Bytes a1 := fun c hc => hbx c (by rw [ex]; simp [hc])
      have ba2 : Bytes a2 := fun c hc => hbx c (by rw [ex]; simp [hc])
      have bb0 : Bytes b0 := fun c hc => hby c (by rw [ey]; simp [hc])
      have bb1 : Bytes b1 := fun c hc => hby c (by rw [ey]; simp [hc])
      have bb2 : Bytes b2 := fun c hc => hby c (by rw [ey]; simp [hc])
      have la1 : (strOfNums a1).size ≤ 1024 := by
        rw [← bl_length, blS hbx, ex] at lx
        rw [← bl_length, blS ba1]
        simp only [List.length_append, List.length_cons] at lx
        omega
      have z7 : (⟨#[47, 103, 111, 46, 109, 111, 100]⟩ : ByteArray).size = 7 := rfl
      have e7 : bl (⟨#[47, 103, 111, 46, 109, 111, 100]⟩ : ByteArray) = modS := rfl
      have hV : parRec (bl t) = if a0 ≠ b0 ∨ b1 ≠ a1 ++ modS then .no 115 else if checkS a0 a1 ≠ 0 then .no (checkS a0 a1) else match parSum a2 with | none => .no 114 | some a => match parSum b2 with | none => .no 114 | some b => .is a0 a1 a b := hV
      (with_reducible refine is_l ?_); refine l_callv rfl rfl (by kernel_rfl) hw1 (fun w_ K => ?_)
      have H := H.call K
      repeat' (first | (with_reducible first | refine p_tn ?_ | refine wp_seq ?_ | refine w_reg ?_ | refine l_nil ?_) | ((with_reducible refine g_on ?_); (first | ((with_reducible refine g_mv ?_); refine l_p txs rfl rfl ?_) | ((with_reducible refine g_as ?_); refine l_p txs rfl rfl ?_) | ((with_reducible refine g_ex ?_); refine l_p txs rfl rfl ?_) | ((with_reducible refine g_ld ?_); (refine h_ld txs H 1 rfl rfl rfl rfl ?_)) | ((with_reducible refine g_st ?_); (refine h_stR recs H 0 rfl rfl rfl rfl rfl rfl rfl rfl rfl (fun w_ H => ?_))) | ((with_reducible refine g_al ?_); refine h_alloc recs H rfl rfl (fun g_ w_ H => ?_)) | ((with_reducible refine g_ia ?_); refine l_ia txs rfl rfl (by first | omega | assumption | decide) (by first | omega | assumption | decide) ?_))))
      (with_reducible refine is_l ?_); refine l_callv rfl rfl (by kernel_rfl) (hw2 _ (H.old hM)) (fun w_ K => ?_)
      have H := H.call K
      repeat' (first | (with_reducible first | refine p_tn ?_ | refine wp_seq ?_ | refine w_reg ?_ | refine l_nil ?_) | ((with_reducible refine g_on ?_); (first | ((with_reducible refine g_mv ?_); refine l_p txs rfl rfl ?_) | ((with_reducible refine g_as ?_); refine l_p txs rfl rfl ?_) | ((with_reducible refine g_ex ?_); refine l_p txs rfl rfl ?_) | ((with_reducible refine g_pk ?_); refine l_p txs rfl rfl ?_) | ((with_reducible refine g_st ?_); (refine h_stR recs H 0 rfl rfl rfl rfl rfl rfl rfl rfl rfl (fun w_ H => ?_))) | ((with_reducible refine g_al ?_); refine h_alloc recs H rfl rfl (fun g_ w_ H => ?_)) | ((with_reducible refine g_un ?_); (refine l_p txs rfl rfl ?_)))) | ((with_reducible refine g_if ?_); (first | ((with_reducible refine g_mv ?_); refine l_p txs rfl rfl ?_) | ((with_reducible refine g_un ?_); (refine l_p txs rfl rfl ?_)))))
      (with_reducible refine is_l ?_); refine l_iaa Tryz.underlying87 info_str1 rfl rfl rfl (by decide) (by decide) ?_
      repeat' ((with_reducible refine g_if ?_); ((with_reducible refine g_ld ?_); (refine h_ld txs H 1 rfl rfl rfl rfl ?_)))
      (with_reducible refine is_l ?_); refine l_iaa Tryz.underlying87 info_str1 rfl rfl rfl (by decide) (by decide) ?_
      repeat' ((with_reducible refine g_if ?_); ((with_reducible refine g_ld ?_); (refine h_ld txs H 0 rfl rfl rfl rfl ?_)))
      (with_reducible refine is_l ?_); refine l_t txs rfl rfl (fun h2 => ?_) (fun h2 => ?_)
      · rw [blS ba0, blS bb0] at h2
        have hno : parRec (bl t) = .no 115 := by rw [hV, if_pos (.inl h2)]
        repeat' (first | (with_reducible first | refine p_tn ?_ | refine wp_seq ?_) | (with_reducible (refine is_if ?_; (refine w_ift rfl ?_))) | (with_reducible refine l_nil ?_) | ((with_reducible refine g_on ?_); (first | ((with_reducible refine g_mv ?_); refine l_p txs rfl rfl ?_) | ((with_reducible refine g_pk ?_); refine l_p txs rfl rfl ?_))) | ((with_reducible refine g_if ?_); (refine l_off rfl ?_)))
        have HS := H.pick [3] [] (by decide) (by decide) rfl rfl
        refine d_start (fun w_ => HpS _ w w_ _ _) #[false, false, false, false, false, false, false] (by kernel_rfl) rfl rfl HS.drew ?_
        have H := H.drew
        have HS := HS.drew
        first | (refine d_take (i := 0) #[true, false, false, false, false, false, false] rfl (by kernel_rfl) (fun _ _ _ h => h) rfl (fun w_ K => evLR_run (o := ⟨_, _, _, _, _, _⟩) recs rfl rfl (K.range 0 rfl) rfl) HS ?_)
        first | (refine d_take (i := 1) #[true, true, false, false, false, false, false] rfl (by kernel_rfl) (fun _ _ _ h => h) rfl (fun w_ K => evLR_run (o := ⟨_, _, _, _, _, _⟩) recs rfl rfl (K.range 0 rfl) rfl) HS ?_)
        first | (refine d_pure (i := 2) #[true, true, true, false, false, false, false] rfl (by kernel_rfl) (fun _ _ _ h => h) rfl (fun w_ => evP_run (o := ⟨_, _, _, _, _, _⟩) txs rfl) ?_)
        first | (refine d_pure (i := 3) #[true, true, true, true, false, false, false] rfl (by kernel_rfl) (fun _ _ _ h => h) rfl (fun w_ => evP_run (o := ⟨_, _, _, _, _, _⟩) txs rfl) ?_)
        refine d_one (i := 4) #[true, true, true, true, true, false, false] rfl (by kernel_rfl) rfl ?_
        refine g_on ?_; ((with_reducible refine g_st ?_); (refine h_stR recs H 5 rfl rfl rfl rfl rfl rfl rfl rfl rfl (fun w_ H => ?_)))
        refine l_nil ?_
        have HS := H.pick [3] [] (by decide) (by decide) rfl rfl
        refine ⟨rfl, HS, ?_⟩
        refine d_one (i := 5) #[true, true, true, true, true, true, false] rfl (by kernel_rfl) rfl ?_
        refine g_on ?_; ((with_reducible refine g_st ?_); (refine h_stR recs H 4 rfl rfl rfl rfl rfl rfl rfl rfl rfl (fun w_ H => ?_)))
        refine l_nil ?_
        have HS := H.pick [3] [] (by decide) (by decide) rfl rfl
        refine ⟨rfl, HS, ?_⟩
        first | (refine d_pure (i := 6) #[true, true, true, true, true, true, true] rfl (by kernel_rfl) (fun _ _ _ h => h) rfl (fun w_ => evP_run (o := ⟨_, _, _, _, _, _⟩) txs rfl) ?_)
        refine d_done rfl ?_
        repeat' (with_reducible first | refine p_tn ?_ | refine p_tr ?_ | refine wp_ret ?_)
        refine end_ttcct recs H 5 4 rfl rfl rfl rfl rfl rfl rfl rfl rfl rfl rfl rfl ?_
        exact ⟨by rw [hno]; rfl, H.B⟩
      rw [blS ba0, blS bb0] at h2
      repeat' ((with_reducible refine g_on ?_); (first | ((with_reducible refine g_mv ?_); refine l_p txs rfl rfl ?_) | ((with_reducible refine g_pk ?_); refine l_p txs rfl rfl ?_)))
      (with_reducible refine is_l ?_); refine l_iaa Tryz.underlying87 info_str1 rfl rfl rfl (by decide) (by decide) ?_
      repeat' ((with_reducible refine g_if ?_); ((with_reducible refine g_ld ?_); (refine h_ld txs H 0 rfl rfl rfl rfl ?_)))
      (with_reducible refine is_l ?_); refine l_iaa Tryz.underlying87 info_str1 rfl rfl rfl (by decide) (by decide) ?_
      repeat' ((with_reducible refine g_if ?_); ((with_reducible refine g_ld ?_); (refine h_ld txs H 1 rfl rfl rfl rfl ?_)))
      (with_reducible refine is_l ?_); refine l_cat rfl rfl (by omega) ?_
      skip
      (with_reducible refine is_l ?_); refine l_t txs rfl rfl (fun h3 => ?_) (fun h3 => ?_)
      · rw [bl_cat, blS ba1, blS bb1, e7] at h3
        have hno : parRec (bl t) = .no 115 := by rw [hV, if_pos (.inr h3)]
        repeat' (first | (with_reducible first | refine p_tn ?_ | refine wp_seq ?_) | (with_reducible (refine is_if ?_; (refine w_ift rfl ?_))) | (with_reducible refine l_nil ?_) | ((with_reducible refine g_on ?_); ((with_reducible refine g_pk ?_); refine l_p txs rfl rfl ?_)))
        have HS := H.pick [3] [] (by decide) (by decide) rfl rfl
        refine d_start (fun w_ => HpS _ w w_ _ _) #[false, false, false, false, false, false, false] (by kernel_rfl) rfl rfl HS.drew ?_
        have H := H.drew
        have HS := HS.drew
        first | (refine d_take (i := 0) #[true, false, false, false, false, false, false] rfl (by kernel_rfl) (fun _ _ _ h => h) rfl (fun w_ K => evLR_run (o := ⟨_, _, _, _, _, _⟩) recs rfl rfl (K.range 0 rfl) rfl) HS ?_)
        first | (refine d_take (i := 1) #[true, true, false, false, false, false, false] rfl (by kernel_rfl) (fun _ _ _ h => h) rfl (fun w_ K => evLR_run (o := ⟨_, _, _, _, _, _⟩) recs rfl rfl (K.range 0 rfl) rfl) HS ?_)
        first | (refine d_pure (i := 2) #[true, true, true, false, false, false, false] rfl (by kernel_rfl) (fun _ _ _ h => h) rfl (fun w_ => evP_run (o := ⟨_, _, _, _, _, _⟩) txs rfl) ?_)
        first | (refine d_pure (i := 3) #[true, true, true, true, false, false, false] rfl (by kernel_rfl) (fun _ _ _ h => h) rfl (fun w_ => evP_run (o := ⟨_, _, _, _, _, _⟩) txs rfl) ?_)
        refine d_one (i := 4) #[true, true, true, true, true, false, false] rfl (by kernel_rfl) rfl ?_
        refine g_on ?_; ((with_reducible refine g_st ?_); (refine h_stR recs H 5 rfl rfl rfl rfl rfl rfl rfl rfl rfl (fun w_ H => ?_)))
        refine l_nil ?_
        have HS := H.pick [3] [] (by decide) (by decide) rfl rfl
        refine ⟨rfl, HS, ?_⟩
        refine d_one (i := 5) #[true, true, true, true, true, true, false] rfl (by kernel_rfl) rfl ?_
        refine g_on ?_; ((with_reducible refine g_st ?_); (refine h_stR recs H 4 rfl rfl rfl rfl rfl rfl rfl rfl rfl (fun w_ H => ?_)))
        refine l_nil ?_
        have HS := H.pick [3] [] (by decide) (by decide) rfl rfl
        refine ⟨rfl, HS, ?_⟩
        first | (refine d_pure (i := 6) #[true, true, true, true, true, true, true] rfl (by kernel_rfl) (fun _ _ _ h => h) rfl (fun w_ => evP_run (o := ⟨_, _, _, _, _, _⟩) txs rfl) ?_)
        refine d_done rfl ?_
        repeat' (with_reducible first | refine p_tn ?_ | refine p_tr ?_ | refine wp_ret ?_)
        refine end_ttcct recs H 5 4 rfl rfl rfl rfl rfl rfl rfl rfl rfl rfl rfl rfl ?_
        exact ⟨by rw [hno]; rfl, H.B⟩
      rw [bl_cat, blS ba1, blS bb1, e7] at h3
      rw [if_neg (by rintro (h | h); exact h2 h; exact h3 h)] at hV
      have hch := fun (w1 : World) (h1 : Lay w1) => check_c h1 (strOfNums a0) (strOfNums a1)
      rw [blS ba0, blS ba1] at hch
      generalize checkS a0 a1 = j at hV hch
      repeat' (first | (with_reducible first | refine p_tn ?_ | refine wp_seq ?_ | refine w_reg ?_) | (with_reducible (refine is_if ?_; (refine w_iff rfl ?_))) | (with_reducible first | refine wp_skip ?_ | refine l_nil ?_) | ((with_reducible refine g_on ?_); ((with_reducible refine g_pk ?_); refine l_p txs rfl rfl ?_)))
      (with_reducible refine is_l ?_); refine l_iaa Tryz.underlying87 info_str1 rfl rfl rfl (by decide) (by decide) ?_
      repeat' ((with_reducible refine g_on ?_); ((with_reducible refine g_ld ?_); (refine h_ld txs H 1 rfl rfl rfl rfl ?_)))
      (with_reducible refine is_l ?_); refine l_iaa Tryz.underlying87 info_str1 rfl rfl rfl (by decide) (by decide) ?_
      repeat' ((with_reducible refine g_on ?_); ((with_reducible refine g_ld ?_); (refine h_ld txs H 1 rfl rfl rfl rfl ?_)))
      (with_reducible refine is_l ?_); refine l_callv rfl rfl (by kernel_rfl) (hch _ (hL.below H.B)) (fun w_ K => ?_)
      have H := H.call K
      repeat' (first | (with_reducible first | refine p_tn ?_ | refine wp_seq ?_ | refine w_reg ?_ | refine l_nil ?_) | ((with_reducible refine g_on ?_); (first | ((with_reducible refine g_mv ?_); refine l_p txs rfl rfl ?_) | ((with_reducible refine g_as ?_); refine l_p txs rfl rfl ?_))))
      (with_reducible refine is_l ?_); refine l_t txs rfl rfl (fun h4 => ?_) (fun h4 => ?_)
      · have hno : parRec (bl t) = .no j := by rw [hV, if_pos (by omega)]
        repeat' (first | (with_reducible first | refine p_tn ?_ | refine wp_seq ?_) | (with_reducible (refine is_if ?_; (refine w_ift rfl ?_))) | (with_reducible refine l_nil ?_))
        have HS := H.pick [3] [] (by decide) (by decide) rfl rfl
        refine d_start (fun w_ => HpS _ w w_ _ _) #[false, false, false, false, false, false, false, false] (by kernel_rfl) rfl rfl HS.drew ?_
        have H := H.drew
        have HS := HS.drew
        first | (refine d_take (i := 0) #[true, false, false, false, false, false, false, false] rfl (by kernel_rfl) (fun _ _ _ h => h) rfl (fun w_ K => evLR_run (o := ⟨_, _, _, _, _, _⟩) recs rfl rfl (K.range 0 rfl) rfl) HS ?_)
        first | (refine d_take (i := 1) #[true, true, false, false, false, false, false, false] rfl (by kernel_rfl) (fun _ _ _ h => h) rfl (fun w_ K => evLR_run (o := ⟨_, _, _, _, _, _⟩) recs rfl rfl (K.range 0 rfl) rfl) HS ?_)
        first | (refine d_pure (i := 2) #[true, true, true, false, false, false, false, false] rfl (by kernel_rfl) (fun _ _ _ h => h) rfl (fun w_ => evP_run (o := ⟨_, _, _, _, _, _⟩) txs rfl) ?_)
        first | (refine d_pure (i := 3) #[true, true, true, true, false, false, false, false] rfl (by kernel_rfl) (fun _ _ _ h => h) rfl (fun w_ => evP_run (o := ⟨_, _, _, _, _, _⟩) txs rfl) ?_)
        first | (refine d_pure (i := 4) #[true, true, true, true, true, false, false, false] rfl (by kernel_rfl) (fun _ _ _ h => h) rfl (fun w_ => evP_run (o := ⟨_, _, _, _, _, _⟩) txs rfl) ?_)
        refine d_one (i := 5) #[true, true, true, true, true, true, false, false] rfl (by kernel_rfl) rfl ?_
        refine g_on ?_; ((with_reducible refine g_st ?_); (refine h_stR recs H 5 rfl rfl rfl rfl rfl rfl rfl rfl rfl (fun w_ H => ?_)))
        refine l_nil ?_
        have HS := H.pick [3] [] (by decide) (by decide) rfl rfl
        refine ⟨rfl, HS, ?_⟩
        refine d_one (i := 6) #[true, true, true, true, true, true, true, false] rfl (by kernel_rfl) rfl ?_
        refine g_on ?_; ((with_reducible refine g_st ?_); (refine h_stR recs H 4 rfl rfl rfl rfl rfl rfl rfl rfl rfl (fun w_ H => ?_)))
        refine l_nil ?_
        have HS := H.pick [3] [] (by decide) (by decide) rfl rfl
        refine ⟨rfl, HS, ?_⟩
        first | (refine d_pure (i := 7) #[true, true, true, true, true, true, true, true] rfl (by kernel_rfl) (fun _ _ _ h => h) rfl (fun w_ => evP_run (o := ⟨_, _, _, _, _, _⟩) txs rfl) ?_)
        refine d_done rfl ?_
        repeat' (with_reducible first | refine p_tn ?_ | refine p_tr ?_ | refine wp_ret ?_)
        refine end_ttcct recs H 5 4 rfl rfl rfl rfl rfl rfl rfl rfl rfl rfl rfl rfl ?_
        exact ⟨by rw [hno]; rfl, H.B⟩
      rw [if_neg (by omega)] at hV
      have hp1 := fun w1 => ParseSum_c (strOfNums a2) w1
      have hp2 := fun w1 => ParseSum_c (strOfNums b2) w1
      rw [blS ba2] at hp1
      rw [blS bb2] at hp2
      have hA1 := psL_length a2
      have hB1 := psL_length b2
      have cA : (psE (parSum a2) = 0 ∧ parSum a2 = some (psL (parSum a2))) ∨ (psE (parSum a2) = 114 ∧ parSum a2 = none) := by
        cases parSum a2 with
        | none => exact .inr ⟨rfl, rfl⟩
        | some l => exact .inl ⟨rfl, rfl⟩
      have cB : (psE (parSum b2) = 0 ∧ parSum b2 = some (psL (parSum b2))) ∨ (psE (parSum b2) = 114 ∧ parSum b2 = none) := by
        cases parSum b2 with
        | none => exact .inr ⟨rfl, rfl⟩
        | some l => exact .inl ⟨rfl, rfl⟩
      generalize psL (parSum a2) = A1 at hp1 hA1 cA
      generalize psL (parSum b2) = B1 at hp2 hB1 cB
      generalize psE (parSum a2) = eA at hp1 cA
      generalize psE (parSum b2) = eB at hp2 cB
      have nA : (nums .u8 A1).length = (nums .u8 zL).length := by rw [nums_length, hA1]; rfl
      have nB : (nums .u8 B1).length = (nums .u8 zL).length := by rw [nums_length, hB1]; rfl
      repeat' (first | (with_reducible first | refine p_tn ?_ | refine wp_seq ?_ | refine w_reg ?_) | (with_reducible (refine is_if ?_; (refine w_iff rfl ?_))) | (with_reducible first | refine wp_skip ?_ | refine l_nil ?_))
      (with_reducible refine is_l ?_); refine l_iaa Tryz.underlying87 info_str1 rfl rfl rfl (by decide) (by decide) ?_
      repeat' ((with_reducible refine g_on ?_); ((with_reducible refine g_ld ?_); (refine h_ld txs H 1 rfl rfl rfl rfl ?_)))
      (with_reducible refine is_l ?_); refine l_callv rfl rfl (by kernel_rfl) (hp1 _) (fun w_ K => ?_)
      have H := H.call K
      repeat' ((with_reducible refine g_on ?_); (first | ((with_reducible refine g_mv ?_); refine l_p txs rfl rfl ?_) | ((with_reducible refine g_ex ?_); refine l_p txs rfl rfl ?_)))
      (with_reducible refine is_l ?_); refine h_stR recs H 5 rfl rfl rfl rfl rfl (nfL_eq _ _) nA (nums_one _) rfl (fun w_ H => ?_)
      repeat' (first | (with_reducible first | refine p_tn ?_ | refine wp_seq ?_ | refine w_reg ?_ | refine l_nil ?_) | ((with_reducible refine g_on ?_); (first | ((with_reducible refine g_mv ?_); refine l_p txs rfl rfl ?_) | ((with_reducible refine g_as ?_); refine l_p txs rfl rfl ?_))))
      (with_reducible refine is_l ?_); refine l_t txs rfl rfl (fun h5 => ?_) (fun h5 => ?_)
      · obtain ⟨rfl, hq⟩ : eA = 114 ∧ parSum a2 = none := by
          rcases cA with ⟨h, _⟩ | h
          · exact absurd h h5
          · exact h
        have hno : parRec (bl t) = .no 114 := by rw [hV, hq]
        repeat' (first | (with_reducible first | refine p_tn ?_ | refine wp_seq ?_) | (with_reducible (refine is_if ?_; (refine w_ift rfl ?_))) | (with_reducible refine l_nil ?_))
        have HS := H.pick [3] [] (by decide) (by decide) rfl rfl
        refine d_start (fun w_ => HpS _ w w_ _ _) #[false, false, false, false, false, false, false, false] (by kernel_rfl) rfl rfl HS.drew ?_
        have H := H.drew
        have HS := HS.drew
        first | (refine d_take (i := 0) #[true, false, false, false, false, false, false, false] rfl (by kernel_rfl) (fun _ _ _ h => h) rfl (fun w_ K => evLR_run (o := ⟨_, _, _, _, _, _⟩) recs rfl rfl (K.range 0 rfl) rfl) HS ?_)
        first | (refine d_take (i := 1) #[true, true, false, false, false, false, false, false] rfl (by kernel_rfl) (fun _ _ _ h => h) rfl (fun w_ K => evLR_run (o := ⟨_, _, _, _, _, _⟩) recs rfl rfl (K.range 0 rfl) rfl) HS ?_)
        first | (refine d_pure (i := 2) #[true, true, true, false, false, false, false, false] rfl (by kernel_rfl) (fun _ _ _ h => h) rfl (fun w_ => evP_run (o := ⟨_, _, _, _, _, _⟩) txs rfl) ?_)
        first | (refine d_pure (i := 3) #[true, true, true, true, false, false, false, false] rfl (by kernel_rfl) (fun _ _ _ h => h) rfl (fun w_ => evP_run (o := ⟨_, _, _, _, _, _⟩) txs rfl) ?_)
        first | (refine d_pure (i := 4) #[true, true, true, true, true, false, false, false] rfl (by kernel_rfl) (fun _ _ _ h => h) rfl (fun w_ => evP_run (o := ⟨_, _, _, _, _, _⟩) txs rfl) ?_)
        refine d_one (i := 5) #[true, true, true, true, true, true, false, false] rfl (by kernel_rfl) rfl ?_
        refine h_stR recs H 5 rfl rfl rfl rfl nA rfl rfl rfl rfl (fun w_ H => ?_)
        refine l_nil ?_
        have HS := H.pick [3] [] (by decide) (by decide) rfl rfl
        refine ⟨rfl, HS, ?_⟩
        refine d_one (i := 6) #[true, true, true, true, true, true, true, false] rfl (by kernel_rfl) rfl ?_
        refine g_on ?_; ((with_reducible refine g_st ?_); (refine h_stR recs H 4 rfl rfl rfl rfl rfl rfl rfl rfl rfl (fun w_ H => ?_)))
        refine l_nil ?_
        have HS := H.pick [3] [] (by decide) (by decide) rfl rfl
        refine ⟨rfl, HS, ?_⟩
        first | (refine d_pure (i := 7) #[true, true, true, true, true, true, true, true] rfl (by kernel_rfl) (fun _ _ _ h => h) rfl (fun w_ => evP_run (o := ⟨_, _, _, _, _, _⟩) txs rfl) ?_)
        refine d_done rfl ?_
        repeat' (with_reducible first | refine p_tn ?_ | refine p_tr ?_ | refine wp_ret ?_)
        refine end_ttcct recs H 5 4 rfl rfl rfl rfl rfl rfl rfl rfl rfl rfl rfl rfl ?_
        exact ⟨by rw [hno]; rfl, H.B⟩
      have hqA : parSum a2 = some A1 := by
        rcases cA with ⟨_, h⟩ | ⟨h, _⟩
        · exact h
        · exact absurd (by rw [h]; decide) h5
      rw [hqA] at hV
      repeat' (first | (with_reducible first | refine p_tn ?_ | refine wp_seq ?_ | refine w_reg ?_) | (with_reducible (refine is_if ?_; (refine w_iff rfl ?_))) | (with_reducible first | refine wp_skip ?_ | refine l_nil ?_))
      (with_reducible refine is_l ?_); refine l_iaa Tryz.underlying87 info_str1 rfl rfl rfl (by decide) (by decide) ?_
      repeat' ((with_reducible refine g_on ?_); ((with_reducible refine g_ld ?_); (refine h_ld txs H 0 rfl rfl rfl rfl ?_)))
      (with_reducible refine is_l ?_); refine l_callv rfl rfl (by kernel_rfl) (hp2 _) (fun w_ K => ?_)
      have H := H.call K
      repeat' ((with_reducible refine g_on ?_); (first | ((with_reducible refine g_mv ?_); refine l_p txs rfl rfl ?_) | ((with_reducible refine g_ex ?_); refine l_p txs rfl rfl ?_)))
      (with_reducible refine is_l ?_); refine h_stR recs H 4 rfl rfl rfl rfl rfl (nfL_eq _ _) nB (nums_one _) rfl (fun w_ H => ?_)
      repeat' (first | (with_reducible first | refine p_tn ?_ | refine wp_seq ?_ | refine w_reg ?_ | refine l_nil ?_) | ((with_reducible refine g_on ?_); (first | ((with_reducible refine g_mv ?_); refine l_p txs rfl rfl ?_) | ((with_reducible refine g_as ?_); refine l_p txs rfl rfl ?_))))
      (with_reducible refine is_l ?_); refine l_t txs rfl rfl (fun h6 => ?_) (fun h6 => ?_)
      · obtain ⟨rfl, hq⟩ : eB = 114 ∧ parSum b2 = none := by
          rcases cB with ⟨h, _⟩ | h
          · exact absurd h h6
          · exact h
        have hno : parRec (bl t) = .no 114 := by rw [hV, hq]
        repeat' (first | (with_reducible first | refine p_tn ?_ | refine wp_seq ?_) | (with_reducible (refine is_if ?_; (refine w_ift rfl ?_))) | (with_reducible refine l_nil ?_))
        have HS := H.pick [3] [] (by decide) (by decide) rfl rfl
        refine d_start (fun w_ => HpS _ w w_ _ _) #[false, false, false, false, false, false, false, false] (by kernel_rfl) rfl rfl HS.drew ?_
        have H := H.drew
        have HS := HS.drew
        first | (refine d_take (i := 0) #[true, false, false, false, false, false, false, false] rfl (by kernel_rfl) (fun _ _ _ h => h) rfl (fun w_ K => evLR_run (o := ⟨_, _, _, _, _, _⟩) recs rfl rfl (K.range 0 rfl) rfl) HS ?_)
        first | (refine d_take (i := 1) #[true, true, false, false, false, false, false, false] rfl (by kernel_rfl) (fun _ _ _ h => h) rfl (fun w_ K => evLR_run (o := ⟨_, _, _, _, _, _⟩) recs rfl rfl (K.range 0 rfl) rfl) HS ?_)
        first | (refine d_pure (i := 2) #[true, true, true, false, false, false, false, false] rfl (by kernel_rfl) (fun _ _ _ h => h) rfl (fun w_ => evP_run (o := ⟨_, _, _, _, _, _⟩) txs rfl) ?_)
        first | (refine d_pure (i := 3) #[true, true, true, true, false, false, false, false] rfl (by kernel_rfl) (fun _ _ _ h => h) rfl (fun w_ => evP_run (o := ⟨_, _, _, _, _, _⟩) txs rfl) ?_)
        first | (refine d_pure (i := 4) #[true, true, true, true, true, false, false, false] rfl (by kernel_rfl) (fun _ _ _ h => h) rfl (fun w_ => evP_run (o := ⟨_, _, _, _, _, _⟩) txs rfl) ?_)
        refine d_one (i := 5) #[true, true, true, true, true, true, false, false] rfl (by kernel_rfl) rfl ?_
        refine h_stR recs H 5 rfl rfl rfl rfl nA rfl rfl rfl rfl (fun w_ H => ?_)
        refine l_nil ?_
        have HS := H.pick [3] [] (by decide) (by decide) rfl rfl
        refine ⟨rfl, HS, ?_⟩
        refine d_one (i := 6) #[true, true, true, true, true, true, true, false] rfl (by kernel_rfl) rfl ?_
        refine h_stR recs H 4 rfl rfl rfl rfl nB rfl rfl rfl rfl (fun w_ H => ?_)
        refine l_nil ?_
        have HS := H.pick [3] [] (by decide) (by decide) rfl rfl
        refine ⟨rfl, HS, ?_⟩
        first | (refine d_pure (i := 7) #[true, true, true, true, true, true, true, true] rfl (by kernel_rfl) (fun _ _ _ h => h) rfl (fun w_ => evP_run (o := ⟨_, _, _, _, _, _⟩) txs rfl) ?_)
        refine d_done rfl ?_
        repeat' (with_reducible first | refine p_tn ?_ | refine p_tr ?_ | refine wp_ret ?_)
        refine end_ttcct recs H 5 4 rfl rfl rfl rfl rfl rfl rfl rfl rfl rfl rfl rfl ?_
        exact ⟨by rw [hno]; rfl, H.B⟩
      have hqB : parSum b2 = some B1 := by
        rcases cB with ⟨_, h⟩ | ⟨h, _⟩
        · exact h
        · exact absurd (by rw [h]; decide) h6
      rw [hqB] at hV
      have hV : parRec (bl t) = .is a0 a1 A1 B1 := hV
      repeat' (first | (with_reducible first | refine p_tn ?_ | refine wp_seq ?_) | (with_reducible (refine is_if ?_; (refine w_iff rfl ?_))) | (with_reducible first | refine wp_skip ?_ | refine l_nil ?_))
      have HS := H.pick [1,5,4] [] (by decide) (by decide) rfl rfl
      refine d_start (fun w_ => HpS _ w w_ _ _) #[false, false, false, false, false, false, false, false, false, false, false] (by kernel_rfl) rfl rfl HS.drew ?_
      have H := H.drew
      have HS := HS.drew
      first | (refine d_pure (i := 0) #[true, false, false, false, false, false, false, false, false, false, false] rfl (by kernel_rfl) (fun _ _ _ h => h) rfl (fun w_ => iaa_run Tryz.underlying87 info_str1 rfl rfl (by decide) (by decide)) ?_)
      first | (refine d_take (i := 1) #[true, true, false, false, false, false, false, false, false, false, false] rfl (by kernel_rfl) (fun _ _ _ h => h) rfl (fun w_ K => evL_run (o := ⟨_, _, _, _, _, _⟩) txs rfl (K.cellAt 0 rfl rfl)) HS ?_) | (refine d_take (i := 1) #[true, true, false, false, false, false, false, false, false, false, false] rfl (by kernel_rfl) (fun _ _ _ h => h) rfl (fun w_ K => evL_run (o := ⟨_, _, _, _, _, _⟩) txs rfl (K.cellAt 1 rfl rfl)) HS ?_) | (refine d_take (i := 1) #[true, true, false, false, false, false, false, false, false, false, false] rfl (by kernel_rfl) (fun _ _ _ h => h) rfl (fun w_ K => evL_run (o := ⟨_, _, _, _, _, _⟩) txs rfl (K.cellAt 2 rfl rfl)) HS ?_)
      first | (refine d_pure (i := 2) #[true, true, true, false, false, false, false, false, false, false, false] rfl (by kernel_rfl) (fun _ _ _ h => h) rfl (fun w_ => iaa_run Tryz.underlying87 info_str1 rfl rfl (by decide) (by decide)) ?_)
      first | (refine d_take (i := 3) #[true, true, true, true, false, false, false, false, false, false, false] rfl (by kernel_rfl) (fun _ _ _ h => h) rfl (fun w_ K => evL_run (o := ⟨_, _, _, _, _, _⟩) txs rfl (K.cellAt 0 rfl rfl)) HS ?_) | (refine d_take (i := 3) #[true, true, true, true, false, false, false, false, false, false, false] rfl (by kernel_rfl) (fun _ _ _ h => h) rfl (fun w_ K => evL_run (o := ⟨_, _, _, _, _, _⟩) txs rfl (K.cellAt 1 rfl rfl)) HS ?_) | (refine d_take (i := 3) #[true, true, true, true, false, false, false, false, false, false, false] rfl (by kernel_rfl) (fun _ _ _ h => h) rfl (fun w_ K => evL_run (o := ⟨_, _, _, _, _, _⟩) txs rfl (K.cellAt 2 rfl rfl)) HS ?_)
      first | (refine d_take (i := 4) #[true, true, true, true, true, false, false, false, false, false, false] rfl (by kernel_rfl) (fun _ _ _ h => h) rfl (fun w_ K => evLR_run (o := ⟨_, _, _, _, _, _⟩) recs rfl rfl (K.range 1 rfl) nA) HS ?_)
      first | (refine d_take (i := 5) #[true, true, true, true, true, true, false, false, false, false, false] rfl (by kernel_rfl) (fun _ _ _ h => h) rfl (fun w_ K => evLR_run (o := ⟨_, _, _, _, _, _⟩) recs rfl rfl (K.range 2 rfl) nB) HS ?_)
      first | (refine d_pure (i := 6) #[true, true, true, true, true, true, true, false, false, false, false] rfl (by kernel_rfl) (fun _ _ _ h => h) rfl (fun w_ => evP_run (o := ⟨_, _, _, _, _, _⟩) txs rfl) ?_)
      first | (refine d_pure (i := 7) #[true, true, true, true, true, true, true, true, false, false, false] rfl (by kernel_rfl) (fun _ _ _ h => h) rfl (fun w_ => evP_run (o := ⟨_, _, _, _, _, _⟩) txs rfl) ?_)
      refine d_one (i := 8) #[true, true, true, true, true, true, true, true, true, false, false] rfl (by kernel_rfl) rfl ?_
      refine h_stR recs H 5 rfl rfl rfl rfl nA (nfL_eq _ _) nA (nums_one _) rfl (fun w_ H => ?_)
      refine l_nil ?_
      have HS := H.pick [1, 5, 4] [] (by decide) (by decide) rfl rfl
      refine ⟨rfl, HS, ?_⟩
      refine d_one (i := 9) #[true, true, true, true, true, true, true, true, true, true, false] rfl (by kernel_rfl) rfl ?_
      refine h_stR recs H 4 rfl rfl rfl rfl nB (nfL_eq _ _) nB (nums_one _) rfl (fun w_ H => ?_)
      refine l_nil ?_
      have HS := H.pick [1, 5, 4] [] (by decide) (by decide) rfl rfl
      refine ⟨rfl, HS, ?_⟩
      first | (refine d_pure (i := 10) #[true, true, true, true, true, true, true, true, true, true, true] rfl (by kernel_rfl) (fun _ _ _ h => h) rfl (fun w_ => evP_run (o := ⟨_, _, _, _, _, _⟩) txs rfl) ?_)
      refine d_done rfl ?_
      repeat' (with_reducible first | refine p_tn ?_ | refine wp_ret ?_)
      refine end_ttcct recs H 5 4 rfl rfl rfl rfl nA rfl rfl rfl nB rfl rfl rfl ?_
      exact ⟨by rw [hV]; rfl, H.B⟩
end Go.Proofs.YtnimaenhijlcmaaGreatDoor.K.Rec
end
section
namespace Go.Proofs.YtnimaenhijlcmaaGreatDoor.K.Ref
open Go.RowKit Go.Proofs.YtnimaenhijlcmaaGreatDoor.Q Go.Proofs.YtnimaenhijlcmaaGreatDoor.K Go.Proofs.YtnimaenhijlcmaaGreatDoor.Mb Go.Proofs.YtnimaenhijlcmaaGreatDoorW.PrintWords
set_option linter.unusedVariables false
set_option linter.unusedSimpArgs false
theorem key_two {s : L} {p v : L} (h : splitC 64 s = [p, v]) : keyS s = some (p, v) := by
  have h1 := key_split s
  rw [h] at h1
  cases hk : keyS s with
  | none => rw [hk] at h1; cases h1
  | some q =>
    obtain ⟨a, b⟩ := q
    obtain ⟨rfl, n1, n2⟩ := keyS_some hk
    rw [splitC_cut _ n1, splitC_none n2] at h
    cases h
    rfl
set_option maxRecDepth 100000 in
set_option maxHeartbeats 8000000 in
theorem ParseKey_r {w : World} (hL : TakL w) (t : ByteArray) (ht : t.size ≤ 100000000) :
    Calls Tryz.prog 22 #[.string t] w fun e w' => e = .returned (.tuple #[.string (parK (bl t)).1, .string (parK (bl t)).2.1, .int .i64 (parK (bl t)).2.2]) ∧ Below w.heap.size w w' := by
  obtain ⟨t2, fr, hD⟩ := hL
  refine enter (args := [.string t]) Tryz.func22 rfl Tryz.ntmps22 rfl ?_
  have H := Hp.nil w
  have hks := key_split (bl t)
  have hk2 := fun (p v : L) => @key_two (bl t) p v
  have hbt := bl_bytes t
  have hsm := split_mem 64 (bl t)
  have hP : parK (bl t) = match keyS (bl t) with
    | none => (⟨#[]⟩, ⟨#[]⟩, 113)
    | some (p, v) => if checkS p v = 0 then (strOfNums p, strOfNums v, 0) else (⟨#[]⟩, ⟨#[]⟩, (checkS p v : Int)) := rfl
  repeat' (first | (with_reducible first | refine p_tn ?_ | refine wp_seq ?_ | refine w_reg ?_ | refine l_nil ?_) | ((with_reducible refine g_on ?_); (first | ((with_reducible refine g_mv ?_); refine l_p txs rfl rfl ?_) | ((with_reducible refine g_as ?_); refine l_p txs rfl rfl ?_))))
  (with_reducible refine is_l ?_); refine l_call rfl rfl (by kernel_rfl) (pieces_c t 64 _ ht) (fun e w_ hR => ?_)
  generalize splitC 64 (bl t) = N at hR hks hk2 hsm
  obtain ⟨A1, c1, rfl, K⟩ := hR
  refine ⟨_, rfl, ?_⟩
  have H := H.join K
  repeat' (first | (with_reducible first | refine p_tn ?_ | refine wp_seq ?_ | refine w_reg ?_ | refine l_nil ?_) | ((with_reducible refine g_on ?_); (first | ((with_reducible refine g_mv ?_); refine l_p txs rfl rfl ?_) | ((with_reducible refine g_as ?_); refine l_p txs rfl rfl ?_) | ((with_reducible refine g_cl ?_); refine l_p txs rfl rfl ?_))))
  (with_reducible refine is_l ?_); refine l_t txs rfl rfl (fun h1 => ?_) (fun h1 => ?_)
  · have hno : keyS (bl t) = none := by
      cases hk : keyS (bl t) with
      | none => rfl
      | some p => rw [hk] at hks; exact absurd (of_decide_eq_true hks.symm) (by omega)
    have hn : parK (bl t) = (⟨#[]⟩, ⟨#[]⟩, 113) := by rw [hP, hno]
    repeat' (first | (with_reducible first | refine p_tn ?_ | refine p_tr ?_ | refine wp_seq ?_ | refine w_reg ?_) | (with_reducible (refine is_if ?_; (refine w_ift rfl ?_))) | (with_reducible first | refine wp_ret ?_ | refine l_nil ?_) | ((with_reducible refine g_on ?_); ((with_reducible refine g_as ?_); refine l_p txs rfl rfl ?_)))
    refine end3 rfl rfl rfl rfl ?_
    exact ⟨by rw [hn]; first | done | rfl, H.B⟩
  obtain ⟨p, v, rfl⟩ : ∃ p v, N = [p, v] := by
    match N, h1 with
    | [p, v], _ => exact ⟨p, v, rfl⟩
    | [], h => exact absurd (show ((([] : List L).length : Nat) : Int) ≠ 2 by decide) h
    | [x], h => exact absurd (show (([x].length : Nat) : Int) ≠ 2 from (by decide : (1 : Int) ≠ 2)) h
    | _ :: _ :: _ :: _, h => simp only [List.length_cons] at h; omega
  have hk := hk2 p v rfl
  rw [hk] at hP
  have hP : parK (bl t) = if checkS p v = 0 then (strOfNums p, strOfNums v, 0) else (⟨#[]⟩, ⟨#[]⟩, (checkS p v : Int)) := hP
  have bp : Bytes p := fun c hc => hbt c ((hsm p (by simp)).1 c hc)
  have bv : Bytes v := fun c hc => hbt c ((hsm v (by simp)).1 c hc)
  obtain ⟨ad, rfl⟩ := row_some K 0 rfl (by simp)
  have hl2 : [p, v].length = 2 := rfl
  have hch := fun (w1 : World) (h1 : w1.heap[3]? = some (.cells deC t2 fr)) => Fits_c h1 (strOfNums p) (strOfNums v)
  rw [blS bp, blS bv] at hch
  generalize checkS p v = j at hP hch
  repeat' (first | (with_reducible first | refine p_tn ?_ | refine wp_seq ?_) | (with_reducible (refine is_if ?_; (refine w_iff rfl ?_))) | (with_reducible first | refine wp_skip ?_ | refine l_nil ?_))
  refine w_draw (C := fun w' => Hp w w' [] [rowT (.slice (some ad) [p, v].length c1) [p, v]]) (by kernel_rfl) (by kernel_rfl) H.drew ?_
  repeat' (first | (with_reducible refine q_nil ?_) | ((with_reducible refine is_q ?_); first | (refine q_off rfl ?_) | (refine q_p txs rfl rfl ?_) | (refine q_a txs rfl rfl (by first | exact in_i64 (by omega) (by omega) | exact in_u8 (by omega) (by omega) | exact in_u64 (by omega) (by omega) | exact in_i32 (by omega) (by omega)) ?_)))
  refine q_ia txs rfl rfl (by decide) (by rw [hl2]; decide) ?_
  refine q_ld txs rfl rfl (fun w' K => rdT_cell (rowT_at K 0 rfl) (i := 0) (y := p) rfl) ?_
  repeat' (first | (with_reducible refine q_nil ?_) | ((with_reducible refine is_q ?_); first | (refine q_off rfl ?_) | (refine q_p txs rfl rfl ?_) | (refine q_a txs rfl rfl (by first | exact in_i64 (by omega) (by omega) | exact in_u8 (by omega) (by omega) | exact in_u64 (by omega) (by omega) | exact in_i32 (by omega) (by omega)) ?_)))
  refine q_ia txs rfl rfl (by decide) (by rw [hl2]; decide) ?_
  refine q_ld txs rfl rfl (fun w' K => rdT_cell (rowT_at K 0 rfl) (i := 1) (y := v) rfl) ?_
  refine q_call rfl rfl (by kernel_rfl) (fun w1 K => (hch w1 ((K.B.block _ (blk_lt hD)).trans hD)).mono fun e w2 h => ⟨h.1, K.call h.2⟩) ?_
  repeat' (first | (with_reducible refine q_nil ?_) | ((with_reducible refine is_q ?_); first | (refine q_off rfl ?_) | (refine q_p txs rfl rfl ?_) | (refine q_a txs rfl rfl (by first | exact in_i64 (by omega) (by omega) | exact in_u8 (by omega) (by omega) | exact in_u64 (by omega) (by omega) | exact in_i32 (by omega) (by omega)) ?_)))
  clear H
  intro w_ H
  repeat' (first | (with_reducible first | refine p_tn ?_ | refine wp_seq ?_ | refine w_reg ?_) | ((with_reducible refine g_on ?_); ((with_reducible refine g_mv ?_); refine l_p txs rfl rfl ?_)))
  (with_reducible refine is_l ?_); refine l_t txs rfl rfl (fun h2 => ?_) (fun h2 => ?_)
  · have hn : parK (bl t) = (⟨#[]⟩, ⟨#[]⟩, (j : Int)) := by rw [hP, if_neg (by omega)]
    repeat' (first | (with_reducible first | refine p_tn ?_ | refine p_tr ?_ | refine wp_seq ?_ | refine w_reg ?_) | (with_reducible (refine is_if ?_; (refine w_ift rfl ?_))) | (with_reducible first | refine wp_ret ?_ | refine l_nil ?_) | ((with_reducible refine g_on ?_); (first | ((with_reducible refine g_mv ?_); refine l_p txs rfl rfl ?_) | ((with_reducible refine g_as ?_); refine l_p txs rfl rfl ?_))))
    refine end3 rfl rfl rfl rfl ?_
    exact ⟨by rw [hn]; first | done | rfl, H.B⟩
  · have hn : parK (bl t) = (strOfNums p, strOfNums v, 0) := by rw [hP, if_pos (by omega)]
    repeat' (first | (with_reducible first | refine p_tn ?_ | refine wp_seq ?_) | (with_reducible (refine is_if ?_; (refine w_iff rfl ?_))) | (with_reducible first | refine wp_skip ?_ | refine l_nil ?_))
    refine w_draw (C := fun w' => Hp w w' [] [rowT (.slice (some ad) [p, v].length c1) [p, v]]) (by kernel_rfl) (by kernel_rfl) H.drew ?_
    repeat' (first | (with_reducible refine q_nil ?_) | ((with_reducible refine is_q ?_); first | (refine q_off rfl ?_) | (refine q_p txs rfl rfl ?_) | (refine q_a txs rfl rfl (by first | exact in_i64 (by omega) (by omega) | exact in_u8 (by omega) (by omega) | exact in_u64 (by omega) (by omega) | exact in_i32 (by omega) (by omega)) ?_)))
    refine q_ia txs rfl rfl (by decide) (by rw [hl2]; decide) ?_
    refine q_ld txs rfl rfl (fun w' K => rdT_cell (rowT_at K 0 rfl) (i := 0) (y := p) rfl) ?_
    repeat' (first | (with_reducible refine q_nil ?_) | ((with_reducible refine is_q ?_); first | (refine q_off rfl ?_) | (refine q_p txs rfl rfl ?_) | (refine q_a txs rfl rfl (by first | exact in_i64 (by omega) (by omega) | exact in_u8 (by omega) (by omega) | exact in_u64 (by omega) (by omega) | exact in_i32 (by omega) (by omega)) ?_)))
    refine q_ia txs rfl rfl (by decide) (by rw [hl2]; decide) ?_
    refine q_ld txs rfl rfl (fun w' K => rdT_cell (rowT_at K 0 rfl) (i := 1) (y := v) rfl) ?_
    repeat' (first | (with_reducible refine q_nil ?_) | ((with_reducible refine is_q ?_); first | (refine q_off rfl ?_) | (refine q_p txs rfl rfl ?_) | (refine q_a txs rfl rfl (by first | exact in_i64 (by omega) (by omega) | exact in_u8 (by omega) (by omega) | exact in_u64 (by omega) (by omega) | exact in_i32 (by omega) (by omega)) ?_)))
    clear H
    intro w_ H
    repeat' (with_reducible first | refine p_tn ?_ | refine wp_ret ?_)
    refine end3 rfl rfl rfl rfl ?_
    exact ⟨by rw [hn]; first | done | rfl, H.B⟩
end Go.Proofs.YtnimaenhijlcmaaGreatDoor.K.Ref
namespace Go.Proofs.YtnimaenhijlcmaaGreatDoor.K.Rec
open Go.RowKit Go.Proofs.YtnimaenhijlcmaaGreatDoor.Q Go.Proofs.YtnimaenhijlcmaaGreatDoor.K Go.Proofs.YtnimaenhijlcmaaGreatDoor.Mb Go.Proofs.YtnimaenhijlcmaaGreatDoorW.PrintWords
set_option linter.unusedVariables false
set_option linter.unusedSimpArgs false
theorem fill_len (l : L) (h : l.length = 32) (i : Nat) (hi : i ≤ 32) : (l.take i ++ zL.drop i).length = 32 := by
  rw [List.length_append, List.length_take, List.length_drop]
  show min i l.length + (32 - i) = 32
  omega
theorem fill_set (l : L) (h : l.length = 32) {i : Nat} {x : Int} (hx : l[i]? = some x) : (nums .u8 (l.take i ++ zL.drop i)).set i (.int .u8 x) = nums .u8 (l.take (i + 1) ++ zL.drop (i + 1)) := by
  obtain ⟨h1, h2⟩ := List.getElem?_eq_some_iff.1 hx
  have hz : zL.length = 32 := rfl
  unfold nums
  rw [← List.map_set, List.take_succ_eq_append_getElem h1, h2, List.set_append_right _ _ (by rw [List.length_take]; omega), List.length_take_of_le (by omega), Nat.sub_self, List.drop_eq_getElem_cons (i := i) (by omega), List.set_cons_zero, List.append_assoc]
  rfl
set_option maxRecDepth 100000 in
set_option maxHeartbeats 8000000 in
theorem ParseSum_r (t : ByteArray) (w : World) (ht : t.size ≤ 100000000) : Calls Tryz.prog 25 #[.string t] w fun e w' => e = .returned (.tuple #[.agg (nums .u8 (psL (parSum (bl t)))).toArray, .int .i64 (psE (parSum (bl t)))]) ∧ Below w.heap.size w w' := by
  have hbt := bl_bytes t
  have hlen := bl_length t
  refine enter (args := [.string t]) Tryz.func25 rfl Tryz.ntmps25 rfl ?_
  have H := Hp.nil w
  have hP := parSum_if (bl t)
  have h47 := @parSum_47 (bl t)
  have z3 : (⟨#[104, 49, 58]⟩ : ByteArray).size = 3 := rfl
  have hcp := fun w1 => Ref.begins_c t ⟨#[104, 49, 58]⟩ w1 ht (by omega)
  rw [show bl (⟨#[104, 49, 58]⟩ : ByteArray) = h1S from rfl, show (⟨#[104, 49, 58]⟩ : ByteArray).size = 3 from rfl] at hcp
  repeat' (with_reducible first | refine wp_seq ?_ | refine w_reg ?_)
  (with_reducible refine is_l ?_); refine h_alloc recs H rfl rfl (fun g2 w_ H => ?_)
  refine g_on ?_; ((with_reducible refine g_as ?_); refine l_p txs rfl rfl ?_)
  with_reducible refine l_nil ?_
  repeat' (with_reducible first | refine p_tn ?_ | refine wp_seq ?_ | refine w_reg ?_)
  (with_reducible refine is_l ?_); refine h_alloc recs H rfl rfl (fun g4 w_ H => ?_)
  repeat' (first | (with_reducible first | refine p_tn ?_ | refine wp_seq ?_ | refine w_reg ?_ | refine l_nil ?_) | ((with_reducible refine g_on ?_); (first | ((with_reducible refine g_mv ?_); refine l_p txs rfl rfl ?_) | ((with_reducible refine g_cl ?_); refine l_p txs rfl rfl ?_))))
  (with_reducible refine is_l ?_); refine l_t txs rfl rfl (fun q1 => ?_) (fun q1 => ?_)
  · have hno : parSum (bl t) = none := h47 (by omega)
    repeat' (first | (with_reducible first | refine p_tn ?_ | refine p_tr ?_ | refine wp_seq ?_ | refine w_reg ?_) | (with_reducible (refine is_if ?_; (refine w_ift rfl ?_))) | (with_reducible first | refine wp_ret ?_ | refine l_nil ?_) | ((with_reducible refine g_on ?_); (first | ((with_reducible refine g_mv ?_); refine l_p txs rfl rfl ?_) | ((with_reducible refine g_as ?_); refine l_p txs rfl rfl ?_) | ((with_reducible refine g_pk ?_); refine l_p txs rfl rfl ?_) | ((with_reducible refine g_ld ?_); (refine h_ldR recs H 0 rfl rfl rfl rfl rfl ?_)) | ((with_reducible refine g_st ?_); (refine h_stR recs H 1 rfl rfl rfl rfl rfl rfl rfl rfl rfl (fun w_ H => ?_))))) | ((with_reducible refine g_if ?_); (refine l_off rfl ?_)))
    refine end_ct recs H 1 rfl rfl rfl rfl rfl rfl ?_
    exact ⟨by rw [hno]; rfl, H.B⟩
  have q1 : t.size = 47 := by omega
  repeat' (first | ((with_reducible refine g_on ?_); ((with_reducible refine g_mv ?_); refine l_p txs rfl rfl ?_)) | ((with_reducible refine g_if ?_); ((with_reducible refine g_mv ?_); refine l_p txs rfl rfl ?_)))
  (with_reducible refine is_l ?_); refine l_callp rfl rfl (by kernel_rfl) (hcp _) ?_
  by_cases hh : (bl t).take 3 = h1S
  rotate_left
  · rw [if_neg hh] at hP
    rw [decide_eq_false hh]
    have hno := hP
    repeat' (first | (with_reducible first | refine p_tn ?_ | refine p_tr ?_ | refine wp_seq ?_ | refine w_reg ?_) | (with_reducible (refine is_if ?_; (refine w_ift rfl ?_))) | (with_reducible first | refine wp_ret ?_ | refine l_nil ?_) | ((with_reducible refine g_on ?_); (first | ((with_reducible refine g_as ?_); refine l_p txs rfl rfl ?_) | ((with_reducible refine g_pk ?_); refine l_p txs rfl rfl ?_) | ((with_reducible refine g_ld ?_); (refine h_ldR recs H 0 rfl rfl rfl rfl rfl ?_)) | ((with_reducible refine g_st ?_); (refine h_stR recs H 1 rfl rfl rfl rfl rfl rfl rfl rfl rfl (fun w_ H => ?_))))) | ((with_reducible refine g_if ?_); ((with_reducible refine g_un ?_); (refine l_p txs rfl rfl ?_))))
    refine end_ct recs H 1 rfl rfl rfl rfl rfl rfl ?_
    exact ⟨by rw [hno]; rfl, H.B⟩
  rw [if_pos hh] at hP
  rw [decide_eq_true hh]
  have hbd : Bytes ((bl t).drop 3) := fun y hy => hbt y (List.mem_of_mem_drop hy)
  have hdl : ((bl t).drop 3).length = 44 := by rw [List.length_drop]; omega
  have hx : t.extract (3 : Int).toNat (t.size : Int).toNat = strOfNums ((bl t).drop 3) := by
    refine bl_inj ?_
    rw [blE, blS hbd, Int.toNat_natCast]
    show ((bl t).drop 3).take (t.size - 3) = _
    rw [List.take_of_length_le (by omega)]
  generalize (bl t).drop 3 = s at hP hbd hdl hx
  repeat' (first | (with_reducible first | refine p_tn ?_ | refine wp_seq ?_ | refine w_reg ?_) | (with_reducible (refine is_if ?_; (refine w_iff rfl ?_))) | (with_reducible first | refine wp_skip ?_ | refine l_nil ?_) | ((with_reducible refine g_on ?_); (first | ((with_reducible refine g_mv ?_); refine l_p txs rfl rfl ?_) | ((with_reducible refine g_pk ?_); refine l_p txs rfl rfl ?_) | ((with_reducible refine g_sl ?_); refine l_sl txs rfl rfl (by first | omega | assumption | decide) (by first | omega | assumption | decide) (by first | omega | assumption | decide) ?_))) | ((with_reducible refine g_if ?_); ((with_reducible refine g_un ?_); (refine l_p txs rfl rfl ?_))))
  rw [hx]
  have hde := fun w1 => Ref.decode_r (strOfNums s) w1 (by rw [← bl_length, blS hbd]; omega)
  rw [blS hbd] at hde
  generalize b64D s = o at hP hde
  (with_reducible refine is_l ?_); refine l_call rfl rfl (by kernel_rfl) (hde _) (fun e w_ hR => ?_)
  cases o with
  | none =>
    obtain ⟨rfl, K⟩ := hR
    refine ⟨_, rfl, ?_⟩
    have H := H.call K
    have hno : parSum (bl t) = none := hP
    repeat' (first | (with_reducible first | refine p_tn ?_ | refine wp_seq ?_ | refine w_reg ?_ | refine l_nil ?_) | ((with_reducible refine g_on ?_); (first | ((with_reducible refine g_mv ?_); refine l_p txs rfl rfl ?_) | ((with_reducible refine g_as ?_); refine l_p txs rfl rfl ?_) | ((with_reducible refine g_ex ?_); refine l_p txs rfl rfl ?_))))
    (with_reducible refine is_l ?_); refine l_t txs rfl rfl (fun _ => ?_) (fun h => absurd (by decide) h)
    repeat' (first | (with_reducible first | refine p_tn ?_ | refine p_tr ?_ | refine wp_seq ?_ | refine w_reg ?_) | (with_reducible (refine is_if ?_; (refine w_ift rfl ?_))) | (with_reducible first | refine wp_ret ?_ | refine l_nil ?_) | ((with_reducible refine g_on ?_); (first | ((with_reducible refine g_mv ?_); refine l_p txs rfl rfl ?_) | ((with_reducible refine g_as ?_); refine l_p txs rfl rfl ?_) | ((with_reducible refine g_pk ?_); refine l_p txs rfl rfl ?_) | ((with_reducible refine g_ld ?_); (refine h_ldR recs H 0 rfl rfl rfl rfl rfl ?_)) | ((with_reducible refine g_st ?_); (refine h_stR recs H 1 rfl rfl rfl rfl rfl rfl rfl rfl rfl (fun w_ H => ?_))))) | ((with_reducible refine g_if ?_); (refine l_off rfl ?_)))
    refine end_ct recs H 1 rfl rfl rfl rfl rfl rfl ?_
    exact ⟨by rw [hno]; rfl, H.B⟩
  | some l =>
    obtain ⟨A, c, rfl, K⟩ := hR
    refine ⟨_, rfl, ?_⟩
    have H := H.join K
    have hP : parSum (bl t) = if l.length = 32 then some l else none := hP
    repeat' (first | (with_reducible first | refine p_tn ?_ | refine wp_seq ?_ | refine w_reg ?_ | refine l_nil ?_) | ((with_reducible refine g_on ?_); (first | ((with_reducible refine g_mv ?_); refine l_p txs rfl rfl ?_) | ((with_reducible refine g_as ?_); refine l_p txs rfl rfl ?_) | ((with_reducible refine g_ex ?_); refine l_p txs rfl rfl ?_))))
    (with_reducible refine is_l ?_); refine l_t txs rfl rfl (fun h => absurd rfl h) (fun _ => ?_)
    repeat' (first | ((with_reducible refine g_on ?_); ((with_reducible refine g_mv ?_); refine l_p txs rfl rfl ?_)) | ((with_reducible refine g_if ?_); (first | ((with_reducible refine g_mv ?_); refine l_p txs rfl rfl ?_) | ((with_reducible refine g_cl ?_); refine l_p txs rfl rfl ?_))))
    (with_reducible refine is_l ?_); refine l_t txs rfl rfl (fun h32 => ?_) (fun h32 => ?_)
    · have hno : parSum (bl t) = none := by rw [hP, if_neg (by omega)]
      repeat' (first | (with_reducible first | refine p_tn ?_ | refine p_tr ?_ | refine wp_seq ?_ | refine w_reg ?_) | (with_reducible (refine is_if ?_; (refine w_ift rfl ?_))) | (with_reducible first | refine wp_ret ?_ | refine l_nil ?_) | ((with_reducible refine g_on ?_); (first | ((with_reducible refine g_as ?_); refine l_p txs rfl rfl ?_) | ((with_reducible refine g_pk ?_); refine l_p txs rfl rfl ?_) | ((with_reducible refine g_ld ?_); (refine h_ldR recs H 0 rfl rfl rfl rfl rfl ?_)) | ((with_reducible refine g_st ?_); (refine h_stR recs H 1 rfl rfl rfl rfl rfl rfl rfl rfl rfl (fun w_ H => ?_))))))
      refine end_ct recs H 1 rfl rfl rfl rfl rfl rfl ?_
      exact ⟨by rw [hno]; rfl, H.B⟩
    have h32 : l.length = 32 := by omega
    have hso : parSum (bl t) = some l := by rw [hP, if_pos h32]
    repeat' (first | (with_reducible first | refine p_tn ?_ | refine wp_seq ?_ | refine wp_block ?_ | refine w_reg ?_) | (with_reducible (refine is_if ?_; (refine w_iff rfl ?_))) | (with_reducible first | refine wp_skip ?_ | refine l_nil ?_) | ((with_reducible refine g_on ?_); (first | ((with_reducible refine g_as ?_); refine l_p txs rfl rfl ?_) | ((with_reducible refine g_pk ?_); refine l_p txs rfl rfl ?_))))
    refine w_loop (σ := Nat) (S := fun s => [(2, .pointer (some ⟨g2, 0, none⟩)), (3, .int .i64 0), (4, .pointer (some ⟨g4, 0, none⟩)), (5, .slice A l.length c), (7, .int .i64 (s : Int))])
      (J := fun s w' => Hp w w' [(g4, 22, nums .u8 (l.take s ++ zL.drop s)), (g2, 22, nums .u8 zL)] [rowB (.slice A l.length c) l] ∧ s ≤ 32) (μ := fun s => 32 - s) 0 ⟨rfl, rfl, rfl, rfl, rfl, trivial⟩ ⟨H, by omega⟩ ?_
    clear H
    rintro i f w_ ⟨H, hi⟩
    repeat' (first | (with_reducible first | refine wp_seq ?_ | refine w_reg ?_) | ((with_reducible refine g_on ?_); ((with_reducible refine g_mv ?_); refine l_p txs rfl rfl ?_)))
    (with_reducible refine is_l ?_); refine l_t txs rfl rfl (fun hlt => ?_) (fun hge => ?_)
    · obtain ⟨x, hx⟩ : ∃ x, l[i]? = some x := ⟨_, List.getElem?_eq_getElem (by omega)⟩
      have hRd := byte_row H 0 rfl
      obtain ⟨ad, rfl⟩ := Ref.rd_some' hRd (by omega)
      have hfl := fill_len l h32 i hi
      have hfs := fill_set l h32 hx
      obtain ⟨new, hnew⟩ : ∃ new, new = nums .u8 (l.take (i + 1) ++ zL.drop (i + 1)) := ⟨_, rfl⟩
      rw [← hnew] at hfs
      have hcl : (nums .u8 (l.take i ++ zL.drop i)).length = 32 := by rw [nums_length, hfl]
      generalize nums .u8 (l.take i ++ zL.drop i) = cur at H hfs hcl
      repeat' (first | (with_reducible first | refine p_tn ?_ | refine wp_seq ?_ | refine wp_block ?_ | refine w_reg ?_) | (with_reducible (refine is_if ?_; (refine w_ift rfl ?_))) | (with_reducible first | refine wp_skip ?_ | refine l_nil ?_) | ((with_reducible refine g_on ?_); (first | ((with_reducible refine g_mv ?_); refine l_p txs rfl rfl ?_) | ((with_reducible refine g_ia ?_); refine l_ia txs rfl rfl (by first | omega | assumption | decide) (by first | omega | assumption | decide) ?_))))
      (with_reducible refine is_l ?_); refine l_ld txs rfl rfl (by rw [Int.toNat_natCast]; exact Ref.rd_at hRd hx) ?_
      (with_reducible refine is_l ?_); refine l_iaa Tryz.underlying22 one0_1 rfl rfl rfl (by omega) (by omega) ?_
      (with_reducible refine is_l ?_); refine h_st txs ones H 0 rfl rfl rfl rfl (by rw [Nat.blt_eq, Int.toNat_natCast, hcl]; omega) rfl rfl (nfL_eq _ _) rfl (fun w_ H => ?_)
      rw [Int.toNat_natCast, hfs] at H
      repeat' (first | (with_reducible first | refine p_tn ?_ | refine p_bn ?_ | refine w_reg ?_ | refine l_nil ?_) | ((with_reducible refine g_on ?_); (first | ((with_reducible refine g_mv ?_); refine l_p txs rfl rfl ?_) | ((with_reducible refine g_as ?_); refine l_p txs rfl rfl ?_) | ((with_reducible refine g_bi ?_); (refine l_a txs rfl rfl (by first | exact in_i64 (by omega) (by omega) | exact in_u8 (by omega) (by omega) | exact in_u64 (by omega) (by omega) | exact in_i32 (by omega) (by omega)) ?_)))))
      rw [hnew] at H
      exact ⟨i + 1, _, rfl, ⟨rfl, rfl, rfl, rfl, rfl, trivial⟩, ⟨H, by omega⟩, by omega⟩
    · obtain rfl : i = 32 := by omega
      have hfin : l.take 32 ++ zL.drop 32 = l := by
        rw [List.take_of_length_le (by omega)]
        exact List.append_nil l
      rw [hfin] at H
      repeat' (first | (with_reducible first | refine p_tn ?_ | refine p_tx ?_ | refine x_hit ?_ | refine wp_seq ?_ | refine w_reg ?_) | (with_reducible (refine is_if ?_; (refine w_iff rfl ?_))) | (with_reducible first | refine wp_exit ?_ | refine l_nil ?_))
      (with_reducible refine is_l ?_); refine h_ldR recs H 0 rfl rfl rfl rfl (by rw [nums_length, h32]; rfl) ?_
      (with_reducible refine is_l ?_); refine h_stR recs H 1 rfl rfl rfl rfl rfl (nfL_eq _ _) (by rw [nums_length, h32]; rfl) (nums_one l) rfl (fun w_ H => ?_)
      repeat' (first | (with_reducible first | refine p_tn ?_ | refine wp_ret ?_ | refine l_nil ?_) | ((with_reducible refine g_on ?_); ((with_reducible refine g_as ?_); refine l_p txs rfl rfl ?_)))
      refine end_ct recs H 1 rfl rfl rfl rfl (by rw [nums_length, h32]; rfl) rfl ?_
      exact ⟨by rw [hso]; rfl, H.B⟩
end Go.Proofs.YtnimaenhijlcmaaGreatDoor.K.Rec
end
section
namespace Go.Proofs.YtnimaenhijlcmaaGreatDoor.K.Rec
open Go.RowKit Go.Proofs.YtnimaenhijlcmaaGreatDoor.Q Go.Proofs.YtnimaenhijlcmaaGreatDoor.K Go.Proofs.YtnimaenhijlcmaaGreatDoor.Mb Go.Proofs.YtnimaenhijlcmaaGreatDoorW.PrintWords
set_option linter.unusedVariables false
set_option linter.unusedSimpArgs false
theorem strC_app (x y : List L) : strC (x ++ y) = strC x ++ strC y := by simp [strC]
theorem strC_one (x : List L) : (strC x).all (·.oneCell') = true := by
  unfold strC
  rw [List.all_map, List.all_eq_true]
  intro y _
  rfl
def sixS (s : L) : Option (List L) := match linesS s with
  | none => none
  | some l => match wordsS l.1, wordsS l.2 with
    | some a, some b => some [a.1, a.2.1, a.2.2, b.1, b.2.1, b.2.2]
    | _, _ => none
theorem lines_none {s : L} (h : ∀ x y, splitC 10 s ≠ [x, y, []]) : linesS s = none := by
  unfold linesS
  split
  · rename_i x y hs
    exact absurd hs (h x y)
  · rfl
theorem lines_mk {s x y : L} (h : splitC 10 s = [x, y, []]) : linesS s = some (x, y) := by
  unfold linesS
  rw [h]
theorem words_split {s : L} {a : L × L × L} (h : wordsS s = some a) : splitC 32 s = [a.1, a.2.1, a.2.2] := by
  unfold wordsS at h
  split at h
  · rename_i x y z hs
    split at h
    · cases h
    · cases h; exact hs
  · cases h
def SxR (w : World) (o : Option (List L)) (e : Ending) (w' : World) : Prop := match o with
  | none => ∃ A n c, e = .returned (.tuple #[.slice A n c, .bool false]) ∧ Below w.heap.size w w'
  | some l => ∃ ad c, e = .returned (.tuple #[.slice (some ad) l.length c, .bool true]) ∧ Hp w w' [] [rowT (.slice (some ad) l.length c) l]
theorem sx_none {w w' : World} {o : Option (List L)} {e : Ending} {A : Option Addr} {n c : Nat} (ho : o = none) (he : e = .returned (.tuple #[.slice A n c, .bool false])) (hb : Below w.heap.size w w') : SxR w o e w' := by
  subst ho
  exact ⟨A, n, c, he, hb⟩
theorem sx_some {w w' : World} {o : Option (List L)} {l : List L} {e : Ending} {ad : Addr} {c : Nat} (ho : o = some l) (he : e = .returned (.tuple #[.slice (some ad) l.length c, .bool true])) (H : Hp w w' [] [rowT (.slice (some ad) l.length c) l]) : SxR w o e w' := by
  subst ho
  exact ⟨ad, c, he, H⟩
set_option maxRecDepth 100000 in
set_option maxHeartbeats 16000000 in
theorem six_c (t : ByteArray) (w : World) (ht : t.size ≤ 1024) : Calls Tryz.prog 54 #[.string t] w fun e w' => SxR w (sixS (bl t)) e w' := by
  have hbt := bl_bytes t
  have hlen := bl_length t
  refine enter (args := [.string t]) Tryz.func54 rfl Tryz.ntmps54 rfl ?_
  have H := (Hp.nil w).nilRow 9 1
  have hS : sixS (bl t) = match linesS (bl t) with
    | none => none
    | some l => match wordsS l.1, wordsS l.2 with
      | some a, some b => some [a.1, a.2.1, a.2.2, b.1, b.2.1, b.2.2]
      | _, _ => none := rfl
  have hsm := split_mem 10 (bl t)
  have hln := @lines_none (bl t)
  have hlk := fun (x y : L) => @lines_mk (bl t) x y
  repeat' (first | (with_reducible first | refine p_tn ?_ | refine wp_seq ?_ | refine w_reg ?_ | refine l_nil ?_) | ((with_reducible refine g_on ?_); (first | ((with_reducible refine g_mv ?_); refine l_p txs rfl rfl ?_) | ((with_reducible refine g_as ?_); refine l_p txs rfl rfl ?_))))
  (with_reducible refine is_l ?_); refine l_call rfl rfl (by kernel_rfl) (Ref.pieces_c t 10 _ (by omega)) (fun e w_ hR => ?_)
  generalize splitC 10 (bl t) = N at hR hsm hln hlk
  obtain ⟨A1, c1, rfl, K⟩ := hR
  refine ⟨_, rfl, ?_⟩
  have H := H.join K
  repeat' (first | (with_reducible first | refine p_tn ?_ | refine wp_seq ?_ | refine w_reg ?_ | refine l_nil ?_) | ((with_reducible refine g_on ?_); (first | ((with_reducible refine g_mv ?_); refine l_p txs rfl rfl ?_) | ((with_reducible refine g_as ?_); refine l_p txs rfl rfl ?_) | ((with_reducible refine g_cl ?_); refine l_p txs rfl rfl ?_))))
  (with_reducible refine is_l ?_); refine l_t txs rfl rfl (fun h3 => ?_) (fun h3 => ?_)
  · have hno : sixS (bl t) = none := by
      rw [hS, hln]
      intro x y e
      rw [e] at h3
      exact h3 rfl
    repeat' (first | (with_reducible first | refine p_tn ?_ | refine p_tr ?_ | refine wp_seq ?_ | refine w_reg ?_) | (with_reducible (refine is_if ?_; (refine w_ift rfl ?_))) | (with_reducible first | refine wp_ret ?_ | refine l_nil ?_) | ((with_reducible refine g_on ?_); (first | ((with_reducible refine g_mv ?_); refine l_p txs rfl rfl ?_) | ((with_reducible refine g_as ?_); refine l_p txs rfl rfl ?_) | ((with_reducible refine g_pk ?_); refine l_p txs rfl rfl ?_))) | ((with_reducible refine g_if ?_); (refine l_off rfl ?_)))
    refine end2 rfl rfl rfl ?_
    exact sx_none hno rfl H.B
  obtain ⟨x, y, z, rfl⟩ : ∃ x y z, N = [x, y, z] := by
    match N, h3 with
    | [x, y, z], _ => exact ⟨x, y, z, rfl⟩
    | [], h => exact absurd (show ((0 : Nat) : Int) ≠ 3 by decide) h
    | [a], h => exact absurd (show ((1 : Nat) : Int) ≠ 3 by decide) h
    | [a, b], h => exact absurd (show ((2 : Nat) : Int) ≠ 3 by decide) h
    | _ :: _ :: _ :: _ :: _, h => simp only [List.length_cons] at h; omega
  have hl3 : [x, y, z].length = 3 := rfl
  have hbx : Bytes x := fun c hc => hbt c ((hsm x (by simp)).1 c hc)
  have hby : Bytes y := fun c hc => hbt c ((hsm y (by simp)).1 c hc)
  have hbz : Bytes z := fun c hc => hbt c ((hsm z (by simp)).1 c hc)
  have lx : x.length ≤ 1024 := by have := (hsm x (by simp)).2; omega
  have ly : y.length ≤ 1024 := by have := (hsm y (by simp)).2; omega
  obtain ⟨ad, rfl⟩ := Ref.row_some K 0 rfl (by simp)
  repeat' (first | ((with_reducible refine g_on ?_); ((with_reducible refine g_mv ?_); refine l_p txs rfl rfl ?_)) | ((with_reducible refine g_if ?_); (first | ((with_reducible refine g_mv ?_); refine l_p txs rfl rfl ?_) | ((with_reducible refine g_ia ?_); refine l_ia txs rfl rfl (by first | omega | assumption | decide) (by first | omega | assumption | decide) ?_))))
  (with_reducible refine is_l ?_); refine l_ld txs rfl rfl (rdT_cell (rowT_at H 0 rfl) (i := 2) (y := z) rfl) ?_
  skip
  (with_reducible refine is_l ?_); refine l_t txs rfl rfl (fun h4 => ?_) (fun h4 => ?_)
  · rw [blS hbz] at h4
    have hno : sixS (bl t) = none := by
      rw [hS, hln]
      intro x y e
      injection e with _ e
      injection e with _ e
      injection e with e _
      exact h4 e
    repeat' (first | (with_reducible first | refine p_tn ?_ | refine p_tr ?_ | refine wp_seq ?_ | refine w_reg ?_) | (with_reducible (refine is_if ?_; (refine w_ift rfl ?_))) | (with_reducible first | refine wp_ret ?_ | refine l_nil ?_) | ((with_reducible refine g_on ?_); (first | ((with_reducible refine g_mv ?_); refine l_p txs rfl rfl ?_) | ((with_reducible refine g_as ?_); refine l_p txs rfl rfl ?_) | ((with_reducible refine g_pk ?_); refine l_p txs rfl rfl ?_))))
    refine end2 rfl rfl rfl ?_
    exact sx_none hno rfl H.B
  rw [blS hbz] at h4
  have h4 : z = [] := Classical.not_not.1 h4
  subst h4
  rw [hlk x y rfl] at hS
  have hS : sixS (bl t) = match wordsS x, wordsS y with
      | some a, some b => some [a.1, a.2.1, a.2.2, b.1, b.2.1, b.2.2]
      | _, _ => none := hS
  repeat' (first | (with_reducible first | refine p_tn ?_ | refine wp_seq ?_ | refine wp_block ?_ | refine w_reg ?_) | (with_reducible (refine is_if ?_; (refine w_iff rfl ?_))) | (with_reducible first | refine wp_skip ?_ | refine l_nil ?_) | ((with_reducible refine g_on ?_); (first | ((with_reducible refine g_as ?_); refine l_p txs rfl rfl ?_) | ((with_reducible refine g_pk ?_); refine l_p txs rfl rfl ?_))))
  refine w_loop (σ := Nat × List L × Option Addr × Nat) (S := fun s => [(4, .slice s.2.2.1 s.2.1.length s.2.2.2), (5, .slice (some ad) [x, y, ([] : L)].length c1), (6, .int .i64 (s.1 : Int))])
    (J := fun s w' => Hp w w' [] [rowT (.slice (some ad) [x, y, ([] : L)].length c1) [x, y, []], rowT (.slice s.2.2.1 s.2.1.length s.2.2.2) s.2.1] ∧ s.1 ≤ 2 ∧ (s.1 = 0 ∧ s.2.1 = [] ∨ s.1 = 1 ∧ (∃ a, wordsS x = some a) ∧ s.2.1 = splitC 32 x ∨ s.1 = 2 ∧ (∃ a, wordsS x = some a) ∧ (∃ a, wordsS y = some a) ∧ s.2.1 = splitC 32 x ++ splitC 32 y)) (μ := fun s => 2 - s.1) (0, [], none, 0) ⟨rfl, rfl, rfl, trivial⟩ ⟨H, by omega, .inl ⟨rfl, rfl⟩⟩ ?_
  clear H K
  rintro ⟨i, acc, A2, c2⟩ f w_ ⟨H, hi, hJ⟩
  simp only at H hi hJ ⊢
  repeat' (first | (with_reducible first | refine wp_seq ?_ | refine w_reg ?_) | ((with_reducible refine g_on ?_); ((with_reducible refine g_mv ?_); refine l_p txs rfl rfl ?_)))
  (with_reducible refine is_l ?_); refine l_t txs rfl rfl (fun hlt => ?_) (fun hge => ?_)
  · obtain ⟨v, hv, bv, lv, hvn, hvs, hal⟩ : ∃ v, [x, y, ([] : L)][i]? = some v ∧ Bytes v ∧ v.length ≤ 1024 ∧ (wordsS v = none → sixS (bl t) = none) ∧ ((∃ a, wordsS v = some a) → (i + 1 = 0 ∧ acc ++ splitC 32 v = [] ∨ i + 1 = 1 ∧ (∃ a, wordsS x = some a) ∧ acc ++ splitC 32 v = splitC 32 x ∨ i + 1 = 2 ∧ (∃ a, wordsS x = some a) ∧ (∃ a, wordsS y = some a) ∧ acc ++ splitC 32 v = splitC 32 x ++ splitC 32 y)) ∧ acc.length ≤ 3 := by
      rcases hJ with ⟨rfl, rfl⟩ | ⟨rfl, ha, rfl⟩ | ⟨rfl, _⟩
      · exact ⟨x, rfl, hbx, lx, fun h => by rw [hS, h], fun h => .inr (.inl ⟨rfl, h, rfl⟩), by simp⟩
      · obtain ⟨a, ha⟩ := ha
        exact ⟨y, rfl, hby, ly, fun h => by rw [hS, ha, h], fun h => .inr (.inr ⟨rfl, ⟨a, ha⟩, h, rfl⟩), by rw [words_split ha]; simp⟩
      · omega
    have hV := @words_none v
    have hT := @words_three v
    have hsv := split_mem 32 v
    have hpi := fun w1 => Ref.pieces_c (strOfNums v) 32 w1 (by rw [← bl_length, blS bv]; omega)
    rw [blS bv] at hpi
    repeat' (first | (with_reducible first | refine p_tn ?_ | refine wp_seq ?_ | refine wp_block ?_ | refine w_reg ?_) | (with_reducible (refine is_if ?_; (refine w_ift rfl ?_))) | (with_reducible first | refine wp_skip ?_ | refine l_nil ?_) | ((with_reducible refine g_on ?_); (first | ((with_reducible refine g_mv ?_); refine l_p txs rfl rfl ?_) | ((with_reducible refine g_ia ?_); refine l_ia txs rfl rfl (by first | omega | assumption | decide) (by first | omega | assumption | decide) ?_))))
    (with_reducible refine is_l ?_); refine l_ld txs rfl rfl (by rw [Int.toNat_natCast]; exact rdT_cell (rowT_at H 0 rfl) hv) ?_
    (with_reducible refine is_l ?_); refine l_call rfl rfl (by kernel_rfl) (hpi _) (fun e w_ hR => ?_)
    generalize splitC 32 v = M at hR hV hT hsv hvs
    obtain ⟨A3, c3, rfl, K⟩ := hR
    refine ⟨_, rfl, ?_⟩
    have H := H.join K
    repeat' (first | (with_reducible first | refine p_tn ?_ | refine wp_seq ?_ | refine w_reg ?_ | refine l_nil ?_) | ((with_reducible refine g_on ?_); (first | ((with_reducible refine g_mv ?_); refine l_p txs rfl rfl ?_) | ((with_reducible refine g_as ?_); refine l_p txs rfl rfl ?_) | ((with_reducible refine g_cl ?_); refine l_p txs rfl rfl ?_))))
    (with_reducible refine is_l ?_); refine l_t txs rfl rfl (fun k3 => ?_) (fun k3 => ?_)
    · have hno : sixS (bl t) = none := hvn (hV (by omega))
      repeat' (first | (with_reducible first | refine p_tn ?_ | refine p_tr ?_ | refine p_br ?_ | refine wp_seq ?_ | refine w_reg ?_) | (with_reducible (refine is_if ?_; (refine w_ift rfl ?_))) | (with_reducible first | refine wp_ret ?_ | refine l_nil ?_) | ((with_reducible refine g_on ?_); (first | ((with_reducible refine g_mv ?_); refine l_p txs rfl rfl ?_) | ((with_reducible refine g_as ?_); refine l_p txs rfl rfl ?_) | ((with_reducible refine g_pk ?_); refine l_p txs rfl rfl ?_))) | ((with_reducible refine g_if ?_); (refine l_off rfl ?_)))
      refine end2 rfl rfl rfl ?_
      exact sx_none hno rfl H.B
    obtain ⟨p, q, r, rfl⟩ : ∃ x y z, M = [x, y, z] := by
      match M, k3 with
      | [x, y, z], _ => exact ⟨x, y, z, rfl⟩
      | [], h => exact absurd (show ((0 : Nat) : Int) ≠ 3 by decide) h
      | [a], h => exact absurd (show ((1 : Nat) : Int) ≠ 3 by decide) h
      | [a, b], h => exact absurd (show ((2 : Nat) : Int) ≠ 3 by decide) h
      | _ :: _ :: _ :: _ :: _, h => simp only [List.length_cons] at h; omega
    have hm3 : [p, q, r].length = 3 := rfl
    have hT := hT rfl
    have bp : Bytes p := fun c hc => bv c ((hsv p (by simp)).1 c hc)
    have bq : Bytes q := fun c hc => bv c ((hsv q (by simp)).1 c hc)
    have br : Bytes r := fun c hc => bv c ((hsv r (by simp)).1 c hc)
    obtain ⟨ad3, rfl⟩ := Ref.row_some K 0 rfl (by simp)
    repeat' (first | ((with_reducible refine g_on ?_); ((with_reducible refine g_mv ?_); refine l_p txs rfl rfl ?_)) | ((with_reducible refine g_if ?_); (first | ((with_reducible refine g_mv ?_); refine l_p txs rfl rfl ?_) | ((with_reducible refine g_ia ?_); refine l_ia txs rfl rfl (by first | omega | assumption | decide) (by first | omega | assumption | decide) ?_))))
    (with_reducible refine is_l ?_); refine l_ld txs rfl rfl (rdT_cell (rowT_at H 0 rfl) (i := 0) (y := p) rfl) ?_
    (with_reducible refine is_l ?_); refine l_t txs rfl rfl (fun k4 => ?_) (fun k4 => ?_)
    · rw [blS bp] at k4
      have hno : sixS (bl t) = none := hvn (by rw [hT, if_pos (.inl k4)])
      repeat' (first | (with_reducible first | refine p_tn ?_ | refine p_tr ?_ | refine p_br ?_ | refine wp_seq ?_ | refine w_reg ?_) | (with_reducible (refine is_if ?_; (refine w_ift rfl ?_))) | (with_reducible first | refine wp_ret ?_ | refine l_nil ?_) | ((with_reducible refine g_on ?_); (first | ((with_reducible refine g_mv ?_); refine l_p txs rfl rfl ?_) | ((with_reducible refine g_as ?_); refine l_p txs rfl rfl ?_) | ((with_reducible refine g_pk ?_); refine l_p txs rfl rfl ?_))) | ((with_reducible refine g_if ?_); (refine l_off rfl ?_)))
      refine end2 rfl rfl rfl ?_
      exact sx_none hno rfl H.B
    rw [blS bp] at k4
    repeat' (first | ((with_reducible refine g_on ?_); (first | ((with_reducible refine g_mv ?_); refine l_p txs rfl rfl ?_) | ((with_reducible refine g_pk ?_); refine l_p txs rfl rfl ?_))) | ((with_reducible refine g_if ?_); (first | ((with_reducible refine g_mv ?_); refine l_p txs rfl rfl ?_) | ((with_reducible refine g_ia ?_); refine l_ia txs rfl rfl (by first | omega | assumption | decide) (by first | omega | assumption | decide) ?_))))
    (with_reducible refine is_l ?_); refine l_ld txs rfl rfl (rdT_cell (rowT_at H 0 rfl) (i := 1) (y := q) rfl) ?_
    (with_reducible refine is_l ?_); refine l_t txs rfl rfl (fun k5 => ?_) (fun k5 => ?_)
    · rw [blS bq] at k5
      have hno : sixS (bl t) = none := hvn (by rw [hT, if_pos (.inr (.inl k5))])
      repeat' (first | (with_reducible first | refine p_tn ?_ | refine p_tr ?_ | refine p_br ?_ | refine wp_seq ?_ | refine w_reg ?_) | (with_reducible (refine is_if ?_; (refine w_ift rfl ?_))) | (with_reducible first | refine wp_ret ?_ | refine l_nil ?_) | ((with_reducible refine g_on ?_); (first | ((with_reducible refine g_mv ?_); refine l_p txs rfl rfl ?_) | ((with_reducible refine g_as ?_); refine l_p txs rfl rfl ?_) | ((with_reducible refine g_pk ?_); refine l_p txs rfl rfl ?_))) | ((with_reducible refine g_if ?_); (refine l_off rfl ?_)))
      refine end2 rfl rfl rfl ?_
      exact sx_none hno rfl H.B
    rw [blS bq] at k5
    repeat' (first | ((with_reducible refine g_on ?_); (first | ((with_reducible refine g_mv ?_); refine l_p txs rfl rfl ?_) | ((with_reducible refine g_pk ?_); refine l_p txs rfl rfl ?_))) | ((with_reducible refine g_if ?_); (first | ((with_reducible refine g_mv ?_); refine l_p txs rfl rfl ?_) | ((with_reducible refine g_ia ?_); refine l_ia txs rfl rfl (by first | omega | assumption | decide) (by first | omega | assumption | decide) ?_))))
    (with_reducible refine is_l ?_); refine l_ld txs rfl rfl (rdT_cell (rowT_at H 0 rfl) (i := 2) (y := r) rfl) ?_
    (with_reducible refine is_l ?_); refine l_t txs rfl rfl (fun k6 => ?_) (fun k6 => ?_)
    · rw [blS br] at k6
      have hno : sixS (bl t) = none := hvn (by rw [hT, if_pos (.inr (.inr k6))])
      repeat' (first | (with_reducible first | refine p_tn ?_ | refine p_tr ?_ | refine p_br ?_ | refine wp_seq ?_ | refine w_reg ?_) | (with_reducible (refine is_if ?_; (refine w_ift rfl ?_))) | (with_reducible first | refine wp_ret ?_ | refine l_nil ?_) | ((with_reducible refine g_on ?_); (first | ((with_reducible refine g_mv ?_); refine l_p txs rfl rfl ?_) | ((with_reducible refine g_as ?_); refine l_p txs rfl rfl ?_) | ((with_reducible refine g_pk ?_); refine l_p txs rfl rfl ?_))))
      refine end2 rfl rfl rfl ?_
      exact sx_none hno rfl H.B
    rw [blS br] at k6
    have hvs := hvs ⟨(p, q, r), by
      rw [hT, if_neg]
      rintro (h | h | h)
      · exact k4 h
      · exact k5 h
      · exact k6 h⟩
    have hRs := rowT_at H 0 rfl (x := [p, q, r])
    repeat' (first | (with_reducible first | refine p_tn ?_ | refine w_reg ?_) | (with_reducible (refine is_if ?_; (refine w_iff rfl ?_))) | (with_reducible first | refine wp_skip ?_ | refine l_nil ?_) | ((with_reducible refine g_on ?_); (first | ((with_reducible refine g_mv ?_); refine l_p txs rfl rfl ?_) | ((with_reducible refine g_pk ?_); refine l_p txs rfl rfl ?_))))
    (with_reducible refine is_l ?_); refine h_app H 2 rfl info_str3 Tryz.underlying25 rfl rfl rfl rfl hRs rfl (strC_one _) (by show (acc.length + 3) * 16 ≤ _; omega) (fun v w_ hv H => ?_)
    obtain ⟨A', c', rfl⟩ := hv
    have H := H.pick [] [1, 2] (by decide) (by decide) rfl rfl
    have hal2 : (acc ++ [p, q, r]).length = acc.length + 3 := by rw [List.length_append]; rfl
    have H : Hp w w_ [] [rowT (.slice (some ad) [x, y, ([] : L)].length c1) [x, y, []], rowT (.slice A' (acc ++ [p, q, r]).length c') (acc ++ [p, q, r])] := by
      unfold rowT
      rw [hal2, strC_app]
      exact H
    repeat' (first | (with_reducible first | refine p_tn ?_ | refine p_bn ?_ | refine w_reg ?_ | refine l_nil ?_) | ((with_reducible refine g_on ?_); (first | ((with_reducible refine g_mv ?_); refine l_p txs rfl rfl ?_) | ((with_reducible refine g_as ?_); refine l_p txs rfl rfl ?_) | ((with_reducible refine g_bi ?_); (refine l_a txs rfl rfl (by first | exact in_i64 (by omega) (by omega) | exact in_u8 (by omega) (by omega) | exact in_u64 (by omega) (by omega) | exact in_i32 (by omega) (by omega)) ?_)))))
    exact ⟨(i + 1, acc ++ [p, q, r], A', c'), _, rfl, ⟨by show _ = Value.slice A' (acc ++ [p, q, r]).length c'; rw [hal2]; rfl, rfl, rfl, trivial⟩, ⟨H, by show i + 1 ≤ 2; omega, hvs⟩, by show 2 - (i + 1) < 2 - i; omega⟩
  · rcases hJ with ⟨rfl, _⟩ | ⟨rfl, _⟩ | ⟨rfl, ⟨a, ha⟩, ⟨b, hb⟩, rfl⟩
    · omega
    · omega
    have hso : sixS (bl t) = some [a.1, a.2.1, a.2.2, b.1, b.2.1, b.2.2] := by rw [hS, ha, hb]
    rw [words_split ha, words_split hb] at H ⊢
    have H : Hp w w_ [] [rowT (.slice (some ad) [x, y, ([] : L)].length c1) [x, y, []], rowT (.slice A2 [a.1, a.2.1, a.2.2, b.1, b.2.1, b.2.2].length c2) [a.1, a.2.1, a.2.2, b.1, b.2.1, b.2.2]] := H
    obtain ⟨ad2, rfl⟩ := Ref.row_some H 1 rfl (by simp)
    repeat' (first | (with_reducible first | refine p_tn ?_ | refine p_tx ?_ | refine x_hit ?_ | refine wp_seq ?_ | refine w_reg ?_) | (with_reducible (refine is_if ?_; (refine w_iff rfl ?_))) | (with_reducible first | refine wp_exit ?_ | refine wp_ret ?_ | refine l_nil ?_) | ((with_reducible refine g_on ?_); (first | ((with_reducible refine g_mv ?_); refine l_p txs rfl rfl ?_) | ((with_reducible refine g_as ?_); refine l_p txs rfl rfl ?_))))
    refine end2 rfl rfl rfl ?_
    exact sx_some hso rfl (H.pick [] [1] (by decide) (by decide) rfl rfl)
end Go.Proofs.YtnimaenhijlcmaaGreatDoor.K.Rec
end
section
namespace Go.Proofs.YtnimaenhijlcmaaGreatDoor.K.Rec
open Go.RowKit Go.Proofs.YtnimaenhijlcmaaGreatDoor.Q Go.Proofs.YtnimaenhijlcmaaGreatDoor.K Go.Proofs.YtnimaenhijlcmaaGreatDoor.Mb Go.Proofs.YtnimaenhijlcmaaGreatDoorW.PrintWords
set_option linter.unusedVariables false
set_option linter.unusedSimpArgs false
theorem parRec_six (s : L) : parRec s = if 1024 < s.length then .no 115 else match sixS s with
    | some [a0, a1, a2, b0, b1, b2] => recG (a0, a1, a2) (b0, b1, b2)
    | _ => .no 115 := by
  unfold parRec sixS
  split
  · rfl
  cases hl : linesS s with
  | none => rfl
  | some l =>
    simp only
    unfold recW
    cases wordsS l.1 with
    | none => cases wordsS l.2 <;> rfl
    | some a =>
      cases wordsS l.2 with
      | none => rfl
      | some b => rfl
theorem six_form {s : L} {l : List L} (h : sixS s = some l) : ∃ a0 a1 a2 b0 b1 b2, l = [a0, a1, a2, b0, b1, b2] := by
  unfold sixS at h
  split at h
  · cases h
  split at h
  · cases h; exact ⟨_, _, _, _, _, _, rfl⟩
  · cases h
theorem six_sub {s : L} {l : List L} (h : sixS s = some l) : ∀ x ∈ l, (∀ y ∈ x, y ∈ s) ∧ x.length ≤ s.length := by
  unfold sixS at h
  split at h
  · cases h
  rename_i q hq
  have hs := linesS_some hq
  split at h
  · rename_i a b ha hb
    cases h
    obtain ⟨ea, _⟩ := wordsS_some (x := a.1) (y := a.2.1) (z := a.2.2) ha
    obtain ⟨eb, _⟩ := wordsS_some (x := b.1) (y := b.2.1) (z := b.2.2) hb
    intro x hx
    rw [hs, ea, eb]
    simp only [List.mem_cons, List.not_mem_nil, or_false] at hx
    simp only [List.mem_append, List.mem_cons, List.length_append, List.length_cons]
    rcases hx with rfl | rfl | rfl | rfl | rfl | rfl <;> exact ⟨fun y hy => by simp [hy], by omega⟩
  · cases h
set_option maxRecDepth 100000 in
set_option maxHeartbeats 16000000 in
theorem ParseRecord_r {w : World} {t2 : TypeId} {fr : Nat × Nat} (hD : w.heap[3]? = some (.cells deC t2 fr)) (t : ByteArray) :
    Calls Tryz.prog 29 #[.string t] w fun e w' => e = .returned (.tuple #[.string (rcP (parRec (bl t))), .string (rcV (parRec (bl t))), .agg (nums .u8 (rcA (parRec (bl t)))).toArray, .agg (nums .u8 (rcB (parRec (bl t)))).toArray, .int .i64 (rcE (parRec (bl t)))]) ∧ Below w.heap.size w w' := by
  have hlen := bl_length t
  have hbt := bl_bytes t
  refine enter (args := [.string t]) Tryz.func29 rfl Tryz.ntmps29 rfl ?_
  have H := Hp.nil w
  have hV := parRec_six (bl t)
  repeat' (with_reducible first | refine wp_seq ?_ | refine w_reg ?_)
  refine g_on ?_; ((with_reducible refine g_as ?_); refine l_p txs rfl rfl ?_)
  refine g_on ?_; ((with_reducible refine g_as ?_); refine l_p txs rfl rfl ?_)
  (with_reducible refine is_l ?_); refine h_alloc recs H rfl rfl (fun g4 w_ H => ?_)
  (with_reducible refine is_l ?_); refine h_alloc recs H rfl rfl (fun g5 w_ H => ?_)
  refine g_on ?_; ((with_reducible refine g_as ?_); refine l_p txs rfl rfl ?_)
  with_reducible refine l_nil ?_
  repeat' (with_reducible first | refine p_tn ?_ | refine wp_seq ?_ | refine w_reg ?_)
  (with_reducible refine is_l ?_); refine h_alloc recs H rfl rfl (fun g7 w_ H => ?_)
  have H : Hp w w_ [(g7, 22, nums .u8 zL), (g5, 22, nums .u8 zL), (g4, 22, nums .u8 zL)] [] := H
  repeat' (first | (with_reducible first | refine p_tn ?_ | refine wp_seq ?_ | refine w_reg ?_ | refine l_nil ?_) | ((with_reducible refine g_on ?_); (first | ((with_reducible refine g_mv ?_); refine l_p txs rfl rfl ?_) | ((with_reducible refine g_cl ?_); refine l_p txs rfl rfl ?_))))
  (with_reducible refine is_l ?_); refine l_t txs rfl rfl (fun hbig => ?_) (fun hsm => ?_)
  · have hno : parRec (bl t) = .no 115 := by rw [hV, if_pos (by omega)]
    repeat' (first | (with_reducible first | refine p_tn ?_ | refine wp_seq ?_) | (with_reducible (refine is_if ?_; (refine w_ift rfl ?_))) | (with_reducible refine l_nil ?_))
    have HS := H.pick [0] [] (by decide) (by decide) rfl rfl
    refine d_start (fun w_ => HpS _ w w_ _ _) #[false, false, false, false, false, false, false] (by kernel_rfl) rfl rfl HS.drew ?_
    have H := H.drew
    have HS := HS.drew
    first | (refine d_take (i := 0) #[true, false, false, false, false, false, false] rfl (by kernel_rfl) (fun _ _ _ h => h) rfl (fun w_ K => evLR_run (o := ⟨_, _, _, _, _, _⟩) recs rfl rfl (K.range 0 rfl) rfl) HS ?_)
    first | (refine d_take (i := 1) #[true, true, false, false, false, false, false] rfl (by kernel_rfl) (fun _ _ _ h => h) rfl (fun w_ K => evLR_run (o := ⟨_, _, _, _, _, _⟩) recs rfl rfl (K.range 0 rfl) rfl) HS ?_)
    first | (refine d_pure (i := 2) #[true, true, true, false, false, false, false] rfl (by kernel_rfl) (fun _ _ _ h => h) rfl (fun w_ => evP_run (o := ⟨_, _, _, _, _, _⟩) txs rfl) ?_)
    first | (refine d_pure (i := 3) #[true, true, true, true, false, false, false] rfl (by kernel_rfl) (fun _ _ _ h => h) rfl (fun w_ => evP_run (o := ⟨_, _, _, _, _, _⟩) txs rfl) ?_)
    refine d_one (i := 4) #[true, true, true, true, true, false, false] rfl (by kernel_rfl) rfl ?_
    refine g_on ?_; ((with_reducible refine g_st ?_); (refine h_stR recs H 2 rfl rfl rfl rfl rfl rfl rfl rfl rfl (fun w_ H => ?_)))
    refine l_nil ?_
    have HS := H.pick [0] [] (by decide) (by decide) rfl rfl
    refine ⟨rfl, HS, ?_⟩
    refine d_one (i := 5) #[true, true, true, true, true, true, false] rfl (by kernel_rfl) rfl ?_
    refine g_on ?_; ((with_reducible refine g_st ?_); (refine h_stR recs H 1 rfl rfl rfl rfl rfl rfl rfl rfl rfl (fun w_ H => ?_)))
    refine l_nil ?_
    have HS := H.pick [0] [] (by decide) (by decide) rfl rfl
    refine ⟨rfl, HS, ?_⟩
    first | (refine d_pure (i := 6) #[true, true, true, true, true, true, true] rfl (by kernel_rfl) (fun _ _ _ h => h) rfl (fun w_ => evP_run (o := ⟨_, _, _, _, _, _⟩) txs rfl) ?_)
    refine d_done rfl ?_
    repeat' (with_reducible first | refine p_tn ?_ | refine p_tr ?_ | refine wp_ret ?_)
    refine end_ttcct recs H 2 1 rfl rfl rfl rfl rfl rfl rfl rfl rfl rfl rfl rfl ?_
    exact ⟨by rw [hno]; rfl, H.B⟩
  rw [if_neg (by omega)] at hV
  have hfo := fun (l : List L) => @six_form (bl t) l
  have hsu := fun (l : List L) => @six_sub (bl t) l
  repeat' (first | (with_reducible first | refine p_tn ?_ | refine wp_seq ?_ | refine w_reg ?_) | (with_reducible (refine is_if ?_; (refine w_iff rfl ?_))) | (with_reducible first | refine wp_skip ?_ | refine l_nil ?_) | ((with_reducible refine g_on ?_); ((with_reducible refine g_mv ?_); refine l_p txs rfl rfl ?_)))
  (with_reducible refine is_l ?_); refine l_call rfl rfl (by kernel_rfl) (six_c t _ (by omega)) (fun e w_ hR => ?_)
  unfold SxR at hR
  cases ho : sixS (bl t) with
  | none =>
    rw [ho] at hR hV
    obtain ⟨A, n, c, rfl, K⟩ := hR
    refine ⟨_, rfl, ?_⟩
    have H := H.call K
    have hno : parRec (bl t) = .no 115 := hV
    repeat' (first | (with_reducible first | refine p_tn ?_ | refine wp_seq ?_ | refine l_nil ?_) | ((with_reducible refine g_on ?_); (first | ((with_reducible refine g_mv ?_); refine l_p txs rfl rfl ?_) | ((with_reducible refine g_as ?_); refine l_p txs rfl rfl ?_) | ((with_reducible refine g_ex ?_); refine l_p txs rfl rfl ?_))))
    refine w_draw (C := fun w' => Hp w w' [(g7, 22, nums .u8 zL), (g5, 22, nums .u8 zL), (g4, 22, nums .u8 zL)] []) (by kernel_rfl) (by kernel_rfl) H.drew ?_
    repeat' (first | (with_reducible refine q_nil ?_) | ((with_reducible refine is_q ?_); first | (refine q_off rfl ?_) | (refine q_p txs rfl rfl ?_) | (refine q_a txs rfl rfl (by first | exact in_i64 (by omega) (by omega) | exact in_u8 (by omega) (by omega) | exact in_u64 (by omega) (by omega) | exact in_i32 (by omega) (by omega)) ?_)))
    clear H
    intro w_ H
    repeat' (first | (with_reducible first | refine p_tn ?_ | refine wp_seq ?_) | (with_reducible (refine is_if ?_; (refine w_ift rfl ?_))))
    have HS := H.pick [0] [] (by decide) (by decide) rfl rfl
    refine d_start (fun w_ => HpS _ w w_ _ _) #[false, false, false, false, false, false, false] (by kernel_rfl) rfl rfl HS.drew ?_
    have H := H.drew
    have HS := HS.drew
    first | (refine d_take (i := 0) #[true, false, false, false, false, false, false] rfl (by kernel_rfl) (fun _ _ _ h => h) rfl (fun w_ K => evLR_run (o := ⟨_, _, _, _, _, _⟩) recs rfl rfl (K.range 0 rfl) rfl) HS ?_)
    first | (refine d_take (i := 1) #[true, true, false, false, false, false, false] rfl (by kernel_rfl) (fun _ _ _ h => h) rfl (fun w_ K => evLR_run (o := ⟨_, _, _, _, _, _⟩) recs rfl rfl (K.range 0 rfl) rfl) HS ?_)
    first | (refine d_pure (i := 2) #[true, true, true, false, false, false, false] rfl (by kernel_rfl) (fun _ _ _ h => h) rfl (fun w_ => evP_run (o := ⟨_, _, _, _, _, _⟩) txs rfl) ?_)
    first | (refine d_pure (i := 3) #[true, true, true, true, false, false, false] rfl (by kernel_rfl) (fun _ _ _ h => h) rfl (fun w_ => evP_run (o := ⟨_, _, _, _, _, _⟩) txs rfl) ?_)
    refine d_one (i := 4) #[true, true, true, true, true, false, false] rfl (by kernel_rfl) rfl ?_
    refine g_on ?_; ((with_reducible refine g_st ?_); (refine h_stR recs H 2 rfl rfl rfl rfl rfl rfl rfl rfl rfl (fun w_ H => ?_)))
    refine l_nil ?_
    have HS := H.pick [0] [] (by decide) (by decide) rfl rfl
    refine ⟨rfl, HS, ?_⟩
    refine d_one (i := 5) #[true, true, true, true, true, true, false] rfl (by kernel_rfl) rfl ?_
    refine g_on ?_; ((with_reducible refine g_st ?_); (refine h_stR recs H 1 rfl rfl rfl rfl rfl rfl rfl rfl rfl (fun w_ H => ?_)))
    refine l_nil ?_
    have HS := H.pick [0] [] (by decide) (by decide) rfl rfl
    refine ⟨rfl, HS, ?_⟩
    first | (refine d_pure (i := 6) #[true, true, true, true, true, true, true] rfl (by kernel_rfl) (fun _ _ _ h => h) rfl (fun w_ => evP_run (o := ⟨_, _, _, _, _, _⟩) txs rfl) ?_)
    refine d_done rfl ?_
    repeat' (with_reducible first | refine p_tn ?_ | refine p_tr ?_ | refine wp_ret ?_)
    refine end_ttcct recs H 2 1 rfl rfl rfl rfl rfl rfl rfl rfl rfl rfl rfl rfl ?_
    exact ⟨by rw [hno]; rfl, H.B⟩
  | some l =>
    rw [ho] at hR hV
    obtain ⟨a0, a1, a2, b0, b1, b2, rfl⟩ := hfo l ho
    have hsu := hsu _ ho
    have hV : parRec (bl t) = recG (a0, a1, a2) (b0, b1, b2) := hV
    have hV : parRec (bl t) = if a0 ≠ b0 ∨ b1 ≠ a1 ++ modS then .no 115 else if checkS a0 a1 ≠ 0 then .no (checkS a0 a1) else match parSum a2 with | none => .no 114 | some a => match parSum b2 with | none => .no 114 | some b => .is a0 a1 a b := hV
    obtain ⟨ad, c, rfl, K⟩ := hR
    refine ⟨_, rfl, ?_⟩
    have H := H.join K
    have H : Hp w w_ [(g7, 22, nums .u8 zL), (g5, 22, nums .u8 zL), (g4, 22, nums .u8 zL)] [rowT (.slice (some ad) [a0, a1, a2, b0, b1, b2].length c) [a0, a1, a2, b0, b1, b2]] := H
    have hl6 : [a0, a1, a2, b0, b1, b2].length = 6 := rfl
    have ba0 : Bytes a0 := fun c hc => hbt c ((hsu a0 (by simp)).1 c hc)
    have ba1 : Bytes a1 := fun c hc => hbt c ((hsu a1 (by simp)).1 c hc)
    have ba2 : Bytes a2 := fun c hc => hbt c ((hsu a2 (by simp)).1 c hc)
    have bb0 : Bytes b0 := fun c hc => hbt c ((hsu b0 (by simp)).1 c hc)
    have bb1 : Bytes b1 := fun c hc => hbt c ((hsu b1 (by simp)).1 c hc)
    have bb2 : Bytes b2 := fun c hc => hbt c ((hsu b2 (by simp)).1 c hc)
    have la1 : (strOfNums a1).size ≤ 1024 := by rw [← bl_length, blS ba1]; have := (hsu a1 (by simp)).2; omega
    have la2 : (strOfNums a2).size ≤ 1024 := by rw [← bl_length, blS ba2]; have := (hsu a2 (by simp)).2; omega
    have lb2 : (strOfNums b2).size ≤ 1024 := by rw [← bl_length, blS bb2]; have := (hsu b2 (by simp)).2; omega
    have z7 : (⟨#[47, 103, 111, 46, 109, 111, 100]⟩ : ByteArray).size = 7 := rfl
    have e7 : bl (⟨#[47, 103, 111, 46, 109, 111, 100]⟩ : ByteArray) = modS := rfl
    have hq1 : (bl (strOfNums a0) ≠ bl (strOfNums b0)) = (a0 ≠ b0) := by rw [blS ba0, blS bb0]
    have hq2 : (bl (strOfNums a1 ++ ⟨#[47, 103, 111, 46, 109, 111, 100]⟩) ≠ bl (strOfNums b1)) = (a1 ++ modS ≠ b1) := by rw [bl_cat, blS ba1, blS bb1, e7]
    clear hsu hfo ho
    repeat' (first | (with_reducible first | refine p_tn ?_ | refine wp_seq ?_ | refine l_nil ?_) | ((with_reducible refine g_on ?_); (first | ((with_reducible refine g_mv ?_); refine l_p txs rfl rfl ?_) | ((with_reducible refine g_as ?_); refine l_p txs rfl rfl ?_) | ((with_reducible refine g_ex ?_); refine l_p txs rfl rfl ?_))))
    refine w_draw (C := fun w' => Hp w w' [(g7, 22, nums .u8 zL), (g5, 22, nums .u8 zL), (g4, 22, nums .u8 zL)] [rowT (.slice (some ad) [a0, a1, a2, b0, b1, b2].length c) [a0, a1, a2, b0, b1, b2]]) (by kernel_rfl) (by kernel_rfl) H.drew ?_
    repeat' (first | (with_reducible refine q_nil ?_) | ((with_reducible refine is_q ?_); first | (refine q_off rfl ?_) | (refine q_p txs rfl rfl ?_) | (refine q_a txs rfl rfl (by first | exact in_i64 (by omega) (by omega) | exact in_u8 (by omega) (by omega) | exact in_u64 (by omega) (by omega) | exact in_i32 (by omega) (by omega)) ?_)))
    refine q_ia txs rfl rfl (by decide) (by rw [hl6]; decide) ?_
    refine q_ld txs rfl rfl (fun w' K => rdT_cell (rowT_at K 0 rfl) (i := 0) (y := a0) rfl) ?_
    repeat' (first | (with_reducible refine q_nil ?_) | ((with_reducible refine is_q ?_); first | (refine q_off rfl ?_) | (refine q_p txs rfl rfl ?_) | (refine q_a txs rfl rfl (by first | exact in_i64 (by omega) (by omega) | exact in_u8 (by omega) (by omega) | exact in_u64 (by omega) (by omega) | exact in_i32 (by omega) (by omega)) ?_)))
    refine q_ia txs rfl rfl (by decide) (by rw [hl6]; decide) ?_
    refine q_ld txs rfl rfl (fun w' K => rdT_cell (rowT_at K 0 rfl) (i := 3) (y := b0) rfl) ?_
    by_cases h2 : a0 ≠ b0
    · refine q_val rfl (fun w' K => evT_yes (o := ⟨_, _, _, _, _, _⟩) txs rfl (by show bl (strOfNums a0) ≠ bl (strOfNums b0); rw [hq1]; exact h2)) ?_
      have hno : parRec (bl t) = .no 115 := by rw [hV, if_pos (.inl h2)]
      repeat' (first | (with_reducible refine q_nil ?_) | ((with_reducible refine is_q ?_); first | (refine q_off rfl ?_) | (refine q_p txs rfl rfl ?_) | (refine q_a txs rfl rfl (by first | exact in_i64 (by omega) (by omega) | exact in_u8 (by omega) (by omega) | exact in_u64 (by omega) (by omega) | exact in_i32 (by omega) (by omega)) ?_)))
      clear H
      intro w_ H
      repeat' (first | (with_reducible first | refine p_tn ?_ | refine wp_seq ?_) | (with_reducible (refine is_if ?_; (refine w_ift rfl ?_))))
      have HS := H.pick [0] [0] (by decide) (by decide) rfl rfl
      refine d_start (fun w_ => HpS _ w w_ _ _) #[false, false, false, false, false, false, false] (by kernel_rfl) rfl rfl HS.drew ?_
      have H := H.drew
      have HS := HS.drew
      first | (refine d_take (i := 0) #[true, false, false, false, false, false, false] rfl (by kernel_rfl) (fun _ _ _ h => h) rfl (fun w_ K => evLR_run (o := ⟨_, _, _, _, _, _⟩) recs rfl rfl (K.range 0 rfl) rfl) HS ?_)
      first | (refine d_take (i := 1) #[true, true, false, false, false, false, false] rfl (by kernel_rfl) (fun _ _ _ h => h) rfl (fun w_ K => evLR_run (o := ⟨_, _, _, _, _, _⟩) recs rfl rfl (K.range 0 rfl) rfl) HS ?_)
      first | (refine d_pure (i := 2) #[true, true, true, false, false, false, false] rfl (by kernel_rfl) (fun _ _ _ h => h) rfl (fun w_ => evP_run (o := ⟨_, _, _, _, _, _⟩) txs rfl) ?_)
      first | (refine d_pure (i := 3) #[true, true, true, true, false, false, false] rfl (by kernel_rfl) (fun _ _ _ h => h) rfl (fun w_ => evP_run (o := ⟨_, _, _, _, _, _⟩) txs rfl) ?_)
      refine d_one (i := 4) #[true, true, true, true, true, false, false] rfl (by kernel_rfl) rfl ?_
      refine g_on ?_; ((with_reducible refine g_st ?_); (refine h_stR recs H 2 rfl rfl rfl rfl rfl rfl rfl rfl rfl (fun w_ H => ?_)))
      refine l_nil ?_
      have HS := H.pick [0] [0] (by decide) (by decide) rfl rfl
      refine ⟨rfl, HS, ?_⟩
      refine d_one (i := 5) #[true, true, true, true, true, true, false] rfl (by kernel_rfl) rfl ?_
      refine g_on ?_; ((with_reducible refine g_st ?_); (refine h_stR recs H 1 rfl rfl rfl rfl rfl rfl rfl rfl rfl (fun w_ H => ?_)))
      refine l_nil ?_
      have HS := H.pick [0] [0] (by decide) (by decide) rfl rfl
      refine ⟨rfl, HS, ?_⟩
      first | (refine d_pure (i := 6) #[true, true, true, true, true, true, true] rfl (by kernel_rfl) (fun _ _ _ h => h) rfl (fun w_ => evP_run (o := ⟨_, _, _, _, _, _⟩) txs rfl) ?_)
      refine d_done rfl ?_
      repeat' (with_reducible first | refine p_tn ?_ | refine p_tr ?_ | refine wp_ret ?_)
      refine end_ttcct recs H 2 1 rfl rfl rfl rfl rfl rfl rfl rfl rfl rfl rfl rfl ?_
      exact ⟨by rw [hno]; rfl, H.B⟩
    refine q_val rfl (fun w' K => evT_no (o := ⟨_, _, _, _, _, _⟩) txs rfl (by show ¬ bl (strOfNums a0) ≠ bl (strOfNums b0); rw [hq1]; exact h2)) ?_
    repeat' (first | (with_reducible refine q_nil ?_) | ((with_reducible refine is_q ?_); first | (refine q_off rfl ?_) | (refine q_p txs rfl rfl ?_) | (refine q_a txs rfl rfl (by first | exact in_i64 (by omega) (by omega) | exact in_u8 (by omega) (by omega) | exact in_u64 (by omega) (by omega) | exact in_i32 (by omega) (by omega)) ?_)))
    refine q_ia txs rfl rfl (by decide) (by rw [hl6]; decide) ?_
    refine q_ld txs rfl rfl (fun w' K => rdT_cell (rowT_at K 0 rfl) (i := 1) (y := a1) rfl) ?_
    refine q_cat rfl rfl (by omega) ?_
    repeat' (first | (with_reducible refine q_nil ?_) | ((with_reducible refine is_q ?_); first | (refine q_off rfl ?_) | (refine q_p txs rfl rfl ?_) | (refine q_a txs rfl rfl (by first | exact in_i64 (by omega) (by omega) | exact in_u8 (by omega) (by omega) | exact in_u64 (by omega) (by omega) | exact in_i32 (by omega) (by omega)) ?_)))
    refine q_ia txs rfl rfl (by decide) (by rw [hl6]; decide) ?_
    refine q_ld txs rfl rfl (fun w' K => rdT_cell (rowT_at K 0 rfl) (i := 4) (y := b1) rfl) ?_
    by_cases h3 : a1 ++ modS ≠ b1
    · refine q_val rfl (fun w' K => evT_yes (o := ⟨_, _, _, _, _, _⟩) txs rfl (by show bl (strOfNums a1 ++ ⟨#[47, 103, 111, 46, 109, 111, 100]⟩) ≠ bl (strOfNums b1); rw [hq2]; exact h3)) ?_
      have hno : parRec (bl t) = .no 115 := by rw [hV, if_pos (.inr (fun e => h3 e.symm))]
      repeat' (first | (with_reducible refine q_nil ?_) | ((with_reducible refine is_q ?_); first | (refine q_off rfl ?_) | (refine q_p txs rfl rfl ?_) | (refine q_a txs rfl rfl (by first | exact in_i64 (by omega) (by omega) | exact in_u8 (by omega) (by omega) | exact in_u64 (by omega) (by omega) | exact in_i32 (by omega) (by omega)) ?_)))
      clear H
      intro w_ H
      repeat' (first | (with_reducible first | refine p_tn ?_ | refine wp_seq ?_) | (with_reducible (refine is_if ?_; (refine w_ift rfl ?_))))
      have HS := H.pick [0] [0] (by decide) (by decide) rfl rfl
      refine d_start (fun w_ => HpS _ w w_ _ _) #[false, false, false, false, false, false, false] (by kernel_rfl) rfl rfl HS.drew ?_
      have H := H.drew
      have HS := HS.drew
      first | (refine d_take (i := 0) #[true, false, false, false, false, false, false] rfl (by kernel_rfl) (fun _ _ _ h => h) rfl (fun w_ K => evLR_run (o := ⟨_, _, _, _, _, _⟩) recs rfl rfl (K.range 0 rfl) rfl) HS ?_)
      first | (refine d_take (i := 1) #[true, true, false, false, false, false, false] rfl (by kernel_rfl) (fun _ _ _ h => h) rfl (fun w_ K => evLR_run (o := ⟨_, _, _, _, _, _⟩) recs rfl rfl (K.range 0 rfl) rfl) HS ?_)
      first | (refine d_pure (i := 2) #[true, true, true, false, false, false, false] rfl (by kernel_rfl) (fun _ _ _ h => h) rfl (fun w_ => evP_run (o := ⟨_, _, _, _, _, _⟩) txs rfl) ?_)
      first | (refine d_pure (i := 3) #[true, true, true, true, false, false, false] rfl (by kernel_rfl) (fun _ _ _ h => h) rfl (fun w_ => evP_run (o := ⟨_, _, _, _, _, _⟩) txs rfl) ?_)
      refine d_one (i := 4) #[true, true, true, true, true, false, false] rfl (by kernel_rfl) rfl ?_
      refine g_on ?_; ((with_reducible refine g_st ?_); (refine h_stR recs H 2 rfl rfl rfl rfl rfl rfl rfl rfl rfl (fun w_ H => ?_)))
      refine l_nil ?_
      have HS := H.pick [0] [0] (by decide) (by decide) rfl rfl
      refine ⟨rfl, HS, ?_⟩
      refine d_one (i := 5) #[true, true, true, true, true, true, false] rfl (by kernel_rfl) rfl ?_
      refine g_on ?_; ((with_reducible refine g_st ?_); (refine h_stR recs H 1 rfl rfl rfl rfl rfl rfl rfl rfl rfl (fun w_ H => ?_)))
      refine l_nil ?_
      have HS := H.pick [0] [0] (by decide) (by decide) rfl rfl
      refine ⟨rfl, HS, ?_⟩
      first | (refine d_pure (i := 6) #[true, true, true, true, true, true, true] rfl (by kernel_rfl) (fun _ _ _ h => h) rfl (fun w_ => evP_run (o := ⟨_, _, _, _, _, _⟩) txs rfl) ?_)
      refine d_done rfl ?_
      repeat' (with_reducible first | refine p_tn ?_ | refine p_tr ?_ | refine wp_ret ?_)
      refine end_ttcct recs H 2 1 rfl rfl rfl rfl rfl rfl rfl rfl rfl rfl rfl rfl ?_
      exact ⟨by rw [hno]; rfl, H.B⟩
    refine q_val rfl (fun w' K => evT_no (o := ⟨_, _, _, _, _, _⟩) txs rfl (by show ¬ bl (strOfNums a1 ++ ⟨#[47, 103, 111, 46, 109, 111, 100]⟩) ≠ bl (strOfNums b1); rw [hq2]; exact h3)) ?_
    repeat' (first | (with_reducible refine q_nil ?_) | ((with_reducible refine is_q ?_); first | (refine q_off rfl ?_) | (refine q_p txs rfl rfl ?_) | (refine q_a txs rfl rfl (by first | exact in_i64 (by omega) (by omega) | exact in_u8 (by omega) (by omega) | exact in_u64 (by omega) (by omega) | exact in_i32 (by omega) (by omega)) ?_)))
    clear H
    intro w_ H
    rw [if_neg (by rintro (h | h); exact h2 h; exact h3 (fun e => h e.symm))] at hV
    have hch := fun (w1 : World) (h1 : w1.heap[3]? = some (.cells deC t2 fr)) => Ref.Fits_c h1 (strOfNums a0) (strOfNums a1)
    rw [blS ba0, blS ba1] at hch
    generalize checkS a0 a1 = j at hV hch
    repeat' (first | (with_reducible first | refine p_tn ?_ | refine wp_seq ?_) | (with_reducible (refine is_if ?_; (refine w_iff rfl ?_))) | (with_reducible refine wp_skip ?_))
    refine w_draw (C := fun w' => Hp w w' [(g7, 22, nums .u8 zL), (g5, 22, nums .u8 zL), (g4, 22, nums .u8 zL)] [rowT (.slice (some ad) [a0, a1, a2, b0, b1, b2].length c) [a0, a1, a2, b0, b1, b2]]) (by kernel_rfl) (by kernel_rfl) H.drew ?_
    repeat' (first | (with_reducible refine q_nil ?_) | ((with_reducible refine is_q ?_); first | (refine q_off rfl ?_) | (refine q_p txs rfl rfl ?_) | (refine q_a txs rfl rfl (by first | exact in_i64 (by omega) (by omega) | exact in_u8 (by omega) (by omega) | exact in_u64 (by omega) (by omega) | exact in_i32 (by omega) (by omega)) ?_)))
    refine q_ia txs rfl rfl (by decide) (by rw [hl6]; decide) ?_
    refine q_ld txs rfl rfl (fun w' K => rdT_cell (rowT_at K 0 rfl) (i := 0) (y := a0) rfl) ?_
    repeat' (first | (with_reducible refine q_nil ?_) | ((with_reducible refine is_q ?_); first | (refine q_off rfl ?_) | (refine q_p txs rfl rfl ?_) | (refine q_a txs rfl rfl (by first | exact in_i64 (by omega) (by omega) | exact in_u8 (by omega) (by omega) | exact in_u64 (by omega) (by omega) | exact in_i32 (by omega) (by omega)) ?_)))
    refine q_ia txs rfl rfl (by decide) (by rw [hl6]; decide) ?_
    refine q_ld txs rfl rfl (fun w' K => rdT_cell (rowT_at K 0 rfl) (i := 1) (y := a1) rfl) ?_
    refine q_call rfl rfl (by kernel_rfl) (fun w1 K => (hch w1 ((K.B.block _ (blk_lt hD)).trans hD)).mono fun e w2 h => ⟨h.1, K.call h.2⟩) ?_
    repeat' (first | (with_reducible refine q_nil ?_) | ((with_reducible refine is_q ?_); first | (refine q_off rfl ?_) | (refine q_p txs rfl rfl ?_) | (refine q_a txs rfl rfl (by first | exact in_i64 (by omega) (by omega) | exact in_u8 (by omega) (by omega) | exact in_u64 (by omega) (by omega) | exact in_i32 (by omega) (by omega)) ?_)))
    clear H
    intro w_ H
    repeat' (first | (with_reducible first | refine p_tn ?_ | refine wp_seq ?_ | refine w_reg ?_) | ((with_reducible refine g_on ?_); ((with_reducible refine g_mv ?_); refine l_p txs rfl rfl ?_)))
    (with_reducible refine is_l ?_); refine l_t txs rfl rfl (fun h4 => ?_) (fun h4 => ?_)
    · have hno : parRec (bl t) = .no j := by rw [hV, if_pos (by omega)]
      repeat' (first | (with_reducible first | refine p_tn ?_ | refine wp_seq ?_) | (with_reducible (refine is_if ?_; (refine w_ift rfl ?_))) | (with_reducible refine l_nil ?_))
      have HS := H.pick [0] [0] (by decide) (by decide) rfl rfl
      refine d_start (fun w_ => HpS _ w w_ _ _) #[false, false, false, false, false, false, false, false] (by kernel_rfl) rfl rfl HS.drew ?_
      have H := H.drew
      have HS := HS.drew
      first | (refine d_take (i := 0) #[true, false, false, false, false, false, false, false] rfl (by kernel_rfl) (fun _ _ _ h => h) rfl (fun w_ K => evLR_run (o := ⟨_, _, _, _, _, _⟩) recs rfl rfl (K.range 0 rfl) rfl) HS ?_)
      first | (refine d_take (i := 1) #[true, true, false, false, false, false, false, false] rfl (by kernel_rfl) (fun _ _ _ h => h) rfl (fun w_ K => evLR_run (o := ⟨_, _, _, _, _, _⟩) recs rfl rfl (K.range 0 rfl) rfl) HS ?_)
      first | (refine d_pure (i := 2) #[true, true, true, false, false, false, false, false] rfl (by kernel_rfl) (fun _ _ _ h => h) rfl (fun w_ => evP_run (o := ⟨_, _, _, _, _, _⟩) txs rfl) ?_)
      first | (refine d_pure (i := 3) #[true, true, true, true, false, false, false, false] rfl (by kernel_rfl) (fun _ _ _ h => h) rfl (fun w_ => evP_run (o := ⟨_, _, _, _, _, _⟩) txs rfl) ?_)
      first | (refine d_pure (i := 4) #[true, true, true, true, true, false, false, false] rfl (by kernel_rfl) (fun _ _ _ h => h) rfl (fun w_ => evP_run (o := ⟨_, _, _, _, _, _⟩) txs rfl) ?_)
      refine d_one (i := 5) #[true, true, true, true, true, true, false, false] rfl (by kernel_rfl) rfl ?_
      refine g_on ?_; ((with_reducible refine g_st ?_); (refine h_stR recs H 2 rfl rfl rfl rfl rfl rfl rfl rfl rfl (fun w_ H => ?_)))
      refine l_nil ?_
      have HS := H.pick [0] [0] (by decide) (by decide) rfl rfl
      refine ⟨rfl, HS, ?_⟩
      refine d_one (i := 6) #[true, true, true, true, true, true, true, false] rfl (by kernel_rfl) rfl ?_
      refine g_on ?_; ((with_reducible refine g_st ?_); (refine h_stR recs H 1 rfl rfl rfl rfl rfl rfl rfl rfl rfl (fun w_ H => ?_)))
      refine l_nil ?_
      have HS := H.pick [0] [0] (by decide) (by decide) rfl rfl
      refine ⟨rfl, HS, ?_⟩
      first | (refine d_pure (i := 7) #[true, true, true, true, true, true, true, true] rfl (by kernel_rfl) (fun _ _ _ h => h) rfl (fun w_ => evP_run (o := ⟨_, _, _, _, _, _⟩) txs rfl) ?_)
      refine d_done rfl ?_
      repeat' (with_reducible first | refine p_tn ?_ | refine p_tr ?_ | refine wp_ret ?_)
      refine end_ttcct recs H 2 1 rfl rfl rfl rfl rfl rfl rfl rfl rfl rfl rfl rfl ?_
      exact ⟨by rw [hno]; rfl, H.B⟩
    rw [if_neg (by omega)] at hV
    have hp1 := fun w1 => ParseSum_r (strOfNums a2) w1 (by omega)
    have hp2 := fun w1 => ParseSum_r (strOfNums b2) w1 (by omega)
    rw [blS ba2] at hp1
    rw [blS bb2] at hp2
    have hA1 := psL_length a2
    have hB1 := psL_length b2
    have cA : (psE (parSum a2) = 0 ∧ parSum a2 = some (psL (parSum a2))) ∨ (psE (parSum a2) = 114 ∧ parSum a2 = none) := by
      cases parSum a2 with
      | none => exact .inr ⟨rfl, rfl⟩
      | some l => exact .inl ⟨rfl, rfl⟩
    have cB : (psE (parSum b2) = 0 ∧ parSum b2 = some (psL (parSum b2))) ∨ (psE (parSum b2) = 114 ∧ parSum b2 = none) := by
      cases parSum b2 with
      | none => exact .inr ⟨rfl, rfl⟩
      | some l => exact .inl ⟨rfl, rfl⟩
    generalize psL (parSum a2) = A1 at hp1 hA1 cA
    generalize psL (parSum b2) = B1 at hp2 hB1 cB
    generalize psE (parSum a2) = eA at hp1 cA
    generalize psE (parSum b2) = eB at hp2 cB
    have nA : (nums .u8 A1).length = (nums .u8 zL).length := by rw [nums_length, hA1]; rfl
    have nB : (nums .u8 B1).length = (nums .u8 zL).length := by rw [nums_length, hB1]; rfl
    repeat' (first | (with_reducible first | refine p_tn ?_ | refine wp_seq ?_ | refine w_reg ?_) | (with_reducible (refine is_if ?_; (refine w_iff rfl ?_))) | (with_reducible first | refine wp_skip ?_ | refine l_nil ?_) | ((with_reducible refine g_on ?_); (first | ((with_reducible refine g_mv ?_); refine l_p txs rfl rfl ?_) | ((with_reducible refine g_ia ?_); refine l_ia txs rfl rfl (by first | omega | assumption | decide) (by first | omega | assumption | decide) ?_))))
    (with_reducible refine is_l ?_); refine l_ld txs rfl rfl (rdT_cell (rowT_at H 0 rfl) (i := 2) (y := a2) rfl) ?_
    (with_reducible refine is_l ?_); refine l_callv rfl rfl (by kernel_rfl) (hp1 _) (fun w_ K => ?_)
    have H := H.call K
    repeat' ((with_reducible refine g_on ?_); (first | ((with_reducible refine g_mv ?_); refine l_p txs rfl rfl ?_) | ((with_reducible refine g_ex ?_); refine l_p txs rfl rfl ?_) | ((with_reducible refine g_al ?_); refine h_alloc recs H rfl rfl (fun g_ w_ H => ?_))))
    (with_reducible refine is_l ?_); refine h_stR recs H 0 rfl rfl rfl rfl rfl (nfL_eq _ _) nA (nums_one _) rfl (fun w_ H => ?_)
    repeat' (first | (with_reducible first | refine p_tn ?_ | refine wp_seq ?_ | refine w_reg ?_ | refine l_nil ?_) | ((with_reducible refine g_on ?_); (first | ((with_reducible refine g_mv ?_); refine l_p txs rfl rfl ?_) | ((with_reducible refine g_as ?_); refine l_p txs rfl rfl ?_) | ((with_reducible refine g_ia ?_); refine l_ia txs rfl rfl (by first | omega | assumption | decide) (by first | omega | assumption | decide) ?_))))
    (with_reducible refine is_l ?_); refine l_ld txs rfl rfl (rdT_cell (rowT_at H 0 rfl) (i := 5) (y := b2) rfl) ?_
    (with_reducible refine is_l ?_); refine l_callv rfl rfl (by kernel_rfl) (hp2 _) (fun w_ K => ?_)
    have H := H.call K
    repeat' ((with_reducible refine g_on ?_); (first | ((with_reducible refine g_mv ?_); refine l_p txs rfl rfl ?_) | ((with_reducible refine g_ex ?_); refine l_p txs rfl rfl ?_) | ((with_reducible refine g_al ?_); refine h_alloc recs H rfl rfl (fun g_ w_ H => ?_))))
    (with_reducible refine is_l ?_); refine h_stR recs H 0 rfl rfl rfl rfl rfl (nfL_eq _ _) nB (nums_one _) rfl (fun w_ H => ?_)
    repeat' (first | (with_reducible first | refine p_tn ?_ | refine wp_seq ?_ | refine w_reg ?_ | refine l_nil ?_) | ((with_reducible refine g_on ?_); (first | ((with_reducible refine g_mv ?_); refine l_p txs rfl rfl ?_) | ((with_reducible refine g_as ?_); refine l_p txs rfl rfl ?_))))
    (with_reducible refine is_l ?_); refine l_t txs rfl rfl (fun h5 => ?_) (fun h5 => ?_)
    · obtain ⟨rfl, hq⟩ : eA = 114 ∧ parSum a2 = none := by
        rcases cA with ⟨h, _⟩ | h
        · exact absurd h h5
        · exact h
      have hno : parRec (bl t) = .no 114 := by rw [hV, hq]
      repeat' (first | (with_reducible first | refine p_tn ?_ | refine wp_seq ?_) | (with_reducible (refine is_if ?_; (refine w_ift rfl ?_))) | (with_reducible refine l_nil ?_) | ((with_reducible refine g_on ?_); (first | ((with_reducible refine g_mv ?_); refine l_p txs rfl rfl ?_) | ((with_reducible refine g_pk ?_); refine l_p txs rfl rfl ?_))) | ((with_reducible refine g_if ?_); (refine l_off rfl ?_)))
      have HS := H.pick [2] [0] (by decide) (by decide) rfl rfl
      refine d_start (fun w_ => HpS _ w w_ _ _) #[false, false, false, false, false, false, false] (by kernel_rfl) rfl rfl HS.drew ?_
      have H := H.drew
      have HS := HS.drew
      first | (refine d_take (i := 0) #[true, false, false, false, false, false, false] rfl (by kernel_rfl) (fun _ _ _ h => h) rfl (fun w_ K => evLR_run (o := ⟨_, _, _, _, _, _⟩) recs rfl rfl (K.range 0 rfl) rfl) HS ?_)
      first | (refine d_take (i := 1) #[true, true, false, false, false, false, false] rfl (by kernel_rfl) (fun _ _ _ h => h) rfl (fun w_ K => evLR_run (o := ⟨_, _, _, _, _, _⟩) recs rfl rfl (K.range 0 rfl) rfl) HS ?_)
      first | (refine d_pure (i := 2) #[true, true, true, false, false, false, false] rfl (by kernel_rfl) (fun _ _ _ h => h) rfl (fun w_ => evP_run (o := ⟨_, _, _, _, _, _⟩) txs rfl) ?_)
      first | (refine d_pure (i := 3) #[true, true, true, true, false, false, false] rfl (by kernel_rfl) (fun _ _ _ h => h) rfl (fun w_ => evP_run (o := ⟨_, _, _, _, _, _⟩) txs rfl) ?_)
      refine d_one (i := 4) #[true, true, true, true, true, false, false] rfl (by kernel_rfl) rfl ?_
      refine g_on ?_; ((with_reducible refine g_st ?_); (refine h_stR recs H 4 rfl rfl rfl rfl rfl rfl rfl rfl rfl (fun w_ H => ?_)))
      refine l_nil ?_
      have HS := H.pick [2] [0] (by decide) (by decide) rfl rfl
      refine ⟨rfl, HS, ?_⟩
      refine d_one (i := 5) #[true, true, true, true, true, true, false] rfl (by kernel_rfl) rfl ?_
      refine g_on ?_; ((with_reducible refine g_st ?_); (refine h_stR recs H 3 rfl rfl rfl rfl rfl rfl rfl rfl rfl (fun w_ H => ?_)))
      refine l_nil ?_
      have HS := H.pick [2] [0] (by decide) (by decide) rfl rfl
      refine ⟨rfl, HS, ?_⟩
      first | (refine d_pure (i := 6) #[true, true, true, true, true, true, true] rfl (by kernel_rfl) (fun _ _ _ h => h) rfl (fun w_ => evP_run (o := ⟨_, _, _, _, _, _⟩) txs rfl) ?_)
      refine d_done rfl ?_
      repeat' (with_reducible first | refine p_tn ?_ | refine p_tr ?_ | refine wp_ret ?_)
      refine end_ttcct recs H 4 3 rfl rfl rfl rfl rfl rfl rfl rfl rfl rfl rfl rfl ?_
      exact ⟨by rw [hno]; rfl, H.B⟩
    have hqA : parSum a2 = some A1 := by
      rcases cA with ⟨_, h⟩ | ⟨h, _⟩
      · exact h
      · exact absurd (by rw [h]; decide) h5
    rw [hqA] at hV
    repeat' (first | ((with_reducible refine g_on ?_); ((with_reducible refine g_mv ?_); refine l_p txs rfl rfl ?_)) | ((with_reducible refine g_if ?_); ((with_reducible refine g_mv ?_); refine l_p txs rfl rfl ?_)))
    (with_reducible refine is_l ?_); refine l_t txs rfl rfl (fun h6 => ?_) (fun h6 => ?_)
    · obtain ⟨rfl, hq⟩ : eB = 114 ∧ parSum b2 = none := by
        rcases cB with ⟨h, _⟩ | h
        · exact absurd h h6
        · exact h
      have hno : parRec (bl t) = .no 114 := by rw [hV, hq]
      repeat' (first | (with_reducible first | refine p_tn ?_ | refine wp_seq ?_) | (with_reducible (refine is_if ?_; (refine w_ift rfl ?_))) | (with_reducible refine l_nil ?_) | ((with_reducible refine g_on ?_); ((with_reducible refine g_pk ?_); refine l_p txs rfl rfl ?_)))
      have HS := H.pick [2] [0] (by decide) (by decide) rfl rfl
      refine d_start (fun w_ => HpS _ w w_ _ _) #[false, false, false, false, false, false, false] (by kernel_rfl) rfl rfl HS.drew ?_
      have H := H.drew
      have HS := HS.drew
      first | (refine d_take (i := 0) #[true, false, false, false, false, false, false] rfl (by kernel_rfl) (fun _ _ _ h => h) rfl (fun w_ K => evLR_run (o := ⟨_, _, _, _, _, _⟩) recs rfl rfl (K.range 0 rfl) rfl) HS ?_)
      first | (refine d_take (i := 1) #[true, true, false, false, false, false, false] rfl (by kernel_rfl) (fun _ _ _ h => h) rfl (fun w_ K => evLR_run (o := ⟨_, _, _, _, _, _⟩) recs rfl rfl (K.range 0 rfl) rfl) HS ?_)
      first | (refine d_pure (i := 2) #[true, true, true, false, false, false, false] rfl (by kernel_rfl) (fun _ _ _ h => h) rfl (fun w_ => evP_run (o := ⟨_, _, _, _, _, _⟩) txs rfl) ?_)
      first | (refine d_pure (i := 3) #[true, true, true, true, false, false, false] rfl (by kernel_rfl) (fun _ _ _ h => h) rfl (fun w_ => evP_run (o := ⟨_, _, _, _, _, _⟩) txs rfl) ?_)
      refine d_one (i := 4) #[true, true, true, true, true, false, false] rfl (by kernel_rfl) rfl ?_
      refine g_on ?_; ((with_reducible refine g_st ?_); (refine h_stR recs H 4 rfl rfl rfl rfl rfl rfl rfl rfl rfl (fun w_ H => ?_)))
      refine l_nil ?_
      have HS := H.pick [2] [0] (by decide) (by decide) rfl rfl
      refine ⟨rfl, HS, ?_⟩
      refine d_one (i := 5) #[true, true, true, true, true, true, false] rfl (by kernel_rfl) rfl ?_
      refine g_on ?_; ((with_reducible refine g_st ?_); (refine h_stR recs H 3 rfl rfl rfl rfl rfl rfl rfl rfl rfl (fun w_ H => ?_)))
      refine l_nil ?_
      have HS := H.pick [2] [0] (by decide) (by decide) rfl rfl
      refine ⟨rfl, HS, ?_⟩
      first | (refine d_pure (i := 6) #[true, true, true, true, true, true, true] rfl (by kernel_rfl) (fun _ _ _ h => h) rfl (fun w_ => evP_run (o := ⟨_, _, _, _, _, _⟩) txs rfl) ?_)
      refine d_done rfl ?_
      repeat' (with_reducible first | refine p_tn ?_ | refine p_tr ?_ | refine wp_ret ?_)
      refine end_ttcct recs H 4 3 rfl rfl rfl rfl rfl rfl rfl rfl rfl rfl rfl rfl ?_
      exact ⟨by rw [hno]; rfl, H.B⟩
    have hqB : parSum b2 = some B1 := by
      rcases cB with ⟨_, h⟩ | ⟨h, _⟩
      · exact h
      · exact absurd (by rw [h]; decide) h6
    rw [hqB] at hV
    have hV : parRec (bl t) = .is a0 a1 A1 B1 := hV
    repeat' (first | (with_reducible first | refine p_tn ?_ | refine wp_seq ?_) | (with_reducible (refine is_if ?_; (refine w_iff rfl ?_))) | (with_reducible first | refine wp_skip ?_ | refine l_nil ?_) | ((with_reducible refine g_on ?_); ((with_reducible refine g_pk ?_); refine l_p txs rfl rfl ?_)))
    have HS := H.pick [0,1] [0] (by decide) (by decide) rfl rfl
    refine d_start (fun w_ => HpS _ w w_ _ _) #[false, false, false, false, false, false, false, false, false, false, false, false, false] (by kernel_rfl) rfl rfl HS.drew ?_
    have H := H.drew
    have HS := HS.drew
    first | (refine d_pure (i := 0) #[true, false, false, false, false, false, false, false, false, false, false, false, false] rfl (by kernel_rfl) (fun _ _ _ h => h) rfl (fun w_ => evP_run (o := ⟨_, _, _, _, _, _⟩) txs rfl) ?_)
    first | (refine d_pure (i := 1) #[true, true, false, false, false, false, false, false, false, false, false, false, false] rfl (by kernel_rfl) (fun _ _ _ h => h) rfl (fun w_ => evIA_run (o := ⟨_, _, _, _, _, _⟩) txs rfl (by omega) (by omega)) ?_)
    first | (refine d_take (i := 2) #[true, true, true, false, false, false, false, false, false, false, false, false, false] rfl (by kernel_rfl) (fun _ _ _ h => h) rfl (fun w_ K => evL_run (o := ⟨_, _, _, _, _, _⟩) txs rfl (rdT_cell (rowT_at K 0 rfl) (i := 0) (y := a0) rfl)) HS ?_)
    first | (refine d_pure (i := 3) #[true, true, true, true, false, false, false, false, false, false, false, false, false] rfl (by kernel_rfl) (fun _ _ _ h => h) rfl (fun w_ => evP_run (o := ⟨_, _, _, _, _, _⟩) txs rfl) ?_)
    first | (refine d_pure (i := 4) #[true, true, true, true, true, false, false, false, false, false, false, false, false] rfl (by kernel_rfl) (fun _ _ _ h => h) rfl (fun w_ => evIA_run (o := ⟨_, _, _, _, _, _⟩) txs rfl (by omega) (by omega)) ?_)
    first | (refine d_take (i := 5) #[true, true, true, true, true, true, false, false, false, false, false, false, false] rfl (by kernel_rfl) (fun _ _ _ h => h) rfl (fun w_ K => evL_run (o := ⟨_, _, _, _, _, _⟩) txs rfl (rdT_cell (rowT_at K 0 rfl) (i := 1) (y := a1) rfl)) HS ?_)
    first | (refine d_take (i := 6) #[true, true, true, true, true, true, true, false, false, false, false, false, false] rfl (by kernel_rfl) (fun _ _ _ h => h) rfl (fun w_ K => evLR_run (o := ⟨_, _, _, _, _, _⟩) recs rfl rfl (K.range 1 rfl) nA) HS ?_)
    first | (refine d_take (i := 7) #[true, true, true, true, true, true, true, true, false, false, false, false, false] rfl (by kernel_rfl) (fun _ _ _ h => h) rfl (fun w_ K => evLR_run (o := ⟨_, _, _, _, _, _⟩) recs rfl rfl (K.range 0 rfl) nB) HS ?_)
    first | (refine d_pure (i := 8) #[true, true, true, true, true, true, true, true, true, false, false, false, false] rfl (by kernel_rfl) (fun _ _ _ h => h) rfl (fun w_ => evP_run (o := ⟨_, _, _, _, _, _⟩) txs rfl) ?_)
    first | (refine d_pure (i := 9) #[true, true, true, true, true, true, true, true, true, true, false, false, false] rfl (by kernel_rfl) (fun _ _ _ h => h) rfl (fun w_ => evP_run (o := ⟨_, _, _, _, _, _⟩) txs rfl) ?_)
    refine d_one (i := 10) #[true, true, true, true, true, true, true, true, true, true, true, false, false] rfl (by kernel_rfl) rfl ?_
    refine h_stR recs H 4 rfl rfl rfl rfl rfl (nfL_eq _ _) nA (nums_one _) rfl (fun w_ H => ?_)
    refine l_nil ?_
    have HS := H.pick [0, 1] [0] (by decide) (by decide) rfl rfl
    refine ⟨rfl, HS, ?_⟩
    refine d_one (i := 11) #[true, true, true, true, true, true, true, true, true, true, true, true, false] rfl (by kernel_rfl) rfl ?_
    refine h_stR recs H 3 rfl rfl rfl rfl rfl (nfL_eq _ _) nB (nums_one _) rfl (fun w_ H => ?_)
    refine l_nil ?_
    have HS := H.pick [0, 1] [0] (by decide) (by decide) rfl rfl
    refine ⟨rfl, HS, ?_⟩
    first | (refine d_pure (i := 12) #[true, true, true, true, true, true, true, true, true, true, true, true, true] rfl (by kernel_rfl) (fun _ _ _ h => h) rfl (fun w_ => evP_run (o := ⟨_, _, _, _, _, _⟩) txs rfl) ?_)
    refine d_done rfl ?_
    repeat' (with_reducible first | refine p_tn ?_ | refine wp_ret ?_)
    refine end_ttcct recs H 4 3 rfl rfl rfl rfl nA rfl rfl rfl nB rfl rfl rfl ?_
    exact ⟨by rw [hV]; rfl, H.B⟩
end Go.Proofs.YtnimaenhijlcmaaGreatDoor.K.Rec
end
section
namespace Go.Proofs.YtnimaenhijlcmaaGreatDoor.K.Rec
open Go.RowKit Go.Proofs.YtnimaenhijlcmaaGreatDoor.Q Go.Proofs.YtnimaenhijlcmaaGreatDoor.K Go.Proofs.YtnimaenhijlcmaaGreatDoor.Mb Go.Proofs.YtnimaenhijlcmaaGreatDoorW.PrintWords
set_option linter.unusedVariables false
set_option linter.unusedSimpArgs false
theorem nums_cell {x : L} (h : Bytes x) : nums .u8 x = (x.map fun z => UInt8.ofNat z.toNat).map Extern.Stop.cell := by
  unfold nums
  rw [List.map_map]
  exact List.map_congr_left fun z hz => by
    show Value.int .u8 z = Value.int .u8 _
    congr 1
    exact (ofNat_toNat (h z hz).1 (h z hz).2).symm
theorem u8_inj : ∀ {x y : L}, Bytes x → Bytes y → (x.map fun z => UInt8.ofNat z.toNat) = (y.map fun z => UInt8.ofNat z.toNat) → x = y
  | [], [], _, _, _ => rfl
  | [], _ :: _, _, _, h => by cases h
  | _ :: _, [], _, _, h => by cases h
  | a :: x, b :: y, hx, hy, h => by
    simp only [List.map_cons, List.cons.injEq] at h
    have ha := hx a (by simp)
    have hb := hy b (by simp)
    have e1 := ofNat_toNat ha.1 ha.2
    have e2 := ofNat_toNat hb.1 hb.2
    have : a = b := by rw [← e1, ← e2, h.1]
    rw [this, u8_inj (fun z hz => hx z (by simp [hz])) (fun z hz => hy z (by simp [hz])) h.2]
theorem u8_beq {x y : L} (hx : Bytes x) (hy : Bytes y) : ((x.map fun z => UInt8.ofNat z.toNat) == (y.map fun z => UInt8.ofNat z.toNat)) = decide (x = y) := by
  by_cases h : x = y
  · subst h
    simp
  · rw [decide_eq_false h]
    exact beq_eq_false_iff_ne.2 fun e => h (u8_inj hx hy e)
theorem size8 (w : World) : (sizeOf 5).run Tryz.prog w = .ok 1 w := by
  obtain ⟨i0, hi, hz⟩ := Option.map_eq_some_iff.1 one0_1
  simp [sizeOf, typeInfo, hi, hz, go_sem]
theorem eql32 {x y : L} (hx : Bytes x) (hy : Bytes y) (lx : x.length = 32) (ly : y.length = 32) (w : World) : (binOp .eql 22 (.agg (nums .u8 x).toArray) (.agg (nums .u8 y).toArray)).run Tryz.prog w = .ok (.bool (decide (x = y))) w := by
  rw [nums_cell hx, nums_cell hy, run_eql_bytes w 22 5 32 Tryz.underlying22 Tryz.underlying5 size8 _ _ (by rw [List.length_map, lx]) (by rw [List.length_map, ly]), u8_beq hx hy]
section
variable {P : Program} {n : Nat} {ops : Array Oper} {Q : Exit → Act → World → Prop} {rest : List Oper} {f : Fr} {w w0 : World} {d : Option Nat} {tt : TypeId} {ps : String} {af : Array Edge} {gd : Option (Nat × Bool)}
theorem l_bag {b : BinOp} {t t2 : TypeId} {x y : Operand} {a c : Array Value} {z : Value} (hm : P.eqGuardType P.depth t = false) (hw : want n ops f ⟨d, .binOp b t x y t2, tt, ps, af, gd⟩ = true) (hx : nf (X n f x) = some (.agg a)) (hy : nf (X n f y) = some (.agg c))
    (hr : (binOp b t (.agg a) (.agg c)).run P w = .ok z w) (h : WL P ops Q rest (act n (put f d z)) w) : WL P ops Q (⟨d, .binOp b t x y t2, tt, ps, af, gd⟩ :: rest) (act n f) w := by
  refine l_val hw ?_ h
  have hx' := nf_eq hx
  have hy' := nf_eq hy
  unfold execOp
  simp [← hx', ← hy', run_eqGuard_agg w b t x y a c hm, hr]
end
theorem guard32 : Tryz.prog.eqGuardType Tryz.prog.depth 22 = false := by kernel_rfl
end Go.Proofs.YtnimaenhijlcmaaGreatDoor.K.Rec
end
section
namespace Go.Proofs.YtnimaenhijlcmaaGreatDoor.K.Rec.Law
open Go.RowKit Go.Proofs.YtnimaenhijlcmaaGreatDoor.Q Go.Proofs.YtnimaenhijlcmaaGreatDoor.K Go.Proofs.YtnimaenhijlcmaaGreatDoor.K.Rec Go.Proofs.YtnimaenhijlcmaaGreatDoor.Mb Go.Proofs.YtnimaenhijlcmaaGreatDoorW.PrintWords
set_option linter.unusedVariables false
set_option linter.unusedSimpArgs false
abbrev zOp : List Value := opC 0 ⟨#[]⟩ ⟨#[]⟩ zL zL (.slice none 0 0)
def rt : Nat → Option (List Value)
  | 27 => some zOp
  | t => K.Rec.rt t
theorem recOkO : RecOk Tryz.prog 27 zOp := ⟨⟨_, Tryz.underlying27, rfl⟩, by kernel_rfl⟩
theorem recs : Recs Tryz.prog rt := by
  intro t zs h
  unfold rt at h
  split at h
  · cases h; exact recOkO
  · exact K.Rec.recs t zs h
theorem op_len {k : Int} {t u : ByteArray} {A B : L} {s : Value} (lA : A.length = 32) (lB : B.length = 32) : (opC k t u A B s).length = zOp.length := by
  show (nums .u8 A ++ (nums .u8 B ++ [s])).length + 3 = 68
  rw [List.length_append, List.length_append, nums_length, nums_length, lA, lB]
  rfl
theorem ps_bytes (s : L) : Bytes (psL (parSum s)) := by
  cases hp : parSum s with
  | none =>
    intro x hx
    have : x = 0 := by
      have hx : x ∈ zL := hx
      simpa using hx
    omega
  | some l => exact (parSum_some hp).1
theorem z_bytes : Bytes zL := fun x hx => by
  have : x = 0 := by simpa using hx
  omega
theorem rc_ok (s : L) : (Bytes (rcA (parRec s)) ∧ (rcA (parRec s)).length = 32) ∧ (Bytes (rcB (parRec s)) ∧ (rcB (parRec s)).length = 32) := by
  cases hp : parRec s with
  | no e => exact ⟨⟨z_bytes, rfl⟩, ⟨z_bytes, rfl⟩⟩
  | is p v a b =>
    obtain ⟨_, _, h1, h2, h3, h4⟩ := rec_once hp
    exact ⟨⟨h1, h2⟩, ⟨h3, h4⟩⟩
theorem LayR.tkl {w : World} (h : LayR w) : Ref.TakL w := h.tak
set_option maxRecDepth 100000 in
set_option maxHeartbeats 16000000 in
theorem escapes3_c {w : World} (hL : LayR w) (t u : ByteArray) (ht : t.size ≤ 100000000) (A B : L) (s : Value) :
    Calls Tryz.prog 44 #[.agg (opC 3 t u A B s).toArray] w fun e w' => e = .returned (.bool true) ∧ Below w.heap.size w w' := by
  refine enter (args := [.agg (opC 3 t u A B s).toArray]) Tryz.func44 rfl Tryz.ntmps44 rfl ?_
  have H := Hp.nil w
  repeat' (with_reducible first | refine wp_seq ?_ | refine w_reg ?_)
  (with_reducible refine is_l ?_); refine h_box H rfl rfl (nfL_eq _ _) (fun gX w_ H => ?_)
  have H : Hp w w_ [(gX, 27, opC 3 t u A B s)] [] := H
  repeat' (first | (with_reducible first | refine p_tn ?_ | refine wp_seq ?_ | refine wp_block ?_ | refine w_reg ?_ | refine l_nil ?_) | ((with_reducible refine g_on ?_); (first | ((with_reducible refine g_as ?_); refine l_p txs rfl rfl ?_) | ((with_reducible refine g_fa ?_); refine h_fa flds rfl rfl ?_) | ((with_reducible refine g_ld ?_); (refine h_ld txs H 0 rfl rfl rfl rfl ?_)))))
  (with_reducible refine is_l ?_); refine l_t txs rfl rfl (fun _ => ?_) (fun h => absurd rfl h)
  repeat' (first | (with_reducible first | refine p_tn ?_ | refine wp_seq ?_ | refine w_reg ?_) | (with_reducible (refine is_if ?_; (refine w_ift rfl ?_))) | (with_reducible refine l_nil ?_) | ((with_reducible refine g_on ?_); (first | ((with_reducible refine g_as ?_); refine l_p txs rfl rfl ?_) | ((with_reducible refine g_fa ?_); refine h_fa flds rfl rfl ?_) | ((with_reducible refine g_ld ?_); (refine h_ld txs H 0 rfl rfl rfl rfl ?_)))))
  have hk := fun (w1 : World) (h1 : LayR w1) => Ref.EscapePath_r h1.tkl t
  have hk2 := fun (w1 : World) (h1 : LayR w1) => EscapePath_c h1.lay t
  generalize (escPath (bl t)).1 = x0 at hk hk2
  generalize (escPath (bl t)).2 = x1 at hk hk2
  (with_reducible refine is_l ?_); refine l_callv rfl rfl (by kernel_rfl) (hk _ (hL.below H.B)) (fun w_ K => ?_)
  have H := H.call K
  repeat' (first | (with_reducible first | refine p_tn ?_ | refine wp_seq ?_ | refine w_reg ?_ | refine l_nil ?_) | ((with_reducible refine g_on ?_); (first | ((with_reducible refine g_mv ?_); refine l_p txs rfl rfl ?_) | ((with_reducible refine g_as ?_); refine l_p txs rfl rfl ?_) | ((with_reducible refine g_ex ?_); refine l_p txs rfl rfl ?_) | ((with_reducible refine g_fa ?_); refine h_fa flds rfl rfl ?_) | ((with_reducible refine g_ld ?_); (refine h_ld txs H 0 rfl rfl rfl rfl ?_)))))
  (with_reducible refine is_l ?_); refine l_callv rfl rfl (by kernel_rfl) (hk2 _ (hL.below H.B)) (fun w_ K => ?_)
  have H := H.call K
  repeat' (first | (with_reducible first | refine p_tn ?_ | refine wp_seq ?_ | refine w_reg ?_ | refine l_nil ?_) | ((with_reducible refine g_on ?_); (first | ((with_reducible refine g_mv ?_); refine l_p txs rfl rfl ?_) | ((with_reducible refine g_as ?_); refine l_p txs rfl rfl ?_) | ((with_reducible refine g_ex ?_); refine l_p txs rfl rfl ?_))))
  (with_reducible refine is_l ?_); refine l_t txs rfl rfl (fun _ => ?_) (fun h => absurd rfl h)
  repeat' (first | ((with_reducible refine g_on ?_); ((with_reducible refine g_mv ?_); refine l_p txs rfl rfl ?_)) | ((with_reducible refine g_if ?_); ((with_reducible refine g_mv ?_); refine l_p txs rfl rfl ?_)))
  (with_reducible refine is_l ?_); refine l_t txs rfl rfl (fun _ => ?_) (fun h => absurd rfl h)
  repeat' (first | (with_reducible first | refine p_tn ?_ | refine p_tr ?_ | refine p_br ?_ | refine wp_ret ?_ | refine l_nil ?_) | ((with_reducible refine g_on ?_); (first | ((with_reducible refine g_as ?_); refine l_p txs rfl rfl ?_) | ((with_reducible refine g_pk ?_); refine l_p txs rfl rfl ?_))))
  refine end1 rfl rfl ?_
  exact ⟨rfl, H.B⟩
set_option maxRecDepth 100000 in
set_option maxHeartbeats 16000000 in
theorem escapes4_c {w : World} (hL : LayR w) (t u : ByteArray) (ht : t.size ≤ 100000000) (A B : L) (s : Value) :
    Calls Tryz.prog 44 #[.agg (opC 4 t u A B s).toArray] w fun e w' => e = .returned (.bool true) ∧ Below w.heap.size w w' := by
  refine enter (args := [.agg (opC 4 t u A B s).toArray]) Tryz.func44 rfl Tryz.ntmps44 rfl ?_
  have H := Hp.nil w
  repeat' (with_reducible first | refine wp_seq ?_ | refine w_reg ?_)
  (with_reducible refine is_l ?_); refine h_box H rfl rfl (nfL_eq _ _) (fun gX w_ H => ?_)
  have H : Hp w w_ [(gX, 27, opC 4 t u A B s)] [] := H
  repeat' (first | (with_reducible first | refine p_tn ?_ | refine wp_seq ?_ | refine wp_block ?_ | refine w_reg ?_ | refine l_nil ?_) | ((with_reducible refine g_on ?_); (first | ((with_reducible refine g_as ?_); refine l_p txs rfl rfl ?_) | ((with_reducible refine g_fa ?_); refine h_fa flds rfl rfl ?_) | ((with_reducible refine g_ld ?_); (refine h_ld txs H 0 rfl rfl rfl rfl ?_)))))
  (with_reducible refine is_l ?_); refine l_t txs rfl rfl (fun h => absurd h (by decide)) (fun _ => ?_)
  repeat' (first | (with_reducible first | refine p_tn ?_ | refine wp_seq ?_ | refine w_reg ?_) | (with_reducible (refine is_if ?_; (refine w_iff rfl ?_))) | (with_reducible refine l_nil ?_) | ((with_reducible refine g_on ?_); ((with_reducible refine g_as ?_); refine l_p txs rfl rfl ?_)))
  (with_reducible refine is_l ?_); refine l_t txs rfl rfl (fun _ => ?_) (fun h => absurd rfl h)
  repeat' (first | (with_reducible first | refine p_tn ?_ | refine wp_seq ?_ | refine w_reg ?_) | (with_reducible (refine is_if ?_; (refine w_ift rfl ?_))) | (with_reducible refine l_nil ?_) | ((with_reducible refine g_on ?_); (first | ((with_reducible refine g_as ?_); refine l_p txs rfl rfl ?_) | ((with_reducible refine g_fa ?_); refine h_fa flds rfl rfl ?_) | ((with_reducible refine g_ld ?_); (refine h_ld txs H 0 rfl rfl rfl rfl ?_)))))
  have hk := fun (w1 : World) (h1 : LayR w1) => Ref.UnescapePath_r h1.tkl t ht
  have hk2 := fun (w1 : World) (h1 : LayR w1) => UnescapePath_c h1.lay t (by omega)
  generalize (unPath (bl t)).1 = x0 at hk hk2
  generalize (unPath (bl t)).2 = x1 at hk hk2
  (with_reducible refine is_l ?_); refine l_callv rfl rfl (by kernel_rfl) (hk _ (hL.below H.B)) (fun w_ K => ?_)
  have H := H.call K
  repeat' (first | (with_reducible first | refine p_tn ?_ | refine wp_seq ?_ | refine w_reg ?_ | refine l_nil ?_) | ((with_reducible refine g_on ?_); (first | ((with_reducible refine g_mv ?_); refine l_p txs rfl rfl ?_) | ((with_reducible refine g_as ?_); refine l_p txs rfl rfl ?_) | ((with_reducible refine g_ex ?_); refine l_p txs rfl rfl ?_) | ((with_reducible refine g_fa ?_); refine h_fa flds rfl rfl ?_) | ((with_reducible refine g_ld ?_); (refine h_ld txs H 0 rfl rfl rfl rfl ?_)))))
  (with_reducible refine is_l ?_); refine l_callv rfl rfl (by kernel_rfl) (hk2 _ (hL.below H.B)) (fun w_ K => ?_)
  have H := H.call K
  repeat' (first | (with_reducible first | refine p_tn ?_ | refine wp_seq ?_ | refine w_reg ?_ | refine l_nil ?_) | ((with_reducible refine g_on ?_); (first | ((with_reducible refine g_mv ?_); refine l_p txs rfl rfl ?_) | ((with_reducible refine g_as ?_); refine l_p txs rfl rfl ?_) | ((with_reducible refine g_ex ?_); refine l_p txs rfl rfl ?_))))
  (with_reducible refine is_l ?_); refine l_t txs rfl rfl (fun _ => ?_) (fun h => absurd rfl h)
  repeat' (first | ((with_reducible refine g_on ?_); ((with_reducible refine g_mv ?_); refine l_p txs rfl rfl ?_)) | ((with_reducible refine g_if ?_); ((with_reducible refine g_mv ?_); refine l_p txs rfl rfl ?_)))
  (with_reducible refine is_l ?_); refine l_t txs rfl rfl (fun _ => ?_) (fun h => absurd rfl h)
  repeat' (first | (with_reducible first | refine p_tn ?_ | refine p_tr ?_ | refine p_br ?_ | refine wp_ret ?_ | refine l_nil ?_) | ((with_reducible refine g_on ?_); (first | ((with_reducible refine g_as ?_); refine l_p txs rfl rfl ?_) | ((with_reducible refine g_pk ?_); refine l_p txs rfl rfl ?_))))
  refine end1 rfl rfl ?_
  exact ⟨rfl, H.B⟩
set_option maxRecDepth 100000 in
set_option maxHeartbeats 16000000 in
theorem escapes5_c {w : World} (hL : LayR w) (t u : ByteArray) (ht : t.size ≤ 100000000) (A B : L) (s : Value) :
    Calls Tryz.prog 44 #[.agg (opC 5 t u A B s).toArray] w fun e w' => e = .returned (.bool true) ∧ Below w.heap.size w w' := by
  refine enter (args := [.agg (opC 5 t u A B s).toArray]) Tryz.func44 rfl Tryz.ntmps44 rfl ?_
  have H := Hp.nil w
  repeat' (with_reducible first | refine wp_seq ?_ | refine w_reg ?_)
  (with_reducible refine is_l ?_); refine h_box H rfl rfl (nfL_eq _ _) (fun gX w_ H => ?_)
  have H : Hp w w_ [(gX, 27, opC 5 t u A B s)] [] := H
  repeat' (first | (with_reducible first | refine p_tn ?_ | refine wp_seq ?_ | refine wp_block ?_ | refine w_reg ?_ | refine l_nil ?_) | ((with_reducible refine g_on ?_); (first | ((with_reducible refine g_as ?_); refine l_p txs rfl rfl ?_) | ((with_reducible refine g_fa ?_); refine h_fa flds rfl rfl ?_) | ((with_reducible refine g_ld ?_); (refine h_ld txs H 0 rfl rfl rfl rfl ?_)))))
  (with_reducible refine is_l ?_); refine l_t txs rfl rfl (fun h => absurd h (by decide)) (fun _ => ?_)
  repeat' (first | (with_reducible first | refine p_tn ?_ | refine wp_seq ?_ | refine w_reg ?_) | (with_reducible (refine is_if ?_; (refine w_iff rfl ?_))) | (with_reducible refine l_nil ?_) | ((with_reducible refine g_on ?_); ((with_reducible refine g_as ?_); refine l_p txs rfl rfl ?_)))
  (with_reducible refine is_l ?_); refine l_t txs rfl rfl (fun h => absurd h (by decide)) (fun _ => ?_)
  repeat' (first | (with_reducible first | refine p_tn ?_ | refine wp_seq ?_ | refine w_reg ?_) | (with_reducible (refine is_if ?_; (refine w_iff rfl ?_))) | (with_reducible refine l_nil ?_) | ((with_reducible refine g_on ?_); ((with_reducible refine g_as ?_); refine l_p txs rfl rfl ?_)))
  (with_reducible refine is_l ?_); refine l_t txs rfl rfl (fun _ => ?_) (fun h => absurd rfl h)
  repeat' (first | (with_reducible first | refine p_tn ?_ | refine wp_seq ?_ | refine w_reg ?_) | (with_reducible (refine is_if ?_; (refine w_ift rfl ?_))) | (with_reducible refine l_nil ?_) | ((with_reducible refine g_on ?_); (first | ((with_reducible refine g_as ?_); refine l_p txs rfl rfl ?_) | ((with_reducible refine g_fa ?_); refine h_fa flds rfl rfl ?_) | ((with_reducible refine g_ld ?_); (refine h_ld txs H 0 rfl rfl rfl rfl ?_)))))
  have hk := fun (w1 : World) (h1 : LayR w1) => Ref.EscapeVersion_r t w1
  have hk2 := fun (w1 : World) (h1 : LayR w1) => EscapeVersion_c h1.lay t
  generalize (escVer (bl t)).1 = x0 at hk hk2
  generalize (escVer (bl t)).2 = x1 at hk hk2
  (with_reducible refine is_l ?_); refine l_callv rfl rfl (by kernel_rfl) (hk _ (hL.below H.B)) (fun w_ K => ?_)
  have H := H.call K
  repeat' (first | (with_reducible first | refine p_tn ?_ | refine wp_seq ?_ | refine w_reg ?_ | refine l_nil ?_) | ((with_reducible refine g_on ?_); (first | ((with_reducible refine g_mv ?_); refine l_p txs rfl rfl ?_) | ((with_reducible refine g_as ?_); refine l_p txs rfl rfl ?_) | ((with_reducible refine g_ex ?_); refine l_p txs rfl rfl ?_) | ((with_reducible refine g_fa ?_); refine h_fa flds rfl rfl ?_) | ((with_reducible refine g_ld ?_); (refine h_ld txs H 0 rfl rfl rfl rfl ?_)))))
  (with_reducible refine is_l ?_); refine l_callv rfl rfl (by kernel_rfl) (hk2 _ (hL.below H.B)) (fun w_ K => ?_)
  have H := H.call K
  repeat' (first | (with_reducible first | refine p_tn ?_ | refine wp_seq ?_ | refine w_reg ?_ | refine l_nil ?_) | ((with_reducible refine g_on ?_); (first | ((with_reducible refine g_mv ?_); refine l_p txs rfl rfl ?_) | ((with_reducible refine g_as ?_); refine l_p txs rfl rfl ?_) | ((with_reducible refine g_ex ?_); refine l_p txs rfl rfl ?_))))
  (with_reducible refine is_l ?_); refine l_t txs rfl rfl (fun _ => ?_) (fun h => absurd rfl h)
  repeat' (first | ((with_reducible refine g_on ?_); ((with_reducible refine g_mv ?_); refine l_p txs rfl rfl ?_)) | ((with_reducible refine g_if ?_); ((with_reducible refine g_mv ?_); refine l_p txs rfl rfl ?_)))
  (with_reducible refine is_l ?_); refine l_t txs rfl rfl (fun _ => ?_) (fun h => absurd rfl h)
  repeat' (first | (with_reducible first | refine p_tn ?_ | refine p_tr ?_ | refine p_br ?_ | refine wp_ret ?_ | refine l_nil ?_) | ((with_reducible refine g_on ?_); (first | ((with_reducible refine g_as ?_); refine l_p txs rfl rfl ?_) | ((with_reducible refine g_pk ?_); refine l_p txs rfl rfl ?_))))
  refine end1 rfl rfl ?_
  exact ⟨rfl, H.B⟩
set_option maxRecDepth 100000 in
set_option maxHeartbeats 16000000 in
theorem escapes6_c {w : World} (hL : LayR w) (t u : ByteArray) (ht : t.size ≤ 100000000) (A B : L) (s : Value) :
    Calls Tryz.prog 44 #[.agg (opC 6 t u A B s).toArray] w fun e w' => e = .returned (.bool true) ∧ Below w.heap.size w w' := by
  refine enter (args := [.agg (opC 6 t u A B s).toArray]) Tryz.func44 rfl Tryz.ntmps44 rfl ?_
  have H := Hp.nil w
  repeat' (with_reducible first | refine wp_seq ?_ | refine w_reg ?_)
  (with_reducible refine is_l ?_); refine h_box H rfl rfl (nfL_eq _ _) (fun gX w_ H => ?_)
  have H : Hp w w_ [(gX, 27, opC 6 t u A B s)] [] := H
  repeat' (first | (with_reducible first | refine p_tn ?_ | refine wp_seq ?_ | refine wp_block ?_ | refine w_reg ?_ | refine l_nil ?_) | ((with_reducible refine g_on ?_); (first | ((with_reducible refine g_as ?_); refine l_p txs rfl rfl ?_) | ((with_reducible refine g_fa ?_); refine h_fa flds rfl rfl ?_) | ((with_reducible refine g_ld ?_); (refine h_ld txs H 0 rfl rfl rfl rfl ?_)))))
  (with_reducible refine is_l ?_); refine l_t txs rfl rfl (fun h => absurd h (by decide)) (fun _ => ?_)
  repeat' (first | (with_reducible first | refine p_tn ?_ | refine wp_seq ?_ | refine w_reg ?_) | (with_reducible (refine is_if ?_; (refine w_iff rfl ?_))) | (with_reducible refine l_nil ?_) | ((with_reducible refine g_on ?_); ((with_reducible refine g_as ?_); refine l_p txs rfl rfl ?_)))
  (with_reducible refine is_l ?_); refine l_t txs rfl rfl (fun h => absurd h (by decide)) (fun _ => ?_)
  repeat' (first | (with_reducible first | refine p_tn ?_ | refine wp_seq ?_ | refine w_reg ?_) | (with_reducible (refine is_if ?_; (refine w_iff rfl ?_))) | (with_reducible refine l_nil ?_) | ((with_reducible refine g_on ?_); ((with_reducible refine g_as ?_); refine l_p txs rfl rfl ?_)))
  (with_reducible refine is_l ?_); refine l_t txs rfl rfl (fun h => absurd h (by decide)) (fun _ => ?_)
  repeat' (first | (with_reducible first | refine p_tn ?_ | refine p_bn ?_ | refine wp_seq ?_ | refine w_reg ?_) | (with_reducible (refine is_if ?_; (refine w_iff rfl ?_))) | (with_reducible first | refine wp_skip ?_ | refine l_nil ?_) | ((with_reducible refine g_on ?_); (first | ((with_reducible refine g_as ?_); refine l_p txs rfl rfl ?_) | ((with_reducible refine g_fa ?_); refine h_fa flds rfl rfl ?_) | ((with_reducible refine g_ld ?_); (refine h_ld txs H 0 rfl rfl rfl rfl ?_)))))
  have hk := fun (w1 : World) (h1 : LayR w1) => Ref.UnescapeVersion_r t w1 ht
  have hk2 := fun (w1 : World) (h1 : LayR w1) => UnescapeVersion_c h1.lay t (by omega)
  generalize (unVer (bl t)).1 = x0 at hk hk2
  generalize (unVer (bl t)).2 = x1 at hk hk2
  (with_reducible refine is_l ?_); refine l_callv rfl rfl (by kernel_rfl) (hk _ (hL.below H.B)) (fun w_ K => ?_)
  have H := H.call K
  repeat' (first | (with_reducible first | refine p_tn ?_ | refine wp_seq ?_ | refine w_reg ?_ | refine l_nil ?_) | ((with_reducible refine g_on ?_); (first | ((with_reducible refine g_mv ?_); refine l_p txs rfl rfl ?_) | ((with_reducible refine g_as ?_); refine l_p txs rfl rfl ?_) | ((with_reducible refine g_ex ?_); refine l_p txs rfl rfl ?_) | ((with_reducible refine g_fa ?_); refine h_fa flds rfl rfl ?_) | ((with_reducible refine g_ld ?_); (refine h_ld txs H 0 rfl rfl rfl rfl ?_)))))
  (with_reducible refine is_l ?_); refine l_callv rfl rfl (by kernel_rfl) (hk2 _ (hL.below H.B)) (fun w_ K => ?_)
  have H := H.call K
  repeat' (first | (with_reducible first | refine p_tn ?_ | refine wp_seq ?_ | refine w_reg ?_ | refine l_nil ?_) | ((with_reducible refine g_on ?_); (first | ((with_reducible refine g_mv ?_); refine l_p txs rfl rfl ?_) | ((with_reducible refine g_as ?_); refine l_p txs rfl rfl ?_) | ((with_reducible refine g_ex ?_); refine l_p txs rfl rfl ?_))))
  (with_reducible refine is_l ?_); refine l_t txs rfl rfl (fun _ => ?_) (fun h => absurd rfl h)
  repeat' (first | ((with_reducible refine g_on ?_); ((with_reducible refine g_mv ?_); refine l_p txs rfl rfl ?_)) | ((with_reducible refine g_if ?_); ((with_reducible refine g_mv ?_); refine l_p txs rfl rfl ?_)))
  (with_reducible refine is_l ?_); refine l_t txs rfl rfl (fun _ => ?_) (fun h => absurd rfl h)
  repeat' (first | (with_reducible first | refine p_tn ?_ | refine wp_ret ?_ | refine l_nil ?_) | ((with_reducible refine g_on ?_); (first | ((with_reducible refine g_as ?_); refine l_p txs rfl rfl ?_) | ((with_reducible refine g_pk ?_); refine l_p txs rfl rfl ?_))))
  refine end1 rfl rfl ?_
  exact ⟨rfl, H.B⟩
set_option maxRecDepth 100000 in
set_option maxHeartbeats 16000000 in
theorem records8_c {w : World} (hL : LayR w) (t u : ByteArray) (ht : t.size ≤ 100000000) (A B : L) (s : Value) :
    Calls Tryz.prog 8 #[.agg (opC 8 t u A B s).toArray] w fun e w' => e = .returned (.bool true) ∧ Below w.heap.size w w' := by
  refine enter (args := [.agg (opC 8 t u A B s).toArray]) Tryz.func8 rfl Tryz.ntmps8 rfl ?_
  have H := Hp.nil w
  repeat' (with_reducible first | refine wp_seq ?_ | refine w_reg ?_)
  (with_reducible refine is_l ?_); refine h_box H rfl rfl (nfL_eq _ _) (fun gX w_ H => ?_)
  have H : Hp w w_ [(gX, 27, opC 8 t u A B s)] [] := H
  repeat' (first | (with_reducible first | refine p_tn ?_ | refine wp_seq ?_ | refine wp_block ?_ | refine w_reg ?_ | refine l_nil ?_) | ((with_reducible refine g_on ?_); (first | ((with_reducible refine g_as ?_); refine l_p txs rfl rfl ?_) | ((with_reducible refine g_fa ?_); refine h_fa flds rfl rfl ?_) | ((with_reducible refine g_ld ?_); (refine h_ld txs H 0 rfl rfl rfl rfl ?_)))))
  (with_reducible refine is_l ?_); refine l_t txs rfl rfl (fun h => absurd h (by decide)) (fun _ => ?_)
  repeat' (first | (with_reducible first | refine p_tn ?_ | refine wp_seq ?_ | refine w_reg ?_) | (with_reducible (refine is_if ?_; (refine w_iff rfl ?_))) | (with_reducible refine l_nil ?_) | ((with_reducible refine g_on ?_); ((with_reducible refine g_as ?_); refine l_p txs rfl rfl ?_)))
  (with_reducible refine is_l ?_); refine l_t txs rfl rfl (fun _ => ?_) (fun h => absurd rfl h)
  repeat' (first | (with_reducible first | refine p_tn ?_ | refine wp_seq ?_ | refine w_reg ?_) | (with_reducible (refine is_if ?_; (refine w_ift rfl ?_))) | (with_reducible refine l_nil ?_) | ((with_reducible refine g_on ?_); (first | ((with_reducible refine g_as ?_); refine l_p txs rfl rfl ?_) | ((with_reducible refine g_fa ?_); refine h_fa flds rfl rfl ?_) | ((with_reducible refine g_ld ?_); (refine h_ld txs H 0 rfl rfl rfl rfl ?_)))))
  have hk := fun (w1 : World) (h1 : LayR w1) => Ref.ParseKey_r h1.tkl t ht
  have hk2 := fun (w1 : World) (h1 : LayR w1) => ParseKey_c h1.lay t ht
  generalize (parK (bl t)).1 = x0 at hk hk2
  generalize (parK (bl t)).2.1 = x1 at hk hk2
  generalize (parK (bl t)).2.2 = x2 at hk hk2
  (with_reducible refine is_l ?_); refine l_callv rfl rfl (by kernel_rfl) (hk _ (hL.below H.B)) (fun w_ K => ?_)
  have H := H.call K
  repeat' (first | (with_reducible first | refine p_tn ?_ | refine wp_seq ?_ | refine w_reg ?_ | refine l_nil ?_) | ((with_reducible refine g_on ?_); (first | ((with_reducible refine g_mv ?_); refine l_p txs rfl rfl ?_) | ((with_reducible refine g_as ?_); refine l_p txs rfl rfl ?_) | ((with_reducible refine g_ex ?_); refine l_p txs rfl rfl ?_) | ((with_reducible refine g_fa ?_); refine h_fa flds rfl rfl ?_) | ((with_reducible refine g_ld ?_); (refine h_ld txs H 0 rfl rfl rfl rfl ?_)))))
  (with_reducible refine is_l ?_); refine l_callv rfl rfl (by kernel_rfl) (hk2 _ (hL.below H.B)) (fun w_ K => ?_)
  have H := H.call K
  repeat' (first | (with_reducible first | refine p_tn ?_ | refine wp_seq ?_ | refine w_reg ?_ | refine l_nil ?_) | ((with_reducible refine g_on ?_); (first | ((with_reducible refine g_mv ?_); refine l_p txs rfl rfl ?_) | ((with_reducible refine g_as ?_); refine l_p txs rfl rfl ?_) | ((with_reducible refine g_ex ?_); refine l_p txs rfl rfl ?_))))
  (with_reducible refine is_l ?_); refine l_t txs rfl rfl (fun _ => ?_) (fun h => absurd rfl h)
  repeat' (first | ((with_reducible refine g_on ?_); ((with_reducible refine g_mv ?_); refine l_p txs rfl rfl ?_)) | ((with_reducible refine g_if ?_); ((with_reducible refine g_mv ?_); refine l_p txs rfl rfl ?_)))
  (with_reducible refine is_l ?_); refine l_t txs rfl rfl (fun _ => ?_) (fun h => absurd rfl h)
  repeat' (first | ((with_reducible refine g_on ?_); (first | ((with_reducible refine g_mv ?_); refine l_p txs rfl rfl ?_) | ((with_reducible refine g_pk ?_); refine l_p txs rfl rfl ?_))) | ((with_reducible refine g_if ?_); ((with_reducible refine g_mv ?_); refine l_p txs rfl rfl ?_)))
  (with_reducible refine is_l ?_); refine l_t txs rfl rfl (fun _ => ?_) (fun h => absurd rfl h)
  repeat' (first | (with_reducible first | refine p_tn ?_ | refine p_tr ?_ | refine p_br ?_ | refine wp_ret ?_ | refine l_nil ?_) | ((with_reducible refine g_on ?_); (first | ((with_reducible refine g_as ?_); refine l_p txs rfl rfl ?_) | ((with_reducible refine g_pk ?_); refine l_p txs rfl rfl ?_))))
  refine end1 rfl rfl ?_
  exact ⟨rfl, H.B⟩
set_option maxRecDepth 100000 in
set_option maxHeartbeats 16000000 in
theorem records12_c {w : World} (hL : LayR w) (t u : ByteArray) (ht : t.size ≤ 100000000) (A B : L) (s : Value) :
    Calls Tryz.prog 8 #[.agg (opC 12 t u A B s).toArray] w fun e w' => e = .returned (.bool true) ∧ Below w.heap.size w w' := by
  refine enter (args := [.agg (opC 12 t u A B s).toArray]) Tryz.func8 rfl Tryz.ntmps8 rfl ?_
  have H := Hp.nil w
  repeat' (with_reducible first | refine wp_seq ?_ | refine w_reg ?_)
  (with_reducible refine is_l ?_); refine h_box H rfl rfl (nfL_eq _ _) (fun gX w_ H => ?_)
  have H : Hp w w_ [(gX, 27, opC 12 t u A B s)] [] := H
  repeat' (first | (with_reducible first | refine p_tn ?_ | refine wp_seq ?_ | refine wp_block ?_ | refine w_reg ?_ | refine l_nil ?_) | ((with_reducible refine g_on ?_); (first | ((with_reducible refine g_as ?_); refine l_p txs rfl rfl ?_) | ((with_reducible refine g_fa ?_); refine h_fa flds rfl rfl ?_) | ((with_reducible refine g_ld ?_); (refine h_ld txs H 0 rfl rfl rfl rfl ?_)))))
  (with_reducible refine is_l ?_); refine l_t txs rfl rfl (fun h => absurd h (by decide)) (fun _ => ?_)
  repeat' (first | (with_reducible first | refine p_tn ?_ | refine wp_seq ?_ | refine w_reg ?_) | (with_reducible (refine is_if ?_; (refine w_iff rfl ?_))) | (with_reducible refine l_nil ?_) | ((with_reducible refine g_on ?_); ((with_reducible refine g_as ?_); refine l_p txs rfl rfl ?_)))
  (with_reducible refine is_l ?_); refine l_t txs rfl rfl (fun h => absurd h (by decide)) (fun _ => ?_)
  repeat' (first | (with_reducible first | refine p_tn ?_ | refine wp_seq ?_ | refine w_reg ?_) | (with_reducible (refine is_if ?_; (refine w_iff rfl ?_))) | (with_reducible refine l_nil ?_) | ((with_reducible refine g_on ?_); ((with_reducible refine g_as ?_); refine l_p txs rfl rfl ?_)))
  (with_reducible refine is_l ?_); refine l_t txs rfl rfl (fun h => absurd h (by decide)) (fun _ => ?_)
  repeat' (first | (with_reducible first | refine p_tn ?_ | refine wp_seq ?_ | refine w_reg ?_) | (with_reducible (refine is_if ?_; (refine w_iff rfl ?_))) | (with_reducible refine l_nil ?_) | ((with_reducible refine g_on ?_); ((with_reducible refine g_as ?_); refine l_p txs rfl rfl ?_)))
  (with_reducible refine is_l ?_); refine l_t txs rfl rfl (fun _ => ?_) (fun h => absurd rfl h)
  repeat' (first | (with_reducible first | refine p_tn ?_ | refine wp_seq ?_ | refine w_reg ?_) | (with_reducible (refine is_if ?_; (refine w_ift rfl ?_))) | (with_reducible refine l_nil ?_) | ((with_reducible refine g_on ?_); (first | ((with_reducible refine g_as ?_); refine l_p txs rfl rfl ?_) | ((with_reducible refine g_fa ?_); refine h_fa flds rfl rfl ?_) | ((with_reducible refine g_ld ?_); (refine h_ld txs H 0 rfl rfl rfl rfl ?_)))))
  have hps := ps_bytes (bl t)
  have hpl := psL_length (bl t)
  have hk := fun (w1 : World) => ParseSum_r t w1 ht
  have hk2 := fun (w1 : World) => ParseSum_c t w1
  generalize psL (parSum (bl t)) = R at hk hk2 hps hpl
  generalize psE (parSum (bl t)) = x at hk hk2
  have nR : (nums .u8 R).length = (nums .u8 zL).length := by rw [nums_length, hpl]; rfl
  have qR := fun w1 => eql32 hps hps hpl hpl w1
  rw [decide_eq_true rfl] at qR
  (with_reducible refine is_l ?_); refine l_callv rfl rfl (by kernel_rfl) (hk _) (fun w_ K => ?_)
  have H := H.call K
  repeat' ((with_reducible refine g_on ?_); (first | ((with_reducible refine g_mv ?_); refine l_p txs rfl rfl ?_) | ((with_reducible refine g_ex ?_); refine l_p txs rfl rfl ?_) | ((with_reducible refine g_al ?_); refine h_alloc recs H rfl rfl (fun g_ w_ H => ?_))))
  (with_reducible refine is_l ?_); refine h_stR recs H 0 rfl rfl rfl rfl rfl (nfL_eq _ _) nR (nums_one _) rfl (fun w_ H => ?_)
  repeat' (first | (with_reducible first | refine p_tn ?_ | refine wp_seq ?_ | refine w_reg ?_ | refine l_nil ?_) | ((with_reducible refine g_on ?_); (first | ((with_reducible refine g_as ?_); refine l_p txs rfl rfl ?_) | ((with_reducible refine g_fa ?_); refine h_fa flds rfl rfl ?_) | ((with_reducible refine g_ld ?_); (refine h_ld txs H 1 rfl rfl rfl rfl ?_)))))
  (with_reducible refine is_l ?_); refine l_callv rfl rfl (by kernel_rfl) (hk2 _) (fun w_ K => ?_)
  have H := H.call K
  repeat' ((with_reducible refine g_on ?_); (first | ((with_reducible refine g_mv ?_); refine l_p txs rfl rfl ?_) | ((with_reducible refine g_ex ?_); refine l_p txs rfl rfl ?_) | ((with_reducible refine g_al ?_); refine h_alloc recs H rfl rfl (fun g_ w_ H => ?_))))
  (with_reducible refine is_l ?_); refine h_stR recs H 0 rfl rfl rfl rfl rfl (nfL_eq _ _) nR (nums_one _) rfl (fun w_ H => ?_)
  repeat' (first | (with_reducible first | refine p_tn ?_ | refine wp_seq ?_ | refine w_reg ?_ | refine l_nil ?_) | ((with_reducible refine g_on ?_); ((with_reducible refine g_as ?_); refine l_p txs rfl rfl ?_)))
  (with_reducible refine is_l ?_); refine h_ldR recs H 0 rfl rfl rfl rfl nR ?_
  (with_reducible refine is_l ?_); refine h_ldR recs H 1 rfl rfl rfl rfl nR ?_
  (with_reducible refine is_l ?_); refine l_bag (z := .bool true) guard32 rfl rfl rfl (qR _) ?_
  repeat' (first | ((with_reducible refine g_on ?_); ((with_reducible refine g_mv ?_); refine l_p txs rfl rfl ?_)) | ((with_reducible refine g_if ?_); ((with_reducible refine g_mv ?_); refine l_p txs rfl rfl ?_)))
  (with_reducible refine is_l ?_); refine l_t txs rfl rfl (fun _ => ?_) (fun h => absurd rfl h)
  repeat' (first | (with_reducible first | refine p_tn ?_ | refine p_tr ?_ | refine p_br ?_ | refine wp_ret ?_ | refine l_nil ?_) | ((with_reducible refine g_on ?_); (first | ((with_reducible refine g_as ?_); refine l_p txs rfl rfl ?_) | ((with_reducible refine g_pk ?_); refine l_p txs rfl rfl ?_))))
  refine end1 rfl rfl ?_
  exact ⟨rfl, H.B⟩
set_option maxRecDepth 100000 in
set_option maxHeartbeats 16000000 in
theorem records14_c {w : World} (hL : LayR w) (t u : ByteArray) (A B : L) (s : Value) :
    Calls Tryz.prog 8 #[.agg (opC 14 t u A B s).toArray] w fun e w' => e = .returned (.bool true) ∧ Below w.heap.size w w' := by
  refine enter (args := [.agg (opC 14 t u A B s).toArray]) Tryz.func8 rfl Tryz.ntmps8 rfl ?_
  have H := Hp.nil w
  repeat' (with_reducible first | refine wp_seq ?_ | refine w_reg ?_)
  (with_reducible refine is_l ?_); refine h_box H rfl rfl (nfL_eq _ _) (fun gX w_ H => ?_)
  have H : Hp w w_ [(gX, 27, opC 14 t u A B s)] [] := H
  repeat' (first | (with_reducible first | refine p_tn ?_ | refine wp_seq ?_ | refine wp_block ?_ | refine w_reg ?_ | refine l_nil ?_) | ((with_reducible refine g_on ?_); (first | ((with_reducible refine g_as ?_); refine l_p txs rfl rfl ?_) | ((with_reducible refine g_fa ?_); refine h_fa flds rfl rfl ?_) | ((with_reducible refine g_ld ?_); (refine h_ld txs H 0 rfl rfl rfl rfl ?_)))))
  (with_reducible refine is_l ?_); refine l_t txs rfl rfl (fun h => absurd h (by decide)) (fun _ => ?_)
  repeat' (first | (with_reducible first | refine p_tn ?_ | refine wp_seq ?_ | refine w_reg ?_) | (with_reducible (refine is_if ?_; (refine w_iff rfl ?_))) | (with_reducible refine l_nil ?_) | ((with_reducible refine g_on ?_); ((with_reducible refine g_as ?_); refine l_p txs rfl rfl ?_)))
  (with_reducible refine is_l ?_); refine l_t txs rfl rfl (fun h => absurd h (by decide)) (fun _ => ?_)
  repeat' (first | (with_reducible first | refine p_tn ?_ | refine wp_seq ?_ | refine w_reg ?_) | (with_reducible (refine is_if ?_; (refine w_iff rfl ?_))) | (with_reducible refine l_nil ?_) | ((with_reducible refine g_on ?_); ((with_reducible refine g_as ?_); refine l_p txs rfl rfl ?_)))
  (with_reducible refine is_l ?_); refine l_t txs rfl rfl (fun h => absurd h (by decide)) (fun _ => ?_)
  repeat' (first | (with_reducible first | refine p_tn ?_ | refine wp_seq ?_ | refine w_reg ?_) | (with_reducible (refine is_if ?_; (refine w_iff rfl ?_))) | (with_reducible refine l_nil ?_) | ((with_reducible refine g_on ?_); ((with_reducible refine g_as ?_); refine l_p txs rfl rfl ?_)))
  (with_reducible refine is_l ?_); refine l_t txs rfl rfl (fun h => absurd h (by decide)) (fun _ => ?_)
  repeat' (first | (with_reducible first | refine p_tn ?_ | refine wp_seq ?_ | refine w_reg ?_) | (with_reducible (refine is_if ?_; (refine w_iff rfl ?_))) | (with_reducible refine l_nil ?_) | ((with_reducible refine g_on ?_); ((with_reducible refine g_as ?_); refine l_p txs rfl rfl ?_)))
  (with_reducible refine is_l ?_); refine l_t txs rfl rfl (fun h => absurd h (by decide)) (fun _ => ?_)
  repeat' (first | (with_reducible first | refine p_tn ?_ | refine p_bn ?_ | refine wp_seq ?_ | refine w_reg ?_) | (with_reducible (refine is_if ?_; (refine w_iff rfl ?_))) | (with_reducible first | refine wp_skip ?_ | refine l_nil ?_) | ((with_reducible refine g_on ?_); (first | ((with_reducible refine g_as ?_); refine l_p txs rfl rfl ?_) | ((with_reducible refine g_fa ?_); refine h_fa flds rfl rfl ?_) | ((with_reducible refine g_ld ?_); (refine h_ld txs H 0 rfl rfl rfl rfl ?_)))))
  obtain ⟨⟨hbA, hlA⟩, ⟨hbB, hlB⟩⟩ := rc_ok (bl t)
  obtain ⟨_, t2, fr, hD⟩ := id hL
  have hk := fun (w1 : World) (h1 : LayR w1) => (by obtain ⟨_, t2, fr, hD⟩ := h1; exact ParseRecord_r hD t : Calls Tryz.prog 29 #[.string t] w1 fun e w' => e = .returned (.tuple #[.string (rcP (parRec (bl t))), .string (rcV (parRec (bl t))), .agg (nums .u8 (rcA (parRec (bl t)))).toArray, .agg (nums .u8 (rcB (parRec (bl t)))).toArray, .int .i64 (rcE (parRec (bl t)))]) ∧ Below w1.heap.size w1 w')
  have hk2 := fun (w1 : World) (h1 : LayR w1) => ParseRecord_c h1.lay t
  generalize rcA (parRec (bl t)) = R at hk hk2 hbA hlA
  generalize rcB (parRec (bl t)) = S at hk hk2 hbB hlB
  generalize rcP (parRec (bl t)) = x0 at hk hk2
  generalize rcV (parRec (bl t)) = x1 at hk hk2
  generalize rcE (parRec (bl t)) = x2 at hk hk2
  have nR : (nums .u8 R).length = (nums .u8 zL).length := by rw [nums_length, hlA]; rfl
  have nS : (nums .u8 S).length = (nums .u8 zL).length := by rw [nums_length, hlB]; rfl
  have qR := fun w1 => eql32 hbA hbA hlA hlA w1
  have qS := fun w1 => eql32 hbB hbB hlB hlB w1
  rw [decide_eq_true rfl] at qR qS
  (with_reducible refine is_l ?_); refine l_callv rfl rfl (by kernel_rfl) (hk _ (hL.below H.B)) (fun w_ K => ?_)
  have H := H.call K
  repeat' ((with_reducible refine g_on ?_); (first | ((with_reducible refine g_mv ?_); refine l_p txs rfl rfl ?_) | ((with_reducible refine g_as ?_); refine l_p txs rfl rfl ?_) | ((with_reducible refine g_ex ?_); refine l_p txs rfl rfl ?_) | ((with_reducible refine g_al ?_); refine h_alloc recs H rfl rfl (fun g_ w_ H => ?_))))
  (with_reducible refine is_l ?_); refine h_stR recs H 1 rfl rfl rfl rfl rfl (nfL_eq _ _) nR (nums_one _) rfl (fun w_ H => ?_)
  (with_reducible refine is_l ?_); refine h_stR recs H 0 rfl rfl rfl rfl rfl (nfL_eq _ _) nS (nums_one _) rfl (fun w_ H => ?_)
  repeat' (first | (with_reducible first | refine p_tn ?_ | refine wp_seq ?_ | refine w_reg ?_ | refine l_nil ?_) | ((with_reducible refine g_on ?_); (first | ((with_reducible refine g_as ?_); refine l_p txs rfl rfl ?_) | ((with_reducible refine g_fa ?_); refine h_fa flds rfl rfl ?_) | ((with_reducible refine g_ld ?_); (refine h_ld txs H 2 rfl rfl rfl rfl ?_)))))
  (with_reducible refine is_l ?_); refine l_callv rfl rfl (by kernel_rfl) (hk2 _ (hL.below H.B)) (fun w_ K => ?_)
  have H := H.call K
  repeat' ((with_reducible refine g_on ?_); (first | ((with_reducible refine g_mv ?_); refine l_p txs rfl rfl ?_) | ((with_reducible refine g_as ?_); refine l_p txs rfl rfl ?_) | ((with_reducible refine g_ex ?_); refine l_p txs rfl rfl ?_) | ((with_reducible refine g_al ?_); refine h_alloc recs H rfl rfl (fun g_ w_ H => ?_))))
  (with_reducible refine is_l ?_); refine h_stR recs H 1 rfl rfl rfl rfl rfl (nfL_eq _ _) nR (nums_one _) rfl (fun w_ H => ?_)
  (with_reducible refine is_l ?_); refine h_stR recs H 0 rfl rfl rfl rfl rfl (nfL_eq _ _) nS (nums_one _) rfl (fun w_ H => ?_)
  repeat' (first | (with_reducible first | refine p_tn ?_ | refine wp_seq ?_ | refine w_reg ?_ | refine l_nil ?_) | ((with_reducible refine g_on ?_); (first | ((with_reducible refine g_mv ?_); refine l_p txs rfl rfl ?_) | ((with_reducible refine g_as ?_); refine l_p txs rfl rfl ?_))))
  (with_reducible refine is_l ?_); refine l_t txs rfl rfl (fun _ => ?_) (fun h => absurd rfl h)
  repeat' (first | ((with_reducible refine g_on ?_); ((with_reducible refine g_mv ?_); refine l_p txs rfl rfl ?_)) | ((with_reducible refine g_if ?_); ((with_reducible refine g_mv ?_); refine l_p txs rfl rfl ?_)))
  (with_reducible refine is_l ?_); refine l_t txs rfl rfl (fun _ => ?_) (fun h => absurd rfl h)
  repeat' ((with_reducible refine g_on ?_); (first | ((with_reducible refine g_mv ?_); refine l_p txs rfl rfl ?_) | ((with_reducible refine g_pk ?_); refine l_p txs rfl rfl ?_)))
  (with_reducible refine is_l ?_); refine h_ldR recs H 1 rfl rfl rfl rfl nR ?_
  (with_reducible refine is_l ?_); refine h_ldR recs H 3 rfl rfl rfl rfl nR ?_
  (with_reducible refine is_l ?_); refine l_bag (z := .bool true) guard32 rfl rfl rfl (qR _) ?_
  repeat' ((with_reducible refine g_on ?_); (first | ((with_reducible refine g_mv ?_); refine l_p txs rfl rfl ?_) | ((with_reducible refine g_pk ?_); refine l_p txs rfl rfl ?_)))
  (with_reducible refine is_l ?_); refine h_ldR recs H 0 rfl rfl rfl rfl nS ?_
  (with_reducible refine is_l ?_); refine h_ldR recs H 2 rfl rfl rfl rfl nS ?_
  (with_reducible refine is_l ?_); refine l_bag (z := .bool true) guard32 rfl rfl rfl (qS _) ?_
  repeat' (first | ((with_reducible refine g_on ?_); (first | ((with_reducible refine g_mv ?_); refine l_p txs rfl rfl ?_) | ((with_reducible refine g_pk ?_); refine l_p txs rfl rfl ?_))) | ((with_reducible refine g_if ?_); ((with_reducible refine g_mv ?_); refine l_p txs rfl rfl ?_)))
  (with_reducible refine is_l ?_); refine l_t txs rfl rfl (fun _ => ?_) (fun h => absurd rfl h)
  repeat' (first | (with_reducible first | refine p_tn ?_ | refine wp_ret ?_ | refine l_nil ?_) | ((with_reducible refine g_on ?_); (first | ((with_reducible refine g_as ?_); refine l_p txs rfl rfl ?_) | ((with_reducible refine g_pk ?_); refine l_p txs rfl rfl ?_))))
  refine end1 rfl rfl ?_
  exact ⟨rfl, H.B⟩
end Go.Proofs.YtnimaenhijlcmaaGreatDoor.K.Rec.Law
end
section
namespace Go.Proofs.YtnimaenhijlcmaaGreatDoor.K.Rec.Law
open Go.RowKit Go.Proofs.YtnimaenhijlcmaaGreatDoor.Q Go.Proofs.YtnimaenhijlcmaaGreatDoor.K Go.Proofs.YtnimaenhijlcmaaGreatDoor.K.Rec Go.Proofs.YtnimaenhijlcmaaGreatDoor.Mb Go.Proofs.YtnimaenhijlcmaaGreatDoorW.PrintWords
set_option linter.unusedVariables false
set_option linter.unusedSimpArgs false
set_option maxRecDepth 100000 in
set_option maxHeartbeats 16000000 in
theorem records11_c {w : World} (hL : LayR w) (t u : ByteArray) (A B : L) (bA : Bytes A) (lA : A.length = 32) (s : Value) :
    Calls Tryz.prog 8 #[.agg (opC 11 t u A B s).toArray] w fun e w' => e = .returned (.bool true) ∧ Below w.heap.size w w' := by
  have nA : (nums .u8 A).length = (nums .u8 zL).length := by rw [nums_length, lA]; rfl
  refine enter (args := [.agg (opC 11 t u A B s).toArray]) Tryz.func8 rfl Tryz.ntmps8 rfl ?_
  have H := Hp.nil w
  repeat' (with_reducible first | refine wp_seq ?_ | refine w_reg ?_)
  (with_reducible refine is_l ?_); refine h_box H rfl rfl (nfL_eq _ _) (fun gX w_ H => ?_)
  have H : Hp w w_ [(gX, 27, opC 11 t u A B s)] [] := H
  repeat' (first | (with_reducible first | refine p_tn ?_ | refine wp_seq ?_ | refine wp_block ?_ | refine w_reg ?_ | refine l_nil ?_) | ((with_reducible refine g_on ?_); (first | ((with_reducible refine g_as ?_); refine l_p txs rfl rfl ?_) | ((with_reducible refine g_fa ?_); refine h_fa flds rfl rfl ?_) | ((with_reducible refine g_ld ?_); (refine h_ld txs H 0 rfl rfl rfl rfl ?_)))))
  (with_reducible refine is_l ?_); refine l_t txs rfl rfl (fun h => absurd h (by decide)) (fun _ => ?_)
  repeat' (first | (with_reducible first | refine p_tn ?_ | refine wp_seq ?_ | refine w_reg ?_) | (with_reducible (refine is_if ?_; (refine w_iff rfl ?_))) | (with_reducible refine l_nil ?_) | ((with_reducible refine g_on ?_); ((with_reducible refine g_as ?_); refine l_p txs rfl rfl ?_)))
  (with_reducible refine is_l ?_); refine l_t txs rfl rfl (fun h => absurd h (by decide)) (fun _ => ?_)
  repeat' (first | (with_reducible first | refine p_tn ?_ | refine wp_seq ?_ | refine w_reg ?_) | (with_reducible (refine is_if ?_; (refine w_iff rfl ?_))) | (with_reducible refine l_nil ?_) | ((with_reducible refine g_on ?_); ((with_reducible refine g_as ?_); refine l_p txs rfl rfl ?_)))
  (with_reducible refine is_l ?_); refine l_t txs rfl rfl (fun _ => ?_) (fun h => absurd rfl h)
  repeat' (first | (with_reducible first | refine p_tn ?_ | refine wp_seq ?_) | (with_reducible (refine is_if ?_; (refine w_ift rfl ?_))) | (with_reducible refine l_nil ?_) | ((with_reducible refine g_on ?_); ((with_reducible refine g_as ?_); refine l_p txs rfl rfl ?_)))
  have hk := fun (w1 : World) => Sum_c A bA lA w1
  have hk2 := fun (w1 : World) => Sum_r A bA lA w1
  generalize strOfNums (sumS A) = x at hk hk2
  refine w_draw (C := fun w' => Hp w w' [(gX, 27, opC 11 t u A B s)] []) (by kernel_rfl) (by kernel_rfl) H.drew ?_
  refine q_val rfl (fun w' K => evF_run (o := ⟨_, _, _, _, _, _⟩) flds rfl) ?_
  refine q_val rfl (fun w' K => evLA_run (o := ⟨_, _, _, _, _, _⟩) recs (cs := nums .u8 A) rfl rfl (fun j v hv => by show World.cell? _ ((⟨gX, 3, none⟩ : Addr).add j) = _; rw [Addr.add_lit]; exact K.cellAt 0 rfl (op_a hv)) nA) ?_
  refine q_call rfl rfl (by kernel_rfl) (fun w1 K => (hk w1).mono fun e w2 h => ⟨h.1, K.call h.2⟩) ?_
  refine q_val rfl (fun w' K => evF_run (o := ⟨_, _, _, _, _, _⟩) flds rfl) ?_
  refine q_val rfl (fun w' K => evLA_run (o := ⟨_, _, _, _, _, _⟩) recs (cs := nums .u8 A) rfl rfl (fun j v hv => by show World.cell? _ ((⟨gX, 3, none⟩ : Addr).add j) = _; rw [Addr.add_lit]; exact K.cellAt 0 rfl (op_a hv)) nA) ?_
  refine q_call rfl rfl (by kernel_rfl) (fun w1 K => (hk2 w1).mono fun e w2 h => ⟨h.1, K.call h.2⟩) ?_
  refine q_val rfl (fun w' K => evT_yes (o := ⟨_, _, _, _, _, _⟩) txs rfl rfl) ?_
  repeat' (first | (with_reducible refine q_nil ?_) | ((with_reducible refine is_q ?_); first | (refine q_off rfl ?_) | (refine q_p txs rfl rfl ?_) | (refine q_a txs rfl rfl (by first | exact in_i64 (by omega) (by omega) | exact in_u8 (by omega) (by omega) | exact in_u64 (by omega) (by omega) | exact in_i32 (by omega) (by omega)) ?_)))
  clear H
  intro w_ H
  repeat' (with_reducible first | refine p_tn ?_ | refine p_tr ?_ | refine p_br ?_ | refine wp_ret ?_)
  refine end1 rfl rfl ?_
  exact ⟨rfl, H.B⟩
set_option maxRecDepth 100000 in
set_option maxHeartbeats 32000000 in
theorem plays_c {w : World} (hL : LayR w) (k : Int) (hk : k ≠ 10) (t u : ByteArray) (ht : t.size ≤ 100000000) (A B : L) (bA : Bytes A) (lA : A.length = 32) (bB : Bytes B) (lB : B.length = 32) (s : Value) :
    Calls Tryz.prog 19 #[.agg (opC k t u A B s).toArray] w fun e w' => e = .returned (.bool true) ∧ Below w.heap.size w w' := by
  refine enter (args := [.agg (opC k t u A B s).toArray]) Tryz.func19 rfl Tryz.ntmps19 rfl ?_
  have H := Hp.nil w
  repeat' (with_reducible first | refine wp_seq ?_ | refine w_reg ?_)
  (with_reducible refine is_l ?_); refine h_box H rfl rfl (nfL_eq _ _) (fun gX w_ H => ?_)
  have H : Hp w w_ [(gX, 27, opC k t u A B s)] [] := H
  repeat' (first | (with_reducible first | refine p_tn ?_ | refine wp_seq ?_ | refine wp_block ?_ | refine w_reg ?_ | refine l_nil ?_) | ((with_reducible refine g_on ?_); (first | ((with_reducible refine g_as ?_); refine l_p txs rfl rfl ?_) | ((with_reducible refine g_fa ?_); refine h_fa flds rfl rfl ?_) | ((with_reducible refine g_ld ?_); (refine h_ld txs H 0 rfl rfl rfl rfl ?_)))))
  (with_reducible refine is_l ?_); refine l_t txs rfl rfl (fun h => ?_) (fun h1 => ?_)
  · have h : k = 1 := h
    subst h
    have hp := fun (w1 : World) (h1 : LayR w1) => checkPath_c h1.lay t
    have hp2 := fun (w1 : World) (h1 : LayR w1) => Ref.checkPath_r h1.tkl t
    generalize pathN (bl t) = x at hp hp2
    repeat' (first | (with_reducible first | refine p_tn ?_ | refine wp_seq ?_) | (with_reducible (refine is_if ?_; (refine w_ift rfl ?_))) | (with_reducible refine l_nil ?_) | ((with_reducible refine g_on ?_); ((with_reducible refine g_as ?_); refine l_p txs rfl rfl ?_)))
    refine w_draw (C := fun w' => Hp w w' [(gX, 27, opC 1 t u A B s)] []) (by kernel_rfl) (by kernel_rfl) H.drew ?_
    refine q_val rfl (fun w' K => evF_run (o := ⟨_, _, _, _, _, _⟩) flds rfl) ?_
    refine q_ld txs rfl rfl (fun w' K => K.cellAt 0 rfl rfl) ?_
    refine q_call rfl rfl (by kernel_rfl) (fun w1 K => (hp w1 (hL.below K.B)).mono fun e w2 h => ⟨h.1, K.call h.2⟩) ?_
    refine q_val rfl (fun w' K => evF_run (o := ⟨_, _, _, _, _, _⟩) flds rfl) ?_
    refine q_ld txs rfl rfl (fun w' K => K.cellAt 0 rfl rfl) ?_
    refine q_call rfl rfl (by kernel_rfl) (fun w1 K => (hp2 w1 (hL.below K.B)).mono fun e w2 h => ⟨h.1, K.call h.2⟩) ?_
    refine q_val rfl (fun w' K => evT_yes (o := ⟨_, _, _, _, _, _⟩) txs rfl rfl) ?_
    repeat' (first | (with_reducible refine q_nil ?_) | ((with_reducible refine is_q ?_); first | (refine q_off rfl ?_) | (refine q_p txs rfl rfl ?_) | (refine q_a txs rfl rfl (by first | exact in_i64 (by omega) (by omega) | exact in_u8 (by omega) (by omega) | exact in_u64 (by omega) (by omega) | exact in_i32 (by omega) (by omega)) ?_)))
    clear H
    intro w_ H
    repeat' (with_reducible first | refine p_tn ?_ | refine p_tr ?_ | refine p_br ?_ | refine wp_ret ?_)
    refine end1 rfl rfl ?_
    exact ⟨rfl, H.B⟩
  repeat' (first | (with_reducible first | refine p_tn ?_ | refine wp_seq ?_ | refine w_reg ?_) | (with_reducible (refine is_if ?_; (refine w_iff rfl ?_))) | (with_reducible refine l_nil ?_) | ((with_reducible refine g_on ?_); ((with_reducible refine g_as ?_); refine l_p txs rfl rfl ?_)))
  (with_reducible refine is_l ?_); refine l_t txs rfl rfl (fun h => ?_) (fun h2 => ?_)
  · have h : k = 2 := h
    subst h
    have hp := fun (w1 : World) (h1 : LayR w1) => (by obtain ⟨⟨⟨mx, hM⟩, _, _⟩, _⟩ := h1; exact checkVersion_c hM t : Calls Tryz.prog 42 #[.string t] w1 fun e w' => e = .returned (.int .i64 (chkV (bl t))) ∧ Below w1.heap.size w1 w')
    have hp2 := fun (w1 : World) => Ref.checkVersion_r t w1
    generalize chkV (bl t) = x at hp hp2
    repeat' (first | (with_reducible first | refine p_tn ?_ | refine wp_seq ?_) | (with_reducible (refine is_if ?_; (refine w_ift rfl ?_))) | (with_reducible refine l_nil ?_) | ((with_reducible refine g_on ?_); ((with_reducible refine g_as ?_); refine l_p txs rfl rfl ?_)))
    refine w_draw (C := fun w' => Hp w w' [(gX, 27, opC 2 t u A B s)] []) (by kernel_rfl) (by kernel_rfl) H.drew ?_
    refine q_val rfl (fun w' K => evF_run (o := ⟨_, _, _, _, _, _⟩) flds rfl) ?_
    refine q_ld txs rfl rfl (fun w' K => K.cellAt 0 rfl rfl) ?_
    refine q_call rfl rfl (by kernel_rfl) (fun w1 K => (hp w1 (hL.below K.B)).mono fun e w2 h => ⟨h.1, K.call h.2⟩) ?_
    refine q_val rfl (fun w' K => evF_run (o := ⟨_, _, _, _, _, _⟩) flds rfl) ?_
    refine q_ld txs rfl rfl (fun w' K => K.cellAt 0 rfl rfl) ?_
    refine q_call rfl rfl (by kernel_rfl) (fun w1 K => (hp2 w1).mono fun e w2 h => ⟨h.1, K.call h.2⟩) ?_
    refine q_val rfl (fun w' K => evT_yes (o := ⟨_, _, _, _, _, _⟩) txs rfl rfl) ?_
    repeat' (first | (with_reducible refine q_nil ?_) | ((with_reducible refine is_q ?_); first | (refine q_off rfl ?_) | (refine q_p txs rfl rfl ?_) | (refine q_a txs rfl rfl (by first | exact in_i64 (by omega) (by omega) | exact in_u8 (by omega) (by omega) | exact in_u64 (by omega) (by omega) | exact in_i32 (by omega) (by omega)) ?_)))
    clear H
    intro w_ H
    repeat' (with_reducible first | refine p_tn ?_ | refine p_tr ?_ | refine p_br ?_ | refine wp_ret ?_)
    refine end1 rfl rfl ?_
    exact ⟨rfl, H.B⟩
  repeat' (first | (with_reducible first | refine p_tn ?_ | refine wp_seq ?_ | refine w_reg ?_) | (with_reducible (refine is_if ?_; (refine w_iff rfl ?_))) | (with_reducible refine l_nil ?_) | ((with_reducible refine g_on ?_); ((with_reducible refine g_as ?_); refine l_p txs rfl rfl ?_)))
  (with_reducible refine is_l ?_); refine l_t txs rfl rfl (fun h => ?_) (fun h3 => ?_)
  · have h : k = 3 := h
    subst h
    repeat' (first | (with_reducible first | refine p_tn ?_ | refine wp_seq ?_ | refine w_reg ?_) | (with_reducible (refine is_if ?_; (refine w_ift rfl ?_))) | (with_reducible first | refine wp_skip ?_ | refine l_nil ?_) | ((with_reducible refine g_on ?_); ((with_reducible refine g_as ?_); refine l_p txs rfl rfl ?_)))
    (with_reducible refine is_l ?_); refine h_ldR recs H 0 rfl rfl rfl rfl (op_len lA lB) ?_
    (with_reducible refine is_l ?_); refine l_callv rfl rfl (by kernel_rfl) (escapes3_c (hL.below H.B) t u ht A B s) (fun w_ K => ?_)
    have H := H.call K
    repeat' (first | (with_reducible first | refine p_tn ?_ | refine p_tr ?_ | refine p_br ?_ | refine wp_ret ?_ | refine l_nil ?_) | ((with_reducible refine g_on ?_); ((with_reducible refine g_as ?_); refine l_p txs rfl rfl ?_)))
    refine end1 rfl rfl ?_
    exact ⟨rfl, H.B⟩
  repeat' (first | (with_reducible first | refine p_tn ?_ | refine wp_seq ?_ | refine w_reg ?_) | (with_reducible (refine is_if ?_; (refine w_iff rfl ?_))) | (with_reducible refine l_nil ?_) | ((with_reducible refine g_on ?_); ((with_reducible refine g_as ?_); refine l_p txs rfl rfl ?_)))
  (with_reducible refine is_l ?_); refine l_t txs rfl rfl (fun h => ?_) (fun h4 => ?_)
  · have h : k = 4 := h
    subst h
    repeat' (first | (with_reducible first | refine p_tn ?_ | refine wp_seq ?_ | refine w_reg ?_) | (with_reducible (refine is_if ?_; (refine w_ift rfl ?_))) | (with_reducible first | refine wp_skip ?_ | refine l_nil ?_) | ((with_reducible refine g_on ?_); ((with_reducible refine g_as ?_); refine l_p txs rfl rfl ?_)))
    (with_reducible refine is_l ?_); refine h_ldR recs H 0 rfl rfl rfl rfl (op_len lA lB) ?_
    (with_reducible refine is_l ?_); refine l_callv rfl rfl (by kernel_rfl) (escapes4_c (hL.below H.B) t u ht A B s) (fun w_ K => ?_)
    have H := H.call K
    repeat' (first | (with_reducible first | refine p_tn ?_ | refine p_tr ?_ | refine p_br ?_ | refine wp_ret ?_ | refine l_nil ?_) | ((with_reducible refine g_on ?_); ((with_reducible refine g_as ?_); refine l_p txs rfl rfl ?_)))
    refine end1 rfl rfl ?_
    exact ⟨rfl, H.B⟩
  repeat' (first | (with_reducible first | refine p_tn ?_ | refine wp_seq ?_ | refine w_reg ?_) | (with_reducible (refine is_if ?_; (refine w_iff rfl ?_))) | (with_reducible refine l_nil ?_) | ((with_reducible refine g_on ?_); ((with_reducible refine g_as ?_); refine l_p txs rfl rfl ?_)))
  (with_reducible refine is_l ?_); refine l_t txs rfl rfl (fun h => ?_) (fun h5 => ?_)
  · have h : k = 5 := h
    subst h
    repeat' (first | (with_reducible first | refine p_tn ?_ | refine wp_seq ?_ | refine w_reg ?_) | (with_reducible (refine is_if ?_; (refine w_ift rfl ?_))) | (with_reducible first | refine wp_skip ?_ | refine l_nil ?_) | ((with_reducible refine g_on ?_); ((with_reducible refine g_as ?_); refine l_p txs rfl rfl ?_)))
    (with_reducible refine is_l ?_); refine h_ldR recs H 0 rfl rfl rfl rfl (op_len lA lB) ?_
    (with_reducible refine is_l ?_); refine l_callv rfl rfl (by kernel_rfl) (escapes5_c (hL.below H.B) t u ht A B s) (fun w_ K => ?_)
    have H := H.call K
    repeat' (first | (with_reducible first | refine p_tn ?_ | refine p_tr ?_ | refine p_br ?_ | refine wp_ret ?_ | refine l_nil ?_) | ((with_reducible refine g_on ?_); ((with_reducible refine g_as ?_); refine l_p txs rfl rfl ?_)))
    refine end1 rfl rfl ?_
    exact ⟨rfl, H.B⟩
  repeat' (first | (with_reducible first | refine p_tn ?_ | refine w_reg ?_) | (with_reducible (refine is_if ?_; (refine w_iff rfl ?_))) | (with_reducible refine l_nil ?_) | ((with_reducible refine g_on ?_); ((with_reducible refine g_as ?_); refine l_p txs rfl rfl ?_)))
  (with_reducible refine is_l ?_); refine l_t txs rfl rfl (fun h => ?_) (fun h6 => ?_)
  · have h : k = 6 := h
    subst h
    repeat' (first | (with_reducible first | refine p_tn ?_ | refine wp_seq ?_ | refine w_reg ?_) | (with_reducible (refine is_if ?_; (refine w_ift rfl ?_))) | (with_reducible refine l_nil ?_) | ((with_reducible refine g_on ?_); ((with_reducible refine g_as ?_); refine l_p txs rfl rfl ?_)))
    (with_reducible refine is_l ?_); refine h_ldR recs H 0 rfl rfl rfl rfl (op_len lA lB) ?_
    (with_reducible refine is_l ?_); refine l_callv rfl rfl (by kernel_rfl) (escapes6_c (hL.below H.B) t u ht A B s) (fun w_ K => ?_)
    have H := H.call K
    repeat' (first | (with_reducible first | refine p_tn ?_ | refine p_tr ?_ | refine p_br ?_ | refine wp_ret ?_ | refine l_nil ?_) | ((with_reducible refine g_on ?_); ((with_reducible refine g_as ?_); refine l_p txs rfl rfl ?_)))
    refine end1 rfl rfl ?_
    exact ⟨rfl, H.B⟩
  repeat' (first | (with_reducible first | refine p_tn ?_ | refine wp_seq ?_ | refine w_reg ?_) | (with_reducible (refine is_if ?_; (refine w_iff rfl ?_))) | (with_reducible refine l_nil ?_) | ((with_reducible refine g_on ?_); ((with_reducible refine g_as ?_); refine l_p txs rfl rfl ?_)))
  (with_reducible refine is_l ?_); refine l_t txs rfl rfl (fun h => ?_) (fun h7 => ?_)
  · have h : k = 7 := h
    subst h
    repeat' (first | (with_reducible first | refine p_tn ?_ | refine wp_seq ?_ | refine w_reg ?_) | (with_reducible (refine is_if ?_; (refine w_ift rfl ?_))) | (with_reducible first | refine wp_skip ?_ | refine l_nil ?_) | ((with_reducible refine g_on ?_); ((with_reducible refine g_as ?_); refine l_p txs rfl rfl ?_)))
    (with_reducible refine is_l ?_); refine h_ldR recs H 0 rfl rfl rfl rfl (op_len lA lB) ?_
    (with_reducible refine is_l ?_); refine l_callv rfl rfl (by kernel_rfl) (records7_c (hL.below H.B) t u A B s) (fun w_ K => ?_)
    have H := H.call K
    repeat' (first | (with_reducible first | refine p_tn ?_ | refine p_tr ?_ | refine p_br ?_ | refine wp_ret ?_ | refine l_nil ?_) | ((with_reducible refine g_on ?_); ((with_reducible refine g_as ?_); refine l_p txs rfl rfl ?_)))
    refine end1 rfl rfl ?_
    exact ⟨rfl, H.B⟩
  repeat' (first | (with_reducible first | refine p_tn ?_ | refine wp_seq ?_ | refine w_reg ?_) | (with_reducible (refine is_if ?_; (refine w_iff rfl ?_))) | (with_reducible refine l_nil ?_) | ((with_reducible refine g_on ?_); ((with_reducible refine g_as ?_); refine l_p txs rfl rfl ?_)))
  (with_reducible refine is_l ?_); refine l_t txs rfl rfl (fun h => ?_) (fun h8 => ?_)
  · have h : k = 8 := h
    subst h
    repeat' (first | (with_reducible first | refine p_tn ?_ | refine wp_seq ?_ | refine w_reg ?_) | (with_reducible (refine is_if ?_; (refine w_ift rfl ?_))) | (with_reducible first | refine wp_skip ?_ | refine l_nil ?_) | ((with_reducible refine g_on ?_); ((with_reducible refine g_as ?_); refine l_p txs rfl rfl ?_)))
    (with_reducible refine is_l ?_); refine h_ldR recs H 0 rfl rfl rfl rfl (op_len lA lB) ?_
    (with_reducible refine is_l ?_); refine l_callv rfl rfl (by kernel_rfl) (records8_c (hL.below H.B) t u ht A B s) (fun w_ K => ?_)
    have H := H.call K
    repeat' (first | (with_reducible first | refine p_tn ?_ | refine p_tr ?_ | refine p_br ?_ | refine wp_ret ?_ | refine l_nil ?_) | ((with_reducible refine g_on ?_); ((with_reducible refine g_as ?_); refine l_p txs rfl rfl ?_)))
    refine end1 rfl rfl ?_
    exact ⟨rfl, H.B⟩
  repeat' (first | (with_reducible first | refine p_tn ?_ | refine wp_seq ?_ | refine w_reg ?_) | (with_reducible (refine is_if ?_; (refine w_iff rfl ?_))) | (with_reducible refine l_nil ?_) | ((with_reducible refine g_on ?_); ((with_reducible refine g_as ?_); refine l_p txs rfl rfl ?_)))
  (with_reducible refine is_l ?_); refine l_t txs rfl rfl (fun h => ?_) (fun h11 => ?_)
  · have h : k = 11 := h
    subst h
    repeat' (first | (with_reducible first | refine p_tn ?_ | refine wp_seq ?_ | refine w_reg ?_) | (with_reducible (refine is_if ?_; (refine w_ift rfl ?_))) | (with_reducible first | refine wp_skip ?_ | refine l_nil ?_) | ((with_reducible refine g_on ?_); ((with_reducible refine g_as ?_); refine l_p txs rfl rfl ?_)))
    (with_reducible refine is_l ?_); refine h_ldR recs H 0 rfl rfl rfl rfl (op_len lA lB) ?_
    (with_reducible refine is_l ?_); refine l_callv rfl rfl (by kernel_rfl) (records11_c (hL.below H.B) t u A B bA lA s) (fun w_ K => ?_)
    have H := H.call K
    repeat' (first | (with_reducible first | refine p_tn ?_ | refine p_tr ?_ | refine p_br ?_ | refine wp_ret ?_ | refine l_nil ?_) | ((with_reducible refine g_on ?_); ((with_reducible refine g_as ?_); refine l_p txs rfl rfl ?_)))
    refine end1 rfl rfl ?_
    exact ⟨rfl, H.B⟩
  repeat' (first | (with_reducible first | refine p_tn ?_ | refine wp_seq ?_ | refine w_reg ?_) | (with_reducible (refine is_if ?_; (refine w_iff rfl ?_))) | (with_reducible refine l_nil ?_) | ((with_reducible refine g_on ?_); ((with_reducible refine g_as ?_); refine l_p txs rfl rfl ?_)))
  (with_reducible refine is_l ?_); refine l_t txs rfl rfl (fun h => ?_) (fun h12 => ?_)
  · have h : k = 12 := h
    subst h
    repeat' (first | (with_reducible first | refine p_tn ?_ | refine wp_seq ?_ | refine w_reg ?_) | (with_reducible (refine is_if ?_; (refine w_ift rfl ?_))) | (with_reducible first | refine wp_skip ?_ | refine l_nil ?_) | ((with_reducible refine g_on ?_); ((with_reducible refine g_as ?_); refine l_p txs rfl rfl ?_)))
    (with_reducible refine is_l ?_); refine h_ldR recs H 0 rfl rfl rfl rfl (op_len lA lB) ?_
    (with_reducible refine is_l ?_); refine l_callv rfl rfl (by kernel_rfl) (records12_c (hL.below H.B) t u ht A B s) (fun w_ K => ?_)
    have H := H.call K
    repeat' (first | (with_reducible first | refine p_tn ?_ | refine p_tr ?_ | refine p_br ?_ | refine wp_ret ?_ | refine l_nil ?_) | ((with_reducible refine g_on ?_); ((with_reducible refine g_as ?_); refine l_p txs rfl rfl ?_)))
    refine end1 rfl rfl ?_
    exact ⟨rfl, H.B⟩
  repeat' (first | (with_reducible first | refine p_tn ?_ | refine wp_seq ?_ | refine w_reg ?_) | (with_reducible (refine is_if ?_; (refine w_iff rfl ?_))) | (with_reducible refine l_nil ?_) | ((with_reducible refine g_on ?_); ((with_reducible refine g_as ?_); refine l_p txs rfl rfl ?_)))
  (with_reducible refine is_l ?_); refine l_t txs rfl rfl (fun h => ?_) (fun h13 => ?_)
  · have h : k = 13 := h
    subst h
    repeat' (first | (with_reducible first | refine p_tn ?_ | refine wp_seq ?_ | refine w_reg ?_) | (with_reducible (refine is_if ?_; (refine w_ift rfl ?_))) | (with_reducible first | refine wp_skip ?_ | refine l_nil ?_) | ((with_reducible refine g_on ?_); ((with_reducible refine g_as ?_); refine l_p txs rfl rfl ?_)))
    (with_reducible refine is_l ?_); refine h_ldR recs H 0 rfl rfl rfl rfl (op_len lA lB) ?_
    (with_reducible refine is_l ?_); refine l_callv rfl rfl (by kernel_rfl) (records13_c (hL.below H.B) t u A B bA lA bB lB s) (fun w_ K => ?_)
    have H := H.call K
    repeat' (first | (with_reducible first | refine p_tn ?_ | refine p_tr ?_ | refine p_br ?_ | refine wp_ret ?_ | refine l_nil ?_) | ((with_reducible refine g_on ?_); ((with_reducible refine g_as ?_); refine l_p txs rfl rfl ?_)))
    refine end1 rfl rfl ?_
    exact ⟨rfl, H.B⟩
  repeat' (first | (with_reducible first | refine p_tn ?_ | refine w_reg ?_) | (with_reducible (refine is_if ?_; (refine w_iff rfl ?_))) | (with_reducible refine l_nil ?_) | ((with_reducible refine g_on ?_); ((with_reducible refine g_as ?_); refine l_p txs rfl rfl ?_)))
  (with_reducible refine is_l ?_); refine l_t txs rfl rfl (fun h => ?_) (fun h14 => ?_)
  · have h : k = 14 := h
    subst h
    repeat' (first | (with_reducible first | refine p_tn ?_ | refine wp_seq ?_ | refine w_reg ?_) | (with_reducible (refine is_if ?_; (refine w_ift rfl ?_))) | (with_reducible refine l_nil ?_) | ((with_reducible refine g_on ?_); ((with_reducible refine g_as ?_); refine l_p txs rfl rfl ?_)))
    (with_reducible refine is_l ?_); refine h_ldR recs H 0 rfl rfl rfl rfl (op_len lA lB) ?_
    (with_reducible refine is_l ?_); refine l_callv rfl rfl (by kernel_rfl) (records14_c (hL.below H.B) t u A B s) (fun w_ K => ?_)
    have H := H.call K
    repeat' (first | (with_reducible first | refine p_tn ?_ | refine p_tr ?_ | refine p_br ?_ | refine wp_ret ?_ | refine l_nil ?_) | ((with_reducible refine g_on ?_); ((with_reducible refine g_as ?_); refine l_p txs rfl rfl ?_)))
    refine end1 rfl rfl ?_
    exact ⟨rfl, H.B⟩
  repeat' (first | (with_reducible first | refine p_tn ?_ | refine wp_seq ?_ | refine w_reg ?_) | (with_reducible (refine is_if ?_; (refine w_iff rfl ?_))) | (with_reducible refine l_nil ?_) | ((with_reducible refine g_on ?_); ((with_reducible refine g_as ?_); refine l_p txs rfl rfl ?_)))
  (with_reducible refine is_l ?_); refine l_t txs rfl rfl (fun h => ?_) (fun h9 => ?_)
  · have h : k = 9 := h
    subst h
    have hp := fun (w1 : World) (h1 : LayR w1) => (by obtain ⟨⟨⟨mx, hM⟩, _, _⟩, _⟩ := h1; exact Compare_c hM t u : Calls Tryz.prog 31 #[.string t, .string u] w1 fun e w' => e = .returned (.int .i64 (compareS (bl t) (bl u))) ∧ Below w1.heap.size w1 w')
    have hp2 := fun (w1 : World) => Ref.Compare_r t u w1
    generalize compareS (bl t) (bl u) = x at hp hp2
    repeat' (first | (with_reducible first | refine p_tn ?_ | refine wp_seq ?_) | (with_reducible (refine is_if ?_; (refine w_ift rfl ?_))) | (with_reducible refine l_nil ?_) | ((with_reducible refine g_on ?_); ((with_reducible refine g_as ?_); refine l_p txs rfl rfl ?_)))
    refine w_draw (C := fun w' => Hp w w' [(gX, 27, opC 9 t u A B s)] []) (by kernel_rfl) (by kernel_rfl) H.drew ?_
    refine q_val rfl (fun w' K => evF_run (o := ⟨_, _, _, _, _, _⟩) flds rfl) ?_
    refine q_ld txs rfl rfl (fun w' K => K.cellAt 0 rfl rfl) ?_
    refine q_val rfl (fun w' K => evF_run (o := ⟨_, _, _, _, _, _⟩) flds rfl) ?_
    refine q_ld txs rfl rfl (fun w' K => K.cellAt 0 rfl rfl) ?_
    refine q_call rfl rfl (by kernel_rfl) (fun w1 K => (hp w1 (hL.below K.B)).mono fun e w2 h => ⟨h.1, K.call h.2⟩) ?_
    refine q_val rfl (fun w' K => evF_run (o := ⟨_, _, _, _, _, _⟩) flds rfl) ?_
    refine q_ld txs rfl rfl (fun w' K => K.cellAt 0 rfl rfl) ?_
    refine q_val rfl (fun w' K => evF_run (o := ⟨_, _, _, _, _, _⟩) flds rfl) ?_
    refine q_ld txs rfl rfl (fun w' K => K.cellAt 0 rfl rfl) ?_
    refine q_call rfl rfl (by kernel_rfl) (fun w1 K => (hp2 w1).mono fun e w2 h => ⟨h.1, K.call h.2⟩) ?_
    refine q_val rfl (fun w' K => evT_yes (o := ⟨_, _, _, _, _, _⟩) txs rfl rfl) ?_
    repeat' (first | (with_reducible refine q_nil ?_) | ((with_reducible refine is_q ?_); first | (refine q_off rfl ?_) | (refine q_p txs rfl rfl ?_) | (refine q_a txs rfl rfl (by first | exact in_i64 (by omega) (by omega) | exact in_u8 (by omega) (by omega) | exact in_u64 (by omega) (by omega) | exact in_i32 (by omega) (by omega)) ?_)))
    clear H
    intro w_ H
    repeat' (with_reducible first | refine p_tn ?_ | refine p_tr ?_ | refine p_br ?_ | refine wp_ret ?_)
    refine end1 rfl rfl ?_
    exact ⟨rfl, H.B⟩
  repeat' (first | (with_reducible first | refine p_tn ?_ | refine wp_seq ?_ | refine w_reg ?_) | (with_reducible (refine is_if ?_; (refine w_iff rfl ?_))) | (with_reducible refine l_nil ?_) | ((with_reducible refine g_on ?_); ((with_reducible refine g_as ?_); refine l_p txs rfl rfl ?_)))
  (with_reducible refine is_l ?_); refine l_t txs rfl rfl (fun h => absurd h hk) (fun _ => ?_)
  repeat' (first | (with_reducible first | refine p_tn ?_ | refine p_bn ?_ | refine wp_seq ?_ | refine w_reg ?_) | (with_reducible (refine is_if ?_; (refine w_iff rfl ?_))) | (with_reducible first | refine wp_skip ?_ | refine wp_ret ?_ | refine l_nil ?_) | ((with_reducible refine g_on ?_); ((with_reducible refine g_as ?_); refine l_p txs rfl rfl ?_)))
  refine end1 rfl rfl ?_
  exact ⟨rfl, H.B⟩
end Go.Proofs.YtnimaenhijlcmaaGreatDoor.K.Rec.Law
end
section
namespace Go.Proofs.YtnimaenhijlcmaaGreatDoor.Mb
set_option linter.unusedVariables false
set_option linter.unusedSimpArgs false
def tlK (s : L) : L := match cutC 64 s with | some (_, b) => b | none => []
def keyF (a b : L) : Int := if cmpB (aheadC 64 a) (aheadC 64 b) ≠ 0 then cmpB (aheadC 64 a) (aheadC 64 b) else if compareS (tlK a) (tlK b) ≠ 0 then compareS (tlK a) (tlK b) else cmpB (tlK a) (tlK b)
theorem ordK : Ord3 keyF := (ordB.comap (aheadC 64)).lex ((ordS.comap tlK).lex (ordB.comap tlK))
theorem cut_sub {s : L} : (∀ y ∈ aheadC 64 s, y ∈ s) ∧ (∀ y ∈ tlK s, y ∈ s) ∧ (aheadC 64 s).length ≤ s.length ∧ (tlK s).length ≤ s.length := by
  unfold aheadC tlK
  cases h : cutC 64 s with
  | none => exact ⟨fun y hy => hy, fun y hy => (by cases hy), Nat.le_refl _, Nat.zero_le _⟩
  | some p =>
    obtain ⟨a, b⟩ := p
    obtain ⟨rfl, _⟩ := cutC_some h
    refine ⟨fun y hy => List.mem_append_left _ hy, fun y hy => List.mem_append_right _ (List.mem_cons_of_mem _ hy), ?_, ?_⟩ <;> simp only [List.length_append, List.length_cons] <;> omega
theorem key_parts {s p v : L} (h : keyS s = some (p, v)) : aheadC 64 s = p ∧ tlK s = v := by
  obtain ⟨rfl, h1, _⟩ := keyS_some h
  unfold aheadC tlK
  rw [cutC_mk _ h1]
  exact ⟨rfl, rfl⟩
theorem cmpB_eq : ∀ {a b : L}, cmpB a b = 0 → a = b
  | [], [], _ => rfl
  | [], _ :: _, h => by simp [cmpB] at h
  | _ :: _, [], h => by simp [cmpB] at h
  | x :: a, y :: b, h => by
    simp only [cmpB] at h
    split at h
    · cases h
    split at h
    · cases h
    rw [show x = y by omega, cmpB_eq h]
def keyE (s : L) : Int := match keyS s with | none => 113 | some (p, v) => (checkS p v : Int)
def firstE : List L → Int
  | [] => 0
  | x :: r => if keyE x ≠ 0 then keyE x else firstE r
theorem firstE_zero : ∀ {l : List L}, firstE l = 0 ↔ ∀ x ∈ l, keyE x = 0
  | [] => by simp [firstE]
  | x :: r => by
    have ih := @firstE_zero r
    rw [firstE]
    by_cases h : keyE x ≠ 0
    · rw [if_pos h]
      exact ⟨fun e => absurd e h, fun e => absurd (e x (List.mem_cons_self ..)) h⟩
    · rw [if_neg h, ih]
      have h0 : keyE x = 0 := Classical.not_not.1 h
      exact ⟨fun e y hy => by rcases List.mem_cons.1 hy with rfl | hy; exact h0; exact e y hy, fun e y hy => e y (List.mem_cons_of_mem _ hy)⟩
def sortE (l : List L) : Int := if 4096 < l.length then 2 else firstE l
theorem keyE_ok {s : L} (h : keyE s = 0) : ∃ p v, keyS s = some (p, v) ∧ checkS p v = 0 ∧ s.length ≤ 384 := by
  unfold keyE at h
  cases hk : keyS s with
  | none => rw [hk] at h; cases h
  | some q =>
    obtain ⟨p, v⟩ := q
    rw [hk] at h
    have h : (checkS p v : Int) = 0 := h
    have h0 : checkS p v = 0 := by omega
    refine ⟨p, v, rfl, h0, ?_⟩
    obtain ⟨h1, x, h2, _⟩ := check_ok h0
    obtain ⟨rfl, _, _⟩ := keyS_some hk
    have := (path_ne h1).2
    have := (ver_no h2).2.2.2.2.2.2
    simp only [List.length_append, List.length_cons]
    omega
theorem keyF_zero {a b : L} (ha : keyE a = 0) (hb : keyE b = 0) (h : keyF a b = 0) : a = b := by
  obtain ⟨p, v, hk, _, _⟩ := keyE_ok ha
  obtain ⟨q, u, hk2, _, _⟩ := keyE_ok hb
  obtain ⟨e1, e2⟩ := key_parts hk
  obtain ⟨e3, e4⟩ := key_parts hk2
  have t := (((ordB.comap (aheadC 64)).lex ((ordS.comap tlK).lex (ordB.comap tlK))).trans a b a (by show keyF a b ≤ 0; omega) (by have := ordK.anti a b; show keyF b a ≤ 0; omega))
  unfold keyF at h
  rw [e1, e2, e3, e4] at h
  split at h
  · rename_i h1; exact absurd h h1
  rename_i h1
  split at h
  · rename_i h2; exact absurd h h2
  have hp : p = q := cmpB_eq (Classical.not_not.1 h1)
  have hv : v = u := cmpB_eq h
  obtain ⟨r1, _, _⟩ := keyS_some hk
  obtain ⟨r2, _, _⟩ := keyS_some hk2
  rw [r1, r2, hp, hv]
abbrev InOrd (l : List L) : Prop := l.Pairwise (fun x y => keyF x y ≤ 0)
theorem ord_one {N M : List L} (hN : InOrd N) (hM : InOrd M) (hp : N.Perm M) (hk : ∀ x ∈ N, keyE x = 0) : N = M :=
  hp.eq_of_pairwise (le := fun x y => keyF x y ≤ 0) (fun a b ha hb h1 h2 => keyF_zero (hk a ha) (hk b (hp.symm.subset hb)) (by have := ordK.anti a b; omega)) hN hM
theorem ins_perm (N : List L) (k : L) (j : Nat) : (N.take j ++ k :: N.drop j).Perm (N ++ [k]) := by
  refine List.perm_middle.trans ?_
  rw [List.take_append_drop]
  exact (List.perm_append_comm (l₁ := [k]) (l₂ := N))
theorem ins_done {N : List L} {k : L} {j : Nat} (hs : InOrd N) (hd : ∀ y ∈ N.drop j, keyF k y ≤ 0) (h : ∀ x, N[j - 1]? = some x → 0 < j → keyF x k ≤ 0) (hj : j ≤ N.length) : InOrd (N.take j ++ k :: N.drop j) := by
  have h1 : InOrd (N.take j ++ N.drop j) := by rw [List.take_append_drop]; exact hs
  obtain ⟨h2, h3, h4⟩ := List.pairwise_append.1 h1
  refine List.pairwise_append.2 ⟨h2, List.pairwise_cons.2 ⟨hd, h3⟩, fun a ha b hb => ?_⟩
  rcases List.mem_cons.1 hb with rfl | hb
  · obtain ⟨i, hi, rfl⟩ := List.getElem_of_mem ha
    rw [List.length_take] at hi
    rw [List.getElem_take]
    have hx := h _ (List.getElem?_eq_getElem (by omega : j - 1 < N.length)) (by omega)
    by_cases he : i = j - 1
    · subst he; exact hx
    · exact (ordK.trans _ _ _ (List.pairwise_iff_getElem.1 hs i (j - 1) (by omega) (by omega) (by omega)) hx).1
  · exact h4 a ha b hb
theorem ins_step {N : List L} {k x : L} {j : Nat} (hx : N[j]? = some x) (hd : ∀ y ∈ N.drop (j + 1), keyF k y ≤ 0) (h : keyF k x ≤ 0) : ∀ y ∈ N.drop j, keyF k y ≤ 0 := by
  intro y hy
  have hj : j < N.length := (List.getElem?_eq_some_iff.1 hx).1
  rw [List.drop_eq_getElem_cons hj, (List.getElem?_eq_some_iff.1 hx).2] at hy
  rcases List.mem_cons.1 hy with rfl | hy
  · exact h
  · exact hd y hy
theorem ins_at {N : List L} {k x : L} {j : Nat} (hx : N[j]? = some x) : N.take (j + 1) ++ k :: N.drop (j + 1) = N.take j ++ x :: k :: N.drop (j + 1) ∧ N.take j ++ k :: N.drop j = N.take j ++ k :: x :: N.drop (j + 1) := by
  have hj : j < N.length := (List.getElem?_eq_some_iff.1 hx).1
  have e := (List.getElem?_eq_some_iff.1 hx).2
  constructor
  · rw [List.take_succ_eq_append_getElem hj, e, List.append_assoc]
    rfl
  · rw [List.drop_eq_getElem_cons hj, e]
end Go.Proofs.YtnimaenhijlcmaaGreatDoor.Mb
end
