/- Joined texts of mine, 5: Yi, QK, Yj. -/
import Derived.Laws.IdiomCopy
import Derived.Test.YthgojbdpmcccaaaGreatDoorWhl4
section
namespace Go.Proofs.YthgojbdpmcccaaaGreatDoor.K
open Go.RowKit Go.Proofs.YthgojbdpmcccaaaGreatDoor.Q Go.Proofs.YthgojbdpmcccaaaGreatDoor.Wb Go.Proofs.YthgojbdpmcccaaaGreatDoorW.PrintWords
set_option linter.unusedVariables false
set_option linter.unusedSimpArgs false
theorem low_take {l : L} {i : Nat} {x : Int} (h : l[i]? = some x) : lowS (l.take (i + 1)) = lowS (l.take i) ++ [lowB x] := by
  have hi : i < l.length := (List.getElem?_eq_some_iff.1 h).1
  have hx : l[i] = x := (List.getElem?_eq_some_iff.1 h).2
  unfold lowS
  rw [List.take_succ_eq_append_getElem hi, hx, List.map_append]
  rfl
set_option maxHeartbeats 4000000 in
theorem lower14_c (s : ByteArray) (w : World) (hs : s.size ≤ 1000000000) : Calls Tryz.prog 55 #[.string s] w fun e w' => e = .returned (.string (strOfNums (lowS (bl s)))) ∧ Below w.heap.size w w' := by
  refine enter (args := [.string s]) Tryz.func55 rfl Tryz.ntmps55 rfl ?_
  have hbl := bl_length s
  have H := (Hp.nil w).nilRow 5 1
  repeat' (first | (first | (with_reducible refine p_tn ?_) | (with_reducible refine wp_seq ?_) | (with_reducible refine wp_block ?_) | (with_reducible refine w_reg ?_)) | (first | (with_reducible refine l_nil ?_) | ((with_reducible refine g_on ?_); ((with_reducible refine g_as ?_); refine l_p txs rfl rfl ?_))))
  refine w_loop (σ := Nat × Option Addr × Nat) (S := fun s' => [(0, .string s), (3, .slice s'.2.1 (lowS ((bl s).take s'.1)).length s'.2.2), (4, .int .i64 (s'.1 : Int))])
    (J := fun s' w' => Hp w w' [] [rowB (.slice s'.2.1 (lowS ((bl s).take s'.1)).length s'.2.2) (lowS ((bl s).take s'.1))] ∧ s'.1 ≤ s.size) (μ := fun s' => s.size - s'.1) (0, none, 0) ⟨rfl, rfl, rfl, trivial⟩ ⟨H, by omega⟩ ?_
  rintro ⟨i, A2, c2⟩ f w_ ⟨H, hi⟩
  simp only at H hi ⊢
  repeat' (first | (first | (with_reducible refine wp_seq ?_) | (with_reducible refine w_reg ?_)) | ((with_reducible refine g_on ?_); (first | ((with_reducible refine g_mv ?_); refine l_p txs rfl rfl ?_) | ((with_reducible refine g_cl ?_); refine l_p txs rfl rfl ?_))))
  (with_reducible refine is_l ?_); refine l_t txs rfl rfl (fun hlt => ?_) (fun hge => ?_)
  · obtain ⟨x, hx⟩ : ∃ x, (bl s)[i]? = some x := ⟨_, List.getElem?_eq_getElem (by omega)⟩
    have hx2 := bl_bytes s x (List.mem_of_getElem? hx)
    have hlow := low_take hx
    have hl0 : (lowS ((bl s).take i)).length = i := by unfold lowS; rw [List.length_map, List.length_take]; omega
    have hl1 : (lowS ((bl s).take (i + 1))).length = (lowS ((bl s).take i)).length + 1 := by rw [hlow]; simp
    have hat : at_ (bl s) (i : Int) = x := by unfold at_; rw [Int.toNat_natCast, List.getD_eq_getElem?_getD, hx]; rfl
    repeat' (first | (first | (with_reducible refine p_tn ?_) | (with_reducible refine wp_seq ?_) | (with_reducible refine wp_block ?_) | (with_reducible refine w_reg ?_) | (with_reducible (refine is_if ?_; (refine w_ift rfl ?_))) | (with_reducible refine wp_skip ?_)) | (first | (with_reducible refine l_nil ?_) | ((with_reducible refine g_on ?_); (first | ((with_reducible refine g_mv ?_); refine l_p txs rfl rfl ?_) | ((with_reducible refine g_as ?_); refine l_p txs rfl rfl ?_) | ((with_reducible refine g_ix ?_); refine l_ix txs rfl rfl (by first | omega | assumption | decide) (by first | omega | assumption | decide) ?_)))))
    rw [hat]
    skip
    (with_reducible refine is_l ?_); refine l_t txs rfl rfl (fun h1 => ?_) (fun h1 => ?_)
    · repeat' (first | ((with_reducible refine g_on ?_); ((with_reducible refine g_mv ?_); refine l_p txs rfl rfl ?_)) | ((with_reducible refine g_if ?_); ((with_reducible refine g_mv ?_); refine l_p txs rfl rfl ?_)))
      (with_reducible refine is_l ?_); refine l_t txs rfl rfl (fun h2 => ?_) (fun h2 => ?_)
      · have hxe : lowB x = x + 32 := if_pos ⟨by omega, by omega⟩
        repeat' (first | (first | (with_reducible refine p_tn ?_) | (with_reducible refine w_reg ?_) | (with_reducible (refine is_if ?_; (refine w_ift rfl ?_)))) | (first | (with_reducible refine l_nil ?_) | ((with_reducible refine g_on ?_); (first | ((with_reducible refine g_mv ?_); refine l_p txs rfl rfl ?_) | ((with_reducible refine g_as ?_); refine l_p txs rfl rfl ?_) | ((with_reducible refine g_pk ?_); refine l_p txs rfl rfl ?_) | ((with_reducible refine g_bi ?_); (refine l_a txs rfl rfl (by first | exact in_i64 (by omega) (by omega) | exact in_u8 (by omega) (by omega) | exact in_u64 (by omega) (by omega) | exact in_i32 (by omega) (by omega)) ?_))))))
        (with_reducible refine is_l ?_); refine h_bs H info_u8 Tryz.underlying23 (by decide) (by decide) rfl rfl (by kernel_rfl) (fun g_ w_ H => ?_)
        (with_reducible refine is_l ?_); refine h_app H 0 rfl info_u8 Tryz.underlying23 rfl rfl rfl rfl (H.cellRd 0 rfl) rfl rfl (by show ((lowS ((bl s).take i)).length + 1) * 1 ≤ _; omega) (fun v w_ hv H => ?_)
        obtain ⟨A', c', rfl⟩ := hv
        have H := H.pick [] [0] (by decide) (by decide) rfl rfl
        repeat' (first | (first | (with_reducible refine p_tn ?_) | (with_reducible refine p_bn ?_) | (with_reducible refine w_reg ?_)) | (first | (with_reducible refine l_nil ?_) | ((with_reducible refine g_on ?_); (first | ((with_reducible refine g_mv ?_); refine l_p txs rfl rfl ?_) | ((with_reducible refine g_as ?_); refine l_p txs rfl rfl ?_) | ((with_reducible refine g_bi ?_); (refine l_a txs rfl rfl (by first | exact in_i64 (by omega) (by omega) | exact in_u8 (by omega) (by omega) | exact in_u64 (by omega) (by omega) | exact in_i32 (by omega) (by omega)) ?_))))))
        refine ⟨(i + 1, A', c'), _, rfl, ⟨rfl, ?_, rfl, trivial⟩, ⟨?_, by show i + 1 ≤ _; omega⟩, by show _ - (i + 1) < _ - i; omega⟩
        · show Value.slice A' ((lowS ((bl s).take i)).length + 1) c' = Value.slice A' (lowS ((bl s).take (i + 1))).length c'
          rw [hl1]
        · show Hp w _ [] [rowB (.slice A' (lowS ((bl s).take (i + 1))).length c') (lowS ((bl s).take (i + 1)))]
          unfold rowB
          rw [hl1, hlow, hxe, nums_append]
          exact H
      · have hxe : lowB x = x := if_neg (by omega)
        repeat' (first | (first | (with_reducible refine p_tn ?_) | (with_reducible refine w_reg ?_) | (with_reducible (refine is_if ?_; (refine w_iff rfl ?_))) | (with_reducible refine wp_skip ?_)) | (first | (with_reducible refine l_nil ?_) | ((with_reducible refine g_on ?_); (first | ((with_reducible refine g_mv ?_); refine l_p txs rfl rfl ?_) | ((with_reducible refine g_pk ?_); refine l_p txs rfl rfl ?_)))))
        (with_reducible refine is_l ?_); refine h_bs H info_u8 Tryz.underlying23 (by decide) (by decide) rfl rfl (by kernel_rfl) (fun g_ w_ H => ?_)
        (with_reducible refine is_l ?_); refine h_app H 0 rfl info_u8 Tryz.underlying23 rfl rfl rfl rfl (H.cellRd 0 rfl) rfl rfl (by show ((lowS ((bl s).take i)).length + 1) * 1 ≤ _; omega) (fun v w_ hv H => ?_)
        obtain ⟨A', c', rfl⟩ := hv
        have H := H.pick [] [0] (by decide) (by decide) rfl rfl
        repeat' (first | (first | (with_reducible refine p_tn ?_) | (with_reducible refine p_bn ?_) | (with_reducible refine w_reg ?_)) | (first | (with_reducible refine l_nil ?_) | ((with_reducible refine g_on ?_); (first | ((with_reducible refine g_mv ?_); refine l_p txs rfl rfl ?_) | ((with_reducible refine g_as ?_); refine l_p txs rfl rfl ?_) | ((with_reducible refine g_bi ?_); (refine l_a txs rfl rfl (by first | exact in_i64 (by omega) (by omega) | exact in_u8 (by omega) (by omega) | exact in_u64 (by omega) (by omega) | exact in_i32 (by omega) (by omega)) ?_))))))
        refine ⟨(i + 1, A', c'), _, rfl, ⟨rfl, ?_, rfl, trivial⟩, ⟨?_, by show i + 1 ≤ _; omega⟩, by show _ - (i + 1) < _ - i; omega⟩
        · show Value.slice A' ((lowS ((bl s).take i)).length + 1) c' = Value.slice A' (lowS ((bl s).take (i + 1))).length c'
          rw [hl1]
        · show Hp w _ [] [rowB (.slice A' (lowS ((bl s).take (i + 1))).length c') (lowS ((bl s).take (i + 1)))]
          unfold rowB
          rw [hl1, hlow, hxe, nums_append]
          exact H
    · have hxe : lowB x = x := if_neg (by omega)
      repeat' (first | (first | (with_reducible refine p_tn ?_) | (with_reducible refine w_reg ?_) | (with_reducible (refine is_if ?_; (refine w_iff rfl ?_))) | (with_reducible refine wp_skip ?_)) | (first | (with_reducible refine l_nil ?_) | ((with_reducible refine g_on ?_); (first | ((with_reducible refine g_mv ?_); refine l_p txs rfl rfl ?_) | ((with_reducible refine g_pk ?_); refine l_p txs rfl rfl ?_))) | ((with_reducible refine g_if ?_); (refine l_off rfl ?_))))
      (with_reducible refine is_l ?_); refine h_bs H info_u8 Tryz.underlying23 (by decide) (by decide) rfl rfl (by kernel_rfl) (fun g_ w_ H => ?_)
      (with_reducible refine is_l ?_); refine h_app H 0 rfl info_u8 Tryz.underlying23 rfl rfl rfl rfl (H.cellRd 0 rfl) rfl rfl (by show ((lowS ((bl s).take i)).length + 1) * 1 ≤ _; omega) (fun v w_ hv H => ?_)
      obtain ⟨A', c', rfl⟩ := hv
      have H := H.pick [] [0] (by decide) (by decide) rfl rfl
      repeat' (first | (first | (with_reducible refine p_tn ?_) | (with_reducible refine p_bn ?_) | (with_reducible refine w_reg ?_)) | (first | (with_reducible refine l_nil ?_) | ((with_reducible refine g_on ?_); (first | ((with_reducible refine g_mv ?_); refine l_p txs rfl rfl ?_) | ((with_reducible refine g_as ?_); refine l_p txs rfl rfl ?_) | ((with_reducible refine g_bi ?_); (refine l_a txs rfl rfl (by first | exact in_i64 (by omega) (by omega) | exact in_u8 (by omega) (by omega) | exact in_u64 (by omega) (by omega) | exact in_i32 (by omega) (by omega)) ?_))))))
      refine ⟨(i + 1, A', c'), _, rfl, ⟨rfl, ?_, rfl, trivial⟩, ⟨?_, by show i + 1 ≤ _; omega⟩, by show _ - (i + 1) < _ - i; omega⟩
      · show Value.slice A' ((lowS ((bl s).take i)).length + 1) c' = Value.slice A' (lowS ((bl s).take (i + 1))).length c'
        rw [hl1]
      · show Hp w _ [] [rowB (.slice A' (lowS ((bl s).take (i + 1))).length c') (lowS ((bl s).take (i + 1)))]
        unfold rowB
        rw [hl1, hlow, hxe, nums_append]
        exact H
  · have hall : (bl s).take i = bl s := List.take_of_length_le (by omega)
    simp only [hall] at H ⊢
    repeat' (first | (first | (with_reducible refine p_tn ?_) | (with_reducible refine p_tx ?_) | (with_reducible refine x_hit ?_) | (with_reducible refine wp_seq ?_) | (with_reducible refine w_reg ?_) | (with_reducible (refine is_if ?_; (refine w_iff rfl ?_))) | (with_reducible refine wp_exit ?_)) | (first | (with_reducible refine l_nil ?_) | ((with_reducible refine g_on ?_); ((with_reducible refine g_mv ?_); refine l_p txs rfl rfl ?_))))
    (with_reducible refine is_l ?_); refine l_text rfl rfl Tryz.underlying23 Tryz.underlying5 Tryz.underlying9 (rowB_rd H 0 (F := A2) (f := c2) (x := lowS (bl s)) rfl).1 ?_
    repeat' (first | (first | (with_reducible refine p_tn ?_) | (with_reducible refine wp_ret ?_)) | (first | (with_reducible refine l_nil ?_) | ((with_reducible refine g_on ?_); ((with_reducible refine g_as ?_); refine l_p txs rfl rfl ?_))))
    refine end1 rfl rfl ?_
    exact ⟨rfl, H.B⟩
theorem drop_blk {x : Int} {r : L} (h : blkB x = true) : (x :: r).dropWhile blkB = r.dropWhile blkB := by rw [List.dropWhile_cons, if_pos h]
theorem drop_nblk {x : Int} {r : L} (h : blkB x = false) : (x :: r).dropWhile blkB = x :: r := by rw [List.dropWhile_cons, if_neg (by rw [h]; decide)]
theorem trimR_blk {x : Int} {r : L} (h : blkB x = true) : trimR (r ++ [x]) = trimR r := by unfold trimR; rw [List.reverse_append]; show ((x :: r.reverse).dropWhile blkB).reverse = _; rw [drop_blk h]
theorem trimR_nblk {x : Int} {r : L} (h : blkB x = false) : trimR (r ++ [x]) = r ++ [x] := by unfold trimR; rw [List.reverse_append]; show ((x :: r.reverse).dropWhile blkB).reverse = _; rw [drop_nblk h]; simp
theorem cons_of {l : L} {x : Int} (h : l[0]? = some x) : l = x :: l.drop 1 := by cases l with
  | nil => simp at h
  | cons a r => simp at h; subst h; rfl
theorem snoc_of {l : L} {x : Int} {k : Nat} (h : l[k]? = some x) (hk : l.length = k + 1) : l = l.take k ++ [x] := by
  have h2 := List.take_succ_eq_append_getElem (l := l) (i := k) (by omega)
  rw [List.take_of_length_le (by omega)] at h2
  have hx : l[k] = x := (List.getElem?_eq_some_iff.1 h).2
  rw [hx] at h2
  exact h2
set_option maxHeartbeats 4000000 in
theorem trimmed_c (s : ByteArray) (w : World) (hs : s.size ≤ 1000000000) : Calls Tryz.prog 56 #[.string s] w fun e w' => e = .returned (.string (strOfNums (trimS (bl s)))) ∧ Below w.heap.size w w' := by
  refine enter (args := [.string s]) Tryz.func56 rfl Tryz.ntmps56 rfl ?_
  have H := Hp.nil w
  repeat' (first | (first | (with_reducible refine p_tn ?_) | (with_reducible refine wp_seq ?_) | (with_reducible refine wp_block ?_) | (with_reducible refine w_reg ?_)) | (first | (with_reducible refine l_nil ?_) | ((with_reducible refine g_on ?_); ((with_reducible refine g_as ?_); refine l_p txs rfl rfl ?_))))
  refine w_loop (σ := ByteArray) (S := fun u => [(0, .string u)]) (J := fun u w' => Hp w w' [] [] ∧ (bl s).dropWhile blkB = (bl u).dropWhile blkB ∧ u.size ≤ s.size) (μ := fun u => u.size) s ⟨rfl, trivial⟩ ⟨H, rfl, Nat.le_refl _⟩ ?_
  rintro u f w_ ⟨H, hd, hu⟩
  have hbl := bl_length u
  have cut : ∀ x, (bl u)[0]? = some x → blkB x = true → (bl s).dropWhile blkB = (bl (u.extract 1 u.size)).dropWhile blkB ∧ (u.extract 1 u.size).size < u.size := by
    intro x hx hb
    have h1 := cons_of hx
    have h2 : 0 < u.size := by have := (List.getElem?_eq_some_iff.1 hx).1; omega
    have h3 : bl (u.extract 1 u.size) = (bl u).drop 1 := by rw [blE, List.take_of_length_le (by rw [List.length_drop]; omega)]
    refine ⟨?_, ?_⟩
    · rw [hd, h3, h1, drop_blk hb]; rfl
    · rw [← bl_length, h3, List.length_drop]; omega
  have done : (∀ x, (bl u)[0]? = some x → blkB x = false) → (bl s).dropWhile blkB = bl u := by
    intro h
    cases hl : bl u with
    | nil => rw [hd, hl]; rfl
    | cons x r => rw [hd, hl]; exact drop_nblk (h x (by rw [hl]; rfl))
  repeat' (first | (first | (with_reducible refine wp_seq ?_) | (with_reducible refine w_reg ?_)) | ((with_reducible refine g_on ?_); (first | ((with_reducible refine g_mv ?_); refine l_p txs rfl rfl ?_) | ((with_reducible refine g_cl ?_); refine l_p txs rfl rfl ?_))))
  (with_reducible refine is_l ?_); refine l_t txs rfl rfl (fun hlt => ?_) (fun hge => ?_)
  · obtain ⟨x, hx⟩ : ∃ x, (bl u)[0]? = some x := ⟨_, List.getElem?_eq_getElem (by omega)⟩
    have hx2 := bl_bytes u x (List.mem_of_getElem? hx)
    have hat : at_ (bl u) 0 = x := by show (bl u).getD 0 0 = x; rw [List.getD_eq_getElem?_getD, hx]; rfl
    repeat' (first | ((with_reducible refine g_on ?_); ((with_reducible refine g_mv ?_); refine l_p txs rfl rfl ?_)) | ((with_reducible refine g_if ?_); (first | ((with_reducible refine g_mv ?_); refine l_p txs rfl rfl ?_) | ((with_reducible refine g_ix ?_); refine l_ix txs rfl rfl (by first | omega | assumption | decide) (by first | omega | assumption | decide) ?_))))
    rw [hat]
    skip
    (with_reducible refine is_l ?_); refine l_t txs rfl rfl (fun h1 => ?_) (fun h1 => ?_)
    · obtain ⟨k1, k2⟩ := cut x hx (by unfold blkB; rw [h1]; rfl)
      repeat' (first | (first | (with_reducible refine p_tn ?_) | (with_reducible refine p_bn ?_) | (with_reducible refine wp_block ?_) | (with_reducible refine w_reg ?_) | (with_reducible (refine is_if ?_; (refine w_ift rfl ?_))) | (with_reducible refine wp_skip ?_)) | (first | (with_reducible refine l_nil ?_) | ((with_reducible refine g_on ?_); (first | ((with_reducible refine g_mv ?_); refine l_p txs rfl rfl ?_) | ((with_reducible refine g_as ?_); refine l_p txs rfl rfl ?_) | ((with_reducible refine g_pk ?_); refine l_p txs rfl rfl ?_) | ((with_reducible refine g_sl ?_); refine l_sl txs rfl rfl (by first | omega | assumption | decide) (by first | omega | assumption | decide) (by first | omega | assumption | decide) ?_))) | ((with_reducible refine g_if ?_); (first | (refine l_off rfl ?_) | (first | ((with_reducible refine g_mv ?_); refine l_p txs rfl rfl ?_) | ((with_reducible refine g_pk ?_); refine l_p txs rfl rfl ?_))))))
      exact ⟨u.extract 1 u.size, _, rfl, ⟨rfl, trivial⟩, ⟨H, k1, by omega⟩, k2⟩
    · repeat' ((with_reducible refine g_if ?_); (first | ((with_reducible refine g_mv ?_); refine l_p txs rfl rfl ?_) | ((with_reducible refine g_ix ?_); refine l_ix txs rfl rfl (by first | omega | assumption | decide) (by first | omega | assumption | decide) ?_)))
      rw [hat]
      skip
      (with_reducible refine is_l ?_); refine l_t txs rfl rfl (fun h2 => ?_) (fun h2 => ?_)
      · obtain ⟨k1, k2⟩ := cut x hx (by unfold blkB; rw [h2]; rfl)
        repeat' (first | (first | (with_reducible refine p_tn ?_) | (with_reducible refine p_bn ?_) | (with_reducible refine wp_block ?_) | (with_reducible refine w_reg ?_) | (with_reducible (refine is_if ?_; (refine w_ift rfl ?_))) | (with_reducible refine wp_skip ?_)) | (first | (with_reducible refine l_nil ?_) | ((with_reducible refine g_on ?_); (first | ((with_reducible refine g_mv ?_); refine l_p txs rfl rfl ?_) | ((with_reducible refine g_as ?_); refine l_p txs rfl rfl ?_) | ((with_reducible refine g_pk ?_); refine l_p txs rfl rfl ?_) | ((with_reducible refine g_sl ?_); refine l_sl txs rfl rfl (by first | omega | assumption | decide) (by first | omega | assumption | decide) (by first | omega | assumption | decide) ?_))) | ((with_reducible refine g_if ?_); ((with_reducible refine g_pk ?_); refine l_p txs rfl rfl ?_))))
        exact ⟨u.extract 1 u.size, _, rfl, ⟨rfl, trivial⟩, ⟨H, k1, by omega⟩, k2⟩
      · have hdu := done (fun y hy => by rw [hx] at hy; injection hy with hy; subst hy; unfold blkB; simp [h1, h2])
        repeat' (first | (first | (with_reducible refine p_tn ?_) | (with_reducible refine p_tx ?_) | (with_reducible refine x_hit ?_) | (with_reducible refine wp_seq ?_) | (with_reducible refine wp_block ?_) | (with_reducible (refine is_if ?_; (refine w_iff rfl ?_))) | (with_reducible refine wp_exit ?_)) | (first | (with_reducible refine l_nil ?_) | ((with_reducible refine g_on ?_); ((with_reducible refine g_pk ?_); refine l_p txs rfl rfl ?_)) | ((with_reducible refine g_if ?_); ((with_reducible refine g_pk ?_); refine l_p txs rfl rfl ?_))))
        refine w_loop (σ := ByteArray) (S := fun v => [(0, .string v)]) (J := fun v w' => Hp w w' [] [] ∧ trimR (bl u) = trimR (bl v) ∧ v.size ≤ u.size) (μ := fun v => v.size) u ⟨rfl, trivial⟩ ⟨H, rfl, Nat.le_refl _⟩ ?_
        rintro v f w_ ⟨H, hv, hvu⟩
        have hvl := bl_length v
        have cut2 : ∀ x, (bl v)[v.size - 1]? = some x → blkB x = true → trimR (bl u) = trimR (bl (v.extract 0 (v.size - 1))) ∧ (v.extract 0 (v.size - 1)).size < v.size := by
          intro x hx hb
          have h2 : v.size - 1 < (bl v).length := (List.getElem?_eq_some_iff.1 hx).1
          have h1 := snoc_of hx (by omega)
          have h3 : bl (v.extract 0 (v.size - 1)) = (bl v).take (v.size - 1) := by rw [blE]; simp
          refine ⟨?_, ?_⟩
          · rw [hv, h3]
            conv => lhs; rw [h1]
            exact trimR_blk hb
          · rw [← bl_length, h3, List.length_take]; omega
        have done2 : (∀ x, (bl v)[v.size - 1]? = some x → blkB x = false) → Value.string v = Value.string (strOfNums (trimS (bl s))) := by
          intro h
          unfold trimS
          rw [hdu, hv]
          have : trimR (bl v) = bl v := by
            cases hz : v.size with
            | zero => have : bl v = [] := List.length_eq_zero_iff.1 (by omega); rw [this]; rfl
            | succ k =>
              have hx : (bl v)[k]? = some (bl v)[k] := List.getElem?_eq_getElem (by omega)
              have h1 := snoc_of hx (by omega)
              rw [h1]
              exact trimR_nblk (h _ (by rw [hz]; exact hx))
          rw [this, strS]
        repeat' (first | (first | (with_reducible refine wp_seq ?_) | (with_reducible refine w_reg ?_)) | ((with_reducible refine g_on ?_); (first | ((with_reducible refine g_mv ?_); refine l_p txs rfl rfl ?_) | ((with_reducible refine g_cl ?_); refine l_p txs rfl rfl ?_))))
        (with_reducible refine is_l ?_); refine l_t txs rfl rfl (fun hlt => ?_) (fun hge => ?_)
        · obtain ⟨x, hx⟩ : ∃ x, (bl v)[v.size - 1]? = some x := ⟨_, List.getElem?_eq_getElem (by omega)⟩
          have hx2 := bl_bytes v x (List.mem_of_getElem? hx)
          have hat : at_ (bl v) ((v.size : Int) - 1) = x := by unfold at_; rw [show ((v.size : Int) - 1).toNat = v.size - 1 by omega, List.getD_eq_getElem?_getD, hx]; rfl
          have hto : ((v.size : Int) - 1).toNat = v.size - 1 := by omega
          repeat' (first | ((with_reducible refine g_on ?_); ((with_reducible refine g_mv ?_); refine l_p txs rfl rfl ?_)) | ((with_reducible refine g_if ?_); (first | ((with_reducible refine g_mv ?_); refine l_p txs rfl rfl ?_) | ((with_reducible refine g_cl ?_); refine l_p txs rfl rfl ?_) | ((with_reducible refine g_ix ?_); refine l_ix txs rfl rfl (by first | omega | assumption | decide) (by first | omega | assumption | decide) ?_) | ((with_reducible refine g_bi ?_); (refine l_a txs rfl rfl (by first | exact in_i64 (by omega) (by omega) | exact in_u8 (by omega) (by omega) | exact in_u64 (by omega) (by omega) | exact in_i32 (by omega) (by omega)) ?_)))))
          rw [hat]
          skip
          (with_reducible refine is_l ?_); refine l_t txs rfl rfl (fun h1 => ?_) (fun h1 => ?_)
          · obtain ⟨k1, k2⟩ := cut2 x hx (by unfold blkB; rw [h1]; rfl)
            repeat' (first | (first | (with_reducible refine p_tn ?_) | (with_reducible refine p_bn ?_) | (with_reducible refine wp_block ?_) | (with_reducible refine w_reg ?_) | (with_reducible (refine is_if ?_; (refine w_ift rfl ?_))) | (with_reducible refine wp_skip ?_)) | (first | (with_reducible refine l_nil ?_) | ((with_reducible refine g_on ?_); (first | ((with_reducible refine g_mv ?_); refine l_p txs rfl rfl ?_) | ((with_reducible refine g_as ?_); refine l_p txs rfl rfl ?_) | ((with_reducible refine g_pk ?_); refine l_p txs rfl rfl ?_) | ((with_reducible refine g_cl ?_); refine l_p txs rfl rfl ?_) | ((with_reducible refine g_sl ?_); refine l_sl txs rfl rfl (by first | omega | assumption | decide) (by first | omega | assumption | decide) (by first | omega | assumption | decide) ?_) | ((with_reducible refine g_bi ?_); (refine l_a txs rfl rfl (by first | exact in_i64 (by omega) (by omega) | exact in_u8 (by omega) (by omega) | exact in_u64 (by omega) (by omega) | exact in_i32 (by omega) (by omega)) ?_)))) | ((with_reducible refine g_if ?_); (first | (refine l_off rfl ?_) | (first | ((with_reducible refine g_mv ?_); refine l_p txs rfl rfl ?_) | ((with_reducible refine g_pk ?_); refine l_p txs rfl rfl ?_))))))
            exact ⟨v.extract 0 (v.size - 1), _, rfl, ⟨by show Value.string (v.extract _ _) = _; rw [hto]; rfl, trivial⟩, ⟨H, k1, by omega⟩, k2⟩
          · repeat' ((with_reducible refine g_if ?_); (first | ((with_reducible refine g_mv ?_); refine l_p txs rfl rfl ?_) | ((with_reducible refine g_cl ?_); refine l_p txs rfl rfl ?_) | ((with_reducible refine g_ix ?_); refine l_ix txs rfl rfl (by first | omega | assumption | decide) (by first | omega | assumption | decide) ?_) | ((with_reducible refine g_bi ?_); (refine l_a txs rfl rfl (by first | exact in_i64 (by omega) (by omega) | exact in_u8 (by omega) (by omega) | exact in_u64 (by omega) (by omega) | exact in_i32 (by omega) (by omega)) ?_))))
            rw [hat]
            skip
            (with_reducible refine is_l ?_); refine l_t txs rfl rfl (fun h2 => ?_) (fun h2 => ?_)
            · obtain ⟨k1, k2⟩ := cut2 x hx (by unfold blkB; rw [h2]; rfl)
              repeat' (first | (first | (with_reducible refine p_tn ?_) | (with_reducible refine p_bn ?_) | (with_reducible refine wp_block ?_) | (with_reducible refine w_reg ?_) | (with_reducible (refine is_if ?_; (refine w_ift rfl ?_))) | (with_reducible refine wp_skip ?_)) | (first | (with_reducible refine l_nil ?_) | ((with_reducible refine g_on ?_); (first | ((with_reducible refine g_mv ?_); refine l_p txs rfl rfl ?_) | ((with_reducible refine g_as ?_); refine l_p txs rfl rfl ?_) | ((with_reducible refine g_pk ?_); refine l_p txs rfl rfl ?_) | ((with_reducible refine g_cl ?_); refine l_p txs rfl rfl ?_) | ((with_reducible refine g_sl ?_); refine l_sl txs rfl rfl (by first | omega | assumption | decide) (by first | omega | assumption | decide) (by first | omega | assumption | decide) ?_) | ((with_reducible refine g_bi ?_); (refine l_a txs rfl rfl (by first | exact in_i64 (by omega) (by omega) | exact in_u8 (by omega) (by omega) | exact in_u64 (by omega) (by omega) | exact in_i32 (by omega) (by omega)) ?_)))) | ((with_reducible refine g_if ?_); ((with_reducible refine g_pk ?_); refine l_p txs rfl rfl ?_))))
              exact ⟨v.extract 0 (v.size - 1), _, rfl, ⟨by show Value.string (v.extract _ _) = _; rw [hto]; rfl, trivial⟩, ⟨H, k1, by omega⟩, k2⟩
            · have he := done2 (fun y hy => by rw [hx] at hy; injection hy with hy; subst hy; unfold blkB; simp [h1, h2])
              repeat' (first | (first | (with_reducible refine p_tn ?_) | (with_reducible refine p_tx ?_) | (with_reducible refine x_hit ?_) | (with_reducible refine wp_seq ?_) | (with_reducible refine w_reg ?_) | (with_reducible (refine is_if ?_; (refine w_iff rfl ?_))) | (with_reducible refine wp_exit ?_) | (with_reducible refine wp_ret ?_)) | (first | (with_reducible refine l_nil ?_) | ((with_reducible refine g_on ?_); (first | ((with_reducible refine g_mv ?_); refine l_p txs rfl rfl ?_) | ((with_reducible refine g_as ?_); refine l_p txs rfl rfl ?_) | ((with_reducible refine g_pk ?_); refine l_p txs rfl rfl ?_))) | ((with_reducible refine g_if ?_); ((with_reducible refine g_pk ?_); refine l_p txs rfl rfl ?_))))
              refine end1 rfl rfl ?_
              exact ⟨by rw [he], H.B⟩
        · have he := done2 (fun y hy => by rw [List.getElem?_eq_none (by omega)] at hy; cases hy)
          repeat' (first | (first | (with_reducible refine p_tn ?_) | (with_reducible refine p_tx ?_) | (with_reducible refine x_hit ?_) | (with_reducible refine wp_seq ?_) | (with_reducible refine w_reg ?_) | (with_reducible (refine is_if ?_; (refine w_iff rfl ?_))) | (with_reducible refine wp_exit ?_) | (with_reducible refine wp_ret ?_)) | (first | (with_reducible refine l_nil ?_) | ((with_reducible refine g_on ?_); (first | ((with_reducible refine g_mv ?_); refine l_p txs rfl rfl ?_) | ((with_reducible refine g_as ?_); refine l_p txs rfl rfl ?_) | ((with_reducible refine g_pk ?_); refine l_p txs rfl rfl ?_))) | ((with_reducible refine g_if ?_); (refine l_off rfl ?_))))
          refine end1 rfl rfl ?_
          exact ⟨by rw [he], H.B⟩
  · have hdu := done (fun y hy => by rw [List.getElem?_eq_none (by omega)] at hy; cases hy)
    repeat' (first | (first | (with_reducible refine p_tn ?_) | (with_reducible refine p_tx ?_) | (with_reducible refine x_hit ?_) | (with_reducible refine wp_seq ?_) | (with_reducible refine wp_block ?_) | (with_reducible (refine is_if ?_; (refine w_iff rfl ?_))) | (with_reducible refine wp_exit ?_)) | (first | (with_reducible refine l_nil ?_) | ((with_reducible refine g_on ?_); (first | ((with_reducible refine g_mv ?_); refine l_p txs rfl rfl ?_) | ((with_reducible refine g_pk ?_); refine l_p txs rfl rfl ?_))) | ((with_reducible refine g_if ?_); (refine l_off rfl ?_))))
    refine w_loop (σ := ByteArray) (S := fun v => [(0, .string v)]) (J := fun v w' => Hp w w' [] [] ∧ trimR (bl u) = trimR (bl v) ∧ v.size ≤ u.size) (μ := fun v => v.size) u ⟨rfl, trivial⟩ ⟨H, rfl, Nat.le_refl _⟩ ?_
    rintro v f w_ ⟨H, hv, hvu⟩
    have hvl := bl_length v
    have cut2 : ∀ x, (bl v)[v.size - 1]? = some x → blkB x = true → trimR (bl u) = trimR (bl (v.extract 0 (v.size - 1))) ∧ (v.extract 0 (v.size - 1)).size < v.size := by
      intro x hx hb
      have h2 : v.size - 1 < (bl v).length := (List.getElem?_eq_some_iff.1 hx).1
      have h1 := snoc_of hx (by omega)
      have h3 : bl (v.extract 0 (v.size - 1)) = (bl v).take (v.size - 1) := by rw [blE]; simp
      refine ⟨?_, ?_⟩
      · rw [hv, h3]
        conv => lhs; rw [h1]
        exact trimR_blk hb
      · rw [← bl_length, h3, List.length_take]; omega
    have done2 : (∀ x, (bl v)[v.size - 1]? = some x → blkB x = false) → Value.string v = Value.string (strOfNums (trimS (bl s))) := by
      intro h
      unfold trimS
      rw [hdu, hv]
      have : trimR (bl v) = bl v := by
        cases hz : v.size with
        | zero => have : bl v = [] := List.length_eq_zero_iff.1 (by omega); rw [this]; rfl
        | succ k =>
          have hx : (bl v)[k]? = some (bl v)[k] := List.getElem?_eq_getElem (by omega)
          have h1 := snoc_of hx (by omega)
          rw [h1]
          exact trimR_nblk (h _ (by rw [hz]; exact hx))
      rw [this, strS]
    repeat' (first | (first | (with_reducible refine wp_seq ?_) | (with_reducible refine w_reg ?_)) | ((with_reducible refine g_on ?_); (first | ((with_reducible refine g_mv ?_); refine l_p txs rfl rfl ?_) | ((with_reducible refine g_cl ?_); refine l_p txs rfl rfl ?_))))
    (with_reducible refine is_l ?_); refine l_t txs rfl rfl (fun hlt => ?_) (fun hge => ?_)
    · obtain ⟨x, hx⟩ : ∃ x, (bl v)[v.size - 1]? = some x := ⟨_, List.getElem?_eq_getElem (by omega)⟩
      have hx2 := bl_bytes v x (List.mem_of_getElem? hx)
      have hat : at_ (bl v) ((v.size : Int) - 1) = x := by unfold at_; rw [show ((v.size : Int) - 1).toNat = v.size - 1 by omega, List.getD_eq_getElem?_getD, hx]; rfl
      have hto : ((v.size : Int) - 1).toNat = v.size - 1 := by omega
      repeat' (first | ((with_reducible refine g_on ?_); ((with_reducible refine g_mv ?_); refine l_p txs rfl rfl ?_)) | ((with_reducible refine g_if ?_); (first | ((with_reducible refine g_mv ?_); refine l_p txs rfl rfl ?_) | ((with_reducible refine g_cl ?_); refine l_p txs rfl rfl ?_) | ((with_reducible refine g_ix ?_); refine l_ix txs rfl rfl (by first | omega | assumption | decide) (by first | omega | assumption | decide) ?_) | ((with_reducible refine g_bi ?_); (refine l_a txs rfl rfl (by first | exact in_i64 (by omega) (by omega) | exact in_u8 (by omega) (by omega) | exact in_u64 (by omega) (by omega) | exact in_i32 (by omega) (by omega)) ?_)))))
      rw [hat]
      skip
      (with_reducible refine is_l ?_); refine l_t txs rfl rfl (fun h1 => ?_) (fun h1 => ?_)
      · obtain ⟨k1, k2⟩ := cut2 x hx (by unfold blkB; rw [h1]; rfl)
        repeat' (first | (first | (with_reducible refine p_tn ?_) | (with_reducible refine p_bn ?_) | (with_reducible refine wp_block ?_) | (with_reducible refine w_reg ?_) | (with_reducible (refine is_if ?_; (refine w_ift rfl ?_))) | (with_reducible refine wp_skip ?_)) | (first | (with_reducible refine l_nil ?_) | ((with_reducible refine g_on ?_); (first | ((with_reducible refine g_mv ?_); refine l_p txs rfl rfl ?_) | ((with_reducible refine g_as ?_); refine l_p txs rfl rfl ?_) | ((with_reducible refine g_pk ?_); refine l_p txs rfl rfl ?_) | ((with_reducible refine g_cl ?_); refine l_p txs rfl rfl ?_) | ((with_reducible refine g_sl ?_); refine l_sl txs rfl rfl (by first | omega | assumption | decide) (by first | omega | assumption | decide) (by first | omega | assumption | decide) ?_) | ((with_reducible refine g_bi ?_); (refine l_a txs rfl rfl (by first | exact in_i64 (by omega) (by omega) | exact in_u8 (by omega) (by omega) | exact in_u64 (by omega) (by omega) | exact in_i32 (by omega) (by omega)) ?_)))) | ((with_reducible refine g_if ?_); (first | (refine l_off rfl ?_) | (first | ((with_reducible refine g_mv ?_); refine l_p txs rfl rfl ?_) | ((with_reducible refine g_pk ?_); refine l_p txs rfl rfl ?_))))))
        exact ⟨v.extract 0 (v.size - 1), _, rfl, ⟨by show Value.string (v.extract _ _) = _; rw [hto]; rfl, trivial⟩, ⟨H, k1, by omega⟩, k2⟩
      · repeat' ((with_reducible refine g_if ?_); (first | ((with_reducible refine g_mv ?_); refine l_p txs rfl rfl ?_) | ((with_reducible refine g_cl ?_); refine l_p txs rfl rfl ?_) | ((with_reducible refine g_ix ?_); refine l_ix txs rfl rfl (by first | omega | assumption | decide) (by first | omega | assumption | decide) ?_) | ((with_reducible refine g_bi ?_); (refine l_a txs rfl rfl (by first | exact in_i64 (by omega) (by omega) | exact in_u8 (by omega) (by omega) | exact in_u64 (by omega) (by omega) | exact in_i32 (by omega) (by omega)) ?_))))
        rw [hat]
        skip
        (with_reducible refine is_l ?_); refine l_t txs rfl rfl (fun h2 => ?_) (fun h2 => ?_)
        · obtain ⟨k1, k2⟩ := cut2 x hx (by unfold blkB; rw [h2]; rfl)
          repeat' (first | (first | (with_reducible refine p_tn ?_) | (with_reducible refine p_bn ?_) | (with_reducible refine wp_block ?_) | (with_reducible refine w_reg ?_) | (with_reducible (refine is_if ?_; (refine w_ift rfl ?_))) | (with_reducible refine wp_skip ?_)) | (first | (with_reducible refine l_nil ?_) | ((with_reducible refine g_on ?_); (first | ((with_reducible refine g_mv ?_); refine l_p txs rfl rfl ?_) | ((with_reducible refine g_as ?_); refine l_p txs rfl rfl ?_) | ((with_reducible refine g_pk ?_); refine l_p txs rfl rfl ?_) | ((with_reducible refine g_cl ?_); refine l_p txs rfl rfl ?_) | ((with_reducible refine g_sl ?_); refine l_sl txs rfl rfl (by first | omega | assumption | decide) (by first | omega | assumption | decide) (by first | omega | assumption | decide) ?_) | ((with_reducible refine g_bi ?_); (refine l_a txs rfl rfl (by first | exact in_i64 (by omega) (by omega) | exact in_u8 (by omega) (by omega) | exact in_u64 (by omega) (by omega) | exact in_i32 (by omega) (by omega)) ?_)))) | ((with_reducible refine g_if ?_); ((with_reducible refine g_pk ?_); refine l_p txs rfl rfl ?_))))
          exact ⟨v.extract 0 (v.size - 1), _, rfl, ⟨by show Value.string (v.extract _ _) = _; rw [hto]; rfl, trivial⟩, ⟨H, k1, by omega⟩, k2⟩
        · have he := done2 (fun y hy => by rw [hx] at hy; injection hy with hy; subst hy; unfold blkB; simp [h1, h2])
          repeat' (first | (first | (with_reducible refine p_tn ?_) | (with_reducible refine p_tx ?_) | (with_reducible refine x_hit ?_) | (with_reducible refine wp_seq ?_) | (with_reducible refine w_reg ?_) | (with_reducible (refine is_if ?_; (refine w_iff rfl ?_))) | (with_reducible refine wp_exit ?_) | (with_reducible refine wp_ret ?_)) | (first | (with_reducible refine l_nil ?_) | ((with_reducible refine g_on ?_); (first | ((with_reducible refine g_mv ?_); refine l_p txs rfl rfl ?_) | ((with_reducible refine g_as ?_); refine l_p txs rfl rfl ?_) | ((with_reducible refine g_pk ?_); refine l_p txs rfl rfl ?_))) | ((with_reducible refine g_if ?_); ((with_reducible refine g_pk ?_); refine l_p txs rfl rfl ?_))))
          refine end1 rfl rfl ?_
          exact ⟨by rw [he], H.B⟩
    · have he := done2 (fun y hy => by rw [List.getElem?_eq_none (by omega)] at hy; cases hy)
      repeat' (first | (first | (with_reducible refine p_tn ?_) | (with_reducible refine p_tx ?_) | (with_reducible refine x_hit ?_) | (with_reducible refine wp_seq ?_) | (with_reducible refine w_reg ?_) | (with_reducible (refine is_if ?_; (refine w_iff rfl ?_))) | (with_reducible refine wp_exit ?_) | (with_reducible refine wp_ret ?_)) | (first | (with_reducible refine l_nil ?_) | ((with_reducible refine g_on ?_); (first | ((with_reducible refine g_mv ?_); refine l_p txs rfl rfl ?_) | ((with_reducible refine g_as ?_); refine l_p txs rfl rfl ?_) | ((with_reducible refine g_pk ?_); refine l_p txs rfl rfl ?_))) | ((with_reducible refine g_if ?_); (refine l_off rfl ?_))))
      refine end1 rfl rfl ?_
      exact ⟨by rw [he], H.B⟩
/-- The fields that are told, and the length, if it is not negative. -/
def toldI (v : Int) : Option Nat := if 0 ≤ v then some v.toNat else none
theorem kept_printed (l : List Fld) : printedS l none = keptS l := by simp [printedS, keptS]
set_option maxHeartbeats 8000000 in
theorem told_c {w : World} (hP : TabP w) {B : Option Addr} {c : Nat} {l : List Fld} (h : Rd w B (fldC l)) (hb : BytesF l) (hl : l.length ≤ 10000000) (v : Int) (hv : v ≤ 9223372036854775807) :
    Calls Tryz.prog 18 #[.slice B l.length c, .int .i64 v] w fun e w' => ∃ A1 c1, e = .returned (.slice A1 (printedS l (toldI v)).length c1) ∧ Hp w w' [] [rowF (.slice A1 (printedS l (toldI v)).length c1) (printedS l (toldI v))] := by
  refine enter (args := [.slice B l.length c, .int .i64 v]) Tryz.func18 rfl Tryz.ntmps18 rfl ?_
  have H := (Hp.nil w).nilRow 95 2
  repeat' (first | (first | (with_reducible refine p_tn ?_) | (with_reducible refine wp_seq ?_) | (with_reducible refine wp_block ?_) | (with_reducible refine w_reg ?_)) | (first | (with_reducible refine l_nil ?_) | ((with_reducible refine g_on ?_); ((with_reducible refine g_as ?_); refine l_p txs rfl rfl ?_))))
  refine w_loop (σ := Nat × Option Addr × Nat) (S := fun s => [(0, .slice B l.length c), (1, .int .i64 v), (5, .slice s.2.1 (keptS (l.take s.1)).length s.2.2), (6, .int .i64 (s.1 : Int))])
    (J := fun s w' => Hp w w' [] [rowF (.slice s.2.1 (keptS (l.take s.1)).length s.2.2) (keptS (l.take s.1))] ∧ s.1 ≤ l.length) (μ := fun s => l.length - s.1) (0, none, 0) ⟨rfl, rfl, rfl, rfl, trivial⟩ ⟨H, by omega⟩ ?_
  rintro ⟨i, A2, c2⟩ f w_ ⟨H, hi⟩
  simp only at H hi ⊢
  repeat' (first | (first | (with_reducible refine wp_seq ?_) | (with_reducible refine w_reg ?_)) | ((with_reducible refine g_on ?_); (first | ((with_reducible refine g_mv ?_); refine l_p txs rfl rfl ?_) | ((with_reducible refine g_cl ?_); refine l_p txs rfl rfl ?_))))
  (with_reducible refine is_l ?_); refine l_t txs rfl rfl (fun hlt => ?_) (fun hge => ?_)
  · obtain ⟨x, hx⟩ : ∃ x, l[i]? = some x := ⟨_, List.getElem?_eq_getElem (by omega)⟩
    obtain ⟨a1, rfl⟩ := rd_some h (i := i) (by omega)
    obtain ⟨bx1, bx2, lx1, lx2⟩ := hb x (List.mem_of_getElem? hx)
    have zx1 := sizeS' bx1
    have zx2 := sizeS' bx2
    have hkt := kept_take hx
    have hkl := kept_len (l.take i)
    rw [List.length_take_of_le (by omega)] at hkl
    have hc1 := fld_part h hx 0 _ rfl
    have hc2 := fld_part h hx 1 _ rfl
    repeat' (first | (first | (with_reducible refine p_tn ?_) | (with_reducible refine wp_seq ?_) | (with_reducible refine wp_block ?_) | (with_reducible refine w_reg ?_) | (with_reducible (refine is_if ?_; (refine w_ift rfl ?_))) | (with_reducible refine wp_skip ?_)) | (first | (with_reducible refine l_nil ?_) | ((with_reducible refine g_on ?_); (first | ((with_reducible refine g_mv ?_); refine l_p txs rfl rfl ?_) | ((with_reducible refine g_ia ?_); refine l_ia txs rfl rfl (by first | omega | assumption | decide) (by first | omega | assumption | decide) ?_)))))
    (with_reducible refine is_l ?_); refine h_fg flds rfl rfl ?_
    (with_reducible refine is_l ?_); refine l_ld txs rfl rfl (by rw [Int.toNat_natCast]; exact H.old hc1) ?_
    skip
    have hlow := lower14_c (strOfNums x.1) w_ (by omega)
    rw [blS bx1] at hlow
    (with_reducible refine is_l ?_); refine l_callv rfl rfl (by kernel_rfl) hlow (fun w_ K => ?_)
    have H := H.call K
    repeat' (first | (first | (with_reducible refine p_tn ?_) | (with_reducible refine wp_seq ?_) | (with_reducible refine w_reg ?_)) | (first | (with_reducible refine l_nil ?_) | ((with_reducible refine g_on ?_); (first | ((with_reducible refine g_mv ?_); refine l_p txs rfl rfl ?_) | ((with_reducible refine g_as ?_); refine l_p txs rfl rfl ?_)))))
    have e1 := blS (bytes_low bx1)
    have e2 : bl (⟨#[99, 111, 110, 116, 101, 110, 116, 45, 108, 101, 110, 103, 116, 104]⟩ : ByteArray) = nLen := by kernel_rfl
    have e3 : bl (⟨#[116, 114, 97, 110, 115, 102, 101, 114, 45, 101, 110, 99, 111, 100, 105, 110, 103]⟩ : ByteArray) = nCode := by kernel_rfl
    have skip : keptF x = false → Hp w w_ [] [rowF (.slice A2 (keptS (l.take (i + 1))).length c2) (keptS (l.take (i + 1)))] ∧ Value.slice A2 (keptS (l.take i)).length c2 = Value.slice A2 (keptS (l.take (i + 1))).length c2 := fun hf => by
      rw [hkt, hf]
      simp only [Bool.false_eq_true, if_false, List.append_nil]
      exact ⟨H.pick [] [0] (by decide) (by decide) rfl rfl, trivial⟩
    (with_reducible refine is_l ?_); refine l_t txs rfl rfl (fun h1 => ?_) (fun h1 => ?_)
    · rw [e1, e2] at h1
      repeat' (first | ((with_reducible refine g_on ?_); ((with_reducible refine g_mv ?_); refine l_p txs rfl rfl ?_)) | ((with_reducible refine g_if ?_); ((with_reducible refine g_mv ?_); refine l_p txs rfl rfl ?_)))
      (with_reducible refine is_l ?_); refine l_t txs rfl rfl (fun h2 => ?_) (fun h2 => ?_)
      · rw [e1, e3] at h2
        have hf : keptF x = true := by
          unfold keptF
          simp [h1, h2]
        rw [hf, if_pos rfl] at hkt
        have htr := fun w1 => trimmed_c (strOfNums x.2) w1 (by omega)
        rw [blS bx2] at htr
        repeat' (first | (first | (with_reducible refine p_tn ?_) | (with_reducible (refine is_if ?_; (refine w_ift rfl ?_)))) | (first | (with_reducible refine l_nil ?_) | ((with_reducible refine g_on ?_); ((with_reducible refine g_pk ?_); refine l_p txs rfl rfl ?_))))
        have HS := H.pick [] [] (by decide) (by decide) rfl rfl
        refine d_start (fun w_ => Hp w w_ _ _) #[false, false, false, false, false, false, false, false, false, false, false, false, false, false, false, false] (by kernel_rfl) rfl rfl HS.drew ?_
        have H := H.drew
        have HS := HS.drew
        first | (refine d_pure (i := 0) #[true, false, false, false, false, false, false, false, false, false, false, false, false, false, false, false] rfl (by kernel_rfl) (fun _ _ _ h => h) rfl (fun w_ => evP_run (o := ⟨_, _, _, _, _, _⟩) txs rfl) ?_)
        first | (refine d_pure (i := 1) #[true, true, false, false, false, false, false, false, false, false, false, false, false, false, false, false] rfl (by kernel_rfl) (fun _ _ _ h => h) rfl (fun w_ => evP_run (o := ⟨_, _, _, _, _, _⟩) txs rfl) ?_)
        first | (refine d_pure (i := 2) #[true, true, true, false, false, false, false, false, false, false, false, false, false, false, false, false] rfl (by kernel_rfl) (fun _ _ _ h => h) rfl (fun w_ => evP_run (o := ⟨_, _, _, _, _, _⟩) txs rfl) ?_)
        first | (refine d_pure (i := 3) #[true, true, true, true, false, false, false, false, false, false, false, false, false, false, false, false] rfl (by kernel_rfl) (fun _ _ _ h => h) rfl (fun w_ => evIA_run (o := ⟨_, _, _, _, _, _⟩) txs rfl (by omega) (by omega)) ?_)
        first | (refine d_pure (i := 4) #[true, true, true, true, true, false, false, false, false, false, false, false, false, false, false, false] rfl (by kernel_rfl) (fun _ _ _ h => h) rfl (fun w_ => evF_run (o := ⟨_, _, _, _, _, _⟩) flds rfl) ?_) | (refine d_pure (i := 4) #[true, true, true, true, true, false, false, false, false, false, false, false, false, false, false, false] rfl (by kernel_rfl) (fun _ _ _ h => h) rfl (fun w_ => evG_run (o := ⟨_, _, _, _, _, _⟩) flds rfl) ?_)
        first | (refine d_take (i := 5) #[true, true, true, true, true, true, false, false, false, false, false, false, false, false, false, false] rfl (by kernel_rfl) (fun _ _ _ h => h) rfl (fun w_ K => evL_run (o := ⟨_, _, _, _, _, _⟩) txs rfl (by rw [Int.toNat_natCast]; exact K.old hc1)) HS ?_)
        first | (refine d_pure (i := 6) #[true, true, true, true, true, true, true, false, false, false, false, false, false, false, false, false] rfl (by kernel_rfl) (fun _ _ _ h => h) rfl (fun w_ => evP_run (o := ⟨_, _, _, _, _, _⟩) txs rfl) ?_)
        first | (refine d_pure (i := 7) #[true, true, true, true, true, true, true, true, false, false, false, false, false, false, false, false] rfl (by kernel_rfl) (fun _ _ _ h => h) rfl (fun w_ => evP_run (o := ⟨_, _, _, _, _, _⟩) txs rfl) ?_)
        first | (refine d_pure (i := 8) #[true, true, true, true, true, true, true, true, true, false, false, false, false, false, false, false] rfl (by kernel_rfl) (fun _ _ _ h => h) rfl (fun w_ => evIA_run (o := ⟨_, _, _, _, _, _⟩) txs rfl (by omega) (by omega)) ?_)
        first | (refine d_pure (i := 9) #[true, true, true, true, true, true, true, true, true, true, false, false, false, false, false, false] rfl (by kernel_rfl) (fun _ _ _ h => h) rfl (fun w_ => evF_run (o := ⟨_, _, _, _, _, _⟩) flds rfl) ?_) | (refine d_pure (i := 9) #[true, true, true, true, true, true, true, true, true, true, false, false, false, false, false, false] rfl (by kernel_rfl) (fun _ _ _ h => h) rfl (fun w_ => evG_run (o := ⟨_, _, _, _, _, _⟩) flds rfl) ?_)
        first | (refine d_take (i := 10) #[true, true, true, true, true, true, true, true, true, true, true, false, false, false, false, false] rfl (by kernel_rfl) (fun _ _ _ h => h) rfl (fun w_ K => evL_run (o := ⟨_, _, _, _, _, _⟩) txs rfl (by rw [Int.toNat_natCast]; exact K.old hc2)) HS ?_)
        refine d_one (i := 11) #[true, true, true, true, true, true, true, true, true, true, true, true, false, false, false, false] rfl (by kernel_rfl) rfl ?_
        refine l_callv rfl rfl (by kernel_rfl) (htr _) (fun w_ K => ?_); have H := H.call K
        refine l_nil ?_
        have HS := H.pick [] [] (by decide) (by decide) rfl rfl
        refine ⟨rfl, HS, ?_⟩
        first | (refine d_pure (i := 12) #[true, true, true, true, true, true, true, true, true, true, true, true, true, false, false, false] rfl (by kernel_rfl) (fun _ _ _ h => h) rfl (fun w_ => evBld_run (o := ⟨_, _, _, _, _, _⟩) rfl (built_f2 _ _)) ?_)
        refine d_one (i := 13) #[true, true, true, true, true, true, true, true, true, true, true, true, true, true, false, false] rfl (by kernel_rfl) rfl ?_
        refine h_bs H info_f Tryz.underlying27 (by decide) (by decide) rfl rfl (fill_f _ _) (fun g_ w_ H => ?_)
        refine l_nil ?_
        have HS := H.pick [] [] (by decide) (by decide) rfl rfl
        refine ⟨rfl, HS, ?_⟩
        refine d_one (i := 14) #[true, true, true, true, true, true, true, true, true, true, true, true, true, true, true, false] rfl (by kernel_rfl) rfl ?_
        (refine h_app H 0 rfl info_f Tryz.underlying27 rfl rfl rfl rfl (H.cellRd 0 rfl) rfl rfl (by show ((keptS (l.take i)).length + 1) * 32 ≤ _; omega) (fun v w_ hv H => ?_)); obtain ⟨A', c', rfl⟩ := hv
        refine l_nil ?_
        have HS := H.pick [] [] (by decide) (by decide) rfl rfl
        refine ⟨rfl, HS, ?_⟩
        first | (refine d_pure (i := 15) #[true, true, true, true, true, true, true, true, true, true, true, true, true, true, true, true] rfl (by kernel_rfl) (fun _ _ _ h => h) rfl (fun w_ => evP_run (o := ⟨_, _, _, _, _, _⟩) txs rfl) ?_)
        refine d_done rfl ?_
        repeat' (first | (first | (with_reducible refine p_tn ?_) | (with_reducible refine p_bn ?_) | (with_reducible refine w_reg ?_)) | (first | (with_reducible refine l_nil ?_) | ((with_reducible refine g_on ?_); (first | ((with_reducible refine g_mv ?_); refine l_p txs rfl rfl ?_) | ((with_reducible refine g_as ?_); refine l_p txs rfl rfl ?_) | ((with_reducible refine g_bi ?_); (refine l_a txs rfl rfl (by first | exact in_i64 (by omega) (by omega) | exact in_u8 (by omega) (by omega) | exact in_u64 (by omega) (by omega) | exact in_i32 (by omega) (by omega)) ?_))))))
        have H := H.pick [] [0] (by decide) (by decide) rfl rfl
        have hlen : (keptS (l.take (i + 1))).length = (keptS (l.take i)).length + 1 := by rw [hkt]; simp
        refine ⟨(i + 1, A', c'), _, rfl, ⟨rfl, rfl, ?_, rfl, trivial⟩, ⟨?_, by show i + 1 ≤ _; omega⟩, by show _ - (i + 1) < _ - i; omega⟩
        · show Value.slice A' ((keptS (l.take i)).length + 1) c' = Value.slice A' (keptS (l.take (i + 1))).length c'
          rw [hlen]
        · show Hp w _ [] [rowF (.slice A' (keptS (l.take (i + 1))).length c') (keptS (l.take (i + 1)))]
          unfold rowF
          rw [hlen, hkt, fldC_snoc]
          exact H
      · have hf : keptF x = false := by
          unfold keptF
          rw [e1, e3] at h2
          simp [Classical.not_not.1 h2]
        obtain ⟨k1, k2⟩ := skip hf
        repeat' (first | (first | (with_reducible refine p_tn ?_) | (with_reducible refine p_bn ?_) | (with_reducible refine w_reg ?_) | (with_reducible (refine is_if ?_; (refine w_iff rfl ?_))) | (with_reducible refine wp_skip ?_)) | (first | (with_reducible refine l_nil ?_) | ((with_reducible refine g_on ?_); (first | ((with_reducible refine g_mv ?_); refine l_p txs rfl rfl ?_) | ((with_reducible refine g_as ?_); refine l_p txs rfl rfl ?_) | ((with_reducible refine g_pk ?_); refine l_p txs rfl rfl ?_) | ((with_reducible refine g_bi ?_); (refine l_a txs rfl rfl (by first | exact in_i64 (by omega) (by omega) | exact in_u8 (by omega) (by omega) | exact in_u64 (by omega) (by omega) | exact in_i32 (by omega) (by omega)) ?_))))))
        refine ⟨(i + 1, A2, c2), _, rfl, ⟨rfl, rfl, k2, rfl, trivial⟩, ⟨k1, by show i + 1 ≤ _; omega⟩, by show _ - (i + 1) < _ - i; omega⟩
    · have hf : keptF x = false := by
        unfold keptF
        rw [e1, e2] at h1
        simp [Classical.not_not.1 h1]
      obtain ⟨k1, k2⟩ := skip hf
      repeat' (first | (first | (with_reducible refine p_tn ?_) | (with_reducible refine p_bn ?_) | (with_reducible refine w_reg ?_) | (with_reducible (refine is_if ?_; (refine w_iff rfl ?_))) | (with_reducible refine wp_skip ?_)) | (first | (with_reducible refine l_nil ?_) | ((with_reducible refine g_on ?_); (first | ((with_reducible refine g_mv ?_); refine l_p txs rfl rfl ?_) | ((with_reducible refine g_as ?_); refine l_p txs rfl rfl ?_) | ((with_reducible refine g_pk ?_); refine l_p txs rfl rfl ?_) | ((with_reducible refine g_bi ?_); (refine l_a txs rfl rfl (by first | exact in_i64 (by omega) (by omega) | exact in_u8 (by omega) (by omega) | exact in_u64 (by omega) (by omega) | exact in_i32 (by omega) (by omega)) ?_)))) | ((with_reducible refine g_if ?_); (refine l_off rfl ?_))))
      refine ⟨(i + 1, A2, c2), _, rfl, ⟨rfl, rfl, k2, rfl, trivial⟩, ⟨k1, by show i + 1 ≤ _; omega⟩, by show _ - (i + 1) < _ - i; omega⟩
  · have hall : l.take i = l := List.take_of_length_le (by omega)
    simp only [hall] at H ⊢
    have hkl := kept_len l
    repeat' (first | (first | (with_reducible refine p_tn ?_) | (with_reducible refine p_tx ?_) | (with_reducible refine x_hit ?_) | (with_reducible refine wp_seq ?_) | (with_reducible refine w_reg ?_) | (with_reducible (refine is_if ?_; (refine w_iff rfl ?_))) | (with_reducible refine wp_exit ?_)) | (first | (with_reducible refine l_nil ?_) | ((with_reducible refine g_on ?_); ((with_reducible refine g_mv ?_); refine l_p txs rfl rfl ?_))))
    (with_reducible refine is_l ?_); refine l_t txs rfl rfl (fun hpos => ?_) (fun hneg => ?_)
    · repeat' (first | (first | (with_reducible refine p_tn ?_) | (with_reducible refine w_reg ?_) | (with_reducible (refine is_if ?_; (refine w_ift rfl ?_)))) | (first | (with_reducible refine l_nil ?_) | ((with_reducible refine g_on ?_); ((with_reducible refine g_mv ?_); refine l_p txs rfl rfl ?_))))
      have hit := itoa_c (hP.below H.B) v.toNat (by omega)
      rw [show ((v.toNat : Nat) : Int) = v by omega] at hit
      (with_reducible refine is_l ?_); refine l_callv rfl rfl (by kernel_rfl) hit (fun w_ K => ?_)
      have H := H.call K
      skip
      (with_reducible refine is_l ?_); refine h_bld rfl rfl (built_f2 _ _) ?_
      skip
      (with_reducible refine is_l ?_); refine h_bs H info_f Tryz.underlying27 (by decide) (by decide) rfl rfl (fill_f _ _) (fun g_ w_ H => ?_)
      (with_reducible refine is_l ?_); refine h_app H 0 rfl info_f Tryz.underlying27 rfl rfl rfl rfl (H.cellRd 0 rfl) rfl rfl (by show ((keptS l).length + 1) * 32 ≤ _; omega) (fun v w_ hv H => ?_)
      obtain ⟨A', c', rfl⟩ := hv
      repeat' (first | (first | (with_reducible refine p_tn ?_) | (with_reducible refine wp_seq ?_) | (with_reducible refine w_reg ?_) | (with_reducible refine wp_ret ?_)) | (first | (with_reducible refine l_nil ?_) | ((with_reducible refine g_on ?_); (first | ((with_reducible refine g_mv ?_); refine l_p txs rfl rfl ?_) | ((with_reducible refine g_as ?_); refine l_p txs rfl rfl ?_)))))
      refine end1 rfl rfl ?_
      have e : printedS l (toldI v) = keptS l ++ [(nLenP, decS v.toNat)] := by unfold toldI; rw [if_pos (by omega)]; simp [printedS, keptS]
      have hlen : (keptS l ++ [(nLenP, decS v.toNat)]).length = (keptS l).length + 1 := by simp
      rw [e]
      unfold rowF
      rw [hlen, fldC_snoc]
      exact ⟨A', c', rfl, H.pick [] [0] (by decide) (by decide) rfl rfl⟩
    · repeat' (first | (first | (with_reducible refine p_tn ?_) | (with_reducible refine wp_seq ?_) | (with_reducible refine w_reg ?_) | (with_reducible (refine is_if ?_; (refine w_iff rfl ?_))) | (with_reducible refine wp_skip ?_) | (with_reducible refine wp_ret ?_)) | (first | (with_reducible refine l_nil ?_) | ((with_reducible refine g_on ?_); (first | ((with_reducible refine g_mv ?_); refine l_p txs rfl rfl ?_) | ((with_reducible refine g_as ?_); refine l_p txs rfl rfl ?_)))))
      refine end1 rfl rfl ?_
      have e : printedS l (toldI v) = keptS l := by unfold toldI; rw [if_neg (by omega), kept_printed]
      rw [e]
      exact ⟨A2, c2, rfl, H⟩
theorem cutA_some (a : Addr) (c p : Nat) : ∃ a2, cutA (some a) c p 1 = some a2 := by
  unfold cutA
  split <;> exact ⟨_, rfl⟩
theorem quoN (k m : Nat) (w : World) (hk : k ≤ 1000000000) (hm : 0 < m) : (binOp .quo 3 (.int .i64 (k : Int)) (.int .i64 (m : Int))).run Tryz.prog w = .ok (.int .i64 ((k / m : Nat) : Int)) w := by
  rw [binOp_quo]
  have hle : k / m ≤ k := Nat.div_le_self _ _
  have h1 : (k : Int).tdiv (m : Int) = ((k / m : Nat) : Int) := by rw [Int.tdiv_eq_ediv_of_nonneg (by omega)]; rfl
  generalize k / m = q at hle h1 ⊢
  have h2 : IntKind.i64.wrap (q : Int) = (q : Int) := by rw [IntKind.wrap_i64]; omega
  have h3 : ¬ m = 0 := by omega
  simp [Op.intDiv, h1, h2, h3]
theorem mod_in (at_ : Int) (n : Nat) (h0 : 0 < n) (hn : n ≤ 1000000000) : inK .i64 (at_.tmod (n : Int) + (n : Int)) := by
  have h1 : (at_.tmod (n : Int)).natAbs < n := by rw [Int.natAbs_tmod]; exact Nat.mod_lt _ h0
  exact ⟨by omega, by omega⟩
theorem mod_eq (a : Int) (n : Nat) (h0 : 0 < n) : (a.tmod (n : Int) + (n : Int)).tmod (n : Int) = ((a % (n : Int)).toNat : Int) := by
  have hlt := Int.emod_lt_of_pos a (show (0 : Int) < n by omega)
  have hge := Int.emod_nonneg a (show (n : Int) ≠ 0 by omega)
  rcases Int.le_total 0 a with h | h
  · rw [Int.tmod_eq_emod_of_nonneg h, Int.tmod_eq_emod_of_nonneg (by omega), Int.add_emod_right, Int.emod_emod]; omega
  · have h1 : a.tmod (n : Int) = -((-a) % (n : Int)) := by
      rw [← Int.tmod_eq_emod_of_nonneg (by omega : 0 ≤ -a), Int.neg_tmod, Int.neg_neg]
    have hlt2 := Int.emod_lt_of_pos (-a) (show (0 : Int) < n by omega)
    have hge2 := Int.emod_nonneg (-a) (show (n : Int) ≠ 0 by omega)
    rw [h1, Int.tmod_eq_emod_of_nonneg (by omega)]
    have h2 : (-((-a) % (n : Int)) + (n : Int)) % (n : Int) = a % (n : Int) := by
      have h3 := Int.emod_add_mul_ediv (-a) (n : Int)
      have h4 : -((-a) % (n : Int)) + (n : Int) = a + (n : Int) * ((-a) / (n : Int) + 1) := by rw [Int.mul_add, Int.mul_one]; omega
      rw [h4, Int.add_mul_emod_self_left]
    rw [h2]; omega
set_option maxRecDepth 100000 in
set_option maxHeartbeats 8000000 in
theorem short_c {A : Nat → Addr} {w : World} (hE : LayS A w) {mx : Int} (hM : w.cell? ⟨20, 0, none⟩ = some (.int .i64 mx)) {tM : TypeId} {frM : Nat × Nat} (hT : w.heap[17]? = some (.cells meC tM frM))
    {B : Option Addr} {c : Nat} {b : L} (h : ReadsInt w .u8 B b.length b) (hc : b.length ≤ c) (hb : Bytes b) (hs : b.length ≤ 100000000) (h0 : 0 < b.length) {r : ReqS} (hp : parseReqS b = .ok (r, b.length)) (pt : Int) :
    Calls Tryz.prog 19 #[.slice B b.length c, .int .i64 pt] w fun e w' => e = .returned (.bool true) ∧ Below w.heap.size w w' := by
  have hTb : ∀ w1, Below w.heap.size w w1 → w1.heap[17]? = some (.cells meC tM frM) := fun w1 K => (K.block _ (blk_lt hT)).trans hT
  have hsh : ∀ i, i < b.length → outReq (b.take i) = (zR, 0, 140) := fun i hi => by
    have : parseReqS (b.take i) = .error 140 := req_short hp ⟨b.drop i, (List.take_append_drop i b).symm, by intro e; have := congrArg List.length e; rw [List.length_drop] at this; simp at this; omega⟩
    unfold outReq
    rw [this]
  have hcutn : ∀ i, i < b.length → (cutA B c 0 1 = none → c - 0 = 0 ∧ (b.take i).length = 0) := fun i hi e => by
    cases B with
    | none => obtain ⟨_, a, _⟩ := h.2.2 h0; simp at a
    | some a => obtain ⟨a2, ca⟩ := cutA_some a c 0; rw [ca] at e; cases e
  have hrd : ∀ i, i < b.length → ReadsInt w .u8 (cutA B c 0 1) (b.take i).length (b.take i) := fun i hi => by
    have q := reads_cut h (p := 0) (q := i) (Nat.zero_le _) (by omega) hc
    rw [List.drop_zero, show i - 0 = (b.take i).length by rw [List.length_take]; omega] at q
    exact q
  have hpl : ∀ i, i < b.length → (b.take i).length = i := fun i hi => by rw [List.length_take]; omega
  refine enter (args := [.slice B b.length c, .int .i64 pt]) Tryz.func19 rfl Tryz.ntmps19 rfl ?_
  have H := Hp.nil w
  repeat' (first | (first | (with_reducible refine p_tn ?_) | (with_reducible refine wp_seq ?_) | (with_reducible refine w_reg ?_)) | (first | (with_reducible refine l_nil ?_) | ((with_reducible refine g_on ?_); (first | ((with_reducible refine g_mv ?_); refine l_p txs rfl rfl ?_) | ((with_reducible refine g_as ?_); refine l_p txs rfl rfl ?_) | ((with_reducible refine g_cl ?_); refine l_p txs rfl rfl ?_)))))
  (with_reducible refine is_l ?_); refine l_bii rfl rfl rfl (quoN b.length 200 w (by omega) (by decide)) ?_
  have hq : b.length / 200 ≤ b.length := Nat.div_le_self _ _
  repeat' (first | (first | (with_reducible refine p_tn ?_) | (with_reducible refine wp_seq ?_) | (with_reducible refine wp_block ?_) | (with_reducible refine w_reg ?_)) | (first | (with_reducible refine l_nil ?_) | ((with_reducible refine g_on ?_); (first | ((with_reducible refine g_as ?_); refine l_p txs rfl rfl ?_) | ((with_reducible refine g_bi ?_); (refine l_a txs rfl rfl (by first | exact in_i64 (by omega) (by omega) | exact in_u8 (by omega) (by omega) | exact in_u64 (by omega) (by omega) | exact in_i32 (by omega) (by omega)) ?_))))))
  refine w_loop (σ := Nat) (S := fun s => [(0, .slice B b.length c), (1, .int .i64 pt), (5, .int .i64 (((b.length / 200 : Nat) : Int) + 1)), (6, .int .i64 (s : Int))]) (J := fun s w' => Hp w w' [] [] ∧ s ≤ 300000000) (μ := fun s => b.length - s) 0 ⟨rfl, rfl, rfl, rfl, trivial⟩ ⟨H, by omega⟩ ?_
  rintro i f w_ ⟨H, hi⟩
  repeat' (first | (first | (with_reducible refine wp_seq ?_) | (with_reducible refine w_reg ?_)) | ((with_reducible refine g_on ?_); (first | ((with_reducible refine g_mv ?_); refine l_p txs rfl rfl ?_) | ((with_reducible refine g_cl ?_); refine l_p txs rfl rfl ?_))))
  (with_reducible refine is_l ?_); refine l_t txs rfl rfl (fun hlt => ?_) (fun hge => ?_)
  · have hil : i < b.length := by omega
    repeat' (first | (first | (with_reducible refine p_tn ?_) | (with_reducible refine wp_seq ?_) | (with_reducible refine wp_block ?_) | (with_reducible refine w_reg ?_) | (with_reducible (refine is_if ?_; (refine w_ift rfl ?_))) | (with_reducible refine wp_skip ?_)) | (first | (with_reducible refine l_nil ?_) | ((with_reducible refine g_on ?_); ((with_reducible refine g_mv ?_); refine l_p txs rfl rfl ?_))))
    (with_reducible refine is_l ?_); refine l_cutN txs 0 i rfl rfl (by omega) (by omega) ?_
    have e1 : i - 0 = (b.take i).length := by rw [hpl i hil]; omega
    rw [e1]
    skip
    (with_reducible refine is_l ?_); refine l_call rfl rfl (by kernel_rfl) (ParseRequest_c (c := c - 0) (hE.below H.B) (H.old hM) (hTb _ H.B) ((hrd i hil).below H.B) (by rw [hpl i hil]; omega) (hcutn i hil) (fun x hx => hb x (List.mem_of_mem_take hx)) (by rw [hpl i hil]; omega)) (fun e w_ hR => ?_)
    have hR := prR_out hR
    rw [hsh i hil] at hR
    simp only at hR
    obtain ⟨F1, f1, P1, p1, rfl, K⟩ := hR
    refine ⟨_, rfl, ?_⟩
    have H := H.join K
    repeat' (first | (first | (with_reducible refine p_tn ?_) | (with_reducible refine wp_seq ?_) | (with_reducible refine w_reg ?_)) | (first | (with_reducible refine l_nil ?_) | ((with_reducible refine g_on ?_); (first | ((with_reducible refine g_mv ?_); refine l_p txs rfl rfl ?_) | ((with_reducible refine g_as ?_); refine l_p txs rfl rfl ?_) | ((with_reducible refine g_ex ?_); refine l_p txs rfl rfl ?_) | ((with_reducible refine g_st ?_); (refine h_stR recs H 0 rfl rfl rfl rfl rfl rfl rfl rfl rfl (fun w_ H => ?_))) | ((with_reducible refine g_al ?_); refine h_alloc recs H rfl rfl (fun g_ w_ H => ?_))))))
    (with_reducible refine is_l ?_); refine l_t txs rfl rfl (fun hh => absurd rfl hh) (fun _ => ?_)
    repeat' (first | ((with_reducible refine g_on ?_); ((with_reducible refine g_mv ?_); refine l_p txs rfl rfl ?_)) | ((with_reducible refine g_if ?_); ((with_reducible refine g_mv ?_); refine l_p txs rfl rfl ?_)))
    (with_reducible refine is_l ?_); refine l_t txs rfl rfl (fun hh => absurd rfl hh) (fun _ => ?_)
    repeat' (first | ((with_reducible refine g_on ?_); (first | ((with_reducible refine g_mv ?_); refine l_p txs rfl rfl ?_) | ((with_reducible refine g_pk ?_); refine l_p txs rfl rfl ?_))) | ((with_reducible refine g_if ?_); (first | ((with_reducible refine g_fa ?_); refine h_fa flds rfl rfl ?_) | ((with_reducible refine g_ld ?_); (refine h_ld txs H 0 rfl rfl rfl rfl ?_)))))
    (with_reducible refine is_l ?_); refine l_t txs rfl rfl (fun hh => absurd rfl hh) (fun _ => ?_)
    repeat' (first | ((with_reducible refine g_on ?_); (first | ((with_reducible refine g_mv ?_); refine l_p txs rfl rfl ?_) | ((with_reducible refine g_pk ?_); refine l_p txs rfl rfl ?_))) | ((with_reducible refine g_if ?_); (first | ((with_reducible refine g_fa ?_); refine h_fa flds rfl rfl ?_) | ((with_reducible refine g_ld ?_); (refine h_ld txs H 0 rfl rfl rfl rfl ?_)) | ((with_reducible refine g_cl ?_); refine l_p txs rfl rfl ?_))))
    (with_reducible refine is_l ?_); refine l_t txs rfl rfl (fun hh => absurd rfl hh) (fun _ => ?_)
    repeat' (first | ((with_reducible refine g_on ?_); (first | ((with_reducible refine g_mv ?_); refine l_p txs rfl rfl ?_) | ((with_reducible refine g_pk ?_); refine l_p txs rfl rfl ?_))) | ((with_reducible refine g_if ?_); (first | ((with_reducible refine g_fa ?_); refine h_fa flds rfl rfl ?_) | ((with_reducible refine g_ld ?_); (refine h_ld txs H 0 rfl rfl rfl rfl ?_)) | ((with_reducible refine g_cl ?_); refine l_p txs rfl rfl ?_))))
    (with_reducible refine is_l ?_); refine l_t txs rfl rfl (fun hh => absurd rfl hh) (fun _ => ?_)
    repeat' (first | (first | (with_reducible refine p_tn ?_) | (with_reducible refine p_bn ?_) | (with_reducible refine w_reg ?_) | (with_reducible (refine is_if ?_; (refine w_iff rfl ?_))) | (with_reducible refine wp_skip ?_)) | (first | (with_reducible refine l_nil ?_) | ((with_reducible refine g_on ?_); (first | ((with_reducible refine g_mv ?_); refine l_p txs rfl rfl ?_) | ((with_reducible refine g_as ?_); refine l_p txs rfl rfl ?_) | ((with_reducible refine g_pk ?_); refine l_p txs rfl rfl ?_) | ((with_reducible refine g_bi ?_); (refine l_a txs rfl rfl (by first | exact in_i64 (by omega) (by omega) | exact in_u8 (by omega) (by omega) | exact in_u64 (by omega) (by omega) | exact in_i32 (by omega) (by omega)) ?_))))))
    have H := H.pick [] [] (by decide) (by decide) rfl rfl
    refine ⟨i + (b.length / 200 + 1), _, rfl, ⟨rfl, rfl, rfl, by show Value.int .i64 _ = Value.int .i64 _; congr 1, trivial⟩, ⟨H, by omega⟩, by omega⟩
  · repeat' (first | (first | (with_reducible refine p_tn ?_) | (with_reducible refine p_tx ?_) | (with_reducible refine x_hit ?_) | (with_reducible refine wp_seq ?_) | (with_reducible refine w_reg ?_) | (with_reducible (refine is_if ?_; (refine w_iff rfl ?_))) | (with_reducible refine wp_exit ?_)) | (first | (with_reducible refine l_nil ?_) | ((with_reducible refine g_on ?_); (first | ((with_reducible refine g_mv ?_); refine l_p txs rfl rfl ?_) | ((with_reducible refine g_cl ?_); refine l_p txs rfl rfl ?_)))))
    (with_reducible refine is_l ?_); refine l_remT rfl rfl (by omega) ?_
    repeat' ((with_reducible refine g_on ?_); (first | ((with_reducible refine g_mv ?_); refine l_p txs rfl rfl ?_) | ((with_reducible refine g_cl ?_); refine l_p txs rfl rfl ?_)))
    (with_reducible refine is_l ?_); refine l_a txs rfl rfl (mod_in pt b.length h0 (by omega)) ?_
    repeat' ((with_reducible refine g_on ?_); (first | ((with_reducible refine g_mv ?_); refine l_p txs rfl rfl ?_) | ((with_reducible refine g_cl ?_); refine l_p txs rfl rfl ?_)))
    (with_reducible refine is_l ?_); refine l_remT rfl rfl (by omega) ?_
    rw [mod_eq pt b.length h0]
    have hj : (pt % (b.length : Int)).toNat < b.length := by have := Int.emod_lt_of_pos pt (show (0 : Int) < b.length by omega); have := Int.emod_nonneg pt (show (b.length : Int) ≠ 0 by omega); omega
    generalize (pt % (b.length : Int)).toNat = j at hj ⊢
    skip
    (with_reducible refine is_l ?_); refine l_cutN txs 0 j rfl rfl (by omega) (by omega) ?_
    have e1 : j - 0 = (b.take j).length := by rw [hpl j hj]; omega
    rw [e1]
    skip
    (with_reducible refine is_l ?_); refine l_call rfl rfl (by kernel_rfl) (ParseRequest_c (c := c - 0) (hE.below H.B) (H.old hM) (hTb _ H.B) ((hrd j hj).below H.B) (by rw [hpl j hj]; omega) (hcutn j hj) (fun x hx => hb x (List.mem_of_mem_take hx)) (by rw [hpl j hj]; omega)) (fun e w_ hR => ?_)
    have hR := prR_out hR
    rw [hsh j hj] at hR
    simp only at hR
    obtain ⟨F1, f1, P1, p1, rfl, K⟩ := hR
    refine ⟨_, rfl, ?_⟩
    have H := H.join K
    repeat' (first | (first | (with_reducible refine p_tn ?_) | (with_reducible refine wp_seq ?_) | (with_reducible refine w_reg ?_)) | (first | (with_reducible refine l_nil ?_) | ((with_reducible refine g_on ?_); (first | ((with_reducible refine g_mv ?_); refine l_p txs rfl rfl ?_) | ((with_reducible refine g_as ?_); refine l_p txs rfl rfl ?_) | ((with_reducible refine g_ex ?_); refine l_p txs rfl rfl ?_) | ((with_reducible refine g_st ?_); (refine h_stR recs H 0 rfl rfl rfl rfl rfl rfl rfl rfl rfl (fun w_ H => ?_))) | ((with_reducible refine g_al ?_); refine h_alloc recs H rfl rfl (fun g_ w_ H => ?_))))))
    (with_reducible refine is_l ?_); refine l_t txs rfl rfl (fun _ => ?_) (fun hh => absurd rfl hh)
    repeat' (first | (first | (with_reducible refine p_tn ?_) | (with_reducible refine wp_ret ?_)) | (first | (with_reducible refine l_nil ?_) | ((with_reducible refine g_on ?_); ((with_reducible refine g_as ?_); refine l_p txs rfl rfl ?_))))
    refine end1 rfl rfl ?_
    exact ⟨rfl, H.B⟩
end Go.Proofs.YthgojbdpmcccaaaGreatDoor.K
end
section
namespace Go.Proofs.YthgojbdpmcccaaaGreatDoor.Q
open Go.RowKit Go.Proofs.YthgojbdpmcccaaaGreatDoorW.PrintWords Go.Proofs.YthgojbdpmcccaaaGreatDoorW.PrintLast
set_option linter.unusedVariables false
set_option linter.unusedSimpArgs false
/-- A block that H does not hold is turned. -/
theorem Hp.other {w0 w w' : World} {l : List Ent} {r : List RowD} (H : Hp w0 w l r) {g : Nat} (hg : w.grownBy w' (some g)) (hge : w0.heap.size ≤ g) (hl : ∀ (i : Nat) (p : Ent), l[i]? = some p → p.1 ≠ g) (hr : ∀ (i : Nat) (d : RowD), r[i]? = some d → d.v.ownBlock ≠ some g) : Hp w0 w' l r := by
  refine ⟨H.B.grown hg H.B.size (fun b e => by cases e; exact hge), fun i p h => ⟨(H.blk i p h).1, blk_grown (H.blk i p h).2 hg (fun e => hl i p h (Option.some.inj e))⟩, fun i d h => ?_, H.ndl, H.ndr, H.ndm⟩
  refine own_other (H.row i d h) hg ?_
  cases e : d.v.ownBlock with
  | none => exact .inl rfl
  | some b => exact .inr (fun e2 => hr i d h (by rw [e, e2]))
section
variable {P : Program} {w : World}
theorem run_append_mark (t ty e : TypeId) (i : TypeInfo) (ht : P.underlying t = some (.slice e)) (hi : P.info? e = some i) (hs1 : i.size = 1) (g n c : Nat) (cur : Array Value) (hg : w.heap[g]? = some (.cells cur e (c, c + 1))) (hsz : cur.size = c)
    (a : Addr) (m c2 : Nat) (news : List Value) (hl : news.length = m) (hnews : ∀ j u, news[j]? = some u → w.cell? (a.add j) = some u) (h1 : ∀ u ∈ news, u.oneCell' = true) (hroom : n + m ≤ c) :
    (Builtin.append_ #[t, t] ty #[.slice (some ⟨g, 0, none⟩) n c, .slice (some a) m c2]).run P w = .ok (.slice (some ⟨g, 0, none⟩) (n + m) c) (w.setCells g n news) := by
  have hf := run_firstCells_some (P := P) w i.size m a m c2 news (by rw [hs1, hl, Nat.mul_one]) hnews
  have hst := run_storeCells_cells (P := P) g n news 0 w (fun j hj => by
    simp [World.cell?, hg]
    omega) (fun j hj => by
    simp [World.frozen?, hg]
    omega) h1
  simp only [Nat.add_zero] at hst
  rw [hs1] at hf
  simp [Builtin.append_, run_underlying ht, sizeOf, typeInfo, hi, hs1, Builtin.lenOf, hroom, hf, Addr.add_lit, hst]
theorem blk_setM {g : Nat} {t : TypeId} {fr : Nat × Nat} {cs : Array Value} (h : w.heap[g]? = some (.cells cs t fr)) (o : Nat) (v : Value) : (w.setCell ⟨g, o, none⟩ v).heap[g]? = some (.cells (cs.setIfInBounds o v) t fr) := by
  simp [World.setCell, Array.getElem?_modify, h]
theorem heap_setM {g : Nat} {t : TypeId} {fr : Nat × Nat} : ∀ (vs : List Value) (o : Nat) (w : World) (cur : List Value), w.heap[g]? = some (.cells cur.toArray t fr) → o + vs.length ≤ cur.length → (w.setCells g o vs).heap[g]? = some (.cells (cur.take o ++ vs ++ cur.drop (o + vs.length)).toArray t fr)
  | [], o, w, cur, h, _ => by simpa [World.setCells] using h
  | v :: vs, o, w, cur, h, hl => by
    have h1 : (w.setCell ⟨g, o, none⟩ v).heap[g]? = some (.cells (cur.set o v).toArray t fr) := by
      have := blk_setM h o v
      rw [this]; simp
    have h2 := heap_setM vs (o + 1) _ (cur.set o v) h1 (by simp at hl ⊢; omega)
    show ((w.setCell ⟨g, o, none⟩ v).setCells g (o + 1) vs).heap[g]? = _
    rw [h2]
    have hol : o < cur.length := by simp at hl; omega
    have e1 : (cur.set o v).take (o + 1) = cur.take o ++ [v] := by
      rw [List.take_set, List.take_succ_eq_append_getElem hol, List.set_append_right _ _ (by simp; omega)]
      simp [Nat.min_eq_left (Nat.le_of_lt hol)]
    have e2 : (cur.set o v).drop (o + 1 + vs.length) = cur.drop (o + (v :: vs).length) := by
      rw [List.drop_set_of_lt (by omega)]
      congr 1
      simp; omega
    rw [e1, e2]
    simp
theorem l_appM {n : Nat} {ops : Array Oper} {Q : Exit → Act → World → Prop} {rest : List Oper} {f : Fr} {d : Option Nat} {tt : TypeId} {ps : String} {af : Array Edge} {op : Op} {w0 : World} {l : List Ent} {r : List RowD} (H : Hp w0 w l r) {t e : TypeId} {g c m c2 : Nat} {cur : Array Value} {xs ys : List Int} {A : Option Addr}
    (hinfo : (P.info? e).map (fun i => (i.zero, i.size, i.bytes)) = some (some (.int .u8 0), 1, 1)) (hu : P.underlying t = some (.slice e)) (hg : w.heap[g]? = some (.cells cur e (c, c + 1))) (hsz : cur.size = c) (hnc : xs.length ≤ c) (htake : cur.toList.take xs.length = nums .u8 xs) (hge : w0.heap.size ≤ g) (hl : ∀ (i : Nat) (p : Ent), l[i]? = some p → p.1 ≠ g) (hr : ∀ (i : Nat) (d : RowD), r[i]? = some d → d.v.ownBlock ≠ some g)
    (he : evApp n f op = some (t, .slice (some ⟨g, 0, none⟩) xs.length c, .slice A m c2)) (HR : Rd w A (nums .u8 ys)) (hm : ys.length = m) (hb : xs.length + m ≤ 140737488355328)
    (h : ∀ A' c' w', Hp w0 w' l r → xs.length + m ≤ c' → A' ≠ none → Rd w' A' (nums .u8 (xs ++ ys)) → WL P ops Q rest (act n (put f d (.slice A' (xs.length + m) c'))) w') : WL P ops Q (⟨d, op, tt, ps, af, none⟩ :: rest) (act n f) w := by
  obtain ⟨i0, hi, hzz⟩ := Option.map_eq_some_iff.1 hinfo
  simp only [Prod.mk.injEq] at hzz
  obtain ⟨hz0, hz1, hz2⟩ := hzz
  have hone : ∀ (l : List Int), ∀ v ∈ nums .u8 l, v.oneCell' = true := fun l v hv => by
    obtain ⟨m, _, rfl⟩ := List.mem_map.1 hv
    rfl
  have hxl : (nums .u8 xs).length = xs.length := by simp [nums]
  have hyl : (nums .u8 ys).length = ys.length := by simp [nums]
  have hcell : ∀ (j : Nat) (u : Value), (nums .u8 xs)[j]? = some u → w.cell? ((⟨g, 0, none⟩ : Addr).add j) = some u := by
    intro j u hj
    have hlt : j < xs.length := by rw [← hxl]; exact (List.getElem?_eq_some_iff.1 hj).1
    rw [← htake, List.getElem?_take_of_lt hlt] at hj
    rw [add_lit, Nat.zero_add]
    simp [World.cell?, hg]
    simpa using hj
  have hrun : ∃ A' c' w1, (Builtin.append_ #[t, t] tt #[.slice (some ⟨g, 0, none⟩) xs.length c, .slice A m c2]).run P w = .ok (.slice A' (xs.length + m) c') w1 ∧ Hp w0 w1 l r ∧ xs.length + m ≤ c' ∧ A' ≠ none ∧ Rd w1 A' (nums .u8 (xs ++ ys)) := by
    rcases A with _ | ad
    · have hy0 : ys = [] := by have := HR.1 rfl; simpa [nums] using this
      subst hy0
      simp only [List.length_nil] at hm
      subst hm
      refine ⟨some ⟨g, 0, none⟩, c, w, ?_, H, by omega, by simp, fun h => (by cases h), fun a ha j v hv => ?_⟩
      · simp [Builtin.append_, run_underlying hu, sizeOf, typeInfo, hi, Builtin.lenOf, Builtin.firstCells, hnc, storeCells]
      · injection ha with ha
        subst ha
        rw [List.append_nil] at hv
        exact hcell j v hv
    · by_cases hroom : xs.length + m ≤ c
      · have hrn := run_append_mark (P := P) t tt e i0 hu hi hz1 g xs.length c cur hg hsz ad m c2 (nums .u8 ys) (by rw [hyl, hm]) (fun j u hj => HR.2 ad rfl j u hj) (hone ys) hroom
        have hh := heap_setM (nums .u8 ys) xs.length w cur.toList (by rw [Array.toArray_toList]; exact hg) (by have e := Array.length_toList (xs := cur); omega)
        refine ⟨some ⟨g, 0, none⟩, c, _, hrn, H.other (grown_setCells _ _ _) hge hl hr, hroom, by simp, fun h => (by cases h), fun a ha j v hv => ?_⟩
        injection ha with ha
        subst ha
        rw [add_lit, Nat.zero_add]
        have hlj : j < (nums .u8 (xs ++ ys)).length := (List.getElem?_eq_some_iff.1 hv).1
        have e1 : (cur.toList.take xs.length ++ nums .u8 ys ++ cur.toList.drop (xs.length + (nums .u8 ys).length))[j]? = some v := by
          rw [htake, ← nums_append, List.getElem?_append_left hlj]
          exact hv
        simp only [World.cell?, hh]
        simpa using e1
      · have hrn := run_append_grow (P := P) w t tt e i0 (.int .u8 0) hu hi hz0 ⟨g, 0, none⟩ xs.length c (nums .u8 xs) (by rw [hz1, hxl, Nat.mul_one]) hcell ad m c2 (nums .u8 ys) (by rw [hz1, hyl, hm, Nat.mul_one]) (fun j u hj => HR.2 ad rfl j u hj) (by omega) (by omega) (by rw [hz2]; exact growslice_fits (by omega) (by omega))
        have hge2 := grownCap_ge w (xs.length + m) c e
        have K := H.drew.push e ((nums .u8 xs).toArray ++ (nums .u8 ys).toArray ++ Builtin.zeroCells (Value.int .u8 0).cells (grownCap w (xs.length + m) c e - (xs.length + m))).toList
        rw [Array.toArray_toList] at K
        refine ⟨some ⟨w.heap.size, 0, none⟩, _, _, hrn, ⟨K.B, fun i q h => K.blk (i + 1) q h, K.row, fun i j p q h1 h2 hne => K.ndl (i + 1) (j + 1) p q h1 h2 (by omega), K.ndr, fun i j p d h1 h2 => K.ndm (i + 1) j p d h1 h2⟩, hge2, by simp, fun h => (by cases h), fun a ha j v hv => ?_⟩
        injection ha with ha
        subst ha
        rw [add_lit, Nat.zero_add]
        have hh := (K.blk 0 _ rfl).2
        simp only at hh
        have hlj : j < (nums .u8 (xs ++ ys)).length := (List.getElem?_eq_some_iff.1 hv).1
        rw [nums_append] at hv hlj
        have hsz2 : w.drew.heap.size = w.heap.size := rfl
        rw [hsz2] at hh
        have e1 : (nums .u8 xs ++ nums .u8 ys ++ (Builtin.zeroCells (Value.int .u8 0).cells (grownCap w (xs.length + m) c e - (xs.length + m))).toList)[j]? = some v := by
          rw [List.getElem?_append_left hlj]
          exact hv
        simp only [World.cell?, hh]
        simpa using e1
  obtain ⟨A', c', w1, hrr, H1, hle, hne, hrd⟩ := hrun
  unfold evApp at he
  split at he
  · rename_i cc
    split at he
    · rename_i x y t1 t2 h2 h3 h4
      by_cases ht : t1 = t2
      · subst ht
        simp only [Nat.beq_refl, cond_true, Option.some.injEq, Prod.mk.injEq] at he
        obtain ⟨rfl, he1, he2⟩ := he
        have hargs : cc.args = #[x, y] := by rw [← Array.toList_inj]; exact h3
        have htys : cc.argTypes = #[t1, t1] := by rw [← Array.toList_inj]; exact h4
        have ho : Op.call cc = .call { callee := .builtin .append, args := #[x, y], argTypes := #[t1, t1] } := by
          cases cc
          simp_all
        rw [ho]
        refine ⟨?_⟩
        refine wpList_plain rfl fun K hK => ?_
        unfold Oper.wp execOp
        rw [eval_act]
        simp only [resolve, invoke, builtin, Sem.run_bind, Sem.run_pure, Result.andThen_ok, List.map_toArray, List.map_cons, List.map_nil, he1, he2, hrr]
        refine hK _ _ ?_
        rw [put_act]
        exact (h A' c' w1 H1 hle hne hrd).out
      · exfalso
        have : Nat.beq t1 t2 = false := by rw [Bool.eq_false_iff]; intro hb; exact ht (Nat.eq_of_beq_eq_true hb)
        simp [this] at he
    · cases he
  · cases he
end
end Go.Proofs.YthgojbdpmcccaaaGreatDoor.Q
end
section
namespace Go.Proofs.YthgojbdpmcccaaaGreatDoor.K
open Go.RowKit Go.Proofs.YthgojbdpmcccaaaGreatDoor.Q Go.Proofs.YthgojbdpmcccaaaGreatDoor.Wb Go.Proofs.YthgojbdpmcccaaaGreatDoorW.PrintWords
set_option linter.unusedVariables false
set_option linter.unusedSimpArgs false
theorem byt_rd {w' : World} {g c : Nat} {cur : Array Value} {x : L} (hb : w'.heap[g]? = some (.cells cur 5 (c, c + 1))) (ht : cur.toList.take x.length = nums .u8 x) : Rd w' (some ⟨g, 0, none⟩) (nums .u8 x) := by
  refine ⟨fun e => (by cases e), fun ad e i v hv => ?_⟩
  injection e with e
  subst e
  have hi : i < x.length := by have := (List.getElem?_eq_some_iff.1 hv).1; simpa [nums] using this
  rw [add_lit, Nat.zero_add]
  rw [← ht, List.getElem?_take_of_lt hi] at hv
  simp only [World.cell?, hb]
  simpa using hv
theorem check_minor {m t : L} {mi : Int} {st : L} {l : List Fld} {b : L} (h : checkReqS m t mi st l b = 0) : mi = 0 ∨ mi = 1 := by
  unfold checkReqS at h
  repeat' (split at h; · first | (cases h; done) | skip)
  rcases Classical.em (mi = 0 ∨ mi = 1) with e | e
  · exact e
  · exfalso
    have : mi ≠ 0 ∧ mi ≠ 1 := by omega
    simp_all
/-- What a request that is printed is read as. -/
def backR (r : ReqS) : ReqS := ⟨r.method, r.target, r.minor, printedS r.fields (toldB r.body), r.body, closesS (printedS r.fields (toldB r.body)) r.minor⟩
def formX (r : ReqS) : L := wholeS (startI r) (printedS r.fields (toldB r.body)) r.body
theorem form_back {r : ReqS} (h : formS r = 0) (tl : L) : parseReqS (formX r ++ tl) = .ok (backR r, (formX r).length) := by
  have hm := check_minor h
  obtain ⟨m, t, mi, fs, body, cl⟩ := r
  rcases hm with hm | hm
  · simp only at hm
    subst hm
    exact req_back (minor := 0) tl h
  · simp only at hm
    subst hm
    exact req_back (minor := 1) tl h
theorem startI_bytes {r : ReqS} (h : formS r = 0) (hm : Bytes r.method) (ht : Bytes r.target) : Bytes (startI r) := by
  have hmi := check_minor h
  have hd : Bytes (decI r.minor) := by
    rcases hmi with e | e
    · rw [e]; exact decS_bytes 0
    · rw [e]; exact decS_bytes 1
  unfold startI
  exact app_bytes (app_bytes (app_bytes (app_bytes hm (by intro x hx; simp at hx; omega)) ht) (by intro x hx; simp at hx; omega)) hd
theorem toldB_le {b : L} (hl : b.length ≤ 10000000) : ∀ n, toldB b = some n → n ≤ 10000000 := fun n hn => by
  unfold toldB at hn
  split at hn
  · cases hn
  · injection hn with hn; omega
theorem formX_bytes {r : ReqS} (h : formS r = 0) (hm : Bytes r.method) (ht : Bytes r.target) (hf : BytesF r.fields) (hb : Bytes r.body) : Bytes (formX r) := by
  obtain ⟨_, _, _, hl⟩ := check_ok h
  unfold formX wholeS
  exact app_bytes (app_bytes (app_bytes (startI_bytes h hm ht) (by intro x hx; simp at hx; omega)) (headF_bytes (printed_bytes hf (toldB_le (by omega))))) hb
theorem formX_len {r : ReqS} (h : formS r = 0) : 0 < (formX r).length ∧ (formX r).length ≤ 1100000 := by
  obtain ⟨h1, h2, _, hl⟩ := check_ok h
  unfold formX wholeS
  rw [List.length_append, List.length_append, List.length_append, headF_length]
  show 0 < _ + 2 + _ + _ ∧ _ + 2 + _ + _ ≤ _
  omega
/-- A block of neither heap, where two are joined. -/
theorem apart_join {w wb wf w1 : World} {l0 l1 : List Ent} {r0 r1 : List RowD} {g : Nat} (H0 : Hp w wb l0 r0) (hgb : wb.heap.size ≤ g) (hgf : g < wf.heap.size) (H : Hp wf w1 l1 r1) :
    (∀ (i : Nat) (p : Ent), (l1 ++ l0)[i]? = some p → p.1 ≠ g) ∧ ∀ (i : Nat) (d : RowD), (r1 ++ r0)[i]? = some d → d.v.ownBlock ≠ some g := by
  refine ⟨fun i p hp => ?_, fun i d hd => ?_⟩
  · rcases Nat.lt_or_ge i l1.length with h | h
    · rw [List.getElem?_append_left h] at hp
      have := (H.blk i p hp).1
      omega
    · rw [List.getElem?_append_right h] at hp
      have := H0.lt hp
      omega
  · intro hb
    rcases Nat.lt_or_ge i r1.length with h | h
    · rw [List.getElem?_append_left h] at hd
      have := own_base (H.row i d hd) g hb
      omega
    · rw [List.getElem?_append_right h] at hd
      have := H0.rlt hd hb
      omega
theorem toldI_nat (k : Nat) : toldI (k : Int) = some k := by unfold toldI; rw [if_pos (by omega)]; simp
set_option maxRecDepth 100000 in
set_option maxHeartbeats 16000000 in
theorem whole14_c {A : Nat → Addr} {w : World} (hE : LayS A w) (hP : TabP w) {mx : Int} (hM : w.cell? ⟨20, 0, none⟩ = some (.int .i64 mx)) {tM : TypeId} {frM : Nat × Nat} (hT : w.heap[17]? = some (.cells meC tM frM))
    {m t : L} {mi pad pt : Int} {ns vs : List L} {body tl : L} {NB VB BB TB : Option Addr} {nc vc bc tc : Nat} (hm : Bytes m) (ht : Bytes t) (hml : m.length ≤ 10000000) (htl : t.length ≤ 10000000) (hmi : -9223372036854775808 ≤ mi ∧ mi ≤ 9223372036854775807) (hn : Rd w NB (strC ns)) (hv : Rd w VB (strC vs)) (hnl : ns.length ≤ 5000000)
    (hnb : ∀ x ∈ ns, Bytes x ∧ x.length ≤ 100000000) (hvb : ∀ x ∈ vs, Bytes x ∧ x.length ≤ 100000000) (hrb : ReadsInt w .u8 BB body.length body) (hbb : Bytes body) (hbl : body.length ≤ 10000000) (hr : ReadsInt w .u8 TB tl.length tl) (htb : Bytes tl) (htll : tl.length ≤ 10000000) :
    Calls Tryz.prog 3 #[.agg #[.string (strOfNums m), .string (strOfNums t), .int .i64 mi, .slice NB ns.length nc, .slice VB vs.length vc, .slice BB body.length bc, .int .i64 pad], .slice TB tl.length tc, .int .i64 pt] w fun e w' => e = .returned (.bool true) ∧ Below w.heap.size w w' := by
  have hTb : ∀ w1, Below w.heap.size w w1 → w1.heap[17]? = some (.cells meC tM frM) := fun w1 K => (K.block _ (blk_lt hT)).trans hT
  refine enter (args := [.agg #[.string (strOfNums m), .string (strOfNums t), .int .i64 mi, .slice NB ns.length nc, .slice VB vs.length vc, .slice BB body.length bc, .int .i64 pad], .slice TB tl.length tc, .int .i64 pt]) Tryz.func3 rfl Tryz.ntmps3 rfl ?_
  have H := Hp.nil w
  repeat' (first | (with_reducible refine wp_seq ?_) | (with_reducible refine w_reg ?_))
  (with_reducible refine is_l ?_); refine h_box H rfl rfl rfl (fun gX w_ H => ?_)
  repeat' (first | (first | (with_reducible refine p_tn ?_) | (with_reducible refine wp_seq ?_) | (with_reducible refine w_reg ?_)) | (first | (with_reducible refine l_nil ?_) | ((with_reducible refine g_on ?_); ((with_reducible refine g_as ?_); refine l_p txs rfl rfl ?_))))
  (with_reducible refine is_l ?_); refine l_callv rfl rfl (by kernel_rfl) (known_c (hE.below H.B) (H.old hM) (hTb _ H.B)) (fun w_ K => ?_)
  have H := H.call K
  repeat' (first | (first | (with_reducible refine p_tn ?_) | (with_reducible refine wp_seq ?_) | (with_reducible refine w_reg ?_) | (with_reducible (refine is_if ?_; (refine w_iff rfl ?_))) | (with_reducible refine wp_skip ?_)) | (first | (with_reducible refine l_nil ?_) | ((with_reducible refine g_on ?_); (first | ((with_reducible refine g_fa ?_); refine h_fa flds rfl rfl ?_) | ((with_reducible refine g_ld ?_); (refine h_ldR recs H 0 rfl rfl rfl rfl rfl ?_)) | ((with_reducible refine g_st ?_); (refine h_st txs ones H 0 rfl rfl rfl rfl rfl rfl rfl rfl rfl (fun w_ H => ?_))) | ((with_reducible refine g_un ?_); (refine l_p txs rfl rfl ?_))))))
  have hp0 : padS body 0 = body := by simp [padS, padN]
  (with_reducible refine is_l ?_); refine l_call rfl rfl (by kernel_rfl) (request_c (m := m) (t := t) (mi := mi) (pad := 0) (hn.below H.B) (hv.below H.B) (by omega) (hrb.below H.B) (by omega)) (fun e w_ hR => ?_)
  obtain ⟨F, f0, B, b0, rfl, K⟩ := hR
  refine ⟨_, rfl, ?_⟩
  have H := H.join K
  have hfb := mkF_bytes hnb hvb
  have hfl : (mkF ns vs).length ≤ 5000000 := by rw [mkF_len]; omega
  have hrm : (reqOf m t mi ns vs body 0).method = m := rfl
  have hrt : (reqOf m t mi ns vs body 0).target = t := rfl
  have hri : (reqOf m t mi ns vs body 0).minor = mi := rfl
  have hrf : (reqOf m t mi ns vs body 0).fields = mkF ns vs := rfl
  have hrbd : (reqOf m t mi ns vs body 0).body = body := hp0
  have H : Hp w w_ _ [rowF (.slice F (reqOf m t mi ns vs body 0).fields.length f0) (reqOf m t mi ns vs body 0).fields, rowB (.slice B (reqOf m t mi ns vs body 0).body.length b0) (reqOf m t mi ns vs body 0).body] := H
  generalize reqOf m t mi ns vs body 0 = r at H hrm hrt hri hrf hrbd ⊢
  (with_reducible refine is_l ?_); refine h_alloc recs H rfl rfl (fun g7 w_ H => ?_)
  repeat' (first | (first | (with_reducible refine p_tn ?_) | (with_reducible refine wp_seq ?_) | (with_reducible refine w_reg ?_)) | (first | (with_reducible refine l_nil ?_) | ((with_reducible refine g_on ?_); (first | ((with_reducible refine g_ld ?_); (refine h_ldR recs H 0 rfl rfl rfl rfl rfl ?_)) | ((with_reducible refine g_st ?_); (refine h_stR recs H 0 rfl rfl rfl rfl rfl rfl rfl rfl rfl (fun w_ H => ?_)))))))
  (with_reducible refine is_l ?_); refine l_call rfl rfl (by kernel_rfl) (FormatRequest_c (hE.below H.B) (hP.below H.B) (H.old hM) (hTb _ H.B) r (by rw [hrm]; exact hm) (by rw [hrt]; exact ht) (by rw [hrm]; exact hml) (by rw [hrt]; exact htl) (by rw [hri]; exact hmi) (rowF_rd H 0 rfl) (by rw [hrf]; exact hfb) (by rw [hrf]; exact hfl) (rowB_rd H 1 (x := r.body) rfl).1 (by rw [hrbd]; exact hbb) (by rw [hrbd]; exact hbl)) (fun e w_ hR => ?_)
  obtain ⟨K, v, rfl, hbad, hgood⟩ := hR
  refine ⟨_, rfl, ?_⟩
  have H1 := H
  have H := H.call K
  by_cases hz : formS r = 0
  rotate_left
  · obtain rfl := hbad hz
    repeat' (first | (first | (with_reducible refine p_tn ?_) | (with_reducible refine wp_seq ?_) | (with_reducible refine w_reg ?_)) | (first | (with_reducible refine l_nil ?_) | ((with_reducible refine g_on ?_); (first | ((with_reducible refine g_mv ?_); refine l_p txs rfl rfl ?_) | ((with_reducible refine g_as ?_); refine l_p txs rfl rfl ?_) | ((with_reducible refine g_ex ?_); refine l_p txs rfl rfl ?_)))))
    (with_reducible refine is_l ?_); refine l_t txs rfl rfl (fun _ => ?_) (fun hh => absurd (by omega) hh)
    repeat' (first | (first | (with_reducible refine p_tn ?_) | (with_reducible refine wp_seq ?_) | (with_reducible refine w_reg ?_) | (with_reducible (refine is_if ?_; (refine w_ift rfl ?_)))) | (first | (with_reducible refine l_nil ?_) | ((with_reducible refine g_on ?_); (first | ((with_reducible refine g_mv ?_); refine l_p txs rfl rfl ?_) | ((with_reducible refine g_cl ?_); refine l_p txs rfl rfl ?_)))))
    (with_reducible refine is_l ?_); refine l_t txs rfl rfl (fun _ => ?_) (fun hh => absurd rfl hh)
    repeat' (first | (first | (with_reducible refine p_tn ?_) | (with_reducible refine p_tr ?_) | (with_reducible refine wp_ret ?_)) | (first | (with_reducible refine l_nil ?_) | ((with_reducible refine g_on ?_); ((with_reducible refine g_as ?_); refine l_p txs rfl rfl ?_))))
    refine end1 rfl rfl ?_
    exact ⟨rfl, H.B⟩
  obtain ⟨g, cur, c, rfl, hc, hge, hgb, hgs, hgm, hgt⟩ := hgood hz
  obtain ⟨X, hX⟩ : ∃ X, X = formX r := ⟨_, rfl⟩
  have hXr : wholeS (startI r) (printedS r.fields (toldB r.body)) r.body = X := hX.symm
  rw [hXr] at hc hgt ⊢
  have RB := byt_rd hgb hgt
  have hXb : Bytes X := hX ▸ formX_bytes hz (by rw [hrm]; exact hm) (by rw [hrt]; exact ht) (by rw [hrf]; exact hfb) (by rw [hrbd]; exact hbb)
  obtain ⟨hX0, hXl⟩ : 0 < X.length ∧ X.length ≤ 1100000 := hX ▸ formX_len hz
  have hbk : ∀ y, parseReqS (X ++ y) = .ok (backR r, X.length) := fun y => hX ▸ form_back hz y
  have hbk0 : parseReqS X = .ok (backR r, X.length) := by have := hbk []; rwa [List.append_nil] at this
  have hfb2 : BytesF r.fields := by rw [hrf]; exact hfb
  have hfl2 : r.fields.length ≤ 10000000 := by rw [hrf]; omega
  have hpl2 : (printedS r.fields (toldB r.body)).length ≤ 100000000 := by have := printed_len' r.fields (toldB r.body); omega
  have hrl : r.body.length ≤ 10000000 := by rw [hrbd]; exact hbl
  have ho1 : outReq X = (backR r, X.length, 0) := by unfold outReq; rw [hbk0]
  have ho2 : outReq (X ++ tl) = (backR r, X.length, 0) := by unfold outReq; rw [hbk]
  repeat' (first | (first | (with_reducible refine p_tn ?_) | (with_reducible refine wp_seq ?_) | (with_reducible refine w_reg ?_)) | (first | (with_reducible refine l_nil ?_) | ((with_reducible refine g_on ?_); (first | ((with_reducible refine g_mv ?_); refine l_p txs rfl rfl ?_) | ((with_reducible refine g_as ?_); refine l_p txs rfl rfl ?_) | ((with_reducible refine g_ex ?_); refine l_p txs rfl rfl ?_)))))
  (with_reducible refine is_l ?_); refine l_t txs rfl rfl (fun hh => absurd (by omega) hh) (fun _ => ?_)
  have q0 : w_.cell? ⟨gX, 0 + 0, none⟩ = some (.string (strOfNums r.method)) := by rw [hrm]; exact H.cellAt 1 rfl rfl
  have q1 : w_.cell? ⟨gX, 0 + 1, none⟩ = some (.string (strOfNums r.target)) := by rw [hrt]; exact H.cellAt 1 rfl rfl
  have q2 : w_.cell? ⟨gX, 0 + 2, none⟩ = some (.int .i64 r.minor) := by rw [hri]; exact H.cellAt 1 rfl rfl
  have q73 : w_.cell? ⟨g7, 0 + 3, none⟩ = some (.slice F r.fields.length f0) := H.cellAt 0 rfl rfl
  have q74 : w_.cell? ⟨g7, 0 + 4, none⟩ = some (.slice B r.body.length b0) := H.cellAt 0 rfl rfl
  have hFr : Rd w_ F (fldC r.fields) := rowF_rd H 0 rfl
  have hBr : ReadsInt w_ .u8 B r.body.length r.body := (rowB_rd H 1 (x := r.body) rfl).1
  have H0 := H
  have hEf := hE.below H0.B
  have hPf := hP.below H0.B
  have hMf := H0.old hM
  have hTf := hTb _ H0.B
  have hTbf : ∀ w1, Below w_.heap.size w_ w1 → w1.heap[17]? = some (.cells meC tM frM) := fun w1 K => (K.block _ (blk_lt hTf)).trans hTf
  have hrf2 := hr.below H0.B
  obtain ⟨w, hwf⟩ : ∃ wf, wf = w_ := ⟨_, rfl⟩
  rw [← hwf] at H0 hEf hPf hMf hTf hTbf hrf2 RB hgb q0 q1 q2 q73 q74 hFr hBr
  have H : Hp w w_ [] [] := by rw [hwf]; exact Hp.nil _
  clear hwf
  repeat' (first | (first | (with_reducible refine p_tn ?_) | (with_reducible refine wp_seq ?_) | (with_reducible refine w_reg ?_) | (with_reducible (refine is_if ?_; (refine w_iff rfl ?_))) | (with_reducible refine wp_skip ?_)) | (first | (with_reducible refine l_nil ?_) | ((with_reducible refine g_on ?_); ((with_reducible refine g_fa ?_); refine h_fa flds rfl rfl ?_))))
  (with_reducible refine is_l ?_); refine l_ld txs rfl rfl (H.old q74) ?_
  repeat' (first | (first | (with_reducible refine p_tn ?_) | (with_reducible refine wp_seq ?_) | (with_reducible refine w_reg ?_)) | (first | (with_reducible refine l_nil ?_) | ((with_reducible refine g_on ?_); (first | ((with_reducible refine g_mv ?_); refine l_p txs rfl rfl ?_) | ((with_reducible refine g_as ?_); refine l_p txs rfl rfl ?_) | ((with_reducible refine g_cl ?_); refine l_p txs rfl rfl ?_)))))
  (with_reducible refine is_l ?_); refine l_t txs rfl rfl (fun hb0 => ?_) (fun hb0 => ?_)
  · have hti : toldI (-1) = toldB r.body := by unfold toldB; rw [if_pos (List.length_eq_zero_iff.1 (by omega))]; rfl
    repeat' (first | (first | (with_reducible refine p_tn ?_) | (with_reducible refine wp_seq ?_) | (with_reducible refine w_reg ?_) | (with_reducible (refine is_if ?_; (refine w_ift rfl ?_)))) | (first | (with_reducible refine l_nil ?_) | ((with_reducible refine g_on ?_); (first | ((with_reducible refine g_mv ?_); refine l_p txs rfl rfl ?_) | ((with_reducible refine g_as ?_); refine l_p txs rfl rfl ?_)))))
    (with_reducible refine is_l ?_); refine l_call rfl rfl (by kernel_rfl) (ParseRequest_c (hEf.below H.B) (H.old hMf) (hTbf _ H.B) (reads_of_rd (RB.below H.B) (by omega)) hc (fun e => by cases e) hXb (by omega)) (fun e w_ hR => ?_)
    have hR := prR_out hR
    rw [ho1] at hR
    simp only at hR
    obtain ⟨F1, f1, P1, p1, rfl, K⟩ := hR
    refine ⟨_, rfl, ?_⟩
    have H := H.join K
    repeat' (first | (first | (with_reducible refine p_tn ?_) | (with_reducible refine wp_seq ?_) | (with_reducible refine w_reg ?_)) | (first | (with_reducible refine l_nil ?_) | ((with_reducible refine g_on ?_); (first | ((with_reducible refine g_mv ?_); refine l_p txs rfl rfl ?_) | ((with_reducible refine g_as ?_); refine l_p txs rfl rfl ?_) | ((with_reducible refine g_ex ?_); refine l_p txs rfl rfl ?_) | ((with_reducible refine g_st ?_); (refine h_stR recs H 0 rfl rfl rfl rfl rfl rfl rfl rfl rfl (fun w_ H => ?_))) | ((with_reducible refine g_al ?_); refine h_alloc recs H rfl rfl (fun g_ w_ H => ?_))))))
    (with_reducible refine is_l ?_); refine l_t txs rfl rfl (fun hh => absurd rfl hh) (fun _ => ?_)
    repeat' (first | ((with_reducible refine g_on ?_); ((with_reducible refine g_mv ?_); refine l_p txs rfl rfl ?_)) | ((with_reducible refine g_if ?_); (first | ((with_reducible refine g_mv ?_); refine l_p txs rfl rfl ?_) | ((with_reducible refine g_cl ?_); refine l_p txs rfl rfl ?_))))
    (with_reducible refine is_l ?_); refine l_t txs rfl rfl (fun hh => absurd rfl hh) (fun _ => ?_)
    repeat' (first | ((with_reducible refine g_on ?_); (first | ((with_reducible refine g_mv ?_); refine l_p txs rfl rfl ?_) | ((with_reducible refine g_pk ?_); refine l_p txs rfl rfl ?_))) | ((with_reducible refine g_if ?_); (first | ((with_reducible refine g_fa ?_); refine h_fa flds rfl rfl ?_) | ((with_reducible refine g_ld ?_); (refine h_ld txs H 0 rfl rfl rfl rfl ?_)))))
    (with_reducible refine is_l ?_); refine l_ld txs rfl rfl (H.old q0) ?_
    skip
    (with_reducible refine is_l ?_); refine l_t txs rfl rfl (fun hh => absurd rfl hh) (fun _ => ?_)
    repeat' (first | ((with_reducible refine g_on ?_); (first | ((with_reducible refine g_mv ?_); refine l_p txs rfl rfl ?_) | ((with_reducible refine g_pk ?_); refine l_p txs rfl rfl ?_))) | ((with_reducible refine g_if ?_); (first | ((with_reducible refine g_fa ?_); refine h_fa flds rfl rfl ?_) | ((with_reducible refine g_ld ?_); (refine h_ld txs H 0 rfl rfl rfl rfl ?_)))))
    (with_reducible refine is_l ?_); refine l_ld txs rfl rfl (H.old q1) ?_
    skip
    (with_reducible refine is_l ?_); refine l_t txs rfl rfl (fun hh => absurd rfl hh) (fun _ => ?_)
    repeat' (first | ((with_reducible refine g_on ?_); (first | ((with_reducible refine g_mv ?_); refine l_p txs rfl rfl ?_) | ((with_reducible refine g_pk ?_); refine l_p txs rfl rfl ?_))) | ((with_reducible refine g_if ?_); (first | ((with_reducible refine g_fa ?_); refine h_fa flds rfl rfl ?_) | ((with_reducible refine g_ld ?_); (refine h_ld txs H 0 rfl rfl rfl rfl ?_)))))
    (with_reducible refine is_l ?_); refine l_ld txs rfl rfl (H.old q2) ?_
    skip
    (with_reducible refine is_l ?_); refine l_t txs rfl rfl (fun hh => absurd rfl hh) (fun _ => ?_)
    repeat' (first | ((with_reducible refine g_on ?_); (first | ((with_reducible refine g_mv ?_); refine l_p txs rfl rfl ?_) | ((with_reducible refine g_pk ?_); refine l_p txs rfl rfl ?_))) | ((with_reducible refine g_if ?_); (first | ((with_reducible refine g_fa ?_); refine h_fa flds rfl rfl ?_) | ((with_reducible refine g_ld ?_); (refine h_ld txs H 0 rfl rfl rfl rfl ?_)))))
    (with_reducible refine is_l ?_); refine l_text rfl rfl Tryz.underlying23 Tryz.underlying5 Tryz.underlying9 (rowB_rd H 1 (F := P1) (f := p1) (x := (backR r).body) rfl).1 ?_
    repeat' ((with_reducible refine g_if ?_); ((with_reducible refine g_fa ?_); refine h_fa flds rfl rfl ?_))
    (with_reducible refine is_l ?_); refine l_ld txs rfl rfl (H.old q74) ?_
    skip
    (with_reducible refine is_l ?_); refine l_text rfl rfl Tryz.underlying23 Tryz.underlying5 Tryz.underlying9 (hBr.below H.B) ?_
    skip
    (with_reducible refine is_l ?_); refine l_t txs rfl rfl (fun hh => absurd rfl hh) (fun _ => ?_)
    repeat' (first | (first | (with_reducible refine p_tn ?_) | (with_reducible refine wp_seq ?_) | (with_reducible (refine is_if ?_; (refine w_iff rfl ?_))) | (with_reducible refine wp_skip ?_)) | (first | (with_reducible refine l_nil ?_) | ((with_reducible refine g_on ?_); ((with_reducible refine g_pk ?_); refine l_p txs rfl rfl ?_))))
    have HS := H.pick [0] [] (by decide) (by decide) rfl rfl
    refine d_start (fun w_ => Hp w w_ _ _) #[false, false, false, false, false, false, false, false, false, false, false, false, false, false] (by kernel_rfl) rfl rfl HS.drew ?_
    have H := H.drew
    have HS := HS.drew
    first | (refine d_pure (i := 0) #[true, false, false, false, false, false, false, false, false, false, false, false, false, false] rfl (by kernel_rfl) (fun _ _ _ h => h) rfl (fun w_ => evF_run (o := ⟨_, _, _, _, _, _⟩) flds rfl) ?_) | (refine d_pure (i := 0) #[true, false, false, false, false, false, false, false, false, false, false, false, false, false] rfl (by kernel_rfl) (fun _ _ _ h => h) rfl (fun w_ => evG_run (o := ⟨_, _, _, _, _, _⟩) flds rfl) ?_)
    first | (refine d_take (i := 1) #[true, true, false, false, false, false, false, false, false, false, false, false, false, false] rfl (by kernel_rfl) (fun _ _ _ h => h) rfl (fun w_ K => evL_run (o := ⟨_, _, _, _, _, _⟩) txs rfl (K.cellAt 0 rfl rfl)) HS ?_)
    first | (refine d_pure (i := 2) #[true, true, true, false, false, false, false, false, false, false, false, false, false, false] rfl (by kernel_rfl) (fun _ _ _ h => h) rfl (fun w_ => evF_run (o := ⟨_, _, _, _, _, _⟩) flds rfl) ?_) | (refine d_pure (i := 2) #[true, true, true, false, false, false, false, false, false, false, false, false, false, false] rfl (by kernel_rfl) (fun _ _ _ h => h) rfl (fun w_ => evG_run (o := ⟨_, _, _, _, _, _⟩) flds rfl) ?_)
    first | (refine d_take (i := 3) #[true, true, true, true, false, false, false, false, false, false, false, false, false, false] rfl (by kernel_rfl) (fun _ _ _ h => h) rfl (fun w_ K => evL_run (o := ⟨_, _, _, _, _, _⟩) txs rfl (K.old q73)) HS ?_)
    first | (refine d_pure (i := 4) #[true, true, true, true, true, false, false, false, false, false, false, false, false, false] rfl (by kernel_rfl) (fun _ _ _ h => h) rfl (fun w_ => evP_run (o := ⟨_, _, _, _, _, _⟩) txs rfl) ?_)
    refine d_one (i := 5) #[true, true, true, true, true, true, false, false, false, false, false, false, false, false] rfl (by kernel_rfl) rfl ?_
    (refine l_call rfl rfl (by kernel_rfl) (told_c (hPf.below H.B) (hFr.below H.B) hfb2 hfl2 _ (by omega)) (fun e w_ hR => ?_)); obtain ⟨A3, c3, rfl, K⟩ := hR; refine ⟨_, rfl, ?_⟩; rw [hti] at K ⊢; have H := H.join K
    refine l_nil ?_
    have HS := H.pick [0] [] (by decide) (by decide) rfl rfl
    refine ⟨rfl, HS, ?_⟩
    refine d_one (i := 6) #[true, true, true, true, true, true, true, false, false, false, false, false, false, false] rfl (by kernel_rfl) rfl ?_
    refine l_callv rfl rfl (by kernel_rfl) (alike_c (rowF_rd H 1 (F := F1) (f := f1) (x := printedS r.fields (toldB r.body)) rfl) (rowF_rd H 0 (F := A3) (f := c3) (x := printedS r.fields (toldB r.body)) rfl) (by exact hpl2)) (fun w_ K => ?_); have H := H.call K
    refine l_nil ?_
    have HS := H.pick [0] [] (by decide) (by decide) rfl rfl
    refine ⟨rfl, HS, ?_⟩
    first | (refine d_pure (i := 7) #[true, true, true, true, true, true, true, true, false, false, false, false, false, false] rfl (by kernel_rfl) (fun _ _ _ h => h) rfl (fun w_ => evP_run (o := ⟨_, _, _, _, _, _⟩) txs rfl) ?_)
    first | (refine d_pure (i := 8) #[true, true, true, true, true, true, true, true, true, false, false, false, false, false] rfl (by kernel_rfl) (fun _ _ _ h => h) rfl (fun w_ => evP_run (o := ⟨_, _, _, _, _, _⟩) txs rfl) ?_)
    first | (refine d_off (i := 9) #[true, true, true, true, true, true, true, true, true, true, false, false, false, false] rfl (by kernel_rfl) (fun _ _ _ h => h) rfl ?_) | (first | (refine d_pure (i := 9) #[true, true, true, true, true, true, true, true, true, true, false, false, false, false] rfl (by kernel_rfl) (fun _ _ _ h => h) rfl (fun w_ => evP_run (o := ⟨_, _, _, _, _, _⟩) txs rfl) ?_))
    first | (refine d_off (i := 10) #[true, true, true, true, true, true, true, true, true, true, true, false, false, false] rfl (by kernel_rfl) (fun _ _ _ h => h) rfl ?_) | (first | (refine d_pure (i := 10) #[true, true, true, true, true, true, true, true, true, true, true, false, false, false] rfl (by kernel_rfl) (fun _ _ _ h => h) rfl (fun w_ => evP_run (o := ⟨_, _, _, _, _, _⟩) txs rfl) ?_))
    refine d_one (i := 11) #[true, true, true, true, true, true, true, true, true, true, true, true, false, false] rfl (by kernel_rfl) rfl ?_
    refine l_callv rfl rfl (by kernel_rfl) (short_c (hEf.below H.B) (H.old hMf) (hTbf _ H.B) (reads_of_rd (RB.below H.B) (by omega)) hc hXb (by omega) hX0 hbk0 _) (fun w_ K => ?_); have H := H.call K
    refine l_nil ?_
    have HS := H.pick [0] [] (by decide) (by decide) rfl rfl
    refine ⟨rfl, HS, ?_⟩
    first | (refine d_off (i := 12) #[true, true, true, true, true, true, true, true, true, true, true, true, true, false] rfl (by kernel_rfl) (fun _ _ _ h => h) rfl ?_) | (first | (refine d_pure (i := 12) #[true, true, true, true, true, true, true, true, true, true, true, true, true, false] rfl (by kernel_rfl) (fun _ _ _ h => h) rfl (fun w_ => evP_run (o := ⟨_, _, _, _, _, _⟩) txs rfl) ?_))
    first | (refine d_pure (i := 13) #[true, true, true, true, true, true, true, true, true, true, true, true, true, true] rfl (by kernel_rfl) (fun _ _ _ h => h) rfl (fun w_ => evP_run (o := ⟨_, _, _, _, _, _⟩) txs rfl) ?_)
    refine d_done rfl ?_
    repeat' (first | (first | (with_reducible refine p_tn ?_) | (with_reducible refine wp_seq ?_) | (with_reducible refine w_reg ?_) | (with_reducible (refine is_if ?_; (refine w_iff rfl ?_))) | (with_reducible refine wp_skip ?_)) | ((with_reducible refine g_on ?_); ((with_reducible refine g_mv ?_); refine l_p txs rfl rfl ?_)))
    have HJ := H0.join H
    have hgf : g < w.heap.size := blk_lt hgb
    obtain ⟨ap1, ap2⟩ := apart_join H1 hge hgf H
    have hgb2 := (H.B.block g hgf).trans hgb
    (with_reducible refine is_l ?_); refine l_appM (xs := X) (ys := tl) HJ info_u8 Tryz.underlying23 hgb2 hgs hc hgt (Nat.le_trans H1.B.size hge) ap1 ap2 rfl (rd_of_reads (hrf2.below H.B)) rfl (by omega) (fun A' c' w_ H hle hne hrd => ?_)
    have hXt : (X ++ tl).length = X.length + tl.length := List.length_append
    rw [← hXt]
    skip
    (with_reducible refine is_l ?_); refine l_call rfl rfl (by kernel_rfl) (padded_c (reads_of_rd hrd (by omega)) 0 (by omega)) (fun e w_ hR => ?_)
    obtain ⟨A0, c0, rfl, K⟩ := hR
    refine ⟨_, rfl, ?_⟩
    have hp1 : padS (X ++ tl) 0 = X ++ tl := by simp [padS, padN]
    rw [hp1] at K ⊢
    have H := H.join K
    skip
    obtain ⟨ra, ra2, ra3⟩ := rowB_rd H 0 (F := A0) (f := c0) (x := X ++ tl) rfl
    (with_reducible refine is_l ?_); refine l_call rfl rfl (by kernel_rfl) (ParseRequest_c (hE.below H.B) (H.old hM) (hTb _ H.B) ra ra2 ra3 (app_bytes hXb htb) (by omega)) (fun e w_ hR => ?_)
    have hR := prR_out hR
    rw [ho2] at hR
    simp only at hR
    obtain ⟨F2, f2, P2, p2, rfl, K⟩ := hR
    refine ⟨_, rfl, ?_⟩
    have H := H.join K
    repeat' (first | (first | (with_reducible refine p_tn ?_) | (with_reducible refine wp_seq ?_) | (with_reducible refine w_reg ?_)) | (first | (with_reducible refine l_nil ?_) | ((with_reducible refine g_on ?_); (first | ((with_reducible refine g_mv ?_); refine l_p txs rfl rfl ?_) | ((with_reducible refine g_as ?_); refine l_p txs rfl rfl ?_) | ((with_reducible refine g_ex ?_); refine l_p txs rfl rfl ?_) | ((with_reducible refine g_st ?_); (refine h_stR recs H 0 rfl rfl rfl rfl rfl rfl rfl rfl rfl (fun w_ H => ?_))) | ((with_reducible refine g_al ?_); refine h_alloc recs H rfl rfl (fun g_ w_ H => ?_))))))
    (with_reducible refine is_l ?_); refine l_t txs rfl rfl (fun _ => ?_) (fun hh => absurd rfl hh)
    repeat' (first | ((with_reducible refine g_on ?_); ((with_reducible refine g_mv ?_); refine l_p txs rfl rfl ?_)) | ((with_reducible refine g_if ?_); ((with_reducible refine g_mv ?_); refine l_p txs rfl rfl ?_)))
    (with_reducible refine is_l ?_); refine l_t txs rfl rfl (fun _ => ?_) (fun hh => absurd rfl hh)
    repeat' (first | ((with_reducible refine g_on ?_); (first | ((with_reducible refine g_mv ?_); refine l_p txs rfl rfl ?_) | ((with_reducible refine g_pk ?_); refine l_p txs rfl rfl ?_))) | ((with_reducible refine g_if ?_); ((with_reducible refine g_ld ?_); (first | (refine h_ldR recs H 0 rfl rfl rfl rfl rfl ?_) | (refine h_ldR recs H 1 rfl rfl rfl rfl rfl ?_)))))
    (with_reducible refine is_l ?_); refine l_callv rfl rfl (by kernel_rfl) (twins_c (backR r) (rowF_rd H 0 (F := F2) (f := f2) rfl) (rowF_rd H 4 (F := F1) (f := f1) rfl) (rowB_rd H 1 (F := P2) (f := p2) rfl).1 (rowB_rd H 5 (F := P1) (f := p1) rfl).1 (by exact hpl2)) (fun w_ K => ?_)
    have H := H.call K
    repeat' (first | (first | (with_reducible refine p_tn ?_) | (with_reducible refine wp_ret ?_)) | (first | (with_reducible refine l_nil ?_) | ((with_reducible refine g_on ?_); (first | ((with_reducible refine g_as ?_); refine l_p txs rfl rfl ?_) | ((with_reducible refine g_pk ?_); refine l_p txs rfl rfl ?_)))))
    refine end1 rfl rfl ?_
    exact ⟨rfl, H.B⟩
  · have hti : toldI (r.body.length : Int) = toldB r.body := by unfold toldB; rw [if_neg (fun e => hb0 (by rw [e]; rfl))]; exact toldI_nat _
    repeat' (first | (first | (with_reducible refine p_tn ?_) | (with_reducible refine wp_seq ?_) | (with_reducible refine w_reg ?_) | (with_reducible (refine is_if ?_; (refine w_iff rfl ?_))) | (with_reducible refine wp_skip ?_)) | (first | (with_reducible refine l_nil ?_) | ((with_reducible refine g_on ?_); ((with_reducible refine g_mv ?_); refine l_p txs rfl rfl ?_))))
    (with_reducible refine is_l ?_); refine l_call rfl rfl (by kernel_rfl) (ParseRequest_c (hEf.below H.B) (H.old hMf) (hTbf _ H.B) (reads_of_rd (RB.below H.B) (by omega)) hc (fun e => by cases e) hXb (by omega)) (fun e w_ hR => ?_)
    have hR := prR_out hR
    rw [ho1] at hR
    simp only at hR
    obtain ⟨F1, f1, P1, p1, rfl, K⟩ := hR
    refine ⟨_, rfl, ?_⟩
    have H := H.join K
    repeat' (first | (first | (with_reducible refine p_tn ?_) | (with_reducible refine wp_seq ?_) | (with_reducible refine w_reg ?_)) | (first | (with_reducible refine l_nil ?_) | ((with_reducible refine g_on ?_); (first | ((with_reducible refine g_mv ?_); refine l_p txs rfl rfl ?_) | ((with_reducible refine g_as ?_); refine l_p txs rfl rfl ?_) | ((with_reducible refine g_ex ?_); refine l_p txs rfl rfl ?_) | ((with_reducible refine g_st ?_); (refine h_stR recs H 0 rfl rfl rfl rfl rfl rfl rfl rfl rfl (fun w_ H => ?_))) | ((with_reducible refine g_al ?_); refine h_alloc recs H rfl rfl (fun g_ w_ H => ?_))))))
    (with_reducible refine is_l ?_); refine l_t txs rfl rfl (fun hh => absurd rfl hh) (fun _ => ?_)
    repeat' (first | ((with_reducible refine g_on ?_); ((with_reducible refine g_mv ?_); refine l_p txs rfl rfl ?_)) | ((with_reducible refine g_if ?_); (first | ((with_reducible refine g_mv ?_); refine l_p txs rfl rfl ?_) | ((with_reducible refine g_cl ?_); refine l_p txs rfl rfl ?_))))
    (with_reducible refine is_l ?_); refine l_t txs rfl rfl (fun hh => absurd rfl hh) (fun _ => ?_)
    repeat' (first | ((with_reducible refine g_on ?_); (first | ((with_reducible refine g_mv ?_); refine l_p txs rfl rfl ?_) | ((with_reducible refine g_pk ?_); refine l_p txs rfl rfl ?_))) | ((with_reducible refine g_if ?_); (first | ((with_reducible refine g_fa ?_); refine h_fa flds rfl rfl ?_) | ((with_reducible refine g_ld ?_); (refine h_ld txs H 0 rfl rfl rfl rfl ?_)))))
    (with_reducible refine is_l ?_); refine l_ld txs rfl rfl (H.old q0) ?_
    skip
    (with_reducible refine is_l ?_); refine l_t txs rfl rfl (fun hh => absurd rfl hh) (fun _ => ?_)
    repeat' (first | ((with_reducible refine g_on ?_); (first | ((with_reducible refine g_mv ?_); refine l_p txs rfl rfl ?_) | ((with_reducible refine g_pk ?_); refine l_p txs rfl rfl ?_))) | ((with_reducible refine g_if ?_); (first | ((with_reducible refine g_fa ?_); refine h_fa flds rfl rfl ?_) | ((with_reducible refine g_ld ?_); (refine h_ld txs H 0 rfl rfl rfl rfl ?_)))))
    (with_reducible refine is_l ?_); refine l_ld txs rfl rfl (H.old q1) ?_
    skip
    (with_reducible refine is_l ?_); refine l_t txs rfl rfl (fun hh => absurd rfl hh) (fun _ => ?_)
    repeat' (first | ((with_reducible refine g_on ?_); (first | ((with_reducible refine g_mv ?_); refine l_p txs rfl rfl ?_) | ((with_reducible refine g_pk ?_); refine l_p txs rfl rfl ?_))) | ((with_reducible refine g_if ?_); (first | ((with_reducible refine g_fa ?_); refine h_fa flds rfl rfl ?_) | ((with_reducible refine g_ld ?_); (refine h_ld txs H 0 rfl rfl rfl rfl ?_)))))
    (with_reducible refine is_l ?_); refine l_ld txs rfl rfl (H.old q2) ?_
    skip
    (with_reducible refine is_l ?_); refine l_t txs rfl rfl (fun hh => absurd rfl hh) (fun _ => ?_)
    repeat' (first | ((with_reducible refine g_on ?_); (first | ((with_reducible refine g_mv ?_); refine l_p txs rfl rfl ?_) | ((with_reducible refine g_pk ?_); refine l_p txs rfl rfl ?_))) | ((with_reducible refine g_if ?_); (first | ((with_reducible refine g_fa ?_); refine h_fa flds rfl rfl ?_) | ((with_reducible refine g_ld ?_); (refine h_ld txs H 0 rfl rfl rfl rfl ?_)))))
    (with_reducible refine is_l ?_); refine l_text rfl rfl Tryz.underlying23 Tryz.underlying5 Tryz.underlying9 (rowB_rd H 1 (F := P1) (f := p1) (x := (backR r).body) rfl).1 ?_
    repeat' ((with_reducible refine g_if ?_); ((with_reducible refine g_fa ?_); refine h_fa flds rfl rfl ?_))
    (with_reducible refine is_l ?_); refine l_ld txs rfl rfl (H.old q74) ?_
    skip
    (with_reducible refine is_l ?_); refine l_text rfl rfl Tryz.underlying23 Tryz.underlying5 Tryz.underlying9 (hBr.below H.B) ?_
    skip
    (with_reducible refine is_l ?_); refine l_t txs rfl rfl (fun hh => absurd rfl hh) (fun _ => ?_)
    repeat' (first | (first | (with_reducible refine p_tn ?_) | (with_reducible refine wp_seq ?_) | (with_reducible (refine is_if ?_; (refine w_iff rfl ?_))) | (with_reducible refine wp_skip ?_)) | (first | (with_reducible refine l_nil ?_) | ((with_reducible refine g_on ?_); ((with_reducible refine g_pk ?_); refine l_p txs rfl rfl ?_))))
    have HS := H.pick [0] [] (by decide) (by decide) rfl rfl
    refine d_start (fun w_ => Hp w w_ _ _) #[false, false, false, false, false, false, false, false, false, false, false, false, false, false] (by kernel_rfl) rfl rfl HS.drew ?_
    have H := H.drew
    have HS := HS.drew
    first | (refine d_pure (i := 0) #[true, false, false, false, false, false, false, false, false, false, false, false, false, false] rfl (by kernel_rfl) (fun _ _ _ h => h) rfl (fun w_ => evF_run (o := ⟨_, _, _, _, _, _⟩) flds rfl) ?_) | (refine d_pure (i := 0) #[true, false, false, false, false, false, false, false, false, false, false, false, false, false] rfl (by kernel_rfl) (fun _ _ _ h => h) rfl (fun w_ => evG_run (o := ⟨_, _, _, _, _, _⟩) flds rfl) ?_)
    first | (refine d_take (i := 1) #[true, true, false, false, false, false, false, false, false, false, false, false, false, false] rfl (by kernel_rfl) (fun _ _ _ h => h) rfl (fun w_ K => evL_run (o := ⟨_, _, _, _, _, _⟩) txs rfl (K.cellAt 0 rfl rfl)) HS ?_)
    first | (refine d_pure (i := 2) #[true, true, true, false, false, false, false, false, false, false, false, false, false, false] rfl (by kernel_rfl) (fun _ _ _ h => h) rfl (fun w_ => evF_run (o := ⟨_, _, _, _, _, _⟩) flds rfl) ?_) | (refine d_pure (i := 2) #[true, true, true, false, false, false, false, false, false, false, false, false, false, false] rfl (by kernel_rfl) (fun _ _ _ h => h) rfl (fun w_ => evG_run (o := ⟨_, _, _, _, _, _⟩) flds rfl) ?_)
    first | (refine d_take (i := 3) #[true, true, true, true, false, false, false, false, false, false, false, false, false, false] rfl (by kernel_rfl) (fun _ _ _ h => h) rfl (fun w_ K => evL_run (o := ⟨_, _, _, _, _, _⟩) txs rfl (K.old q73)) HS ?_)
    first | (refine d_pure (i := 4) #[true, true, true, true, true, false, false, false, false, false, false, false, false, false] rfl (by kernel_rfl) (fun _ _ _ h => h) rfl (fun w_ => evP_run (o := ⟨_, _, _, _, _, _⟩) txs rfl) ?_)
    refine d_one (i := 5) #[true, true, true, true, true, true, false, false, false, false, false, false, false, false] rfl (by kernel_rfl) rfl ?_
    (refine l_call rfl rfl (by kernel_rfl) (told_c (hPf.below H.B) (hFr.below H.B) hfb2 hfl2 _ (by omega)) (fun e w_ hR => ?_)); obtain ⟨A3, c3, rfl, K⟩ := hR; refine ⟨_, rfl, ?_⟩; rw [hti] at K ⊢; have H := H.join K
    refine l_nil ?_
    have HS := H.pick [0] [] (by decide) (by decide) rfl rfl
    refine ⟨rfl, HS, ?_⟩
    refine d_one (i := 6) #[true, true, true, true, true, true, true, false, false, false, false, false, false, false] rfl (by kernel_rfl) rfl ?_
    refine l_callv rfl rfl (by kernel_rfl) (alike_c (rowF_rd H 1 (F := F1) (f := f1) (x := printedS r.fields (toldB r.body)) rfl) (rowF_rd H 0 (F := A3) (f := c3) (x := printedS r.fields (toldB r.body)) rfl) (by exact hpl2)) (fun w_ K => ?_); have H := H.call K
    refine l_nil ?_
    have HS := H.pick [0] [] (by decide) (by decide) rfl rfl
    refine ⟨rfl, HS, ?_⟩
    first | (refine d_pure (i := 7) #[true, true, true, true, true, true, true, true, false, false, false, false, false, false] rfl (by kernel_rfl) (fun _ _ _ h => h) rfl (fun w_ => evP_run (o := ⟨_, _, _, _, _, _⟩) txs rfl) ?_)
    first | (refine d_pure (i := 8) #[true, true, true, true, true, true, true, true, true, false, false, false, false, false] rfl (by kernel_rfl) (fun _ _ _ h => h) rfl (fun w_ => evP_run (o := ⟨_, _, _, _, _, _⟩) txs rfl) ?_)
    first | (refine d_off (i := 9) #[true, true, true, true, true, true, true, true, true, true, false, false, false, false] rfl (by kernel_rfl) (fun _ _ _ h => h) rfl ?_) | (first | (refine d_pure (i := 9) #[true, true, true, true, true, true, true, true, true, true, false, false, false, false] rfl (by kernel_rfl) (fun _ _ _ h => h) rfl (fun w_ => evP_run (o := ⟨_, _, _, _, _, _⟩) txs rfl) ?_))
    first | (refine d_off (i := 10) #[true, true, true, true, true, true, true, true, true, true, true, false, false, false] rfl (by kernel_rfl) (fun _ _ _ h => h) rfl ?_) | (first | (refine d_pure (i := 10) #[true, true, true, true, true, true, true, true, true, true, true, false, false, false] rfl (by kernel_rfl) (fun _ _ _ h => h) rfl (fun w_ => evP_run (o := ⟨_, _, _, _, _, _⟩) txs rfl) ?_))
    refine d_one (i := 11) #[true, true, true, true, true, true, true, true, true, true, true, true, false, false] rfl (by kernel_rfl) rfl ?_
    refine l_callv rfl rfl (by kernel_rfl) (short_c (hEf.below H.B) (H.old hMf) (hTbf _ H.B) (reads_of_rd (RB.below H.B) (by omega)) hc hXb (by omega) hX0 hbk0 _) (fun w_ K => ?_); have H := H.call K
    refine l_nil ?_
    have HS := H.pick [0] [] (by decide) (by decide) rfl rfl
    refine ⟨rfl, HS, ?_⟩
    first | (refine d_off (i := 12) #[true, true, true, true, true, true, true, true, true, true, true, true, true, false] rfl (by kernel_rfl) (fun _ _ _ h => h) rfl ?_) | (first | (refine d_pure (i := 12) #[true, true, true, true, true, true, true, true, true, true, true, true, true, false] rfl (by kernel_rfl) (fun _ _ _ h => h) rfl (fun w_ => evP_run (o := ⟨_, _, _, _, _, _⟩) txs rfl) ?_))
    first | (refine d_pure (i := 13) #[true, true, true, true, true, true, true, true, true, true, true, true, true, true] rfl (by kernel_rfl) (fun _ _ _ h => h) rfl (fun w_ => evP_run (o := ⟨_, _, _, _, _, _⟩) txs rfl) ?_)
    refine d_done rfl ?_
    repeat' (first | (first | (with_reducible refine p_tn ?_) | (with_reducible refine wp_seq ?_) | (with_reducible refine w_reg ?_) | (with_reducible (refine is_if ?_; (refine w_iff rfl ?_))) | (with_reducible refine wp_skip ?_)) | ((with_reducible refine g_on ?_); ((with_reducible refine g_mv ?_); refine l_p txs rfl rfl ?_)))
    have HJ := H0.join H
    have hgf : g < w.heap.size := blk_lt hgb
    obtain ⟨ap1, ap2⟩ := apart_join H1 hge hgf H
    have hgb2 := (H.B.block g hgf).trans hgb
    (with_reducible refine is_l ?_); refine l_appM (xs := X) (ys := tl) HJ info_u8 Tryz.underlying23 hgb2 hgs hc hgt (Nat.le_trans H1.B.size hge) ap1 ap2 rfl (rd_of_reads (hrf2.below H.B)) rfl (by omega) (fun A' c' w_ H hle hne hrd => ?_)
    have hXt : (X ++ tl).length = X.length + tl.length := List.length_append
    rw [← hXt]
    skip
    (with_reducible refine is_l ?_); refine l_call rfl rfl (by kernel_rfl) (padded_c (reads_of_rd hrd (by omega)) 0 (by omega)) (fun e w_ hR => ?_)
    obtain ⟨A0, c0, rfl, K⟩ := hR
    refine ⟨_, rfl, ?_⟩
    have hp1 : padS (X ++ tl) 0 = X ++ tl := by simp [padS, padN]
    rw [hp1] at K ⊢
    have H := H.join K
    skip
    obtain ⟨ra, ra2, ra3⟩ := rowB_rd H 0 (F := A0) (f := c0) (x := X ++ tl) rfl
    (with_reducible refine is_l ?_); refine l_call rfl rfl (by kernel_rfl) (ParseRequest_c (hE.below H.B) (H.old hM) (hTb _ H.B) ra ra2 ra3 (app_bytes hXb htb) (by omega)) (fun e w_ hR => ?_)
    have hR := prR_out hR
    rw [ho2] at hR
    simp only at hR
    obtain ⟨F2, f2, P2, p2, rfl, K⟩ := hR
    refine ⟨_, rfl, ?_⟩
    have H := H.join K
    repeat' (first | (first | (with_reducible refine p_tn ?_) | (with_reducible refine wp_seq ?_) | (with_reducible refine w_reg ?_)) | (first | (with_reducible refine l_nil ?_) | ((with_reducible refine g_on ?_); (first | ((with_reducible refine g_mv ?_); refine l_p txs rfl rfl ?_) | ((with_reducible refine g_as ?_); refine l_p txs rfl rfl ?_) | ((with_reducible refine g_ex ?_); refine l_p txs rfl rfl ?_) | ((with_reducible refine g_st ?_); (refine h_stR recs H 0 rfl rfl rfl rfl rfl rfl rfl rfl rfl (fun w_ H => ?_))) | ((with_reducible refine g_al ?_); refine h_alloc recs H rfl rfl (fun g_ w_ H => ?_))))))
    (with_reducible refine is_l ?_); refine l_t txs rfl rfl (fun _ => ?_) (fun hh => absurd rfl hh)
    repeat' (first | ((with_reducible refine g_on ?_); ((with_reducible refine g_mv ?_); refine l_p txs rfl rfl ?_)) | ((with_reducible refine g_if ?_); ((with_reducible refine g_mv ?_); refine l_p txs rfl rfl ?_)))
    (with_reducible refine is_l ?_); refine l_t txs rfl rfl (fun _ => ?_) (fun hh => absurd rfl hh)
    repeat' (first | ((with_reducible refine g_on ?_); (first | ((with_reducible refine g_mv ?_); refine l_p txs rfl rfl ?_) | ((with_reducible refine g_pk ?_); refine l_p txs rfl rfl ?_))) | ((with_reducible refine g_if ?_); ((with_reducible refine g_ld ?_); (first | (refine h_ldR recs H 0 rfl rfl rfl rfl rfl ?_) | (refine h_ldR recs H 1 rfl rfl rfl rfl rfl ?_)))))
    (with_reducible refine is_l ?_); refine l_callv rfl rfl (by kernel_rfl) (twins_c (backR r) (rowF_rd H 0 (F := F2) (f := f2) rfl) (rowF_rd H 4 (F := F1) (f := f1) rfl) (rowB_rd H 1 (F := P2) (f := p2) rfl).1 (rowB_rd H 5 (F := P1) (f := p1) rfl).1 (by exact hpl2)) (fun w_ K => ?_)
    have H := H.call K
    repeat' (first | (first | (with_reducible refine p_tn ?_) | (with_reducible refine wp_ret ?_)) | (first | (with_reducible refine l_nil ?_) | ((with_reducible refine g_on ?_); (first | ((with_reducible refine g_as ?_); refine l_p txs rfl rfl ?_) | ((with_reducible refine g_pk ?_); refine l_p txs rfl rfl ?_)))))
    refine end1 rfl rfl ?_
    exact ⟨rfl, H.B⟩
end Go.Proofs.YthgojbdpmcccaaaGreatDoor.K
end
