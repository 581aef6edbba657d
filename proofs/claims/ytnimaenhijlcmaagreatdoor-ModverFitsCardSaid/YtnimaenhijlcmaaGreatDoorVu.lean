/- Base64 written. -/
import Derived.Test.YtnimaenhijlcmaaGreatDoorVs
namespace Go.Proofs.YtnimaenhijlcmaaGreatDoor.K
open Go.RowKit Go.Proofs.YtnimaenhijlcmaaGreatDoor.Q Go.Proofs.YtnimaenhijlcmaaGreatDoor.Mb Go.Proofs.YtnimaenhijlcmaaGreatDoorW.PrintWords
set_option linter.unusedVariables false
set_option linter.unusedSimpArgs false

theorem fill4 (a b c d : Int) : Instr.fill (fun i => some (i * 1, 1)) ((Array.range (4 * 1)).map ((Value.int .u8 0).cells[· % (Value.int .u8 0).cells.size]!)) [(0, .int .u8 a), (1, .int .u8 b), (2, .int .u8 c), (3, .int .u8 d)] = some (nums .u8 [a, b, c, d]).toArray := by kernel_rfl
theorem nums_app (x y : L) : nums .u8 (x ++ y) = nums .u8 x ++ nums .u8 y := by simp [nums]
set_option maxRecDepth 100000 in
set_option maxHeartbeats 8000000 in
theorem enc_c {w : World} {g j c : Nat} (x : L) (hb : Bytes x) (hl : x.length ≤ 1000) (hc : x.length ≤ c) (hR : ∀ i v, (nums .u8 x)[i]? = some v → w.cell? ⟨g, j + i, none⟩ = some v) :
    Calls Tryz.prog 48 #[.slice (some ⟨g, j, none⟩) x.length c] w fun e w' => e = .returned (.string (strOfNums (enc64 x))) ∧ Below w.heap.size w w' := by
  refine enter (args := [.slice (some ⟨g, j, none⟩) x.length c]) Tryz.func48 rfl Tryz.ntmps48 rfl ?_
  have H := Hp.nil w
  repeat' (first | (with_reducible first | refine p_tn ?_ | refine wp_seq ?_ | refine w_reg ?_ | refine l_nil ?_) | ((with_reducible refine g_on ?_); (first | ((with_reducible refine g_mv ?_); refine l_p txs rfl rfl ?_) | ((with_reducible refine g_as ?_); refine l_p txs rfl rfl ?_) | ((with_reducible refine g_cl ?_); refine l_p txs rfl rfl ?_) | ((with_reducible refine g_bi ?_); (refine l_a txs rfl rfl (by first | exact in_i64 (by omega) (by omega) | exact in_u8 (by omega) (by omega) | exact in_u64 (by omega) (by omega) | exact in_i32 (by omega) (by omega)) ?_)))))
  (with_reducible refine is_l ?_); refine l_bii rfl rfl rfl (quoZ _ 3 (by omega) (by omega) (by decide) rfl) ?_
  repeat' ((with_reducible refine g_on ?_); ((with_reducible refine g_bi ?_); (refine l_a txs rfl rfl (by first | exact in_i64 (by omega) (by omega) | exact in_u8 (by omega) (by omega) | exact in_u64 (by omega) (by omega) | exact in_i32 (by omega) (by omega)) ?_)))
  (with_reducible refine is_l ?_); refine h_mk0 (c := (x.length + 2) / 3 * 4) H info_u8 Tryz.underlying34 rfl rfl rfl (by omega) (by omega) (by simp only [maxLen]; omega) (fun gm w_ H => ?_)
  repeat' (first | (with_reducible first | refine p_tn ?_ | refine wp_seq ?_ | refine wp_block ?_ | refine l_nil ?_) | ((with_reducible refine g_on ?_); ((with_reducible refine g_as ?_); refine l_p txs rfl rfl ?_)))
  refine w_loop (σ := L × Nat × Nat × L × Option Addr × Nat) (S := fun s => [(0, .slice (some ⟨g, s.2.1, none⟩) s.1.length s.2.2.1), (3, .slice s.2.2.2.2.1 s.2.2.2.1.length s.2.2.2.2.2)])
    (J := fun s w' => Hp w w' [] [rowB (.slice s.2.2.2.2.1 s.2.2.2.1.length s.2.2.2.2.2) s.2.2.2.1] ∧ enc64 x = s.2.2.2.1 ++ enc64 s.1 ∧ (∀ i v, (nums .u8 s.1)[i]? = some v → w.cell? ⟨g, s.2.1 + i, none⟩ = some v) ∧ s.1.length ≤ s.2.2.1 ∧ Bytes s.1 ∧ s.2.2.2.1.length + 2 * s.1.length ≤ 2000) (μ := fun s => s.1.length) (x, j, c, [], some ⟨gm, 0, none⟩, (x.length + 2) / 3 * 4) ⟨rfl, rfl, trivial⟩ ⟨H, rfl, hR, hc, hb, by show 0 + 2 * x.length ≤ 2000; omega⟩ ?_
  clear H
  rintro ⟨r, jj, cc, acc, A2, c2⟩ f w_ ⟨H, hE, hC, hcc, hbr, hal⟩
  simp only at H hE hC hcc hbr hal ⊢
  repeat' (first | (with_reducible first | refine wp_seq ?_ | refine w_reg ?_) | ((with_reducible refine g_on ?_); (first | ((with_reducible refine g_mv ?_); refine l_p txs rfl rfl ?_) | ((with_reducible refine g_cl ?_); refine l_p txs rfl rfl ?_))))
  (with_reducible refine is_l ?_); refine l_t txs rfl rfl (fun h3 => ?_) (fun h3 => ?_)
  · obtain ⟨a, b, d, r', rfl⟩ : ∃ a b d r', r = a :: b :: d :: r' := by
      match r, h3 with
      | a :: b :: d :: r', _ => exact ⟨a, b, d, r', rfl⟩
      | [_, _], h => exact absurd h (by simp)
      | [_], h => exact absurd h (by simp)
      | [], h => exact absurd h (by simp)
    have c0 := hC 0 _ rfl
    have c1 := hC 1 _ rfl
    have c2' := hC 2 _ rfl
    have ha := hbr a (by simp)
    have hbb := hbr b (by simp)
    have hd := hbr d (by simp)
    repeat' (first | (with_reducible first | refine p_tn ?_ | refine wp_seq ?_ | refine wp_block ?_) | (with_reducible (refine is_if ?_; (refine w_ift rfl ?_))) | (with_reducible first | refine wp_skip ?_ | refine l_nil ?_))
    refine w_draw (C := fun w' => Hp w w' [] [rowB (.slice A2 acc.length c2) acc]) (by kernel_rfl) (by kernel_rfl) H.drew ?_
    repeat' (first | (with_reducible refine q_nil ?_) | ((with_reducible refine is_q ?_); first | (refine q_off rfl ?_) | (refine q_p txs rfl rfl ?_) | (refine q_a txs rfl rfl (by first | exact in_i64 (by omega) (by omega) | exact in_u8 (by omega) (by omega) | exact in_u64 (by omega) (by omega) | exact in_i32 (by omega) (by omega)) ?_)))
    refine q_ia txs rfl rfl (by omega) (by omega) ?_
    refine q_ld txs rfl rfl (fun w' K => K.old c0) ?_
    repeat' (first | (with_reducible refine q_nil ?_) | ((with_reducible refine is_q ?_); first | (refine q_off rfl ?_) | (refine q_p txs rfl rfl ?_) | (refine q_a txs rfl rfl (by first | exact in_i64 (by omega) (by omega) | exact in_u8 (by omega) (by omega) | exact in_u64 (by omega) (by omega) | exact in_i32 (by omega) (by omega)) ?_)))
    refine q_bii (z := .int .i64 (a * 65536)) rfl rfl rfl (fun w => shlI _ w 16 (by decide) rfl (by omega) (by omega)) ?_
    repeat' (first | (with_reducible refine q_nil ?_) | ((with_reducible refine is_q ?_); first | (refine q_off rfl ?_) | (refine q_p txs rfl rfl ?_) | (refine q_a txs rfl rfl (by first | exact in_i64 (by omega) (by omega) | exact in_u8 (by omega) (by omega) | exact in_u64 (by omega) (by omega) | exact in_i32 (by omega) (by omega)) ?_)))
    refine q_ia txs rfl rfl (by omega) (by omega) ?_
    refine q_ld txs rfl rfl (fun w' K => K.old c1) ?_
    repeat' (first | (with_reducible refine q_nil ?_) | ((with_reducible refine is_q ?_); first | (refine q_off rfl ?_) | (refine q_p txs rfl rfl ?_) | (refine q_a txs rfl rfl (by first | exact in_i64 (by omega) (by omega) | exact in_u8 (by omega) (by omega) | exact in_u64 (by omega) (by omega) | exact in_i32 (by omega) (by omega)) ?_)))
    refine q_bii (z := .int .i64 (b * 256)) rfl rfl rfl (fun w => shlI _ w 8 (by decide) rfl (by omega) (by omega)) ?_
    repeat' (first | (with_reducible refine q_nil ?_) | ((with_reducible refine is_q ?_); first | (refine q_off rfl ?_) | (refine q_p txs rfl rfl ?_) | (refine q_a txs rfl rfl (by first | exact in_i64 (by omega) (by omega) | exact in_u8 (by omega) (by omega) | exact in_u64 (by omega) (by omega) | exact in_i32 (by omega) (by omega)) ?_)))
    refine q_bii (z := .int .i64 (a * 65536 + b * 256)) rfl rfl rfl (fun w => orI _ w 16 (by decide) (by omega) (by omega) (by omega) (by omega) (by omega) rfl) ?_
    repeat' (first | (with_reducible refine q_nil ?_) | ((with_reducible refine is_q ?_); first | (refine q_off rfl ?_) | (refine q_p txs rfl rfl ?_) | (refine q_a txs rfl rfl (by first | exact in_i64 (by omega) (by omega) | exact in_u8 (by omega) (by omega) | exact in_u64 (by omega) (by omega) | exact in_i32 (by omega) (by omega)) ?_)))
    refine q_ia txs rfl rfl (by omega) (by omega) ?_
    refine q_ld txs rfl rfl (fun w' K => K.old c2') ?_
    repeat' (first | (with_reducible refine q_nil ?_) | ((with_reducible refine is_q ?_); first | (refine q_off rfl ?_) | (refine q_p txs rfl rfl ?_) | (refine q_a txs rfl rfl (by first | exact in_i64 (by omega) (by omega) | exact in_u8 (by omega) (by omega) | exact in_u64 (by omega) (by omega) | exact in_i32 (by omega) (by omega)) ?_)))
    refine q_bii (z := .int .i64 (a * 65536 + b * 256 + d)) rfl rfl rfl (fun w => orI _ w 8 (by decide) (by omega) (by omega) (by omega) (by omega) (by omega) rfl) ?_
    repeat' (first | (with_reducible refine q_nil ?_) | ((with_reducible refine is_q ?_); first | (refine q_off rfl ?_) | (refine q_p txs rfl rfl ?_) | (refine q_a txs rfl rfl (by first | exact in_i64 (by omega) (by omega) | exact in_u8 (by omega) (by omega) | exact in_u64 (by omega) (by omega) | exact in_i32 (by omega) (by omega)) ?_)))
    clear H
    intro w_ H
    repeat' (with_reducible first | refine p_tn ?_ | refine wp_seq ?_)
    generalize hN : a * 65536 + b * 256 + d = N
    have HS := H.pick [] [] (by decide) (by decide) rfl rfl
    refine d_start (fun w_ => Hp w w_ _ _) #[false, false, false, false, false, false, false, false, false, false, false, false, false, false, false, false, false, false] (by kernel_rfl) rfl rfl HS.drew ?_
    have H := H.drew
    have HS := HS.drew
    first | (refine d_pure (i := 0) #[true, false, false, false, false, false, false, false, false, false, false, false, false, false, false, false, false, false] rfl (by kernel_rfl) (fun _ _ _ h => h) rfl (fun w_ => evP_run (o := ⟨_, _, _, _, _, _⟩) txs rfl) ?_)
    first | (refine d_pure (i := 1) #[true, true, false, false, false, false, false, false, false, false, false, false, false, false, false, false, false, false] rfl (by kernel_rfl) (fun _ _ _ h => h) rfl (fun w_ => evP_run (o := ⟨_, _, _, _, _, _⟩) txs rfl) ?_)
    first | (refine d_pure (i := 2) #[true, true, true, false, false, false, false, false, false, false, false, false, false, false, false, false, false, false] rfl (by kernel_rfl) (fun _ _ _ h => h) rfl (fun w_ => bii_run rfl rfl (shrI _ w_ 18 (by decide) (by omega) (z := a / 4) (by omega))) ?_)
    first | (refine d_pure (i := 3) #[true, true, true, true, false, false, false, false, false, false, false, false, false, false, false, false, false, false] rfl (by kernel_rfl) (fun _ _ _ h => h) rfl (fun w_ => let_run txs rfl (by omega) (by omega)) ?_)
    first | (refine d_pure (i := 4) #[true, true, true, true, true, false, false, false, false, false, false, false, false, false, false, false, false, false] rfl (by kernel_rfl) (fun _ _ _ h => h) rfl (fun w_ => evP_run (o := ⟨_, _, _, _, _, _⟩) txs rfl) ?_)
    first | (refine d_pure (i := 5) #[true, true, true, true, true, true, false, false, false, false, false, false, false, false, false, false, false, false] rfl (by kernel_rfl) (fun _ _ _ h => h) rfl (fun w_ => bii_run rfl rfl (shrI _ w_ 12 (by decide) (by omega) (z := N / 4096) rfl)) ?_)
    first | (refine d_pure (i := 6) #[true, true, true, true, true, true, true, false, false, false, false, false, false, false, false, false, false, false] rfl (by kernel_rfl) (fun _ _ _ h => h) rfl (fun w_ => bii_run rfl rfl (andI _ w_ 6 (by decide) rfl (by omega) (by omega) (z := a % 4 * 16 + b / 16) (by omega))) ?_)
    first | (refine d_pure (i := 7) #[true, true, true, true, true, true, true, true, false, false, false, false, false, false, false, false, false, false] rfl (by kernel_rfl) (fun _ _ _ h => h) rfl (fun w_ => let_run txs rfl (by omega) (by omega)) ?_)
    first | (refine d_pure (i := 8) #[true, true, true, true, true, true, true, true, true, false, false, false, false, false, false, false, false, false] rfl (by kernel_rfl) (fun _ _ _ h => h) rfl (fun w_ => evP_run (o := ⟨_, _, _, _, _, _⟩) txs rfl) ?_)
    first | (refine d_pure (i := 9) #[true, true, true, true, true, true, true, true, true, true, false, false, false, false, false, false, false, false] rfl (by kernel_rfl) (fun _ _ _ h => h) rfl (fun w_ => bii_run rfl rfl (shrI _ w_ 6 (by decide) (by omega) (z := N / 64) rfl)) ?_)
    first | (refine d_pure (i := 10) #[true, true, true, true, true, true, true, true, true, true, true, false, false, false, false, false, false, false] rfl (by kernel_rfl) (fun _ _ _ h => h) rfl (fun w_ => bii_run rfl rfl (andI _ w_ 6 (by decide) rfl (by omega) (by omega) (z := b % 16 * 4 + d / 64) (by omega))) ?_)
    first | (refine d_pure (i := 11) #[true, true, true, true, true, true, true, true, true, true, true, true, false, false, false, false, false, false] rfl (by kernel_rfl) (fun _ _ _ h => h) rfl (fun w_ => let_run txs rfl (by omega) (by omega)) ?_)
    first | (refine d_pure (i := 12) #[true, true, true, true, true, true, true, true, true, true, true, true, true, false, false, false, false, false] rfl (by kernel_rfl) (fun _ _ _ h => h) rfl (fun w_ => evP_run (o := ⟨_, _, _, _, _, _⟩) txs rfl) ?_)
    first | (refine d_pure (i := 13) #[true, true, true, true, true, true, true, true, true, true, true, true, true, true, false, false, false, false] rfl (by kernel_rfl) (fun _ _ _ h => h) rfl (fun w_ => bii_run rfl rfl (andI _ w_ 6 (by decide) rfl (by omega) (by omega) (z := d % 64) (by omega))) ?_)
    first | (refine d_pure (i := 14) #[true, true, true, true, true, true, true, true, true, true, true, true, true, true, true, false, false, false] rfl (by kernel_rfl) (fun _ _ _ h => h) rfl (fun w_ => let_run txs rfl (by omega) (by omega)) ?_)
    refine d_one (i := 15) #[true, true, true, true, true, true, true, true, true, true, true, true, true, true, true, true, false, false] rfl (by kernel_rfl) rfl ?_
    refine h_bsn H info_u8 Tryz.underlying34 (by decide) (by decide) rfl (fill4 _ _ _ _) (fun g_ w_ H => ?_)
    refine l_nil ?_
    have HS := H.pick [] [] (by decide) (by decide) rfl rfl
    refine ⟨rfl, HS, ?_⟩
    refine d_one (i := 16) #[true, true, true, true, true, true, true, true, true, true, true, true, true, true, true, true, true, false] rfl (by kernel_rfl) rfl ?_
    (refine h_app H 0 rfl info_u8 Tryz.underlying34 rfl rfl rfl rfl (H.cellRd 0 rfl) rfl rfl (by show (acc.length + 4) * 1 ≤ _; omega) (fun v w_ hv H => ?_)); obtain ⟨A', c', rfl⟩ := hv
    refine l_nil ?_
    have HS := H.pick [] [] (by decide) (by decide) rfl rfl
    refine ⟨rfl, HS, ?_⟩
    first | (refine d_pure (i := 17) #[true, true, true, true, true, true, true, true, true, true, true, true, true, true, true, true, true, true] rfl (by kernel_rfl) (fun _ _ _ h => h) rfl (fun w_ => evP_run (o := ⟨_, _, _, _, _, _⟩) txs rfl) ?_)
    refine d_done rfl ?_
    have H := H.pick [] [0] (by decide) (by decide) rfl rfl
    repeat' (with_reducible first | refine p_tn ?_ | refine w_reg ?_)
    (with_reducible refine is_l ?_); refine l_p txs rfl rfl ?_
    (with_reducible refine is_l ?_); refine l_cutN txs 3 (r'.length + 3) rfl rfl (by omega) (by simp only [List.length_cons] at hcc; omega) ?_
    repeat' (first | (with_reducible first | refine p_tn ?_ | refine p_bn ?_ | refine l_nil ?_) | ((with_reducible refine g_on ?_); ((with_reducible refine g_as ?_); refine l_p txs rfl rfl ?_)))
    have hlen : (a :: b :: d :: r').length = r'.length + 3 := rfl
    obtain ⟨j2, hj2, hC2⟩ : ∃ j2, cutA (some ⟨g, jj, none⟩) cc 3 1 = some ⟨g, j2, none⟩ ∧ ∀ i v, (nums .u8 r')[i]? = some v → w.cell? ⟨g, j2 + i, none⟩ = some v := by
      by_cases hz : cc = 3
      · refine ⟨jj, by unfold cutA; rw [if_pos hz], fun i v hv => ?_⟩
        have : r' = [] := List.length_eq_zero_iff.1 (by omega)
        rw [this] at hv
        cases hv
      · refine ⟨jj + 3, by unfold cutA; rw [if_neg hz]; rfl, fun i v hv => ?_⟩
        have := hC (i + 3) v (by simpa [nums] using hv)
        rw [← this]
        congr 2
        omega
    refine ⟨(r', j2, cc - 3, acc ++ [lt (a / 4), lt (a % 4 * 16 + b / 16), lt (b % 16 * 4 + d / 64), lt (d % 64)], A', c'), _, rfl, ⟨?_, ?_, trivial⟩, ⟨?_, ?_, hC2, ?_, fun y hy => hbr y (by simp [hy]), ?_⟩, ?_⟩
    · show Value.slice (cutA (some ⟨g, jj, none⟩) cc 3 1) (r'.length + 3 - 3) (cc - 3) = Value.slice (some ⟨g, j2, none⟩) r'.length (cc - 3)
      rw [hj2]
      rfl
    · show Value.slice A' (acc.length + 4) c' = Value.slice A' (acc ++ [_, _, _, _]).length c'
      rw [List.length_append]
      rfl
    · show Hp w w_ [] [rowB (.slice A' (acc ++ [_, _, _, _]).length c') (acc ++ [_, _, _, _])]
      unfold rowB
      rw [List.length_append, nums_app]
      exact H
    · show enc64 x = (acc ++ [_, _, _, _]) ++ enc64 r'
      rw [hE, List.append_assoc]
      rfl
    · show r'.length ≤ cc - 3
      omega
    · show (acc ++ [_, _, _, _]).length + 2 * r'.length ≤ 2000
      rw [List.length_append]
      show acc.length + 4 + _ ≤ _
      omega
    · show r'.length < (a :: b :: d :: r').length
      omega
  · repeat' (first | (with_reducible first | refine p_tn ?_ | refine p_tx ?_ | refine x_hit ?_ | refine wp_seq ?_ | refine wp_block ?_ | refine w_reg ?_) | (with_reducible (refine is_if ?_; (refine w_iff rfl ?_))) | (with_reducible first | refine wp_exit ?_ | refine l_nil ?_) | ((with_reducible refine g_on ?_); (first | ((with_reducible refine g_mv ?_); refine l_p txs rfl rfl ?_) | ((with_reducible refine g_cl ?_); refine l_p txs rfl rfl ?_))))
    (with_reducible refine is_l ?_); refine l_t txs rfl rfl (fun h1 => ?_) (fun h1 => ?_)
    · obtain ⟨a, rfl⟩ : ∃ a, r = [a] := List.length_eq_one_iff.1 (by omega)
      have c0 := hC 0 _ rfl
      have ha := hbr a (by simp)
      repeat' (first | (with_reducible first | refine p_tn ?_ | refine wp_seq ?_ | refine w_reg ?_) | (with_reducible (refine is_if ?_; (refine w_ift rfl ?_))) | (with_reducible refine l_nil ?_) | ((with_reducible refine g_on ?_); (first | ((with_reducible refine g_mv ?_); refine l_p txs rfl rfl ?_) | ((with_reducible refine g_as ?_); refine l_p txs rfl rfl ?_) | ((with_reducible refine g_ia ?_); refine l_ia txs rfl rfl (by first | omega | assumption | decide) (by first | omega | assumption | decide) ?_))))
      (with_reducible refine is_l ?_); refine l_ld txs rfl rfl (H.old c0) ?_
      repeat' ((with_reducible refine g_on ?_); ((with_reducible refine g_cv ?_); (refine l_a txs rfl rfl (by first | exact in_i64 (by omega) (by omega) | exact in_u8 (by omega) (by omega) | exact in_u64 (by omega) (by omega) | exact in_i32 (by omega) (by omega)) ?_)))
      (with_reducible refine is_l ?_); refine l_bii (z := .int .i64 (a * 65536)) rfl rfl rfl (shlI _ _ 16 (by decide) (x := a) (z := a * 65536) rfl (by omega) (by omega)) ?_
      repeat' (first | (with_reducible first | refine p_tn ?_ | refine l_nil ?_) | ((with_reducible refine g_on ?_); ((with_reducible refine g_as ?_); refine l_p txs rfl rfl ?_)))
      generalize hN : a * 65536 = N
      have HS := H.pick [] [] (by decide) (by decide) rfl rfl
      refine d_start (fun w_ => Hp w w_ _ _) #[false, false, false, false, false, false, false, false, false, false, false] (by kernel_rfl) rfl rfl HS.drew ?_
      have H := H.drew
      have HS := HS.drew
      first | (refine d_pure (i := 0) #[true, false, false, false, false, false, false, false, false, false, false] rfl (by kernel_rfl) (fun _ _ _ h => h) rfl (fun w_ => evP_run (o := ⟨_, _, _, _, _, _⟩) txs rfl) ?_)
      first | (refine d_pure (i := 1) #[true, true, false, false, false, false, false, false, false, false, false] rfl (by kernel_rfl) (fun _ _ _ h => h) rfl (fun w_ => evP_run (o := ⟨_, _, _, _, _, _⟩) txs rfl) ?_)
      first | (refine d_pure (i := 2) #[true, true, true, false, false, false, false, false, false, false, false] rfl (by kernel_rfl) (fun _ _ _ h => h) rfl (fun w_ => bii_run rfl rfl (shrI _ w_ 18 (by decide) (by omega) (z := a / 4) (by omega))) ?_)
      first | (refine d_pure (i := 3) #[true, true, true, true, false, false, false, false, false, false, false] rfl (by kernel_rfl) (fun _ _ _ h => h) rfl (fun w_ => let_run txs rfl (by omega) (by omega)) ?_)
      first | (refine d_pure (i := 4) #[true, true, true, true, true, false, false, false, false, false, false] rfl (by kernel_rfl) (fun _ _ _ h => h) rfl (fun w_ => evP_run (o := ⟨_, _, _, _, _, _⟩) txs rfl) ?_)
      first | (refine d_pure (i := 5) #[true, true, true, true, true, true, false, false, false, false, false] rfl (by kernel_rfl) (fun _ _ _ h => h) rfl (fun w_ => bii_run rfl rfl (shrI _ w_ 12 (by decide) (by omega) (z := N / 4096) rfl)) ?_)
      first | (refine d_pure (i := 6) #[true, true, true, true, true, true, true, false, false, false, false] rfl (by kernel_rfl) (fun _ _ _ h => h) rfl (fun w_ => bii_run rfl rfl (andI _ w_ 6 (by decide) rfl (by omega) (by omega) (z := a % 4 * 16) (by omega))) ?_)
      first | (refine d_pure (i := 7) #[true, true, true, true, true, true, true, true, false, false, false] rfl (by kernel_rfl) (fun _ _ _ h => h) rfl (fun w_ => let_run txs rfl (by omega) (by omega)) ?_)
      refine d_one (i := 8) #[true, true, true, true, true, true, true, true, true, false, false] rfl (by kernel_rfl) rfl ?_
      refine h_bsn H info_u8 Tryz.underlying34 (by decide) (by decide) rfl (fill4 _ _ _ _) (fun g_ w_ H => ?_)
      refine l_nil ?_
      have HS := H.pick [] [] (by decide) (by decide) rfl rfl
      refine ⟨rfl, HS, ?_⟩
      refine d_one (i := 9) #[true, true, true, true, true, true, true, true, true, true, false] rfl (by kernel_rfl) rfl ?_
      (refine h_app H 0 rfl info_u8 Tryz.underlying34 rfl rfl rfl rfl (H.cellRd 0 rfl) rfl rfl (by show (acc.length + 4) * 1 ≤ _; omega) (fun v w_ hv H => ?_)); obtain ⟨A', c', rfl⟩ := hv
      refine l_nil ?_
      have HS := H.pick [] [] (by decide) (by decide) rfl rfl
      refine ⟨rfl, HS, ?_⟩
      first | (refine d_pure (i := 10) #[true, true, true, true, true, true, true, true, true, true, true] rfl (by kernel_rfl) (fun _ _ _ h => h) rfl (fun w_ => evP_run (o := ⟨_, _, _, _, _, _⟩) txs rfl) ?_)
      refine d_done rfl ?_
      have H := H.pick [] [0] (by decide) (by decide) rfl rfl
      have H : ∃ acc', enc64 x = acc' ∧ Hp w w_ [] [rowB (.slice A' acc'.length c') acc'] := by
        refine ⟨_, hE, ?_⟩
        unfold rowB
        rw [List.length_append, nums_app]
        exact H
      obtain ⟨acc', hE', H⟩ := H
      have hl4 : acc'.length = acc.length + 4 := by
        rw [← hE', hE, List.length_append]
        rfl
      have hsl : Value.slice A' (acc.length + 4) c' = Value.slice A' acc'.length c' := by rw [hl4]
      repeat' (with_reducible first | refine p_tn ?_ | refine p_bn ?_ | refine wp_seq ?_ | refine w_reg ?_)
      rw [show (rowB (.slice A2 acc.length c2) acc).n = acc.length from rfl, hsl]
      repeat' ((with_reducible refine g_on ?_); ((with_reducible refine g_mv ?_); refine l_p txs rfl rfl ?_))
      (with_reducible refine is_l ?_); refine l_text rfl rfl Tryz.underlying34 Tryz.underlying5 Tryz.underlying9 (rowB_rd H 0 (F := A') (f := c') (x := acc') rfl).1 ?_
      repeat' (first | (with_reducible first | refine p_tn ?_ | refine wp_ret ?_ | refine l_nil ?_) | ((with_reducible refine g_on ?_); ((with_reducible refine g_as ?_); refine l_p txs rfl rfl ?_)))
      refine end1 rfl rfl ?_
      exact ⟨by rw [hE'], H.B⟩
    · repeat' (first | (with_reducible first | refine p_tn ?_ | refine wp_seq ?_ | refine w_reg ?_) | (with_reducible (refine is_if ?_; (refine w_iff rfl ?_))) | (with_reducible refine l_nil ?_) | ((with_reducible refine g_on ?_); ((with_reducible refine g_as ?_); refine l_p txs rfl rfl ?_)))
      (with_reducible refine is_l ?_); refine l_t txs rfl rfl (fun h2 => ?_) (fun h2 => ?_)
      · obtain ⟨a, b, rfl⟩ : ∃ a b, r = [a, b] := by
          match r, h2 with
          | [a, b], _ => exact ⟨a, b, rfl⟩
          | [], h => exact absurd h (by simp)
          | [_], h => exact absurd h (by simp)
          | _ :: _ :: _ :: _, h => simp only [List.length_cons] at h; omega
        have c0 := hC 0 _ rfl
        have c1 := hC 1 _ rfl
        have ha := hbr a (by simp)
        have hbb := hbr b (by simp)
        repeat' (first | (with_reducible first | refine p_tn ?_ | refine wp_seq ?_) | (with_reducible (refine is_if ?_; (refine w_ift rfl ?_))) | (with_reducible refine l_nil ?_) | ((with_reducible refine g_on ?_); ((with_reducible refine g_as ?_); refine l_p txs rfl rfl ?_)))
        refine w_draw (C := fun w' => Hp w w' [] [rowB (.slice A2 acc.length c2) acc]) (by kernel_rfl) (by kernel_rfl) H.drew ?_
        repeat' (first | (with_reducible refine q_nil ?_) | ((with_reducible refine is_q ?_); first | (refine q_off rfl ?_) | (refine q_p txs rfl rfl ?_) | (refine q_a txs rfl rfl (by first | exact in_i64 (by omega) (by omega) | exact in_u8 (by omega) (by omega) | exact in_u64 (by omega) (by omega) | exact in_i32 (by omega) (by omega)) ?_)))
        refine q_ia txs rfl rfl (by omega) (by omega) ?_
        refine q_ld txs rfl rfl (fun w' K => K.old c0) ?_
        repeat' (first | (with_reducible refine q_nil ?_) | ((with_reducible refine is_q ?_); first | (refine q_off rfl ?_) | (refine q_p txs rfl rfl ?_) | (refine q_a txs rfl rfl (by first | exact in_i64 (by omega) (by omega) | exact in_u8 (by omega) (by omega) | exact in_u64 (by omega) (by omega) | exact in_i32 (by omega) (by omega)) ?_)))
        refine q_bii (z := .int .i64 (a * 65536)) rfl rfl rfl (fun w => shlI _ w 16 (by decide) rfl (by omega) (by omega)) ?_
        repeat' (first | (with_reducible refine q_nil ?_) | ((with_reducible refine is_q ?_); first | (refine q_off rfl ?_) | (refine q_p txs rfl rfl ?_) | (refine q_a txs rfl rfl (by first | exact in_i64 (by omega) (by omega) | exact in_u8 (by omega) (by omega) | exact in_u64 (by omega) (by omega) | exact in_i32 (by omega) (by omega)) ?_)))
        refine q_ia txs rfl rfl (by omega) (by omega) ?_
        refine q_ld txs rfl rfl (fun w' K => K.old c1) ?_
        repeat' (first | (with_reducible refine q_nil ?_) | ((with_reducible refine is_q ?_); first | (refine q_off rfl ?_) | (refine q_p txs rfl rfl ?_) | (refine q_a txs rfl rfl (by first | exact in_i64 (by omega) (by omega) | exact in_u8 (by omega) (by omega) | exact in_u64 (by omega) (by omega) | exact in_i32 (by omega) (by omega)) ?_)))
        refine q_bii (z := .int .i64 (b * 256)) rfl rfl rfl (fun w => shlI _ w 8 (by decide) rfl (by omega) (by omega)) ?_
        repeat' (first | (with_reducible refine q_nil ?_) | ((with_reducible refine is_q ?_); first | (refine q_off rfl ?_) | (refine q_p txs rfl rfl ?_) | (refine q_a txs rfl rfl (by first | exact in_i64 (by omega) (by omega) | exact in_u8 (by omega) (by omega) | exact in_u64 (by omega) (by omega) | exact in_i32 (by omega) (by omega)) ?_)))
        refine q_bii (z := .int .i64 (a * 65536 + b * 256)) rfl rfl rfl (fun w => orI _ w 16 (by decide) (by omega) (by omega) (by omega) (by omega) (by omega) rfl) ?_
        repeat' (first | (with_reducible refine q_nil ?_) | ((with_reducible refine is_q ?_); first | (refine q_off rfl ?_) | (refine q_p txs rfl rfl ?_) | (refine q_a txs rfl rfl (by first | exact in_i64 (by omega) (by omega) | exact in_u8 (by omega) (by omega) | exact in_u64 (by omega) (by omega) | exact in_i32 (by omega) (by omega)) ?_)))
        clear H
        intro w_ H
        repeat' (with_reducible refine p_tn ?_)
        generalize hN : a * 65536 + b * 256 = N
        have HS := H.pick [] [] (by decide) (by decide) rfl rfl
        refine d_start (fun w_ => Hp w w_ _ _) #[false, false, false, false, false, false, false, false, false, false, false, false, false, false, false] (by kernel_rfl) rfl rfl HS.drew ?_
        have H := H.drew
        have HS := HS.drew
        first | (refine d_pure (i := 0) #[true, false, false, false, false, false, false, false, false, false, false, false, false, false, false] rfl (by kernel_rfl) (fun _ _ _ h => h) rfl (fun w_ => evP_run (o := ⟨_, _, _, _, _, _⟩) txs rfl) ?_)
        first | (refine d_pure (i := 1) #[true, true, false, false, false, false, false, false, false, false, false, false, false, false, false] rfl (by kernel_rfl) (fun _ _ _ h => h) rfl (fun w_ => evP_run (o := ⟨_, _, _, _, _, _⟩) txs rfl) ?_)
        first | (refine d_pure (i := 2) #[true, true, true, false, false, false, false, false, false, false, false, false, false, false, false] rfl (by kernel_rfl) (fun _ _ _ h => h) rfl (fun w_ => bii_run rfl rfl (shrI _ w_ 18 (by decide) (by omega) (z := a / 4) (by omega))) ?_)
        first | (refine d_pure (i := 3) #[true, true, true, true, false, false, false, false, false, false, false, false, false, false, false] rfl (by kernel_rfl) (fun _ _ _ h => h) rfl (fun w_ => let_run txs rfl (by omega) (by omega)) ?_)
        first | (refine d_pure (i := 4) #[true, true, true, true, true, false, false, false, false, false, false, false, false, false, false] rfl (by kernel_rfl) (fun _ _ _ h => h) rfl (fun w_ => evP_run (o := ⟨_, _, _, _, _, _⟩) txs rfl) ?_)
        first | (refine d_pure (i := 5) #[true, true, true, true, true, true, false, false, false, false, false, false, false, false, false] rfl (by kernel_rfl) (fun _ _ _ h => h) rfl (fun w_ => bii_run rfl rfl (shrI _ w_ 12 (by decide) (by omega) (z := N / 4096) rfl)) ?_)
        first | (refine d_pure (i := 6) #[true, true, true, true, true, true, true, false, false, false, false, false, false, false, false] rfl (by kernel_rfl) (fun _ _ _ h => h) rfl (fun w_ => bii_run rfl rfl (andI _ w_ 6 (by decide) rfl (by omega) (by omega) (z := a % 4 * 16 + b / 16) (by omega))) ?_)
        first | (refine d_pure (i := 7) #[true, true, true, true, true, true, true, true, false, false, false, false, false, false, false] rfl (by kernel_rfl) (fun _ _ _ h => h) rfl (fun w_ => let_run txs rfl (by omega) (by omega)) ?_)
        first | (refine d_pure (i := 8) #[true, true, true, true, true, true, true, true, true, false, false, false, false, false, false] rfl (by kernel_rfl) (fun _ _ _ h => h) rfl (fun w_ => evP_run (o := ⟨_, _, _, _, _, _⟩) txs rfl) ?_)
        first | (refine d_pure (i := 9) #[true, true, true, true, true, true, true, true, true, true, false, false, false, false, false] rfl (by kernel_rfl) (fun _ _ _ h => h) rfl (fun w_ => bii_run rfl rfl (shrI _ w_ 6 (by decide) (by omega) (z := N / 64) rfl)) ?_)
        first | (refine d_pure (i := 10) #[true, true, true, true, true, true, true, true, true, true, true, false, false, false, false] rfl (by kernel_rfl) (fun _ _ _ h => h) rfl (fun w_ => bii_run rfl rfl (andI _ w_ 6 (by decide) rfl (by omega) (by omega) (z := b % 16 * 4) (by omega))) ?_)
        first | (refine d_pure (i := 11) #[true, true, true, true, true, true, true, true, true, true, true, true, false, false, false] rfl (by kernel_rfl) (fun _ _ _ h => h) rfl (fun w_ => let_run txs rfl (by omega) (by omega)) ?_)
        refine d_one (i := 12) #[true, true, true, true, true, true, true, true, true, true, true, true, true, false, false] rfl (by kernel_rfl) rfl ?_
        refine h_bsn H info_u8 Tryz.underlying34 (by decide) (by decide) rfl (fill4 _ _ _ _) (fun g_ w_ H => ?_)
        refine l_nil ?_
        have HS := H.pick [] [] (by decide) (by decide) rfl rfl
        refine ⟨rfl, HS, ?_⟩
        refine d_one (i := 13) #[true, true, true, true, true, true, true, true, true, true, true, true, true, true, false] rfl (by kernel_rfl) rfl ?_
        (refine h_app H 0 rfl info_u8 Tryz.underlying34 rfl rfl rfl rfl (H.cellRd 0 rfl) rfl rfl (by show (acc.length + 4) * 1 ≤ _; omega) (fun v w_ hv H => ?_)); obtain ⟨A', c', rfl⟩ := hv
        refine l_nil ?_
        have HS := H.pick [] [] (by decide) (by decide) rfl rfl
        refine ⟨rfl, HS, ?_⟩
        first | (refine d_pure (i := 14) #[true, true, true, true, true, true, true, true, true, true, true, true, true, true, true] rfl (by kernel_rfl) (fun _ _ _ h => h) rfl (fun w_ => evP_run (o := ⟨_, _, _, _, _, _⟩) txs rfl) ?_)
        refine d_done rfl ?_
        have H := H.pick [] [0] (by decide) (by decide) rfl rfl
        have H : ∃ acc', enc64 x = acc' ∧ Hp w w_ [] [rowB (.slice A' acc'.length c') acc'] := by
          refine ⟨_, hE, ?_⟩
          unfold rowB
          rw [List.length_append, nums_app]
          exact H
        obtain ⟨acc', hE', H⟩ := H
        have hl4 : acc'.length = acc.length + 4 := by
          rw [← hE', hE, List.length_append]
          rfl
        have hsl : Value.slice A' (acc.length + 4) c' = Value.slice A' acc'.length c' := by rw [hl4]
        repeat' (with_reducible first | refine p_tn ?_ | refine p_bn ?_ | refine wp_seq ?_ | refine w_reg ?_)
        rw [show (rowB (.slice A2 acc.length c2) acc).n = acc.length from rfl, hsl]
        repeat' ((with_reducible refine g_on ?_); ((with_reducible refine g_mv ?_); refine l_p txs rfl rfl ?_))
        (with_reducible refine is_l ?_); refine l_text rfl rfl Tryz.underlying34 Tryz.underlying5 Tryz.underlying9 (rowB_rd H 0 (F := A') (f := c') (x := acc') rfl).1 ?_
        repeat' (first | (with_reducible first | refine p_tn ?_ | refine wp_ret ?_ | refine l_nil ?_) | ((with_reducible refine g_on ?_); ((with_reducible refine g_as ?_); refine l_p txs rfl rfl ?_)))
        refine end1 rfl rfl ?_
        exact ⟨by rw [hE'], H.B⟩
      · obtain rfl : r = [] := List.length_eq_zero_iff.1 (by omega)
        repeat' (first | (with_reducible first | refine p_tn ?_ | refine p_bn ?_ | refine wp_seq ?_ | refine w_reg ?_) | (with_reducible (refine is_if ?_; (refine w_iff rfl ?_))) | (with_reducible first | refine wp_skip ?_ | refine l_nil ?_) | ((with_reducible refine g_on ?_); (first | ((with_reducible refine g_mv ?_); refine l_p txs rfl rfl ?_) | ((with_reducible refine g_as ?_); refine l_p txs rfl rfl ?_))))
        (with_reducible refine is_l ?_); refine l_text rfl rfl Tryz.underlying34 Tryz.underlying5 Tryz.underlying9 (rowB_rd H 0 (F := A2) (f := c2) (x := acc) rfl).1 ?_
        repeat' (first | (with_reducible first | refine p_tn ?_ | refine wp_ret ?_ | refine l_nil ?_) | ((with_reducible refine g_on ?_); ((with_reducible refine g_as ?_); refine l_p txs rfl rfl ?_)))
        refine end1 rfl rfl ?_
        exact ⟨by rw [hE]; simp [enc64], H.B⟩
end Go.Proofs.YtnimaenhijlcmaaGreatDoor.K
