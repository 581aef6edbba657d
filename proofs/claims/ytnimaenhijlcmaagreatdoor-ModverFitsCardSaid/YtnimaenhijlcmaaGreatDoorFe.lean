/- The reference's sums and records. -/
import Derived.Test.YtnimaenhijlcmaaGreatDoorFd
import Derived.Test.YtnimaenhijlcmaaGreatDoorVy
namespace Go.Proofs.YtnimaenhijlcmaaGreatDoor.K.Rec
open Go.RowKit Go.Proofs.YtnimaenhijlcmaaGreatDoor.Q Go.Proofs.YtnimaenhijlcmaaGreatDoor.K Go.Proofs.YtnimaenhijlcmaaGreatDoor.Mb Go.Proofs.YtnimaenhijlcmaaGreatDoorW.PrintWords
set_option linter.unusedVariables false
set_option linter.unusedSimpArgs false

theorem byte_row {w0 w : World} {l : List Ent} {r : List RowD} {A : Option Addr} {c : Nat} {b : L} (H : Hp w0 w l r) (k : Nat) (hk : r[k]? = some (rowB (.slice A b.length c) b)) : Rd w A (nums .u8 b) := by
  obtain ⟨A3, c3, e3, _, hRd, hAn⟩ := H.rd k hk
  cases e3
  exact hRd
theorem e_sum {x : L} (hb : Bytes x) : (⟨#[104, 49, 58]⟩ : ByteArray) ++ strOfNums (enc64 x) = strOfNums (sumS x) := by
  refine bl_inj ?_
  rw [bl_cat, blS (enc64_bytes hb), blS]
  · rfl
  · intro y hy
    rcases List.mem_append.1 hy with hy | hy
    · unfold h1S at hy
      simp only [List.mem_cons, List.not_mem_nil, or_false] at hy
      rcases hy with rfl | rfl | rfl <;> omega
    · exact enc64_bytes hb y hy
set_option maxRecDepth 100000 in
set_option maxHeartbeats 8000000 in
theorem Sum_r (x : L) (hb : Bytes x) (hx : x.length = 32) (w : World) : Calls Tryz.prog 24 #[.agg (nums .u8 x).toArray] w fun e w' => e = .returned (.string (strOfNums (sumS x))) ∧ Below w.heap.size w w' := by
  refine enter (args := [.agg (nums .u8 x).toArray]) Tryz.func24 rfl Tryz.ntmps24 rfl ?_
  have H := Hp.nil w
  have hn : (nums .u8 x).length = 32 := by rw [nums_length, hx]
  have e1 := e_sum hb
  repeat' (with_reducible first | refine wp_seq ?_ | refine w_reg ?_)
  (with_reducible refine is_l ?_); refine h_box H rfl rfl (nfL_eq _ _) (fun gX w_ H => ?_)
  repeat' (first | (with_reducible first | refine p_tn ?_ | refine wp_seq ?_ | refine wp_block ?_ | refine w_reg ?_ | refine l_nil ?_) | ((with_reducible refine g_on ?_); ((with_reducible refine g_as ?_); refine l_p txs rfl rfl ?_)))
  have H := H.nilRow 5 1
  refine w_loop (σ := Nat × Option Addr × Nat) (S := fun s => [(1, .pointer (some ⟨gX, 0, none⟩)), (3, .slice s.2.1 (x.take s.1).length s.2.2), (4, .int .i64 (s.1 : Int))])
    (J := fun s w' => Hp w w' [(gX, 22, nums .u8 x)] [rowB (.slice s.2.1 (x.take s.1).length s.2.2) (x.take s.1)] ∧ s.1 ≤ 32) (μ := fun s => 32 - s.1) (0, none, 0) ⟨rfl, rfl, rfl, trivial⟩ ⟨H, by omega⟩ ?_
  clear H
  rintro ⟨i, A2, c2⟩ f w_ ⟨H, hi⟩
  simp only at H hi ⊢
  repeat' (first | (with_reducible first | refine wp_seq ?_ | refine w_reg ?_) | ((with_reducible refine g_on ?_); ((with_reducible refine g_mv ?_); refine l_p txs rfl rfl ?_)))
  (with_reducible refine is_l ?_); refine l_t txs rfl rfl (fun hlt => ?_) (fun hge => ?_)
  · obtain ⟨v, hv⟩ : ∃ v, x[i]? = some v := ⟨_, List.getElem?_eq_getElem (by omega)⟩
    have hvv : (nums .u8 x)[i]? = some (.int .u8 v) := by unfold nums; rw [List.getElem?_map, hv]; rfl
    have hl0 : (x.take i).length = i := List.length_take_of_le (by omega)
    have hl1 : (x.take (i + 1)).length = (x.take i).length + 1 := by rw [hl0, List.length_take_of_le (by omega)]
    have hxt : x.take (i + 1) = x.take i ++ [v] := by
      obtain ⟨g1, g2⟩ := List.getElem?_eq_some_iff.1 hv
      rw [List.take_succ_eq_append_getElem g1, g2]
    repeat' (first | (with_reducible first | refine p_tn ?_ | refine wp_seq ?_ | refine wp_block ?_ | refine w_reg ?_) | (with_reducible (refine is_if ?_; (refine w_ift rfl ?_))) | (with_reducible first | refine wp_skip ?_ | refine l_nil ?_) | ((with_reducible refine g_on ?_); ((with_reducible refine g_mv ?_); refine l_p txs rfl rfl ?_)))
    (with_reducible refine is_l ?_); refine l_iaa Tryz.underlying22 one0_1 rfl rfl rfl (by omega) (by omega) ?_
    skip
    (with_reducible refine is_l ?_); refine l_ld txs rfl rfl (H.cellAt 0 rfl hvv) ?_
    skip
    (with_reducible refine is_l ?_); refine h_bs H info_u8 Tryz.underlying34 (by decide) (by decide) rfl rfl (by kernel_rfl) (fun g_ w_ H => ?_)
    (with_reducible refine is_l ?_); refine h_app H 0 rfl info_u8 Tryz.underlying34 rfl rfl rfl rfl (H.cellRd 0 rfl) rfl rfl (by show ((x.take i).length + 1) * 1 ≤ _; rw [hl0]; omega) (fun v w_ hv H => ?_)
    obtain ⟨A', c', rfl⟩ := hv
    have H := H.pick [1] [0] (by decide) (by decide) rfl rfl
    repeat' (first | (with_reducible first | refine p_tn ?_ | refine p_bn ?_ | refine w_reg ?_ | refine l_nil ?_) | ((with_reducible refine g_on ?_); (first | ((with_reducible refine g_mv ?_); refine l_p txs rfl rfl ?_) | ((with_reducible refine g_as ?_); refine l_p txs rfl rfl ?_) | ((with_reducible refine g_bi ?_); (refine l_a txs rfl rfl (by first | exact in_i64 (by omega) (by omega) | exact in_u8 (by omega) (by omega) | exact in_u64 (by omega) (by omega) | exact in_i32 (by omega) (by omega)) ?_)))))
    refine ⟨(i + 1, A', c'), _, rfl, ⟨rfl, ?_, rfl, trivial⟩, ⟨?_, by show i + 1 ≤ _; omega⟩, by show _ - (i + 1) < _ - i; omega⟩
    · show Value.slice A' ((x.take i).length + 1) c' = Value.slice A' (x.take (i + 1)).length c'
      rw [hl1]
    · show Hp w _ _ [rowB (.slice A' (x.take (i + 1)).length c') (x.take (i + 1))]
      unfold rowB
      rw [hl1, hxt, nums_snoc]
      exact H
  · have hall : x.take i = x := List.take_of_length_le (by omega)
    simp only [hall] at H ⊢
    repeat' (first | (with_reducible first | refine p_tn ?_ | refine p_tx ?_ | refine x_hit ?_ | refine wp_seq ?_ | refine w_reg ?_) | (with_reducible (refine is_if ?_; (refine w_iff rfl ?_))) | (with_reducible first | refine wp_exit ?_ | refine l_nil ?_) | ((with_reducible refine g_on ?_); ((with_reducible refine g_mv ?_); refine l_p txs rfl rfl ?_)))
    (with_reducible refine is_l ?_); refine l_callv rfl rfl (by kernel_rfl) (Ref.enc_r (byte_row H 0 rfl) hb (by omega)) (fun w_ K => ?_)
    have H := H.call K
    skip
    (with_reducible refine is_l ?_); refine l_cat rfl rfl (by
      rw [← bl_length (strOfNums (enc64 x)), blS (enc64_bytes hb), enc64_length, hx]
      decide) ?_
    repeat' (first | (with_reducible first | refine p_tn ?_ | refine wp_ret ?_ | refine l_nil ?_) | ((with_reducible refine g_on ?_); ((with_reducible refine g_as ?_); refine l_p txs rfl rfl ?_)))
    refine end1 rfl rfl ?_
    exact ⟨by rw [e1], H.B⟩
set_option maxRecDepth 100000 in
set_option maxHeartbeats 8000000 in
theorem Record_r {w : World} {t2 : TypeId} {fr : Nat × Nat} (hD : w.heap[3]? = some (.cells deC t2 fr)) (t u : ByteArray) (a b : L) (ha : Bytes a) (la : a.length = 32) (hb : Bytes b) (lb : b.length = 32) :
    Calls Tryz.prog 27 #[.string t, .string u, .agg (nums .u8 a).toArray, .agg (nums .u8 b).toArray] w fun e w' => e = .returned (.tuple #[.string (recT t u a b), .int .i64 (checkS (bl t) (bl u) : Int)]) ∧ Below w.heap.size w w' := by
  refine enter (args := [.string t, .string u, .agg (nums .u8 a).toArray, .agg (nums .u8 b).toArray]) Tryz.func27 rfl Tryz.ntmps27 rfl ?_
  have H := Hp.nil w
  repeat' (with_reducible first | refine wp_seq ?_ | refine w_reg ?_)
  (with_reducible refine is_l ?_); refine h_box H rfl rfl (nfL_eq _ _) (fun gA w_ H => ?_)
  (with_reducible refine is_l ?_); refine h_box H rfl rfl (nfL_eq _ _) (fun gB w_ H => ?_)
  repeat' (first | (with_reducible first | refine p_tn ?_ | refine wp_seq ?_ | refine w_reg ?_ | refine l_nil ?_) | ((with_reducible refine g_on ?_); (first | ((with_reducible refine g_mv ?_); refine l_p txs rfl rfl ?_) | ((with_reducible refine g_as ?_); refine l_p txs rfl rfl ?_))))
  (with_reducible refine is_l ?_); refine l_callv rfl rfl (by kernel_rfl) (Ref.Fits_c ((H.B.block _ (blk_lt hD)).trans hD) t u) (fun w_ K => ?_)
  have H := H.call K
  have hsm : checkS (bl t) (bl u) = 0 → t.size ≤ 255 ∧ u.size ≤ 128 := fun h => by
    obtain ⟨h1, x, h2, _⟩ := check_ok h
    rw [← bl_length, ← bl_length]
    exact ⟨(path_ne h1).2, (ver_no h2).2.2.2.2.2.2⟩
  unfold recT
  generalize checkS (bl t) (bl u) = k at hsm ⊢
  repeat' (first | (with_reducible first | refine p_tn ?_ | refine wp_seq ?_ | refine w_reg ?_ | refine l_nil ?_) | ((with_reducible refine g_on ?_); (first | ((with_reducible refine g_mv ?_); refine l_p txs rfl rfl ?_) | ((with_reducible refine g_as ?_); refine l_p txs rfl rfl ?_))))
  (with_reducible refine is_l ?_); refine l_t txs rfl rfl (fun h1 => ?_) (fun h1 => ?_)
  · repeat' (first | (with_reducible first | refine p_tn ?_ | refine p_tr ?_ | refine wp_seq ?_ | refine w_reg ?_) | (with_reducible (refine is_if ?_; (refine w_ift rfl ?_))) | (with_reducible first | refine wp_ret ?_ | refine l_nil ?_) | ((with_reducible refine g_on ?_); (first | ((with_reducible refine g_mv ?_); refine l_p txs rfl rfl ?_) | ((with_reducible refine g_as ?_); refine l_p txs rfl rfl ?_))))
    refine end2 rfl rfl rfl ?_
    exact ⟨by rw [if_neg (by omega)], H.B⟩
  · have h0 : k = 0 := by omega
    subst h0
    obtain ⟨hts, hus⟩ := hsm rfl
    have z1 : (⟨#[32]⟩ : ByteArray).size = 1 := rfl
    have z2 : (⟨#[10]⟩ : ByteArray).size = 1 := rfl
    have z3 : (⟨#[47, 103, 111, 46, 109, 111, 100, 32]⟩ : ByteArray).size = 8 := rfl
    have za := sum_size ha la
    have zb := sum_size hb lb
    have hfin : ((((((((((t ++ ⟨#[32]⟩) ++ u) ++ ⟨#[32]⟩) ++ strOfNums (sumS a)) ++ ⟨#[10]⟩) ++ t) ++ ⟨#[32]⟩) ++ u) ++ ⟨#[47, 103, 111, 46, 109, 111, 100, 32]⟩) ++ strOfNums (sumS b)) ++ ⟨#[10]⟩ = strOfNums (recS (bl t) (bl u) a b) := by
      refine bl_inj ?_
      have hbr : Bytes (recS (bl t) (bl u) a b) := by
        intro y hy
        unfold recS line1 modS at hy
        simp only [List.mem_append, List.mem_cons, List.not_mem_nil, or_false] at hy
        have q1 := bl_bytes t y
        have q2 := bl_bytes u y
        have q3 := sum_bytes ha y
        have q4 := sum_bytes hb y
        have q5 : y = 32 ∨ y = 10 ∨ y = 47 ∨ y = 103 ∨ y = 111 ∨ y = 46 ∨ y = 109 ∨ y = 100 → 0 ≤ y ∧ y ≤ 255 := by omega
        grind
      rw [blS hbr]
      simp only [bl_cat, blS (sum_bytes ha), blS (sum_bytes hb)]
      rw [show bl (⟨#[32]⟩ : ByteArray) = [32] from rfl, show bl (⟨#[10]⟩ : ByteArray) = [10] from rfl, show bl (⟨#[47, 103, 111, 46, 109, 111, 100, 32]⟩ : ByteArray) = modS ++ [32] from rfl]
      unfold recS line1
      simp
    have hSa := Sum_r a ha la
    have hSb := Sum_r b hb lb
    generalize strOfNums (sumS a) = sa at hfin za hSa
    generalize strOfNums (sumS b) = sb at hfin zb hSb
    have hla : (nums .u8 a).length = (nums .u8 zL).length := by rw [nums_length, la]; rfl
    have hlb : (nums .u8 b).length = (nums .u8 zL).length := by rw [nums_length, lb]; rfl
    repeat' (first | (with_reducible first | refine p_tn ?_ | refine wp_seq ?_) | (with_reducible (refine is_if ?_; (refine w_iff rfl ?_))) | (with_reducible first | refine wp_skip ?_ | refine l_nil ?_))
    refine w_draw (C := fun w' => Hp w w' [(gB, 22, nums .u8 b), (gA, 22, nums .u8 a)] []) (by kernel_rfl) (by kernel_rfl) H.drew ?_
    repeat' (first | (with_reducible refine q_nil ?_) | ((with_reducible refine is_q ?_); first | (refine q_off rfl ?_) | (refine q_p txs rfl rfl ?_) | (refine q_a txs rfl rfl (by first | exact in_i64 (by omega) (by omega) | exact in_u8 (by omega) (by omega) | exact in_u64 (by omega) (by omega) | exact in_i32 (by omega) (by omega)) ?_)))
    refine q_cat rfl rfl (by (try simp only [ByteArray.size_append]); omega) ?_
    repeat' (first | (with_reducible refine q_nil ?_) | ((with_reducible refine is_q ?_); first | (refine q_off rfl ?_) | (refine q_p txs rfl rfl ?_) | (refine q_a txs rfl rfl (by first | exact in_i64 (by omega) (by omega) | exact in_u8 (by omega) (by omega) | exact in_u64 (by omega) (by omega) | exact in_i32 (by omega) (by omega)) ?_)))
    refine q_cat rfl rfl (by (try simp only [ByteArray.size_append]); omega) ?_
    repeat' (first | (with_reducible refine q_nil ?_) | ((with_reducible refine is_q ?_); first | (refine q_off rfl ?_) | (refine q_p txs rfl rfl ?_) | (refine q_a txs rfl rfl (by first | exact in_i64 (by omega) (by omega) | exact in_u8 (by omega) (by omega) | exact in_u64 (by omega) (by omega) | exact in_i32 (by omega) (by omega)) ?_)))
    refine q_cat rfl rfl (by (try simp only [ByteArray.size_append]); omega) ?_
    repeat' (first | (with_reducible refine q_nil ?_) | ((with_reducible refine is_q ?_); first | (refine q_off rfl ?_) | (refine q_p txs rfl rfl ?_) | (refine q_a txs rfl rfl (by first | exact in_i64 (by omega) (by omega) | exact in_u8 (by omega) (by omega) | exact in_u64 (by omega) (by omega) | exact in_i32 (by omega) (by omega)) ?_)))
    refine q_val rfl (fun w' K => evLR_run (o := ⟨_, _, _, _, _, _⟩) recs rfl rfl (K.range 1 rfl) hla) ?_
    refine q_call rfl rfl (by kernel_rfl) (fun w1 K => (hSa w1).mono fun e w2 h => ⟨h.1, K.call h.2⟩) ?_
    repeat' (first | (with_reducible refine q_nil ?_) | ((with_reducible refine is_q ?_); first | (refine q_off rfl ?_) | (refine q_p txs rfl rfl ?_) | (refine q_a txs rfl rfl (by first | exact in_i64 (by omega) (by omega) | exact in_u8 (by omega) (by omega) | exact in_u64 (by omega) (by omega) | exact in_i32 (by omega) (by omega)) ?_)))
    refine q_cat rfl rfl (by (try simp only [ByteArray.size_append]); omega) ?_
    repeat' (first | (with_reducible refine q_nil ?_) | ((with_reducible refine is_q ?_); first | (refine q_off rfl ?_) | (refine q_p txs rfl rfl ?_) | (refine q_a txs rfl rfl (by first | exact in_i64 (by omega) (by omega) | exact in_u8 (by omega) (by omega) | exact in_u64 (by omega) (by omega) | exact in_i32 (by omega) (by omega)) ?_)))
    refine q_cat rfl rfl (by (try simp only [ByteArray.size_append]); omega) ?_
    repeat' (first | (with_reducible refine q_nil ?_) | ((with_reducible refine is_q ?_); first | (refine q_off rfl ?_) | (refine q_p txs rfl rfl ?_) | (refine q_a txs rfl rfl (by first | exact in_i64 (by omega) (by omega) | exact in_u8 (by omega) (by omega) | exact in_u64 (by omega) (by omega) | exact in_i32 (by omega) (by omega)) ?_)))
    refine q_cat rfl rfl (by (try simp only [ByteArray.size_append]); omega) ?_
    repeat' (first | (with_reducible refine q_nil ?_) | ((with_reducible refine is_q ?_); first | (refine q_off rfl ?_) | (refine q_p txs rfl rfl ?_) | (refine q_a txs rfl rfl (by first | exact in_i64 (by omega) (by omega) | exact in_u8 (by omega) (by omega) | exact in_u64 (by omega) (by omega) | exact in_i32 (by omega) (by omega)) ?_)))
    refine q_cat rfl rfl (by (try simp only [ByteArray.size_append]); omega) ?_
    repeat' (first | (with_reducible refine q_nil ?_) | ((with_reducible refine is_q ?_); first | (refine q_off rfl ?_) | (refine q_p txs rfl rfl ?_) | (refine q_a txs rfl rfl (by first | exact in_i64 (by omega) (by omega) | exact in_u8 (by omega) (by omega) | exact in_u64 (by omega) (by omega) | exact in_i32 (by omega) (by omega)) ?_)))
    refine q_cat rfl rfl (by (try simp only [ByteArray.size_append]); omega) ?_
    repeat' (first | (with_reducible refine q_nil ?_) | ((with_reducible refine is_q ?_); first | (refine q_off rfl ?_) | (refine q_p txs rfl rfl ?_) | (refine q_a txs rfl rfl (by first | exact in_i64 (by omega) (by omega) | exact in_u8 (by omega) (by omega) | exact in_u64 (by omega) (by omega) | exact in_i32 (by omega) (by omega)) ?_)))
    refine q_cat rfl rfl (by (try simp only [ByteArray.size_append]); omega) ?_
    repeat' (first | (with_reducible refine q_nil ?_) | ((with_reducible refine is_q ?_); first | (refine q_off rfl ?_) | (refine q_p txs rfl rfl ?_) | (refine q_a txs rfl rfl (by first | exact in_i64 (by omega) (by omega) | exact in_u8 (by omega) (by omega) | exact in_u64 (by omega) (by omega) | exact in_i32 (by omega) (by omega)) ?_)))
    refine q_val rfl (fun w' K => evLR_run (o := ⟨_, _, _, _, _, _⟩) recs rfl rfl (K.range 0 rfl) hlb) ?_
    refine q_call rfl rfl (by kernel_rfl) (fun w1 K => (hSb w1).mono fun e w2 h => ⟨h.1, K.call h.2⟩) ?_
    repeat' (first | (with_reducible refine q_nil ?_) | ((with_reducible refine is_q ?_); first | (refine q_off rfl ?_) | (refine q_p txs rfl rfl ?_) | (refine q_a txs rfl rfl (by first | exact in_i64 (by omega) (by omega) | exact in_u8 (by omega) (by omega) | exact in_u64 (by omega) (by omega) | exact in_i32 (by omega) (by omega)) ?_)))
    refine q_cat rfl rfl (by (try simp only [ByteArray.size_append]); omega) ?_
    repeat' (first | (with_reducible refine q_nil ?_) | ((with_reducible refine is_q ?_); first | (refine q_off rfl ?_) | (refine q_p txs rfl rfl ?_) | (refine q_a txs rfl rfl (by first | exact in_i64 (by omega) (by omega) | exact in_u8 (by omega) (by omega) | exact in_u64 (by omega) (by omega) | exact in_i32 (by omega) (by omega)) ?_)))
    refine q_cat rfl rfl (by (try simp only [ByteArray.size_append]); omega) ?_
    repeat' (first | (with_reducible refine q_nil ?_) | ((with_reducible refine is_q ?_); first | (refine q_off rfl ?_) | (refine q_p txs rfl rfl ?_) | (refine q_a txs rfl rfl (by first | exact in_i64 (by omega) (by omega) | exact in_u8 (by omega) (by omega) | exact in_u64 (by omega) (by omega) | exact in_i32 (by omega) (by omega)) ?_)))
    clear H
    intro w_ H
    repeat' (with_reducible first | refine p_tn ?_ | refine wp_ret ?_)
    refine end2 rfl rfl rfl ?_
    exact ⟨by rw [if_pos rfl, ← hfin]; rfl, H.B⟩
end Go.Proofs.YtnimaenhijlcmaaGreatDoor.K.Rec
