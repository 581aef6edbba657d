/- Joined texts of mine, 4: Fe, Ff, LaidZ, LaidS, MSort, Ga, ShSort, Gb, Gc, Gd, Ge, OpenT. -/
import Derived.Test.YtnimaenhijlcmaaGreatDoorCards
import Derived.LaidLaws
import Derived.ChangeSame
import Derived.ChangeArms
import Derived.OpenShut
import Derived.Lay
import Derived.Deep.DeepWitnessRowRef
import Derived.Lib.LaidU8
import Derived.Lib.LaidTab
import Derived.ProofKit
import Derived.WalkKit
import Derived.Shelf.SlSortCmp.Whole1
import Derived.Test.YtnimaenhijlcmaaGreatDoorProg
import Derived.Shelf.SlSortCmp.NoneTotal
import Derived.ShutString
import Derived.SliceStrings
import Derived.ChangeSlices
import Derived.Below
import Derived.Carry
import Derived.Deep.DeepHandedRow
import Derived.Test.YtnimaenhijlcmaaGreatDoorPs3
section
namespace Go.Proofs.YtnimaenhijlcmaaGreatDoor.K.Rec
open Go.RowKit Go.Proofs.YtnimaenhijlcmaaGreatDoor.Q Go.Proofs.YtnimaenhijlcmaaGreatDoor.K Go.Proofs.YtnimaenhijlcmaaGreatDoor.Mb Go.Proofs.YtnimaenhijlcmaaGreatDoorW.PrintWords
set_option linter.unusedVariables false
set_option linter.unusedSimpArgs false
theorem byte_row {w0 w : World} {l : List Ent} {r : List RowD} {A : Option Addr} {c : Nat} {b : L} (H : Hp w0 w l r) (k : Nat) (hk : r[k]? = some (rowB (.slice A b.length c) b)) : Rd w A (nums .u8 b) := by
  obtain ⟨A3, c3, e3, _, hRd, hAn⟩ := H.rd k hk
  cases e3
  exact hRd
theorem e_sum {x : L} (hb : Bytes x) : (⟨#[104, 49, 58]⟩ : ByteArray) ++ strOfNums (enc64 x) = strOfNums (sumS x) := by
  refine bl_inj ?_
  rw [bl_cat, blS (enc64_bytes hb), blS]
  · rfl
  · intro y hy
    rcases List.mem_append.1 hy with hy | hy
    · unfold h1S at hy
      simp only [List.mem_cons, List.not_mem_nil, or_false] at hy
      rcases hy with rfl | rfl | rfl <;> omega
    · exact enc64_bytes hb y hy
set_option maxRecDepth 100000 in
set_option maxHeartbeats 8000000 in
theorem Sum_r (x : L) (hb : Bytes x) (hx : x.length = 32) (w : World) : Calls Tryz.prog 24 #[.agg (nums .u8 x).toArray] w fun e w' => e = .returned (.string (strOfNums (sumS x))) ∧ Below w.heap.size w w' := by
  refine enter (args := [.agg (nums .u8 x).toArray]) Tryz.func24 rfl Tryz.ntmps24 rfl ?_
  have H := Hp.nil w
  have hn : (nums .u8 x).length = 32 := by rw [nums_length, hx]
  have e1 := e_sum hb
  repeat' (with_reducible first | refine wp_seq ?_ | refine w_reg ?_)
  (with_reducible refine is_l ?_); refine h_box H rfl rfl (nfL_eq _ _) (fun gX w_ H => ?_)
  repeat' (first | (with_reducible first | refine p_tn ?_ | refine wp_seq ?_ | refine wp_block ?_ | refine w_reg ?_ | refine l_nil ?_) | ((with_reducible refine g_on ?_); ((with_reducible refine g_as ?_); refine l_p txs rfl rfl ?_)))
  have H := H.nilRow 5 1
  refine w_loop (σ := Nat × Option Addr × Nat) (S := fun s => [(1, .pointer (some ⟨gX, 0, none⟩)), (3, .slice s.2.1 (x.take s.1).length s.2.2), (4, .int .i64 (s.1 : Int))])
    (J := fun s w' => Hp w w' [(gX, 22, nums .u8 x)] [rowB (.slice s.2.1 (x.take s.1).length s.2.2) (x.take s.1)] ∧ s.1 ≤ 32) (μ := fun s => 32 - s.1) (0, none, 0) ⟨rfl, rfl, rfl, trivial⟩ ⟨H, by omega⟩ ?_
  clear H
  rintro ⟨i, A2, c2⟩ f w_ ⟨H, hi⟩
  simp only at H hi ⊢
  repeat' (first | (with_reducible first | refine wp_seq ?_ | refine w_reg ?_) | ((with_reducible refine g_on ?_); ((with_reducible refine g_mv ?_); refine l_p txs rfl rfl ?_)))
  (with_reducible refine is_l ?_); refine l_t txs rfl rfl (fun hlt => ?_) (fun hge => ?_)
  · obtain ⟨v, hv⟩ : ∃ v, x[i]? = some v := ⟨_, List.getElem?_eq_getElem (by omega)⟩
    have hvv : (nums .u8 x)[i]? = some (.int .u8 v) := by unfold nums; rw [List.getElem?_map, hv]; rfl
    have hl0 : (x.take i).length = i := List.length_take_of_le (by omega)
    have hl1 : (x.take (i + 1)).length = (x.take i).length + 1 := by rw [hl0, List.length_take_of_le (by omega)]
    have hxt : x.take (i + 1) = x.take i ++ [v] := by
      obtain ⟨g1, g2⟩ := List.getElem?_eq_some_iff.1 hv
      rw [List.take_succ_eq_append_getElem g1, g2]
    repeat' (first | (with_reducible first | refine p_tn ?_ | refine wp_seq ?_ | refine wp_block ?_ | refine w_reg ?_) | (with_reducible (refine is_if ?_; (refine w_ift rfl ?_))) | (with_reducible first | refine wp_skip ?_ | refine l_nil ?_) | ((with_reducible refine g_on ?_); ((with_reducible refine g_mv ?_); refine l_p txs rfl rfl ?_)))
    (with_reducible refine is_l ?_); refine l_iaa Tryz.underlying22 one0_1 rfl rfl rfl (by omega) (by omega) ?_
    skip
    (with_reducible refine is_l ?_); refine l_ld txs rfl rfl (H.cellAt 0 rfl hvv) ?_
    skip
    (with_reducible refine is_l ?_); refine h_bs H info_u8 Tryz.underlying34 (by decide) (by decide) rfl rfl (by kernel_rfl) (fun g_ w_ H => ?_)
    (with_reducible refine is_l ?_); refine h_app H 0 rfl info_u8 Tryz.underlying34 rfl rfl rfl rfl (H.cellRd 0 rfl) rfl rfl (by show ((x.take i).length + 1) * 1 ≤ _; rw [hl0]; omega) (fun v w_ hv H => ?_)
    obtain ⟨A', c', rfl⟩ := hv
    have H := H.pick [1] [0] (by decide) (by decide) rfl rfl
    repeat' (first | (with_reducible first | refine p_tn ?_ | refine p_bn ?_ | refine w_reg ?_ | refine l_nil ?_) | ((with_reducible refine g_on ?_); (first | ((with_reducible refine g_mv ?_); refine l_p txs rfl rfl ?_) | ((with_reducible refine g_as ?_); refine l_p txs rfl rfl ?_) | ((with_reducible refine g_bi ?_); (refine l_a txs rfl rfl (by first | exact in_i64 (by omega) (by omega) | exact in_u8 (by omega) (by omega) | exact in_u64 (by omega) (by omega) | exact in_i32 (by omega) (by omega)) ?_)))))
    refine ⟨(i + 1, A', c'), _, rfl, ⟨rfl, ?_, rfl, trivial⟩, ⟨?_, by show i + 1 ≤ _; omega⟩, by show _ - (i + 1) < _ - i; omega⟩
    · show Value.slice A' ((x.take i).length + 1) c' = Value.slice A' (x.take (i + 1)).length c'
      rw [hl1]
    · show Hp w _ _ [rowB (.slice A' (x.take (i + 1)).length c') (x.take (i + 1))]
      unfold rowB
      rw [hl1, hxt, nums_snoc]
      exact H
  · have hall : x.take i = x := List.take_of_length_le (by omega)
    simp only [hall] at H ⊢
    repeat' (first | (with_reducible first | refine p_tn ?_ | refine p_tx ?_ | refine x_hit ?_ | refine wp_seq ?_ | refine w_reg ?_) | (with_reducible (refine is_if ?_; (refine w_iff rfl ?_))) | (with_reducible first | refine wp_exit ?_ | refine l_nil ?_) | ((with_reducible refine g_on ?_); ((with_reducible refine g_mv ?_); refine l_p txs rfl rfl ?_)))
    (with_reducible refine is_l ?_); refine l_callv rfl rfl (by kernel_rfl) (Ref.enc_r (byte_row H 0 rfl) hb (by omega)) (fun w_ K => ?_)
    have H := H.call K
    skip
    (with_reducible refine is_l ?_); refine l_cat rfl rfl (by
      rw [← bl_length (strOfNums (enc64 x)), blS (enc64_bytes hb), enc64_length, hx]
      decide) ?_
    repeat' (first | (with_reducible first | refine p_tn ?_ | refine wp_ret ?_ | refine l_nil ?_) | ((with_reducible refine g_on ?_); ((with_reducible refine g_as ?_); refine l_p txs rfl rfl ?_)))
    refine end1 rfl rfl ?_
    exact ⟨by rw [e1], H.B⟩
set_option maxRecDepth 100000 in
set_option maxHeartbeats 8000000 in
theorem Record_r {w : World} {t2 : TypeId} {fr : Nat × Nat} (hD : w.heap[3]? = some (.cells deC t2 fr)) (t u : ByteArray) (a b : L) (ha : Bytes a) (la : a.length = 32) (hb : Bytes b) (lb : b.length = 32) :
    Calls Tryz.prog 27 #[.string t, .string u, .agg (nums .u8 a).toArray, .agg (nums .u8 b).toArray] w fun e w' => e = .returned (.tuple #[.string (recT t u a b), .int .i64 (checkS (bl t) (bl u) : Int)]) ∧ Below w.heap.size w w' := by
  refine enter (args := [.string t, .string u, .agg (nums .u8 a).toArray, .agg (nums .u8 b).toArray]) Tryz.func27 rfl Tryz.ntmps27 rfl ?_
  have H := Hp.nil w
  repeat' (with_reducible first | refine wp_seq ?_ | refine w_reg ?_)
  (with_reducible refine is_l ?_); refine h_box H rfl rfl (nfL_eq _ _) (fun gA w_ H => ?_)
  (with_reducible refine is_l ?_); refine h_box H rfl rfl (nfL_eq _ _) (fun gB w_ H => ?_)
  repeat' (first | (with_reducible first | refine p_tn ?_ | refine wp_seq ?_ | refine w_reg ?_ | refine l_nil ?_) | ((with_reducible refine g_on ?_); (first | ((with_reducible refine g_mv ?_); refine l_p txs rfl rfl ?_) | ((with_reducible refine g_as ?_); refine l_p txs rfl rfl ?_))))
  (with_reducible refine is_l ?_); refine l_callv rfl rfl (by kernel_rfl) (Ref.Fits_c ((H.B.block _ (blk_lt hD)).trans hD) t u) (fun w_ K => ?_)
  have H := H.call K
  have hsm : checkS (bl t) (bl u) = 0 → t.size ≤ 255 ∧ u.size ≤ 128 := fun h => by
    obtain ⟨h1, x, h2, _⟩ := check_ok h
    rw [← bl_length, ← bl_length]
    exact ⟨(path_ne h1).2, (ver_no h2).2.2.2.2.2.2⟩
  unfold recT
  generalize checkS (bl t) (bl u) = k at hsm ⊢
  repeat' (first | (with_reducible first | refine p_tn ?_ | refine wp_seq ?_ | refine w_reg ?_ | refine l_nil ?_) | ((with_reducible refine g_on ?_); (first | ((with_reducible refine g_mv ?_); refine l_p txs rfl rfl ?_) | ((with_reducible refine g_as ?_); refine l_p txs rfl rfl ?_))))
  (with_reducible refine is_l ?_); refine l_t txs rfl rfl (fun h1 => ?_) (fun h1 => ?_)
  · repeat' (first | (with_reducible first | refine p_tn ?_ | refine p_tr ?_ | refine wp_seq ?_ | refine w_reg ?_) | (with_reducible (refine is_if ?_; (refine w_ift rfl ?_))) | (with_reducible first | refine wp_ret ?_ | refine l_nil ?_) | ((with_reducible refine g_on ?_); (first | ((with_reducible refine g_mv ?_); refine l_p txs rfl rfl ?_) | ((with_reducible refine g_as ?_); refine l_p txs rfl rfl ?_))))
    refine end2 rfl rfl rfl ?_
    exact ⟨by rw [if_neg (by omega)], H.B⟩
  · have h0 : k = 0 := by omega
    subst h0
    obtain ⟨hts, hus⟩ := hsm rfl
    have z1 : (⟨#[32]⟩ : ByteArray).size = 1 := rfl
    have z2 : (⟨#[10]⟩ : ByteArray).size = 1 := rfl
    have z3 : (⟨#[47, 103, 111, 46, 109, 111, 100, 32]⟩ : ByteArray).size = 8 := rfl
    have za := sum_size ha la
    have zb := sum_size hb lb
    have hfin : ((((((((((t ++ ⟨#[32]⟩) ++ u) ++ ⟨#[32]⟩) ++ strOfNums (sumS a)) ++ ⟨#[10]⟩) ++ t) ++ ⟨#[32]⟩) ++ u) ++ ⟨#[47, 103, 111, 46, 109, 111, 100, 32]⟩) ++ strOfNums (sumS b)) ++ ⟨#[10]⟩ = strOfNums (recS (bl t) (bl u) a b) := by
      refine bl_inj ?_
      have hbr : Bytes (recS (bl t) (bl u) a b) := by
        intro y hy
        unfold recS line1 modS at hy
        simp only [List.mem_append, List.mem_cons, List.not_mem_nil, or_false] at hy
        have q1 := bl_bytes t y
        have q2 := bl_bytes u y
        have q3 := sum_bytes ha y
        have q4 := sum_bytes hb y
        have q5 : y = 32 ∨ y = 10 ∨ y = 47 ∨ y = 103 ∨ y = 111 ∨ y = 46 ∨ y = 109 ∨ y = 100 → 0 ≤ y ∧ y ≤ 255 := by omega
        grind
      rw [blS hbr]
      simp only [bl_cat, blS (sum_bytes ha), blS (sum_bytes hb)]
      rw [show bl (⟨#[32]⟩ : ByteArray) = [32] from rfl, show bl (⟨#[10]⟩ : ByteArray) = [10] from rfl, show bl (⟨#[47, 103, 111, 46, 109, 111, 100, 32]⟩ : ByteArray) = modS ++ [32] from rfl]
      unfold recS line1
      simp
    have hSa := Sum_r a ha la
    have hSb := Sum_r b hb lb
    generalize strOfNums (sumS a) = sa at hfin za hSa
    generalize strOfNums (sumS b) = sb at hfin zb hSb
    have hla : (nums .u8 a).length = (nums .u8 zL).length := by rw [nums_length, la]; rfl
    have hlb : (nums .u8 b).length = (nums .u8 zL).length := by rw [nums_length, lb]; rfl
    repeat' (first | (with_reducible first | refine p_tn ?_ | refine wp_seq ?_) | (with_reducible (refine is_if ?_; (refine w_iff rfl ?_))) | (with_reducible first | refine wp_skip ?_ | refine l_nil ?_))
    refine w_draw (C := fun w' => Hp w w' [(gB, 22, nums .u8 b), (gA, 22, nums .u8 a)] []) (by kernel_rfl) (by kernel_rfl) H.drew ?_
    repeat' (first | (with_reducible refine q_nil ?_) | ((with_reducible refine is_q ?_); first | (refine q_off rfl ?_) | (refine q_p txs rfl rfl ?_) | (refine q_a txs rfl rfl (by first | exact in_i64 (by omega) (by omega) | exact in_u8 (by omega) (by omega) | exact in_u64 (by omega) (by omega) | exact in_i32 (by omega) (by omega)) ?_)))
    refine q_cat rfl rfl (by (try simp only [ByteArray.size_append]); omega) ?_
    repeat' (first | (with_reducible refine q_nil ?_) | ((with_reducible refine is_q ?_); first | (refine q_off rfl ?_) | (refine q_p txs rfl rfl ?_) | (refine q_a txs rfl rfl (by first | exact in_i64 (by omega) (by omega) | exact in_u8 (by omega) (by omega) | exact in_u64 (by omega) (by omega) | exact in_i32 (by omega) (by omega)) ?_)))
    refine q_cat rfl rfl (by (try simp only [ByteArray.size_append]); omega) ?_
    repeat' (first | (with_reducible refine q_nil ?_) | ((with_reducible refine is_q ?_); first | (refine q_off rfl ?_) | (refine q_p txs rfl rfl ?_) | (refine q_a txs rfl rfl (by first | exact in_i64 (by omega) (by omega) | exact in_u8 (by omega) (by omega) | exact in_u64 (by omega) (by omega) | exact in_i32 (by omega) (by omega)) ?_)))
    refine q_cat rfl rfl (by (try simp only [ByteArray.size_append]); omega) ?_
    repeat' (first | (with_reducible refine q_nil ?_) | ((with_reducible refine is_q ?_); first | (refine q_off rfl ?_) | (refine q_p txs rfl rfl ?_) | (refine q_a txs rfl rfl (by first | exact in_i64 (by omega) (by omega) | exact in_u8 (by omega) (by omega) | exact in_u64 (by omega) (by omega) | exact in_i32 (by omega) (by omega)) ?_)))
    refine q_val rfl (fun w' K => evLR_run (o := ⟨_, _, _, _, _, _⟩) recs rfl rfl (K.range 1 rfl) hla) ?_
    refine q_call rfl rfl (by kernel_rfl) (fun w1 K => (hSa w1).mono fun e w2 h => ⟨h.1, K.call h.2⟩) ?_
    repeat' (first | (with_reducible refine q_nil ?_) | ((with_reducible refine is_q ?_); first | (refine q_off rfl ?_) | (refine q_p txs rfl rfl ?_) | (refine q_a txs rfl rfl (by first | exact in_i64 (by omega) (by omega) | exact in_u8 (by omega) (by omega) | exact in_u64 (by omega) (by omega) | exact in_i32 (by omega) (by omega)) ?_)))
    refine q_cat rfl rfl (by (try simp only [ByteArray.size_append]); omega) ?_
    repeat' (first | (with_reducible refine q_nil ?_) | ((with_reducible refine is_q ?_); first | (refine q_off rfl ?_) | (refine q_p txs rfl rfl ?_) | (refine q_a txs rfl rfl (by first | exact in_i64 (by omega) (by omega) | exact in_u8 (by omega) (by omega) | exact in_u64 (by omega) (by omega) | exact in_i32 (by omega) (by omega)) ?_)))
    refine q_cat rfl rfl (by (try simp only [ByteArray.size_append]); omega) ?_
    repeat' (first | (with_reducible refine q_nil ?_) | ((with_reducible refine is_q ?_); first | (refine q_off rfl ?_) | (refine q_p txs rfl rfl ?_) | (refine q_a txs rfl rfl (by first | exact in_i64 (by omega) (by omega) | exact in_u8 (by omega) (by omega) | exact in_u64 (by omega) (by omega) | exact in_i32 (by omega) (by omega)) ?_)))
    refine q_cat rfl rfl (by (try simp only [ByteArray.size_append]); omega) ?_
    repeat' (first | (with_reducible refine q_nil ?_) | ((with_reducible refine is_q ?_); first | (refine q_off rfl ?_) | (refine q_p txs rfl rfl ?_) | (refine q_a txs rfl rfl (by first | exact in_i64 (by omega) (by omega) | exact in_u8 (by omega) (by omega) | exact in_u64 (by omega) (by omega) | exact in_i32 (by omega) (by omega)) ?_)))
    refine q_cat rfl rfl (by (try simp only [ByteArray.size_append]); omega) ?_
    repeat' (first | (with_reducible refine q_nil ?_) | ((with_reducible refine is_q ?_); first | (refine q_off rfl ?_) | (refine q_p txs rfl rfl ?_) | (refine q_a txs rfl rfl (by first | exact in_i64 (by omega) (by omega) | exact in_u8 (by omega) (by omega) | exact in_u64 (by omega) (by omega) | exact in_i32 (by omega) (by omega)) ?_)))
    refine q_cat rfl rfl (by (try simp only [ByteArray.size_append]); omega) ?_
    repeat' (first | (with_reducible refine q_nil ?_) | ((with_reducible refine is_q ?_); first | (refine q_off rfl ?_) | (refine q_p txs rfl rfl ?_) | (refine q_a txs rfl rfl (by first | exact in_i64 (by omega) (by omega) | exact in_u8 (by omega) (by omega) | exact in_u64 (by omega) (by omega) | exact in_i32 (by omega) (by omega)) ?_)))
    refine q_cat rfl rfl (by (try simp only [ByteArray.size_append]); omega) ?_
    repeat' (first | (with_reducible refine q_nil ?_) | ((with_reducible refine is_q ?_); first | (refine q_off rfl ?_) | (refine q_p txs rfl rfl ?_) | (refine q_a txs rfl rfl (by first | exact in_i64 (by omega) (by omega) | exact in_u8 (by omega) (by omega) | exact in_u64 (by omega) (by omega) | exact in_i32 (by omega) (by omega)) ?_)))
    refine q_val rfl (fun w' K => evLR_run (o := ⟨_, _, _, _, _, _⟩) recs rfl rfl (K.range 0 rfl) hlb) ?_
    refine q_call rfl rfl (by kernel_rfl) (fun w1 K => (hSb w1).mono fun e w2 h => ⟨h.1, K.call h.2⟩) ?_
    repeat' (first | (with_reducible refine q_nil ?_) | ((with_reducible refine is_q ?_); first | (refine q_off rfl ?_) | (refine q_p txs rfl rfl ?_) | (refine q_a txs rfl rfl (by first | exact in_i64 (by omega) (by omega) | exact in_u8 (by omega) (by omega) | exact in_u64 (by omega) (by omega) | exact in_i32 (by omega) (by omega)) ?_)))
    refine q_cat rfl rfl (by (try simp only [ByteArray.size_append]); omega) ?_
    repeat' (first | (with_reducible refine q_nil ?_) | ((with_reducible refine is_q ?_); first | (refine q_off rfl ?_) | (refine q_p txs rfl rfl ?_) | (refine q_a txs rfl rfl (by first | exact in_i64 (by omega) (by omega) | exact in_u8 (by omega) (by omega) | exact in_u64 (by omega) (by omega) | exact in_i32 (by omega) (by omega)) ?_)))
    refine q_cat rfl rfl (by (try simp only [ByteArray.size_append]); omega) ?_
    repeat' (first | (with_reducible refine q_nil ?_) | ((with_reducible refine is_q ?_); first | (refine q_off rfl ?_) | (refine q_p txs rfl rfl ?_) | (refine q_a txs rfl rfl (by first | exact in_i64 (by omega) (by omega) | exact in_u8 (by omega) (by omega) | exact in_u64 (by omega) (by omega) | exact in_i32 (by omega) (by omega)) ?_)))
    clear H
    intro w_ H
    repeat' (with_reducible first | refine p_tn ?_ | refine wp_ret ?_)
    refine end2 rfl rfl rfl ?_
    exact ⟨by rw [if_pos rfl, ← hfin]; rfl, H.B⟩
end Go.Proofs.YtnimaenhijlcmaaGreatDoor.K.Rec
end
section
namespace Go.Proofs.YtnimaenhijlcmaaGreatDoor.K.Rec.Law
open Go.RowKit Go.Proofs.YtnimaenhijlcmaaGreatDoor.Q Go.Proofs.YtnimaenhijlcmaaGreatDoor.K Go.Proofs.YtnimaenhijlcmaaGreatDoor.K.Rec Go.Proofs.YtnimaenhijlcmaaGreatDoor.Mb Go.Proofs.YtnimaenhijlcmaaGreatDoorW.PrintWords
set_option linter.unusedVariables false
set_option linter.unusedSimpArgs false
def fo : Nat → Nat → Option Nat
  | 27, 0 => some 0
  | 27, 1 => some 1
  | 27, 2 => some 2
  | 27, 3 => some 3
  | 27, 4 => some 35
  | 27, 5 => some 67
  | t, k => K.fo t k
theorem fld0 : fldB Tryz.prog 27 0 = some 0 := by kernel_rfl
theorem fld1 : fldB Tryz.prog 27 1 = some 1 := by kernel_rfl
theorem fld2 : fldB Tryz.prog 27 2 = some 2 := by kernel_rfl
theorem fld3 : fldB Tryz.prog 27 3 = some 3 := by kernel_rfl
theorem fld4 : fldB Tryz.prog 27 4 = some 35 := by kernel_rfl
theorem fld5 : fldB Tryz.prog 27 5 = some 67 := by kernel_rfl
theorem flds : Flds Tryz.prog fo := by
  intro t k o h
  unfold fo at h
  split at h
  · cases h; exact fld0
  · cases h; exact fld1
  · cases h; exact fld2
  · cases h; exact fld3
  · cases h; exact fld4
  · cases h; exact fld5
  · exact K.flds t k o h
abbrev opC (k : Int) (t u : ByteArray) (A B : L) (s : Value) : List Value := .int .i64 k :: .string t :: .string u :: (nums .u8 A ++ (nums .u8 B ++ [s]))
theorem op_a {k : Int} {t u : ByteArray} {A B : L} {s : Value} {j : Nat} {v : Value} (h : (nums .u8 A)[j]? = some v) : (opC k t u A B s)[3 + j]? = some v := by
  rw [Nat.add_comm 3 j]
  show (nums .u8 A ++ (nums .u8 B ++ [s]))[j]? = some v
  rw [List.getElem?_append_left (List.getElem?_eq_some_iff.1 h).1, h]
theorem op_b {k : Int} {t u : ByteArray} {A B : L} {s : Value} (lA : A.length = 32) {j : Nat} {v : Value} (h : (nums .u8 B)[j]? = some v) : (opC k t u A B s)[35 + j]? = some v := by
  rw [show 35 + j = (32 + j) + 3 by omega]
  show (nums .u8 A ++ (nums .u8 B ++ [s]))[32 + j]? = some v
  rw [List.getElem?_append_right (by rw [nums_length]; omega), nums_length, lA, Nat.add_sub_cancel_left, List.getElem?_append_left (List.getElem?_eq_some_iff.1 h).1, h]
theorem cons_of {l : L} {n : Nat} (h : l.length = n + 1) : ∃ a r, l = a :: r ∧ r.length = n := by
  cases l with
  | nil => simp at h
  | cons a r => exact ⟨a, r, rfl, by simpa using h⟩
theorem list32 {l : L} (h : l.length = 32) : ∃ a0 a1 a2 a3 a4 a5 a6 a7 a8 a9 a10 a11 a12 a13 a14 a15 a16 a17 a18 a19 a20 a21 a22 a23 a24 a25 a26 a27 a28 a29 a30 a31 : Int, l = [a0, a1, a2, a3, a4, a5, a6, a7, a8, a9, a10, a11, a12, a13, a14, a15, a16, a17, a18, a19, a20, a21, a22, a23, a24, a25, a26, a27, a28, a29, a30, a31] := by
  obtain ⟨a0, l0, e0, h0⟩ := cons_of h
  obtain ⟨a1, l1, e1, h1⟩ := cons_of h0
  obtain ⟨a2, l2, e2, h2⟩ := cons_of h1
  obtain ⟨a3, l3, e3, h3⟩ := cons_of h2
  obtain ⟨a4, l4, e4, h4⟩ := cons_of h3
  obtain ⟨a5, l5, e5, h5⟩ := cons_of h4
  obtain ⟨a6, l6, e6, h6⟩ := cons_of h5
  obtain ⟨a7, l7, e7, h7⟩ := cons_of h6
  obtain ⟨a8, l8, e8, h8⟩ := cons_of h7
  obtain ⟨a9, l9, e9, h9⟩ := cons_of h8
  obtain ⟨a10, l10, e10, h10⟩ := cons_of h9
  obtain ⟨a11, l11, e11, h11⟩ := cons_of h10
  obtain ⟨a12, l12, e12, h12⟩ := cons_of h11
  obtain ⟨a13, l13, e13, h13⟩ := cons_of h12
  obtain ⟨a14, l14, e14, h14⟩ := cons_of h13
  obtain ⟨a15, l15, e15, h15⟩ := cons_of h14
  obtain ⟨a16, l16, e16, h16⟩ := cons_of h15
  obtain ⟨a17, l17, e17, h17⟩ := cons_of h16
  obtain ⟨a18, l18, e18, h18⟩ := cons_of h17
  obtain ⟨a19, l19, e19, h19⟩ := cons_of h18
  obtain ⟨a20, l20, e20, h20⟩ := cons_of h19
  obtain ⟨a21, l21, e21, h21⟩ := cons_of h20
  obtain ⟨a22, l22, e22, h22⟩ := cons_of h21
  obtain ⟨a23, l23, e23, h23⟩ := cons_of h22
  obtain ⟨a24, l24, e24, h24⟩ := cons_of h23
  obtain ⟨a25, l25, e25, h25⟩ := cons_of h24
  obtain ⟨a26, l26, e26, h26⟩ := cons_of h25
  obtain ⟨a27, l27, e27, h27⟩ := cons_of h26
  obtain ⟨a28, l28, e28, h28⟩ := cons_of h27
  obtain ⟨a29, l29, e29, h29⟩ := cons_of h28
  obtain ⟨a30, l30, e30, h30⟩ := cons_of h29
  obtain ⟨a31, l31, e31, h31⟩ := cons_of h30
  cases l31 with
  | cons a r => simp at h31
  | nil => exact ⟨a0, a1, a2, a3, a4, a5, a6, a7, a8, a9, a10, a11, a12, a13, a14, a15, a16, a17, a18, a19, a20, a21, a22, a23, a24, a25, a26, a27, a28, a29, a30, a31, by rw [e0, e1, e2, e3, e4, e5, e6, e7, e8, e9, e10, e11, e12, e13, e14, e15, e16, e17, e18, e19, e20, e21, e22, e23, e24, e25, e26, e27, e28, e29, e30, e31]⟩
theorem built_op (k : Int) (t u : ByteArray) {A B : L} (lA : A.length = 32) (lB : B.length = 32) : Tryz.prog.built 27 [(0, .int .i64 k), (1, .string t), (2, .string u), (3, .agg (nums .u8 A).toArray), (4, .agg (nums .u8 B).toArray)] = some (opC k t u A B (.slice none 0 0)).toArray := by
  obtain ⟨a0, a1, a2, a3, a4, a5, a6, a7, a8, a9, a10, a11, a12, a13, a14, a15, a16, a17, a18, a19, a20, a21, a22, a23, a24, a25, a26, a27, a28, a29, a30, a31, rfl⟩ := list32 lA
  obtain ⟨b0, b1, b2, b3, b4, b5, b6, b7, b8, b9, b10, b11, b12, b13, b14, b15, b16, b17, b18, b19, b20, b21, b22, b23, b24, b25, b26, b27, b28, b29, b30, b31, rfl⟩ := list32 lB
  kernel_rfl
section
variable {P : Program} {n : Nat} {ops : Array Oper} {Q : Exit → Act → World → Prop} {rest : List Oper} {f : Fr} {w : World} {d : Option Nat} {tt : TypeId} {ps : String} {af : Array Edge} {gd : Option (Nat × Bool)}
theorem l_iaZ {t e : TypeId} {m sz : Nat} {x y : Operand} {g : Nat} {k : IntKind} {j : Int} (ht : P.underlying t = some (.array m e)) (he : (P.info? e).map (·.size) = some sz) (hw : want n ops f ⟨d, .indexAddr t x y, tt, ps, af, gd⟩ = true) (hx : nf (X n f x) = some (.pointer (some ⟨g, 0, none⟩))) (hy : nf (X n f y) = some (.int k j)) (h0 : 0 ≤ j) (h1 : j < m)
    (h : WL P ops Q rest (act n (put f d (.pointer (some ⟨g, j.toNat * sz, none⟩)))) w) : WL P ops Q (⟨d, .indexAddr t x y, tt, ps, af, gd⟩ :: rest) (act n f) w := by
  refine l_val hw ?_ h
  have hx' := nf_eq hx
  have hy' := nf_eq hy
  obtain ⟨i0, hi, hz⟩ := Option.map_eq_some_iff.1 he
  unfold execOp
  simp [go_sem, ← hx', ← hy', Instr.indexAt, run_underlying ht, sizeOf, typeInfo, hi, hz, h0, h1, Addr.add_lit]
end
theorem size32 : (Tryz.prog.info? 22).map (·.size) = some 32 := by kernel_rfl
theorem get_a {A B : L} {j : Nat} {v : Value} (h : (nums .u8 A)[j]? = some v) : (nums .u8 (A ++ B))[j]? = some v := by
  rw [nums_app, List.getElem?_append_left (List.getElem?_eq_some_iff.1 h).1, h]
theorem get_b {A B : L} (lA : A.length = 32) {j : Nat} {v : Value} (h : (nums .u8 B)[j]? = some v) : (nums .u8 (A ++ B))[32 + j]? = some v := by
  rw [nums_app, List.getElem?_append_right (by rw [nums_length]; omega), nums_length, lA, Nat.add_sub_cancel_left, h]
structure LayR (w : World) : Prop where
  lay : Lay w
  tak : ∃ t fr, w.heap[3]? = some (.cells deC t fr)
theorem LayR.below {w w' : World} (h : LayR w) (K : Below w.heap.size w w') : LayR w' := by
  obtain ⟨hL, t, fr, h1⟩ := h
  exact ⟨hL.below K, t, fr, (K.block _ (blk_lt h1)).trans h1⟩
set_option maxRecDepth 100000 in
set_option maxHeartbeats 16000000 in
theorem records7_c {w : World} (hL : LayR w) (t u : ByteArray) (A B : L) (s : Value) :
    Calls Tryz.prog 8 #[.agg (opC 7 t u A B s).toArray] w fun e w' => e = .returned (.bool true) ∧ Below w.heap.size w w' := by
  refine enter (args := [.agg (opC 7 t u A B s).toArray]) Tryz.func8 rfl Tryz.ntmps8 rfl ?_
  have H := Hp.nil w
  repeat' (with_reducible first | refine wp_seq ?_ | refine w_reg ?_)
  (with_reducible refine is_l ?_); refine h_box H rfl rfl (nfL_eq _ _) (fun gX w_ H => ?_)
  have H : Hp w w_ [(gX, 27, opC 7 t u A B s)] [] := H
  repeat' (first | (with_reducible first | refine p_tn ?_ | refine wp_seq ?_ | refine wp_block ?_ | refine w_reg ?_ | refine l_nil ?_) | ((with_reducible refine g_on ?_); (first | ((with_reducible refine g_as ?_); refine l_p txs rfl rfl ?_) | ((with_reducible refine g_fa ?_); refine h_fa flds rfl rfl ?_) | ((with_reducible refine g_ld ?_); (refine h_ld txs H 0 rfl rfl rfl rfl ?_)))))
  (with_reducible refine is_l ?_); refine l_t txs rfl rfl (fun _ => ?_) (fun h => absurd rfl h)
  repeat' (first | (with_reducible first | refine p_tn ?_ | refine wp_seq ?_ | refine w_reg ?_) | (with_reducible (refine is_if ?_; (refine w_ift rfl ?_))) | (with_reducible refine l_nil ?_) | ((with_reducible refine g_on ?_); (first | ((with_reducible refine g_as ?_); refine l_p txs rfl rfl ?_) | ((with_reducible refine g_fa ?_); refine h_fa flds rfl rfl ?_) | ((with_reducible refine g_ld ?_); (refine h_ld txs H 0 rfl rfl rfl rfl ?_)))))
  obtain ⟨_, t2, fr, hD⟩ := hL.below H.B
  have hk := Ref.Key_r hD t u
  have hk2 := fun (w1 : World) (h1 : Lay w1) => Key_c h1 t u
  generalize keyT t u = kt at hk hk2
  generalize checkS (bl t) (bl u) = n at hk hk2
  (with_reducible refine is_l ?_); refine l_callv rfl rfl (by kernel_rfl) hk (fun w_ K => ?_)
  have H := H.call K
  repeat' (first | (with_reducible first | refine p_tn ?_ | refine wp_seq ?_ | refine w_reg ?_ | refine l_nil ?_) | ((with_reducible refine g_on ?_); (first | ((with_reducible refine g_mv ?_); refine l_p txs rfl rfl ?_) | ((with_reducible refine g_as ?_); refine l_p txs rfl rfl ?_) | ((with_reducible refine g_ex ?_); refine l_p txs rfl rfl ?_) | ((with_reducible refine g_fa ?_); refine h_fa flds rfl rfl ?_) | ((with_reducible refine g_ld ?_); (refine h_ld txs H 0 rfl rfl rfl rfl ?_)))))
  (with_reducible refine is_l ?_); refine l_callv rfl rfl (by kernel_rfl) (hk2 _ (hL.below H.B).lay) (fun w_ K => ?_)
  have H := H.call K
  repeat' (first | (with_reducible first | refine p_tn ?_ | refine wp_seq ?_ | refine w_reg ?_ | refine l_nil ?_) | ((with_reducible refine g_on ?_); (first | ((with_reducible refine g_mv ?_); refine l_p txs rfl rfl ?_) | ((with_reducible refine g_as ?_); refine l_p txs rfl rfl ?_) | ((with_reducible refine g_ex ?_); refine l_p txs rfl rfl ?_))))
  (with_reducible refine is_l ?_); refine l_t txs rfl rfl (fun _ => ?_) (fun h => absurd rfl h)
  repeat' (first | ((with_reducible refine g_on ?_); ((with_reducible refine g_mv ?_); refine l_p txs rfl rfl ?_)) | ((with_reducible refine g_if ?_); ((with_reducible refine g_mv ?_); refine l_p txs rfl rfl ?_)))
  (with_reducible refine is_l ?_); refine l_t txs rfl rfl (fun _ => ?_) (fun h => absurd rfl h)
  repeat' (first | (with_reducible first | refine p_tn ?_ | refine p_tr ?_ | refine p_br ?_ | refine wp_ret ?_ | refine l_nil ?_) | ((with_reducible refine g_on ?_); (first | ((with_reducible refine g_as ?_); refine l_p txs rfl rfl ?_) | ((with_reducible refine g_pk ?_); refine l_p txs rfl rfl ?_))))
  refine end1 rfl rfl ?_
  exact ⟨rfl, H.B⟩
set_option maxRecDepth 100000 in
set_option maxHeartbeats 16000000 in
theorem records13_c {w : World} (hL : LayR w) (t u : ByteArray) (A B : L) (bA : Bytes A) (lA : A.length = 32) (bB : Bytes B) (lB : B.length = 32) (s : Value) :
    Calls Tryz.prog 8 #[.agg (opC 13 t u A B s).toArray] w fun e w' => e = .returned (.bool true) ∧ Below w.heap.size w w' := by
  have nA : (nums .u8 A).length = (nums .u8 zL).length := by rw [nums_length, lA]; rfl
  have nB : (nums .u8 B).length = (nums .u8 zL).length := by rw [nums_length, lB]; rfl
  refine enter (args := [.agg (opC 13 t u A B s).toArray]) Tryz.func8 rfl Tryz.ntmps8 rfl ?_
  have H := Hp.nil w
  repeat' (with_reducible first | refine wp_seq ?_ | refine w_reg ?_)
  (with_reducible refine is_l ?_); refine h_box H rfl rfl (nfL_eq _ _) (fun gX w_ H => ?_)
  have H : Hp w w_ [(gX, 27, opC 13 t u A B s)] [] := H
  repeat' (first | (with_reducible first | refine p_tn ?_ | refine wp_seq ?_ | refine wp_block ?_ | refine w_reg ?_ | refine l_nil ?_) | ((with_reducible refine g_on ?_); (first | ((with_reducible refine g_as ?_); refine l_p txs rfl rfl ?_) | ((with_reducible refine g_fa ?_); refine h_fa flds rfl rfl ?_) | ((with_reducible refine g_ld ?_); (refine h_ld txs H 0 rfl rfl rfl rfl ?_)))))
  (with_reducible refine is_l ?_); refine l_t txs rfl rfl (fun h => absurd h (by decide)) (fun _ => ?_)
  repeat' (first | (with_reducible first | refine p_tn ?_ | refine wp_seq ?_ | refine w_reg ?_) | (with_reducible (refine is_if ?_; (refine w_iff rfl ?_))) | (with_reducible refine l_nil ?_) | ((with_reducible refine g_on ?_); ((with_reducible refine g_as ?_); refine l_p txs rfl rfl ?_)))
  (with_reducible refine is_l ?_); refine l_t txs rfl rfl (fun h => absurd h (by decide)) (fun _ => ?_)
  repeat' (first | (with_reducible first | refine p_tn ?_ | refine wp_seq ?_ | refine w_reg ?_) | (with_reducible (refine is_if ?_; (refine w_iff rfl ?_))) | (with_reducible refine l_nil ?_) | ((with_reducible refine g_on ?_); ((with_reducible refine g_as ?_); refine l_p txs rfl rfl ?_)))
  (with_reducible refine is_l ?_); refine l_t txs rfl rfl (fun h => absurd h (by decide)) (fun _ => ?_)
  repeat' (first | (with_reducible first | refine p_tn ?_ | refine wp_seq ?_ | refine w_reg ?_) | (with_reducible (refine is_if ?_; (refine w_iff rfl ?_))) | (with_reducible refine l_nil ?_) | ((with_reducible refine g_on ?_); ((with_reducible refine g_as ?_); refine l_p txs rfl rfl ?_)))
  (with_reducible refine is_l ?_); refine l_t txs rfl rfl (fun h => absurd h (by decide)) (fun _ => ?_)
  repeat' (first | (with_reducible first | refine p_tn ?_ | refine wp_seq ?_ | refine w_reg ?_) | (with_reducible (refine is_if ?_; (refine w_iff rfl ?_))) | (with_reducible refine l_nil ?_) | ((with_reducible refine g_on ?_); ((with_reducible refine g_as ?_); refine l_p txs rfl rfl ?_)))
  (with_reducible refine is_l ?_); refine l_t txs rfl rfl (fun _ => ?_) (fun h => absurd rfl h)
  repeat' (first | (with_reducible first | refine p_tn ?_ | refine wp_seq ?_ | refine w_reg ?_) | (with_reducible (refine is_if ?_; (refine w_ift rfl ?_))) | (with_reducible refine l_nil ?_) | ((with_reducible refine g_on ?_); (first | ((with_reducible refine g_as ?_); refine l_p txs rfl rfl ?_) | ((with_reducible refine g_fa ?_); refine h_fa flds rfl rfl ?_) | ((with_reducible refine g_ld ?_); (refine h_ld txs H 0 rfl rfl rfl rfl ?_)))))
  (with_reducible refine is_l ?_); refine h_ldA recs (cs := nums .u8 A) (fun j v hv => by show World.cell? _ ((⟨gX, 3, none⟩ : Addr).add j) = _; rw [Addr.add_lit]; exact H.cellAt 0 rfl (op_a hv)) rfl rfl rfl nA ?_
  repeat' ((with_reducible refine g_on ?_); ((with_reducible refine g_fa ?_); refine h_fa flds rfl rfl ?_))
  (with_reducible refine is_l ?_); refine h_ldA recs (cs := nums .u8 B) (fun j v hv => by show World.cell? _ ((⟨gX, 35, none⟩ : Addr).add j) = _; rw [Addr.add_lit]; exact H.cellAt 0 rfl (op_b lA hv)) rfl rfl rfl nB ?_
  skip
  obtain ⟨_, t2, fr, hD⟩ := hL.below H.B
  have hk := Record_r hD t u A B bA lA bB lB
  have hk2 := fun (w1 : World) (h1 : Lay w1) => Record_c h1 t u A B bA lA bB lB
  generalize recT t u A B = kt at hk hk2
  generalize checkS (bl t) (bl u) = n at hk hk2
  (with_reducible refine is_l ?_); refine l_callv rfl rfl (by kernel_rfl) hk (fun w_ K => ?_)
  have H := H.call K
  repeat' (first | (with_reducible first | refine p_tn ?_ | refine wp_seq ?_ | refine w_reg ?_ | refine l_nil ?_) | ((with_reducible refine g_on ?_); (first | ((with_reducible refine g_mv ?_); refine l_p txs rfl rfl ?_) | ((with_reducible refine g_as ?_); refine l_p txs rfl rfl ?_) | ((with_reducible refine g_ex ?_); refine l_p txs rfl rfl ?_) | ((with_reducible refine g_fa ?_); refine h_fa flds rfl rfl ?_) | ((with_reducible refine g_ld ?_); (refine h_ld txs H 0 rfl rfl rfl rfl ?_)))))
  (with_reducible refine is_l ?_); refine h_ldA recs (cs := nums .u8 A) (fun j v hv => by show World.cell? _ ((⟨gX, 3, none⟩ : Addr).add j) = _; rw [Addr.add_lit]; exact H.cellAt 0 rfl (op_a hv)) rfl rfl rfl nA ?_
  repeat' ((with_reducible refine g_on ?_); ((with_reducible refine g_fa ?_); refine h_fa flds rfl rfl ?_))
  (with_reducible refine is_l ?_); refine h_ldA recs (cs := nums .u8 B) (fun j v hv => by show World.cell? _ ((⟨gX, 35, none⟩ : Addr).add j) = _; rw [Addr.add_lit]; exact H.cellAt 0 rfl (op_b lA hv)) rfl rfl rfl nB ?_
  skip
  (with_reducible refine is_l ?_); refine l_callv rfl rfl (by kernel_rfl) (hk2 _ (hL.below H.B).lay) (fun w_ K => ?_)
  have H := H.call K
  repeat' (first | (with_reducible first | refine p_tn ?_ | refine wp_seq ?_ | refine w_reg ?_ | refine l_nil ?_) | ((with_reducible refine g_on ?_); (first | ((with_reducible refine g_mv ?_); refine l_p txs rfl rfl ?_) | ((with_reducible refine g_as ?_); refine l_p txs rfl rfl ?_) | ((with_reducible refine g_ex ?_); refine l_p txs rfl rfl ?_))))
  (with_reducible refine is_l ?_); refine l_t txs rfl rfl (fun _ => ?_) (fun h => absurd rfl h)
  repeat' (first | ((with_reducible refine g_on ?_); ((with_reducible refine g_mv ?_); refine l_p txs rfl rfl ?_)) | ((with_reducible refine g_if ?_); ((with_reducible refine g_mv ?_); refine l_p txs rfl rfl ?_)))
  (with_reducible refine is_l ?_); refine l_t txs rfl rfl (fun _ => ?_) (fun h => absurd rfl h)
  repeat' (first | (with_reducible first | refine p_tn ?_ | refine p_tr ?_ | refine p_br ?_ | refine wp_ret ?_ | refine l_nil ?_) | ((with_reducible refine g_on ?_); (first | ((with_reducible refine g_as ?_); refine l_p txs rfl rfl ?_) | ((with_reducible refine g_pk ?_); refine l_p txs rfl rfl ?_))))
  refine end1 rfl rfl ?_
  exact ⟨rfl, H.B⟩
set_option maxRecDepth 100000 in
set_option maxHeartbeats 16000000 in
theorem fits_c {w : World} (hL : LayR w) (t u : ByteArray) (A B : L) (bA : Bytes A) (lA : A.length = 32) (bB : Bytes B) (lB : B.length = 32) :
    Calls Tryz.prog 3 #[.string t, .string u, .agg (nums .u8 (A ++ B)).toArray] w fun e w' => e = .returned (.bool true) ∧ Below w.heap.size w w' := by
  have nA : (nums .u8 A).length = (nums .u8 zL).length := by rw [nums_length, lA]; rfl
  have nB : (nums .u8 B).length = (nums .u8 zL).length := by rw [nums_length, lB]; rfl
  refine enter (args := [.string t, .string u, .agg (nums .u8 (A ++ B)).toArray]) Tryz.func3 rfl Tryz.ntmps3 rfl ?_
  have H := Hp.nil w
  repeat' (with_reducible first | refine wp_seq ?_ | refine w_reg ?_)
  (with_reducible refine is_l ?_); refine h_box H rfl rfl (nfL_eq _ _) (fun g5 w_ H => ?_)
  have H : Hp w w_ [(g5, 23, nums .u8 (A ++ B))] [] := H
  repeat' (first | (with_reducible first | refine p_tn ?_ | refine wp_seq ?_ | refine wp_block ?_ | refine w_reg ?_ | refine l_nil ?_) | ((with_reducible refine g_on ?_); ((with_reducible refine g_as ?_); refine l_p txs rfl rfl ?_)))
  refine w_loop (σ := Nat) (S := fun s => [(0, .string t), (1, .string u), (5, .pointer (some ⟨g5, 0, none⟩)), (7, .int .i64 ((7 + s : Nat) : Int))])
    (J := fun s w' => Hp w w' [(g5, 23, nums .u8 (A ++ B))] [] ∧ s ≤ 7) (μ := fun s => 7 - s) 0 ⟨rfl, rfl, rfl, rfl, trivial⟩ ⟨H, by omega⟩ ?_
  clear H
  rintro k f w_ ⟨H, hk⟩
  repeat' (first | (with_reducible first | refine wp_seq ?_ | refine w_reg ?_) | ((with_reducible refine g_on ?_); ((with_reducible refine g_mv ?_); refine l_p txs rfl rfl ?_)))
  (with_reducible refine is_l ?_); refine l_t txs rfl rfl (fun hle => ?_) (fun hgt => ?_)
  · by_cases h0 : k = 0
    · subst h0
      repeat' (first | (with_reducible first | refine p_tn ?_ | refine wp_seq ?_ | refine wp_block ?_ | refine w_reg ?_) | (with_reducible (refine is_if ?_; (refine w_ift rfl ?_))) | (with_reducible first | refine wp_skip ?_ | refine l_nil ?_) | ((with_reducible refine g_on ?_); ((with_reducible refine g_mv ?_); refine l_p txs rfl rfl ?_)))
      (with_reducible refine is_l ?_); refine l_t txs rfl rfl (fun _ => ?_) (fun h => absurd rfl h)
      repeat' (first | (with_reducible first | refine p_tn ?_ | refine wp_seq ?_ | refine w_reg ?_) | (with_reducible (refine is_if ?_; (refine w_ift rfl ?_))) | (with_reducible refine l_nil ?_) | ((with_reducible refine g_on ?_); (first | ((with_reducible refine g_mv ?_); refine l_p txs rfl rfl ?_) | ((with_reducible refine g_pk ?_); refine l_p txs rfl rfl ?_))) | ((with_reducible refine g_if ?_); (refine l_off rfl ?_)))
      (with_reducible refine is_l ?_); refine l_iaZ Tryz.underlying23 size32 rfl rfl rfl (by decide) (by decide) ?_
      skip
      (with_reducible refine is_l ?_); refine h_ldA recs (cs := nums .u8 A) (fun j v hv => by show World.cell? _ ((⟨g5, 0, none⟩ : Addr).add j) = _; rw [Addr.add_lit, Nat.zero_add]; exact H.cellAt 0 rfl (get_a hv)) rfl rfl rfl nA ?_
      skip
      (with_reducible refine is_l ?_); refine l_iaZ Tryz.underlying23 size32 rfl rfl rfl (by decide) (by decide) ?_
      skip
      (with_reducible refine is_l ?_); refine h_ldA recs (cs := nums .u8 B) (fun j v hv => by show World.cell? _ ((⟨g5, 32, none⟩ : Addr).add j) = _; rw [Addr.add_lit]; exact H.cellAt 0 rfl (get_b lA hv)) rfl rfl rfl nB ?_
      skip
      (with_reducible refine is_l ?_); refine h_bld rfl rfl (built_op 7 t u lA lB) ?_
      skip
      (with_reducible refine is_l ?_); refine l_callv rfl rfl (by kernel_rfl) (records7_c (hL.below H.B) t u A B _) (fun w_ K => ?_)
      have H := H.call K
      repeat' (first | (with_reducible first | refine p_tn ?_ | refine p_bn ?_ | refine wp_seq ?_ | refine w_reg ?_) | (with_reducible (refine is_if ?_; (refine w_iff rfl ?_))) | (with_reducible first | refine wp_skip ?_ | refine l_nil ?_) | ((with_reducible refine g_on ?_); (first | ((with_reducible refine g_mv ?_); refine l_p txs rfl rfl ?_) | ((with_reducible refine g_as ?_); refine l_p txs rfl rfl ?_) | ((with_reducible refine g_un ?_); (refine l_p txs rfl rfl ?_)) | ((with_reducible refine g_bi ?_); (refine l_a txs rfl rfl (by first | exact in_i64 (by omega) (by omega) | exact in_u8 (by omega) (by omega) | exact in_u64 (by omega) (by omega) | exact in_i32 (by omega) (by omega)) ?_)))))
      exact ⟨1, _, rfl, ⟨rfl, rfl, rfl, rfl, trivial⟩, ⟨H, by omega⟩, by decide⟩
    by_cases h6 : k = 6
    · subst h6
      repeat' (first | (with_reducible first | refine p_tn ?_ | refine wp_seq ?_ | refine wp_block ?_ | refine w_reg ?_) | (with_reducible (refine is_if ?_; (refine w_ift rfl ?_))) | (with_reducible first | refine wp_skip ?_ | refine l_nil ?_) | ((with_reducible refine g_on ?_); ((with_reducible refine g_mv ?_); refine l_p txs rfl rfl ?_)))
      (with_reducible refine is_l ?_); refine l_t txs rfl rfl (fun h => absurd h (by decide)) (fun _ => ?_)
      repeat' (first | ((with_reducible refine g_on ?_); ((with_reducible refine g_mv ?_); refine l_p txs rfl rfl ?_)) | ((with_reducible refine g_if ?_); ((with_reducible refine g_mv ?_); refine l_p txs rfl rfl ?_)))
      (with_reducible refine is_l ?_); refine l_t txs rfl rfl (fun _ => ?_) (fun h => absurd rfl h)
      repeat' (first | (with_reducible first | refine p_tn ?_ | refine wp_seq ?_ | refine w_reg ?_) | (with_reducible (refine is_if ?_; (refine w_ift rfl ?_))) | (with_reducible refine l_nil ?_) | ((with_reducible refine g_on ?_); (first | ((with_reducible refine g_mv ?_); refine l_p txs rfl rfl ?_) | ((with_reducible refine g_pk ?_); refine l_p txs rfl rfl ?_))))
      (with_reducible refine is_l ?_); refine l_iaZ Tryz.underlying23 size32 rfl rfl rfl (by decide) (by decide) ?_
      skip
      (with_reducible refine is_l ?_); refine h_ldA recs (cs := nums .u8 A) (fun j v hv => by show World.cell? _ ((⟨g5, 0, none⟩ : Addr).add j) = _; rw [Addr.add_lit, Nat.zero_add]; exact H.cellAt 0 rfl (get_a hv)) rfl rfl rfl nA ?_
      skip
      (with_reducible refine is_l ?_); refine l_iaZ Tryz.underlying23 size32 rfl rfl rfl (by decide) (by decide) ?_
      skip
      (with_reducible refine is_l ?_); refine h_ldA recs (cs := nums .u8 B) (fun j v hv => by show World.cell? _ ((⟨g5, 32, none⟩ : Addr).add j) = _; rw [Addr.add_lit]; exact H.cellAt 0 rfl (get_b lA hv)) rfl rfl rfl nB ?_
      skip
      (with_reducible refine is_l ?_); refine h_bld rfl rfl (built_op 13 t u lA lB) ?_
      skip
      (with_reducible refine is_l ?_); refine l_callv rfl rfl (by kernel_rfl) (records13_c (hL.below H.B) t u A B bA lA bB lB _) (fun w_ K => ?_)
      have H := H.call K
      repeat' (first | (with_reducible first | refine p_tn ?_ | refine p_bn ?_ | refine wp_seq ?_ | refine w_reg ?_) | (with_reducible (refine is_if ?_; (refine w_iff rfl ?_))) | (with_reducible first | refine wp_skip ?_ | refine l_nil ?_) | ((with_reducible refine g_on ?_); (first | ((with_reducible refine g_mv ?_); refine l_p txs rfl rfl ?_) | ((with_reducible refine g_as ?_); refine l_p txs rfl rfl ?_) | ((with_reducible refine g_un ?_); (refine l_p txs rfl rfl ?_)) | ((with_reducible refine g_bi ?_); (refine l_a txs rfl rfl (by first | exact in_i64 (by omega) (by omega) | exact in_u8 (by omega) (by omega) | exact in_u64 (by omega) (by omega) | exact in_i32 (by omega) (by omega)) ?_)))))
      exact ⟨7, _, rfl, ⟨rfl, rfl, rfl, rfl, trivial⟩, ⟨H, by omega⟩, by decide⟩
    · repeat' (first | (with_reducible first | refine p_tn ?_ | refine wp_seq ?_ | refine wp_block ?_ | refine w_reg ?_) | (with_reducible (refine is_if ?_; (refine w_ift rfl ?_))) | (with_reducible first | refine wp_skip ?_ | refine l_nil ?_) | ((with_reducible refine g_on ?_); ((with_reducible refine g_mv ?_); refine l_p txs rfl rfl ?_)))
      (with_reducible refine is_l ?_); refine l_t txs rfl rfl (fun h => absurd h (by omega)) (fun _ => ?_)
      repeat' (first | ((with_reducible refine g_on ?_); ((with_reducible refine g_mv ?_); refine l_p txs rfl rfl ?_)) | ((with_reducible refine g_if ?_); ((with_reducible refine g_mv ?_); refine l_p txs rfl rfl ?_)))
      (with_reducible refine is_l ?_); refine l_t txs rfl rfl (fun h => absurd h (by omega)) (fun _ => ?_)
      repeat' (first | (with_reducible first | refine p_tn ?_ | refine p_bn ?_ | refine w_reg ?_) | (with_reducible (refine is_if ?_; (refine w_iff rfl ?_))) | (with_reducible first | refine wp_skip ?_ | refine l_nil ?_) | ((with_reducible refine g_on ?_); (first | ((with_reducible refine g_mv ?_); refine l_p txs rfl rfl ?_) | ((with_reducible refine g_as ?_); refine l_p txs rfl rfl ?_) | ((with_reducible refine g_pk ?_); refine l_p txs rfl rfl ?_) | ((with_reducible refine g_bi ?_); (refine l_a txs rfl rfl (by first | exact in_i64 (by omega) (by omega) | exact in_u8 (by omega) (by omega) | exact in_u64 (by omega) (by omega) | exact in_i32 (by omega) (by omega)) ?_)))))
      exact ⟨k + 1, _, rfl, ⟨rfl, rfl, rfl, by show Value.int .i64 (((7 + k : Nat) : Int) + 1) = Value.int .i64 ((7 + (k + 1) : Nat) : Int); congr 1, trivial⟩, ⟨H, by omega⟩, by show 7 - (k + 1) < 7 - k; omega⟩
  · repeat' (first | (with_reducible first | refine p_tn ?_ | refine p_tx ?_ | refine x_hit ?_ | refine wp_seq ?_ | refine w_reg ?_) | (with_reducible (refine is_if ?_; (refine w_iff rfl ?_))) | (with_reducible first | refine wp_exit ?_ | refine l_nil ?_))
    (with_reducible refine is_l ?_); refine l_callv rfl rfl (by kernel_rfl) (known_c (hL.below H.B).lay) (fun w_ K => ?_)
    have H := H.call K
    repeat' (first | (with_reducible first | refine p_tn ?_ | refine wp_ret ?_ | refine l_nil ?_) | ((with_reducible refine g_on ?_); ((with_reducible refine g_as ?_); refine l_p txs rfl rfl ?_)))
    refine end1 rfl rfl ?_
    exact ⟨rfl, H.B⟩
end Go.Proofs.YtnimaenhijlcmaaGreatDoor.K.Rec.Law
end
section
namespace Go.Proofs.YtnimaenhijlcmaaGreatDoor.LaidZ
open Go.ChangeShapes Go.WideShapes Go.ChangeAt Go.RowKit
open Go.Proofs.YtnimaenhijlcmaaGreatDoor.K Go.Proofs.YtnimaenhijlcmaaGreatDoor.Mb
open Go.Lib (VarReads)
set_option linter.unusedVariables false
set_option linter.unusedSimpArgs false
theorem own : ownKnob Tryz.prog.godebug = none := by kernel_rfl
def ldT (s : ByteArray) : DataW Unit := .lit (.string s.data.toList)
theorem text_in {W : World} {m : Nat} {t : TypeId} {c : List Value} {y : DataW Unit × List MemPlace} {s : ByteArray} (ht : Tryz.prog.underlying t = some .string) (h : DataW.trod (fun _ => ()) Tryz.prog W 0 (fun _ => true) false m t c = some y) (hy : y.1 = ldT s) : c = [.string s] := by
  obtain ⟨s', rfl, rfl, _⟩ := DataW.trod_string ht h
  simp [ldT] at hy
  have : s' = s := by
    cases s; cases s'
    simp only [ByteArray.mk.injEq]
    exact Array.toList_inj.1 (by simpa using hy)
  rw [this]
theorem cells_of_texts {W : World} {fuel n : Nat} {arr E : TypeId} {cs : List Value} {p : List MemPlace} {T : List ByteArray} (ht : Tryz.prog.underlying arr = some (.array n E)) (hE : Tryz.prog.underlying E = some .string) (kE : Tryz.prog.cellsOf E = 1) (kA : Tryz.prog.cellsOf arr = n) (hn : T.length = n)
    (h : DataW.trod (fun _ => ()) Tryz.prog W 0 (fun _ => true) false fuel arr cs = some (.agg (T.map ldT), p)) : cs = T.map Value.string := by
  obtain ⟨xs, m, _, hx, hl, hxl, hall⟩ := DataW.trod_array ht h
  have hmap : xs.map (·.1) = T.map ldT := by
    have := congrArg Prod.fst hx
    simpa using this.symm
  refine List.ext_getElem? fun i => ?_
  by_cases hi : i < n
  · have hiT : i < T.length := by omega
    have hxi : i < xs.length := by omega
    have ha := hall i hi
    rw [List.getElem?_eq_getElem hxi, kE, Nat.mul_one] at ha
    have he : (xs[i]).1 = ldT T[i] := by
      have := congrArg (fun l => l[i]?) hmap
      simp only [List.getElem?_map, List.getElem?_eq_getElem hxi, List.getElem?_eq_getElem hiT, Option.map_some, Option.some.injEq] at this
      exact this
    have h1 := congrArg (fun l => l[0]?) (text_in hE ha he)
    simp only [List.getElem?_map, List.getElem?_eq_getElem hiT, Option.map_some] at h1 ⊢
    rw [List.getElem?_take_of_lt (by omega), List.getElem?_drop] at h1
    simpa using h1
  · rw [List.getElem?_eq_none (by omega), List.getElem?_eq_none (by rw [List.length_map]; omega)]
theorem heap_of_var {W : World} {nm : String} {g : Nat} {cs : Array Value} (hg : Tryz.prog.globalNamed nm = some g) (h : W.var? Tryz.prog nm = some cs) : ∃ t fr, W.heap[g]? = some (.cells cs t fr) := by
  unfold World.var? at h
  rw [hg, Option.bind_some] at h
  cases hx : W.heap[g]? with
  | none => rw [hx] at h; cases h
  | some o =>
    rw [hx] at h
    cases o <;> simp at h
    subst h
    exact ⟨_, _, rfl⟩
theorem deData : Rows.laid_ledger_modver_devices = .agg (deB.map ldT) := by kernel_rfl
theorem layD {W : World} (h : VarReads Tryz.prog W "ledger/modver.devices" Rows.laid_ledger_modver_devices) : ∃ t fr, W.heap[2]? = some (.cells deC t fr) := by
  rw [deData] at h
  obtain ⟨g', t', cs, fuel, p, hg', ht', hvar, hd⟩ := h
  obtain rfl := Option.some.inj ((show Tryz.prog.globalNamed "ledger/modver.devices" = some 2 by kernel_rfl).symm.trans hg')
  obtain rfl := Option.some.inj ((show (Tryz.prog.globals[2]?).map (·.type) = some 138 by kernel_rfl).symm.trans ht')
  have e := cells_of_texts Tryz.underlying138 Tryz.underlying9 (by kernel_rfl) (by kernel_rfl) rfl hd
  have e2 : cs = deC := by
    rw [← Array.toList_inj, e]; rfl
  rw [e2] at hvar
  exact heap_of_var (by kernel_rfl) hvar
theorem mkData : Rows.laid_ledger_modver_marks = Lib.tabData (H := Unit) .i32 mkL := by kernel_rfl
theorem layK {W : World} (h : VarReads Tryz.prog W "ledger/modver.marks" Rows.laid_ledger_modver_marks) : ∃ t fr, W.heap[1]? = some (.cells mkC t fr) := by
  rw [mkData] at h
  obtain ⟨g', t', cs, fuel, p, hg', ht', hvar, hd⟩ := h
  obtain rfl := Option.some.inj ((show Tryz.prog.globalNamed "ledger/modver.marks" = some 1 by kernel_rfl).symm.trans hg')
  obtain rfl := Option.some.inj ((show (Tryz.prog.globals[1]?).map (·.type) = some 137 by kernel_rfl).symm.trans ht')
  have e := Lib.cells_of_tab Tryz.underlying137 Tryz.underlying21 (show Tryz.prog.cellsOf 21 = 1 by kernel_rfl) (show Tryz.prog.cellsOf 137 = 5 by kernel_rfl) hd
  have e2 : cs = mkC := by
    rw [← Array.toList_inj, e]; rfl
  rw [e2] at hvar
  exact heap_of_var (by kernel_rfl) hvar
theorem maxLen_cell {w : World} (h : w.ShapedOpen Tryz.prog) : ∃ m, w.cell? ⟨0, 0, none⟩ = some (.int .i64 m) :=
  Go.Proofs.cell_of_shapedOpen_int (zero := #[.int .i64 0]) (t := 3) h (of_decide_eq_true (by kernel_rfl)) (by kernel_rfl) rfl (by kernel_rfl) (by kernel_rfl) Tryz.underlying3
theorem laidOut : laidOutB Tryz.prog = true := by kernel_rfl
noncomputable def world (os : Os) : World := World.laidAll Tryz.prog os Rows.modverFitsRow.laid
theorem world_os (os : Os) : (world os).os = os := World.laidAll_os _ _ _
set_option maxRecDepth 100000 in
theorem met (os : Os) (args : Array Value) : laidMet Tryz.prog Rows.modverFitsRow.laid ((world os).forCall (fun _ _ => 0) ⟨#[], args, []⟩).memory :=
  laidMet_laidAll _ (by kernel_rfl) (by kernel_rfl)
end Go.Proofs.YtnimaenhijlcmaaGreatDoor.LaidZ
end
section
namespace Go.Proofs.YtnimaenhijlcmaaGreatDoor.LaidS
open Go.ChangeShapes Go.WideShapes Go.ChangeAt Go.RowKit
open Go.Proofs.YtnimaenhijlcmaaGreatDoor.K Go.Proofs.YtnimaenhijlcmaaGreatDoor.Mb
set_option linter.unusedVariables false
noncomputable def world (os : Os) : World := World.laidAll Tryz.prog os Rows.modverSortsRow.laid
theorem world_os (os : Os) : (world os).os = os := World.laidAll_os _ _ _
set_option maxRecDepth 100000 in
theorem met (os : Os) (args : Array Value) : laidMet Tryz.prog Rows.modverSortsRow.laid ((world os).forCall (fun _ _ => 0) ⟨#[], args, []⟩).memory :=
  laidMet_laidAll _ (by kernel_rfl) (by kernel_rfl)
end Go.Proofs.YtnimaenhijlcmaaGreatDoor.LaidS
end
section
namespace Go.Proofs.YtnimaenhijlcmaaGreatDoor.Mb
set_option linter.unusedVariables false
set_option linter.unusedSimpArgs false
def tlK (s : L) : L := match cutC 64 s with | some (_, b) => b | none => []
def keyF (a b : L) : Int := if cmpB (aheadC 64 a) (aheadC 64 b) ≠ 0 then cmpB (aheadC 64 a) (aheadC 64 b) else if compareS (tlK a) (tlK b) ≠ 0 then compareS (tlK a) (tlK b) else cmpB (tlK a) (tlK b)
theorem ordK : Ord3 keyF := (ordB.comap (aheadC 64)).lex ((ordS.comap tlK).lex (ordB.comap tlK))
theorem cut_sub {s : L} : (∀ y ∈ aheadC 64 s, y ∈ s) ∧ (∀ y ∈ tlK s, y ∈ s) ∧ (aheadC 64 s).length ≤ s.length ∧ (tlK s).length ≤ s.length := by
  unfold aheadC tlK
  cases h : cutC 64 s with
  | none => exact ⟨fun y hy => hy, fun y hy => (by cases hy), Nat.le_refl _, Nat.zero_le _⟩
  | some p =>
    obtain ⟨a, b⟩ := p
    obtain ⟨rfl, _⟩ := cutC_some h
    refine ⟨fun y hy => List.mem_append_left _ hy, fun y hy => List.mem_append_right _ (List.mem_cons_of_mem _ hy), ?_, ?_⟩ <;> simp only [List.length_append, List.length_cons] <;> omega
theorem key_parts {s p v : L} (h : keyS s = some (p, v)) : aheadC 64 s = p ∧ tlK s = v := by
  obtain ⟨rfl, h1, _⟩ := keyS_some h
  unfold aheadC tlK
  rw [cutC_mk _ h1]
  exact ⟨rfl, rfl⟩
theorem cmpB_eq : ∀ {a b : L}, cmpB a b = 0 → a = b
  | [], [], _ => rfl
  | [], _ :: _, h => by simp [cmpB] at h
  | _ :: _, [], h => by simp [cmpB] at h
  | x :: a, y :: b, h => by
    simp only [cmpB] at h
    split at h
    · cases h
    split at h
    · cases h
    rw [show x = y by omega, cmpB_eq h]
def keyE (s : L) : Int := match keyS s with | none => 113 | some (p, v) => (checkS p v : Int)
def firstE : List L → Int
  | [] => 0
  | x :: r => if keyE x ≠ 0 then keyE x else firstE r
theorem firstE_zero : ∀ {l : List L}, firstE l = 0 ↔ ∀ x ∈ l, keyE x = 0
  | [] => by simp [firstE]
  | x :: r => by
    have ih := @firstE_zero r
    rw [firstE]
    by_cases h : keyE x ≠ 0
    · rw [if_pos h]
      exact ⟨fun e => absurd e h, fun e => absurd (e x (List.mem_cons_self ..)) h⟩
    · rw [if_neg h, ih]
      have h0 : keyE x = 0 := Classical.not_not.1 h
      exact ⟨fun e y hy => by rcases List.mem_cons.1 hy with rfl | hy; exact h0; exact e y hy, fun e y hy => e y (List.mem_cons_of_mem _ hy)⟩
def sortE (l : List L) : Int := if 4096 < l.length then 2 else firstE l
theorem keyE_ok {s : L} (h : keyE s = 0) : ∃ p v, keyS s = some (p, v) ∧ checkS p v = 0 ∧ s.length ≤ 384 := by
  unfold keyE at h
  cases hk : keyS s with
  | none => rw [hk] at h; cases h
  | some q =>
    obtain ⟨p, v⟩ := q
    rw [hk] at h
    have h : (checkS p v : Int) = 0 := h
    have h0 : checkS p v = 0 := by omega
    refine ⟨p, v, rfl, h0, ?_⟩
    obtain ⟨h1, x, h2, _⟩ := check_ok h0
    obtain ⟨rfl, _, _⟩ := keyS_some hk
    have := (path_ne h1).2
    have := (ver_no h2).2.2.2.2.2.2
    simp only [List.length_append, List.length_cons]
    omega
abbrev InOrd (l : List L) : Prop := l.Pairwise (fun x y => keyF x y ≤ 0)
end Go.Proofs.YtnimaenhijlcmaaGreatDoor.Mb
end
section
namespace Go.Proofs.YtnimaenhijlcmaaGreatDoor.K
open Go.RowKit Go.Proofs.YtnimaenhijlcmaaGreatDoor.Q Go.Proofs.YtnimaenhijlcmaaGreatDoor.Mb Go.Proofs.YtnimaenhijlcmaaGreatDoorW.PrintWords
set_option linter.unusedVariables false
set_option linter.unusedSimpArgs false
theorem keyF_first (a b : L) : keyF a b = firstI [cmpB (aheadC 64 a) (aheadC 64 b), compareS (tlK a) (tlK b), cmpB (tlK a) (tlK b)] := by
  unfold keyF firstI
  split
  · rfl
  · unfold firstI
    split
    · rfl
    · unfold firstI firstI
      split
      · rfl
      · rename_i h
        exact Classical.not_not.1 h
set_option maxRecDepth 100000 in
set_option maxHeartbeats 8000000 in
theorem closure_c {w : World} {mx : Int} (hM : w.cell? ⟨0, 0, none⟩ = some (.int .i64 mx)) (a b : L) (ha : Bytes a) (hb : Bytes b) (la : a.length ≤ 1000) (lb : b.length ≤ 1000) :
    Calls Tryz.prog 34 #[.string (strOfNums a), .string (strOfNums b)] w fun e w' => e = .returned (.int .i64 (keyF a b)) ∧ Bel w.heap.size w w' := by
  have hN := keyF_first a b
  obtain ⟨a1, a2, a3, a4⟩ := cut_sub (s := a)
  obtain ⟨b1, b2, b3, b4⟩ := cut_sub (s := b)
  have c1 := fun (w1 : World) (h1 : w1.cell? ⟨0, 0, none⟩ = some (.int .i64 mx)) => cutb_cD (strOfNums a) 64 (by rw [← bl_length, blS ha]; omega) w1 mx h1
  have c2 := fun (w1 : World) (h1 : w1.cell? ⟨0, 0, none⟩ = some (.int .i64 mx)) => cutb_cD (strOfNums b) 64 (by rw [← bl_length, blS hb]; omega) w1 mx h1
  rw [show ((64 : UInt8).toNat : Int) = 64 from rfl, blS ha] at c1
  rw [show ((64 : UInt8).toNat : Int) = 64 from rfl, blS hb] at c2
  have c1 : ∀ (w1 : World) (h1 : w1.cell? ⟨0, 0, none⟩ = some (.int .i64 mx)), Calls Tryz.prog 35 #[.string (strOfNums a), .string ⟨#[64]⟩] w1 fun e w' => e = .returned (.tuple #[.string (strOfNums (aheadC 64 a)), .string (strOfNums (tlK a)), .bool (cutC 64 a).isSome]) ∧ Bel w1.heap.size w1 w' := c1
  have c2 : ∀ (w1 : World) (h1 : w1.cell? ⟨0, 0, none⟩ = some (.int .i64 mx)), Calls Tryz.prog 35 #[.string (strOfNums b), .string ⟨#[64]⟩] w1 fun e w' => e = .returned (.tuple #[.string (strOfNums (aheadC 64 b)), .string (strOfNums (tlK b)), .bool (cutC 64 b).isSome]) ∧ Bel w1.heap.size w1 w' := c2
  have o1 := fun w1 => orderS_c (strOfNums (aheadC 64 a)) (strOfNums (aheadC 64 b)) w1
  have o2 := fun w1 => orderS_c (strOfNums (tlK a)) (strOfNums (tlK b)) w1
  have o3 := fun (w1 : World) (h1 : w1.cell? ⟨0, 0, none⟩ = some (.int .i64 mx)) => CompareD_c h1 (strOfNums (tlK a)) (strOfNums (tlK b))
  rw [blS (fun y hy => ha y (a1 y hy)), blS (fun y hy => hb y (b1 y hy))] at o1
  rw [blS (fun y hy => ha y (a2 y hy)), blS (fun y hy => hb y (b2 y hy))] at o2 o3
  generalize aheadC 64 a = p at c1 o1 hN
  generalize tlK a = v at c1 o2 o3 hN
  generalize aheadC 64 b = q at c2 o1 hN
  generalize tlK b = u at c2 o2 o3 hN
  generalize (cutC 64 a).isSome = t1 at c1
  generalize (cutC 64 b).isSome = t2 at c2
  generalize cmpB p q = x at o1 hN
  generalize cmpB v u = z at o2 hN
  generalize compareS v u = y at o3 hN
  refine enter (args := [.string (strOfNums a), .string (strOfNums b)]) Tryz.func34 rfl Tryz.ntmps34 rfl ?_
  have H : Hd w w [] [] := HpS.nil w
  repeat' (first | (with_reducible first | refine p_tn ?_ | refine wp_seq ?_ | refine w_reg ?_ | refine l_nil ?_) | ((with_reducible refine g_on ?_); (first | ((with_reducible refine g_mv ?_); refine l_p txs rfl rfl ?_) | ((with_reducible refine g_as ?_); refine l_p txs rfl rfl ?_))))
  (with_reducible refine is_l ?_); refine l_callv rfl rfl (by kernel_rfl) (c1 _ (H.old hM)) (fun w_ K => ?_)
  have H := H.callD K
  repeat' (first | (with_reducible first | refine p_tn ?_ | refine wp_seq ?_ | refine w_reg ?_ | refine l_nil ?_) | ((with_reducible refine g_on ?_); (first | ((with_reducible refine g_mv ?_); refine l_p txs rfl rfl ?_) | ((with_reducible refine g_as ?_); refine l_p txs rfl rfl ?_) | ((with_reducible refine g_ex ?_); refine l_p txs rfl rfl ?_))))
  (with_reducible refine is_l ?_); refine l_callv rfl rfl (by kernel_rfl) (c2 _ (H.old hM)) (fun w_ K => ?_)
  have H := H.callD K
  repeat' (first | (with_reducible first | refine p_tn ?_ | refine wp_seq ?_ | refine w_reg ?_ | refine l_nil ?_) | ((with_reducible refine g_on ?_); (first | ((with_reducible refine g_mv ?_); refine l_p txs rfl rfl ?_) | ((with_reducible refine g_as ?_); refine l_p txs rfl rfl ?_) | ((with_reducible refine g_ex ?_); refine l_p txs rfl rfl ?_))))
  (with_reducible refine is_l ?_); refine l_callp rfl rfl (by kernel_rfl) (o1 _) ?_
  repeat' ((with_reducible refine g_on ?_); ((with_reducible refine g_mv ?_); refine l_p txs rfl rfl ?_))
  (with_reducible refine is_l ?_); refine l_callv rfl rfl (by kernel_rfl) (o3 _ (H.old hM)) (fun w_ K => ?_)
  have H := H.callD K
  repeat' ((with_reducible refine g_on ?_); ((with_reducible refine g_mv ?_); refine l_p txs rfl rfl ?_))
  (with_reducible refine is_l ?_); refine l_callp rfl rfl (by kernel_rfl) (o2 _) ?_
  skip
  (with_reducible refine is_l ?_); refine h_bsn (cs := [.int .i64 x, .int .i64 y, .int .i64 z]) (pv := [(0, .int .i64 x), (1, .int .i64 y), (2, .int .i64 z)]) H info_int3 Tryz.underlying98 (by decide) (by decide) rfl (by kernel_rfl) (fun g_ w_ H => ?_)
  skip
  (with_reducible refine is_l ?_); refine l_callv rfl rfl (by kernel_rfl) (first_c (l := [x, y, z]) (H.cellRd 0 rfl) (by show (3 : Nat) ≤ _; decide)) (fun w_ K => ?_)
  have H := H.callD K
  repeat' (first | (with_reducible first | refine p_tn ?_ | refine wp_ret ?_ | refine l_nil ?_) | ((with_reducible refine g_on ?_); ((with_reducible refine g_as ?_); refine l_p txs rfl rfl ?_)))
  refine end1 rfl rfl ?_
  exact ⟨by rw [hN], H.BD⟩
end Go.Proofs.YtnimaenhijlcmaaGreatDoor.K
end
section
namespace Go.Proofs
open Go.Shelf
def Tryz.sortL_ren : Go.Shelf.Ren := ⟨fun | 6 => 33 | 15 => 62 | 14 => 61 | 28 => 104 | 29 => 105 | 20 => 96 | 21 => 97 | 22 => 98 | 23 => 99 | 24 => 100 | 25 => 101 | 26 => 102 | 27 => 103 | 46 => 131 | 47 => 132 | 48 => 133 | 49 => 134 | 50 => 135 | 57 => 152 | n => n, fun | 22 => 25 | 24 => 9 | 25 => 68 | 3 => 3 | 39 => 97 | 0 => 0 | 53 => 123 | 55 => 125 | 4 => 4 | 46 => 116 | 45 => 115 | 50 => 120 | 5 => 5 | 9 => 9 | 66 => 130 | 70 => 134 | 76 => 151 | 77 => 152 | n => n, fun | n => n⟩
theorem Tryz.sortL : Go.Proofs.SlLaysF.n6 Tryz.prog Tryz.sortL_ren := {
  mixed := by kernel_rfl
  f6 := ⟨Tryz.f33.name, by decide, Tryz.func33.trans (congrArg some (by kernel_rfl))⟩
  f14 := ⟨Tryz.f61.name, by decide, Tryz.func61.trans (congrArg some (by kernel_rfl))⟩
  f15 := Tryz.func62.trans (congrArg some (by kernel_rfl))
  f20 := ⟨Tryz.f96.name, by decide, Tryz.func96.trans (congrArg some (by kernel_rfl))⟩
  f21 := ⟨Tryz.f97.name, by decide, Tryz.func97.trans (congrArg some (by kernel_rfl))⟩
  f22 := ⟨Tryz.f98.name, by decide, Tryz.func98.trans (congrArg some (by kernel_rfl))⟩
  f23 := ⟨Tryz.f99.name, by decide, Tryz.func99.trans (congrArg some (by kernel_rfl))⟩
  f24 := ⟨Tryz.f100.name, by decide, Tryz.func100.trans (congrArg some (by kernel_rfl))⟩
  f25 := ⟨Tryz.f101.name, by decide, Tryz.func101.trans (congrArg some (by kernel_rfl))⟩
  f26 := ⟨Tryz.f102.name, by decide, Tryz.func102.trans (congrArg some (by kernel_rfl))⟩
  f27 := ⟨Tryz.f103.name, by decide, Tryz.func103.trans (congrArg some (by kernel_rfl))⟩
  f28 := Tryz.func104.trans (congrArg some (by kernel_rfl))
  f29 := Tryz.func105.trans (congrArg some (by kernel_rfl))
  f46 := ⟨Tryz.f131.name, by decide, Tryz.func131.trans (congrArg some (by kernel_rfl))⟩
  f47 := Tryz.func132.trans (congrArg some (by kernel_rfl))
  f48 := Tryz.func133.trans (congrArg some (by kernel_rfl))
  f49 := ⟨Tryz.f134.name, by decide, Tryz.func134.trans (congrArg some (by kernel_rfl))⟩
  f50 := ⟨Tryz.f135.name, by decide, Tryz.func135.trans (congrArg some (by kernel_rfl))⟩
  f57 := ⟨Tryz.f152.name, by decide, Tryz.func152.trans (congrArg some (by kernel_rfl))⟩
  t0 := Tryz.underlying0
  a0 := Tryz.isAgg0
  z0 := Tryz.sizeOf0
  v0 := Tryz.zeroValue0
  t3 := Tryz.underlying3
  a3 := Tryz.isAgg3
  z3 := Tryz.sizeOf3
  v3 := Tryz.zeroValue3
  t4 := Tryz.underlying4
  a4 := Tryz.isAgg4
  z4 := Tryz.sizeOf4
  v4 := Tryz.zeroValue4
  t5 := Tryz.underlying5
  a5 := Tryz.isAgg5
  z5 := Tryz.sizeOf5
  v5 := Tryz.zeroValue5
  t9 := Tryz.underlying9
  a9 := Tryz.isAgg9
  z9 := Tryz.sizeOf9
  v9 := Tryz.zeroValue9
  t22 := Tryz.underlying25
  a22 := Tryz.isAgg25
  z22 := Tryz.sizeOf25
  v22 := Tryz.zeroValue25
  a24 := Tryz.isAgg9
  z24 := Tryz.sizeOf9
  t25 := Tryz.underlying68
  a25 := Tryz.isAgg68
  z25 := Tryz.sizeOf68
  v25 := Tryz.zeroValue68
  t39 := Tryz.underlying97
  a39 := Tryz.isAgg97
  z39 := Tryz.sizeOf97
  v39 := Tryz.zeroValue97
  t45 := Tryz.underlying115
  a45 := Tryz.isAgg115
  z45 := Tryz.sizeOf115
  v45 := Tryz.zeroValue115
  t46 := Tryz.underlying116
  a46 := Tryz.isAgg116
  z46 := Tryz.sizeOf116
  v46 := Tryz.zeroValue116
  t50 := Tryz.underlying120
  a50 := Tryz.isAgg120
  z50 := Tryz.sizeOf120
  v50 := Tryz.zeroValue120
  t53 := Tryz.underlying123
  a53 := Tryz.isAgg123
  z53 := Tryz.sizeOf123
  v53 := Tryz.zeroValue123
  t55 := Tryz.underlying125
  a55 := Tryz.isAgg125
  z55 := Tryz.sizeOf125
  v55 := Tryz.zeroValue125
  t66 := Tryz.underlying130
  a66 := Tryz.isAgg130
  z66 := Tryz.sizeOf130
  v66 := Tryz.zeroValue130
  t70 := Tryz.underlying134
  a70 := Tryz.isAgg134
  z70 := Tryz.sizeOf134
  v70 := Tryz.zeroValue134
  t76 := Tryz.underlying151
  a76 := Tryz.isAgg151
  z76 := Tryz.sizeOf151
  v76 := Tryz.zeroValue151
  t77 := Tryz.underlying152
  a77 := Tryz.isAgg152
  z77 := Tryz.sizeOf152
  v77 := Tryz.zeroValue152 }
end Go.Proofs
end
section
namespace Go.Proofs.YtnimaenhijlcmaaGreatDoor.K
open Go.RowKit Go.Proofs.YtnimaenhijlcmaaGreatDoor.Q Go.Proofs.YtnimaenhijlcmaaGreatDoor.Mb Go.Proofs.YtnimaenhijlcmaaGreatDoorW.PrintWords
open Go.Sort Go.Shelf
set_option linter.unusedVariables false
set_option linter.unusedSimpArgs false
abbrev KeyT : Type := { x : L // Bytes x ∧ x.length ≤ 1000 }
instance : Inhabited KeyT := ⟨⟨[], fun y hy => (by cases hy), by decide⟩⟩
def encK (k : KeyT) : Value := .string (strOfNums k.1)
def cfK (a b : KeyT) : Int := keyF a.1 b.1
theorem swoK : SWO (ltOf cfK) where
  irrefl x := by
    unfold ltOf cfK
    rw [ordK.refl]
    rfl
  trans x y z h1 h2 := by
    unfold ltOf cfK at *
    simp only [decide_eq_true_eq] at *
    have := ordK.trans x.1 y.1 z.1 (by omega) (by omega)
    omega
  ntrans x y z h1 h2 := by
    unfold ltOf cfK at *
    simp only [decide_eq_false_iff_not] at *
    have e1 := ordK.anti x.1 y.1
    have e2 := ordK.anti y.1 z.1
    have e3 := ordK.anti x.1 z.1
    have := ordK.trans z.1 y.1 x.1 (by omega) (by omega)
    omega
theorem bel_grow {S w' : World} (K : Bel S.heap.size S w') : ∃ q os', w' = grow (S.drewN q) os' := by
  obtain ⟨⟨h1, h2, h3, h4, h5⟩, h6⟩ := K
  refine ⟨w'.drawn - S.drawn, w'.heap.extract S.heap.size w'.heap.size, ?_⟩
  have hh : w'.heap = S.heap ++ w'.heap.extract S.heap.size w'.heap.size := by
    apply Array.ext_getElem?
    intro k
    rw [Array.getElem?_append]
    split
    · rename_i hk
      exact h5 k hk
    · rename_i hk
      rw [Array.getElem?_extract]
      by_cases hk2 : k < w'.heap.size
      · rw [if_pos (by omega)]
        congr 1
        omega
      · rw [if_neg (by omega), Array.getElem?_eq_none (by omega)]
  unfold grow World.drewN
  cases w'
  simp only at *
  subst h1 h2 h3
  simp only [World.mk.injEq, true_and, and_true]
  exact ⟨hh, by omega⟩
theorem cell_lt {w : World} {g k : Nat} {v : Value} (h : w.cell? ⟨g, k, none⟩ = some v) : g < w.heap.size := by
  unfold World.cell? at h
  simp only at h
  split at h
  · rename_i h1
    exact (Array.getElem?_eq_some_iff.1 h1).1
  · cases h
theorem cmp_lays {w : World} {mx : Int} (hM : w.cell? ⟨0, 0, none⟩ = some (.int .i64 mx)) {g n : Nat} (hg : 0 ≠ g) : CmpLays1 Tryz.prog 34 #[] encK cfK g 0 n w := by
  intro m os dk hs x y
  have hM' : (sortWorld encK w g 0 m dk os).cell? ⟨0, 0, none⟩ = some (.int .i64 mx) := by
    unfold sortWorld
    rw [cell?_grow _ _ _ (by rw [size_putRow]; exact cell_lt hM), cell?_putRow_other _ _ _ _ _ _ (.inl hg)]
    exact hM
  exact (closure_c hM' x.1 y.1 x.2.1 y.2.1 x.2.2 y.2.2).mono fun e w' h => ⟨h.1, bel_grow h.2⟩
theorem heap_put {w : World} {g m : Nat} {d : Array KeyT} {os : Array Obj} {cur : Array Value} {e : TypeId} {fr : Nat × Nat} (hg : w.heap[g]? = some (.cells cur e fr)) : (sortWorld encK w g 0 m d os).heap[g]? = some (.cells (putCells encK 0 d cur) e fr) := by
  have hlt : g < w.heap.size := (Array.getElem?_eq_some_iff.1 hg).1
  unfold sortWorld
  rw [heap_grow_old _ _ (by rw [size_putRow]; exact hlt)]
  unfold putRow mapBlock
  simp only [heap_ahead, Array.getElem?_modify, if_true, hg, Option.map_some, onCells]
theorem heap_put_other {w : World} {g k m : Nat} {d : Array KeyT} {os : Array Obj} (hk : k < w.heap.size) (hne : g ≠ k) : (sortWorld encK w g 0 m d os).heap[k]? = w.heap[k]? := by
  unfold sortWorld
  rw [heap_grow_old _ _ (by rw [size_putRow]; exact hk)]
  unfold putRow mapBlock
  simp only [heap_ahead, Array.getElem?_modify, if_neg hne]
theorem grown_put {w : World} {g m : Nat} {d : Array KeyT} {os : Array Obj} : w.grownBy (sortWorld encK w g 0 m d os) (some g) := by
  refine ⟨rfl, rfl, rfl, ?_, fun k hk hne => heap_put_other hk (fun e => hne (by rw [e]))⟩
  unfold sortWorld
  rw [size_grow, size_putRow]
  exact Nat.le_add_right _ _
theorem put_take {d : Array KeyT} {cur : Array Value} (h : d.size ≤ cur.size) : (putCells encK 0 d cur).size = cur.size ∧ (putCells encK 0 d cur).toList.take d.size = strC (d.toList.map (·.1)) := by
  have hs : (putCells encK 0 d cur).size = cur.size := by simp [putCells]
  refine ⟨hs, List.ext_getElem? fun i => ?_⟩
  rw [List.getElem?_take]
  split
  · rename_i hi
    have h1 : i < cur.size := by omega
    have e1 : (putCells encK 0 d cur).toList[i]? = some (encK d[i]!) := by
      rw [Array.getElem?_toList]
      unfold putCells
      rw [Array.getElem?_mapIdx, Array.getElem?_eq_getElem h1]
      simp only [Option.map_some, Option.some.injEq]
      rw [if_pos (by omega), Nat.sub_zero]
    rw [e1, getElem!_pos d i hi]
    simp [strC, encK, hi]
  · rename_i hi
    rw [List.getElem?_eq_none]
    simp [strC]
    omega
theorem strC_all (x : List L) : (strC x).all (·.oneCell') = true := by
  unfold strC
  rw [List.all_map, List.all_eq_true]
  intro y _
  rfl
theorem keysD : ∀ {N : List L}, (∀ x ∈ N, Bytes x ∧ x.length ≤ 1000) → ∃ D : List KeyT, D.map (·.1) = N
  | [], _ => ⟨[], rfl⟩
  | x :: r, h => by
    obtain ⟨D, hD⟩ := keysD (N := r) fun y hy => h y (List.mem_cons_of_mem _ hy)
    exact ⟨⟨x, h x (List.mem_cons_self ..)⟩ :: D, by rw [List.map_cons, hD]⟩
theorem sortFunc_c {w0 w : World} {l : List Ent} {r : List RowD} (H : Hp w0 w l r) {mx : Int} (hM : w0.cell? ⟨0, 0, none⟩ = some (.int .i64 mx)) (k : Nat) {ad : Addr} {c : Nat} {N : List L} (hk : r[k]? = some (rowT (.slice (some ad) N.length c) N)) (hN : ∀ x ∈ N, Bytes x ∧ x.length ≤ 1000) (hl : N.length ≤ 2000000) :
    Calls Tryz.prog 33 #[.slice (some ad) N.length c, .func (.func 34) #[] #[]] w fun e w' => e = .returned (.tuple #[]) ∧ ∃ N', N'.Perm N ∧ N'.Pairwise (fun x y => keyF x y ≤ 0) ∧ Hp w0 w' l (r.set k (rowT (.slice (some ad) N'.length c) N')) := by
  have hO : w.ownsRow w0.heap.size 9 1 (.slice (some ad) N.length c) N.length (strC N) := H.row k _ hk
  obtain ⟨hx, hO⟩ := hO
  rcases hO with ⟨h1, _⟩ | ⟨g, cap, cur, h1, h2, h3, h4, h5, h6, h7⟩
  · exact absurd h1 (by simp)
  simp only [Value.slice.injEq, Option.some.injEq] at h1
  obtain ⟨e1, _, e3⟩ := h1
  subst e1
  subst e3
  obtain ⟨D, hD⟩ := keysD hN
  have hDl : D.length = N.length := by rw [← hD, List.length_map]
  have hMw := H.old hM
  have hne : 0 ≠ g := fun e => by
    have := cell_lt hM
    rw [e] at this
    omega
  rw [Nat.mul_one] at h6 h7 hx
  have hH : Holds encK w g 0 D.toArray := by
    intro j hj
    have hj : j < N.length := by rw [← hDl]; simpa using hj
    constructor
    · have e1 : cur.toList[j]? = some (.string (strOfNums N[j])) := by
        have := congrArg (fun z => z[j]?) h7
        simp only [List.getElem?_take, hj, if_true, strC, List.getElem?_map, List.getElem?_eq_getElem hj, Option.map_some] at this
        exact this
      unfold World.cell?
      simp only [h3, Nat.zero_add]
      rw [← Array.getElem?_toList, e1]
      simp only [Option.isSome_none, Bool.false_eq_true, if_false, Option.some.injEq]
      have hDj : (D[j]'(by omega)).1 = N[j] := by simp only [← hD, List.getElem_map]
      rw [getElem!_pos D.toArray j (by simpa using (by omega : j < D.length))]
      show _ = Value.string (strOfNums (D[j]'(by omega)).1)
      rw [hDj]
    · unfold World.frozen?
      simp [h3]
  have hs := Any.slices_SortFunc Tryz.sortL encK (fun _ => rfl) cfK swoK 34 #[] g 0 c D.toArray w (enters_of Tryz.func34 (by kernel_rfl) rfl) (cmp_lays hMw hne) hH (Array.getElem?_eq_some_iff.1 h3).1 (by simp; omega)
  have hs : Calls Tryz.prog 33 #[.slice (some ⟨g, 0, none⟩) D.toArray.size c, .func (.func 34) #[] #[]] w _ := hs
  rw [show D.toArray.size = N.length from by simpa using hDl] at hs
  refine hs.mono fun e w' ⟨he, d', n, os, hp, hso, hw⟩ => ⟨he, d'.toList.map (·.1), ?_, ?_, ?_⟩
  all_goals have hsz : d'.size = N.length := by rw [hp.1]; simpa using hDl
  · have hp2 := hp.2.2
    rw [show N.length = D.toArray.size from by simpa using hDl.symm] at hp2
    rw [show d'.extract 0 D.toArray.size = d' from by rw [show D.toArray.size = d'.size from by rw [hsz]; simpa using hDl]; simp, show D.toArray.extract 0 D.toArray.size = D.toArray from by simp] at hp2
    have := hp2.map (·.1)
    rw [List.toList_toArray, hD] at this
    exact this
  · rw [List.pairwise_iff_getElem]
    intro i j hi hj hij
    simp only [List.length_map, Array.length_toList] at hi hj
    have h8 := hso i j (Nat.zero_le _) hij (by omega)
    rw [getElem!_pos d' i hi, getElem!_pos d' j hj] at h8
    unfold ltOf cfK at h8
    simp only [decide_eq_false_iff_not] at h8
    have h9 := ordK.anti d'[i].1 d'[j].1
    simp only [List.getElem_map, Array.getElem_toList]
    omega
  · subst hw
    obtain ⟨p1, p2⟩ := put_take (d := d') (cur := cur) (by omega)
    have hlm : (d'.toList.map (·.1)).length = N.length := by rw [List.length_map, Array.length_toList, hsz]
    have hown : (sortWorld encK w g 0 n d' os).ownsRow w0.heap.size 9 1 (.slice (some ⟨g, 0, none⟩) (d'.toList.map (·.1)).length c) (d'.toList.map (·.1)).length (strC (d'.toList.map (·.1))) := by
      rw [hlm]
      refine ⟨?_, .inr ⟨g, c, _, rfl, h2, heap_put h3, h4, h5, ?_, ?_⟩⟩
      · simp only [strC, List.length_map, Array.length_toList, hsz, Nat.mul_one]
      · rw [p1, h6, Nat.mul_one]
      · rw [Nat.mul_one, ← hsz]
        exact p2
    exact H.put k hk grown_put hown (.inl rfl)
end Go.Proofs.YtnimaenhijlcmaaGreatDoor.K
end
section
namespace Go.Proofs.YtnimaenhijlcmaaGreatDoor.K
open Go.RowKit Go.Proofs.YtnimaenhijlcmaaGreatDoor.Q Go.Proofs.YtnimaenhijlcmaaGreatDoor.Mb Go.Proofs.YtnimaenhijlcmaaGreatDoorW.PrintWords
set_option linter.unusedVariables false
set_option linter.unusedSimpArgs false
section
variable {P : Program} {n : Nat} {f : Fr} {w w0 : World} {ops : Array Oper} {Q : Exit → Act → World → Prop} {rest : List Oper} {tt : TypeId} {ps : String} {af : Array Edge} {gd : Option (Nat × Bool)} {s : Bool} {l : List Ent} {r : List RowD}
end
theorem parK_e (s : L) : (parK s).2.2 = keyE s := by
  unfold parK keyE
  cases keyS s with
  | none => rfl
  | some q =>
    obtain ⟨p, v⟩ := q
    simp only
    split
    · rename_i h; rw [h]; rfl
    · rfl
theorem sort_none (A : Option Addr) (c : Nat) (fv : Value) (w : World) : Calls Tryz.prog 33 #[.slice A 0 c, fv] w fun e w' => e = .returned (.tuple #[]) ∧ w' = w :=
  AnyF.slices_SortFunc_none (P := Tryz.prog) (ρ := Tryz.sortL_ren) { Tryz.sortL with } A c fv w
def SorR (w : World) (ks : List L) (e : Ending) (w' : World) : Prop :=
  (sortE ks ≠ 0 → e = .returned (.tuple #[.slice none 0 0, .int .i64 (sortE ks)]) ∧ Below w.heap.size w w') ∧
  (sortE ks = 0 → ∃ A c N, e = .returned (.tuple #[.slice A N.length c, .int .i64 0]) ∧ N.Perm ks ∧ InOrd N ∧ Hp w w' [] [rowT (.slice A N.length c) N])
theorem sor_no {w w' : World} {ks : List L} {x : Int} (h : sortE ks = x) (hx : x ≠ 0) (K : Below w.heap.size w w') : SorR w ks (.returned (.tuple #[.slice none 0 0, .int .i64 x])) w' :=
  ⟨fun _ => ⟨by rw [h], K⟩, fun e => absurd (h ▸ e) hx⟩
theorem sor_yes {w w' : World} {ks N : List L} {A : Option Addr} {c : Nat} (h : sortE ks = 0) (hp : N.Perm ks) (ho : InOrd N) (K : Hp w w' [] [rowT (.slice A N.length c) N]) : SorR w ks (.returned (.tuple #[.slice A N.length c, .int .i64 0])) w' :=
  ⟨fun e => absurd h e, fun _ => ⟨A, c, N, rfl, hp, ho, K⟩⟩
set_option maxRecDepth 100000 in
set_option maxHeartbeats 8000000 in
theorem Sort_c {w : World} (hL : Lay w) {A : Option Addr} {c : Nat} {ks : List L} (hR : Rd w A (strC ks)) (hB : ∀ x ∈ ks, Bytes x ∧ x.length ≤ 100000000) (hl : ks.length ≤ 2000000) :
    Calls Tryz.prog 11 #[.slice A ks.length c] w (SorR w ks) := by
  obtain ⟨mx, hM⟩ := hL.mxs
  refine enter (args := [.slice A ks.length c]) Tryz.func11 rfl Tryz.ntmps11 rfl ?_
  have H := Hp.nil w
  repeat' (first | (with_reducible first | refine p_tn ?_ | refine wp_seq ?_ | refine w_reg ?_ | refine l_nil ?_) | ((with_reducible refine g_on ?_); (first | ((with_reducible refine g_mv ?_); refine l_p txs rfl rfl ?_) | ((with_reducible refine g_as ?_); refine l_p txs rfl rfl ?_) | ((with_reducible refine g_cl ?_); refine l_p txs rfl rfl ?_))))
  (with_reducible refine is_l ?_); refine l_t txs rfl rfl (fun h1 => ?_) (fun h1 => ?_)
  · have hs : sortE ks = 2 := by unfold sortE; rw [if_pos (by omega)]
    repeat' (first | (with_reducible first | refine p_tn ?_ | refine p_tr ?_ | refine wp_seq ?_ | refine w_reg ?_) | (with_reducible (refine is_if ?_; (refine w_ift rfl ?_))) | (with_reducible first | refine wp_ret ?_ | refine l_nil ?_) | ((with_reducible refine g_on ?_); ((with_reducible refine g_as ?_); refine l_p txs rfl rfl ?_)))
    refine end2 rfl rfl rfl ?_
    exact sor_no hs (by decide) H.B
  have hse : sortE ks = firstE ks := by unfold sortE; rw [if_neg (by omega)]
  repeat' (first | (with_reducible first | refine p_tn ?_ | refine wp_seq ?_ | refine wp_block ?_ | refine w_reg ?_) | (with_reducible (refine is_if ?_; (refine w_iff rfl ?_))) | (with_reducible first | refine wp_skip ?_ | refine l_nil ?_) | ((with_reducible refine g_on ?_); (first | ((with_reducible refine g_mv ?_); refine l_p txs rfl rfl ?_) | ((with_reducible refine g_cl ?_); refine l_p txs rfl rfl ?_))))
  refine w_loop (σ := Nat) (S := fun s => [(0, .slice A ks.length c), (13, .slice A ks.length c), (14, .int .i64 (ks.length : Int)), (15, .int .i64 (s : Int))]) (J := fun s w' => Hp w w' [] [] ∧ s ≤ ks.length ∧ firstE ks = firstE (ks.drop s)) (μ := fun s => ks.length - s) 0 ⟨rfl, rfl, rfl, rfl, trivial⟩ ⟨H, Nat.zero_le _, rfl⟩ ?_
  clear H
  rintro i f w_ ⟨H, hi, hf⟩
  repeat' (with_reducible first | refine wp_seq ?_ | refine w_reg ?_)
  (with_reducible refine is_l ?_); refine l_t txs rfl rfl (fun hlt => ?_) (fun hge => ?_)
  · obtain ⟨x, hx⟩ : ∃ x, ks[i]? = some x := ⟨_, List.getElem?_eq_getElem (by omega)⟩
    obtain ⟨ad, rfl⟩ := rdT_some hR hx
    have hd : ks.drop i = x :: ks.drop (i + 1) := by
      rw [List.drop_eq_getElem_cons (by omega)]
      congr 1
      exact (List.getElem?_eq_some_iff.1 hx).2
    rw [hd, firstE] at hf
    obtain ⟨bx, lx⟩ := hB x (List.mem_of_getElem? hx)
    repeat' (first | (with_reducible first | refine p_tn ?_ | refine wp_seq ?_ | refine wp_block ?_ | refine w_reg ?_) | (with_reducible (refine is_if ?_; (refine w_ift rfl ?_))) | (with_reducible first | refine wp_skip ?_ | refine l_nil ?_) | ((with_reducible refine g_on ?_); ((with_reducible refine g_ia ?_); refine l_ia txs rfl rfl (by first | omega | assumption | decide) (by first | omega | assumption | decide) ?_)))
    (with_reducible refine is_l ?_); refine l_ld txs rfl rfl (by rw [Int.toNat_natCast]; exact H.old (rdT_cell hR hx)) ?_
    repeat' (first | (with_reducible first | refine p_tn ?_ | refine wp_seq ?_ | refine w_reg ?_ | refine l_nil ?_) | ((with_reducible refine g_on ?_); (first | ((with_reducible refine g_mv ?_); refine l_p txs rfl rfl ?_) | ((with_reducible refine g_as ?_); refine l_p txs rfl rfl ?_))))
    have hpk := ParseKey_c (hL.below H.B) (strOfNums x) (by rw [sizeS' bx]; exact lx)
    have he := parK_e (bl (strOfNums x))
    rw [blS bx] at hpk he
    generalize parK x = q at hpk he
    obtain ⟨q1, q2, q3⟩ := q
    have he : q3 = keyE x := he
    subst he
    (with_reducible refine is_l ?_); refine l_callv rfl rfl (by kernel_rfl) hpk (fun w_ K => ?_)
    have H := H.call K
    repeat' (first | (with_reducible first | refine p_tn ?_ | refine wp_seq ?_ | refine w_reg ?_ | refine l_nil ?_) | ((with_reducible refine g_on ?_); (first | ((with_reducible refine g_mv ?_); refine l_p txs rfl rfl ?_) | ((with_reducible refine g_as ?_); refine l_p txs rfl rfl ?_) | ((with_reducible refine g_ex ?_); refine l_p txs rfl rfl ?_))))
    (with_reducible refine is_l ?_); refine l_t txs rfl rfl (fun h0 => ?_) (fun h0 => ?_)
    · rw [if_pos h0, ← hse] at hf
      repeat' (first | (with_reducible first | refine p_tn ?_ | refine p_tr ?_ | refine p_br ?_ | refine wp_seq ?_ | refine w_reg ?_) | (with_reducible (refine is_if ?_; (refine w_ift rfl ?_))) | (with_reducible first | refine wp_ret ?_ | refine l_nil ?_) | ((with_reducible refine g_on ?_); (first | ((with_reducible refine g_mv ?_); refine l_p txs rfl rfl ?_) | ((with_reducible refine g_as ?_); refine l_p txs rfl rfl ?_))))
      refine end2 rfl rfl rfl ?_
      exact sor_no hf h0 H.B
    · rw [if_neg h0] at hf
      repeat' (first | (with_reducible first | refine p_tn ?_ | refine p_bn ?_ | refine w_reg ?_) | (with_reducible (refine is_if ?_; (refine w_iff rfl ?_))) | (with_reducible first | refine wp_skip ?_ | refine l_nil ?_) | ((with_reducible refine g_on ?_); (first | ((with_reducible refine g_mv ?_); refine l_p txs rfl rfl ?_) | ((with_reducible refine g_bi ?_); (refine l_a txs rfl rfl (by first | exact in_i64 (by omega) (by omega) | exact in_u8 (by omega) (by omega) | exact in_u64 (by omega) (by omega) | exact in_i32 (by omega) (by omega)) ?_)))))
      exact ⟨i + 1, _, rfl, ⟨rfl, rfl, rfl, rfl, trivial⟩, ⟨H, by omega, hf⟩, by omega⟩
  · rw [List.drop_eq_nil_of_le (by omega), ← hse] at hf
    have hs : sortE ks = 0 := hf
    have hk0 : firstE ks = 0 := hse ▸ hs
    have hN : ∀ x ∈ ks, Bytes x ∧ x.length ≤ 1000 := fun x hx => ⟨(hB x hx).1, by have := (keyE_ok (firstE_zero.1 hk0 x hx)); obtain ⟨p, v, _, _, h⟩ := this; omega⟩
    have H := H.nilRow 9 1
    repeat' (first | (with_reducible first | refine p_tn ?_ | refine p_tx ?_ | refine x_hit ?_ | refine wp_seq ?_ | refine w_reg ?_) | (with_reducible (refine is_if ?_; (refine w_iff rfl ?_))) | (with_reducible first | refine wp_exit ?_ | refine l_nil ?_) | ((with_reducible refine g_on ?_); ((with_reducible refine g_mv ?_); refine l_p txs rfl rfl ?_)))
    (with_reducible refine is_l ?_); refine h_app H 0 rfl info_str3 Tryz.underlying25 rfl rfl rfl rfl (hR.below H.B) (by simp [strC]) (strC_all _) (by show (0 + ks.length) * 16 ≤ _; omega) (fun v w_ hv H => ?_)
    obtain ⟨A', c', hv⟩ := hv
    have hv : v = .slice A' ks.length c' := by rw [hv]; show Value.slice A' (0 + ks.length) c' = _; rw [Nat.zero_add]
    subst hv
    have H : Hp w w_ [] [rowT (.slice A' ks.length c') ks] := by
      have h : Hp w w_ [] [⟨.slice A' ks.length c', 9, 1, 0 + ks.length, [] ++ strC ks⟩] := H
      rw [Nat.zero_add] at h
      exact h
    repeat' (first | (with_reducible first | refine p_tn ?_ | refine wp_seq ?_ | refine w_reg ?_ | refine l_nil ?_) | ((with_reducible refine g_on ?_); (first | ((with_reducible refine g_mv ?_); refine l_p txs rfl rfl ?_) | ((with_reducible refine g_as ?_); refine l_p txs rfl rfl ?_))))
    cases A' with
    | none =>
      obtain ⟨A1, c1, e1, _, _, hz⟩ := H.rd 0 rfl
      simp only [Value.slice.injEq] at e1
      obtain ⟨e2, _, e3⟩ := e1
      obtain ⟨h5, h6⟩ := hz e2.symm
      have hks : ks = [] := List.eq_nil_of_length_eq_zero h6
      subst hks
      (with_reducible refine is_l ?_); refine l_callp rfl rfl (by kernel_rfl) (sort_none none c' _ _) ?_
      repeat' (first | (with_reducible first | refine p_tn ?_ | refine wp_seq ?_ | refine w_reg ?_ | refine wp_ret ?_ | refine l_nil ?_) | ((with_reducible refine g_on ?_); (first | ((with_reducible refine g_mv ?_); refine l_p txs rfl rfl ?_) | ((with_reducible refine g_as ?_); refine l_p txs rfl rfl ?_))))
      refine end2 rfl rfl rfl ?_
      exact sor_yes hs (List.Perm.refl _) List.Pairwise.nil H
    | some ad =>
      (with_reducible refine is_l ?_); refine l_call rfl rfl (by kernel_rfl) (sortFunc_c H hM 0 rfl hN hl) (fun e w_ hR => ?_)
      obtain ⟨rfl, N, hp, ho, H⟩ := hR
      refine ⟨_, rfl, ?_⟩
      have hlN : N.length = ks.length := hp.length_eq
      rw [← hlN]
      repeat' (first | (with_reducible first | refine p_tn ?_ | refine wp_seq ?_ | refine w_reg ?_ | refine wp_ret ?_ | refine l_nil ?_) | ((with_reducible refine g_on ?_); (first | ((with_reducible refine g_mv ?_); refine l_p txs rfl rfl ?_) | ((with_reducible refine g_as ?_); refine l_p txs rfl rfl ?_))))
      refine end2 rfl rfl rfl ?_
      exact sor_yes hs hp ho H
end Go.Proofs.YtnimaenhijlcmaaGreatDoor.K
end
section
namespace Go.Proofs.YtnimaenhijlcmaaGreatDoor.K
open Go.RowKit Go.Proofs.YtnimaenhijlcmaaGreatDoor.Q Go.Proofs.YtnimaenhijlcmaaGreatDoor.Mb Go.Proofs.YtnimaenhijlcmaaGreatDoorW.PrintWords
set_option linter.unusedVariables false
set_option linter.unusedSimpArgs false
theorem drop_of {α : Type} {l : List α} {i : Nat} {x : α} (h : l[i]? = some x) : l.drop i = x :: l.drop (i + 1) := by
  rw [List.drop_eq_getElem_cons (List.getElem?_eq_some_iff.1 h).1, (List.getElem?_eq_some_iff.1 h).2]
theorem take_of {α : Type} {l : List α} {i : Nat} {x : α} (h : l[i]? = some x) : l.take (i + 1) = l.take i ++ [x] := by
  rw [List.take_succ_eq_append_getElem (List.getElem?_eq_some_iff.1 h).1, (List.getElem?_eq_some_iff.1 h).2]
theorem count_of {l : List L} {i : Nat} {x y : L} (h : l[i]? = some y) : (l.take (i + 1)).count x = (l.take i).count x + if y = x then 1 else 0 := by
  rw [take_of h, List.count_append, List.count_singleton]
  simp only [beq_iff_eq]
set_option maxHeartbeats 4000000 in
theorem count_c {w : World} {A : Option Addr} {c : Nat} {N : List L} {x : L} (h : Rd w A (strC N)) (hN : ∀ y ∈ N, Bytes y) (hx : Bytes x) (hl : N.length ≤ 2000000) :
    Calls Tryz.prog 16 #[.slice A N.length c, .string (strOfNums x)] w fun e w' => e = .returned (.int .i64 (N.count x : Int)) ∧ Below w.heap.size w w' := by
  refine enter (args := [.slice A N.length c, .string (strOfNums x)]) Tryz.func16 rfl Tryz.ntmps16 rfl ?_
  have H := Hp.nil w
  repeat' (first | (with_reducible first | refine p_tn ?_ | refine wp_seq ?_ | refine wp_block ?_ | refine w_reg ?_ | refine l_nil ?_) | ((with_reducible refine g_on ?_); ((with_reducible refine g_as ?_); refine l_p txs rfl rfl ?_)))
  refine w_loop (σ := Nat × Nat) (S := fun s => [(0, .slice A N.length c), (1, .string (strOfNums x)), (5, .int .i64 (s.2 : Int)), (6, .int .i64 (s.1 : Int))]) (J := fun s w' => w' = w ∧ s.1 ≤ N.length ∧ s.2 = (N.take s.1).count x) (μ := fun s => N.length - s.1) (0, 0) ⟨rfl, rfl, rfl, rfl, trivial⟩ ⟨rfl, Nat.zero_le _, rfl⟩ ?_
  rintro ⟨i, m⟩ f w_ ⟨rfl, hi, hm⟩
  simp only at hi hm ⊢
  have hmi : m ≤ i := by
    rw [hm]
    refine Nat.le_trans List.count_le_length ?_
    rw [List.length_take]
    omega
  repeat' (first | (with_reducible first | refine wp_seq ?_ | refine w_reg ?_) | ((with_reducible refine g_on ?_); (first | ((with_reducible refine g_mv ?_); refine l_p txs rfl rfl ?_) | ((with_reducible refine g_cl ?_); refine l_p txs rfl rfl ?_))))
  (with_reducible refine is_l ?_); refine l_t txs rfl rfl (fun hlt => ?_) (fun hge => ?_)
  · obtain ⟨y, hy⟩ : ∃ y, N[i]? = some y := ⟨_, List.getElem?_eq_getElem (by omega)⟩
    obtain ⟨ad, rfl⟩ := rdT_some h hy
    have hby := hN y (List.mem_of_getElem? hy)
    have hct := count_of (x := x) hy
    repeat' (first | (with_reducible first | refine p_tn ?_ | refine wp_seq ?_ | refine wp_block ?_ | refine w_reg ?_) | (with_reducible (refine is_if ?_; (refine w_ift rfl ?_))) | (with_reducible first | refine wp_skip ?_ | refine l_nil ?_) | ((with_reducible refine g_on ?_); (first | ((with_reducible refine g_mv ?_); refine l_p txs rfl rfl ?_) | ((with_reducible refine g_ia ?_); refine l_ia txs rfl rfl (by first | omega | assumption | decide) (by first | omega | assumption | decide) ?_))))
    (with_reducible refine is_l ?_); refine l_ld txs rfl rfl (by rw [Int.toNat_natCast]; exact rdT_cell h hy) ?_
    repeat' ((with_reducible refine g_on ?_); ((with_reducible refine g_mv ?_); refine l_p txs rfl rfl ?_))
    (with_reducible refine is_l ?_); refine l_t txs rfl rfl (fun he => ?_) (fun he => ?_)
    · have he : y = x := by
        have h0 : bl (strOfNums y) = bl (strOfNums x) := he
        rwa [blS hby, blS hx] at h0
      rw [if_pos he, ← hm] at hct
      repeat' (first | (with_reducible first | refine p_tn ?_ | refine p_bn ?_ | refine w_reg ?_) | (with_reducible (refine is_if ?_; (refine w_ift rfl ?_))) | (with_reducible refine l_nil ?_) | ((with_reducible refine g_on ?_); (first | ((with_reducible refine g_mv ?_); refine l_p txs rfl rfl ?_) | ((with_reducible refine g_as ?_); refine l_p txs rfl rfl ?_) | ((with_reducible refine g_bi ?_); (refine l_a txs rfl rfl (by first | exact in_i64 (by omega) (by omega) | exact in_u8 (by omega) (by omega) | exact in_u64 (by omega) (by omega) | exact in_i32 (by omega) (by omega)) ?_)))))
      exact ⟨(i + 1, m + 1), _, rfl, ⟨rfl, rfl, rfl, rfl, trivial⟩, ⟨rfl, by show i + 1 ≤ _; omega, hct.symm⟩, by show _ - (i + 1) < _ - i; omega⟩
    · have he : ¬ y = x := fun e => he (by rw [e])
      rw [if_neg he, ← hm] at hct
      repeat' (first | (with_reducible first | refine p_tn ?_ | refine p_bn ?_ | refine w_reg ?_) | (with_reducible (refine is_if ?_; (refine w_iff rfl ?_))) | (with_reducible first | refine wp_skip ?_ | refine l_nil ?_) | ((with_reducible refine g_on ?_); (first | ((with_reducible refine g_mv ?_); refine l_p txs rfl rfl ?_) | ((with_reducible refine g_as ?_); refine l_p txs rfl rfl ?_) | ((with_reducible refine g_bi ?_); (refine l_a txs rfl rfl (by first | exact in_i64 (by omega) (by omega) | exact in_u8 (by omega) (by omega) | exact in_u64 (by omega) (by omega) | exact in_i32 (by omega) (by omega)) ?_)))))
      exact ⟨(i + 1, m), _, rfl, ⟨rfl, rfl, rfl, rfl, trivial⟩, ⟨rfl, by show i + 1 ≤ _; omega, hct.symm⟩, by show _ - (i + 1) < _ - i; omega⟩
  · rw [List.take_of_length_le (by omega)] at hm
    repeat' (first | (with_reducible first | refine p_tn ?_ | refine p_tx ?_ | refine x_hit ?_ | refine wp_seq ?_ | refine w_reg ?_) | (with_reducible (refine is_if ?_; (refine w_iff rfl ?_))) | (with_reducible first | refine wp_exit ?_ | refine wp_ret ?_ | refine l_nil ?_) | ((with_reducible refine g_on ?_); (first | ((with_reducible refine g_mv ?_); refine l_p txs rfl rfl ?_) | ((with_reducible refine g_as ?_); refine l_p txs rfl rfl ?_))))
    refine end1 rfl rfl ?_
    exact ⟨by rw [hm], Below.refl _ _⟩
theorem parK_ok {s p v : L} (h : keyS s = some (p, v)) (h0 : checkS p v = 0) : parK s = (strOfNums p, strOfNums v, 0) := by
  unfold parK
  rw [h]
  simp only
  rw [if_pos h0]
set_option maxHeartbeats 4000000 in
theorem after_c {w : World} (hL : Lay w) {a b : L} (ba : Bytes a) (bb : Bytes b) (ea : keyE a = 0) (eb : keyE b = 0) :
    Calls Tryz.prog 17 #[.string (strOfNums a), .string (strOfNums b)] w fun e w' => e = .returned (.bool (decide (keyF a b ≤ 0))) ∧ Below w.heap.size w w' := by
  obtain ⟨p, v, ka, ca, la⟩ := keyE_ok ea
  obtain ⟨q, u, kb, cb, lb⟩ := keyE_ok eb
  obtain ⟨p1, v1⟩ := key_parts ka
  obtain ⟨q1, u1⟩ := key_parts kb
  obtain ⟨s1, s2, s3, s4⟩ := cut_sub (s := a)
  obtain ⟨t1, t2, t3, t4⟩ := cut_sub (s := b)
  rw [p1] at s1
  rw [v1] at s2
  rw [q1] at t1
  rw [u1] at t2
  have bp : Bytes p := fun y hy => ba y (s1 y hy)
  have bv : Bytes v := fun y hy => ba y (s2 y hy)
  have bq : Bytes q := fun y hy => bb y (t1 y hy)
  have bu : Bytes u := fun y hy => bb y (t2 y hy)
  have hkey : keyF a b = if cmpB p q ≠ 0 then cmpB p q else if compareS v u ≠ 0 then compareS v u else cmpB v u := by unfold keyF; rw [p1, q1, v1, u1]
  have hp1 := fun (w1 : World) (h : Lay w1) => ParseKey_c h (strOfNums a) (by rw [sizeS' ba]; omega)
  have hp2 := fun (w1 : World) (h : Lay w1) => ParseKey_c h (strOfNums b) (by rw [sizeS' bb]; omega)
  rw [blS ba, parK_ok ka ca] at hp1
  rw [blS bb, parK_ok kb cb] at hp2
  have hp1 : ∀ (w1 : World) (h : Lay w1), Calls Tryz.prog 15 #[.string (strOfNums a)] w1 fun e w' => e = .returned (.tuple #[.string (strOfNums p), .string (strOfNums v), .int .i64 0]) ∧ Below w1.heap.size w1 w' := hp1
  have hp2 : ∀ (w1 : World) (h : Lay w1), Calls Tryz.prog 15 #[.string (strOfNums b)] w1 fun e w' => e = .returned (.tuple #[.string (strOfNums q), .string (strOfNums u), .int .i64 0]) ∧ Below w1.heap.size w1 w' := hp2
  obtain ⟨i1, i2, i3⟩ := less_bl (strOfNums p) (strOfNums q)
  obtain ⟨j1, j2, j3⟩ := less_bl (strOfNums v) (strOfNums u)
  have hcm := fun (w1 : World) (h : Lay w1) => CompareD_c h.mxs.choose_spec (strOfNums v) (strOfNums u)
  rw [blS bv, blS bu] at hcm j1 j2 j3
  rw [blS bp, blS bq] at i1 i2 i3
  refine enter (args := [.string (strOfNums a), .string (strOfNums b)]) Tryz.func17 rfl Tryz.ntmps17 rfl ?_
  have H := Hp.nil w
  repeat' (first | (with_reducible first | refine p_tn ?_ | refine wp_seq ?_ | refine w_reg ?_ | refine l_nil ?_) | ((with_reducible refine g_on ?_); (first | ((with_reducible refine g_mv ?_); refine l_p txs rfl rfl ?_) | ((with_reducible refine g_as ?_); refine l_p txs rfl rfl ?_))))
  (with_reducible refine is_l ?_); refine l_callv rfl rfl (by kernel_rfl) (hp1 _ (hL.below H.B)) (fun w_ K => ?_)
  have H := H.call K
  repeat' (first | (with_reducible first | refine p_tn ?_ | refine wp_seq ?_ | refine w_reg ?_ | refine l_nil ?_) | ((with_reducible refine g_on ?_); (first | ((with_reducible refine g_mv ?_); refine l_p txs rfl rfl ?_) | ((with_reducible refine g_as ?_); refine l_p txs rfl rfl ?_) | ((with_reducible refine g_ex ?_); refine l_p txs rfl rfl ?_))))
  (with_reducible refine is_l ?_); refine l_callv rfl rfl (by kernel_rfl) (hp2 _ (hL.below H.B)) (fun w_ K => ?_)
  have H := H.call K
  repeat' (first | (with_reducible first | refine p_tn ?_ | refine wp_seq ?_ | refine w_reg ?_ | refine l_nil ?_) | ((with_reducible refine g_on ?_); (first | ((with_reducible refine g_mv ?_); refine l_p txs rfl rfl ?_) | ((with_reducible refine g_as ?_); refine l_p txs rfl rfl ?_) | ((with_reducible refine g_ex ?_); refine l_p txs rfl rfl ?_))))
  (with_reducible refine is_l ?_); refine l_t txs rfl rfl (fun h => absurd rfl h) (fun _ => ?_)
  repeat' (first | ((with_reducible refine g_on ?_); ((with_reducible refine g_mv ?_); refine l_p txs rfl rfl ?_)) | ((with_reducible refine g_if ?_); ((with_reducible refine g_mv ?_); refine l_p txs rfl rfl ?_)))
  (with_reducible refine is_l ?_); refine l_t txs rfl rfl (fun h => absurd rfl h) (fun _ => ?_)
  repeat' (first | (with_reducible first | refine p_tn ?_ | refine wp_seq ?_ | refine w_reg ?_) | (with_reducible (refine is_if ?_; (refine w_iff rfl ?_))) | (with_reducible first | refine wp_skip ?_ | refine l_nil ?_) | ((with_reducible refine g_on ?_); (first | ((with_reducible refine g_mv ?_); refine l_p txs rfl rfl ?_) | ((with_reducible refine g_pk ?_); refine l_p txs rfl rfl ?_))))
  (with_reducible refine is_l ?_); refine l_t txs rfl rfl (fun h1 => ?_) (fun h1 => ?_)
  · have h1 : ¬ p = q := fun e => h1 (by rw [e])
    have hc0 : cmpB p q ≠ 0 := fun e => h1 (cmpB_eq e)
    rw [if_pos hc0] at hkey
    repeat' (first | (with_reducible first | refine p_tn ?_ | refine wp_seq ?_ | refine w_reg ?_) | (with_reducible (refine is_if ?_; (refine w_ift rfl ?_))) | (with_reducible refine l_nil ?_) | ((with_reducible refine g_on ?_); ((with_reducible refine g_mv ?_); refine l_p txs rfl rfl ?_)))
    (with_reducible refine is_l ?_); refine l_t txs rfl rfl (fun h2 => ?_) (fun h2 => ?_)
    · have hc := i1.1 h2
      repeat' (first | (with_reducible first | refine p_tn ?_ | refine p_tr ?_ | refine wp_ret ?_ | refine l_nil ?_) | ((with_reducible refine g_on ?_); ((with_reducible refine g_as ?_); refine l_p txs rfl rfl ?_)))
      refine end1 rfl rfl ?_
      exact ⟨by rw [hkey, hc]; rfl, H.B⟩
    · have hc : cmpB p q = 1 := by
        rcases i3 with h | h | h
        · exact absurd (i1.2 h) h2
        · exact absurd h hc0
        · exact h
      repeat' (first | (with_reducible first | refine p_tn ?_ | refine p_tr ?_ | refine wp_ret ?_ | refine l_nil ?_) | ((with_reducible refine g_on ?_); ((with_reducible refine g_as ?_); refine l_p txs rfl rfl ?_)))
      refine end1 rfl rfl ?_
      exact ⟨by rw [hkey, hc]; rfl, H.B⟩
  have h1 : p = q := by
    have h0 : bl (strOfNums p) = bl (strOfNums q) := Classical.not_not.1 h1
    rwa [blS bp, blS bq] at h0
  have hc0 : ¬ cmpB p q ≠ 0 := fun h => h (by rw [h1]; exact ordB.refl q)
  rw [if_neg hc0] at hkey
  have hrg := ordS.range v u
  generalize compareS v u = c at hcm hkey hrg
  repeat' (first | (with_reducible first | refine p_tn ?_ | refine wp_seq ?_ | refine w_reg ?_) | (with_reducible (refine is_if ?_; (refine w_iff rfl ?_))) | (with_reducible first | refine wp_skip ?_ | refine l_nil ?_) | ((with_reducible refine g_on ?_); ((with_reducible refine g_mv ?_); refine l_p txs rfl rfl ?_)))
  (with_reducible refine is_l ?_); refine l_callv rfl rfl (by kernel_rfl) (hcm _ (hL.below H.B)) (fun w_ K => ?_)
  have H := H.call K.toBelow
  repeat' (first | (with_reducible first | refine p_tn ?_ | refine wp_seq ?_ | refine w_reg ?_ | refine l_nil ?_) | ((with_reducible refine g_on ?_); (first | ((with_reducible refine g_mv ?_); refine l_p txs rfl rfl ?_) | ((with_reducible refine g_as ?_); refine l_p txs rfl rfl ?_))))
  (with_reducible refine is_l ?_); refine l_t txs rfl rfl (fun h2 => ?_) (fun h2 => ?_)
  · rw [if_pos (by omega)] at hkey
    repeat' (first | (with_reducible first | refine p_tn ?_ | refine wp_ret ?_ | refine l_nil ?_) | ((with_reducible refine g_on ?_); (first | ((with_reducible refine g_mv ?_); refine l_p txs rfl rfl ?_) | ((with_reducible refine g_as ?_); refine l_p txs rfl rfl ?_) | ((with_reducible refine g_pk ?_); refine l_p txs rfl rfl ?_))) | ((with_reducible refine g_if ?_); (refine l_off rfl ?_)))
    refine end1 rfl rfl ?_
    exact ⟨by rw [hkey, decide_eq_true (by omega)], H.B⟩
  repeat' (first | ((with_reducible refine g_on ?_); ((with_reducible refine g_mv ?_); refine l_p txs rfl rfl ?_)) | ((with_reducible refine g_if ?_); ((with_reducible refine g_mv ?_); refine l_p txs rfl rfl ?_)))
  (with_reducible refine is_l ?_); refine l_t txs rfl rfl (fun h3 => ?_) (fun h3 => ?_)
  · have h3 : c = 0 := h3
    rw [if_neg (by omega)] at hkey
    repeat' ((with_reducible refine g_if ?_); ((with_reducible refine g_mv ?_); refine l_p txs rfl rfl ?_))
    (with_reducible refine is_l ?_); refine l_t txs rfl rfl (fun h4 => ?_) (fun h4 => ?_)
    · have hc : cmpB v u ≤ 0 := by
        rcases h4 with h | h
        · rw [j1.1 h]; decide
        · rw [blS bv, blS bu] at h
          rw [h, ordB.refl]; decide
      repeat' (first | (with_reducible first | refine p_tn ?_ | refine wp_ret ?_ | refine l_nil ?_) | ((with_reducible refine g_on ?_); (first | ((with_reducible refine g_as ?_); refine l_p txs rfl rfl ?_) | ((with_reducible refine g_pk ?_); refine l_p txs rfl rfl ?_))) | ((with_reducible refine g_if ?_); ((with_reducible refine g_pk ?_); refine l_p txs rfl rfl ?_)))
      refine end1 rfl rfl ?_
      exact ⟨by rw [hkey, decide_eq_true hc], H.B⟩
    · have hc : ¬ cmpB v u ≤ 0 := by
        intro hle
        rcases j3 with h | h | h
        · exact h4 (.inl (j1.2 h))
        · exact h4 (.inr (by rw [j2.1 h]))
        · omega
      repeat' (first | (with_reducible first | refine p_tn ?_ | refine wp_ret ?_ | refine l_nil ?_) | ((with_reducible refine g_on ?_); (first | ((with_reducible refine g_as ?_); refine l_p txs rfl rfl ?_) | ((with_reducible refine g_pk ?_); refine l_p txs rfl rfl ?_))) | ((with_reducible refine g_if ?_); ((with_reducible refine g_pk ?_); refine l_p txs rfl rfl ?_)))
      refine end1 rfl rfl ?_
      exact ⟨by rw [hkey, decide_eq_false hc], H.B⟩
  · have h3 : ¬ c = 0 := h3
    rw [if_pos h3] at hkey
    repeat' (first | (with_reducible first | refine p_tn ?_ | refine wp_ret ?_ | refine l_nil ?_) | ((with_reducible refine g_on ?_); (first | ((with_reducible refine g_as ?_); refine l_p txs rfl rfl ?_) | ((with_reducible refine g_pk ?_); refine l_p txs rfl rfl ?_))) | ((with_reducible refine g_if ?_); (first | (refine l_off rfl ?_) | ((with_reducible refine g_mv ?_); refine l_p txs rfl rfl ?_) | ((with_reducible refine g_pk ?_); refine l_p txs rfl rfl ?_))))
    refine end1 rfl rfl ?_
    exact ⟨by rw [hkey, decide_eq_false (by omega)], H.B⟩
end Go.Proofs.YtnimaenhijlcmaaGreatDoor.K
end
section
namespace Go.Proofs.YtnimaenhijlcmaaGreatDoor.K
open Go.RowKit Go.Proofs.YtnimaenhijlcmaaGreatDoor.Q Go.Proofs.YtnimaenhijlcmaaGreatDoor.Mb Go.Proofs.YtnimaenhijlcmaaGreatDoorW.PrintWords
set_option linter.unusedVariables false
set_option linter.unusedSimpArgs false
set_option maxRecDepth 100000 in
set_option maxHeartbeats 16000000 in
theorem sorts_c {w : World} (hL : Lay w) {A : Option Addr} {c : Nat} {ks : List L} (hR : Rd w A (strC ks)) (hB : ∀ x ∈ ks, Bytes x ∧ x.length ≤ 100000000) (hl : ks.length ≤ 2000000) :
    Calls Tryz.prog 5 #[.slice A ks.length c] w fun e w' => e = .returned (.bool true) ∧ Below w.heap.size w w' := by
  refine enter (args := [.slice A ks.length c]) Tryz.func5 rfl Tryz.ntmps5 rfl ?_
  have H := (Hp.nil w).nilRow 9 1
  repeat' (first | (with_reducible first | refine p_tn ?_ | refine wp_seq ?_ | refine w_reg ?_ | refine l_nil ?_) | ((with_reducible refine g_on ?_); (first | ((with_reducible refine g_mv ?_); refine l_p txs rfl rfl ?_) | ((with_reducible refine g_as ?_); refine l_p txs rfl rfl ?_))))
  (with_reducible refine is_l ?_); refine h_app H 0 rfl info_str3 Tryz.underlying25 rfl rfl rfl rfl (hR.below H.B) (by simp [strC]) (strC_all _) (by show (0 + ks.length) * 16 ≤ _; omega) (fun v w_ hv H => ?_)
  obtain ⟨A', c', hv⟩ := hv
  have hv : v = .slice A' ks.length c' := by rw [hv]; show Value.slice A' (0 + ks.length) c' = _; rw [Nat.zero_add]
  subst hv
  have H : Hp w w_ [] [rowT (.slice A' ks.length c') ks] := by
    have h : Hp w w_ [] [⟨.slice A' ks.length c', 9, 1, 0 + ks.length, [] ++ strC ks⟩] := H
    rw [Nat.zero_add] at h
    exact h
  repeat' (first | (with_reducible first | refine p_tn ?_ | refine wp_seq ?_ | refine w_reg ?_ | refine l_nil ?_) | ((with_reducible refine g_on ?_); (first | ((with_reducible refine g_mv ?_); refine l_p txs rfl rfl ?_) | ((with_reducible refine g_as ?_); refine l_p txs rfl rfl ?_))))
  (with_reducible refine is_l ?_); refine l_call rfl rfl (by kernel_rfl) (Sort_c (hL.below H.B) (rowT_at H 0 rfl) hB hl) (fun e w_ hR2 => ?_)
  obtain ⟨hno, hyes⟩ := hR2
  by_cases hs : sortE ks = 0
  · obtain ⟨A2, c2, N, rfl, hp, ho, K⟩ := hyes hs
    refine ⟨_, rfl, ?_⟩
    have H := (H.join K).pick [] [0] (by decide) (by decide) rfl rfl
    have hlN : N.length = ks.length := hp.length_eq
    have h4 : ks.length ≤ 4096 := by
      rcases Nat.lt_or_ge 4096 ks.length with h | h
      · unfold sortE at hs; rw [if_pos h] at hs; exact absurd hs (by decide)
      · exact h
    have hk0 : ∀ x ∈ ks, keyE x = 0 := by
      unfold sortE at hs
      rw [if_neg (by omega)] at hs
      exact firstE_zero.1 hs
    repeat' (first | (with_reducible first | refine p_tn ?_ | refine wp_seq ?_ | refine w_reg ?_ | refine l_nil ?_) | ((with_reducible refine g_on ?_); (first | ((with_reducible refine g_mv ?_); refine l_p txs rfl rfl ?_) | ((with_reducible refine g_as ?_); refine l_p txs rfl rfl ?_) | ((with_reducible refine g_ex ?_); refine l_p txs rfl rfl ?_))))
    (with_reducible refine is_l ?_); refine l_callv rfl rfl (by kernel_rfl) (known_c (hL.below H.B)) (fun w_ K => ?_)
    have H := H.call K
    repeat' (first | (with_reducible first | refine p_tn ?_ | refine wp_seq ?_ | refine w_reg ?_) | (with_reducible (refine is_if ?_; (refine w_iff rfl ?_))) | (with_reducible first | refine wp_skip ?_ | refine l_nil ?_) | ((with_reducible refine g_on ?_); (first | ((with_reducible refine g_mv ?_); refine l_p txs rfl rfl ?_) | ((with_reducible refine g_un ?_); (refine l_p txs rfl rfl ?_)) | ((with_reducible refine g_cl ?_); refine l_p txs rfl rfl ?_))))
    (with_reducible refine is_l ?_); refine l_t txs rfl rfl (fun h1 => ?_) (fun h1 => ?_)
    · omega
    repeat' (first | (with_reducible first | refine p_tn ?_ | refine wp_seq ?_ | refine wp_block ?_ | refine w_reg ?_) | (with_reducible (refine is_if ?_; (refine w_iff rfl ?_))) | (with_reducible first | refine wp_skip ?_ | refine l_nil ?_) | ((with_reducible refine g_on ?_); ((with_reducible refine g_as ?_); refine l_p txs rfl rfl ?_)))
    refine w_loop (σ := Nat) (S := fun s => [(0, .slice A ks.length c), (4, .slice A2 N.length c2), (5, .int .i64 0), (6, .int .i64 (s : Int))]) (J := fun s w' => Hp w w' [] [rowT (.slice A2 N.length c2) N] ∧ s ≤ ks.length) (μ := fun s => ks.length - s) 0 ⟨rfl, rfl, rfl, rfl, trivial⟩ ⟨H, Nat.zero_le _⟩ ?_
    clear H
    rintro i f w_ ⟨H, hi⟩
    repeat' (first | (with_reducible first | refine wp_seq ?_ | refine w_reg ?_) | ((with_reducible refine g_on ?_); (first | ((with_reducible refine g_mv ?_); refine l_p txs rfl rfl ?_) | ((with_reducible refine g_cl ?_); refine l_p txs rfl rfl ?_))))
    (with_reducible refine is_l ?_); refine l_t txs rfl rfl (fun hlt => ?_) (fun hge => ?_)
    · obtain ⟨x, hx⟩ : ∃ x, ks[i]? = some x := ⟨_, List.getElem?_eq_getElem (by omega)⟩
      obtain ⟨ad, rfl⟩ := rdT_some hR hx
      have hxm := List.mem_of_getElem? hx
      obtain ⟨bx, lx⟩ := hB x hxm
      repeat' (first | (with_reducible first | refine p_tn ?_ | refine wp_seq ?_ | refine wp_block ?_ | refine w_reg ?_) | (with_reducible (refine is_if ?_; (refine w_ift rfl ?_))) | (with_reducible first | refine wp_skip ?_ | refine l_nil ?_) | ((with_reducible refine g_on ?_); (first | ((with_reducible refine g_mv ?_); refine l_p txs rfl rfl ?_) | ((with_reducible refine g_ia ?_); refine l_ia txs rfl rfl (by first | omega | assumption | decide) (by first | omega | assumption | decide) ?_))))
      (with_reducible refine is_l ?_); refine l_ld txs rfl rfl (by rw [Int.toNat_natCast]; exact H.old (rdT_cell hR hx)) ?_
      skip
      have hpk := ParseKey_c (hL.below H.B) (strOfNums x) (by rw [sizeS' bx]; exact lx)
      have he := parK_e (bl (strOfNums x))
      rw [blS bx] at hpk he
      generalize parK x = q at hpk he
      obtain ⟨q1, q2, q3⟩ := q
      have he : q3 = keyE x := he
      rw [hk0 x hxm] at he
      subst he
      (with_reducible refine is_l ?_); refine l_callv rfl rfl (by kernel_rfl) hpk (fun w_ K => ?_)
      have H := H.call K
      repeat' (first | (with_reducible first | refine p_tn ?_ | refine wp_seq ?_ | refine w_reg ?_ | refine l_nil ?_) | ((with_reducible refine g_on ?_); (first | ((with_reducible refine g_mv ?_); refine l_p txs rfl rfl ?_) | ((with_reducible refine g_as ?_); refine l_p txs rfl rfl ?_) | ((with_reducible refine g_ex ?_); refine l_p txs rfl rfl ?_))))
      (with_reducible refine is_l ?_); refine l_t txs rfl rfl (fun h => absurd rfl h) (fun _ => ?_)
      repeat' (first | (with_reducible first | refine p_tn ?_ | refine p_bn ?_ | refine w_reg ?_) | (with_reducible (refine is_if ?_; (refine w_iff rfl ?_))) | (with_reducible first | refine wp_skip ?_ | refine l_nil ?_) | ((with_reducible refine g_on ?_); (first | ((with_reducible refine g_mv ?_); refine l_p txs rfl rfl ?_) | ((with_reducible refine g_as ?_); refine l_p txs rfl rfl ?_) | ((with_reducible refine g_bi ?_); (refine l_a txs rfl rfl (by first | exact in_i64 (by omega) (by omega) | exact in_u8 (by omega) (by omega) | exact in_u64 (by omega) (by omega) | exact in_i32 (by omega) (by omega)) ?_)))))
      exact ⟨i + 1, _, rfl, ⟨rfl, rfl, rfl, rfl, trivial⟩, ⟨H, by omega⟩, by omega⟩
    repeat' (first | (with_reducible first | refine p_tn ?_ | refine p_tx ?_ | refine x_hit ?_ | refine wp_seq ?_ | refine w_reg ?_) | (with_reducible (refine is_if ?_; (refine w_iff rfl ?_))) | (with_reducible first | refine wp_exit ?_ | refine l_nil ?_) | ((with_reducible refine g_on ?_); ((with_reducible refine g_mv ?_); refine l_p txs rfl rfl ?_)))
    (with_reducible refine is_l ?_); refine l_t txs rfl rfl (fun h => absurd rfl h) (fun _ => ?_)
    repeat' (first | ((with_reducible refine g_on ?_); ((with_reducible refine g_mv ?_); refine l_p txs rfl rfl ?_)) | ((with_reducible refine g_if ?_); (first | ((with_reducible refine g_mv ?_); refine l_p txs rfl rfl ?_) | ((with_reducible refine g_cl ?_); refine l_p txs rfl rfl ?_))))
    (with_reducible refine is_l ?_); refine l_t txs rfl rfl (fun h => absurd (by show (N.length : Int) = (ks.length : Int); rw [hlN]) h) (fun _ => ?_)
    repeat' (first | (with_reducible first | refine p_tn ?_ | refine wp_seq ?_ | refine wp_block ?_ | refine w_reg ?_) | (with_reducible (refine is_if ?_; (refine w_iff rfl ?_))) | (with_reducible first | refine wp_skip ?_ | refine l_nil ?_) | ((with_reducible refine g_on ?_); (first | ((with_reducible refine g_as ?_); refine l_p txs rfl rfl ?_) | ((with_reducible refine g_pk ?_); refine l_p txs rfl rfl ?_))))
    refine w_loop (σ := Nat) (S := fun s => [(0, .slice A ks.length c), (4, .slice A2 N.length c2), (10, .int .i64 (s : Int))]) (J := fun s w' => Hp w w' [] [rowT (.slice A2 N.length c2) N] ∧ s ≤ N.length) (μ := fun s => N.length - s) 0 ⟨rfl, rfl, rfl, trivial⟩ ⟨H, Nat.zero_le _⟩ ?_
    clear H hi hge i f w_
    rintro i f w_ ⟨H, hi⟩
    repeat' (first | (with_reducible first | refine wp_seq ?_ | refine w_reg ?_) | ((with_reducible refine g_on ?_); (first | ((with_reducible refine g_mv ?_); refine l_p txs rfl rfl ?_) | ((with_reducible refine g_cl ?_); refine l_p txs rfl rfl ?_))))
    (with_reducible refine is_l ?_); refine l_t txs rfl rfl (fun hlt => ?_) (fun hge => ?_)
    · obtain ⟨x, hx⟩ : ∃ x, N[i]? = some x := ⟨_, List.getElem?_eq_getElem (by omega)⟩
      obtain ⟨ad, rfl⟩ := rdT_some (rowT_at H 0 rfl) hx
      have hBN : ∀ y ∈ N, Bytes y := fun y hy => (hB y (hp.subset hy)).1
      have bx := hBN x (List.mem_of_getElem? hx)
      have hc1 := fun (w1 : World) (h : Rd w1 (some ad) (strC N)) => count_c (c := c2) h hBN bx (by omega)
      have hc2 := fun (w1 : World) (h : Rd w1 A (strC ks)) => count_c (c := c) h (fun y hy => (hB y hy).1) bx hl
      rw [hp.count_eq x] at hc1
      generalize ((ks.count x : Nat) : Int) = cn at hc1 hc2
      cases i with
      | zero =>
        repeat' (first | (with_reducible first | refine p_tn ?_ | refine wp_seq ?_ | refine wp_block ?_) | (with_reducible (refine is_if ?_; (refine w_ift rfl ?_))) | (with_reducible first | refine wp_skip ?_ | refine l_nil ?_))
        have HS := H.pick [] [0] (by decide) (by decide) rfl rfl
        refine d_start (fun w_ => HpS _ w w_ _ _) #[false, false, false, false, false, false, false, false, false, false, false, false, false, false, false, false, false, false, false, false, false, false, false, false, false, false, false, false, false, false] (by kernel_rfl) rfl rfl HS.drew ?_
        have H := H.drew
        have HS := HS.drew
        first | (refine d_pure (i := 0) #[true, false, false, false, false, false, false, false, false, false, false, false, false, false, false, false, false, false, false, false, false, false, false, false, false, false, false, false, false, false] rfl (by kernel_rfl) (fun _ _ _ h => h) rfl (fun w_ => evP_run (o := ⟨_, _, _, _, _, _⟩) txs rfl) ?_)
        first | (refine d_pure (i := 1) #[true, true, false, false, false, false, false, false, false, false, false, false, false, false, false, false, false, false, false, false, false, false, false, false, false, false, false, false, false, false] rfl (by kernel_rfl) (fun _ _ _ h => h) rfl (fun w_ => evP_run (o := ⟨_, _, _, _, _, _⟩) txs rfl) ?_)
        first | (refine d_pure (i := 2) #[true, true, true, false, false, false, false, false, false, false, false, false, false, false, false, false, false, false, false, false, false, false, false, false, false, false, false, false, false, false] rfl (by kernel_rfl) (fun _ _ _ h => h) rfl (fun w_ => evP_run (o := ⟨_, _, _, _, _, _⟩) txs rfl) ?_)
        first | (refine d_pure (i := 3) #[true, true, true, true, false, false, false, false, false, false, false, false, false, false, false, false, false, false, false, false, false, false, false, false, false, false, false, false, false, false] rfl (by kernel_rfl) (fun _ _ _ h => h) rfl (fun w_ => evIA_run (o := ⟨_, _, _, _, _, _⟩) txs rfl (by omega) (by omega)) ?_)
        first | (refine d_take (i := 4) #[true, true, true, true, true, false, false, false, false, false, false, false, false, false, false, false, false, false, false, false, false, false, false, false, false, false, false, false, false, false] rfl (by kernel_rfl) (fun _ _ _ h => h) rfl (fun w_ K => evL_run (o := ⟨_, _, _, _, _, _⟩) txs rfl (rdT_cell (rowT_at K 0 rfl) (i := 0) (y := x) hx)) HS ?_)
        first | (refine d_pure (i := 6) #[true, true, true, true, true, false, true, false, false, false, false, false, false, false, false, false, false, false, false, false, false, false, false, false, false, false, false, false, false, false] rfl (by kernel_rfl) (fun _ _ _ h => h) rfl (fun w_ => evP_run (o := ⟨_, _, _, _, _, _⟩) txs rfl) ?_)
        first | (refine d_pure (i := 7) #[true, true, true, true, true, false, true, true, false, false, false, false, false, false, false, false, false, false, false, false, false, false, false, false, false, false, false, false, false, false] rfl (by kernel_rfl) (fun _ _ _ h => h) rfl (fun w_ => evP_run (o := ⟨_, _, _, _, _, _⟩) txs rfl) ?_)
        first | (refine d_pure (i := 8) #[true, true, true, true, true, false, true, true, true, false, false, false, false, false, false, false, false, false, false, false, false, false, false, false, false, false, false, false, false, false] rfl (by kernel_rfl) (fun _ _ _ h => h) rfl (fun w_ => evP_run (o := ⟨_, _, _, _, _, _⟩) txs rfl) ?_)
        first | (refine d_pure (i := 9) #[true, true, true, true, true, false, true, true, true, true, false, false, false, false, false, false, false, false, false, false, false, false, false, false, false, false, false, false, false, false] rfl (by kernel_rfl) (fun _ _ _ h => h) rfl (fun w_ => evIA_run (o := ⟨_, _, _, _, _, _⟩) txs rfl (by omega) (by omega)) ?_)
        first | (refine d_take (i := 10) #[true, true, true, true, true, false, true, true, true, true, true, false, false, false, false, false, false, false, false, false, false, false, false, false, false, false, false, false, false, false] rfl (by kernel_rfl) (fun _ _ _ h => h) rfl (fun w_ K => evL_run (o := ⟨_, _, _, _, _, _⟩) txs rfl (rdT_cell (rowT_at K 0 rfl) (i := 0) (y := x) hx)) HS ?_)
        refine d_one (i := 5) #[true, true, true, true, true, true, true, true, true, true, true, false, false, false, false, false, false, false, false, false, false, false, false, false, false, false, false, false, false, false] rfl (by kernel_rfl) rfl ?_
        refine l_callv rfl rfl (by kernel_rfl) (hc1 _ (rowT_at H 0 rfl)) (fun w_ K => ?_); have H := H.call K
        refine l_nil ?_
        have HS := H.pick [] [0] (by decide) (by decide) rfl rfl
        refine ⟨rfl, HS, ?_⟩
        refine d_one (i := 11) #[true, true, true, true, true, true, true, true, true, true, true, true, false, false, false, false, false, false, false, false, false, false, false, false, false, false, false, false, false, false] rfl (by kernel_rfl) rfl ?_
        refine l_callv rfl rfl (by kernel_rfl) (hc2 _ (hR.below H.B)) (fun w_ K => ?_); have H := H.call K
        refine l_nil ?_
        have HS := H.pick [] [0] (by decide) (by decide) rfl rfl
        refine ⟨rfl, HS, ?_⟩
        first | (refine d_pure (i := 12) #[true, true, true, true, true, true, true, true, true, true, true, true, true, false, false, false, false, false, false, false, false, false, false, false, false, false, false, false, false, false] rfl (by kernel_rfl) (fun _ _ _ h => h) rfl (fun w_ => evT_no (o := ⟨_, _, _, _, _, _⟩) txs rfl (fun h => h rfl)) ?_)
        first | (refine d_pure (i := 13) #[true, true, true, true, true, true, true, true, true, true, true, true, true, true, false, false, false, false, false, false, false, false, false, false, false, false, false, false, false, false] rfl (by kernel_rfl) (fun _ _ _ h => h) rfl (fun w_ => evP_run (o := ⟨_, _, _, _, _, _⟩) txs rfl) ?_)
        first | (refine d_off (i := 14) #[true, true, true, true, true, true, true, true, true, true, true, true, true, true, true, false, false, false, false, false, false, false, false, false, false, false, false, false, false, false] rfl (by kernel_rfl) (fun _ _ _ h => h) rfl ?_) | (first | (refine d_pure (i := 14) #[true, true, true, true, true, true, true, true, true, true, true, true, true, true, true, false, false, false, false, false, false, false, false, false, false, false, false, false, false, false] rfl (by kernel_rfl) (fun _ _ _ h => h) rfl (fun w_ => evP_run (o := ⟨_, _, _, _, _, _⟩) txs rfl) ?_))
        first | (refine d_off (i := 15) #[true, true, true, true, true, true, true, true, true, true, true, true, true, true, true, true, false, false, false, false, false, false, false, false, false, false, false, false, false, false] rfl (by kernel_rfl) (fun _ _ _ h => h) rfl ?_) | (first | (refine d_pure (i := 15) #[true, true, true, true, true, true, true, true, true, true, true, true, true, true, true, true, false, false, false, false, false, false, false, false, false, false, false, false, false, false] rfl (by kernel_rfl) (fun _ _ _ h => h) rfl (fun w_ => evT_no (o := ⟨_, _, _, _, _, _⟩) txs rfl (by decide)) ?_))
        first | (refine d_off (i := 16) #[true, true, true, true, true, true, true, true, true, true, true, true, true, true, true, true, true, false, false, false, false, false, false, false, false, false, false, false, false, false] rfl (by kernel_rfl) (fun _ _ _ h => h) rfl ?_) | (first | (refine d_pure (i := 16) #[true, true, true, true, true, true, true, true, true, true, true, true, true, true, true, true, true, false, false, false, false, false, false, false, false, false, false, false, false, false] rfl (by kernel_rfl) (fun _ _ _ h => h) rfl (fun w_ => evP_run (o := ⟨_, _, _, _, _, _⟩) txs rfl) ?_))
        first | (refine d_off (i := 17) #[true, true, true, true, true, true, true, true, true, true, true, true, true, true, true, true, true, true, false, false, false, false, false, false, false, false, false, false, false, false] rfl (by kernel_rfl) (fun _ _ _ h => h) rfl ?_) | (first | (refine d_pure (i := 17) #[true, true, true, true, true, true, true, true, true, true, true, true, true, true, true, true, true, true, false, false, false, false, false, false, false, false, false, false, false, false] rfl (by kernel_rfl) (fun _ _ _ h => h) rfl (fun w_ => evP_run (o := ⟨_, _, _, _, _, _⟩) txs rfl) ?_))
        first | (refine d_off (i := 18) #[true, true, true, true, true, true, true, true, true, true, true, true, true, true, true, true, true, true, true, false, false, false, false, false, false, false, false, false, false, false] rfl (by kernel_rfl) (fun _ _ _ h => h) rfl ?_) | (first | (refine d_pure (i := 18) #[true, true, true, true, true, true, true, true, true, true, true, true, true, true, true, true, true, true, true, false, false, false, false, false, false, false, false, false, false, false] rfl (by kernel_rfl) (fun _ _ _ h => h) rfl (fun w_ => evP_run (o := ⟨_, _, _, _, _, _⟩) txs rfl) ?_))
        first | (refine d_off (i := 19) #[true, true, true, true, true, true, true, true, true, true, true, true, true, true, true, true, true, true, true, true, false, false, false, false, false, false, false, false, false, false] rfl (by kernel_rfl) (fun _ _ _ h => h) rfl ?_) | (first | (refine d_pure (i := 19) #[true, true, true, true, true, true, true, true, true, true, true, true, true, true, true, true, true, true, true, true, false, false, false, false, false, false, false, false, false, false] rfl (by kernel_rfl) (fun _ _ _ h => h) rfl (fun w_ => evP_run (o := ⟨_, _, _, _, _, _⟩) txs rfl) ?_) | (refine d_pure (i := 19) #[true, true, true, true, true, true, true, true, true, true, true, true, true, true, true, true, true, true, true, true, false, false, false, false, false, false, false, false, false, false] rfl (by kernel_rfl) (fun _ _ _ h => h) rfl (fun w_ => (evA_run (o := ⟨_, _, _, _, _, _⟩) txs rfl).trans (by rw [wrap_in (by first | exact in_i64 (by omega) (by omega) | exact in_u8 (by omega) (by omega) | exact in_u64 (by omega) (by omega) | exact in_i32 (by omega) (by omega))])) ?_))
        first | (refine d_off (i := 20) #[true, true, true, true, true, true, true, true, true, true, true, true, true, true, true, true, true, true, true, true, true, false, false, false, false, false, false, false, false, false] rfl (by kernel_rfl) (fun _ _ _ h => h) rfl ?_) | (first | (refine d_pure (i := 20) #[true, true, true, true, true, true, true, true, true, true, true, true, true, true, true, true, true, true, true, true, true, false, false, false, false, false, false, false, false, false] rfl (by kernel_rfl) (fun _ _ _ h => h) rfl (fun w_ => evIA_run (o := ⟨_, _, _, _, _, _⟩) txs rfl (by omega) (by omega)) ?_))
        refine d_off (i := 21) #[true, true, true, true, true, true, true, true, true, true, true, true, true, true, true, true, true, true, true, true, true, true, false, false, false, false, false, false, false, false] rfl (by kernel_rfl) (fun _ _ _ h => h) rfl ?_
        first | (refine d_off (i := 22) #[true, true, true, true, true, true, true, true, true, true, true, true, true, true, true, true, true, true, true, true, true, true, true, false, false, false, false, false, false, false] rfl (by kernel_rfl) (fun _ _ _ h => h) rfl ?_) | (first | (refine d_pure (i := 22) #[true, true, true, true, true, true, true, true, true, true, true, true, true, true, true, true, true, true, true, true, true, true, true, false, false, false, false, false, false, false] rfl (by kernel_rfl) (fun _ _ _ h => h) rfl (fun w_ => evP_run (o := ⟨_, _, _, _, _, _⟩) txs rfl) ?_))
        first | (refine d_off (i := 23) #[true, true, true, true, true, true, true, true, true, true, true, true, true, true, true, true, true, true, true, true, true, true, true, true, false, false, false, false, false, false] rfl (by kernel_rfl) (fun _ _ _ h => h) rfl ?_) | (first | (refine d_pure (i := 23) #[true, true, true, true, true, true, true, true, true, true, true, true, true, true, true, true, true, true, true, true, true, true, true, true, false, false, false, false, false, false] rfl (by kernel_rfl) (fun _ _ _ h => h) rfl (fun w_ => evP_run (o := ⟨_, _, _, _, _, _⟩) txs rfl) ?_))
        first | (refine d_off (i := 24) #[true, true, true, true, true, true, true, true, true, true, true, true, true, true, true, true, true, true, true, true, true, true, true, true, true, false, false, false, false, false] rfl (by kernel_rfl) (fun _ _ _ h => h) rfl ?_) | (first | (refine d_pure (i := 24) #[true, true, true, true, true, true, true, true, true, true, true, true, true, true, true, true, true, true, true, true, true, true, true, true, true, false, false, false, false, false] rfl (by kernel_rfl) (fun _ _ _ h => h) rfl (fun w_ => evIA_run (o := ⟨_, _, _, _, _, _⟩) txs rfl (by omega) (by omega)) ?_))
        refine d_off (i := 25) #[true, true, true, true, true, true, true, true, true, true, true, true, true, true, true, true, true, true, true, true, true, true, true, true, true, true, false, false, false, false] rfl (by kernel_rfl) (fun _ _ _ h => h) rfl ?_
        refine d_off (i := 26) #[true, true, true, true, true, true, true, true, true, true, true, true, true, true, true, true, true, true, true, true, true, true, true, true, true, true, true, false, false, false] rfl (by kernel_rfl) (fun _ _ _ h => h) rfl ?_
        first | (refine d_off (i := 27) #[true, true, true, true, true, true, true, true, true, true, true, true, true, true, true, true, true, true, true, true, true, true, true, true, true, true, true, true, false, false] rfl (by kernel_rfl) (fun _ _ _ h => h) rfl ?_) | (first | (refine d_pure (i := 27) #[true, true, true, true, true, true, true, true, true, true, true, true, true, true, true, true, true, true, true, true, true, true, true, true, true, true, true, true, false, false] rfl (by kernel_rfl) (fun _ _ _ h => h) rfl (fun w_ => evP_run (o := ⟨_, _, _, _, _, _⟩) txs rfl) ?_))
        first | (refine d_off (i := 28) #[true, true, true, true, true, true, true, true, true, true, true, true, true, true, true, true, true, true, true, true, true, true, true, true, true, true, true, true, true, false] rfl (by kernel_rfl) (fun _ _ _ h => h) rfl ?_) | (first | (refine d_pure (i := 28) #[true, true, true, true, true, true, true, true, true, true, true, true, true, true, true, true, true, true, true, true, true, true, true, true, true, true, true, true, true, false] rfl (by kernel_rfl) (fun _ _ _ h => h) rfl (fun w_ => evP_run (o := ⟨_, _, _, _, _, _⟩) txs rfl) ?_))
        first | (refine d_pure (i := 29) #[true, true, true, true, true, true, true, true, true, true, true, true, true, true, true, true, true, true, true, true, true, true, true, true, true, true, true, true, true, true] rfl (by kernel_rfl) (fun _ _ _ h => h) rfl (fun w_ => evP_run (o := ⟨_, _, _, _, _, _⟩) txs rfl) ?_)
        refine d_done rfl ?_
        repeat' (first | (with_reducible first | refine p_tn ?_ | refine p_bn ?_ | refine w_reg ?_) | (with_reducible (refine is_if ?_; (refine w_iff rfl ?_))) | (with_reducible first | refine wp_skip ?_ | refine l_nil ?_) | ((with_reducible refine g_on ?_); (first | ((with_reducible refine g_mv ?_); refine l_p txs rfl rfl ?_) | ((with_reducible refine g_as ?_); refine l_p txs rfl rfl ?_) | ((with_reducible refine g_bi ?_); (refine l_a txs rfl rfl (by first | exact in_i64 (by omega) (by omega) | exact in_u8 (by omega) (by omega) | exact in_u64 (by omega) (by omega) | exact in_i32 (by omega) (by omega)) ?_)))))
        exact ⟨0 + 1, _, rfl, ⟨rfl, rfl, rfl, trivial⟩, ⟨H, by omega⟩, by omega⟩
      | succ m =>
        obtain ⟨y, hy⟩ : ∃ y, N[m]? = some y := ⟨_, List.getElem?_eq_getElem (by omega)⟩
        have hle : keyF y x ≤ 0 := by
          have h1 := List.pairwise_iff_getElem.1 ho m (m + 1) (by omega) (by omega) (by omega)
          rw [(List.getElem?_eq_some_iff.1 hx).2, (List.getElem?_eq_some_iff.1 hy).2] at h1
          exact h1
        have haf := fun (w1 : World) (h : Lay w1) => after_c h (hBN y (List.mem_of_getElem? hy)) bx (hk0 y (hp.subset (List.mem_of_getElem? hy))) (hk0 x (hp.subset (List.mem_of_getElem? hx)))
        rw [decide_eq_true hle] at haf
        repeat' (first | (with_reducible first | refine p_tn ?_ | refine wp_seq ?_ | refine wp_block ?_) | (with_reducible (refine is_if ?_; (refine w_ift rfl ?_))) | (with_reducible first | refine wp_skip ?_ | refine l_nil ?_))
        have HS := H.pick [] [0] (by decide) (by decide) rfl rfl
        refine d_start (fun w_ => HpS _ w w_ _ _) #[false, false, false, false, false, false, false, false, false, false, false, false, false, false, false, false, false, false, false, false, false, false, false, false, false, false, false, false, false, false] (by kernel_rfl) rfl rfl HS.drew ?_
        have H := H.drew
        have HS := HS.drew
        first | (refine d_pure (i := 0) #[true, false, false, false, false, false, false, false, false, false, false, false, false, false, false, false, false, false, false, false, false, false, false, false, false, false, false, false, false, false] rfl (by kernel_rfl) (fun _ _ _ h => h) rfl (fun w_ => evP_run (o := ⟨_, _, _, _, _, _⟩) txs rfl) ?_)
        first | (refine d_pure (i := 1) #[true, true, false, false, false, false, false, false, false, false, false, false, false, false, false, false, false, false, false, false, false, false, false, false, false, false, false, false, false, false] rfl (by kernel_rfl) (fun _ _ _ h => h) rfl (fun w_ => evP_run (o := ⟨_, _, _, _, _, _⟩) txs rfl) ?_)
        first | (refine d_pure (i := 2) #[true, true, true, false, false, false, false, false, false, false, false, false, false, false, false, false, false, false, false, false, false, false, false, false, false, false, false, false, false, false] rfl (by kernel_rfl) (fun _ _ _ h => h) rfl (fun w_ => evP_run (o := ⟨_, _, _, _, _, _⟩) txs rfl) ?_)
        first | (refine d_pure (i := 3) #[true, true, true, true, false, false, false, false, false, false, false, false, false, false, false, false, false, false, false, false, false, false, false, false, false, false, false, false, false, false] rfl (by kernel_rfl) (fun _ _ _ h => h) rfl (fun w_ => evIA_run (o := ⟨_, _, _, _, _, _⟩) txs rfl (by omega) (by omega)) ?_)
        first | (refine d_take (i := 4) #[true, true, true, true, true, false, false, false, false, false, false, false, false, false, false, false, false, false, false, false, false, false, false, false, false, false, false, false, false, false] rfl (by kernel_rfl) (fun _ _ _ h => h) rfl (fun w_ K => evL_run (o := ⟨_, _, _, _, _, _⟩) txs rfl (by rw [Int.toNat_natCast]; exact rdT_cell (rowT_at K 0 rfl) hx)) HS ?_)
        first | (refine d_pure (i := 6) #[true, true, true, true, true, false, true, false, false, false, false, false, false, false, false, false, false, false, false, false, false, false, false, false, false, false, false, false, false, false] rfl (by kernel_rfl) (fun _ _ _ h => h) rfl (fun w_ => evP_run (o := ⟨_, _, _, _, _, _⟩) txs rfl) ?_)
        first | (refine d_pure (i := 7) #[true, true, true, true, true, false, true, true, false, false, false, false, false, false, false, false, false, false, false, false, false, false, false, false, false, false, false, false, false, false] rfl (by kernel_rfl) (fun _ _ _ h => h) rfl (fun w_ => evP_run (o := ⟨_, _, _, _, _, _⟩) txs rfl) ?_)
        first | (refine d_pure (i := 8) #[true, true, true, true, true, false, true, true, true, false, false, false, false, false, false, false, false, false, false, false, false, false, false, false, false, false, false, false, false, false] rfl (by kernel_rfl) (fun _ _ _ h => h) rfl (fun w_ => evP_run (o := ⟨_, _, _, _, _, _⟩) txs rfl) ?_)
        first | (refine d_pure (i := 9) #[true, true, true, true, true, false, true, true, true, true, false, false, false, false, false, false, false, false, false, false, false, false, false, false, false, false, false, false, false, false] rfl (by kernel_rfl) (fun _ _ _ h => h) rfl (fun w_ => evIA_run (o := ⟨_, _, _, _, _, _⟩) txs rfl (by omega) (by omega)) ?_)
        first | (refine d_take (i := 10) #[true, true, true, true, true, false, true, true, true, true, true, false, false, false, false, false, false, false, false, false, false, false, false, false, false, false, false, false, false, false] rfl (by kernel_rfl) (fun _ _ _ h => h) rfl (fun w_ K => evL_run (o := ⟨_, _, _, _, _, _⟩) txs rfl (by rw [Int.toNat_natCast]; exact rdT_cell (rowT_at K 0 rfl) hx)) HS ?_)
        refine d_one (i := 5) #[true, true, true, true, true, true, true, true, true, true, true, false, false, false, false, false, false, false, false, false, false, false, false, false, false, false, false, false, false, false] rfl (by kernel_rfl) rfl ?_
        refine l_callv rfl rfl (by kernel_rfl) (hc1 _ (rowT_at H 0 rfl)) (fun w_ K => ?_); have H := H.call K
        refine l_nil ?_
        have HS := H.pick [] [0] (by decide) (by decide) rfl rfl
        refine ⟨rfl, HS, ?_⟩
        refine d_one (i := 11) #[true, true, true, true, true, true, true, true, true, true, true, true, false, false, false, false, false, false, false, false, false, false, false, false, false, false, false, false, false, false] rfl (by kernel_rfl) rfl ?_
        refine l_callv rfl rfl (by kernel_rfl) (hc2 _ (hR.below H.B)) (fun w_ K => ?_); have H := H.call K
        refine l_nil ?_
        have HS := H.pick [] [0] (by decide) (by decide) rfl rfl
        refine ⟨rfl, HS, ?_⟩
        first | (refine d_pure (i := 12) #[true, true, true, true, true, true, true, true, true, true, true, true, true, false, false, false, false, false, false, false, false, false, false, false, false, false, false, false, false, false] rfl (by kernel_rfl) (fun _ _ _ h => h) rfl (fun w_ => evT_no (o := ⟨_, _, _, _, _, _⟩) txs rfl (fun h => h rfl)) ?_)
        first | (refine d_pure (i := 13) #[true, true, true, true, true, true, true, true, true, true, true, true, true, true, false, false, false, false, false, false, false, false, false, false, false, false, false, false, false, false] rfl (by kernel_rfl) (fun _ _ _ h => h) rfl (fun w_ => evP_run (o := ⟨_, _, _, _, _, _⟩) txs rfl) ?_)
        first | (refine d_off (i := 14) #[true, true, true, true, true, true, true, true, true, true, true, true, true, true, true, false, false, false, false, false, false, false, false, false, false, false, false, false, false, false] rfl (by kernel_rfl) (fun _ _ _ h => h) rfl ?_) | (first | (refine d_pure (i := 14) #[true, true, true, true, true, true, true, true, true, true, true, true, true, true, true, false, false, false, false, false, false, false, false, false, false, false, false, false, false, false] rfl (by kernel_rfl) (fun _ _ _ h => h) rfl (fun w_ => evP_run (o := ⟨_, _, _, _, _, _⟩) txs rfl) ?_))
        first | (refine d_off (i := 15) #[true, true, true, true, true, true, true, true, true, true, true, true, true, true, true, true, false, false, false, false, false, false, false, false, false, false, false, false, false, false] rfl (by kernel_rfl) (fun _ _ _ h => h) rfl ?_) | (first | (refine d_pure (i := 15) #[true, true, true, true, true, true, true, true, true, true, true, true, true, true, true, true, false, false, false, false, false, false, false, false, false, false, false, false, false, false] rfl (by kernel_rfl) (fun _ _ _ h => h) rfl (fun w_ => evT_yes (o := ⟨_, _, _, _, _, _⟩) txs rfl (by omega)) ?_))
        first | (refine d_off (i := 16) #[true, true, true, true, true, true, true, true, true, true, true, true, true, true, true, true, true, false, false, false, false, false, false, false, false, false, false, false, false, false] rfl (by kernel_rfl) (fun _ _ _ h => h) rfl ?_) | (first | (refine d_pure (i := 16) #[true, true, true, true, true, true, true, true, true, true, true, true, true, true, true, true, true, false, false, false, false, false, false, false, false, false, false, false, false, false] rfl (by kernel_rfl) (fun _ _ _ h => h) rfl (fun w_ => evP_run (o := ⟨_, _, _, _, _, _⟩) txs rfl) ?_))
        first | (refine d_off (i := 17) #[true, true, true, true, true, true, true, true, true, true, true, true, true, true, true, true, true, true, false, false, false, false, false, false, false, false, false, false, false, false] rfl (by kernel_rfl) (fun _ _ _ h => h) rfl ?_) | (first | (refine d_pure (i := 17) #[true, true, true, true, true, true, true, true, true, true, true, true, true, true, true, true, true, true, false, false, false, false, false, false, false, false, false, false, false, false] rfl (by kernel_rfl) (fun _ _ _ h => h) rfl (fun w_ => evP_run (o := ⟨_, _, _, _, _, _⟩) txs rfl) ?_))
        first | (refine d_off (i := 18) #[true, true, true, true, true, true, true, true, true, true, true, true, true, true, true, true, true, true, true, false, false, false, false, false, false, false, false, false, false, false] rfl (by kernel_rfl) (fun _ _ _ h => h) rfl ?_) | (first | (refine d_pure (i := 18) #[true, true, true, true, true, true, true, true, true, true, true, true, true, true, true, true, true, true, true, false, false, false, false, false, false, false, false, false, false, false] rfl (by kernel_rfl) (fun _ _ _ h => h) rfl (fun w_ => evP_run (o := ⟨_, _, _, _, _, _⟩) txs rfl) ?_))
        first | (refine d_off (i := 19) #[true, true, true, true, true, true, true, true, true, true, true, true, true, true, true, true, true, true, true, true, false, false, false, false, false, false, false, false, false, false] rfl (by kernel_rfl) (fun _ _ _ h => h) rfl ?_) | (first | (refine d_pure (i := 19) #[true, true, true, true, true, true, true, true, true, true, true, true, true, true, true, true, true, true, true, true, false, false, false, false, false, false, false, false, false, false] rfl (by kernel_rfl) (fun _ _ _ h => h) rfl (fun w_ => evP_run (o := ⟨_, _, _, _, _, _⟩) txs rfl) ?_) | (refine d_pure (i := 19) #[true, true, true, true, true, true, true, true, true, true, true, true, true, true, true, true, true, true, true, true, false, false, false, false, false, false, false, false, false, false] rfl (by kernel_rfl) (fun _ _ _ h => h) rfl (fun w_ => (evA_run (o := ⟨_, _, _, _, _, _⟩) txs rfl).trans (by rw [wrap_in (by first | exact in_i64 (by omega) (by omega) | exact in_u8 (by omega) (by omega) | exact in_u64 (by omega) (by omega) | exact in_i32 (by omega) (by omega))])) ?_))
        first | (refine d_off (i := 20) #[true, true, true, true, true, true, true, true, true, true, true, true, true, true, true, true, true, true, true, true, true, false, false, false, false, false, false, false, false, false] rfl (by kernel_rfl) (fun _ _ _ h => h) rfl ?_) | (first | (refine d_pure (i := 20) #[true, true, true, true, true, true, true, true, true, true, true, true, true, true, true, true, true, true, true, true, true, false, false, false, false, false, false, false, false, false] rfl (by kernel_rfl) (fun _ _ _ h => h) rfl (fun w_ => evIA_run (o := ⟨_, _, _, _, _, _⟩) txs rfl (by omega) (by omega)) ?_))
        first | (refine d_off (i := 21) #[true, true, true, true, true, true, true, true, true, true, true, true, true, true, true, true, true, true, true, true, true, true, false, false, false, false, false, false, false, false] rfl (by kernel_rfl) (fun _ _ _ h => h) rfl ?_) | (first | (refine d_take (i := 21) #[true, true, true, true, true, true, true, true, true, true, true, true, true, true, true, true, true, true, true, true, true, true, false, false, false, false, false, false, false, false] rfl (by kernel_rfl) (fun _ _ _ h => h) rfl (fun w_ K => evL_run (o := ⟨_, _, _, _, _, _⟩) txs rfl (by rw [show (((m + 1 : Nat) : Int) - 1).toNat = m by omega]; exact rdT_cell (rowT_at K 0 rfl) hy)) HS ?_))
        first | (refine d_off (i := 22) #[true, true, true, true, true, true, true, true, true, true, true, true, true, true, true, true, true, true, true, true, true, true, true, false, false, false, false, false, false, false] rfl (by kernel_rfl) (fun _ _ _ h => h) rfl ?_) | (first | (refine d_pure (i := 22) #[true, true, true, true, true, true, true, true, true, true, true, true, true, true, true, true, true, true, true, true, true, true, true, false, false, false, false, false, false, false] rfl (by kernel_rfl) (fun _ _ _ h => h) rfl (fun w_ => evP_run (o := ⟨_, _, _, _, _, _⟩) txs rfl) ?_))
        first | (refine d_off (i := 23) #[true, true, true, true, true, true, true, true, true, true, true, true, true, true, true, true, true, true, true, true, true, true, true, true, false, false, false, false, false, false] rfl (by kernel_rfl) (fun _ _ _ h => h) rfl ?_) | (first | (refine d_pure (i := 23) #[true, true, true, true, true, true, true, true, true, true, true, true, true, true, true, true, true, true, true, true, true, true, true, true, false, false, false, false, false, false] rfl (by kernel_rfl) (fun _ _ _ h => h) rfl (fun w_ => evP_run (o := ⟨_, _, _, _, _, _⟩) txs rfl) ?_))
        first | (refine d_off (i := 24) #[true, true, true, true, true, true, true, true, true, true, true, true, true, true, true, true, true, true, true, true, true, true, true, true, true, false, false, false, false, false] rfl (by kernel_rfl) (fun _ _ _ h => h) rfl ?_) | (first | (refine d_pure (i := 24) #[true, true, true, true, true, true, true, true, true, true, true, true, true, true, true, true, true, true, true, true, true, true, true, true, true, false, false, false, false, false] rfl (by kernel_rfl) (fun _ _ _ h => h) rfl (fun w_ => evIA_run (o := ⟨_, _, _, _, _, _⟩) txs rfl (by omega) (by omega)) ?_))
        first | (refine d_off (i := 25) #[true, true, true, true, true, true, true, true, true, true, true, true, true, true, true, true, true, true, true, true, true, true, true, true, true, true, false, false, false, false] rfl (by kernel_rfl) (fun _ _ _ h => h) rfl ?_) | (first | (refine d_take (i := 25) #[true, true, true, true, true, true, true, true, true, true, true, true, true, true, true, true, true, true, true, true, true, true, true, true, true, true, false, false, false, false] rfl (by kernel_rfl) (fun _ _ _ h => h) rfl (fun w_ K => evL_run (o := ⟨_, _, _, _, _, _⟩) txs rfl (by rw [Int.toNat_natCast]; exact rdT_cell (rowT_at K 0 rfl) hx)) HS ?_))
        refine d_one (i := 26) #[true, true, true, true, true, true, true, true, true, true, true, true, true, true, true, true, true, true, true, true, true, true, true, true, true, true, true, false, false, false] rfl (by kernel_rfl) rfl ?_
        refine l_callv rfl rfl (by kernel_rfl) (haf _ (hL.below H.B)) (fun w_ K => ?_); have H := H.call K
        refine l_nil ?_
        have HS := H.pick [] [0] (by decide) (by decide) rfl rfl
        refine ⟨rfl, HS, ?_⟩
        first | (refine d_off (i := 27) #[true, true, true, true, true, true, true, true, true, true, true, true, true, true, true, true, true, true, true, true, true, true, true, true, true, true, true, true, false, false] rfl (by kernel_rfl) (fun _ _ _ h => h) rfl ?_) | (first | (refine d_pure (i := 27) #[true, true, true, true, true, true, true, true, true, true, true, true, true, true, true, true, true, true, true, true, true, true, true, true, true, true, true, true, false, false] rfl (by kernel_rfl) (fun _ _ _ h => h) rfl (fun w_ => evP_run (o := ⟨_, _, _, _, _, _⟩) txs rfl) ?_))
        first | (refine d_off (i := 28) #[true, true, true, true, true, true, true, true, true, true, true, true, true, true, true, true, true, true, true, true, true, true, true, true, true, true, true, true, true, false] rfl (by kernel_rfl) (fun _ _ _ h => h) rfl ?_) | (first | (refine d_pure (i := 28) #[true, true, true, true, true, true, true, true, true, true, true, true, true, true, true, true, true, true, true, true, true, true, true, true, true, true, true, true, true, false] rfl (by kernel_rfl) (fun _ _ _ h => h) rfl (fun w_ => evP_run (o := ⟨_, _, _, _, _, _⟩) txs rfl) ?_))
        first | (refine d_pure (i := 29) #[true, true, true, true, true, true, true, true, true, true, true, true, true, true, true, true, true, true, true, true, true, true, true, true, true, true, true, true, true, true] rfl (by kernel_rfl) (fun _ _ _ h => h) rfl (fun w_ => evP_run (o := ⟨_, _, _, _, _, _⟩) txs rfl) ?_)
        refine d_done rfl ?_
        repeat' (first | (with_reducible first | refine p_tn ?_ | refine p_bn ?_ | refine w_reg ?_) | (with_reducible (refine is_if ?_; (refine w_iff rfl ?_))) | (with_reducible first | refine wp_skip ?_ | refine l_nil ?_) | ((with_reducible refine g_on ?_); (first | ((with_reducible refine g_mv ?_); refine l_p txs rfl rfl ?_) | ((with_reducible refine g_as ?_); refine l_p txs rfl rfl ?_) | ((with_reducible refine g_bi ?_); (refine l_a txs rfl rfl (by first | exact in_i64 (by omega) (by omega) | exact in_u8 (by omega) (by omega) | exact in_u64 (by omega) (by omega) | exact in_i32 (by omega) (by omega)) ?_)))))
        exact ⟨m + 1 + 1, _, rfl, ⟨rfl, rfl, rfl, trivial⟩, ⟨H, by omega⟩, by omega⟩
    · repeat' (first | (with_reducible first | refine p_tn ?_ | refine p_tx ?_ | refine x_hit ?_ | refine wp_seq ?_ | refine w_reg ?_) | (with_reducible (refine is_if ?_; (refine w_iff rfl ?_))) | (with_reducible first | refine wp_exit ?_ | refine wp_ret ?_ | refine l_nil ?_) | ((with_reducible refine g_on ?_); ((with_reducible refine g_as ?_); refine l_p txs rfl rfl ?_)))
      refine end1 rfl rfl ?_
      exact ⟨rfl, H.B⟩
  · obtain ⟨rfl, K⟩ := hno hs
    refine ⟨_, rfl, ?_⟩
    have H := (H.call K).pick [] [] (by decide) (by decide) rfl rfl
    repeat' (first | (with_reducible first | refine p_tn ?_ | refine wp_seq ?_ | refine w_reg ?_ | refine l_nil ?_) | ((with_reducible refine g_on ?_); (first | ((with_reducible refine g_mv ?_); refine l_p txs rfl rfl ?_) | ((with_reducible refine g_as ?_); refine l_p txs rfl rfl ?_) | ((with_reducible refine g_ex ?_); refine l_p txs rfl rfl ?_))))
    (with_reducible refine is_l ?_); refine l_callv rfl rfl (by kernel_rfl) (known_c (hL.below H.B)) (fun w_ K => ?_)
    have H := H.call K
    repeat' (first | (with_reducible first | refine p_tn ?_ | refine wp_seq ?_ | refine w_reg ?_) | (with_reducible (refine is_if ?_; (refine w_iff rfl ?_))) | (with_reducible first | refine wp_skip ?_ | refine l_nil ?_) | ((with_reducible refine g_on ?_); (first | ((with_reducible refine g_mv ?_); refine l_p txs rfl rfl ?_) | ((with_reducible refine g_un ?_); (refine l_p txs rfl rfl ?_)) | ((with_reducible refine g_cl ?_); refine l_p txs rfl rfl ?_))))
    (with_reducible refine is_l ?_); refine l_t txs rfl rfl (fun h1 => ?_) (fun h1 => ?_)
    · have hs2 : sortE ks = 2 := by unfold sortE; rw [if_pos (by omega)]
      rw [hs2]
      repeat' (first | (with_reducible first | refine p_tn ?_ | refine wp_seq ?_ | refine w_reg ?_) | (with_reducible (refine is_if ?_; (refine w_ift rfl ?_))) | (with_reducible refine l_nil ?_) | ((with_reducible refine g_on ?_); ((with_reducible refine g_mv ?_); refine l_p txs rfl rfl ?_)))
      (with_reducible refine is_l ?_); refine l_t txs rfl rfl (fun h => ?_) (fun h => absurd rfl h)
      repeat' (first | ((with_reducible refine g_on ?_); ((with_reducible refine g_mv ?_); refine l_p txs rfl rfl ?_)) | ((with_reducible refine g_if ?_); (first | ((with_reducible refine g_mv ?_); refine l_p txs rfl rfl ?_) | ((with_reducible refine g_cl ?_); refine l_p txs rfl rfl ?_))))
      (with_reducible refine is_l ?_); refine l_t txs rfl rfl (fun h => ?_) (fun h => absurd rfl h)
      repeat' (first | (with_reducible first | refine p_tn ?_ | refine p_tr ?_ | refine wp_ret ?_ | refine l_nil ?_) | ((with_reducible refine g_on ?_); (first | ((with_reducible refine g_as ?_); refine l_p txs rfl rfl ?_) | ((with_reducible refine g_pk ?_); refine l_p txs rfl rfl ?_))))
      refine end1 rfl rfl ?_
      exact ⟨rfl, H.B⟩
    have hse : sortE ks = firstE ks := by unfold sortE; rw [if_neg (by omega)]
    generalize sortE ks = E at hs hse ⊢
    repeat' (first | (with_reducible first | refine p_tn ?_ | refine wp_seq ?_ | refine wp_block ?_ | refine w_reg ?_) | (with_reducible (refine is_if ?_; (refine w_iff rfl ?_))) | (with_reducible first | refine wp_skip ?_ | refine l_nil ?_) | ((with_reducible refine g_on ?_); ((with_reducible refine g_as ?_); refine l_p txs rfl rfl ?_)))
    refine w_loop (σ := Nat) (S := fun s => [(0, .slice A ks.length c), (4, .slice none 0 0), (5, .int .i64 E), (6, .int .i64 (s : Int))]) (J := fun s w' => Hp w w' [] [] ∧ s ≤ ks.length ∧ E = firstE (ks.drop s)) (μ := fun s => ks.length - s) 0 ⟨rfl, rfl, rfl, rfl, trivial⟩ ⟨H, Nat.zero_le _, hse⟩ ?_
    clear H
    rintro i f w_ ⟨H, hi, hf⟩
    repeat' (first | (with_reducible first | refine wp_seq ?_ | refine w_reg ?_) | ((with_reducible refine g_on ?_); (first | ((with_reducible refine g_mv ?_); refine l_p txs rfl rfl ?_) | ((with_reducible refine g_cl ?_); refine l_p txs rfl rfl ?_))))
    (with_reducible refine is_l ?_); refine l_t txs rfl rfl (fun hlt => ?_) (fun hge => ?_)
    · obtain ⟨x, hx⟩ : ∃ x, ks[i]? = some x := ⟨_, List.getElem?_eq_getElem (by omega)⟩
      obtain ⟨ad, rfl⟩ := rdT_some hR hx
      have hxm := List.mem_of_getElem? hx
      obtain ⟨bx, lx⟩ := hB x hxm
      rw [drop_of hx, firstE] at hf
      repeat' (first | (with_reducible first | refine p_tn ?_ | refine wp_seq ?_ | refine wp_block ?_ | refine w_reg ?_) | (with_reducible (refine is_if ?_; (refine w_ift rfl ?_))) | (with_reducible first | refine wp_skip ?_ | refine l_nil ?_) | ((with_reducible refine g_on ?_); (first | ((with_reducible refine g_mv ?_); refine l_p txs rfl rfl ?_) | ((with_reducible refine g_ia ?_); refine l_ia txs rfl rfl (by first | omega | assumption | decide) (by first | omega | assumption | decide) ?_))))
      (with_reducible refine is_l ?_); refine l_ld txs rfl rfl (by rw [Int.toNat_natCast]; exact H.old (rdT_cell hR hx)) ?_
      skip
      have hpk := ParseKey_c (hL.below H.B) (strOfNums x) (by rw [sizeS' bx]; exact lx)
      have he := parK_e (bl (strOfNums x))
      rw [blS bx] at hpk he
      generalize parK x = q at hpk he
      obtain ⟨q1, q2, q3⟩ := q
      have he : q3 = keyE x := he
      subst he
      (with_reducible refine is_l ?_); refine l_callv rfl rfl (by kernel_rfl) hpk (fun w_ K => ?_)
      have H := H.call K
      repeat' (first | (with_reducible first | refine p_tn ?_ | refine wp_seq ?_ | refine w_reg ?_ | refine l_nil ?_) | ((with_reducible refine g_on ?_); (first | ((with_reducible refine g_mv ?_); refine l_p txs rfl rfl ?_) | ((with_reducible refine g_as ?_); refine l_p txs rfl rfl ?_) | ((with_reducible refine g_ex ?_); refine l_p txs rfl rfl ?_))))
      (with_reducible refine is_l ?_); refine l_t txs rfl rfl (fun h0 => ?_) (fun h0 => ?_)
      · rw [if_pos h0] at hf
        subst hf
        repeat' (first | (with_reducible first | refine p_tn ?_ | refine wp_seq ?_ | refine w_reg ?_) | (with_reducible (refine is_if ?_; (refine w_ift rfl ?_))) | (with_reducible refine l_nil ?_) | ((with_reducible refine g_on ?_); ((with_reducible refine g_mv ?_); refine l_p txs rfl rfl ?_)))
        (with_reducible refine is_l ?_); refine l_t txs rfl rfl (fun h => ?_) (fun h => absurd rfl h)
        repeat' (first | ((with_reducible refine g_on ?_); ((with_reducible refine g_mv ?_); refine l_p txs rfl rfl ?_)) | ((with_reducible refine g_if ?_); (first | ((with_reducible refine g_mv ?_); refine l_p txs rfl rfl ?_) | ((with_reducible refine g_cl ?_); refine l_p txs rfl rfl ?_))))
        (with_reducible refine is_l ?_); refine l_t txs rfl rfl (fun h => ?_) (fun h => absurd rfl h)
        repeat' (first | (with_reducible first | refine p_tn ?_ | refine p_tr ?_ | refine p_br ?_ | refine wp_ret ?_ | refine l_nil ?_) | ((with_reducible refine g_on ?_); (first | ((with_reducible refine g_as ?_); refine l_p txs rfl rfl ?_) | ((with_reducible refine g_pk ?_); refine l_p txs rfl rfl ?_))))
        refine end1 rfl rfl ?_
        exact ⟨rfl, H.B⟩
      · rw [if_neg h0] at hf
        repeat' (first | (with_reducible first | refine p_tn ?_ | refine p_bn ?_ | refine w_reg ?_) | (with_reducible (refine is_if ?_; (refine w_iff rfl ?_))) | (with_reducible first | refine wp_skip ?_ | refine l_nil ?_) | ((with_reducible refine g_on ?_); (first | ((with_reducible refine g_mv ?_); refine l_p txs rfl rfl ?_) | ((with_reducible refine g_as ?_); refine l_p txs rfl rfl ?_) | ((with_reducible refine g_bi ?_); (refine l_a txs rfl rfl (by first | exact in_i64 (by omega) (by omega) | exact in_u8 (by omega) (by omega) | exact in_u64 (by omega) (by omega) | exact in_i32 (by omega) (by omega)) ?_)))))
        exact ⟨i + 1, _, rfl, ⟨rfl, rfl, rfl, rfl, trivial⟩, ⟨H, by omega, hf⟩, by omega⟩
    · rw [List.drop_eq_nil_of_le (by omega)] at hf
      exact absurd hf hs
end Go.Proofs.YtnimaenhijlcmaaGreatDoor.K
end
section
namespace Go.Proofs.YtnimaenhijlcmaaGreatDoor.Op
open Go.ChangeShapes Go.WideShapes Go.ChangeAt Go.RowKit
open Go.Proofs.YtnimaenhijlcmaaGreatDoor.K Go.Proofs.YtnimaenhijlcmaaGreatDoor.Q Go.Proofs.YtnimaenhijlcmaaGreatDoor.Mb Go.Proofs.YtnimaenhijlcmaaGreatDoor.LaidZ Go.Proofs.YtnimaenhijlcmaaGreatDoorW.PrintWords
set_option linter.unusedVariables false
set_option linter.unusedSimpArgs false
theorem part_le {H : Type} {d : DataW H} {l : List (DataW H)} (h : d ∈ l) : Rows.uptoBulk d ≤ Rows.uptoBulkAll l := by
  induction l with
  | nil => cases h
  | cons x r ih =>
    simp only [Rows.uptoBulkAll]
    cases List.mem_cons.1 h with
    | inl e => subst e; omega
    | inr e => have := ih e; omega
theorem strs_le {H : Type} : ∀ l : List ByteArray, l.length ≤ Rows.uptoBulkAll (strs (H := H) l) ∧ ∀ x ∈ l, x.size ≤ Rows.uptoBulkAll (strs (H := H) l)
  | [] => by simp [strs, Rows.uptoBulkAll]
  | s :: l => by
    obtain ⟨h1, h2⟩ := strs_le (H := H) l
    have e : Rows.uptoBulkAll (strs (H := H) (s :: l)) = (s.data.toList.length + 1) + Rows.uptoBulkAll (strs (H := H) l) := by simp only [strs, List.map_cons, Rows.uptoBulkAll, Rows.uptoBulk]
    rw [e, data_length]
    refine ⟨by simp only [List.length_cons]; omega, fun x hx => ?_⟩
    rcases List.mem_cons.1 hx with rfl | hx
    · omega
    · have := h2 x hx; omega
section
variable {H : Type} {enc : TypeId × Value → H} {W : World} {fuel : Nat} {cs : List Value} {x : DataW H × List MemPlace}
set_option maxRecDepth 100000 in
theorem strs_in (hf : DataW.trod enc Tryz.prog W 0 (fun _ => true) true fuel 25 cs = some x) :
    ∃ (A : Option Addr) (c : Nat) (l : List L), cs = [.slice A l.length c] ∧ l.length ≤ c ∧ Rd W A (strC l) ∧ l.length ≤ Rows.uptoBulk x.1 ∧ ∀ y ∈ l, Bytes y ∧ y.length ≤ Rows.uptoBulk x.1 := by
  rcases open_strings Tryz.underlying25 Tryz.underlying9 (by kernel_rfl) hf with ⟨rfl, hx⟩ | ⟨a, len, cap, ss, rfl, _, hl, hm, hz, rfl, hcell, hsz⟩
  · exact ⟨none, 0, [], rfl, Nat.le_refl _, ⟨fun _ => rfl, fun ad e => (by cases e)⟩, by simp, by simp⟩
  · simp only [if_true] at hz
    have hlen : ((ss.take len).map bl).length = len := by rw [List.length_map, List.length_take]; omega
    obtain ⟨h1, h2⟩ := strs_le (H := H) (ss.take len)
    have hb : Rows.uptoBulk (.slice (strs (H := H) (ss.take len)) (strs (ss.drop len))) = Rows.uptoBulkAll (strs (H := H) (ss.take len)) + Rows.uptoBulkAll (strs (H := H) (ss.drop len)) + 1 := by simp only [Rows.uptoBulk]
    refine ⟨some a, cap, (ss.take len).map bl, by rw [hlen], by rw [hlen]; omega, ⟨fun e => (by cases e), fun ad e i v hv => ?_⟩, ?_, fun y hy => ?_⟩
    · injection e with e
      subst e
      have hi : i < len := by
        have := (List.getElem?_eq_some_iff.1 hv).1
        simp only [strC, List.length_map, List.length_take] at this
        omega
      rw [hcell i (by omega)]
      simp only [strC, List.getElem?_map, List.getElem?_take_of_lt hi, Option.map_map, Option.map_eq_some_iff] at hv
      obtain ⟨s, hs, rfl⟩ := hv
      rw [List.getD_eq_getElem?_getD, hs]
      simp [strS]
    · rw [hb, List.length_map]; omega
    · obtain ⟨s, hs, rfl⟩ := List.mem_map.1 hy
      refine ⟨bl_bytes s, ?_⟩
      have := h2 s hs
      rw [bl_length, hb]
      omega
set_option maxRecDepth 100000 in
theorem open_strs {base : Nat} {v : Value} {d : DataW H} {ps : List MemPlace} (hval : Value.okWide Tryz.prog W .any base 25 v) (h : DataW.Trod enc Tryz.prog W 0 (fun _ => true) true 25 v d ps) :
    ∃ (A : Option Addr) (c : Nat) (l : List L), v = .slice A l.length c ∧ l.length ≤ c ∧ Rd W A (strC l) ∧ l.length ≤ Rows.uptoBulk d ∧ ∀ y ∈ l, Bytes y ∧ y.length ≤ Rows.uptoBulk d := by
  obtain ⟨a, len, cap, rfl⟩ := okWide_slice Tryz.underlying25 hval
  obtain ⟨fuel, hf⟩ := h
  obtain ⟨A, c, l, h1, h2⟩ := strs_in hf
  refine ⟨A, c, l, ?_, h2⟩
  have h3 : (Value.slice a len cap).cells.toList = [Value.slice a len cap] := rfl
  rw [h3] at h1
  exact (List.cons.inj h1).1
end
end Go.Proofs.YtnimaenhijlcmaaGreatDoor.Op
end
