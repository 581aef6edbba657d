/- Joined texts of mine, 5: Rq, Rr, QK, Rs, Ru, Yj, Yk, Yl, Rv, Rw, OpenS. -/
import Derived.Laws.IdiomCopy
import Derived.Test.YthgojbdpmcccaaaGreatDoorXp4
section
namespace Go.Proofs.YthgojbdpmcccaaaGreatDoor.K.Ref
open Go.RowKit Go.Proofs.YthgojbdpmcccaaaGreatDoor.Q Go.Proofs.YthgojbdpmcccaaaGreatDoor.Wb Go.Proofs.YthgojbdpmcccaaaGreatDoorW.PrintWords Go.Proofs.YthgojbdpmcccaaaGreatDoor.K
set_option linter.unusedVariables false
set_option linter.unusedSimpArgs false
section
variable {P : Program} {n : Nat} {f : Fr} {w : World} {o : Oper} {ops : Array Oper} {Q : Exit → Act → World → Prop} {rest : List Oper} {d : Option Nat} {op : Op} {tt : TypeId} {ps : String} {af : Array Edge} {gd : Option (Nat × Bool)}
def evQuo (n : Nat) (f : Fr) : Op → Option (IntKind × Int × Int)
  | .binOp .quo _ x y _ => match X n f x, X n f y with
    | .int k a, .int k2 b => bif decide (k = k2) then some (k, a, b) else none
    | _, _ => none
  | _ => none
theorem evQuo_run {k : IntKind} {a b : Int} (h : evQuo n f o.op = some (k, a, b)) (hb : b ≠ 0) : (execOp (X n f) o).run P w = .ok (.value (.int k (k.wrap (a.tdiv b)))) w := by
  unfold evQuo at h
  split at h
  · rename_i t0 x y t2 ho
    split at h
    · rename_i k1 a1 k2 b1 h1 h2
      by_cases hk : k1 = k2
      · subst hk
        simp only [decide_true, cond_true, Option.some.injEq, Prod.mk.injEq] at h
        obtain ⟨rfl, rfl, rfl⟩ := h
        unfold execOp
        rw [ho]
        simp [go_sem, eqGuard, binOp, Op.intDiv, h1, h2, hb]
      · simp [hk] at h
    · cases h
  · cases h
theorem l_quoT {k : IntKind} {a b : Int} (hw : want n ops f ⟨d, op, tt, ps, af, gd⟩ = true) (he : evQuo n f op = some (k, a, b)) (hb : b ≠ 0) (hi : inK k (a.tdiv b)) (h : WL P ops Q rest (act n (put f d (.int k (a.tdiv b)))) w) : WL P ops Q (⟨d, op, tt, ps, af, gd⟩ :: rest) (act n f) w :=
  l_val hw ((evQuo_run (o := ⟨d, op, tt, ps, af, gd⟩) he hb).trans (by rw [wrap_in hi])) h
end
def ddS (q : Nat) : L := if q = 0 then [] else decS q
theorem dd_step (q : Nat) : decS q = ddS (q / 10) ++ [48 + ((q % 10 : Nat) : Int)] := by
  rw [decS]
  unfold ddS
  by_cases h : q < 10
  · rw [if_pos h, if_pos (by omega), show q % 10 = q by omega]
    rfl
  · rw [if_neg h, if_neg (by omega)]
def FnI (N : Nat) (D : L) (q : Nat) : Prop := (D = [] ∧ q = N) ∨ (D ≠ [] ∧ ddS q ++ D.reverse = decS N)
theorem fnI_step {N q : Nat} {D : L} (h : FnI N D q) (hq : D ≠ [] → q ≠ 0) : FnI N (D ++ [48 + ((q % 10 : Nat) : Int)]) (q / 10) := by
  refine .inr ⟨by simp, ?_⟩
  rw [List.reverse_append, List.reverse_cons, List.reverse_nil, List.nil_append, ← List.append_assoc, ← dd_step]
  rcases h with ⟨rfl, rfl⟩ | ⟨h1, h2⟩
  · simp
  · have : ddS q = decS q := if_neg (hq h1)
    rw [← this, h2]
theorem fnI_len {N q : Nat} {D : L} (h : FnI N D q) : D.length ≤ (decS N).length := by
  rcases h with ⟨rfl, rfl⟩ | ⟨h1, h2⟩
  · simp
  · rw [← h2, List.length_append, List.length_reverse]; omega
theorem fnI_bytes {N q : Nat} {D : L} (h : FnI N D q) : Bytes D := by
  rcases h with ⟨rfl, rfl⟩ | ⟨h1, h2⟩
  · intro x hx; cases hx
  · intro x hx
    refine decS_bytes N x ?_
    rw [← h2]
    exact List.mem_append_right _ (List.mem_reverse.2 hx)
theorem tmod_neg (q : Nat) : (-(q : Int)).tmod 10 = -((q % 10 : Nat) : Int) := by
  rw [Int.neg_tmod, Int.tmod_eq_emod_of_nonneg (by omega)]
  omega
theorem tdiv_neg (q : Nat) : (-(q : Int)).tdiv 10 = -((q / 10 : Nat) : Int) := by
  rw [Int.neg_tdiv, Int.tdiv_eq_ediv_of_nonneg (by omega)]
  omega
set_option maxRecDepth 100000 in
set_option maxHeartbeats 8000000 in
theorem fmtNum_c (n : Int) (hn : -9223372036854775808 ≤ n ∧ n ≤ 9223372036854775807) (w : World) :
    Calls Tryz.prog 77 #[.int .i64 n] w fun e w' => e = .returned (.string (strOfNums (decI n))) ∧ Below w.heap.size w w' := by
  have hz : (decS n.natAbs).length ≤ 21 := by
    have := itoaI_size n hn.1 hn.2
    rw [sizeS' (decI_bytes n)] at this
    unfold decI at this
    split at this
    · rw [show n.natAbs = n.toNat by omega]; exact this
    · rw [show n.natAbs = (-n).toNat by omega]; rw [List.length_cons] at this; omega
  refine enter (args := [.int .i64 n]) Tryz.func77 rfl Tryz.ntmps77 rfl ?_
  have H := (Hp.nil w).nilRow 5 1
  repeat' (first | (with_reducible first | refine p_tn ?_ | refine wp_seq ?_ | refine w_reg ?_ | refine l_nil ?_) | ((with_reducible refine g_on ?_); (first | ((with_reducible refine g_mv ?_); refine l_p txs rfl rfl ?_) | ((with_reducible refine g_as ?_); refine l_p txs rfl rfl ?_))))
  (with_reducible refine is_l ?_); refine l_t txs rfl rfl (fun h0 => ?_) (fun h0 => ?_)
  have hM : Value.int .i64 (-n) = .int .i64 (-(n.natAbs : Int)) := by congr 1; omega
  rotate_left
  have hM : Value.int .i64 n = .int .i64 (-(n.natAbs : Int)) := by congr 1; omega
  all_goals
    repeat' (first | (with_reducible first | refine p_tn ?_ | refine wp_seq ?_ | refine wp_block ?_ | refine w_reg ?_) | (with_reducible (refine is_if ?_; (first | (refine w_ift rfl ?_) | (refine w_iff rfl ?_)))) | (with_reducible first | refine wp_skip ?_ | refine l_nil ?_) | ((with_reducible refine g_on ?_); (first | ((with_reducible refine g_mv ?_); refine l_p txs rfl rfl ?_) | ((with_reducible refine g_as ?_); refine l_p txs rfl rfl ?_) | ((with_reducible refine g_un ?_); (refine l_a txs rfl rfl (by first | exact in_i64 (by omega) (by omega) | exact in_u8 (by omega) (by omega) | exact in_u64 (by omega) (by omega) | exact in_i32 (by omega) (by omega)) ?_)))))
    refine w_loop (σ := L × Nat × Option Addr × Nat) (S := fun s => [(0, .int .i64 n), (3, .int .i64 (-(s.2.1 : Int))), (4, .slice s.2.2.1 s.1.length s.2.2.2)])
      (J := fun s w' => Hp w w' [] [rowB (.slice s.2.2.1 s.1.length s.2.2.2) s.1] ∧ FnI n.natAbs s.1 s.2.1 ∧ s.2.1 ≤ n.natAbs) (μ := fun s => s.2.1 + (if s.1 = [] then 1 else 0)) ([], n.natAbs, none, 0) ⟨rfl, hM, rfl, trivial⟩ ⟨H, .inl ⟨rfl, rfl⟩, Nat.le_refl _⟩ ?_
    rintro ⟨D, q, A2, c2⟩ f w_ ⟨H, hI, hqN⟩
    simp only at H hI hqN ⊢
    have hDl := fnI_len hI
    have hDb := fnI_bytes hI
    repeat' (first | (with_reducible first | refine wp_seq ?_ | refine w_reg ?_) | ((with_reducible refine g_on ?_); (first | ((with_reducible refine g_mv ?_); refine l_p txs rfl rfl ?_) | ((with_reducible refine g_cl ?_); refine l_p txs rfl rfl ?_))))
    (with_reducible refine is_l ?_); refine l_t txs rfl rfl (fun h1 => ?_) (fun h1 => ?_)
    have hst : D ≠ [] → q ≠ 0 := fun h => absurd (List.eq_nil_of_length_eq_zero (by omega)) h
    rotate_left
    have hD1 : D ≠ [] := fun e => h1 (by rw [e]; rfl)
    repeat' (first | (with_reducible first | refine p_tn ?_ | refine wp_seq ?_ | refine wp_block ?_ | refine w_reg ?_) | (with_reducible (refine is_if ?_; (refine w_ift rfl ?_))) | (with_reducible first | refine wp_skip ?_ | refine l_nil ?_) | ((with_reducible refine g_on ?_); (first | ((with_reducible refine g_mv ?_); refine l_p txs rfl rfl ?_) | ((with_reducible refine g_pk ?_); refine l_p txs rfl rfl ?_))) | ((with_reducible refine g_if ?_); (first | (refine l_off rfl ?_) | ((with_reducible refine g_mv ?_); refine l_p txs rfl rfl ?_))))
    (with_reducible refine is_l ?_); refine l_t txs rfl rfl (fun h2 => ?_) (fun h2 => ?_)
    have hst : D ≠ [] → q ≠ 0 := fun _ => by omega
    rotate_left
    · skip
      have hq0 : q = 0 := by omega
      subst hq0
      have hrev : D.reverse = decS n.natAbs := by
        rcases hI with ⟨e, _⟩ | ⟨_, e⟩
        · exact absurd e hD1
        · rw [← e]; rfl
      have H := (H.nilRow 5 1)
      repeat' (first | (with_reducible first | refine p_tn ?_ | refine p_tx ?_ | refine x_hit ?_ | refine wp_seq ?_ | refine w_reg ?_) | (with_reducible (refine is_if ?_; (refine w_iff rfl ?_))) | (with_reducible first | refine wp_exit ?_ | refine l_nil ?_) | ((with_reducible refine g_on ?_); (first | ((with_reducible refine g_mv ?_); refine l_p txs rfl rfl ?_) | ((with_reducible refine g_as ?_); refine l_p txs rfl rfl ?_) | ((with_reducible refine g_pk ?_); refine l_p txs rfl rfl ?_))))
      (with_reducible refine is_l ?_); refine l_t txs rfl rfl (fun h3 => ?_) (fun h3 => ?_)
      repeat' (first | (with_reducible first | refine p_tn ?_ | refine wp_seq ?_ | refine wp_block ?_ | refine w_reg ?_) | (with_reducible (refine is_if ?_; (first | (refine w_ift rfl ?_) | (refine w_iff rfl ?_)))) | (with_reducible first | refine wp_skip ?_ | refine l_nil ?_) | ((with_reducible refine g_on ?_); (first | ((with_reducible refine g_mv ?_); refine l_p txs rfl rfl ?_) | ((with_reducible refine g_as ?_); refine l_p txs rfl rfl ?_) | ((with_reducible refine g_cl ?_); refine l_p txs rfl rfl ?_) | ((with_reducible refine g_bi ?_); (refine l_a txs rfl rfl (by first | exact in_i64 (by omega) (by omega) | exact in_u8 (by omega) (by omega) | exact in_u64 (by omega) (by omega) | exact in_i32 (by omega) (by omega)) ?_)))))
      (with_reducible refine is_l ?_); refine h_bs H info_u8 Tryz.underlying23 (by decide) (by decide) rfl rfl (by kernel_rfl) (fun g_ w_ H => ?_)
      (with_reducible refine is_l ?_); refine h_app H 0 rfl info_u8 Tryz.underlying23 rfl rfl rfl rfl (H.cellRd 0 rfl) rfl rfl (by decide) (fun v w_ hv H => ?_)
      obtain ⟨A3, c3, rfl⟩ := hv
      have H : Hp w w_ [] [rowB (.slice A3 ([45] : L).length c3) [45], rowB (.slice A2 D.length c2) D] := H.pick [] [0, 1] (by decide) (by decide) rfl rfl
      obtain ⟨sgn, hsg⟩ : ∃ s : L, s = [45] := ⟨_, rfl⟩
      have hsl : sgn.length = 1 := by rw [hsg]; rfl
      have hsgn : sgn ++ D.reverse = decI n := by
        rw [hsg, hrev]; unfold decI; rw [if_neg (by omega), show n.natAbs = (-n).toNat by omega]; rfl
      rw [← hsg] at H
      have hs5 : Value.slice A3 (0 + 1) c3 = Value.slice A3 sgn.length c3 := by rw [hsl]
      rotate_left
      obtain ⟨A3, hA3⟩ : ∃ a : Option Addr, a = none := ⟨_, rfl⟩
      obtain ⟨c3, hc3⟩ : ∃ c : Nat, c = 0 := ⟨_, rfl⟩
      obtain ⟨sgn, hsg⟩ : ∃ s : L, s = [] := ⟨_, rfl⟩
      have hsl : sgn.length = 0 := by rw [hsg]; rfl
      have hsgn : sgn ++ D.reverse = decI n := by
        rw [hsg, hrev]; unfold decI; rw [if_pos (by omega), show n.natAbs = n.toNat by omega]; rfl
      have H : Hp w w_ [] [rowB (.slice A3 sgn.length c3) sgn, rowB (.slice A2 D.length c2) D] := by rw [hsg, hA3, hc3]; exact H
      have hs5 : Value.slice none 0 0 = Value.slice A3 sgn.length c3 := by rw [hsl, hA3, hc3]
      all_goals
        repeat' (first | (with_reducible first | refine p_tn ?_ | refine wp_seq ?_ | refine wp_block ?_ | refine w_reg ?_ | refine l_nil ?_) | ((with_reducible refine g_on ?_); (first | ((with_reducible refine g_mv ?_); refine l_p txs rfl rfl ?_) | ((with_reducible refine g_as ?_); refine l_p txs rfl rfl ?_) | ((with_reducible refine g_cl ?_); refine l_p txs rfl rfl ?_) | ((with_reducible refine g_bi ?_); (refine l_a txs rfl rfl (by first | exact in_i64 (by omega) (by omega) | exact in_u8 (by omega) (by omega) | exact in_u64 (by omega) (by omega) | exact in_i32 (by omega) (by omega)) ?_)))))
        refine w_loop (σ := Nat × L × Option Addr × Nat) (S := fun s => [(4, .slice A2 D.length c2), (5, .slice s.2.2.1 s.2.1.length s.2.2.2), (6, .int .i64 ((s.1 : Int) - 1))])
          (J := fun s w' => Hp w w' [] [rowB (.slice s.2.2.1 s.2.1.length s.2.2.2) s.2.1, rowB (.slice A2 D.length c2) D] ∧ s.1 ≤ D.length ∧ s.2.1.length ≤ 1 + D.length - s.1 ∧ s.2.1 ++ (D.take s.1).reverse = decI n) (μ := fun s => s.1) (D.length, sgn, A3, c3) ⟨rfl, hs5, rfl, trivial⟩ ⟨H, Nat.le_refl _, by show sgn.length ≤ _; omega, by show sgn ++ (D.take D.length).reverse = _; rw [List.take_length]; exact hsgn⟩ ?_
        rintro ⟨k, O, A5, c5⟩ f w_ ⟨H, hk, hO, hR⟩
        simp only at H hk hO hR ⊢
        repeat' (first | (with_reducible first | refine wp_seq ?_ | refine w_reg ?_) | ((with_reducible refine g_on ?_); ((with_reducible refine g_mv ?_); refine l_p txs rfl rfl ?_)))
        (with_reducible refine is_l ?_); refine l_t txs rfl rfl (fun hlt => ?_) (fun hge => ?_)
        · obtain ⟨j, rfl⟩ : ∃ j, k = j + 1 := ⟨k - 1, by omega⟩
          obtain ⟨y, hy⟩ : ∃ y, D[j]? = some y := ⟨_, List.getElem?_eq_getElem (by omega)⟩
          have hyb := hDb y (List.mem_of_getElem? hy)
          obtain ⟨hr1, _, _⟩ := rowB_rd H 1 (F := A2) (f := c2) (x := D) rfl
          obtain ⟨a2, e2, hcell⟩ := hr1.2.2 (by omega)
          subst e2
          have hc := hcell j (by omega)
          rw [List.getD_eq_getElem?_getD, hy, Option.getD_some] at hc
          have hto : (((j + 1 : Nat) : Int) - 1).toNat = j := by omega
          repeat' (first | (with_reducible first | refine p_tn ?_ | refine wp_seq ?_ | refine wp_block ?_ | refine w_reg ?_) | (with_reducible (refine is_if ?_; (refine w_ift rfl ?_))) | (with_reducible first | refine wp_skip ?_ | refine l_nil ?_) | ((with_reducible refine g_on ?_); (first | ((with_reducible refine g_mv ?_); refine l_p txs rfl rfl ?_) | ((with_reducible refine g_ia ?_); refine l_ia txs rfl rfl (by first | omega | assumption | decide) (by first | omega | assumption | decide) ?_))))
          (with_reducible refine is_l ?_); refine l_ld txs rfl rfl (by rw [hto]; simpa using hc) ?_
          skip
          (with_reducible refine is_l ?_); refine h_bs H info_u8 Tryz.underlying23 (by decide) (by decide) rfl rfl (by kernel_rfl) (fun g_ w_ H => ?_)
          (with_reducible refine is_l ?_); refine h_app H 0 rfl info_u8 Tryz.underlying23 rfl rfl rfl rfl (H.cellRd 0 rfl) rfl rfl (by show (O.length + 1) * 1 ≤ _; omega) (fun v w_ hv H => ?_)
          obtain ⟨A', c', rfl⟩ := hv
          have H := H.pick [] [0, 1] (by decide) (by decide) rfl rfl
          repeat' (first | (with_reducible first | refine p_tn ?_ | refine p_bn ?_ | refine w_reg ?_ | refine l_nil ?_) | ((with_reducible refine g_on ?_); (first | ((with_reducible refine g_mv ?_); refine l_p txs rfl rfl ?_) | ((with_reducible refine g_as ?_); refine l_p txs rfl rfl ?_) | ((with_reducible refine g_bi ?_); (refine l_a txs rfl rfl (by first | exact in_i64 (by omega) (by omega) | exact in_u8 (by omega) (by omega) | exact in_u64 (by omega) (by omega) | exact in_i32 (by omega) (by omega)) ?_)))))
          have hlen : (O ++ [y]).length = O.length + 1 := by simp
          have hN2 : nums .u8 (O ++ [y]) = nums .u8 O ++ [.int .u8 y] := by rw [nums_append]; rfl
          refine ⟨(j, O ++ [y], A', c'), _, rfl, ⟨rfl, ?_, ?_, trivial⟩, ⟨?_, by show j ≤ _; omega, by show (O ++ [y]).length ≤ _; omega, ?_⟩, by show j < j + 1; omega⟩
          · show Value.slice A' (O.length + 1) c' = Value.slice A' (O ++ [y]).length c'
            rw [hlen]
          · show Value.int .i64 (((j + 1 : Nat) : Int) - 1 - 1) = Value.int .i64 ((j : Int) - 1)
            congr 1; omega
          · show Hp w _ [] [rowB (.slice A' (O ++ [y]).length c') (O ++ [y]), _]
            unfold rowB
            rw [hlen, hN2]
            exact H
          · show O ++ [y] ++ (D.take j).reverse = _
            rw [← hR, List.take_succ_eq_append_getElem (by omega), (List.getElem?_eq_some_iff.1 hy).2]
            simp
        · have hk0 : k = 0 := by omega
          subst hk0
          rw [List.take_zero, List.reverse_nil, List.append_nil] at hR
          subst hR
          repeat' (first | (with_reducible first | refine p_tn ?_ | refine p_tx ?_ | refine x_hit ?_ | refine wp_seq ?_ | refine w_reg ?_) | (with_reducible (refine is_if ?_; (refine w_iff rfl ?_))) | (with_reducible first | refine wp_exit ?_ | refine l_nil ?_) | ((with_reducible refine g_on ?_); ((with_reducible refine g_mv ?_); refine l_p txs rfl rfl ?_)))
          (with_reducible refine is_l ?_); refine l_text rfl rfl Tryz.underlying23 Tryz.underlying5 Tryz.underlying9 (rowB_rd H 0 (F := A5) (f := c5) (x := decI n) rfl).1 ?_
          repeat' (first | (with_reducible first | refine p_tn ?_ | refine wp_ret ?_ | refine l_nil ?_) | ((with_reducible refine g_on ?_); ((with_reducible refine g_as ?_); refine l_p txs rfl rfl ?_)))
          refine end1 rfl rfl ?_
          exact ⟨rfl, H.B⟩
    all_goals
      repeat' (first | (with_reducible first | refine p_tn ?_ | refine wp_seq ?_ | refine wp_block ?_ | refine w_reg ?_) | (with_reducible (refine is_if ?_; (refine w_ift rfl ?_))) | (with_reducible first | refine wp_skip ?_ | refine l_nil ?_) | ((with_reducible refine g_on ?_); (first | ((with_reducible refine g_mv ?_); refine l_p txs rfl rfl ?_) | ((with_reducible refine g_pk ?_); refine l_p txs rfl rfl ?_))))
      (with_reducible refine is_l ?_); refine l_remT rfl rfl (by decide) ?_
      rw [tmod_neg]
      have hr10 : q % 10 < 10 := Nat.mod_lt _ (by decide)
      repeat' ((with_reducible refine g_on ?_); ((with_reducible refine g_bi ?_); (refine l_a txs rfl rfl (by first | exact in_i64 (by omega) (by omega) | exact in_u8 (by omega) (by omega) | exact in_u64 (by omega) (by omega) | exact in_i32 (by omega) (by omega)) ?_)))
      (with_reducible refine is_l ?_); refine l_cvi Tryz.underlying2 Tryz.underlying5 rfl rfl ?_
      rw [wrap_in (in_u8 (by omega) (by omega)), show (48 : Int) - -((q % 10 : Nat) : Int) = 48 + ((q % 10 : Nat) : Int) by omega]
      skip
      (with_reducible refine is_l ?_); refine h_bs H info_u8 Tryz.underlying23 (by decide) (by decide) rfl rfl (by kernel_rfl) (fun g_ w_ H => ?_)
      (with_reducible refine is_l ?_); refine h_app H 0 rfl info_u8 Tryz.underlying23 rfl rfl rfl rfl (H.cellRd 0 rfl) rfl rfl (by show (D.length + 1) * 1 ≤ _; omega) (fun v w_ hv H => ?_)
      obtain ⟨A', c', rfl⟩ := hv
      have H := H.pick [] [0] (by decide) (by decide) rfl rfl
      repeat' (first | (with_reducible first | refine p_tn ?_ | refine w_reg ?_ | refine l_nil ?_) | ((with_reducible refine g_on ?_); (first | ((with_reducible refine g_mv ?_); refine l_p txs rfl rfl ?_) | ((with_reducible refine g_as ?_); refine l_p txs rfl rfl ?_))))
      (with_reducible refine is_l ?_); refine l_quoT rfl rfl (by decide) (by rw [tdiv_neg]; exact in_i64 (by omega) (by omega)) ?_
      rw [tdiv_neg]
      repeat' (first | (with_reducible first | refine p_tn ?_ | refine p_bn ?_ | refine l_nil ?_) | ((with_reducible refine g_on ?_); ((with_reducible refine g_as ?_); refine l_p txs rfl rfl ?_)))
      have hlen : (D ++ [48 + ((q % 10 : Nat) : Int)]).length = D.length + 1 := by simp
      have hN2 : nums .u8 (D ++ [48 + ((q % 10 : Nat) : Int)]) = nums .u8 D ++ [.int .u8 (48 + ((q % 10 : Nat) : Int))] := by rw [nums_append]; rfl
      have hI2 := fnI_step hI hst
      refine ⟨(D ++ [48 + ((q % 10 : Nat) : Int)], q / 10, A', c'), _, rfl, ⟨rfl, rfl, ?_, trivial⟩, ⟨?_, hI2, by show q / 10 ≤ _; omega⟩, ?_⟩
      · show Value.slice A' (D.length + 1) c' = Value.slice A' (D ++ [48 + ((q % 10 : Nat) : Int)]).length c'
        rw [hlen]
      · show Hp w _ [] [rowB (.slice A' (D ++ [48 + ((q % 10 : Nat) : Int)]).length c') (D ++ [48 + ((q % 10 : Nat) : Int)])]
        unfold rowB
        rw [hlen, hN2]
        exact H
      · show q / 10 + (if D ++ [48 + ((q % 10 : Nat) : Int)] = [] then 1 else 0) < q + (if D = [] then 1 else 0)
        rw [if_neg (by simp)]
        by_cases hD : D = []
        · rw [if_pos hD]; omega
        · have := hst hD; rw [if_neg hD]; omega
end Go.Proofs.YthgojbdpmcccaaaGreatDoor.K.Ref
end
section
namespace Go.Proofs.YthgojbdpmcccaaaGreatDoor.K.Ref
open Go.RowKit Go.Proofs.YthgojbdpmcccaaaGreatDoor.Q Go.Proofs.YthgojbdpmcccaaaGreatDoor.Wb Go.Proofs.YthgojbdpmcccaaaGreatDoorW.PrintWords Go.Proofs.YthgojbdpmcccaaaGreatDoor.K
set_option linter.unusedVariables false
set_option linter.unusedSimpArgs false
theorem printed_told (l : List Fld) (v : Int) : printedS l (toldI v) = keptS l ++ if 0 ≤ v then [(nLenP, decI v)] else [] := by
  unfold toldI printedS keptS decI
  by_cases h : 0 ≤ v
  · rw [if_pos h, if_pos h, if_pos h]
  · rw [if_neg h, if_neg h]
set_option maxHeartbeats 8000000 in
theorem rprinted_c {w : World} {B : Option Addr} {c : Nat} {l : List Fld} (h : Rd w B (fldC l)) (hb : BytesF l) (hl : l.length ≤ 10000000) (v : Int) (hv : -9223372036854775808 ≤ v ∧ v ≤ 9223372036854775807) :
    Calls Tryz.prog 76 #[.slice B l.length c, .int .i64 v] w fun e w' => ∃ A1 c1, e = .returned (.slice A1 (printedS l (toldI v)).length c1) ∧ Hp w w' [] [rowG (.slice A1 (printedS l (toldI v)).length c1) (printedS l (toldI v))] := by
  refine enter (args := [.slice B l.length c, .int .i64 v]) Tryz.func76 rfl Tryz.ntmps76 rfl ?_
  have H := (Hp.nil w).nilRow 145 2
  have hpt := printed_told l v
  repeat' (first | (with_reducible first | refine p_tn ?_ | refine wp_seq ?_ | refine wp_block ?_ | refine w_reg ?_ | refine l_nil ?_) | ((with_reducible refine g_on ?_); ((with_reducible refine g_as ?_); refine l_p txs rfl rfl ?_)))
  refine w_loop (σ := Nat × Option Addr × Nat) (S := fun s => [(0, .slice B l.length c), (1, .int .i64 v), (5, .slice s.2.1 (keptS (l.take s.1)).length s.2.2), (6, .int .i64 (s.1 : Int))])
    (J := fun s w' => Hp w w' [] [rowG (.slice s.2.1 (keptS (l.take s.1)).length s.2.2) (keptS (l.take s.1))] ∧ s.1 ≤ l.length) (μ := fun s => l.length - s.1) (0, none, 0) ⟨rfl, rfl, rfl, rfl, trivial⟩ ⟨H, by omega⟩ ?_
  rintro ⟨i, A2, c2⟩ f w_ ⟨H, hi⟩
  simp only at H hi ⊢
  repeat' (first | (with_reducible first | refine wp_seq ?_ | refine w_reg ?_) | ((with_reducible refine g_on ?_); (first | ((with_reducible refine g_mv ?_); refine l_p txs rfl rfl ?_) | ((with_reducible refine g_cl ?_); refine l_p txs rfl rfl ?_))))
  (with_reducible refine is_l ?_); refine l_t txs rfl rfl (fun hlt => ?_) (fun hge => ?_)
  · obtain ⟨x, hx⟩ : ∃ x, l[i]? = some x := ⟨_, List.getElem?_eq_getElem (by omega)⟩
    obtain ⟨a1, rfl⟩ := rd_some h (i := i) (by omega)
    obtain ⟨bx1, bx2, lx1, lx2⟩ := hb x (List.mem_of_getElem? hx)
    have zx1 := sizeS' bx1
    have zx2 := sizeS' bx2
    have hkt := kept_take hx
    have hkl := kept_len (l.take i)
    rw [List.length_take_of_le (by omega)] at hkl
    have hc1 := fld_part h hx 0 _ rfl
    have hc2 := fld_part h hx 1 _ rfl
    repeat' (first | (with_reducible first | refine p_tn ?_ | refine wp_seq ?_ | refine wp_block ?_ | refine w_reg ?_) | (with_reducible (refine is_if ?_; (refine w_ift rfl ?_))) | (with_reducible first | refine wp_skip ?_ | refine l_nil ?_) | ((with_reducible refine g_on ?_); (first | ((with_reducible refine g_mv ?_); refine l_p txs rfl rfl ?_) | ((with_reducible refine g_ia ?_); refine l_ia txs rfl rfl (by first | omega | assumption | decide) (by first | omega | assumption | decide) ?_))))
    (with_reducible refine is_l ?_); refine h_fg flds rfl rfl ?_
    (with_reducible refine is_l ?_); refine l_ld txs rfl rfl (by rw [Int.toNat_natCast]; exact H.old hc1) ?_
    skip
    have hlow := rsmall_c (strOfNums x.1) w_ (by omega)
    rw [blS bx1] at hlow
    (with_reducible refine is_l ?_); refine l_callv rfl rfl (by kernel_rfl) hlow (fun w_ K => ?_)
    have H := H.call K
    repeat' (first | (with_reducible first | refine p_tn ?_ | refine wp_seq ?_ | refine w_reg ?_ | refine l_nil ?_) | ((with_reducible refine g_on ?_); (first | ((with_reducible refine g_mv ?_); refine l_p txs rfl rfl ?_) | ((with_reducible refine g_as ?_); refine l_p txs rfl rfl ?_))))
    have e1 := blS (bytes_low bx1)
    have e2 : bl (⟨#[99, 111, 110, 116, 101, 110, 116, 45, 108, 101, 110, 103, 116, 104]⟩ : ByteArray) = nLen := by kernel_rfl
    have e3 : bl (⟨#[116, 114, 97, 110, 115, 102, 101, 114, 45, 101, 110, 99, 111, 100, 105, 110, 103]⟩ : ByteArray) = nCode := by kernel_rfl
    have skip : keptF x = false → Hp w w_ [] [rowG (.slice A2 (keptS (l.take (i + 1))).length c2) (keptS (l.take (i + 1)))] ∧ Value.slice A2 (keptS (l.take i)).length c2 = Value.slice A2 (keptS (l.take (i + 1))).length c2 := fun hf => by
      rw [hkt, hf]
      simp only [Bool.false_eq_true, if_false, List.append_nil]
      exact ⟨H.pick [] [0] (by decide) (by decide) rfl rfl, trivial⟩
    (with_reducible refine is_l ?_); refine l_t txs rfl rfl (fun h1 => ?_) (fun h1 => ?_)
    rotate_left
    · have hf : keptF x = false := by
        rw [e1, e2] at h1
        unfold keptF
        simp [Classical.not_not.1 h1]
      obtain ⟨k1, k2⟩ := skip hf
      repeat' (first | (with_reducible first | refine p_tn ?_ | refine p_bn ?_ | refine w_reg ?_) | (with_reducible (refine is_if ?_; (refine w_iff rfl ?_))) | (with_reducible first | refine wp_skip ?_ | refine l_nil ?_) | ((with_reducible refine g_on ?_); (first | ((with_reducible refine g_mv ?_); refine l_p txs rfl rfl ?_) | ((with_reducible refine g_as ?_); refine l_p txs rfl rfl ?_) | ((with_reducible refine g_pk ?_); refine l_p txs rfl rfl ?_) | ((with_reducible refine g_bi ?_); (refine l_a txs rfl rfl (by first | exact in_i64 (by omega) (by omega) | exact in_u8 (by omega) (by omega) | exact in_u64 (by omega) (by omega) | exact in_i32 (by omega) (by omega)) ?_)))) | ((with_reducible refine g_if ?_); (refine l_off rfl ?_)))
      refine ⟨(i + 1, A2, c2), _, rfl, ⟨rfl, rfl, k2, rfl, trivial⟩, ⟨k1, by show i + 1 ≤ _; omega⟩, by show _ - (i + 1) < _ - i; omega⟩
    rw [e1, e2] at h1
    repeat' (first | ((with_reducible refine g_on ?_); ((with_reducible refine g_mv ?_); refine l_p txs rfl rfl ?_)) | ((with_reducible refine g_if ?_); ((with_reducible refine g_mv ?_); refine l_p txs rfl rfl ?_)))
    (with_reducible refine is_l ?_); refine l_t txs rfl rfl (fun h2 => ?_) (fun h2 => ?_)
    rotate_left
    · have hf : keptF x = false := by
        rw [e1, e3] at h2
        unfold keptF
        simp [Classical.not_not.1 h2]
      obtain ⟨k1, k2⟩ := skip hf
      repeat' (first | (with_reducible first | refine p_tn ?_ | refine p_bn ?_ | refine w_reg ?_) | (with_reducible (refine is_if ?_; (refine w_iff rfl ?_))) | (with_reducible first | refine wp_skip ?_ | refine l_nil ?_) | ((with_reducible refine g_on ?_); (first | ((with_reducible refine g_mv ?_); refine l_p txs rfl rfl ?_) | ((with_reducible refine g_as ?_); refine l_p txs rfl rfl ?_) | ((with_reducible refine g_pk ?_); refine l_p txs rfl rfl ?_) | ((with_reducible refine g_bi ?_); (refine l_a txs rfl rfl (by first | exact in_i64 (by omega) (by omega) | exact in_u8 (by omega) (by omega) | exact in_u64 (by omega) (by omega) | exact in_i32 (by omega) (by omega)) ?_)))))
      refine ⟨(i + 1, A2, c2), _, rfl, ⟨rfl, rfl, k2, rfl, trivial⟩, ⟨k1, by show i + 1 ≤ _; omega⟩, by show _ - (i + 1) < _ - i; omega⟩
    rw [e1, e3] at h2
    have hf : keptF x = true := by
      unfold keptF
      simp [h1, h2]
    rw [hf, if_pos rfl] at hkt
    have htr := fun w1 => rtrim_c (strOfNums x.2) w1 (by omega)
    rw [blS bx2] at htr
    repeat' (first | (with_reducible refine p_tn ?_) | (with_reducible (refine is_if ?_; (refine w_ift rfl ?_))) | (with_reducible refine l_nil ?_) | ((with_reducible refine g_on ?_); ((with_reducible refine g_pk ?_); refine l_p txs rfl rfl ?_)))
    have HS := H.pick [] [] (by decide) (by decide) rfl rfl
    refine d_start (fun w_ => Hp w w_ _ _) #[false, false, false, false, false, false, false, false, false, false, false, false, false, false, false, false] (by kernel_rfl) rfl rfl HS.drew ?_
    have H := H.drew
    have HS := HS.drew
    first | (refine d_pure (i := 0) #[true, false, false, false, false, false, false, false, false, false, false, false, false, false, false, false] rfl (by kernel_rfl) (fun _ _ _ h => h) rfl (fun w_ => evP_run (o := ⟨_, _, _, _, _, _⟩) txs rfl) ?_)
    first | (refine d_pure (i := 1) #[true, true, false, false, false, false, false, false, false, false, false, false, false, false, false, false] rfl (by kernel_rfl) (fun _ _ _ h => h) rfl (fun w_ => evP_run (o := ⟨_, _, _, _, _, _⟩) txs rfl) ?_)
    first | (refine d_pure (i := 2) #[true, true, true, false, false, false, false, false, false, false, false, false, false, false, false, false] rfl (by kernel_rfl) (fun _ _ _ h => h) rfl (fun w_ => evP_run (o := ⟨_, _, _, _, _, _⟩) txs rfl) ?_)
    first | (refine d_pure (i := 3) #[true, true, true, true, false, false, false, false, false, false, false, false, false, false, false, false] rfl (by kernel_rfl) (fun _ _ _ h => h) rfl (fun w_ => evIA_run (o := ⟨_, _, _, _, _, _⟩) txs rfl (by omega) (by omega)) ?_)
    first | (refine d_pure (i := 4) #[true, true, true, true, true, false, false, false, false, false, false, false, false, false, false, false] rfl (by kernel_rfl) (fun _ _ _ h => h) rfl (fun w_ => evF_run (o := ⟨_, _, _, _, _, _⟩) flds rfl) ?_) | (refine d_pure (i := 4) #[true, true, true, true, true, false, false, false, false, false, false, false, false, false, false, false] rfl (by kernel_rfl) (fun _ _ _ h => h) rfl (fun w_ => evG_run (o := ⟨_, _, _, _, _, _⟩) flds rfl) ?_)
    first | (refine d_take (i := 5) #[true, true, true, true, true, true, false, false, false, false, false, false, false, false, false, false] rfl (by kernel_rfl) (fun _ _ _ h => h) rfl (fun w_ K => evL_run (o := ⟨_, _, _, _, _, _⟩) txs rfl (by rw [Int.toNat_natCast]; exact K.old hc1)) HS ?_)
    first | (refine d_pure (i := 6) #[true, true, true, true, true, true, true, false, false, false, false, false, false, false, false, false] rfl (by kernel_rfl) (fun _ _ _ h => h) rfl (fun w_ => evP_run (o := ⟨_, _, _, _, _, _⟩) txs rfl) ?_)
    first | (refine d_pure (i := 7) #[true, true, true, true, true, true, true, true, false, false, false, false, false, false, false, false] rfl (by kernel_rfl) (fun _ _ _ h => h) rfl (fun w_ => evP_run (o := ⟨_, _, _, _, _, _⟩) txs rfl) ?_)
    first | (refine d_pure (i := 8) #[true, true, true, true, true, true, true, true, true, false, false, false, false, false, false, false] rfl (by kernel_rfl) (fun _ _ _ h => h) rfl (fun w_ => evIA_run (o := ⟨_, _, _, _, _, _⟩) txs rfl (by omega) (by omega)) ?_)
    first | (refine d_pure (i := 9) #[true, true, true, true, true, true, true, true, true, true, false, false, false, false, false, false] rfl (by kernel_rfl) (fun _ _ _ h => h) rfl (fun w_ => evF_run (o := ⟨_, _, _, _, _, _⟩) flds rfl) ?_) | (refine d_pure (i := 9) #[true, true, true, true, true, true, true, true, true, true, false, false, false, false, false, false] rfl (by kernel_rfl) (fun _ _ _ h => h) rfl (fun w_ => evG_run (o := ⟨_, _, _, _, _, _⟩) flds rfl) ?_)
    first | (refine d_take (i := 10) #[true, true, true, true, true, true, true, true, true, true, true, false, false, false, false, false] rfl (by kernel_rfl) (fun _ _ _ h => h) rfl (fun w_ K => evL_run (o := ⟨_, _, _, _, _, _⟩) txs rfl (by rw [Int.toNat_natCast]; exact K.old hc2)) HS ?_)
    refine d_one (i := 11) #[true, true, true, true, true, true, true, true, true, true, true, true, false, false, false, false] rfl (by kernel_rfl) rfl ?_
    refine l_callv rfl rfl (by kernel_rfl) (htr _) (fun w_ K => ?_); have H := H.call K
    refine l_nil ?_
    have HS := H.pick [] [] (by decide) (by decide) rfl rfl
    refine ⟨rfl, HS, ?_⟩
    first | (refine d_pure (i := 12) #[true, true, true, true, true, true, true, true, true, true, true, true, true, false, false, false] rfl (by kernel_rfl) (fun _ _ _ h => h) rfl (fun w_ => evBld_run (o := ⟨_, _, _, _, _, _⟩) rfl (built_g2 _ _)) ?_)
    refine d_one (i := 13) #[true, true, true, true, true, true, true, true, true, true, true, true, true, true, false, false] rfl (by kernel_rfl) rfl ?_
    refine h_bs H info_g Tryz.underlying84 (by decide) (by decide) rfl rfl (fill_f _ _) (fun g_ w_ H => ?_)
    refine l_nil ?_
    have HS := H.pick [] [] (by decide) (by decide) rfl rfl
    refine ⟨rfl, HS, ?_⟩
    refine d_one (i := 14) #[true, true, true, true, true, true, true, true, true, true, true, true, true, true, true, false] rfl (by kernel_rfl) rfl ?_
    (refine h_app H 0 rfl info_g Tryz.underlying84 rfl rfl rfl rfl (H.cellRd 0 rfl) rfl rfl (by show ((keptS (l.take i)).length + 1) * 32 ≤ _; omega) (fun v w_ hv H => ?_)); obtain ⟨A', c', rfl⟩ := hv
    refine l_nil ?_
    have HS := H.pick [] [] (by decide) (by decide) rfl rfl
    refine ⟨rfl, HS, ?_⟩
    first | (refine d_pure (i := 15) #[true, true, true, true, true, true, true, true, true, true, true, true, true, true, true, true] rfl (by kernel_rfl) (fun _ _ _ h => h) rfl (fun w_ => evP_run (o := ⟨_, _, _, _, _, _⟩) txs rfl) ?_)
    refine d_done rfl ?_
    repeat' (first | (with_reducible first | refine p_tn ?_ | refine p_bn ?_ | refine w_reg ?_ | refine l_nil ?_) | ((with_reducible refine g_on ?_); (first | ((with_reducible refine g_mv ?_); refine l_p txs rfl rfl ?_) | ((with_reducible refine g_as ?_); refine l_p txs rfl rfl ?_) | ((with_reducible refine g_bi ?_); (refine l_a txs rfl rfl (by first | exact in_i64 (by omega) (by omega) | exact in_u8 (by omega) (by omega) | exact in_u64 (by omega) (by omega) | exact in_i32 (by omega) (by omega)) ?_)))))
    have H := H.pick [] [0] (by decide) (by decide) rfl rfl
    have hlen : (keptS (l.take (i + 1))).length = (keptS (l.take i)).length + 1 := by rw [hkt]; simp
    refine ⟨(i + 1, A', c'), _, rfl, ⟨rfl, rfl, ?_, rfl, trivial⟩, ⟨?_, by show i + 1 ≤ _; omega⟩, by show _ - (i + 1) < _ - i; omega⟩
    · show Value.slice A' ((keptS (l.take i)).length + 1) c' = Value.slice A' (keptS (l.take (i + 1))).length c'
      rw [hlen]
    · show Hp w _ [] [rowG (.slice A' (keptS (l.take (i + 1))).length c') (keptS (l.take (i + 1)))]
      unfold rowG
      rw [hlen, hkt, fldC_snoc]
      exact H
  · have hall : l.take i = l := List.take_of_length_le (by omega)
    simp only [hall] at H ⊢
    have hkl := kept_len l
    repeat' (first | (with_reducible first | refine p_tn ?_ | refine p_tx ?_ | refine x_hit ?_ | refine wp_seq ?_ | refine w_reg ?_) | (with_reducible (refine is_if ?_; (refine w_iff rfl ?_))) | (with_reducible first | refine wp_exit ?_ | refine l_nil ?_) | ((with_reducible refine g_on ?_); ((with_reducible refine g_mv ?_); refine l_p txs rfl rfl ?_)))
    (with_reducible refine is_l ?_); refine l_t txs rfl rfl (fun h0 => ?_) (fun h0 => ?_)
    rotate_left
    · rw [if_neg h0, List.append_nil] at hpt
      repeat' (first | (with_reducible first | refine p_tn ?_ | refine wp_seq ?_ | refine w_reg ?_) | (with_reducible (refine is_if ?_; (refine w_iff rfl ?_))) | (with_reducible first | refine wp_skip ?_ | refine wp_ret ?_ | refine l_nil ?_) | ((with_reducible refine g_on ?_); (first | ((with_reducible refine g_mv ?_); refine l_p txs rfl rfl ?_) | ((with_reducible refine g_as ?_); refine l_p txs rfl rfl ?_))))
      refine end1 rfl rfl ?_
      rw [hpt]
      exact ⟨A2, c2, rfl, H⟩
    · rw [if_pos h0] at hpt
      repeat' (first | (with_reducible first | refine p_tn ?_ | refine w_reg ?_) | (with_reducible (refine is_if ?_; (refine w_ift rfl ?_))) | (with_reducible refine l_nil ?_) | ((with_reducible refine g_on ?_); ((with_reducible refine g_mv ?_); refine l_p txs rfl rfl ?_)))
      (with_reducible refine is_l ?_); refine l_callv rfl rfl (by kernel_rfl) (fmtNum_c v hv _) (fun w_ K => ?_)
      have H := H.call K
      skip
      (with_reducible refine is_l ?_); refine h_bld rfl rfl (built_g2 _ _) ?_
      skip
      (with_reducible refine is_l ?_); refine h_bs H info_g Tryz.underlying84 (by decide) (by decide) rfl rfl (fill_f _ _) (fun g_ w_ H => ?_)
      (with_reducible refine is_l ?_); refine h_app H 0 rfl info_g Tryz.underlying84 rfl rfl rfl rfl (H.cellRd 0 rfl) rfl rfl (by show ((keptS l).length + 1) * 32 ≤ _; omega) (fun v w_ hv H => ?_)
      obtain ⟨A', c', rfl⟩ := hv
      repeat' (first | (with_reducible first | refine p_tn ?_ | refine wp_seq ?_ | refine w_reg ?_ | refine wp_ret ?_ | refine l_nil ?_) | ((with_reducible refine g_on ?_); (first | ((with_reducible refine g_mv ?_); refine l_p txs rfl rfl ?_) | ((with_reducible refine g_as ?_); refine l_p txs rfl rfl ?_))))
      refine end1 rfl rfl ?_
      have hlen : (keptS l ++ [(nLenP, decI v)]).length = (keptS l).length + 1 := by simp
      rw [hpt]
      unfold rowG
      rw [hlen, fldC_snoc]
      exact ⟨A', c', rfl, H.pick [] [0] (by decide) (by decide) rfl rfl⟩
set_option maxHeartbeats 4000000 in
theorem rheadBytes_c {w : World} {B : Option Addr} {c : Nat} {l : List Fld} (h : Rd w B (fldC l)) (hb : BytesF l) (hl : l.length ≤ 10000000) :
    Calls Tryz.prog 78 #[.slice B l.length c] w fun e w' => e = .returned (.int .i64 (headLen l : Int)) ∧ Below w.heap.size w w' := by
  refine enter (args := [.slice B l.length c]) Tryz.func78 rfl Tryz.ntmps78 rfl ?_
  have H := Hp.nil w
  repeat' (first | (with_reducible first | refine p_tn ?_ | refine wp_seq ?_ | refine wp_block ?_ | refine w_reg ?_ | refine l_nil ?_) | ((with_reducible refine g_on ?_); ((with_reducible refine g_as ?_); refine l_p txs rfl rfl ?_)))
  refine w_loop (σ := Nat) (S := fun s => [(0, .slice B l.length c), (3, .int .i64 (headLen (l.take s) : Int)), (4, .int .i64 (s : Int))]) (J := fun s w' => Hp w w' [] [] ∧ s ≤ l.length) (μ := fun s => l.length - s) 0 ⟨rfl, rfl, rfl, trivial⟩ ⟨H, by omega⟩ ?_
  rintro i f w_ ⟨H, hi⟩
  repeat' (first | (with_reducible first | refine wp_seq ?_ | refine w_reg ?_) | ((with_reducible refine g_on ?_); (first | ((with_reducible refine g_mv ?_); refine l_p txs rfl rfl ?_) | ((with_reducible refine g_cl ?_); refine l_p txs rfl rfl ?_))))
  (with_reducible refine is_l ?_); refine l_t txs rfl rfl (fun hlt => ?_) (fun hge => ?_)
  · obtain ⟨x, hx⟩ : ∃ x, l[i]? = some x := ⟨_, List.getElem?_eq_getElem (by omega)⟩
    obtain ⟨a1, rfl⟩ := rd_some h (i := i) (by omega)
    obtain ⟨bx1, bx2, lx1, lx2⟩ := hb x (List.mem_of_getElem? hx)
    have zx1 := sizeS' bx1
    have zx2 := sizeS' bx2
    have ht := headLen_take hx
    have hle := headLen_le (l := l.take i) (fun y hy => hb y (List.mem_of_mem_take hy))
    rw [List.length_take_of_le (by omega)] at hle
    have hc1 := fld_part h hx 0 _ rfl
    have hc2 := fld_part h hx 1 _ rfl
    repeat' (first | (with_reducible first | refine p_tn ?_ | refine wp_seq ?_ | refine wp_block ?_) | (with_reducible (refine is_if ?_; (refine w_ift rfl ?_))) | (with_reducible first | refine wp_skip ?_ | refine l_nil ?_))
    have HS := H.pick [] [] (by decide) (by decide) rfl rfl
    refine d_start (fun w_ => Hp w w_ _ _) #[false, false, false, false, false, false, false, false, false, false, false, false, false, false, false, false, false] (by kernel_rfl) rfl rfl HS.drew ?_
    have H := H.drew
    have HS := HS.drew
    first | (refine d_pure (i := 0) #[true, false, false, false, false, false, false, false, false, false, false, false, false, false, false, false, false] rfl (by kernel_rfl) (fun _ _ _ h => h) rfl (fun w_ => evP_run (o := ⟨_, _, _, _, _, _⟩) txs rfl) ?_)
    first | (refine d_pure (i := 1) #[true, true, false, false, false, false, false, false, false, false, false, false, false, false, false, false, false] rfl (by kernel_rfl) (fun _ _ _ h => h) rfl (fun w_ => evP_run (o := ⟨_, _, _, _, _, _⟩) txs rfl) ?_)
    first | (refine d_pure (i := 2) #[true, true, true, false, false, false, false, false, false, false, false, false, false, false, false, false, false] rfl (by kernel_rfl) (fun _ _ _ h => h) rfl (fun w_ => evP_run (o := ⟨_, _, _, _, _, _⟩) txs rfl) ?_)
    first | (refine d_pure (i := 3) #[true, true, true, true, false, false, false, false, false, false, false, false, false, false, false, false, false] rfl (by kernel_rfl) (fun _ _ _ h => h) rfl (fun w_ => evIA_run (o := ⟨_, _, _, _, _, _⟩) txs rfl (by omega) (by omega)) ?_)
    first | (refine d_pure (i := 4) #[true, true, true, true, true, false, false, false, false, false, false, false, false, false, false, false, false] rfl (by kernel_rfl) (fun _ _ _ h => h) rfl (fun w_ => evF_run (o := ⟨_, _, _, _, _, _⟩) flds rfl) ?_) | (refine d_pure (i := 4) #[true, true, true, true, true, false, false, false, false, false, false, false, false, false, false, false, false] rfl (by kernel_rfl) (fun _ _ _ h => h) rfl (fun w_ => evG_run (o := ⟨_, _, _, _, _, _⟩) flds rfl) ?_)
    first | (refine d_take (i := 5) #[true, true, true, true, true, true, false, false, false, false, false, false, false, false, false, false, false] rfl (by kernel_rfl) (fun _ _ _ h => h) rfl (fun w_ K => evL_run (o := ⟨_, _, _, _, _, _⟩) txs rfl (by rw [Int.toNat_natCast]; exact K.old hc1)) HS ?_)
    first | (refine d_pure (i := 6) #[true, true, true, true, true, true, true, false, false, false, false, false, false, false, false, false, false] rfl (by kernel_rfl) (fun _ _ _ h => h) rfl (fun w_ => evP_run (o := ⟨_, _, _, _, _, _⟩) txs rfl) ?_)
    first | (refine d_pure (i := 7) #[true, true, true, true, true, true, true, true, false, false, false, false, false, false, false, false, false] rfl (by kernel_rfl) (fun _ _ _ h => h) rfl (fun w_ => evP_run (o := ⟨_, _, _, _, _, _⟩) txs rfl) ?_) | (refine d_pure (i := 7) #[true, true, true, true, true, true, true, true, false, false, false, false, false, false, false, false, false] rfl (by kernel_rfl) (fun _ _ _ h => h) rfl (fun w_ => (evA_run (o := ⟨_, _, _, _, _, _⟩) txs rfl).trans (by rw [wrap_in (by first | exact in_i64 (by omega) (by omega) | exact in_u8 (by omega) (by omega) | exact in_u64 (by omega) (by omega) | exact in_i32 (by omega) (by omega))])) ?_)
    first | (refine d_pure (i := 8) #[true, true, true, true, true, true, true, true, true, false, false, false, false, false, false, false, false] rfl (by kernel_rfl) (fun _ _ _ h => h) rfl (fun w_ => evP_run (o := ⟨_, _, _, _, _, _⟩) txs rfl) ?_)
    first | (refine d_pure (i := 9) #[true, true, true, true, true, true, true, true, true, true, false, false, false, false, false, false, false] rfl (by kernel_rfl) (fun _ _ _ h => h) rfl (fun w_ => evP_run (o := ⟨_, _, _, _, _, _⟩) txs rfl) ?_)
    first | (refine d_pure (i := 10) #[true, true, true, true, true, true, true, true, true, true, true, false, false, false, false, false, false] rfl (by kernel_rfl) (fun _ _ _ h => h) rfl (fun w_ => evIA_run (o := ⟨_, _, _, _, _, _⟩) txs rfl (by omega) (by omega)) ?_)
    first | (refine d_pure (i := 11) #[true, true, true, true, true, true, true, true, true, true, true, true, false, false, false, false, false] rfl (by kernel_rfl) (fun _ _ _ h => h) rfl (fun w_ => evF_run (o := ⟨_, _, _, _, _, _⟩) flds rfl) ?_) | (refine d_pure (i := 11) #[true, true, true, true, true, true, true, true, true, true, true, true, false, false, false, false, false] rfl (by kernel_rfl) (fun _ _ _ h => h) rfl (fun w_ => evG_run (o := ⟨_, _, _, _, _, _⟩) flds rfl) ?_)
    first | (refine d_take (i := 12) #[true, true, true, true, true, true, true, true, true, true, true, true, true, false, false, false, false] rfl (by kernel_rfl) (fun _ _ _ h => h) rfl (fun w_ K => evL_run (o := ⟨_, _, _, _, _, _⟩) txs rfl (by rw [Int.toNat_natCast]; exact K.old hc2)) HS ?_)
    first | (refine d_pure (i := 13) #[true, true, true, true, true, true, true, true, true, true, true, true, true, true, false, false, false] rfl (by kernel_rfl) (fun _ _ _ h => h) rfl (fun w_ => evP_run (o := ⟨_, _, _, _, _, _⟩) txs rfl) ?_)
    first | (refine d_pure (i := 14) #[true, true, true, true, true, true, true, true, true, true, true, true, true, true, true, false, false] rfl (by kernel_rfl) (fun _ _ _ h => h) rfl (fun w_ => evP_run (o := ⟨_, _, _, _, _, _⟩) txs rfl) ?_) | (refine d_pure (i := 14) #[true, true, true, true, true, true, true, true, true, true, true, true, true, true, true, false, false] rfl (by kernel_rfl) (fun _ _ _ h => h) rfl (fun w_ => (evA_run (o := ⟨_, _, _, _, _, _⟩) txs rfl).trans (by rw [wrap_in (by first | exact in_i64 (by omega) (by omega) | exact in_u8 (by omega) (by omega) | exact in_u64 (by omega) (by omega) | exact in_i32 (by omega) (by omega))])) ?_)
    first | (refine d_pure (i := 15) #[true, true, true, true, true, true, true, true, true, true, true, true, true, true, true, true, false] rfl (by kernel_rfl) (fun _ _ _ h => h) rfl (fun w_ => evP_run (o := ⟨_, _, _, _, _, _⟩) txs rfl) ?_) | (refine d_pure (i := 15) #[true, true, true, true, true, true, true, true, true, true, true, true, true, true, true, true, false] rfl (by kernel_rfl) (fun _ _ _ h => h) rfl (fun w_ => (evA_run (o := ⟨_, _, _, _, _, _⟩) txs rfl).trans (by rw [wrap_in (by first | exact in_i64 (by omega) (by omega) | exact in_u8 (by omega) (by omega) | exact in_u64 (by omega) (by omega) | exact in_i32 (by omega) (by omega))])) ?_)
    first | (refine d_pure (i := 16) #[true, true, true, true, true, true, true, true, true, true, true, true, true, true, true, true, true] rfl (by kernel_rfl) (fun _ _ _ h => h) rfl (fun w_ => evP_run (o := ⟨_, _, _, _, _, _⟩) txs rfl) ?_)
    refine d_done rfl ?_
    repeat' (first | (with_reducible first | refine p_tn ?_ | refine p_bn ?_ | refine w_reg ?_ | refine l_nil ?_) | ((with_reducible refine g_on ?_); (first | ((with_reducible refine g_mv ?_); refine l_p txs rfl rfl ?_) | ((with_reducible refine g_as ?_); refine l_p txs rfl rfl ?_) | ((with_reducible refine g_bi ?_); (refine l_a txs rfl rfl (by first | exact in_i64 (by omega) (by omega) | exact in_u8 (by omega) (by omega) | exact in_u64 (by omega) (by omega) | exact in_i32 (by omega) (by omega)) ?_)))))
    refine ⟨i + 1, _, rfl, ⟨rfl, ?_, rfl, trivial⟩, ⟨H.pick [] [] (by decide) (by decide) rfl rfl, by omega⟩, by omega⟩
    show Value.int .i64 _ = Value.int .i64 _
    congr 1
    omega
  · have hall : l.take i = l := List.take_of_length_le (by omega)
    rw [hall]
    repeat' (first | (with_reducible first | refine p_tn ?_ | refine p_tx ?_ | refine x_hit ?_ | refine wp_seq ?_ | refine w_reg ?_) | (with_reducible (refine is_if ?_; (refine w_iff rfl ?_))) | (with_reducible first | refine wp_exit ?_ | refine wp_ret ?_ | refine l_nil ?_) | ((with_reducible refine g_on ?_); (first | ((with_reducible refine g_mv ?_); refine l_p txs rfl rfl ?_) | ((with_reducible refine g_as ?_); refine l_p txs rfl rfl ?_))))
    refine end1 rfl rfl ?_
    exact ⟨rfl, H.B⟩
def chkI (l : List Fld) : Int := if 64 < l.length then 2 else if l.all goodF then 0 else 143
set_option maxHeartbeats 4000000 in
theorem rchecked_c {w : World} {B : Option Addr} {c : Nat} {l : List Fld} (h : Rd w B (fldC l)) (hb : BytesF l) :
    Calls Tryz.prog 82 #[.slice B l.length c] w fun e w' => e = .returned (.int .i64 (chkI l)) ∧ Below w.heap.size w w' := by
  refine enter (args := [.slice B l.length c]) Tryz.func82 rfl Tryz.ntmps82 rfl ?_
  have H := Hp.nil w
  repeat' (first | (with_reducible first | refine p_tn ?_ | refine wp_seq ?_ | refine w_reg ?_ | refine l_nil ?_) | ((with_reducible refine g_on ?_); (first | ((with_reducible refine g_mv ?_); refine l_p txs rfl rfl ?_) | ((with_reducible refine g_as ?_); refine l_p txs rfl rfl ?_) | ((with_reducible refine g_cl ?_); refine l_p txs rfl rfl ?_))))
  (with_reducible refine is_l ?_); refine l_t txs rfl rfl (fun hbig => ?_) (fun hbig => ?_)
  · have he : chkI l = 2 := by unfold chkI; rw [if_pos (by omega)]
    repeat' (first | (with_reducible first | refine p_tn ?_ | refine p_tr ?_ | refine wp_seq ?_ | refine w_reg ?_) | (with_reducible (refine is_if ?_; (refine w_ift rfl ?_))) | (with_reducible first | refine wp_ret ?_ | refine l_nil ?_) | ((with_reducible refine g_on ?_); ((with_reducible refine g_as ?_); refine l_p txs rfl rfl ?_)))
    refine end1 rfl rfl ?_
    exact ⟨by rw [he], H.B⟩
  · have he : chkI l = if l.all goodF then 0 else 143 := by unfold chkI; rw [if_neg (by omega)]
    repeat' (first | (with_reducible first | refine p_tn ?_ | refine wp_seq ?_ | refine wp_block ?_ | refine w_reg ?_) | (with_reducible (refine is_if ?_; (refine w_iff rfl ?_))) | (with_reducible first | refine wp_skip ?_ | refine l_nil ?_) | ((with_reducible refine g_on ?_); ((with_reducible refine g_as ?_); refine l_p txs rfl rfl ?_)))
    refine w_loop (σ := Nat) (S := fun s => [(0, .slice B l.length c), (3, .int .i64 (s : Int))]) (J := fun s w' => Hp w w' [] [] ∧ s ≤ l.length ∧ l.all goodF = (l.drop s).all goodF) (μ := fun s => l.length - s) 0 ⟨rfl, rfl, trivial⟩ ⟨H, by omega, rfl⟩ ?_
    rintro i f w_ ⟨H, hi, hD⟩
    repeat' (first | (with_reducible first | refine wp_seq ?_ | refine w_reg ?_) | ((with_reducible refine g_on ?_); (first | ((with_reducible refine g_mv ?_); refine l_p txs rfl rfl ?_) | ((with_reducible refine g_cl ?_); refine l_p txs rfl rfl ?_))))
    (with_reducible refine is_l ?_); refine l_t txs rfl rfl (fun hlt => ?_) (fun hge => ?_)
    · obtain ⟨x, hx⟩ : ∃ x, l[i]? = some x := ⟨_, List.getElem?_eq_getElem (by omega)⟩
      obtain ⟨a1, rfl⟩ := rd_some h (i := i) (by omega)
      obtain ⟨bx1, bx2, lx1, lx2⟩ := hb x (List.mem_of_getElem? hx)
      have zx1 := sizeS' bx1
      have zx2 := sizeS' bx2
      have hdrop : l.drop i = x :: l.drop (i + 1) := by
        have hil : i < l.length := by omega
        rw [List.drop_eq_getElem_cons hil]
        congr 1
        rw [List.getElem?_eq_getElem hil] at hx
        exact Option.some.inj hx
      rw [hdrop, List.all_cons] at hD
      have hc1 := fld_part h hx 0 _ rfl
      have hc2 := fld_part h hx 1 _ rfl
      repeat' (first | (with_reducible first | refine p_tn ?_ | refine wp_seq ?_ | refine wp_block ?_ | refine w_reg ?_) | (with_reducible (refine is_if ?_; (refine w_ift rfl ?_))) | (with_reducible first | refine wp_skip ?_ | refine l_nil ?_) | ((with_reducible refine g_on ?_); (first | ((with_reducible refine g_mv ?_); refine l_p txs rfl rfl ?_) | ((with_reducible refine g_ia ?_); refine l_ia txs rfl rfl (by first | omega | assumption | decide) (by first | omega | assumption | decide) ?_))))
      (with_reducible refine is_l ?_); refine h_fg flds rfl rfl ?_
      (with_reducible refine is_l ?_); refine l_ld txs rfl rfl (by rw [Int.toNat_natCast]; exact H.old hc1) ?_
      skip
      have ht := rtoken_c (strOfNums x.1) w_ (by omega)
      rw [blS bx1] at ht
      (with_reducible refine is_l ?_); refine l_callv rfl rfl (by kernel_rfl) ht (fun w_ K => ?_)
      have H := H.call K
      cases hk : tokS x.1
      · have hg : goodF x = false := by unfold goodF; rw [hk]; rfl
        rw [hg, Bool.false_and] at hD
        repeat' (first | (with_reducible first | refine p_tn ?_ | refine p_tr ?_ | refine p_br ?_ | refine wp_seq ?_ | refine w_reg ?_) | (with_reducible (refine is_if ?_; (refine w_ift rfl ?_))) | (with_reducible first | refine wp_ret ?_ | refine l_nil ?_) | ((with_reducible refine g_on ?_); (first | ((with_reducible refine g_mv ?_); refine l_p txs rfl rfl ?_) | ((with_reducible refine g_as ?_); refine l_p txs rfl rfl ?_) | ((with_reducible refine g_pk ?_); refine l_p txs rfl rfl ?_) | ((with_reducible refine g_un ?_); (refine l_p txs rfl rfl ?_)))) | ((with_reducible refine g_if ?_); (refine l_off rfl ?_)))
        refine end1 rfl rfl ?_
        exact ⟨by rw [he, hD]; rfl, H.B⟩
      · repeat' (first | ((with_reducible refine g_on ?_); (first | ((with_reducible refine g_mv ?_); refine l_p txs rfl rfl ?_) | ((with_reducible refine g_un ?_); (refine l_p txs rfl rfl ?_)))) | ((with_reducible refine g_if ?_); (first | ((with_reducible refine g_mv ?_); refine l_p txs rfl rfl ?_) | ((with_reducible refine g_ia ?_); refine l_ia txs rfl rfl (by first | omega | assumption | decide) (by first | omega | assumption | decide) ?_))))
        (with_reducible refine is_l ?_); refine h_fg flds rfl rfl ?_
        (with_reducible refine is_l ?_); refine l_ld txs rfl rfl (by rw [Int.toNat_natCast]; exact H.old hc2) ?_
        skip
        have ha := rvalued_c (strOfNums x.2) w_ (by omega)
        rw [blS bx2] at ha
        (with_reducible refine is_l ?_); refine l_callv rfl rfl (by kernel_rfl) ha (fun w_ K => ?_)
        have H := H.call K
        cases hv : x.2.all valB
        · have hg : goodF x = false := by unfold goodF; rw [hk, hv]; rfl
          rw [hg, Bool.false_and] at hD
          repeat' (first | (with_reducible first | refine p_tn ?_ | refine p_tr ?_ | refine p_br ?_ | refine wp_seq ?_ | refine w_reg ?_) | (with_reducible (refine is_if ?_; (refine w_ift rfl ?_))) | (with_reducible first | refine wp_ret ?_ | refine l_nil ?_) | ((with_reducible refine g_on ?_); (first | ((with_reducible refine g_as ?_); refine l_p txs rfl rfl ?_) | ((with_reducible refine g_pk ?_); refine l_p txs rfl rfl ?_))) | ((with_reducible refine g_if ?_); ((with_reducible refine g_un ?_); (refine l_p txs rfl rfl ?_))))
          refine end1 rfl rfl ?_
          exact ⟨by rw [he, hD]; rfl, H.B⟩
        · have hg : goodF x = true := by unfold goodF; rw [hk, hv]; rfl
          rw [hg, Bool.true_and] at hD
          repeat' (first | (with_reducible first | refine p_tn ?_ | refine p_bn ?_ | refine w_reg ?_) | (with_reducible (refine is_if ?_; (refine w_iff rfl ?_))) | (with_reducible first | refine wp_skip ?_ | refine l_nil ?_) | ((with_reducible refine g_on ?_); (first | ((with_reducible refine g_mv ?_); refine l_p txs rfl rfl ?_) | ((with_reducible refine g_as ?_); refine l_p txs rfl rfl ?_) | ((with_reducible refine g_pk ?_); refine l_p txs rfl rfl ?_) | ((with_reducible refine g_bi ?_); (refine l_a txs rfl rfl (by first | exact in_i64 (by omega) (by omega) | exact in_u8 (by omega) (by omega) | exact in_u64 (by omega) (by omega) | exact in_i32 (by omega) (by omega)) ?_)))) | ((with_reducible refine g_if ?_); ((with_reducible refine g_un ?_); (refine l_p txs rfl rfl ?_))))
          refine ⟨i + 1, _, rfl, ⟨rfl, rfl, trivial⟩, ⟨H.pick [] [] (by decide) (by decide) rfl rfl, by omega, hD⟩, by omega⟩
    · have hnil : l.drop i = [] := List.drop_eq_nil_of_le (by omega)
      rw [hnil] at hD
      repeat' (first | (with_reducible first | refine p_tn ?_ | refine p_tx ?_ | refine x_hit ?_ | refine wp_seq ?_ | refine w_reg ?_) | (with_reducible (refine is_if ?_; (refine w_iff rfl ?_))) | (with_reducible first | refine wp_exit ?_ | refine wp_ret ?_ | refine l_nil ?_) | ((with_reducible refine g_on ?_); ((with_reducible refine g_as ?_); refine l_p txs rfl rfl ?_)))
      refine end1 rfl rfl ?_
      exact ⟨by rw [he, hD]; rfl, H.B⟩
end Go.Proofs.YthgojbdpmcccaaaGreatDoor.K.Ref
end
section
namespace Go.Proofs.YthgojbdpmcccaaaGreatDoor.Q
open Go.RowKit Go.Proofs.YthgojbdpmcccaaaGreatDoorW.PrintWords Go.Proofs.YthgojbdpmcccaaaGreatDoorW.PrintLast
set_option linter.unusedVariables false
set_option linter.unusedSimpArgs false
theorem Hp.other {w0 w w' : World} {l : List Ent} {r : List RowD} (H : Hp w0 w l r) {g : Nat} (hg : w.grownBy w' (some g)) (hge : w0.heap.size ≤ g) (hl : ∀ (i : Nat) (p : Ent), l[i]? = some p → p.1 ≠ g) (hr : ∀ (i : Nat) (d : RowD), r[i]? = some d → d.v.ownBlock ≠ some g) : Hp w0 w' l r := by
  refine ⟨H.B.grown hg H.B.size (fun b e => by cases e; exact hge), fun i p h => ⟨(H.blk i p h).1, blk_grown (H.blk i p h).2 hg (fun e => hl i p h (Option.some.inj e))⟩, fun i d h => ?_, H.ndl, H.ndr, H.ndm⟩
  refine own_other (H.row i d h) hg ?_
  cases e : d.v.ownBlock with
  | none => exact .inl rfl
  | some b => exact .inr (fun e2 => hr i d h (by rw [e, e2]))
section
variable {P : Program} {w : World}
theorem blk_setM {g : Nat} {t : TypeId} {fr : Nat × Nat} {cs : Array Value} (h : w.heap[g]? = some (.cells cs t fr)) (o : Nat) (v : Value) : (w.setCell ⟨g, o, none⟩ v).heap[g]? = some (.cells (cs.setIfInBounds o v) t fr) := by
  simp [World.setCell, Array.getElem?_modify, h]
theorem heap_setM {g : Nat} {t : TypeId} {fr : Nat × Nat} : ∀ (vs : List Value) (o : Nat) (w : World) (cur : List Value), w.heap[g]? = some (.cells cur.toArray t fr) → o + vs.length ≤ cur.length → (w.setCells g o vs).heap[g]? = some (.cells (cur.take o ++ vs ++ cur.drop (o + vs.length)).toArray t fr)
  | [], o, w, cur, h, _ => by simpa [World.setCells] using h
  | v :: vs, o, w, cur, h, hl => by
    have h1 : (w.setCell ⟨g, o, none⟩ v).heap[g]? = some (.cells (cur.set o v).toArray t fr) := by
      have := blk_setM h o v
      rw [this]; simp
    have h2 := heap_setM vs (o + 1) _ (cur.set o v) h1 (by simp at hl ⊢; omega)
    show ((w.setCell ⟨g, o, none⟩ v).setCells g (o + 1) vs).heap[g]? = _
    rw [h2]
    have hol : o < cur.length := by simp at hl; omega
    have e1 : (cur.set o v).take (o + 1) = cur.take o ++ [v] := by
      rw [List.take_set, List.take_succ_eq_append_getElem hol, List.set_append_right _ _ (by simp; omega)]
      simp [Nat.min_eq_left (Nat.le_of_lt hol)]
    have e2 : (cur.set o v).drop (o + 1 + vs.length) = cur.drop (o + (v :: vs).length) := by
      rw [List.drop_set_of_lt (by omega)]
      congr 1
      simp; omega
    rw [e1, e2]
    simp
end
end Go.Proofs.YthgojbdpmcccaaaGreatDoor.Q
end
section
namespace Go.Proofs.YthgojbdpmcccaaaGreatDoor.K.Ref
open Go.RowKit Go.Proofs.YthgojbdpmcccaaaGreatDoor.Q Go.Proofs.YthgojbdpmcccaaaGreatDoor.Wb Go.Proofs.YthgojbdpmcccaaaGreatDoorW.PrintWords Go.Proofs.YthgojbdpmcccaaaGreatDoor.K
set_option linter.unusedVariables false
set_option linter.unusedSimpArgs false
def BytX (e : TypeId) (base : Nat) (w : World) (xs : L) (g c : Nat) : Prop := ∃ (cur : Array Value) (fr : Nat × Nat), base ≤ g ∧ w.heap[g]? = some (.cells cur e fr) ∧ (fr.2 = 0 ∨ c ≤ fr.1) ∧ xs.length ≤ c ∧ cur.size = c ∧ cur.toList.take xs.length = nums .u8 xs
theorem BytX.below {e : TypeId} {base : Nat} {w w' : World} {xs : L} {g c : Nat} (h : BytX e base w xs g c) (K : Below w.heap.size w w') : BytX e base w' xs g c := by
  obtain ⟨cur, fr, h1, h2, h3⟩ := h
  exact ⟨cur, fr, h1, (K.block _ (blk_lt h2)).trans h2, h3⟩
theorem BytX.rd {e : TypeId} {base : Nat} {w : World} {xs : L} {g c : Nat} (h : BytX e base w xs g c) : Rd w (some ⟨g, 0, none⟩) (nums .u8 xs) := by
  obtain ⟨cur, fr, h1, h2, h3, h4, h5, h6⟩ := h
  refine ⟨fun e => (by cases e), fun ad e i v hv => ?_⟩
  injection e with e
  subst e
  have hi : i < xs.length := by have := (List.getElem?_eq_some_iff.1 hv).1; simpa [nums] using this
  rw [add_lit, Nat.zero_add]
  rw [← h6, List.getElem?_take_of_lt hi] at hv
  simp only [World.cell?, h2]
  simpa using hv
section
variable {P : Program} {w w0 : World}
theorem one_nums (l : L) : ∀ v ∈ nums .u8 l, v.oneCell' = true := fun v hv => by
  obtain ⟨m, _, rfl⟩ := List.mem_map.1 hv
  rfl
theorem bytX_store (K0 : Below w0.heap.size w0 w) {e : TypeId} {g c : Nat} {xs ys : L} (hB : BytX e w0.heap.size w xs g c) (hroom : xs.length + ys.length ≤ c) :
    (storeCells ⟨g, xs.length, none⟩ (nums .u8 ys) 0).run P w = .ok () (w.setCells g xs.length (nums .u8 ys)) ∧ Below w0.heap.size w0 (w.setCells g xs.length (nums .u8 ys)) ∧ BytX e w0.heap.size (w.setCells g xs.length (nums .u8 ys)) (xs ++ ys) g c := by
  obtain ⟨cur, fr, h1, h2, h3, h4, h5, h6⟩ := hB
  have hyl : (nums .u8 ys).length = ys.length := by simp [nums]
  have hst := run_storeCells_cells (P := P) g xs.length (nums .u8 ys) 0 w (fun j hj => by
    simp [World.cell?, h2]
    omega) (fun j hj => by
    obtain ⟨lo, hi⟩ := fr
    simp only at h3
    simp [World.frozen?, h2]
    omega) (one_nums ys)
  simp only [Nat.add_zero] at hst
  have hh := heap_setM (nums .u8 ys) xs.length w cur.toList (by rw [Array.toArray_toList]; exact h2) (by have e := Array.length_toList (xs := cur); omega)
  have e0 := Array.length_toList (xs := cur)
  refine ⟨hst, K0.grown (grown_setCells _ _ _) K0.size (fun b e => by cases e; exact h1), _, fr, h1, hh, h3, by rw [List.length_append]; exact hroom, ?_, ?_⟩
  · simp only [List.size_toArray, List.length_append, List.length_take, List.length_drop, hyl]; omega
  · rw [h6, ← nums_append, List.take_append_of_le_length (by simp [nums])]
    rw [List.take_of_length_le (by simp [nums])]
theorem bytX_new (K0 : Below w0.heap.size w0 w) {e : TypeId} {zs : L} {c : Nat} (hc : zs.length ≤ c) (z : Array Value) (hz : z.size = c - zs.length) :
    Below w0.heap.size w0 (w.drew.alloc (.cells ((nums .u8 zs).toArray ++ z) e)) ∧ BytX e w0.heap.size (w.drew.alloc (.cells ((nums .u8 zs).toArray ++ z) e)) zs w.heap.size c := by
  have K := (Hp.nil w).drew.push e ((nums .u8 zs).toArray ++ z).toList
  rw [Array.toArray_toList] at K
  have hh := (K.blk 0 _ rfl).2
  simp only [Array.toArray_toList] at hh
  have hsz2 : w.drew.heap.size = w.heap.size := rfl
  rw [hsz2] at hh
  have hzl : (nums .u8 zs).length = zs.length := by simp [nums]
  refine ⟨Bt K0 K.B, _, (0, 0), K0.size, hh, .inl rfl, hc, ?_, ?_⟩
  · simp only [Array.size_append, List.size_toArray, hzl, hz]; omega
  · simp only [Array.toList_append]
    rw [List.take_append_of_le_length (by simp [nums]), List.take_of_length_le (by simp [nums])]
theorem run_appX_str (K0 : Below w0.heap.size w0 w) {t u ty e : TypeId} (hinfo : (P.info? e).map (fun i => (i.zero, i.size, i.bytes)) = some (some (.int .u8 0), 1, 1)) (ht : P.underlying t = some (.slice e)) (hu : P.underlying u = some .string) {g c : Nat} {xs : L} (hB : BytX e w0.heap.size w xs g c) (s : ByteArray) (hl : xs.length + s.size ≤ 140737488355328) :
    ∃ g' c' w', (Builtin.append_ #[t, u] ty #[.slice (some ⟨g, 0, none⟩) xs.length c, .string s]).run P w = .ok (.slice (some ⟨g', 0, none⟩) (xs ++ bl s).length c') w' ∧ Below w0.heap.size w0 w' ∧ BytX e w0.heap.size w' (xs ++ bl s) g' c' := by
  obtain ⟨i0, hi, hzz⟩ := Option.map_eq_some_iff.1 hinfo
  simp only [Prod.mk.injEq] at hzz
  obtain ⟨hz0, hz1, hz2⟩ := hzz
  have hsl := bl_length s
  have hsc : Lib.strCells s = nums .u8 (bl s) := by simp [nums, bl, Lib.strCells]
  have hlen : (xs ++ bl s).length = xs.length + s.size := by rw [List.length_append, hsl]
  by_cases hroom : xs.length + s.size ≤ c
  · obtain ⟨h1, h2, h3⟩ := bytX_store (P := P) K0 (ys := bl s) hB (by omega)
    have hf := Lib.run_firstCells_string (P := P) w 1 s
    rw [hsc] at hf
    refine ⟨g, c, _, ?_, h2, h3⟩
    rw [hlen]
    simp [Builtin.append_, run_underlying ht, run_underlying hu, sizeOf, typeInfo, hi, hz1, Builtin.lenOf, hroom, hf, Addr.add_lit, h1]
  · have hrn := Lib.run_append_grow_string (P := P) w t u ty e i0 (.int .u8 0) ht hu hi hz0 ⟨g, 0, none⟩ xs.length c (nums .u8 xs) (by rw [hz1]; simp [nums]) (fun j v hj => hB.rd.2 _ rfl j v hj) s (by omega) (by omega) (by rw [hz2]; exact growslice_fits (by omega) (by omega))
    have hge2 := grownCap_ge w (xs.length + s.size) c e
    obtain ⟨h1, h2⟩ := bytX_new K0 (e := e) (zs := xs ++ bl s) (c := grownCap w (xs.length + s.size) c e) (by omega) (Builtin.zeroCells (Value.int .u8 0).cells (grownCap w (xs.length + s.size) c e - (xs.length + s.size))) (by rw [size_zeroCells, hlen]; simp [Value.cells])
    refine ⟨_, _, _, ?_, h1, h2⟩
    rw [hrn, hlen, hsc, nums_append]
    simp
theorem run_appX_sl (K0 : Below w0.heap.size w0 w) {t ty e : TypeId} (hinfo : (P.info? e).map (fun i => (i.zero, i.size, i.bytes)) = some (some (.int .u8 0), 1, 1)) (ht : P.underlying t = some (.slice e)) {g c : Nat} {xs ys : L} (hB : BytX e w0.heap.size w xs g c) {A : Option Addr} {c2 : Nat} (HR : Rd w A (nums .u8 ys)) (hl : xs.length + ys.length ≤ 140737488355328) :
    ∃ g' c' w', (Builtin.append_ #[t, t] ty #[.slice (some ⟨g, 0, none⟩) xs.length c, .slice A ys.length c2]).run P w = .ok (.slice (some ⟨g', 0, none⟩) (xs ++ ys).length c') w' ∧ Below w0.heap.size w0 w' ∧ BytX e w0.heap.size w' (xs ++ ys) g' c' := by
  obtain ⟨i0, hi, hzz⟩ := Option.map_eq_some_iff.1 hinfo
  simp only [Prod.mk.injEq] at hzz
  obtain ⟨hz0, hz1, hz2⟩ := hzz
  have hlen : (xs ++ ys).length = xs.length + ys.length := List.length_append
  have hyl : (nums .u8 ys).length = ys.length := by simp [nums]
  rcases A with _ | ad
  · have hy0 : ys = [] := by have := HR.1 rfl; simpa [nums] using this
    subst hy0
    have hc : xs.length ≤ c := by obtain ⟨_, _, _, _, _, h, _⟩ := hB; exact h
    refine ⟨g, c, w, ?_, K0, by rw [List.append_nil]; exact hB⟩
    simp [Builtin.append_, run_underlying ht, sizeOf, typeInfo, hi, Builtin.lenOf, Builtin.firstCells, hc, storeCells]
  · by_cases hroom : xs.length + ys.length ≤ c
    · obtain ⟨h1, h2, h3⟩ := bytX_store (P := P) K0 (ys := ys) hB hroom
      have hf := run_firstCells_some (P := P) w i0.size ys.length ad ys.length c2 (nums .u8 ys) (by rw [hz1, hyl, Nat.mul_one]) (fun j u hj => HR.2 ad rfl j u hj)
      rw [hz1] at hf
      refine ⟨g, c, _, ?_, h2, h3⟩
      rw [hlen]
      simp [Builtin.append_, run_underlying ht, sizeOf, typeInfo, hi, hz1, Builtin.lenOf, hroom, hf, Addr.add_lit, h1]
    · have hrn := run_append_grow (P := P) w t ty e i0 (.int .u8 0) ht hi hz0 ⟨g, 0, none⟩ xs.length c (nums .u8 xs) (by rw [hz1]; simp [nums]) (fun j v hj => hB.rd.2 _ rfl j v hj) ad ys.length c2 (nums .u8 ys) (by rw [hz1, hyl, Nat.mul_one]) (fun j u hj => HR.2 ad rfl j u hj) (by omega) (by omega) (by rw [hz2]; exact growslice_fits (by omega) (by omega))
      have hge2 := grownCap_ge w (xs.length + ys.length) c e
      obtain ⟨h1, h2⟩ := bytX_new K0 (e := e) (zs := xs ++ ys) (c := grownCap w (xs.length + ys.length) c e) (by omega) (Builtin.zeroCells (Value.int .u8 0).cells (grownCap w (xs.length + ys.length) c e - (xs.length + ys.length))) (by rw [size_zeroCells, hlen]; simp [Value.cells])
      refine ⟨_, _, _, ?_, h1, h2⟩
      rw [hrn, hlen, nums_append]
      simp
end
section
variable {P : Program} {n : Nat} {f : Fr} {w w0 : World} {ops : Array Oper} {Q : Exit → Act → World → Prop} {rest : List Oper} {d : Option Nat} {tt : TypeId} {ps : String} {af : Array Edge}
theorem l_appXS (K0 : Below w0.heap.size w0 w) {t u e : TypeId} {g c : Nat} {xs : L} {s : ByteArray} {x y : Operand} (hinfo : (P.info? e).map (fun i => (i.zero, i.size, i.bytes)) = some (some (.int .u8 0), 1, 1)) (ht : P.underlying t = some (.slice e)) (hu : P.underlying u = some .string) (hB : BytX e w0.heap.size w xs g c)
    (hx : nf (X n f x) = some (.slice (some ⟨g, 0, none⟩) xs.length c)) (hy : nf (X n f y) = some (.string s)) (hl : xs.length + s.size ≤ 140737488355328)
    (h : ∀ g' c' w', Below w0.heap.size w0 w' → BytX e w0.heap.size w' (xs ++ bl s) g' c' → WL P ops Q rest (act n (put f d (.slice (some ⟨g', 0, none⟩) (xs ++ bl s).length c'))) w') : WL P ops Q (⟨d, .call { callee := .builtin .append, args := #[x, y], argTypes := #[t, u] }, tt, ps, af, none⟩ :: rest) (act n f) w := by
  obtain ⟨g', c', w1, hr, h1, h2⟩ := run_appX_str (P := P) (ty := tt) K0 hinfo ht hu hB s hl
  have hx' := nf_eq hx
  have hy' := nf_eq hy
  refine ⟨?_⟩
  refine wpList_plain rfl fun K hK => ?_
  unfold Oper.wp execOp
  rw [eval_act]
  simp only [resolve, invoke, builtin, Sem.run_bind, Sem.run_pure, Result.andThen_ok, List.map_toArray, List.map_cons, List.map_nil, ← hx', ← hy', hr]
  refine hK _ _ ?_
  rw [put_act]
  exact (h g' c' w1 h1 h2).out
theorem l_appXB (K0 : Below w0.heap.size w0 w) {t e : TypeId} {g c : Nat} {xs ys : L} {A : Option Addr} {c2 : Nat} {x y : Operand} (hinfo : (P.info? e).map (fun i => (i.zero, i.size, i.bytes)) = some (some (.int .u8 0), 1, 1)) (ht : P.underlying t = some (.slice e)) (hB : BytX e w0.heap.size w xs g c)
    (hx : nf (X n f x) = some (.slice (some ⟨g, 0, none⟩) xs.length c)) (hy : nf (X n f y) = some (.slice A ys.length c2)) (HR : Rd w A (nums .u8 ys)) (hl : xs.length + ys.length ≤ 140737488355328)
    (h : ∀ g' c' w', Below w0.heap.size w0 w' → BytX e w0.heap.size w' (xs ++ ys) g' c' → WL P ops Q rest (act n (put f d (.slice (some ⟨g', 0, none⟩) (xs ++ ys).length c'))) w') : WL P ops Q (⟨d, .call { callee := .builtin .append, args := #[x, y], argTypes := #[t, t] }, tt, ps, af, none⟩ :: rest) (act n f) w := by
  obtain ⟨g', c', w1, hr, h1, h2⟩ := run_appX_sl (P := P) (ty := tt) (c2 := c2) K0 hinfo ht hB HR hl
  have hx' := nf_eq hx
  have hy' := nf_eq hy
  refine ⟨?_⟩
  refine wpList_plain rfl fun K hK => ?_
  unfold Oper.wp execOp
  rw [eval_act]
  simp only [resolve, invoke, builtin, Sem.run_bind, Sem.run_pure, Result.andThen_ok, List.map_toArray, List.map_cons, List.map_nil, ← hx', ← hy', hr]
  refine hK _ _ ?_
  rw [put_act]
  exact (h g' c' w1 h1 h2).out
end
theorem bytX_text (w : World) (s : ByteArray) : BytX 5 w.heap.size (Lib.bytesWorld w 5 s) (bl s) w.heap.size (grownCap w s.size 0 5) := by
  have hge := grownCap_ge w s.size 0 5
  have hsz : (Lib.bytesCells w 5 s).size = grownCap w s.size 0 5 := by
    have : s.data.size = s.size := rfl
    simp [Lib.bytesCells]
    omega
  have hn := Lib.bytesWorld_at_new w 5 s
  refine ⟨_, _, Nat.le_refl _, hn, .inr (Nat.le_of_eq hsz.symm), by rw [bl_length]; exact hge, hsz, ?_⟩
  have hb := bl_length s
  rw [hb]
  have : s.data.toList.length = s.size := by rw [Array.length_toList]; rfl
  simp [Lib.bytesCells, nums, bl]
def LdR (w : World) (x : L) (e : Ending) (w' : World) : Prop := ∃ g c, e = .returned (.slice (some ⟨g, 0, none⟩) x.length c) ∧ Below w.heap.size w w' ∧ ReadsInt w' .u8 (some ⟨g, 0, none⟩) x.length x
set_option maxRecDepth 100000 in
set_option maxHeartbeats 8000000 in
theorem rlaid_c {wB : World} {B B2 : Option Addr} {c c2 : Nat} {l : List Fld} {body : L} {start : ByteArray} (h : Rd wB B (fldC l)) (hb : BytesF l) (hl : headLen l ≤ 16384) (hr : ReadsInt wB .u8 B2 body.length body) (hbl : body.length ≤ 100000000) (hs : start.size ≤ 100000000) (hll : l.length ≤ 100000) :
    Calls Tryz.prog 84 #[.string start, .slice B l.length c, .slice B2 body.length c2] wB (LdR wB (wholeS (bl start) l body)) := by
  refine enter (args := [.string start, .slice B l.length c, .slice B2 body.length c2]) Tryz.func84 rfl Tryz.ntmps84 rfl ?_
  have H := Hp.nil wB
  have e13 : bl (⟨#[13, 10]⟩ : ByteArray) = [13, 10] := rfl
  have e2 : (⟨#[58, 32]⟩ : ByteArray).size = 2 := rfl
  have e3 : (⟨#[13, 10]⟩ : ByteArray).size = 2 := rfl
  have hsl := bl_length start
  repeat' (first | (with_reducible first | refine p_tn ?_ | refine wp_seq ?_ | refine w_reg ?_ | refine l_nil ?_) | ((with_reducible refine g_on ?_); (first | ((with_reducible refine g_mv ?_); refine l_p txs rfl rfl ?_) | ((with_reducible refine g_as ?_); refine l_p txs rfl rfl ?_))))
  (with_reducible refine is_l ?_); refine l_cat rfl rfl (by rw [e3]; omega) ?_
  skip
  refine l_cvb Tryz.underlying9 Tryz.underlying23 Tryz.underlying5 rfl rfl ?_
  have hX := bytX_text wB (start ++ ⟨#[13, 10]⟩)
  have hK : Below wB.heap.size wB (Lib.bytesWorld wB 5 (start ++ ⟨#[13, 10]⟩)) := bytes_below (Below.refl _ wB) (Nat.le_refl _) _ _
  have hz : (start ++ (⟨#[13, 10]⟩ : ByteArray)).size = (bl start ++ [13, 10]).length := by rw [← bl_length, bl_cat, e13]
  rw [hz] at hX ⊢
  rw [bl_cat, e13] at hX
  generalize Lib.bytesWorld wB 5 (start ++ ⟨#[13, 10]⟩) = w1 at hX hK ⊢
  generalize grownCap wB (bl start ++ [13, 10]).length 0 5 = c0 at hX ⊢
  repeat' (first | (with_reducible first | refine p_tn ?_ | refine wp_seq ?_ | refine wp_block ?_ | refine w_reg ?_ | refine l_nil ?_) | ((with_reducible refine g_on ?_); ((with_reducible refine g_as ?_); refine l_p txs rfl rfl ?_)))
  refine w_loop (σ := Nat × Nat × Nat) (S := fun s => [(1, .slice B l.length c), (2, .slice B2 body.length c2), (7, .slice (some ⟨s.2.1, 0, none⟩) (bl start ++ [13, 10] ++ linesF (l.take s.1)).length s.2.2), (8, .int .i64 (s.1 : Int))])
    (J := fun s wB' => Below wB.heap.size wB wB' ∧ BytX 5 wB.heap.size wB' (bl start ++ [13, 10] ++ linesF (l.take s.1)) s.2.1 s.2.2 ∧ s.1 ≤ l.length) (μ := fun s => l.length - s.1) (0, wB.heap.size, c0) ⟨rfl, rfl, by show Value.slice _ (bl start ++ [13, 10]).length c0 = Value.slice _ (bl start ++ [13, 10] ++ linesF (l.take 0)).length c0; simp [linesF], rfl, trivial⟩ ⟨hK, by simpa [linesF] using hX, Nat.zero_le _⟩ ?_
  clear hX hK
  rintro ⟨i, g, c1⟩ f w_ ⟨K0, hX, hi⟩
  simp only at K0 hX hi ⊢
  have hll2 := lines_len hl i
  have hpre : (bl start ++ [13, 10] ++ linesF (l.take i)).length = start.size + 2 + (linesF (l.take i)).length := by simp [hsl]; omega
  have hF := h.below K0
  have hlt' := fun x (hx : l[i]? = some x) => lines_take hx
  have hall2 : l.length ≤ i → linesF (l.take i) = linesF l := fun hle => by rw [List.take_of_length_le hle]
  generalize linesF (l.take i) = Z at hX hpre hll2 hlt' hall2 ⊢
  obtain ⟨w, hwf⟩ : ∃ wf, wf = w_ := ⟨_, rfl⟩
  have hr9 := fun (w1 : World) (K : Below wB.heap.size wB w1) => hr.below K
  have mk : ∀ (w1 : World) (x : L), Below wB.heap.size wB w1 → ∀ g c, BytX 5 wB.heap.size w1 x g c → x = wholeS (bl start) l body → LdR wB (wholeS (bl start) l body) (.returned (.slice (some ⟨g, 0, none⟩) x.length c)) w1 := fun w1 x K g c hB e => by
    subst e
    refine ⟨g, c, rfl, K, reads_of_rd hB.rd ?_⟩
    have h5 : (linesF l).length + 2 = headLen l := by rw [← headF_length, headF_lines']; simp
    unfold wholeS
    rw [headF_lines']
    simp only [List.length_append, hsl, List.length_cons, List.length_nil]
    omega
  rw [← hwf] at K0 hX hF
  have hX := fun (w1 : World) (K : Below w.heap.size w w1) => hX.below K
  have H : Hp w w_ [] [] := by rw [hwf]; exact Hp.nil _
  clear hwf
  repeat' (first | (with_reducible first | refine wp_seq ?_ | refine w_reg ?_) | ((with_reducible refine g_on ?_); (first | ((with_reducible refine g_mv ?_); refine l_p txs rfl rfl ?_) | ((with_reducible refine g_cl ?_); refine l_p txs rfl rfl ?_))))
  (with_reducible refine is_l ?_); refine l_t txs rfl rfl (fun hlt => ?_) (fun hge => ?_)
  · obtain ⟨x, hx⟩ : ∃ x, l[i]? = some x := ⟨_, List.getElem?_eq_getElem (by omega)⟩
    obtain ⟨a1, rfl⟩ := rd_some h (i := i) (by omega)
    obtain ⟨bx1, bx2, lx1, lx2⟩ := hb x (List.mem_of_getElem? hx)
    have zx1 := sizeS' bx1
    have zx2 := sizeS' bx2
    have hc1 := fld_part hF hx 0 _ rfl
    have hc2 := fld_part hF hx 1 _ rfl
    have hxx := hlt' x hx
    repeat' (first | (with_reducible first | refine p_tn ?_ | refine wp_seq ?_ | refine wp_block ?_) | (with_reducible (refine is_if ?_; (refine w_ift rfl ?_))) | (with_reducible first | refine wp_skip ?_ | refine l_nil ?_))
    have HS := H.pick [] [] (by decide) (by decide) rfl rfl
    refine e_start (fun w_ => Hp w w_ _ _) [14] #[false, false, false, false, false, false, false, false, false, false, false, false, false, false, false, false] (by kernel_rfl) rfl rfl HS.drew ?_
    have H := H.drew
    have HS := HS.drew
    first | (refine e_pure (i := 0) #[true, false, false, false, false, false, false, false, false, false, false, false, false, false, false, false] rfl (by kernel_rfl) (fun _ _ _ h => h) rfl (fun w_ => evP_run (o := ⟨_, _, _, _, _, _⟩) txs rfl) ?_)
    first | (refine e_pure (i := 1) #[true, true, false, false, false, false, false, false, false, false, false, false, false, false, false, false] rfl (by kernel_rfl) (fun _ _ _ h => h) rfl (fun w_ => evP_run (o := ⟨_, _, _, _, _, _⟩) txs rfl) ?_)
    first | (refine e_pure (i := 2) #[true, true, true, false, false, false, false, false, false, false, false, false, false, false, false, false] rfl (by kernel_rfl) (fun _ _ _ h => h) rfl (fun w_ => evP_run (o := ⟨_, _, _, _, _, _⟩) txs rfl) ?_)
    first | (refine e_pure (i := 3) #[true, true, true, true, false, false, false, false, false, false, false, false, false, false, false, false] rfl (by kernel_rfl) (fun _ _ _ h => h) rfl (fun w_ => evIA_run (o := ⟨_, _, _, _, _, _⟩) txs rfl (by omega) (by omega)) ?_)
    first | (refine e_pure (i := 4) #[true, true, true, true, true, false, false, false, false, false, false, false, false, false, false, false] rfl (by kernel_rfl) (fun _ _ _ h => h) rfl (fun w_ => evF_run (o := ⟨_, _, _, _, _, _⟩) flds rfl) ?_) | (refine e_pure (i := 4) #[true, true, true, true, true, false, false, false, false, false, false, false, false, false, false, false] rfl (by kernel_rfl) (fun _ _ _ h => h) rfl (fun w_ => evG_run (o := ⟨_, _, _, _, _, _⟩) flds rfl) ?_)
    first | (refine e_take (i := 5) #[true, true, true, true, true, true, false, false, false, false, false, false, false, false, false, false] rfl (by kernel_rfl) (fun _ _ _ h => h) rfl (fun w_ K => evL_run (o := ⟨_, _, _, _, _, _⟩) txs rfl (by rw [Int.toNat_natCast]; exact K.old hc1)) HS ?_)
    first | (refine e_pure (i := 6) #[true, true, true, true, true, true, true, false, false, false, false, false, false, false, false, false] rfl (by kernel_rfl) (fun _ _ _ h => h) rfl (fun w_ => evCat_run (o := ⟨_, _, _, _, _, _⟩) rfl (by rw [e2]; omega)) ?_)
    first | (refine e_pure (i := 7) #[true, true, true, true, true, true, true, true, false, false, false, false, false, false, false, false] rfl (by kernel_rfl) (fun _ _ _ h => h) rfl (fun w_ => evP_run (o := ⟨_, _, _, _, _, _⟩) txs rfl) ?_)
    first | (refine e_pure (i := 8) #[true, true, true, true, true, true, true, true, true, false, false, false, false, false, false, false] rfl (by kernel_rfl) (fun _ _ _ h => h) rfl (fun w_ => evP_run (o := ⟨_, _, _, _, _, _⟩) txs rfl) ?_)
    first | (refine e_pure (i := 9) #[true, true, true, true, true, true, true, true, true, true, false, false, false, false, false, false] rfl (by kernel_rfl) (fun _ _ _ h => h) rfl (fun w_ => evIA_run (o := ⟨_, _, _, _, _, _⟩) txs rfl (by omega) (by omega)) ?_)
    first | (refine e_pure (i := 10) #[true, true, true, true, true, true, true, true, true, true, true, false, false, false, false, false] rfl (by kernel_rfl) (fun _ _ _ h => h) rfl (fun w_ => evF_run (o := ⟨_, _, _, _, _, _⟩) flds rfl) ?_) | (refine e_pure (i := 10) #[true, true, true, true, true, true, true, true, true, true, true, false, false, false, false, false] rfl (by kernel_rfl) (fun _ _ _ h => h) rfl (fun w_ => evG_run (o := ⟨_, _, _, _, _, _⟩) flds rfl) ?_)
    first | (refine e_take (i := 11) #[true, true, true, true, true, true, true, true, true, true, true, true, false, false, false, false] rfl (by kernel_rfl) (fun _ _ _ h => h) rfl (fun w_ K => evL_run (o := ⟨_, _, _, _, _, _⟩) txs rfl (by rw [Int.toNat_natCast]; exact K.old hc2)) HS ?_)
    first | (refine e_pure (i := 12) #[true, true, true, true, true, true, true, true, true, true, true, true, true, false, false, false] rfl (by kernel_rfl) (fun _ _ _ h => h) rfl (fun w_ => evCat_run (o := ⟨_, _, _, _, _, _⟩) rfl (by rw [ByteArray.size_append, e2]; omega)) ?_)
    first | (refine e_pure (i := 13) #[true, true, true, true, true, true, true, true, true, true, true, true, true, true, false, false] rfl (by kernel_rfl) (fun _ _ _ h => h) rfl (fun w_ => evCat_run (o := ⟨_, _, _, _, _, _⟩) rfl (by rw [ByteArray.size_append, ByteArray.size_append, e2, e3]; omega)) ?_)
    refine e_last (i := 14) #[true, true, true, true, true, true, true, true, true, true, true, true, true, true, true, false] rfl (by kernel_rfl) (by decide) rfl ?_
    refine l_appXS (Bt K0 H.B) info_u8 Tryz.underlying23 Tryz.underlying9 (hX _ H.B) rfl rfl (by rw [hpre, ByteArray.size_append, ByteArray.size_append, ByteArray.size_append, e2, e3]; omega) (fun g2 c3 w_ K9 hX9 => ?_)
    refine l_nil ?_
    refine ⟨rfl, ?_⟩
    first | (refine e_pure (i := 15) #[true, true, true, true, true, true, true, true, true, true, true, true, true, true, true, true] rfl (by kernel_rfl) (fun _ _ _ h => h) rfl (fun w_ => evP_run (o := ⟨_, _, _, _, _, _⟩) txs rfl) ?_)
    refine e_done rfl ?_
    repeat' (first | (with_reducible first | refine p_tn ?_ | refine p_bn ?_ | refine w_reg ?_ | refine l_nil ?_) | ((with_reducible refine g_on ?_); (first | ((with_reducible refine g_mv ?_); refine l_p txs rfl rfl ?_) | ((with_reducible refine g_as ?_); refine l_p txs rfl rfl ?_) | ((with_reducible refine g_bi ?_); (refine l_a txs rfl rfl (by first | exact in_i64 (by omega) (by omega) | exact in_u8 (by omega) (by omega) | exact in_u64 (by omega) (by omega) | exact in_i32 (by omega) (by omega)) ?_)))))
    have hxs : bl start ++ [13, 10] ++ Z ++ bl (strOfNums x.1 ++ (⟨#[58, 32]⟩ : ByteArray) ++ strOfNums x.2 ++ (⟨#[13, 10]⟩ : ByteArray)) = bl start ++ [13, 10] ++ linesF (l.take (i + 1)) := by
      rw [hxx, bl_cat, bl_cat, bl_cat, blS bx1, blS bx2, e13]
      simp only [lineF, List.append_assoc]
      rfl
    refine ⟨(i + 1, g2, c3), _, rfl, ⟨rfl, rfl, ?_, rfl, trivial⟩, ⟨K9, ?_, by show i + 1 ≤ _; omega⟩, by show _ - (i + 1) < _ - i; omega⟩
    · show Value.slice _ (bl start ++ [13, 10] ++ Z ++ bl (strOfNums x.1 ++ (⟨#[58, 32]⟩ : ByteArray) ++ strOfNums x.2 ++ (⟨#[13, 10]⟩ : ByteArray))).length c3 = Value.slice _ (bl start ++ [13, 10] ++ linesF (l.take (i + 1))).length c3
      rw [hxs]
    · show BytX _ _ _ (bl start ++ [13, 10] ++ linesF (l.take (i + 1))) g2 c3
      rw [← hxs]
      exact hX9
  · have hZ := hall2 (by omega)
    subst hZ
    repeat' (first | (with_reducible first | refine p_tn ?_ | refine p_tx ?_ | refine x_hit ?_ | refine wp_seq ?_ | refine w_reg ?_) | (with_reducible (refine is_if ?_; (refine w_iff rfl ?_))) | (with_reducible first | refine wp_exit ?_ | refine l_nil ?_) | ((with_reducible refine g_on ?_); ((with_reducible refine g_mv ?_); refine l_p txs rfl rfl ?_)))
    (with_reducible refine is_l ?_); refine l_appXS (Bt K0 H.B) info_u8 Tryz.underlying23 Tryz.underlying9 (hX _ H.B) rfl rfl (by rw [hpre, e3]; omega) (fun g2 c3 w_ K9 hX9 => ?_)
    rw [e13] at hX9 ⊢
    have hpre2 : (bl start ++ [13, 10] ++ linesF l ++ [13, 10]).length = start.size + 2 + (linesF l).length + 2 := by simp [hsl]; omega
    have hw : bl start ++ [13, 10] ++ linesF l ++ [13, 10] ++ body = wholeS (bl start) l body := by
      unfold wholeS
      rw [headF_lines']
      simp only [List.append_assoc]
    generalize bl start ++ [13, 10] ++ linesF l ++ [13, 10] = Y at hX9 hpre2 hw ⊢
    repeat' (first | (with_reducible first | refine p_tn ?_ | refine wp_seq ?_ | refine w_reg ?_ | refine l_nil ?_) | ((with_reducible refine g_on ?_); (first | ((with_reducible refine g_mv ?_); refine l_p txs rfl rfl ?_) | ((with_reducible refine g_as ?_); refine l_p txs rfl rfl ?_))))
    (with_reducible refine is_l ?_); refine l_appXB K9 info_u8 Tryz.underlying23 hX9 rfl rfl (rd_of_reads (hr9 _ K9)) (by rw [hpre2]; omega) (fun g4 c4 w_ K8 hX8 => ?_)
    have hfin := mk _ _ K8 _ _ hX8 hw
    generalize Y ++ body = V at hX8 hfin ⊢
    repeat' (first | (with_reducible first | refine p_tn ?_ | refine wp_ret ?_ | refine l_nil ?_) | ((with_reducible refine g_on ?_); ((with_reducible refine g_as ?_); refine l_p txs rfl rfl ?_)))
    refine end1 rfl rfl ?_
    exact hfin
end Go.Proofs.YthgojbdpmcccaaaGreatDoor.K.Ref
end
section
namespace Go.Proofs.YthgojbdpmcccaaaGreatDoor.K.Ref
open Go.RowKit Go.Proofs.YthgojbdpmcccaaaGreatDoor.Q Go.Proofs.YthgojbdpmcccaaaGreatDoor.Wb Go.Proofs.YthgojbdpmcccaaaGreatDoorW.PrintWords Go.Proofs.YthgojbdpmcccaaaGreatDoor.K
set_option linter.unusedVariables false
set_option linter.unusedSimpArgs false
def FmX (w : World) (k : Nat) (x : L) (e : Ending) (w' : World) : Prop := Below w.heap.size w w' ∧ ∃ A n c, e = .returned (.tuple #[.slice A n c, .int .i64 (k : Int)]) ∧ (k ≠ 0 → A = none ∧ n = 0 ∧ c = 0) ∧ (k = 0 → n = x.length ∧ ReadsInt w' .u8 A x.length x)
theorem fm_bad {w w' : World} {k j : Nat} {x : L} (h : k = j) (hj : j ≠ 0) (K : Below w.heap.size w w') : FmX w k x (.returned (.tuple #[.slice none 0 0, .int .i64 (j : Int)])) w' := by
  subst h
  exact ⟨K, none, 0, 0, rfl, fun _ => ⟨rfl, rfl, rfl⟩, fun e => absurd e hj⟩
theorem fm_ok {w w' : World} {k : Nat} {x : L} {A : Option Addr} {c : Nat} (h : k = 0) (K : Below w.heap.size w w') (hr : ReadsInt w' .u8 A x.length x) : FmX w k x (.returned (.tuple #[.slice A x.length c, .int .i64 0])) w' := by
  subst h
  exact ⟨K, A, x.length, c, rfl, fun e => absurd rfl e, fun _ => ⟨rfl, hr⟩⟩
theorem told_B (b : L) (h : ¬ (b.length : Int) = 0) : toldI (b.length : Int) = toldB b := by
  unfold toldI toldB
  rw [if_pos (by omega), if_neg (fun e => h (by rw [e]; rfl)), Int.toNat_natCast]
theorem told_0 (b : L) (h : (b.length : Int) = 0) : toldI (-1) = toldB b := by
  unfold toldI toldB
  rw [if_neg (by decide), if_pos (List.eq_nil_of_length_eq_zero (by omega))]
set_option maxRecDepth 100000 in
set_option maxHeartbeats 16000000 in
theorem rFormatRequest_c {w : World} {tN : TypeId} {frN : Nat × Nat} (hN : w.heap[14]? = some (.cells meC tN frN))
    (r : ReqS) {F B1 : Option Addr} {f1 b1 : Nat} (hm : Bytes r.method) (ht : Bytes r.target) (hml : r.method.length ≤ 10000000) (htl : r.target.length ≤ 10000000) (hmi : -9223372036854775808 ≤ r.minor ∧ r.minor ≤ 9223372036854775807)
    (hR : Rd w F (fldC r.fields)) (hb : BytesF r.fields) (hl : r.fields.length ≤ 5000000) (hr : ReadsInt w .u8 B1 r.body.length r.body) (hbl : r.body.length ≤ 10000000) :
    Calls Tryz.prog 40 #[.agg (reqA r F f1 B1 b1)] w (FmX w (formS r) (wholeS (startI r) (printedS r.fields (toldB r.body)) r.body)) := by
  have zm := sizeS' hm
  have zt := sizeS' ht
  have zi := itoaI_size r.minor hmi.1 hmi.2
  have hNb : ∀ w1, Below w.heap.size w w1 → w1.heap[14]? = some (.cells meC tN frN) := fun w1 K => (K.block _ (blk_lt hN)).trans hN
  refine enter (args := [.agg (reqA r F f1 B1 b1)]) Tryz.func40 rfl Tryz.ntmps40 rfl ?_
  have H := Hp.nil w
  repeat' (first | (with_reducible first | refine p_tn ?_ | refine wp_seq ?_ | refine w_reg ?_ | refine l_nil ?_) | ((with_reducible refine g_on ?_); (first | ((with_reducible refine g_mv ?_); refine l_p txs rfl rfl ?_) | ((with_reducible refine g_as ?_); refine l_p txs rfl rfl ?_) | ((with_reducible refine g_fa ?_); refine h_fa flds rfl rfl ?_) | ((with_reducible refine g_ld ?_); (refine h_ld txs H 0 rfl rfl rfl rfl ?_)) | ((with_reducible refine g_bx ?_); refine h_box H rfl rfl rfl (fun g_ w_ H => ?_)) | ((with_reducible refine g_cl ?_); refine l_p txs rfl rfl ?_))))
  (with_reducible refine is_l ?_); refine l_t txs rfl rfl (fun h1 => ?_) (fun h1 => ?_)
  have hto : toldI (-1) = toldB r.body := told_0 _ h1
  rotate_left
  have hto : toldI (r.body.length : Int) = toldB r.body := told_B _ h1
  all_goals
    repeat' (first | (with_reducible first | refine p_tn ?_ | refine wp_seq ?_ | refine w_reg ?_) | (with_reducible (refine is_if ?_; (first | (refine w_ift rfl ?_) | (refine w_iff rfl ?_)))) | (with_reducible first | refine wp_skip ?_ | refine l_nil ?_) | ((with_reducible refine g_on ?_); (first | ((with_reducible refine g_mv ?_); refine l_p txs rfl rfl ?_) | ((with_reducible refine g_as ?_); refine l_p txs rfl rfl ?_) | ((with_reducible refine g_fa ?_); refine h_fa flds rfl rfl ?_) | ((with_reducible refine g_ld ?_); (refine h_ld txs H 0 rfl rfl rfl rfl ?_)))))
    (with_reducible refine is_l ?_); refine l_call rfl rfl (by kernel_rfl) (rprinted_c (hR.below H.B) hb (by omega) _ ⟨by omega, by omega⟩) (fun e w_ hR2 => ?_)
    obtain ⟨F2, f2, rfl, K⟩ := hR2
    refine ⟨_, rfl, ?_⟩
    rw [hto] at K ⊢
    have H := H.join K
    have hfs : formS r = checkReqS r.method r.target r.minor (startI r) (printedS r.fields (toldB r.body)) r.body := rfl
    have hpb : BytesF (printedS r.fields (toldB r.body)) := printed_bytes hb (fun n hn => by
      unfold toldB at hn
      split at hn
      · cases hn
      · simp only [Option.some.injEq] at hn; omega)
    have hpl := printed_len' r.fields (toldB r.body)
    have H : Hp w w_ _ [rowG (.slice F2 (printedS r.fields (toldB r.body)).length f2) (printedS r.fields (toldB r.body))] := H
    generalize hP : printedS r.fields (toldB r.body) = P at H hfs hpb hpl ⊢
    unfold checkReqS at hfs
    repeat' (first | (with_reducible first | refine p_tn ?_ | refine wp_seq ?_ | refine l_nil ?_) | ((with_reducible refine g_on ?_); ((with_reducible refine g_as ?_); refine l_p txs rfl rfl ?_)))
    have HS := H.pick [0] [0] (by decide) (by decide) rfl rfl
    refine d_start (fun w_ => Hp w w_ _ _) #[false, false, false, false, false, false, false, false, false, false, false, false] (by kernel_rfl) rfl rfl HS.drew ?_
    have H := H.drew
    have HS := HS.drew
    first | (refine d_pure (i := 0) #[true, false, false, false, false, false, false, false, false, false, false, false] rfl (by kernel_rfl) (fun _ _ _ h => h) rfl (fun w_ => evF_run (o := ⟨_, _, _, _, _, _⟩) flds rfl) ?_) | (refine d_pure (i := 0) #[true, false, false, false, false, false, false, false, false, false, false, false] rfl (by kernel_rfl) (fun _ _ _ h => h) rfl (fun w_ => evG_run (o := ⟨_, _, _, _, _, _⟩) flds rfl) ?_)
    first | (refine d_take (i := 1) #[true, true, false, false, false, false, false, false, false, false, false, false] rfl (by kernel_rfl) (fun _ _ _ h => h) rfl (fun w_ K => evL_run (o := ⟨_, _, _, _, _, _⟩) txs rfl (K.cellAt 0 rfl rfl)) HS ?_)
    first | (refine d_pure (i := 2) #[true, true, true, false, false, false, false, false, false, false, false, false] rfl (by kernel_rfl) (fun _ _ _ h => h) rfl (fun w_ => evCat_run (o := ⟨_, _, _, _, _, _⟩) rfl (by show _ + 1 ≤ _; omega)) ?_)
    first | (refine d_pure (i := 3) #[true, true, true, true, false, false, false, false, false, false, false, false] rfl (by kernel_rfl) (fun _ _ _ h => h) rfl (fun w_ => evF_run (o := ⟨_, _, _, _, _, _⟩) flds rfl) ?_) | (refine d_pure (i := 3) #[true, true, true, true, false, false, false, false, false, false, false, false] rfl (by kernel_rfl) (fun _ _ _ h => h) rfl (fun w_ => evG_run (o := ⟨_, _, _, _, _, _⟩) flds rfl) ?_)
    first | (refine d_take (i := 4) #[true, true, true, true, true, false, false, false, false, false, false, false] rfl (by kernel_rfl) (fun _ _ _ h => h) rfl (fun w_ K => evL_run (o := ⟨_, _, _, _, _, _⟩) txs rfl (K.cellAt 0 rfl rfl)) HS ?_)
    first | (refine d_pure (i := 5) #[true, true, true, true, true, true, false, false, false, false, false, false] rfl (by kernel_rfl) (fun _ _ _ h => h) rfl (fun w_ => evCat_run (o := ⟨_, _, _, _, _, _⟩) rfl (by rw [ByteArray.size_append]; show _ + 1 + _ ≤ _; omega)) ?_)
    first | (refine d_pure (i := 6) #[true, true, true, true, true, true, true, false, false, false, false, false] rfl (by kernel_rfl) (fun _ _ _ h => h) rfl (fun w_ => evCat_run (o := ⟨_, _, _, _, _, _⟩) rfl (by rw [ByteArray.size_append, ByteArray.size_append]; show _ + 1 + _ + 8 ≤ _; omega)) ?_)
    first | (refine d_pure (i := 7) #[true, true, true, true, true, true, true, true, false, false, false, false] rfl (by kernel_rfl) (fun _ _ _ h => h) rfl (fun w_ => evF_run (o := ⟨_, _, _, _, _, _⟩) flds rfl) ?_) | (refine d_pure (i := 7) #[true, true, true, true, true, true, true, true, false, false, false, false] rfl (by kernel_rfl) (fun _ _ _ h => h) rfl (fun w_ => evG_run (o := ⟨_, _, _, _, _, _⟩) flds rfl) ?_)
    first | (refine d_take (i := 8) #[true, true, true, true, true, true, true, true, true, false, false, false] rfl (by kernel_rfl) (fun _ _ _ h => h) rfl (fun w_ K => evL_run (o := ⟨_, _, _, _, _, _⟩) txs rfl (K.cellAt 0 rfl rfl)) HS ?_)
    refine d_one (i := 9) #[true, true, true, true, true, true, true, true, true, true, false, false] rfl (by kernel_rfl) rfl ?_
    refine l_callv rfl rfl (by kernel_rfl) (fmtNum_c _ hmi _) (fun w_ K => ?_); have H := H.call K
    refine l_nil ?_
    have HS := H.pick [0] [0] (by decide) (by decide) rfl rfl
    refine ⟨rfl, HS, ?_⟩
    first | (refine d_pure (i := 10) #[true, true, true, true, true, true, true, true, true, true, true, false] rfl (by kernel_rfl) (fun _ _ _ h => h) rfl (fun w_ => evCat_run (o := ⟨_, _, _, _, _, _⟩) rfl (by rw [ByteArray.size_append, ByteArray.size_append, ByteArray.size_append]; show _ + 1 + _ + 8 + _ ≤ _; omega)) ?_)
    first | (refine d_pure (i := 11) #[true, true, true, true, true, true, true, true, true, true, true, true] rfl (by kernel_rfl) (fun _ _ _ h => h) rfl (fun w_ => evP_run (o := ⟨_, _, _, _, _, _⟩) txs rfl) ?_)
    refine d_done rfl ?_
    have hbl0 : bl (strOfNums r.method ++ (⟨#[32]⟩ : ByteArray) ++ strOfNums r.target ++ (⟨#[32, 72, 84, 84, 80, 47, 49, 46]⟩ : ByteArray) ++ strOfNums (decI r.minor)) = startI r := by
      simp only [bl_cat, blS hm, blS ht, blS (decI_bytes _)]
      rfl
    generalize strOfNums r.method ++ (⟨#[32]⟩ : ByteArray) ++ strOfNums r.target ++ (⟨#[32, 72, 84, 84, 80, 47, 49, 46]⟩ : ByteArray) ++ strOfNums (decI r.minor) = s0 at hbl0 ⊢
    have hz0 := bl_length s0
    rw [hbl0] at hz0
    repeat' (first | (with_reducible first | refine p_tn ?_ | refine wp_seq ?_ | refine wp_block ?_ | refine w_reg ?_) | ((with_reducible refine g_on ?_); (first | ((with_reducible refine g_mv ?_); refine l_p txs rfl rfl ?_) | ((with_reducible refine g_cl ?_); refine l_p txs rfl rfl ?_))))
    (with_reducible refine is_l ?_); refine l_t txs rfl rfl (fun h2 => ?_) (fun h2 => ?_)
    · have hk : formS r = 147 := by rw [hfs, if_pos (by omega)]
      repeat' (first | (with_reducible first | refine p_tn ?_ | refine p_tr ?_ | refine p_br ?_ | refine wp_seq ?_ | refine w_reg ?_) | (with_reducible (refine is_if ?_; (refine w_ift rfl ?_))) | (with_reducible first | refine wp_ret ?_ | refine l_nil ?_) | ((with_reducible refine g_on ?_); ((with_reducible refine g_as ?_); refine l_p txs rfl rfl ?_)))
      refine end2 rfl rfl rfl ?_
      exact fm_bad hk (by decide) H.B
    rw [if_neg (by omega)] at hfs
    repeat' (first | (with_reducible first | refine p_tn ?_ | refine wp_seq ?_ | refine w_reg ?_) | (with_reducible (refine is_if ?_; (refine w_iff rfl ?_))) | (with_reducible refine l_nil ?_) | ((with_reducible refine g_on ?_); (first | ((with_reducible refine g_mv ?_); refine l_p txs rfl rfl ?_) | ((with_reducible refine g_as ?_); refine l_p txs rfl rfl ?_))))
    (with_reducible refine is_l ?_); refine l_callv rfl rfl (by kernel_rfl) (rheadBytes_c (c := f2) (rowG_at H 0 rfl) hpb (by omega)) (fun w_ K => ?_)
    have H := H.call K
    skip
    (with_reducible refine is_l ?_); refine l_t txs rfl rfl (fun h3 => ?_) (fun h3 => ?_)
    · have hk : formS r = 2 := by rw [hfs, if_pos (by omega)]
      repeat' (first | (with_reducible first | refine p_tn ?_ | refine p_tr ?_ | refine p_br ?_ | refine wp_seq ?_ | refine w_reg ?_) | (with_reducible (refine is_if ?_; (refine w_ift rfl ?_))) | (with_reducible first | refine wp_ret ?_ | refine l_nil ?_) | ((with_reducible refine g_on ?_); ((with_reducible refine g_as ?_); refine l_p txs rfl rfl ?_)))
      refine end2 rfl rfl rfl ?_
      exact fm_bad hk (by decide) H.B
    rw [if_neg (by omega)] at hfs
    repeat' (first | (with_reducible first | refine p_tn ?_ | refine wp_seq ?_ | refine w_reg ?_) | (with_reducible (refine is_if ?_; (refine w_iff rfl ?_))) | (with_reducible refine l_nil ?_) | ((with_reducible refine g_on ?_); (first | ((with_reducible refine g_as ?_); refine l_p txs rfl rfl ?_) | ((with_reducible refine g_fa ?_); refine h_fa flds rfl rfl ?_) | ((with_reducible refine g_ld ?_); (refine h_ld txs H 0 rfl rfl rfl rfl ?_)))))
    have htok := rtoken_c (strOfNums r.method) w_ (by omega)
    rw [blS hm] at htok
    (with_reducible refine is_l ?_); refine l_callv rfl rfl (by kernel_rfl) htok (fun w_ K => ?_)
    have H := H.call K
    cases htk : tokS r.method
    · have hk : formS r = 141 := by rw [hfs, if_pos (.inl htk)]
      repeat' (first | (with_reducible first | refine p_tn ?_ | refine p_tr ?_ | refine p_br ?_ | refine wp_seq ?_ | refine w_reg ?_) | (with_reducible (refine is_if ?_; (refine w_ift rfl ?_))) | (with_reducible first | refine wp_ret ?_ | refine l_nil ?_) | ((with_reducible refine g_on ?_); (first | ((with_reducible refine g_mv ?_); refine l_p txs rfl rfl ?_) | ((with_reducible refine g_as ?_); refine l_p txs rfl rfl ?_) | ((with_reducible refine g_pk ?_); refine l_p txs rfl rfl ?_) | ((with_reducible refine g_un ?_); (refine l_p txs rfl rfl ?_)))) | ((with_reducible refine g_if ?_); (refine l_off rfl ?_)))
      refine end2 rfl rfl rfl ?_
      exact fm_bad hk (by decide) H.B
    repeat' (first | ((with_reducible refine g_on ?_); (first | ((with_reducible refine g_mv ?_); refine l_p txs rfl rfl ?_) | ((with_reducible refine g_un ?_); (refine l_p txs rfl rfl ?_)))) | ((with_reducible refine g_if ?_); (first | ((with_reducible refine g_fa ?_); refine h_fa flds rfl rfl ?_) | ((with_reducible refine g_ld ?_); (refine h_ld txs H 0 rfl rfl rfl rfl ?_)))))
    have hvis := rvisible_c (strOfNums r.target) w_ (by omega)
    rw [blS ht] at hvis
    (with_reducible refine is_l ?_); refine l_callv rfl rfl (by kernel_rfl) hvis (fun w_ K => ?_)
    have H := H.call K
    cases htv : (!r.target.isEmpty && r.target.all visB)
    · have hk : formS r = 141 := by
        rw [hfs, if_pos]
        cases hte : r.target with
        | nil => exact .inr (.inl rfl)
        | cons x l => rw [hte] at htv; exact .inr (.inr htv)
      repeat' (first | (with_reducible first | refine p_tn ?_ | refine p_tr ?_ | refine p_br ?_ | refine wp_seq ?_ | refine w_reg ?_) | (with_reducible (refine is_if ?_; (refine w_ift rfl ?_))) | (with_reducible first | refine wp_ret ?_ | refine l_nil ?_) | ((with_reducible refine g_on ?_); (first | ((with_reducible refine g_as ?_); refine l_p txs rfl rfl ?_) | ((with_reducible refine g_pk ?_); refine l_p txs rfl rfl ?_))) | ((with_reducible refine g_if ?_); ((with_reducible refine g_un ?_); (refine l_p txs rfl rfl ?_))))
      refine end2 rfl rfl rfl ?_
      exact fm_bad hk (by decide) H.B
    rw [if_neg (by
      rintro (a | a | a)
      · rw [htk] at a; cases a
      · rw [a] at htv; cases htv
      · rw [a, Bool.and_false] at htv; cases htv)] at hfs
    repeat' (first | (with_reducible first | refine p_tn ?_ | refine wp_seq ?_ | refine w_reg ?_) | (with_reducible (refine is_if ?_; (refine w_iff rfl ?_))) | (with_reducible refine l_nil ?_) | ((with_reducible refine g_on ?_); (first | ((with_reducible refine g_as ?_); refine l_p txs rfl rfl ?_) | ((with_reducible refine g_pk ?_); refine l_p txs rfl rfl ?_) | ((with_reducible refine g_fa ?_); refine h_fa flds rfl rfl ?_) | ((with_reducible refine g_ld ?_); (refine h_ld txs H 0 rfl rfl rfl rfl ?_)))) | ((with_reducible refine g_if ?_); ((with_reducible refine g_un ?_); (refine l_p txs rfl rfl ?_))))
    have hkn := rknown_c (hNb _ H.B) (strOfNums r.method)
    rw [blS hm] at hkn
    (with_reducible refine is_l ?_); refine l_callv rfl rfl (by kernel_rfl) hkn (fun w_ K => ?_)
    have H := H.call K
    cases hme : methodsS.contains r.method
    · have hk : formS r = 148 := by rw [hfs, if_pos hme]
      repeat' (first | (with_reducible first | refine p_tn ?_ | refine p_tr ?_ | refine p_br ?_ | refine wp_seq ?_ | refine w_reg ?_) | (with_reducible (refine is_if ?_; (refine w_ift rfl ?_))) | (with_reducible first | refine wp_ret ?_ | refine l_nil ?_) | ((with_reducible refine g_on ?_); (first | ((with_reducible refine g_as ?_); refine l_p txs rfl rfl ?_) | ((with_reducible refine g_un ?_); (refine l_p txs rfl rfl ?_)))))
      refine end2 rfl rfl rfl ?_
      exact fm_bad hk (by decide) H.B
    rw [if_neg (by rw [hme]; simp)] at hfs
    repeat' (first | (with_reducible first | refine p_tn ?_ | refine wp_seq ?_ | refine w_reg ?_) | (with_reducible (refine is_if ?_; (refine w_iff rfl ?_))) | (with_reducible refine l_nil ?_) | ((with_reducible refine g_on ?_); (first | ((with_reducible refine g_as ?_); refine l_p txs rfl rfl ?_) | ((with_reducible refine g_fa ?_); refine h_fa flds rfl rfl ?_) | ((with_reducible refine g_ld ?_); (refine h_ld txs H 0 rfl rfl rfl rfl ?_)) | ((with_reducible refine g_un ?_); (refine l_p txs rfl rfl ?_)))))
    (with_reducible refine is_l ?_); refine l_t txs rfl rfl (fun m0 => ?_) (fun m0 => ?_)
    have hmm : ¬ r.minor = 0 := m0
    repeat' (first | (with_reducible first | refine p_tn ?_ | refine p_bn ?_ | refine wp_seq ?_ | refine w_reg ?_) | (with_reducible (refine is_if ?_; (refine w_iff rfl ?_))) | (with_reducible first | refine wp_skip ?_ | refine l_nil ?_) | ((with_reducible refine g_on ?_); (first | ((with_reducible refine g_mv ?_); refine l_p txs rfl rfl ?_) | ((with_reducible refine g_as ?_); refine l_p txs rfl rfl ?_) | ((with_reducible refine g_pk ?_); refine l_p txs rfl rfl ?_))) | ((with_reducible refine g_if ?_); (first | (refine l_off rfl ?_) | ((with_reducible refine g_fa ?_); refine h_fa flds rfl rfl ?_) | ((with_reducible refine g_ld ?_); (refine h_ld txs H 0 rfl rfl rfl rfl ?_)))))
    (with_reducible refine is_l ?_); refine l_t txs rfl rfl (fun m1 => ?_) (fun m1 => ?_)
    · have hk : formS r = 142 := by rw [hfs, if_pos ⟨m0, m1⟩]
      repeat' (first | (with_reducible first | refine p_tn ?_ | refine p_tr ?_ | refine p_br ?_ | refine wp_seq ?_ | refine w_reg ?_) | (with_reducible (refine is_if ?_; (refine w_ift rfl ?_))) | (with_reducible first | refine wp_ret ?_ | refine l_nil ?_) | ((with_reducible refine g_on ?_); (first | ((with_reducible refine g_as ?_); refine l_p txs rfl rfl ?_) | ((with_reducible refine g_pk ?_); refine l_p txs rfl rfl ?_))))
      refine end2 rfl rfl rfl ?_
      exact fm_bad hk (by decide) H.B
    have hm2 : ¬ (r.minor ≠ 0 ∧ r.minor ≠ 1) := fun h => m1 h.2
    rotate_left
    have hm2 : ¬ (r.minor ≠ 0 ∧ r.minor ≠ 1) := fun h => m0 h.1
    all_goals
      rw [if_neg hm2] at hfs
      repeat' (first | (with_reducible first | refine p_tn ?_ | refine p_bn ?_ | refine wp_seq ?_ | refine w_reg ?_) | (with_reducible (refine is_if ?_; (refine w_iff rfl ?_))) | (with_reducible first | refine wp_skip ?_ | refine l_nil ?_) | ((with_reducible refine g_on ?_); (first | ((with_reducible refine g_mv ?_); refine l_p txs rfl rfl ?_) | ((with_reducible refine g_as ?_); refine l_p txs rfl rfl ?_) | ((with_reducible refine g_pk ?_); refine l_p txs rfl rfl ?_))))
      have hcf := rchecked_c (c := f2) (rowG_at H 0 rfl) hpb
      by_cases h9 : 64 < P.length
      · have hck : chkI P = 2 := by unfold chkI; rw [if_pos h9]
        have hk : formS r = 2 := by rw [hfs, if_pos h9]
        rw [hck] at hcf
        (with_reducible refine is_l ?_); refine l_callv rfl rfl (by kernel_rfl) hcf (fun w_ K => ?_)
        have H := H.call K
        repeat' (first | (with_reducible first | refine p_tn ?_ | refine wp_seq ?_ | refine w_reg ?_ | refine l_nil ?_) | ((with_reducible refine g_on ?_); (first | ((with_reducible refine g_mv ?_); refine l_p txs rfl rfl ?_) | ((with_reducible refine g_as ?_); refine l_p txs rfl rfl ?_))))
        (with_reducible refine is_l ?_); refine l_t txs rfl rfl (fun hh => absurd hh (by decide)) (fun _ => ?_)
        repeat' (first | (with_reducible first | refine p_tn ?_ | refine wp_seq ?_ | refine w_reg ?_) | (with_reducible (refine is_if ?_; (refine w_iff rfl ?_))) | (with_reducible first | refine wp_skip ?_ | refine l_nil ?_) | ((with_reducible refine g_on ?_); ((with_reducible refine g_mv ?_); refine l_p txs rfl rfl ?_)))
        (with_reducible refine is_l ?_); refine l_t txs rfl rfl (fun _ => ?_) (fun hh => absurd (by decide) hh)
        repeat' (first | (with_reducible first | refine p_tn ?_ | refine p_tr ?_ | refine wp_seq ?_ | refine w_reg ?_) | (with_reducible (refine is_if ?_; (refine w_ift rfl ?_))) | (with_reducible first | refine wp_ret ?_ | refine l_nil ?_) | ((with_reducible refine g_on ?_); (first | ((with_reducible refine g_mv ?_); refine l_p txs rfl rfl ?_) | ((with_reducible refine g_as ?_); refine l_p txs rfl rfl ?_))))
        refine end2 rfl rfl rfl ?_
        exact fm_bad hk (by decide) H.B
      rw [if_neg h9] at hfs
      cases h10 : P.all goodF
      · have hck : chkI P = 143 := by unfold chkI; rw [if_neg h9, h10]; rfl
        have hk : formS r = 143 := by rw [hfs, if_pos h10]
        rw [hck] at hcf
        (with_reducible refine is_l ?_); refine l_callv rfl rfl (by kernel_rfl) hcf (fun w_ K => ?_)
        have H := H.call K
        repeat' (first | (with_reducible first | refine p_tn ?_ | refine wp_seq ?_ | refine w_reg ?_ | refine l_nil ?_) | ((with_reducible refine g_on ?_); (first | ((with_reducible refine g_mv ?_); refine l_p txs rfl rfl ?_) | ((with_reducible refine g_as ?_); refine l_p txs rfl rfl ?_))))
        (with_reducible refine is_l ?_); refine l_t txs rfl rfl (fun hh => absurd hh (by decide)) (fun _ => ?_)
        repeat' (first | (with_reducible first | refine p_tn ?_ | refine wp_seq ?_ | refine w_reg ?_) | (with_reducible (refine is_if ?_; (refine w_iff rfl ?_))) | (with_reducible first | refine wp_skip ?_ | refine l_nil ?_) | ((with_reducible refine g_on ?_); ((with_reducible refine g_mv ?_); refine l_p txs rfl rfl ?_)))
        (with_reducible refine is_l ?_); refine l_t txs rfl rfl (fun _ => ?_) (fun hh => absurd (by decide) hh)
        repeat' (first | (with_reducible first | refine p_tn ?_ | refine p_tr ?_ | refine wp_seq ?_ | refine w_reg ?_) | (with_reducible (refine is_if ?_; (refine w_ift rfl ?_))) | (with_reducible first | refine wp_ret ?_ | refine l_nil ?_) | ((with_reducible refine g_on ?_); (first | ((with_reducible refine g_mv ?_); refine l_p txs rfl rfl ?_) | ((with_reducible refine g_as ?_); refine l_p txs rfl rfl ?_))))
        refine end2 rfl rfl rfl ?_
        exact fm_bad hk (by decide) H.B
      have hck : chkI P = 0 := by unfold chkI; rw [if_neg h9, h10]; rfl
      rw [if_neg (by rw [h10]; simp)] at hfs
      rw [hck] at hcf
      (with_reducible refine is_l ?_); refine l_callv rfl rfl (by kernel_rfl) hcf (fun w_ K => ?_)
      have H := H.call K
      repeat' (first | (with_reducible first | refine p_tn ?_ | refine wp_seq ?_ | refine w_reg ?_ | refine l_nil ?_) | ((with_reducible refine g_on ?_); (first | ((with_reducible refine g_mv ?_); refine l_p txs rfl rfl ?_) | ((with_reducible refine g_as ?_); refine l_p txs rfl rfl ?_))))
      (with_reducible refine is_l ?_); refine l_t txs rfl rfl (fun _ => ?_) (fun hh => absurd rfl hh)
      repeat' (first | (with_reducible first | refine p_tn ?_ | refine w_reg ?_) | (with_reducible (refine is_if ?_; (refine w_ift rfl ?_))) | (with_reducible refine l_nil ?_) | ((with_reducible refine g_on ?_); (first | ((with_reducible refine g_mv ?_); refine l_p txs rfl rfl ?_) | ((with_reducible refine g_fa ?_); refine h_fa flds rfl rfl ?_) | ((with_reducible refine g_ld ?_); (refine h_ld txs H 0 rfl rfl rfl rfl ?_)))))
      (with_reducible refine is_l ?_); refine l_callv rfl rfl (by kernel_rfl) (rhost_c (rowG_at H 0 rfl) hpb (by omega) r.minor) (fun w_ K => ?_)
      have H := H.call K
      cases hho : hostOk P r.minor
      · have hk : formS r = 144 := by rw [hfs, if_pos hho]
        have e1 : (if false = true then (0 : Int) else 144) = 144 := rfl
        rw [e1]
        repeat' (first | (with_reducible first | refine p_tn ?_ | refine wp_seq ?_ | refine w_reg ?_ | refine l_nil ?_) | ((with_reducible refine g_on ?_); (first | ((with_reducible refine g_mv ?_); refine l_p txs rfl rfl ?_) | ((with_reducible refine g_as ?_); refine l_p txs rfl rfl ?_))))
        (with_reducible refine is_l ?_); refine l_t txs rfl rfl (fun _ => ?_) (fun hh => absurd (by decide) hh)
        repeat' (first | (with_reducible first | refine p_tn ?_ | refine p_tr ?_ | refine wp_seq ?_ | refine w_reg ?_) | (with_reducible (refine is_if ?_; (refine w_ift rfl ?_))) | (with_reducible first | refine wp_ret ?_ | refine l_nil ?_) | ((with_reducible refine g_on ?_); (first | ((with_reducible refine g_mv ?_); refine l_p txs rfl rfl ?_) | ((with_reducible refine g_as ?_); refine l_p txs rfl rfl ?_))))
        refine end2 rfl rfl rfl ?_
        exact fm_bad hk (by decide) H.B
      rw [if_neg (by rw [hho]; simp)] at hfs
      have e1 : (if true = true then (0 : Int) else 144) = 0 := rfl
      rw [e1]
      repeat' (first | (with_reducible first | refine p_tn ?_ | refine wp_seq ?_ | refine w_reg ?_ | refine l_nil ?_) | ((with_reducible refine g_on ?_); (first | ((with_reducible refine g_mv ?_); refine l_p txs rfl rfl ?_) | ((with_reducible refine g_as ?_); refine l_p txs rfl rfl ?_))))
      (with_reducible refine is_l ?_); refine l_t txs rfl rfl (fun hh => absurd rfl hh) (fun _ => ?_)
      repeat' (first | (with_reducible first | refine p_tn ?_ | refine wp_seq ?_ | refine w_reg ?_) | (with_reducible (refine is_if ?_; (refine w_iff rfl ?_))) | (with_reducible first | refine wp_skip ?_ | refine l_nil ?_) | ((with_reducible refine g_on ?_); (first | ((with_reducible refine g_fa ?_); refine h_fa flds rfl rfl ?_) | ((with_reducible refine g_ld ?_); (refine h_ld txs H 0 rfl rfl rfl rfl ?_)) | ((with_reducible refine g_cl ?_); refine l_p txs rfl rfl ?_))))
      (with_reducible refine is_l ?_); refine l_t txs rfl rfl (fun h6 => ?_) (fun h6 => ?_)
      · have hk : formS r = 145 := by rw [hfs, if_pos (by omega)]
        repeat' (first | (with_reducible first | refine p_tn ?_ | refine p_tr ?_ | refine wp_seq ?_ | refine w_reg ?_) | (with_reducible (refine is_if ?_; (refine w_ift rfl ?_))) | (with_reducible first | refine wp_ret ?_ | refine l_nil ?_) | ((with_reducible refine g_on ?_); ((with_reducible refine g_as ?_); refine l_p txs rfl rfl ?_)))
        refine end2 rfl rfl rfl ?_
        exact fm_bad hk (by decide) H.B
      rw [if_neg (by omega)] at hfs
      repeat' (first | (with_reducible first | refine p_tn ?_ | refine wp_seq ?_ | refine w_reg ?_) | (with_reducible (refine is_if ?_; (refine w_iff rfl ?_))) | (with_reducible first | refine wp_skip ?_ | refine l_nil ?_) | ((with_reducible refine g_on ?_); (first | ((with_reducible refine g_mv ?_); refine l_p txs rfl rfl ?_) | ((with_reducible refine g_fa ?_); refine h_fa flds rfl rfl ?_) | ((with_reducible refine g_ld ?_); (refine h_ld txs H 0 rfl rfl rfl rfl ?_)))))
      have hla := rlaid_c (c := f2) (c2 := b1) (rowG_at H 0 rfl) hpb (by omega) (hr.below H.B) (by omega) (start := s0) (by omega) (by omega)
      rw [hbl0] at hla
      (with_reducible refine is_l ?_); refine l_call rfl rfl (by kernel_rfl) hla (fun e w_ hR4 => ?_)
      obtain ⟨g9, c9, rfl, K, hrd⟩ := hR4
      refine ⟨_, rfl, ?_⟩
      have H := H.call K
      generalize wholeS (startI r) P r.body = V at hrd ⊢
      repeat' (first | (with_reducible first | refine p_tn ?_ | refine wp_ret ?_ | refine l_nil ?_) | ((with_reducible refine g_on ?_); ((with_reducible refine g_as ?_); refine l_p txs rfl rfl ?_)))
      refine end2 rfl rfl rfl ?_
      exact fm_ok hfs H.B hrd
end Go.Proofs.YthgojbdpmcccaaaGreatDoor.K.Ref
end
section
namespace Go.Proofs.YthgojbdpmcccaaaGreatDoor.K
open Go.RowKit Go.Proofs.YthgojbdpmcccaaaGreatDoor.Q Go.Proofs.YthgojbdpmcccaaaGreatDoor.Wb Go.Proofs.YthgojbdpmcccaaaGreatDoorW.PrintWords
set_option linter.unusedVariables false
set_option linter.unusedSimpArgs false
theorem byt_rd {w' : World} {g c : Nat} {cur : Array Value} {x : L} (hb : w'.heap[g]? = some (.cells cur 5 (c, c + 1))) (ht : cur.toList.take x.length = nums .u8 x) : Rd w' (some ⟨g, 0, none⟩) (nums .u8 x) := by
  refine ⟨fun e => (by cases e), fun ad e i v hv => ?_⟩
  injection e with e
  subst e
  have hi : i < x.length := by have := (List.getElem?_eq_some_iff.1 hv).1; simpa [nums] using this
  rw [add_lit, Nat.zero_add]
  rw [← ht, List.getElem?_take_of_lt hi] at hv
  simp only [World.cell?, hb]
  simpa using hv
end Go.Proofs.YthgojbdpmcccaaaGreatDoor.K
end
section
namespace Go.Proofs.YthgojbdpmcccaaaGreatDoor.K
open Go.RowKit Go.Proofs.YthgojbdpmcccaaaGreatDoor.Q Go.Proofs.YthgojbdpmcccaaaGreatDoor.Wb Go.Proofs.YthgojbdpmcccaaaGreatDoorW.PrintWords
set_option linter.unusedVariables false
set_option linter.unusedSimpArgs false
def resOf (st mi : Int) (ns vs : List L) (body : L) (pad : Int) : ResS := ⟨st, mi, mkF ns vs, padS body pad, false⟩
theorem built_rs (a i : Int) (A : Option Addr) (n c : Nat) : Tryz.prog.built 59 [(0, .int .i64 a), (1, .int .i64 i), (3, .slice A n c)] = some #[.int .i64 a, .int .i64 i, .slice none 0 0, .slice A n c, .bool false] := by kernel_rfl
set_option maxRecDepth 100000 in
set_option maxHeartbeats 8000000 in
theorem response_c {w : World} {st mi pad : Int} {ns vs : List L} {body : L} {NB VB BB : Option Addr} {nc vc bc : Nat} (hn : Rd w NB (strC ns)) (hv : Rd w VB (strC vs)) (hnl : ns.length ≤ 10000000) (hr : ReadsInt w .u8 BB body.length body) (hbl : body.length ≤ 1000000000) :
    Calls Tryz.prog 27 #[.agg #[.int .i64 st, .int .i64 mi, .slice NB ns.length nc, .slice VB vs.length vc, .slice BB body.length bc, .int .i64 pad]] w fun e w' => ∃ F f B b, e = .returned (.agg (resA (resOf st mi ns vs body pad) F f B b)) ∧ Hp w w' [] [rowF (.slice F (mkF ns vs).length f) (mkF ns vs), rowB (.slice B (padS body pad).length b) (padS body pad)] := by
  refine enter (args := [.agg #[.int .i64 st, .int .i64 mi, .slice NB ns.length nc, .slice VB vs.length vc, .slice BB body.length bc, .int .i64 pad]]) Tryz.func27 rfl Tryz.ntmps27 rfl ?_
  have H := (Hp.nil w).nilRow 95 2
  repeat' (with_reducible first | refine wp_seq ?_ | refine w_reg ?_)
  (with_reducible refine is_l ?_); refine h_box H rfl rfl rfl (fun gX w_ H => ?_)
  (with_reducible refine is_l ?_); refine h_alloc recs H rfl rfl (fun gC w_ H => ?_)
  repeat' (with_reducible first | refine p_tn ?_ | refine wp_seq ?_ | refine l_nil ?_)
  have HS := H.pick [0, 1] [] (by decide) (by decide) rfl rfl
  refine e_start (fun w_ => Hp w w_ _ _) [] #[false, false, false, false, false, false, false, false, false, false, false, false] (by kernel_rfl) rfl rfl HS.drew ?_
  have H := H.drew
  have HS := HS.drew
  first | (refine e_pure (i := 0) #[true, false, false, false, false, false, false, false, false, false, false, false] rfl (by kernel_rfl) (fun _ _ _ h => h) rfl (fun w_ => evF_run (o := ⟨_, _, _, _, _, _⟩) flds rfl) ?_) | (refine e_pure (i := 0) #[true, false, false, false, false, false, false, false, false, false, false, false] rfl (by kernel_rfl) (fun _ _ _ h => h) rfl (fun w_ => evG_run (o := ⟨_, _, _, _, _, _⟩) flds rfl) ?_)
  first | (refine e_take (i := 1) #[true, true, false, false, false, false, false, false, false, false, false, false] rfl (by kernel_rfl) (fun _ _ _ h => h) rfl (fun w_ K => evL_run (o := ⟨_, _, _, _, _, _⟩) txs rfl (K.cellAt 0 rfl rfl)) HS ?_) | (refine e_take (i := 1) #[true, true, false, false, false, false, false, false, false, false, false, false] rfl (by kernel_rfl) (fun _ _ _ h => h) rfl (fun w_ K => evL_run (o := ⟨_, _, _, _, _, _⟩) txs rfl (K.cellAt 1 rfl rfl)) HS ?_)
  first | (refine e_pure (i := 2) #[true, true, true, false, false, false, false, false, false, false, false, false] rfl (by kernel_rfl) (fun _ _ _ h => h) rfl (fun w_ => evF_run (o := ⟨_, _, _, _, _, _⟩) flds rfl) ?_) | (refine e_pure (i := 2) #[true, true, true, false, false, false, false, false, false, false, false, false] rfl (by kernel_rfl) (fun _ _ _ h => h) rfl (fun w_ => evG_run (o := ⟨_, _, _, _, _, _⟩) flds rfl) ?_)
  first | (refine e_take (i := 3) #[true, true, true, true, false, false, false, false, false, false, false, false] rfl (by kernel_rfl) (fun _ _ _ h => h) rfl (fun w_ K => evL_run (o := ⟨_, _, _, _, _, _⟩) txs rfl (K.cellAt 0 rfl rfl)) HS ?_) | (refine e_take (i := 3) #[true, true, true, true, false, false, false, false, false, false, false, false] rfl (by kernel_rfl) (fun _ _ _ h => h) rfl (fun w_ K => evL_run (o := ⟨_, _, _, _, _, _⟩) txs rfl (K.cellAt 1 rfl rfl)) HS ?_)
  first | (refine e_pure (i := 4) #[true, true, true, true, true, false, false, false, false, false, false, false] rfl (by kernel_rfl) (fun _ _ _ h => h) rfl (fun w_ => evF_run (o := ⟨_, _, _, _, _, _⟩) flds rfl) ?_) | (refine e_pure (i := 4) #[true, true, true, true, true, false, false, false, false, false, false, false] rfl (by kernel_rfl) (fun _ _ _ h => h) rfl (fun w_ => evG_run (o := ⟨_, _, _, _, _, _⟩) flds rfl) ?_)
  first | (refine e_take (i := 5) #[true, true, true, true, true, true, false, false, false, false, false, false] rfl (by kernel_rfl) (fun _ _ _ h => h) rfl (fun w_ K => evL_run (o := ⟨_, _, _, _, _, _⟩) txs rfl (K.cellAt 0 rfl rfl)) HS ?_) | (refine e_take (i := 5) #[true, true, true, true, true, true, false, false, false, false, false, false] rfl (by kernel_rfl) (fun _ _ _ h => h) rfl (fun w_ K => evL_run (o := ⟨_, _, _, _, _, _⟩) txs rfl (K.cellAt 1 rfl rfl)) HS ?_)
  first | (refine e_pure (i := 6) #[true, true, true, true, true, true, true, false, false, false, false, false] rfl (by kernel_rfl) (fun _ _ _ h => h) rfl (fun w_ => evF_run (o := ⟨_, _, _, _, _, _⟩) flds rfl) ?_) | (refine e_pure (i := 6) #[true, true, true, true, true, true, true, false, false, false, false, false] rfl (by kernel_rfl) (fun _ _ _ h => h) rfl (fun w_ => evG_run (o := ⟨_, _, _, _, _, _⟩) flds rfl) ?_)
  first | (refine e_take (i := 7) #[true, true, true, true, true, true, true, true, false, false, false, false] rfl (by kernel_rfl) (fun _ _ _ h => h) rfl (fun w_ K => evL_run (o := ⟨_, _, _, _, _, _⟩) txs rfl (K.cellAt 0 rfl rfl)) HS ?_) | (refine e_take (i := 7) #[true, true, true, true, true, true, true, true, false, false, false, false] rfl (by kernel_rfl) (fun _ _ _ h => h) rfl (fun w_ K => evL_run (o := ⟨_, _, _, _, _, _⟩) txs rfl (K.cellAt 1 rfl rfl)) HS ?_)
  refine e_two (i := 8) (j := 10) #[true, true, true, true, true, true, true, true, true, false, false, false] #[true, true, true, true, true, true, true, true, false, false, true, false] rfl rfl (by kernel_rfl) (by decide) (by decide) rfl rfl ?_ ?_
  (refine l_call rfl rfl (by kernel_rfl) (padded_c (hr.below H.B) pad hbl) (fun e w_ hR => ?_)); obtain ⟨A1, c1, rfl, K⟩ := hR; refine ⟨_, rfl, ?_⟩; have H := H.join K
  refine l_nil ?_
  have HS := H.pick [0, 1] [] (by decide) (by decide) rfl rfl
  refine ⟨rfl, HS, ?_⟩
  first | (refine e_pure (i := 9) #[true, true, true, true, true, true, true, true, true, true, false, false] rfl (by kernel_rfl) (fun _ _ _ h => h) rfl (fun w_ => evBld_run (o := ⟨_, _, _, _, _, _⟩) rfl (built_rs _ _ _ _ _)) ?_)
  refine e_one (i := 10) #[true, true, true, true, true, true, true, true, true, true, true, false] rfl (by kernel_rfl) (by decide) rfl ?_
  refine h_alloc recs H rfl rfl (fun gL w_ H => ?_)
  refine l_nil ?_
  have HS := H.pick [1, 2] [] (by decide) (by decide) rfl rfl
  refine ⟨rfl, HS, ?_⟩
  refine e_one (i := 11) #[true, true, true, true, true, true, true, true, true, true, true, true] rfl (by kernel_rfl) (by decide) rfl ?_
  refine g_on ?_; ((with_reducible refine g_st ?_); (refine h_stR recs H 0 rfl rfl rfl rfl rfl rfl rfl rfl rfl (fun w_ H => ?_)))
  refine l_nil ?_
  have HS := H.pick [1, 2] [] (by decide) (by decide) rfl rfl
  refine ⟨rfl, HS, ?_⟩
  refine e_done rfl ?_
  rotate_left
  refine h_alloc recs H rfl rfl (fun gL w_ H => ?_)
  refine l_nil ?_
  have HS := H.pick [1, 2] [] (by decide) (by decide) rfl rfl
  refine ⟨rfl, HS, ?_⟩
  refine e_one (i := 8) #[true, true, true, true, true, true, true, true, true, false, true, false] rfl (by kernel_rfl) (by decide) rfl ?_
  (refine l_call rfl rfl (by kernel_rfl) (padded_c (hr.below H.B) pad hbl) (fun e w_ hR => ?_)); obtain ⟨A1, c1, rfl, K⟩ := hR; refine ⟨_, rfl, ?_⟩; have H := H.join K
  refine l_nil ?_
  have HS := H.pick [1, 2] [] (by decide) (by decide) rfl rfl
  refine ⟨rfl, HS, ?_⟩
  first | (refine e_pure (i := 9) #[true, true, true, true, true, true, true, true, true, true, true, false] rfl (by kernel_rfl) (fun _ _ _ h => h) rfl (fun w_ => evBld_run (o := ⟨_, _, _, _, _, _⟩) rfl (built_rs _ _ _ _ _)) ?_)
  refine e_one (i := 11) #[true, true, true, true, true, true, true, true, true, true, true, true] rfl (by kernel_rfl) (by decide) rfl ?_
  refine g_on ?_; ((with_reducible refine g_st ?_); (refine h_stR recs H 0 rfl rfl rfl rfl rfl rfl rfl rfl rfl (fun w_ H => ?_)))
  refine l_nil ?_
  have HS := H.pick [1, 2] [] (by decide) (by decide) rfl rfl
  refine ⟨rfl, HS, ?_⟩
  refine e_done rfl ?_
  all_goals
    repeat' (first | (with_reducible first | refine p_tn ?_ | refine wp_seq ?_ | refine wp_block ?_ | refine w_reg ?_ | refine l_nil ?_) | ((with_reducible refine g_on ?_); ((with_reducible refine g_as ?_); refine l_p txs rfl rfl ?_)))
    have hml := mkF_len ns vs
    refine w_loop (σ := Nat × Option Addr × Nat) (S := fun s => [(1, .pointer (some ⟨gX, 0, none⟩)), (2, .pointer (some ⟨gC, 0, none⟩)), (3, .pointer (some ⟨gL, 0, none⟩)), (4, .int .i64 (s.1 : Int))])
      (J := fun s w' => Hp w w' [(gL, 59, [.int .i64 st, .int .i64 mi, .slice s.2.1 s.1 s.2.2, .slice A1 (padS body pad).length c1, .bool false]), (gC, 59, [.int .i64 0, .int .i64 0, .slice none 0 0, .slice none 0 0, .bool false]), (gX, 53, [.int .i64 st, .int .i64 mi, .slice NB ns.length nc, .slice VB vs.length vc, .slice BB body.length bc, .int .i64 pad])] [rowB (.slice A1 (padS body pad).length c1) (padS body pad), ⟨.slice s.2.1 s.1 s.2.2, 95, 2, s.1, fldC ((mkF ns vs).take s.1)⟩] ∧ s.1 ≤ ns.length) (μ := fun s => ns.length - s.1) (0, none, 0) ⟨rfl, rfl, rfl, rfl, trivial⟩ ⟨H, by omega⟩ ?_
    rintro ⟨i, A2, c2⟩ f w_ ⟨H, hi⟩
    simp only at H hi ⊢
    repeat' (first | (with_reducible first | refine wp_seq ?_ | refine w_reg ?_) | ((with_reducible refine g_on ?_); (first | ((with_reducible refine g_mv ?_); refine l_p txs rfl rfl ?_) | ((with_reducible refine g_fa ?_); refine h_fa flds rfl rfl ?_) | ((with_reducible refine g_ld ?_); (refine h_ld txs H 2 rfl rfl rfl rfl ?_)) | ((with_reducible refine g_cl ?_); refine l_p txs rfl rfl ?_))))
    (with_reducible refine is_l ?_); refine l_t txs rfl rfl (fun hlt => ?_) (fun hge => ?_)
    · obtain ⟨x, hx⟩ : ∃ x, ns[i]? = some x := ⟨_, List.getElem?_eq_getElem (by omega)⟩
      obtain ⟨ad, rfl⟩ : ∃ ad, NB = some ad := by
        cases NB with
        | none =>
          have := hn.1 rfl
          simp only [strC, List.map_eq_nil_iff] at this
          rw [this] at hx
          simp at hx
        | some ad => exact ⟨ad, rfl⟩
      have hcell := hn.2 ad rfl _ _ (strC_at hx)
      have htk := mkF_take (vs := vs) hx
      repeat' (first | (with_reducible first | refine p_tn ?_ | refine wp_seq ?_ | refine wp_block ?_) | (with_reducible (refine is_if ?_; (refine w_ift rfl ?_))) | (with_reducible first | refine wp_skip ?_ | refine l_nil ?_))
      have HS := H.pick [0, 1, 2] [0] (by decide) (by decide) rfl rfl
      refine e_start (fun w_ => Hp w w_ _ _) [15] #[false, false, false, false, false, false, false, false, false, false, false, false, false, false, false, false] (by kernel_rfl) rfl rfl HS.drew ?_
      have H := H.drew
      have HS := HS.drew
      first | (refine e_pure (i := 0) #[true, false, false, false, false, false, false, false, false, false, false, false, false, false, false, false] rfl (by kernel_rfl) (fun _ _ _ h => h) rfl (fun w_ => evF_run (o := ⟨_, _, _, _, _, _⟩) flds rfl) ?_) | (refine e_pure (i := 0) #[true, false, false, false, false, false, false, false, false, false, false, false, false, false, false, false] rfl (by kernel_rfl) (fun _ _ _ h => h) rfl (fun w_ => evG_run (o := ⟨_, _, _, _, _, _⟩) flds rfl) ?_)
      first | (refine e_take (i := 1) #[true, true, false, false, false, false, false, false, false, false, false, false, false, false, false, false] rfl (by kernel_rfl) (fun _ _ _ h => h) rfl (fun w_ K => evL_run (o := ⟨_, _, _, _, _, _⟩) txs rfl (K.cellAt 0 rfl rfl)) HS ?_) | (refine e_take (i := 1) #[true, true, false, false, false, false, false, false, false, false, false, false, false, false, false, false] rfl (by kernel_rfl) (fun _ _ _ h => h) rfl (fun w_ K => evL_run (o := ⟨_, _, _, _, _, _⟩) txs rfl (K.cellAt 1 rfl rfl)) HS ?_) | (refine e_take (i := 1) #[true, true, false, false, false, false, false, false, false, false, false, false, false, false, false, false] rfl (by kernel_rfl) (fun _ _ _ h => h) rfl (fun w_ K => evL_run (o := ⟨_, _, _, _, _, _⟩) txs rfl (K.cellAt 2 rfl rfl)) HS ?_)
      first | (refine e_pure (i := 2) #[true, true, true, false, false, false, false, false, false, false, false, false, false, false, false, false] rfl (by kernel_rfl) (fun _ _ _ h => h) rfl (fun w_ => evF_run (o := ⟨_, _, _, _, _, _⟩) flds rfl) ?_) | (refine e_pure (i := 2) #[true, true, true, false, false, false, false, false, false, false, false, false, false, false, false, false] rfl (by kernel_rfl) (fun _ _ _ h => h) rfl (fun w_ => evG_run (o := ⟨_, _, _, _, _, _⟩) flds rfl) ?_)
      first | (refine e_take (i := 3) #[true, true, true, true, false, false, false, false, false, false, false, false, false, false, false, false] rfl (by kernel_rfl) (fun _ _ _ h => h) rfl (fun w_ K => evL_run (o := ⟨_, _, _, _, _, _⟩) txs rfl (K.cellAt 0 rfl rfl)) HS ?_) | (refine e_take (i := 3) #[true, true, true, true, false, false, false, false, false, false, false, false, false, false, false, false] rfl (by kernel_rfl) (fun _ _ _ h => h) rfl (fun w_ K => evL_run (o := ⟨_, _, _, _, _, _⟩) txs rfl (K.cellAt 1 rfl rfl)) HS ?_) | (refine e_take (i := 3) #[true, true, true, true, false, false, false, false, false, false, false, false, false, false, false, false] rfl (by kernel_rfl) (fun _ _ _ h => h) rfl (fun w_ K => evL_run (o := ⟨_, _, _, _, _, _⟩) txs rfl (K.cellAt 2 rfl rfl)) HS ?_)
      first | (refine e_pure (i := 4) #[true, true, true, true, true, false, false, false, false, false, false, false, false, false, false, false] rfl (by kernel_rfl) (fun _ _ _ h => h) rfl (fun w_ => evP_run (o := ⟨_, _, _, _, _, _⟩) txs rfl) ?_)
      first | (refine e_pure (i := 5) #[true, true, true, true, true, true, false, false, false, false, false, false, false, false, false, false] rfl (by kernel_rfl) (fun _ _ _ h => h) rfl (fun w_ => evIA_run (o := ⟨_, _, _, _, _, _⟩) txs rfl (by omega) (by omega)) ?_)
      first | (refine e_take (i := 6) #[true, true, true, true, true, true, true, false, false, false, false, false, false, false, false, false] rfl (by kernel_rfl) (fun _ _ _ h => h) rfl (fun w_ K => evL_run (o := ⟨_, _, _, _, _, _⟩) txs rfl (by rw [Int.toNat_natCast]; exact K.old hcell)) HS ?_)
      first | (refine e_pure (i := 7) #[true, true, true, true, true, true, true, true, false, false, false, false, false, false, false, false] rfl (by kernel_rfl) (fun _ _ _ h => h) rfl (fun w_ => evF_run (o := ⟨_, _, _, _, _, _⟩) flds rfl) ?_) | (refine e_pure (i := 7) #[true, true, true, true, true, true, true, true, false, false, false, false, false, false, false, false] rfl (by kernel_rfl) (fun _ _ _ h => h) rfl (fun w_ => evG_run (o := ⟨_, _, _, _, _, _⟩) flds rfl) ?_)
      first | (refine e_take (i := 8) #[true, true, true, true, true, true, true, true, true, false, false, false, false, false, false, false] rfl (by kernel_rfl) (fun _ _ _ h => h) rfl (fun w_ K => evL_run (o := ⟨_, _, _, _, _, _⟩) txs rfl (K.cellAt 0 rfl rfl)) HS ?_) | (refine e_take (i := 8) #[true, true, true, true, true, true, true, true, true, false, false, false, false, false, false, false] rfl (by kernel_rfl) (fun _ _ _ h => h) rfl (fun w_ K => evL_run (o := ⟨_, _, _, _, _, _⟩) txs rfl (K.cellAt 1 rfl rfl)) HS ?_) | (refine e_take (i := 8) #[true, true, true, true, true, true, true, true, true, false, false, false, false, false, false, false] rfl (by kernel_rfl) (fun _ _ _ h => h) rfl (fun w_ K => evL_run (o := ⟨_, _, _, _, _, _⟩) txs rfl (K.cellAt 2 rfl rfl)) HS ?_)
      first | (refine e_pure (i := 9) #[true, true, true, true, true, true, true, true, true, true, false, false, false, false, false, false] rfl (by kernel_rfl) (fun _ _ _ h => h) rfl (fun w_ => evP_run (o := ⟨_, _, _, _, _, _⟩) txs rfl) ?_)
      refine e_one (i := 10) #[true, true, true, true, true, true, true, true, true, true, true, false, false, false, false, false] rfl (by kernel_rfl) (by decide) rfl ?_
      refine l_callv rfl rfl (by kernel_rfl) (value14_c (hv.below H.B) i (by omega)) (fun w_ K => ?_); have H := H.call K
      refine l_nil ?_
      have HS := H.pick [0, 1, 2] [0] (by decide) (by decide) rfl rfl
      refine ⟨rfl, HS, ?_⟩
      first | (refine e_pure (i := 11) #[true, true, true, true, true, true, true, true, true, true, true, true, false, false, false, false] rfl (by kernel_rfl) (fun _ _ _ h => h) rfl (fun w_ => evBld_run (o := ⟨_, _, _, _, _, _⟩) rfl (built_f2 _ _)) ?_)
      refine e_one (i := 12) #[true, true, true, true, true, true, true, true, true, true, true, true, true, false, false, false] rfl (by kernel_rfl) (by decide) rfl ?_
      refine h_bs H info_f Tryz.underlying27 (by decide) (by decide) rfl rfl (fill_f _ _) (fun g_ w_ H => ?_)
      refine l_nil ?_
      have HS := H.pick [1, 2, 3] [0] (by decide) (by decide) rfl rfl
      refine ⟨rfl, HS, ?_⟩
      refine e_one (i := 13) #[true, true, true, true, true, true, true, true, true, true, true, true, true, true, false, false] rfl (by kernel_rfl) (by decide) rfl ?_
      (refine h_app H 1 rfl info_f Tryz.underlying27 rfl rfl rfl rfl (H.cellRd 0 rfl) rfl rfl (by show (i + 1) * 32 ≤ _; omega) (fun v w_ hv H => ?_)); obtain ⟨A', c', rfl⟩ := hv
      refine l_nil ?_
      have HS := H.pick [1, 2, 3] [0] (by decide) (by decide) rfl rfl
      refine ⟨rfl, HS, ?_⟩
      first | (refine e_pure (i := 14) #[true, true, true, true, true, true, true, true, true, true, true, true, true, true, true, false] rfl (by kernel_rfl) (fun _ _ _ h => h) rfl (fun w_ => evF_run (o := ⟨_, _, _, _, _, _⟩) flds rfl) ?_) | (refine e_pure (i := 14) #[true, true, true, true, true, true, true, true, true, true, true, true, true, true, true, false] rfl (by kernel_rfl) (fun _ _ _ h => h) rfl (fun w_ => evG_run (o := ⟨_, _, _, _, _, _⟩) flds rfl) ?_)
      refine e_last (i := 15) #[true, true, true, true, true, true, true, true, true, true, true, true, true, true, true, true] rfl (by kernel_rfl) (by decide) rfl ?_
      refine g_on ?_; ((with_reducible refine g_st ?_); (refine h_st txs ones H 1 rfl rfl rfl rfl rfl rfl rfl rfl rfl (fun w_ H => ?_)))
      refine l_nil ?_
      refine ⟨rfl, ?_⟩
      refine e_done rfl ?_
      repeat' (first | (with_reducible first | refine p_tn ?_ | refine p_bn ?_ | refine w_reg ?_ | refine l_nil ?_) | ((with_reducible refine g_on ?_); (first | ((with_reducible refine g_mv ?_); refine l_p txs rfl rfl ?_) | ((with_reducible refine g_as ?_); refine l_p txs rfl rfl ?_) | ((with_reducible refine g_bi ?_); (refine l_a txs rfl rfl (by first | exact in_i64 (by omega) (by omega) | exact in_u8 (by omega) (by omega) | exact in_u64 (by omega) (by omega) | exact in_i32 (by omega) (by omega)) ?_)))))
      refine ⟨(i + 1, A', c'), _, rfl, ⟨rfl, rfl, rfl, rfl, trivial⟩, ⟨?_, by show i + 1 ≤ _; omega⟩, by show _ - (i + 1) < _ - i; omega⟩
      simp only [htk, fldC_snoc]
      exact H.pick [1, 2, 3] [0, 1] (by decide) (by decide) rfl rfl
    · have hall : (mkF ns vs).take i = mkF ns vs := List.take_of_length_le (by omega)
      have hin : i = ns.length := by omega
      subst hin
      rw [hall] at H
      repeat' (first | (with_reducible first | refine p_tn ?_ | refine p_tx ?_ | refine x_hit ?_ | refine wp_seq ?_ | refine w_reg ?_) | (with_reducible (refine is_if ?_; (refine w_iff rfl ?_))) | (with_reducible first | refine wp_exit ?_ | refine wp_ret ?_ | refine l_nil ?_) | ((with_reducible refine g_on ?_); (first | ((with_reducible refine g_ld ?_); (refine h_ldR recs H 0 rfl rfl rfl rfl rfl ?_)) | ((with_reducible refine g_st ?_); (refine h_stR recs H 1 rfl rfl rfl rfl rfl rfl rfl rfl rfl (fun w_ H => ?_))))))
      refine end_cell recs H 1 rfl rfl rfl rfl rfl ?_
      refine ⟨A2, c2, A1, c1, ?_, ?_⟩
      · show _ = Ending.returned (.agg #[.int .i64 st, .int .i64 mi, .slice A2 (mkF ns vs).length c2, .slice A1 (padS body pad).length c1, .bool false])
        rw [hml]
      · unfold rowF
        rw [hml]
        exact H.pick [] [1, 0] (by decide) (by decide) rfl rfl
theorem look_find (z : ByteArray) (e : Int) : ∀ l : List (Int × L), look z (l.map fun p => (p.1, strOfNums p.2)) e = match findW e l with | some w => strOfNums w | none => z
  | [] => rfl
  | (a, b) :: r => by
    have ih := look_find z e r
    simp only [List.map_cons, look, findW]
    by_cases h : a = e
    · rw [if_pos h, if_pos h]
    · rw [if_neg h, if_neg h]; exact ih
theorem reT_words : reT = wordsS.map fun p => (p.1, strOfNums p.2) := by kernel_rfl
theorem wordsOf_S (e : Int) : wordsOf e = strOfNums ([83, 116, 97, 116, 117, 115, 32] ++ decI e) := by
  unfold wordsOf
  rw [itoa_I]
  refine bl_inj ?_
  rw [bl_cat, blS (decI_bytes e), blS (app_bytes (by intro x hx; simp at hx; omega) (decI_bytes e))]
  rfl
theorem reason_look (e : Int) : look (wordsOf e) reT e = strOfNums (reasonS e) := by
  rw [reT_words, look_find, wordsOf_S]
  unfold reasonS
  cases findW e wordsS <;> rfl
theorem findW_mem (e : Int) : ∀ (l : List (Int × L)) (w : L), findW e l = some w → ∃ p ∈ l, p.2 = w
  | [], w, h => by cases h
  | (a, b) :: r, w, h => by
    simp only [findW] at h
    split at h
    · injection h with h; exact ⟨_, List.mem_cons_self, h⟩
    · obtain ⟨p, hp, hw⟩ := findW_mem e r w h; exact ⟨p, List.mem_cons_of_mem _ hp, hw⟩
theorem words_ok : wordsS.all (fun p => p.2.all (fun x => decide (0 ≤ x) && decide (x ≤ 255)) && decide (p.2.length ≤ 60)) = true := by decide +kernel
theorem reason_ok (e : Int) (h0 : -9223372036854775808 ≤ e) (h1 : e ≤ 9223372036854775807) : Bytes (reasonS e) ∧ (reasonS e).length ≤ 60 := by
  unfold reasonS
  cases hf : findW e wordsS with
  | some w =>
    obtain ⟨p, hp, rfl⟩ := findW_mem e wordsS w hf
    have := List.all_eq_true.1 words_ok p hp
    rw [Bool.and_eq_true, decide_eq_true_eq] at this
    refine ⟨fun x hx => ?_, this.2⟩
    have h2 := List.all_eq_true.1 this.1 x hx
    simpa using h2
  | none =>
    have hs := itoaI_size e h0 h1
    rw [sizeS' (decI_bytes e)] at hs
    refine ⟨app_bytes (by intro x hx; simp at hx; omega) (decI_bytes e), ?_⟩
    show ([83, 116, 97, 116, 117, 115, 32] ++ decI e).length ≤ 60
    rw [List.length_append]
    show 7 + _ ≤ _
    omega
theorem reason_c {w : World} {t2 : TypeId} {fr : Nat × Nat} (hT : w.heap[13]? = some (.cells reC t2 fr)) (hP : TabP w) (e : Int) (he : -9223372036854775808 ≤ e ∧ e ≤ 9223372036854775807) :
    Calls Tryz.prog 65 #[.int .i64 e] w fun en w' => en = .returned (.string (strOfNums (reasonS e))) ∧ Below w.heap.size w w' := by
  have hz : (Lib.itoa e).length ≤ 100 := by
    have := itoaI_size e he.1 he.2
    rw [← itoa_I] at this
    have h2 : (⟨(Lib.itoa e).toArray⟩ : ByteArray).size = (Lib.itoa e).length := by show (Lib.itoa e).toArray.size = _; simp
    omega
  have := re_c hT hP e he hz
  rw [reason_look] at this
  exact this
end Go.Proofs.YthgojbdpmcccaaaGreatDoor.K
end
section
namespace Go.Proofs.YthgojbdpmcccaaaGreatDoor.K
open Go.RowKit Go.Proofs.YthgojbdpmcccaaaGreatDoor.Q Go.Proofs.YthgojbdpmcccaaaGreatDoor.Wb Go.Proofs.YthgojbdpmcccaaaGreatDoorW.PrintWords
set_option linter.unusedVariables false
set_option linter.unusedSimpArgs false
def formT (r : ResS) : Nat := checkResS r.status r.minor (printedS r.fields (toldR r.status r.body)) r.body
def formY (r : ResS) : L := wholeS (startRes r.status r.minor) (printedS r.fields (toldR r.status r.body)) r.body
def FrS (w : World) (r : ResS) (e : Ending) (w' : World) : Prop := Below w.heap.size w w' ∧ ∃ v, e = .returned (.tuple #[v, .int .i64 (formT r : Int)]) ∧ (formT r ≠ 0 → v = .slice none 0 0) ∧ (formT r = 0 → BytB w w' (formY r) v)
theorem toldR_le {st : Int} {b : L} (hl : b.length ≤ 10000000) : ∀ n, toldR st b = some n → n ≤ 10000000 := fun n hn => by
  unfold toldR at hn
  split at hn
  · cases hn
  · injection hn with hn; omega
theorem res_ok {st mi : Int} {l : List Fld} {b : L} (h : checkResS st mi l b = 0) : headLen l ≤ 16384 ∧ l.length ≤ 64 ∧ b.length ≤ 1048576 := by
  unfold checkResS at h
  repeat' (split at h; · first | (cases h; done) | skip)
  omega
set_option maxRecDepth 100000 in
set_option maxHeartbeats 16000000 in
theorem FormatResponse_c {A : Nat → Addr} {w : World} (hE : LayS A w) (h13 : Sent w (gE 13) (A 13)) (hP : TabP w) {tR : TypeId} {frR : Nat × Nat} (hRe : w.heap[13]? = some (.cells reC tR frR))
    (r : ResS) {F B1 : Option Addr} {f1 b1 : Nat} (hst : -9223372036854775808 ≤ r.status ∧ r.status ≤ 9223372036854775807) (hmi : -9223372036854775808 ≤ r.minor ∧ r.minor ≤ 9223372036854775807)
    (hR : Rd w F (fldC r.fields)) (hb : BytesF r.fields) (hl : r.fields.length ≤ 5000000) (hr : ReadsInt w .u8 B1 r.body.length r.body) (hbb : Bytes r.body) (hbl : r.body.length ≤ 10000000) :
    Calls Tryz.prog 28 #[.agg (resA r F f1 B1 b1)] w (FrS w r) := by
  have zi := itoaI_size r.minor hmi.1 hmi.2
  have zs := itoaI_size r.status hst.1 hst.2
  have rok := reason_ok r.status hst.1 hst.2
  have zr := sizeS' rok.1
  have c4 := (hE.sent 4 (by decide) (by decide)).cell
  have c7 := (hE.sent 7 (by decide) (by decide)).cell
  have c10 := (hE.sent 10 (by decide) (by decide)).cell
  have c13 := h13.cell
  have hReb : ∀ w1, Below w.heap.size w w1 → w1.heap[13]? = some (.cells reC tR frR) := fun w1 K => (K.block _ (blk_lt hRe)).trans hRe
  refine enter (args := [.agg (resA r F f1 B1 b1)]) Tryz.func28 rfl Tryz.ntmps28 rfl ?_
  have H := Hp.nil w
  repeat' (first | (with_reducible first | refine p_tn ?_ | refine wp_seq ?_ | refine w_reg ?_ | refine l_nil ?_) | ((with_reducible refine g_on ?_); (first | ((with_reducible refine g_as ?_); refine l_p txs rfl rfl ?_) | ((with_reducible refine g_fa ?_); refine h_fa flds rfl rfl ?_) | ((with_reducible refine g_ld ?_); (refine h_ld txs H 0 rfl rfl rfl rfl ?_)) | ((with_reducible refine g_bx ?_); refine h_box H rfl rfl rfl (fun g_ w_ H => ?_)))))
  (with_reducible refine is_l ?_); refine l_callp rfl rfl (by kernel_rfl) (bodiless_c r.status _) ?_
  repeat' (first | (with_reducible first | refine p_tn ?_ | refine wp_seq ?_ | refine l_nil ?_) | ((with_reducible refine g_on ?_); ((with_reducible refine g_as ?_); refine l_p txs rfl rfl ?_)))
  have HS := H.pick [0] [] (by decide) (by decide) rfl rfl
  refine d_start (fun w_ => Hp w w_ _ _) #[false, false, false, false, false, false, false, false, false, false, false, false, false, false, false] (by kernel_rfl) rfl rfl HS.drew ?_
  have H := H.drew
  have HS := HS.drew
  first | (refine d_pure (i := 0) #[true, false, false, false, false, false, false, false, false, false, false, false, false, false, false] rfl (by kernel_rfl) (fun _ _ _ h => h) rfl (fun w_ => evF_run (o := ⟨_, _, _, _, _, _⟩) flds rfl) ?_) | (refine d_pure (i := 0) #[true, false, false, false, false, false, false, false, false, false, false, false, false, false, false] rfl (by kernel_rfl) (fun _ _ _ h => h) rfl (fun w_ => evG_run (o := ⟨_, _, _, _, _, _⟩) flds rfl) ?_)
  first | (refine d_take (i := 1) #[true, true, false, false, false, false, false, false, false, false, false, false, false, false, false] rfl (by kernel_rfl) (fun _ _ _ h => h) rfl (fun w_ K => evL_run (o := ⟨_, _, _, _, _, _⟩) txs rfl (K.cellAt 0 rfl rfl)) HS ?_)
  first | (refine d_pure (i := 5) #[true, true, false, false, false, true, false, false, false, false, false, false, false, false, false] rfl (by kernel_rfl) (fun _ _ _ h => h) rfl (fun w_ => evF_run (o := ⟨_, _, _, _, _, _⟩) flds rfl) ?_) | (refine d_pure (i := 5) #[true, true, false, false, false, true, false, false, false, false, false, false, false, false, false] rfl (by kernel_rfl) (fun _ _ _ h => h) rfl (fun w_ => evG_run (o := ⟨_, _, _, _, _, _⟩) flds rfl) ?_)
  first | (refine d_take (i := 6) #[true, true, false, false, false, true, true, false, false, false, false, false, false, false, false] rfl (by kernel_rfl) (fun _ _ _ h => h) rfl (fun w_ K => evL_run (o := ⟨_, _, _, _, _, _⟩) txs rfl (K.cellAt 0 rfl rfl)) HS ?_)
  first | (refine d_pure (i := 10) #[true, true, false, false, false, true, true, false, false, false, true, false, false, false, false] rfl (by kernel_rfl) (fun _ _ _ h => h) rfl (fun w_ => evF_run (o := ⟨_, _, _, _, _, _⟩) flds rfl) ?_) | (refine d_pure (i := 10) #[true, true, false, false, false, true, true, false, false, false, true, false, false, false, false] rfl (by kernel_rfl) (fun _ _ _ h => h) rfl (fun w_ => evG_run (o := ⟨_, _, _, _, _, _⟩) flds rfl) ?_)
  first | (refine d_take (i := 11) #[true, true, false, false, false, true, true, false, false, false, true, true, false, false, false] rfl (by kernel_rfl) (fun _ _ _ h => h) rfl (fun w_ K => evL_run (o := ⟨_, _, _, _, _, _⟩) txs rfl (K.cellAt 0 rfl rfl)) HS ?_)
  refine d_one (i := 2) #[true, true, true, false, false, true, true, false, false, false, true, true, false, false, false] rfl (by kernel_rfl) rfl ?_
  refine l_callv rfl rfl (by kernel_rfl) (itoaI_c (hP.below H.B) _ hmi.1 hmi.2) (fun w_ K => ?_); have H := H.call K
  refine l_nil ?_
  have HS := H.pick [0] [] (by decide) (by decide) rfl rfl
  refine ⟨rfl, HS, ?_⟩
  first | (refine d_pure (i := 3) #[true, true, true, true, false, true, true, false, false, false, true, true, false, false, false] rfl (by kernel_rfl) (fun _ _ _ h => h) rfl (fun w_ => evCat_run (o := ⟨_, _, _, _, _, _⟩) rfl (by show 7 + _ ≤ _; omega)) ?_)
  first | (refine d_pure (i := 4) #[true, true, true, true, true, true, true, false, false, false, true, true, false, false, false] rfl (by kernel_rfl) (fun _ _ _ h => h) rfl (fun w_ => evCat_run (o := ⟨_, _, _, _, _, _⟩) rfl (by rw [ByteArray.size_append]; show 7 + _ + 1 ≤ _; omega)) ?_)
  refine d_one (i := 7) #[true, true, true, true, true, true, true, true, false, false, true, true, false, false, false] rfl (by kernel_rfl) rfl ?_
  refine l_callv rfl rfl (by kernel_rfl) (itoaI_c (hP.below H.B) _ hst.1 hst.2) (fun w_ K => ?_); have H := H.call K
  refine l_nil ?_
  have HS := H.pick [0] [] (by decide) (by decide) rfl rfl
  refine ⟨rfl, HS, ?_⟩
  first | (refine d_pure (i := 8) #[true, true, true, true, true, true, true, true, true, false, true, true, false, false, false] rfl (by kernel_rfl) (fun _ _ _ h => h) rfl (fun w_ => evCat_run (o := ⟨_, _, _, _, _, _⟩) rfl (by rw [ByteArray.size_append, ByteArray.size_append]; show 7 + _ + 1 + _ ≤ _; omega)) ?_)
  first | (refine d_pure (i := 9) #[true, true, true, true, true, true, true, true, true, true, true, true, false, false, false] rfl (by kernel_rfl) (fun _ _ _ h => h) rfl (fun w_ => evCat_run (o := ⟨_, _, _, _, _, _⟩) rfl (by rw [ByteArray.size_append, ByteArray.size_append, ByteArray.size_append]; show 7 + _ + 1 + _ + 1 ≤ _; omega)) ?_)
  refine d_one (i := 12) #[true, true, true, true, true, true, true, true, true, true, true, true, true, false, false] rfl (by kernel_rfl) rfl ?_
  refine l_callv rfl rfl (by kernel_rfl) (reason_c (hReb _ H.B) (hP.below H.B) _ hst) (fun w_ K => ?_); have H := H.call K
  refine l_nil ?_
  have HS := H.pick [0] [] (by decide) (by decide) rfl rfl
  refine ⟨rfl, HS, ?_⟩
  first | (refine d_pure (i := 13) #[true, true, true, true, true, true, true, true, true, true, true, true, true, true, false] rfl (by kernel_rfl) (fun _ _ _ h => h) rfl (fun w_ => evCat_run (o := ⟨_, _, _, _, _, _⟩) rfl (by rw [ByteArray.size_append, ByteArray.size_append, ByteArray.size_append, ByteArray.size_append]; show 7 + _ + 1 + _ + 1 + _ ≤ _; omega)) ?_)
  first | (refine d_pure (i := 14) #[true, true, true, true, true, true, true, true, true, true, true, true, true, true, true] rfl (by kernel_rfl) (fun _ _ _ h => h) rfl (fun w_ => evP_run (o := ⟨_, _, _, _, _, _⟩) txs rfl) ?_)
  refine d_done rfl ?_
  repeat' (first | (with_reducible first | refine p_tn ?_ | refine wp_seq ?_ | refine w_reg ?_) | ((with_reducible refine g_on ?_); (first | ((with_reducible refine g_mv ?_); refine l_p txs rfl rfl ?_) | ((with_reducible refine g_fa ?_); refine h_fa flds rfl rfl ?_) | ((with_reducible refine g_ld ?_); (refine h_ld txs H 0 rfl rfl rfl rfl ?_)) | ((with_reducible refine g_un ?_); (refine l_p txs rfl rfl ?_)) | ((with_reducible refine g_cl ?_); refine l_p txs rfl rfl ?_))))
  have hpr := printed_c (c := f1) (hP.below H.B) (hR.below H.B) hb (by omega) r.body.length (by omega) (!bareS r.status)
  have hto : (if (!bareS r.status) = true then some r.body.length else none) = toldR r.status r.body := by unfold toldR; cases bareS r.status <;> rfl
  rw [hto] at hpr
  have hpb : BytesF (printedS r.fields (toldR r.status r.body)) := printed_bytes hb (toldR_le hbl)
  have hpl := printed_len' r.fields (toldR r.status r.body)
  (with_reducible refine is_l ?_); refine l_call rfl rfl (by kernel_rfl) hpr (fun e w_ hR2 => ?_)
  obtain ⟨F2, f2, rfl, K⟩ := hR2
  refine ⟨_, rfl, ?_⟩
  have H := H.join K
  repeat' (first | (with_reducible first | refine p_tn ?_ | refine wp_seq ?_ | refine wp_block ?_ | refine w_reg ?_ | refine l_nil ?_) | ((with_reducible refine g_on ?_); (first | ((with_reducible refine g_mv ?_); refine l_p txs rfl rfl ?_) | ((with_reducible refine g_as ?_); refine l_p txs rfl rfl ?_))))
  have hlo := long_c (c := f2) (rowF_rd H 0 rfl) hpb (by omega)
  by_cases h2 : 16384 < headLen (printedS r.fields (toldR r.status r.body))
  · have hk : formT r = 2 := by unfold formT checkResS; rw [if_pos h2]
    have hv : ErrOf A (errV (A 4)) 2 := ⟨4, by decide, by decide, rfl, .inl rfl⟩
    rw [decide_eq_true h2] at hlo
    (with_reducible refine is_l ?_); refine l_callv rfl rfl (by kernel_rfl) hlo (fun w_ K => ?_)
    have H := H.call K
    repeat' (first | (with_reducible first | refine p_tn ?_ | refine w_reg ?_) | (with_reducible (refine is_if ?_; (refine w_ift rfl ?_))) | (with_reducible refine l_nil ?_) | ((with_reducible refine g_on ?_); ((with_reducible refine g_as ?_); refine l_p txs rfl rfl ?_)))
    (with_reducible refine is_l ?_); refine l_ld txs rfl rfl (H.old c4) ?_
    repeat' (first | (with_reducible first | refine p_tn ?_ | refine p_bn ?_ | refine wp_seq ?_ | refine w_reg ?_ | refine l_nil ?_) | ((with_reducible refine g_on ?_); (first | ((with_reducible refine g_mv ?_); refine l_p txs rfl rfl ?_) | ((with_reducible refine g_as ?_); refine l_p txs rfl rfl ?_))))
    (with_reducible refine is_l ?_); refine l_t txs rfl rfl (fun _ => ?_) (fun hh => absurd trivial hh)
    repeat' (first | (with_reducible first | refine p_tn ?_ | refine wp_seq ?_ | refine w_reg ?_) | (with_reducible (refine is_if ?_; (refine w_ift rfl ?_))) | (with_reducible refine l_nil ?_) | ((with_reducible refine g_on ?_); ((with_reducible refine g_mv ?_); refine l_p txs rfl rfl ?_)))
    (with_reducible refine is_l ?_); refine l_callv rfl rfl (by kernel_rfl) (errOf_c (hE.below H.B) hv) (fun w_ K => ?_)
    have H := H.call K
    repeat' (first | (with_reducible first | refine p_tn ?_ | refine p_tr ?_ | refine wp_ret ?_ | refine l_nil ?_) | ((with_reducible refine g_on ?_); ((with_reducible refine g_as ?_); refine l_p txs rfl rfl ?_)))
    refine end2 rfl rfl rfl ?_
    exact ⟨H.B, _, by rw [hk], fun _ => rfl, fun h => absurd (hk.symm.trans h) (by decide)⟩
  rw [decide_eq_false h2] at hlo
  (with_reducible refine is_l ?_); refine l_callv rfl rfl (by kernel_rfl) hlo (fun w_ K => ?_)
  have H := H.call K
  repeat' (first | (with_reducible first | refine p_tn ?_ | refine wp_seq ?_ | refine w_reg ?_) | (with_reducible (refine is_if ?_; (refine w_iff rfl ?_))) | (with_reducible refine l_nil ?_) | ((with_reducible refine g_on ?_); (first | ((with_reducible refine g_as ?_); refine l_p txs rfl rfl ?_) | ((with_reducible refine g_fa ?_); refine h_fa flds rfl rfl ?_) | ((with_reducible refine g_ld ?_); (refine h_ld txs H 0 rfl rfl rfl rfl ?_)))))
  (with_reducible refine is_l ?_); refine l_t txs rfl rfl (fun m0 => ?_) (fun m0 => ?_)
  have m0' := m0
  repeat' (first | (with_reducible first | refine p_tn ?_ | refine wp_seq ?_ | refine w_reg ?_) | (with_reducible (refine is_if ?_; (refine w_iff rfl ?_))) | (with_reducible refine l_nil ?_) | ((with_reducible refine g_on ?_); (first | ((with_reducible refine g_mv ?_); refine l_p txs rfl rfl ?_) | ((with_reducible refine g_as ?_); refine l_p txs rfl rfl ?_) | ((with_reducible refine g_pk ?_); refine l_p txs rfl rfl ?_) | ((with_reducible refine g_fa ?_); refine h_fa flds rfl rfl ?_) | ((with_reducible refine g_ld ?_); (refine h_ld txs H 0 rfl rfl rfl rfl ?_)))) | ((with_reducible refine g_if ?_); (first | (refine l_off rfl ?_) | ((with_reducible refine g_fa ?_); refine h_fa flds rfl rfl ?_) | ((with_reducible refine g_ld ?_); (refine h_ld txs H 0 rfl rfl rfl rfl ?_)))))
  (with_reducible refine is_l ?_); refine l_t txs rfl rfl (fun m1 => ?_) (fun m1 => ?_)
  · have h3 : r.minor ≠ 0 ∧ r.minor ≠ 1 := ⟨m0, m1⟩
    have hk : formT r = 142 := by unfold formT checkResS; rw [if_neg h2, if_pos h3]
    have hv : ErrOf A (errV (A 7)) 142 := ⟨7, by decide, by decide, rfl, .inl rfl⟩
    repeat' (first | (with_reducible first | refine p_tn ?_ | refine w_reg ?_) | (with_reducible (refine is_if ?_; (refine w_ift rfl ?_))) | (with_reducible refine l_nil ?_) | ((with_reducible refine g_on ?_); (first | ((with_reducible refine g_as ?_); refine l_p txs rfl rfl ?_) | ((with_reducible refine g_pk ?_); refine l_p txs rfl rfl ?_))))
    (with_reducible refine is_l ?_); refine l_ld txs rfl rfl (H.old c7) ?_
    repeat' (first | (with_reducible first | refine p_tn ?_ | refine p_bn ?_ | refine wp_seq ?_ | refine w_reg ?_ | refine l_nil ?_) | ((with_reducible refine g_on ?_); (first | ((with_reducible refine g_mv ?_); refine l_p txs rfl rfl ?_) | ((with_reducible refine g_as ?_); refine l_p txs rfl rfl ?_))))
    (with_reducible refine is_l ?_); refine l_t txs rfl rfl (fun _ => ?_) (fun hh => absurd trivial hh)
    repeat' (first | (with_reducible first | refine p_tn ?_ | refine wp_seq ?_ | refine w_reg ?_) | (with_reducible (refine is_if ?_; (refine w_ift rfl ?_))) | (with_reducible refine l_nil ?_) | ((with_reducible refine g_on ?_); ((with_reducible refine g_mv ?_); refine l_p txs rfl rfl ?_)))
    (with_reducible refine is_l ?_); refine l_callv rfl rfl (by kernel_rfl) (errOf_c (hE.below H.B) hv) (fun w_ K => ?_)
    have H := H.call K
    repeat' (first | (with_reducible first | refine p_tn ?_ | refine p_tr ?_ | refine wp_ret ?_ | refine l_nil ?_) | ((with_reducible refine g_on ?_); ((with_reducible refine g_as ?_); refine l_p txs rfl rfl ?_)))
    refine end2 rfl rfl rfl ?_
    exact ⟨H.B, _, by rw [hk], fun _ => rfl, fun h => absurd (hk.symm.trans h) (by decide)⟩
  have h3 : ¬ (r.minor ≠ 0 ∧ r.minor ≠ 1) := fun h => m1 h.2
  rotate_left
  have h3 : ¬ (r.minor ≠ 0 ∧ r.minor ≠ 1) := fun h => m0 h.1
  all_goals
    repeat' (first | (with_reducible first | refine p_tn ?_ | refine wp_seq ?_ | refine w_reg ?_) | (with_reducible (refine is_if ?_; (refine w_iff rfl ?_))) | (with_reducible refine l_nil ?_) | ((with_reducible refine g_on ?_); (first | ((with_reducible refine g_as ?_); refine l_p txs rfl rfl ?_) | ((with_reducible refine g_pk ?_); refine l_p txs rfl rfl ?_) | ((with_reducible refine g_fa ?_); refine h_fa flds rfl rfl ?_) | ((with_reducible refine g_ld ?_); (refine h_ld txs H 0 rfl rfl rfl rfl ?_)))))
    (with_reducible refine is_l ?_); refine l_t txs rfl rfl (fun h4 => ?_) (fun h4 => ?_)
    · have hk : formT r = 149 := by unfold formT checkResS; rw [if_neg h2, if_neg h3, if_pos (.inl (by omega))]
      have hv : ErrOf A (errV (A 13)) 149 := ⟨13, by decide, by decide, rfl, .inl rfl⟩
      repeat' (first | (with_reducible first | refine p_tn ?_ | refine w_reg ?_) | (with_reducible (refine is_if ?_; (refine w_ift rfl ?_))) | (with_reducible refine l_nil ?_) | ((with_reducible refine g_on ?_); (first | ((with_reducible refine g_mv ?_); refine l_p txs rfl rfl ?_) | ((with_reducible refine g_as ?_); refine l_p txs rfl rfl ?_) | ((with_reducible refine g_pk ?_); refine l_p txs rfl rfl ?_))) | ((with_reducible refine g_if ?_); (refine l_off rfl ?_)))
      (with_reducible refine is_l ?_); refine l_ld txs rfl rfl (H.old c13) ?_
      repeat' (first | (with_reducible first | refine p_tn ?_ | refine p_bn ?_ | refine wp_seq ?_ | refine w_reg ?_ | refine l_nil ?_) | ((with_reducible refine g_on ?_); (first | ((with_reducible refine g_mv ?_); refine l_p txs rfl rfl ?_) | ((with_reducible refine g_as ?_); refine l_p txs rfl rfl ?_))))
      (with_reducible refine is_l ?_); refine l_t txs rfl rfl (fun _ => ?_) (fun hh => absurd trivial hh)
      repeat' (first | (with_reducible first | refine p_tn ?_ | refine wp_seq ?_ | refine w_reg ?_) | (with_reducible (refine is_if ?_; (refine w_ift rfl ?_))) | (with_reducible refine l_nil ?_) | ((with_reducible refine g_on ?_); ((with_reducible refine g_mv ?_); refine l_p txs rfl rfl ?_)))
      (with_reducible refine is_l ?_); refine l_callv rfl rfl (by kernel_rfl) (errOf_c (hE.below H.B) hv) (fun w_ K => ?_)
      have H := H.call K
      repeat' (first | (with_reducible first | refine p_tn ?_ | refine p_tr ?_ | refine wp_ret ?_ | refine l_nil ?_) | ((with_reducible refine g_on ?_); ((with_reducible refine g_as ?_); refine l_p txs rfl rfl ?_)))
      refine end2 rfl rfl rfl ?_
      exact ⟨H.B, _, by rw [hk], fun _ => rfl, fun h => absurd (hk.symm.trans h) (by decide)⟩
    repeat' (first | ((with_reducible refine g_on ?_); ((with_reducible refine g_mv ?_); refine l_p txs rfl rfl ?_)) | ((with_reducible refine g_if ?_); (first | ((with_reducible refine g_fa ?_); refine h_fa flds rfl rfl ?_) | ((with_reducible refine g_ld ?_); (refine h_ld txs H 0 rfl rfl rfl rfl ?_)))))
    (with_reducible refine is_l ?_); refine l_t txs rfl rfl (fun h5 => ?_) (fun h5 => ?_)
    · have hk : formT r = 149 := by unfold formT checkResS; rw [if_neg h2, if_neg h3, if_pos (.inr (by omega))]
      have hv : ErrOf A (errV (A 13)) 149 := ⟨13, by decide, by decide, rfl, .inl rfl⟩
      repeat' (first | (with_reducible first | refine p_tn ?_ | refine w_reg ?_) | (with_reducible (refine is_if ?_; (refine w_ift rfl ?_))) | (with_reducible refine l_nil ?_) | ((with_reducible refine g_on ?_); (first | ((with_reducible refine g_as ?_); refine l_p txs rfl rfl ?_) | ((with_reducible refine g_pk ?_); refine l_p txs rfl rfl ?_))))
      (with_reducible refine is_l ?_); refine l_ld txs rfl rfl (H.old c13) ?_
      repeat' (first | (with_reducible first | refine p_tn ?_ | refine p_bn ?_ | refine wp_seq ?_ | refine w_reg ?_ | refine l_nil ?_) | ((with_reducible refine g_on ?_); (first | ((with_reducible refine g_mv ?_); refine l_p txs rfl rfl ?_) | ((with_reducible refine g_as ?_); refine l_p txs rfl rfl ?_))))
      (with_reducible refine is_l ?_); refine l_t txs rfl rfl (fun _ => ?_) (fun hh => absurd trivial hh)
      repeat' (first | (with_reducible first | refine p_tn ?_ | refine wp_seq ?_ | refine w_reg ?_) | (with_reducible (refine is_if ?_; (refine w_ift rfl ?_))) | (with_reducible refine l_nil ?_) | ((with_reducible refine g_on ?_); ((with_reducible refine g_mv ?_); refine l_p txs rfl rfl ?_)))
      (with_reducible refine is_l ?_); refine l_callv rfl rfl (by kernel_rfl) (errOf_c (hE.below H.B) hv) (fun w_ K => ?_)
      have H := H.call K
      repeat' (first | (with_reducible first | refine p_tn ?_ | refine p_tr ?_ | refine wp_ret ?_ | refine l_nil ?_) | ((with_reducible refine g_on ?_); ((with_reducible refine g_as ?_); refine l_p txs rfl rfl ?_)))
      refine end2 rfl rfl rfl ?_
      exact ⟨H.B, _, by rw [hk], fun _ => rfl, fun h => absurd (hk.symm.trans h) (by decide)⟩
    have h45 : ¬ (r.status < 100 ∨ 599 < r.status) := by omega
    repeat' (first | (with_reducible first | refine p_tn ?_ | refine wp_seq ?_ | refine w_reg ?_) | (with_reducible (refine is_if ?_; (refine w_iff rfl ?_))) | (with_reducible refine l_nil ?_) | ((with_reducible refine g_on ?_); (first | ((with_reducible refine g_mv ?_); refine l_p txs rfl rfl ?_) | ((with_reducible refine g_as ?_); refine l_p txs rfl rfl ?_) | ((with_reducible refine g_pk ?_); refine l_p txs rfl rfl ?_))))
    have hcf := checkFields_c (c := f2) (hE.below H.B) (rowF_rd H 0 rfl) hpb
    by_cases h9 : 64 < (printedS r.fields (toldR r.status r.body)).length
    · have hck : chkS (printedS r.fields (toldR r.status r.body)) = some 4 := by unfold chkS; rw [if_pos h9]
      have hk : formT r = 2 := by unfold formT checkResS; rw [if_neg h2, if_neg h3, if_neg h45, if_pos h9]
      have hv : ErrOf A (placV tFields (errV (A 4))) 2 := ⟨4, by decide, by decide, rfl, .inr ⟨by decide, tFields, rfl⟩⟩
      rw [hck] at hcf
      (with_reducible refine is_l ?_); refine l_callv rfl rfl (by kernel_rfl) hcf (fun w_ K => ?_)
      have H := H.call K
      skip
      (with_reducible refine is_l ?_); refine l_callp rfl rfl (by kernel_rfl) (in_c tFields _ _ _) ?_
      repeat' (first | (with_reducible first | refine p_tn ?_ | refine wp_seq ?_ | refine w_reg ?_ | refine l_nil ?_) | ((with_reducible refine g_on ?_); (first | ((with_reducible refine g_mv ?_); refine l_p txs rfl rfl ?_) | ((with_reducible refine g_as ?_); refine l_p txs rfl rfl ?_))))
      (with_reducible refine is_l ?_); refine l_t txs rfl rfl (fun hh => hh.elim) (fun _ => ?_)
      repeat' (first | (with_reducible first | refine p_tn ?_ | refine p_bn ?_ | refine wp_seq ?_ | refine w_reg ?_) | (with_reducible (refine is_if ?_; (refine w_iff rfl ?_))) | (with_reducible first | refine wp_skip ?_ | refine l_nil ?_) | ((with_reducible refine g_on ?_); (first | ((with_reducible refine g_mv ?_); refine l_p txs rfl rfl ?_) | ((with_reducible refine g_pk ?_); refine l_p txs rfl rfl ?_))) | ((with_reducible refine g_if ?_); (refine l_off rfl ?_)))
      (with_reducible refine is_l ?_); refine l_t txs rfl rfl (fun _ => ?_) (fun hh => absurd trivial hh)
      repeat' (first | (with_reducible first | refine p_tn ?_ | refine wp_seq ?_ | refine w_reg ?_) | (with_reducible (refine is_if ?_; (refine w_ift rfl ?_))) | (with_reducible refine l_nil ?_) | ((with_reducible refine g_on ?_); ((with_reducible refine g_mv ?_); refine l_p txs rfl rfl ?_)))
      (with_reducible refine is_l ?_); refine l_callv rfl rfl (by kernel_rfl) (errOf_c (hE.below H.B) hv) (fun w_ K => ?_)
      have H := H.call K
      repeat' (first | (with_reducible first | refine p_tn ?_ | refine p_tr ?_ | refine wp_ret ?_ | refine l_nil ?_) | ((with_reducible refine g_on ?_); ((with_reducible refine g_as ?_); refine l_p txs rfl rfl ?_)))
      refine end2 rfl rfl rfl ?_
      exact ⟨H.B, _, by rw [hk], fun _ => rfl, fun h => absurd (hk.symm.trans h) (by decide)⟩
    cases h10 : (printedS r.fields (toldR r.status r.body)).all goodF
    · have hck : chkS (printedS r.fields (toldR r.status r.body)) = some 8 := by unfold chkS; rw [if_neg h9, h10]; rfl
      have hk : formT r = 143 := by unfold formT checkResS; rw [if_neg h2, if_neg h3, if_neg h45, if_neg h9, if_pos h10]
      have hv : ErrOf A (placV tFields (errV (A 8))) 143 := ⟨8, by decide, by decide, rfl, .inr ⟨by decide, tFields, rfl⟩⟩
      rw [hck] at hcf
      (with_reducible refine is_l ?_); refine l_callv rfl rfl (by kernel_rfl) hcf (fun w_ K => ?_)
      have H := H.call K
      skip
      (with_reducible refine is_l ?_); refine l_callp rfl rfl (by kernel_rfl) (in_c tFields _ _ _) ?_
      repeat' (first | (with_reducible first | refine p_tn ?_ | refine wp_seq ?_ | refine w_reg ?_ | refine l_nil ?_) | ((with_reducible refine g_on ?_); (first | ((with_reducible refine g_mv ?_); refine l_p txs rfl rfl ?_) | ((with_reducible refine g_as ?_); refine l_p txs rfl rfl ?_))))
      (with_reducible refine is_l ?_); refine l_t txs rfl rfl (fun hh => hh.elim) (fun _ => ?_)
      repeat' (first | (with_reducible first | refine p_tn ?_ | refine p_bn ?_ | refine wp_seq ?_ | refine w_reg ?_) | (with_reducible (refine is_if ?_; (refine w_iff rfl ?_))) | (with_reducible first | refine wp_skip ?_ | refine l_nil ?_) | ((with_reducible refine g_on ?_); (first | ((with_reducible refine g_mv ?_); refine l_p txs rfl rfl ?_) | ((with_reducible refine g_pk ?_); refine l_p txs rfl rfl ?_))) | ((with_reducible refine g_if ?_); (refine l_off rfl ?_)))
      (with_reducible refine is_l ?_); refine l_t txs rfl rfl (fun _ => ?_) (fun hh => absurd trivial hh)
      repeat' (first | (with_reducible first | refine p_tn ?_ | refine wp_seq ?_ | refine w_reg ?_) | (with_reducible (refine is_if ?_; (refine w_ift rfl ?_))) | (with_reducible refine l_nil ?_) | ((with_reducible refine g_on ?_); ((with_reducible refine g_mv ?_); refine l_p txs rfl rfl ?_)))
      (with_reducible refine is_l ?_); refine l_callv rfl rfl (by kernel_rfl) (errOf_c (hE.below H.B) hv) (fun w_ K => ?_)
      have H := H.call K
      repeat' (first | (with_reducible first | refine p_tn ?_ | refine p_tr ?_ | refine wp_ret ?_ | refine l_nil ?_) | ((with_reducible refine g_on ?_); ((with_reducible refine g_as ?_); refine l_p txs rfl rfl ?_)))
      refine end2 rfl rfl rfl ?_
      exact ⟨H.B, _, by rw [hk], fun _ => rfl, fun h => absurd (hk.symm.trans h) (by decide)⟩
    have hck : chkS (printedS r.fields (toldR r.status r.body)) = none := by unfold chkS; rw [if_neg h9, h10]; rfl
    have hkk : formT r = if 1048576 < r.body.length ∨ (bareS r.status = true ∧ r.body ≠ []) then 145 else 0 := by unfold formT checkResS; rw [if_neg h2, if_neg h3, if_neg h45, if_neg h9, if_neg (by rw [h10]; simp)]
    rw [hck] at hcf
    (with_reducible refine is_l ?_); refine l_callv rfl rfl (by kernel_rfl) hcf (fun w_ K => ?_)
    have H := H.call K
    skip
    (with_reducible refine is_l ?_); refine l_callp rfl rfl (by kernel_rfl) (in_nil tFields _) ?_
    repeat' (first | (with_reducible first | refine p_tn ?_ | refine wp_seq ?_ | refine w_reg ?_ | refine l_nil ?_) | ((with_reducible refine g_on ?_); (first | ((with_reducible refine g_mv ?_); refine l_p txs rfl rfl ?_) | ((with_reducible refine g_as ?_); refine l_p txs rfl rfl ?_))))
    (with_reducible refine is_l ?_); refine l_t txs rfl rfl (fun _ => ?_) (fun hh => absurd trivial hh)
    repeat' (first | ((with_reducible refine g_on ?_); ((with_reducible refine g_mv ?_); refine l_p txs rfl rfl ?_)) | ((with_reducible refine g_if ?_); (first | ((with_reducible refine g_fa ?_); refine h_fa flds rfl rfl ?_) | ((with_reducible refine g_ld ?_); (refine h_ld txs H 0 rfl rfl rfl rfl ?_)) | ((with_reducible refine g_cl ?_); refine l_p txs rfl rfl ?_))))
    have hv : ErrOf A (errV (A 10)) 145 := ⟨10, by decide, by decide, rfl, .inl rfl⟩
    (with_reducible refine is_l ?_); refine l_t txs rfl rfl (fun h6 => ?_) (fun h6 => ?_)
    · have hk : formT r = 145 := by rw [hkk, if_pos (.inl (by omega))]
      repeat' (first | (with_reducible first | refine p_tn ?_ | refine w_reg ?_) | (with_reducible (refine is_if ?_; (refine w_ift rfl ?_))) | (with_reducible refine l_nil ?_) | ((with_reducible refine g_on ?_); ((with_reducible refine g_pk ?_); refine l_p txs rfl rfl ?_)) | ((with_reducible refine g_if ?_); (first | (refine l_off rfl ?_) | ((with_reducible refine g_mv ?_); refine l_p txs rfl rfl ?_) | ((with_reducible refine g_pk ?_); refine l_p txs rfl rfl ?_))))
      (with_reducible refine is_l ?_); refine l_ld txs rfl rfl (H.old c10) ?_
      repeat' (first | (with_reducible first | refine p_tn ?_ | refine p_bn ?_ | refine wp_seq ?_ | refine w_reg ?_ | refine l_nil ?_) | ((with_reducible refine g_on ?_); (first | ((with_reducible refine g_mv ?_); refine l_p txs rfl rfl ?_) | ((with_reducible refine g_as ?_); refine l_p txs rfl rfl ?_))))
      (with_reducible refine is_l ?_); refine l_t txs rfl rfl (fun _ => ?_) (fun hh => absurd trivial hh)
      repeat' (first | (with_reducible first | refine p_tn ?_ | refine wp_seq ?_ | refine w_reg ?_) | (with_reducible (refine is_if ?_; (refine w_ift rfl ?_))) | (with_reducible refine l_nil ?_) | ((with_reducible refine g_on ?_); ((with_reducible refine g_mv ?_); refine l_p txs rfl rfl ?_)))
      (with_reducible refine is_l ?_); refine l_callv rfl rfl (by kernel_rfl) (errOf_c (hE.below H.B) hv) (fun w_ K => ?_)
      have H := H.call K
      repeat' (first | (with_reducible first | refine p_tn ?_ | refine p_tr ?_ | refine wp_ret ?_ | refine l_nil ?_) | ((with_reducible refine g_on ?_); ((with_reducible refine g_as ?_); refine l_p txs rfl rfl ?_)))
      refine end2 rfl rfl rfl ?_
      exact ⟨H.B, _, by rw [hk], fun _ => rfl, fun h => absurd (hk.symm.trans h) (by decide)⟩
    cases hbs : bareS r.status
    have hk : formT r = 0 := by rw [hkk, if_neg (by rw [hbs]; simp; omega)]
    rotate_left
    repeat' (first | (with_reducible first | refine p_tn ?_ | refine p_bn ?_ | refine wp_seq ?_ | refine w_reg ?_) | (with_reducible (refine is_if ?_; (refine w_iff rfl ?_))) | (with_reducible first | refine wp_skip ?_ | refine l_nil ?_) | ((with_reducible refine g_on ?_); (first | ((with_reducible refine g_mv ?_); refine l_p txs rfl rfl ?_) | ((with_reducible refine g_pk ?_); refine l_p txs rfl rfl ?_))) | ((with_reducible refine g_if ?_); (first | (refine l_off rfl ?_) | ((with_reducible refine g_mv ?_); refine l_p txs rfl rfl ?_) | ((with_reducible refine g_pk ?_); refine l_p txs rfl rfl ?_) | ((with_reducible refine g_fa ?_); refine h_fa flds rfl rfl ?_) | ((with_reducible refine g_ld ?_); (refine h_ld txs H 0 rfl rfl rfl rfl ?_)) | ((with_reducible refine g_cl ?_); refine l_p txs rfl rfl ?_))))
    (with_reducible refine is_l ?_); refine l_t txs rfl rfl (fun h7 => ?_) (fun h7 => ?_)
    · have hk : formT r = 145 := by rw [hkk, if_pos (.inr ⟨hbs, by intro e; rw [e] at h7; simp at h7⟩)]
      repeat' (first | (with_reducible first | refine p_tn ?_ | refine w_reg ?_) | (with_reducible (refine is_if ?_; (refine w_ift rfl ?_))) | (with_reducible refine l_nil ?_) | ((with_reducible refine g_on ?_); ((with_reducible refine g_pk ?_); refine l_p txs rfl rfl ?_)) | ((with_reducible refine g_if ?_); ((with_reducible refine g_pk ?_); refine l_p txs rfl rfl ?_)))
      (with_reducible refine is_l ?_); refine l_ld txs rfl rfl (H.old c10) ?_
      repeat' (first | (with_reducible first | refine p_tn ?_ | refine p_bn ?_ | refine wp_seq ?_ | refine w_reg ?_ | refine l_nil ?_) | ((with_reducible refine g_on ?_); (first | ((with_reducible refine g_mv ?_); refine l_p txs rfl rfl ?_) | ((with_reducible refine g_as ?_); refine l_p txs rfl rfl ?_))))
      (with_reducible refine is_l ?_); refine l_t txs rfl rfl (fun _ => ?_) (fun hh => absurd trivial hh)
      repeat' (first | (with_reducible first | refine p_tn ?_ | refine wp_seq ?_ | refine w_reg ?_) | (with_reducible (refine is_if ?_; (refine w_ift rfl ?_))) | (with_reducible refine l_nil ?_) | ((with_reducible refine g_on ?_); ((with_reducible refine g_mv ?_); refine l_p txs rfl rfl ?_)))
      (with_reducible refine is_l ?_); refine l_callv rfl rfl (by kernel_rfl) (errOf_c (hE.below H.B) hv) (fun w_ K => ?_)
      have H := H.call K
      repeat' (first | (with_reducible first | refine p_tn ?_ | refine p_tr ?_ | refine wp_ret ?_ | refine l_nil ?_) | ((with_reducible refine g_on ?_); ((with_reducible refine g_as ?_); refine l_p txs rfl rfl ?_)))
      refine end2 rfl rfl rfl ?_
      exact ⟨H.B, _, by rw [hk], fun _ => rfl, fun h => absurd (hk.symm.trans h) (by decide)⟩
    have hk : formT r = 0 := by rw [hkk, if_neg (fun h => h.elim (fun h => by omega) (fun h => h.2 (List.length_eq_zero_iff.1 (by omega))))]
    all_goals
      repeat' (first | (with_reducible first | refine p_tn ?_ | refine p_bn ?_ | refine wp_seq ?_ | refine w_reg ?_) | (with_reducible (refine is_if ?_; (refine w_iff rfl ?_))) | (with_reducible first | refine wp_skip ?_ | refine l_nil ?_) | ((with_reducible refine g_on ?_); (first | ((with_reducible refine g_mv ?_); refine l_p txs rfl rfl ?_) | ((with_reducible refine g_pk ?_); refine l_p txs rfl rfl ?_))) | ((with_reducible refine g_if ?_); ((with_reducible refine g_pk ?_); refine l_p txs rfl rfl ?_)))
      (with_reducible refine is_l ?_); refine l_t txs rfl rfl (fun hh => absurd hh (by simp)) (fun _ => ?_)
      repeat' (first | (with_reducible first | refine p_tn ?_ | refine wp_seq ?_ | refine w_reg ?_) | (with_reducible (refine is_if ?_; (refine w_iff rfl ?_))) | (with_reducible first | refine wp_skip ?_ | refine l_nil ?_) | ((with_reducible refine g_on ?_); (first | ((with_reducible refine g_mv ?_); refine l_p txs rfl rfl ?_) | ((with_reducible refine g_fa ?_); refine h_fa flds rfl rfl ?_) | ((with_reducible refine g_ld ?_); (refine h_ld txs H 0 rfl rfl rfl rfl ?_)))))
      obtain ⟨o2, o3, o4⟩ := res_ok hk
      (with_reducible refine is_l ?_); refine l_call rfl rfl (by kernel_rfl) (whole_c (rowF_rd H 0 rfl) hpb o2 (hr.below H.B) hbb (by omega) (by rw [ByteArray.size_append, ByteArray.size_append, ByteArray.size_append, ByteArray.size_append, ByteArray.size_append]; show 7 + _ + 1 + _ + 1 + _ ≤ _; omega) (by omega)) (fun e w_ hR4 => ?_)
      obtain ⟨g, cur, c, rfl, q1, q2, q3, q4, q5, q6, q7⟩ := hR4
      refine ⟨_, rfl, ?_⟩
      have hsz := H.B.size
      have H := H.call q2
      simp only [bl_cat, blS (decI_bytes _), blS rok.1] at q1 q7 ⊢
      repeat' (first | (with_reducible first | refine p_tn ?_ | refine wp_ret ?_ | refine l_nil ?_) | ((with_reducible refine g_on ?_); ((with_reducible refine g_as ?_); refine l_p txs rfl rfl ?_)))
      refine end2 rfl rfl rfl ?_
      refine ⟨H.B, _, by rw [hk]; rfl, fun h => absurd hk h, fun _ => ⟨g, cur, c, rfl, q1, by omega, q4, q5, q6, q7⟩⟩
end Go.Proofs.YthgojbdpmcccaaaGreatDoor.K
end
section
namespace Go.Proofs.YthgojbdpmcccaaaGreatDoor.K.Ref
open Go.RowKit Go.Proofs.YthgojbdpmcccaaaGreatDoor.Q Go.Proofs.YthgojbdpmcccaaaGreatDoor.Wb Go.Proofs.YthgojbdpmcccaaaGreatDoorW.PrintWords Go.Proofs.YthgojbdpmcccaaaGreatDoor.K
set_option linter.unusedVariables false
set_option linter.unusedSimpArgs false
def TabR (w : World) : Prop := (∀ k, k < 24 → w.cell? ⟨15, k, none⟩ = some (.int .i64 (reE k).1)) ∧ (∀ k, k < 24 → w.cell? ⟨16, k, none⟩ = some (.string (reE k).2))
theorem TabR.below {w w' : World} (h : TabR w) (K : Below w.heap.size w w') : TabR w' := ⟨fun k hk => ((Hp.nil w).call K).old (h.1 k hk), fun k hk => ((Hp.nil w).call K).old (h.2 k hk)⟩
theorem info_int1 : (Tryz.prog.info? 3).map (·.size) = some 1 := by kernel_rfl
set_option maxHeartbeats 4000000 in
theorem rreason_c {w : World} (hT : TabR w) (e : Int) (he : -9223372036854775808 ≤ e ∧ e ≤ 9223372036854775807) :
    Calls Tryz.prog 89 #[.int .i64 e] w fun en w' => en = .returned (.string (strOfNums (reasonS e))) ∧ Below w.heap.size w w' := by
  have hz := itoaI_size e he.1 he.2
  have hlk := reason_look e
  refine enter (args := [.int .i64 e]) Tryz.func89 rfl Tryz.ntmps89 rfl ?_
  have H := Hp.nil w
  repeat' (first | (with_reducible first | refine p_tn ?_ | refine wp_seq ?_ | refine wp_block ?_ | refine w_reg ?_ | refine l_nil ?_) | ((with_reducible refine g_on ?_); ((with_reducible refine g_as ?_); refine l_p txs rfl rfl ?_)))
  refine w_loop (σ := Nat) (S := fun k => [(0, .int .i64 e), (3, .int .i64 (k : Int))]) (J := fun k w' => Hp w w' [] [] ∧ k ≤ 24 ∧ strOfNums (reasonS e) = look (wordsOf e) (reT.drop k) e) (μ := fun k => 24 - k) 0 ⟨rfl, rfl, trivial⟩ ⟨H, by omega, hlk.symm⟩ ?_
  rintro k f w_ ⟨H, hk, hl⟩
  repeat' (first | (with_reducible first | refine wp_seq ?_ | refine w_reg ?_) | ((with_reducible refine g_on ?_); ((with_reducible refine g_mv ?_); refine l_p txs rfl rfl ?_)))
  (with_reducible refine is_l ?_); refine l_t txs rfl rfl (fun hlt => ?_) (fun hge => ?_)
  · have hk' : k < 24 := by omega
    rw [re_drop k hk', look] at hl
    have hc1 := hT.1 k hk'
    have hc2 := hT.2 k hk'
    repeat' (first | (with_reducible first | refine p_tn ?_ | refine wp_seq ?_ | refine wp_block ?_ | refine w_reg ?_) | (with_reducible (refine is_if ?_; (refine w_ift rfl ?_))) | (with_reducible first | refine wp_skip ?_ | refine l_nil ?_) | ((with_reducible refine g_on ?_); ((with_reducible refine g_mv ?_); refine l_p txs rfl rfl ?_)))
    (with_reducible refine is_l ?_); refine l_iaa Tryz.underlying210 info_int1 rfl rfl rfl (by omega) (by omega) ?_
    skip
    (with_reducible refine is_l ?_); refine l_ld txs rfl rfl (by rw [Int.toNat_natCast]; exact H.old hc1) ?_
    repeat' ((with_reducible refine g_on ?_); ((with_reducible refine g_mv ?_); refine l_p txs rfl rfl ?_))
    (with_reducible refine is_l ?_); refine l_t txs rfl rfl (fun hh => ?_) (fun hn => ?_)
    · rw [if_pos hh] at hl
      repeat' (first | (with_reducible first | refine p_tn ?_ | refine wp_seq ?_ | refine w_reg ?_) | (with_reducible (refine is_if ?_; (refine w_ift rfl ?_))) | (with_reducible refine l_nil ?_) | ((with_reducible refine g_on ?_); ((with_reducible refine g_mv ?_); refine l_p txs rfl rfl ?_)))
      (with_reducible refine is_l ?_); refine l_iaa Tryz.underlying211 info_str1 rfl rfl rfl (by omega) (by omega) ?_
      skip
      (with_reducible refine is_l ?_); refine l_ld txs rfl rfl (by rw [Int.toNat_natCast]; exact H.old hc2) ?_
      repeat' (first | (with_reducible first | refine p_tn ?_ | refine p_tr ?_ | refine p_br ?_ | refine wp_ret ?_ | refine l_nil ?_) | ((with_reducible refine g_on ?_); ((with_reducible refine g_as ?_); refine l_p txs rfl rfl ?_)))
      refine end1 rfl rfl ?_
      exact ⟨by rw [hl], H.B⟩
    · rw [if_neg hn] at hl
      repeat' (first | (with_reducible first | refine p_tn ?_ | refine p_bn ?_ | refine w_reg ?_) | (with_reducible (refine is_if ?_; (refine w_iff rfl ?_))) | (with_reducible first | refine wp_skip ?_ | refine l_nil ?_) | ((with_reducible refine g_on ?_); (first | ((with_reducible refine g_mv ?_); refine l_p txs rfl rfl ?_) | ((with_reducible refine g_as ?_); refine l_p txs rfl rfl ?_) | ((with_reducible refine g_bi ?_); (refine l_a txs rfl rfl (by first | exact in_i64 (by omega) (by omega) | exact in_u8 (by omega) (by omega) | exact in_u64 (by omega) (by omega) | exact in_i32 (by omega) (by omega)) ?_)))))
      exact ⟨k + 1, _, rfl, ⟨rfl, rfl, trivial⟩, ⟨H, by omega, hl⟩, by omega⟩
  · have hnil : reT.drop k = [] := List.drop_eq_nil_of_le (by show 24 ≤ k; omega)
    rw [hnil, look] at hl
    repeat' (first | (with_reducible first | refine p_tn ?_ | refine p_tx ?_ | refine x_hit ?_ | refine wp_seq ?_ | refine w_reg ?_) | (with_reducible (refine is_if ?_; (refine w_iff rfl ?_))) | (with_reducible first | refine wp_exit ?_ | refine l_nil ?_) | ((with_reducible refine g_on ?_); ((with_reducible refine g_mv ?_); refine l_p txs rfl rfl ?_)))
    (with_reducible refine is_l ?_); refine l_callv rfl rfl (by kernel_rfl) (fmtNum_c e he _) (fun w_ K => ?_)
    have H := H.call K
    skip
    (with_reducible refine is_l ?_); refine l_cat rfl rfl (by show 7 + _ ≤ _; omega) ?_
    repeat' (first | (with_reducible first | refine p_tn ?_ | refine wp_ret ?_ | refine l_nil ?_) | ((with_reducible refine g_on ?_); ((with_reducible refine g_as ?_); refine l_p txs rfl rfl ?_)))
    refine end1 rfl rfl ?_
    exact ⟨by rw [hl]; unfold wordsOf; rw [itoa_I], H.B⟩
theorem told_R (st : Int) (b : L) (h : bareS st = false) : toldI (b.length : Int) = toldR st b := by
  unfold toldI toldR
  rw [if_pos (by omega), if_neg (by rw [h]; simp), Int.toNat_natCast]
theorem told_N (st : Int) (b : L) (h : bareS st = true) : toldI (-1) = toldR st b := by
  unfold toldI toldR
  rw [if_neg (by decide), if_pos h]
set_option maxRecDepth 100000 in
set_option maxHeartbeats 16000000 in
theorem rFormatResponse_c {w : World} (hTR : TabR w)
    (r : ResS) {F B1 : Option Addr} {f1 b1 : Nat} (hst : -9223372036854775808 ≤ r.status ∧ r.status ≤ 9223372036854775807) (hmi : -9223372036854775808 ≤ r.minor ∧ r.minor ≤ 9223372036854775807)
    (hR : Rd w F (fldC r.fields)) (hb : BytesF r.fields) (hl : r.fields.length ≤ 5000000) (hr : ReadsInt w .u8 B1 r.body.length r.body) (hbl : r.body.length ≤ 10000000) :
    Calls Tryz.prog 62 #[.agg (resA r F f1 B1 b1)] w (FmX w (formT r) (formY r)) := by
  have zi := itoaI_size r.minor hmi.1 hmi.2
  have zs := itoaI_size r.status hst.1 hst.2
  have rok := reason_ok r.status hst.1 hst.2
  have zr := sizeS' rok.1
  have hYY : formY r = wholeS (startRes r.status r.minor) (printedS r.fields (toldR r.status r.body)) r.body := rfl
  rw [hYY]
  refine enter (args := [.agg (resA r F f1 B1 b1)]) Tryz.func62 rfl Tryz.ntmps62 rfl ?_
  have H := Hp.nil w
  repeat' (first | (with_reducible first | refine p_tn ?_ | refine wp_seq ?_ | refine w_reg ?_ | refine l_nil ?_) | ((with_reducible refine g_on ?_); (first | ((with_reducible refine g_as ?_); refine l_p txs rfl rfl ?_) | ((with_reducible refine g_fa ?_); refine h_fa flds rfl rfl ?_) | ((with_reducible refine g_ld ?_); (refine h_ld txs H 0 rfl rfl rfl rfl ?_)) | ((with_reducible refine g_bx ?_); refine h_box H rfl rfl rfl (fun g_ w_ H => ?_)) | ((with_reducible refine g_cl ?_); refine l_p txs rfl rfl ?_))))
  (with_reducible refine is_l ?_); refine l_callv rfl rfl (by kernel_rfl) (rbare_c r.status _) (fun w_ K => ?_)
  have H := H.call K
  cases hbs : bareS r.status
  have hto := told_R r.status r.body hbs
  have hlast : (1048576 : Int) < r.body.length ∨ ¬ (1048576 < r.body.length ∨ (bareS r.status = true ∧ r.body ≠ [])) := by
    rcases Classical.em (1048576 < r.body.length) with h | h
    · exact .inl (by omega)
    · exact .inr (fun h2 => h2.elim h (fun h3 => by rw [hbs] at h3; cases h3.1))
  rotate_left
  have hto := told_N r.status r.body hbs
  have hlast : True := trivial
  all_goals
    repeat' (first | (with_reducible first | refine p_tn ?_ | refine wp_seq ?_ | refine w_reg ?_) | (with_reducible (refine is_if ?_; (first | (refine w_ift rfl ?_) | (refine w_iff rfl ?_)))) | (with_reducible first | refine wp_skip ?_ | refine l_nil ?_) | ((with_reducible refine g_on ?_); (first | ((with_reducible refine g_mv ?_); refine l_p txs rfl rfl ?_) | ((with_reducible refine g_as ?_); refine l_p txs rfl rfl ?_) | ((with_reducible refine g_fa ?_); refine h_fa flds rfl rfl ?_) | ((with_reducible refine g_ld ?_); (refine h_ld txs H 0 rfl rfl rfl rfl ?_)))))
    (with_reducible refine is_l ?_); refine l_call rfl rfl (by kernel_rfl) (rprinted_c (hR.below H.B) hb (by omega) _ ⟨by omega, by omega⟩) (fun e w_ hR2 => ?_)
    obtain ⟨F2, f2, rfl, K⟩ := hR2
    refine ⟨_, rfl, ?_⟩
    rw [hto] at K ⊢
    have H := H.join K
    have hfs : formT r = checkResS r.status r.minor (printedS r.fields (toldR r.status r.body)) r.body := rfl
    have hpb : BytesF (printedS r.fields (toldR r.status r.body)) := printed_bytes hb (toldR_le hbl)
    have hpl := printed_len' r.fields (toldR r.status r.body)
    have H : Hp w w_ _ [rowG (.slice F2 (printedS r.fields (toldR r.status r.body)).length f2) (printedS r.fields (toldR r.status r.body))] := H
    generalize hP : printedS r.fields (toldR r.status r.body) = P at H hfs hpb hpl ⊢
    unfold checkResS at hfs
    repeat' (first | (with_reducible first | refine p_tn ?_ | refine wp_seq ?_ | refine w_reg ?_ | refine l_nil ?_) | ((with_reducible refine g_on ?_); (first | ((with_reducible refine g_mv ?_); refine l_p txs rfl rfl ?_) | ((with_reducible refine g_as ?_); refine l_p txs rfl rfl ?_))))
    (with_reducible refine is_l ?_); refine l_callv rfl rfl (by kernel_rfl) (rheadBytes_c (c := f2) (rowG_at H 0 rfl) hpb (by omega)) (fun w_ K => ?_)
    have H := H.call K
    skip
    (with_reducible refine is_l ?_); refine l_t txs rfl rfl (fun h3 => ?_) (fun h3 => ?_)
    · have hk : formT r = 2 := by rw [hfs, if_pos (by omega)]
      repeat' (first | (with_reducible first | refine p_tn ?_ | refine p_tr ?_ | refine wp_seq ?_ | refine w_reg ?_) | (with_reducible (refine is_if ?_; (refine w_ift rfl ?_))) | (with_reducible first | refine wp_ret ?_ | refine l_nil ?_) | ((with_reducible refine g_on ?_); ((with_reducible refine g_as ?_); refine l_p txs rfl rfl ?_)))
      refine end2 rfl rfl rfl ?_
      exact fm_bad hk (by decide) H.B
    rw [if_neg (by omega)] at hfs
    repeat' (first | (with_reducible first | refine p_tn ?_ | refine wp_seq ?_ | refine w_reg ?_) | (with_reducible (refine is_if ?_; (refine w_iff rfl ?_))) | (with_reducible first | refine wp_skip ?_ | refine l_nil ?_) | ((with_reducible refine g_on ?_); (first | ((with_reducible refine g_fa ?_); refine h_fa flds rfl rfl ?_) | ((with_reducible refine g_ld ?_); (refine h_ld txs H 0 rfl rfl rfl rfl ?_)))))
    (with_reducible refine is_l ?_); refine l_t txs rfl rfl (fun m0 => ?_) (fun m0 => ?_)
    have hmm : ¬ r.minor = 0 := m0
    repeat' (first | (with_reducible first | refine p_tn ?_ | refine wp_seq ?_ | refine w_reg ?_) | (with_reducible (refine is_if ?_; (refine w_iff rfl ?_))) | (with_reducible first | refine wp_skip ?_ | refine l_nil ?_) | ((with_reducible refine g_on ?_); (first | ((with_reducible refine g_mv ?_); refine l_p txs rfl rfl ?_) | ((with_reducible refine g_pk ?_); refine l_p txs rfl rfl ?_) | ((with_reducible refine g_fa ?_); refine h_fa flds rfl rfl ?_) | ((with_reducible refine g_ld ?_); (refine h_ld txs H 0 rfl rfl rfl rfl ?_)))) | ((with_reducible refine g_if ?_); (first | (refine l_off rfl ?_) | ((with_reducible refine g_fa ?_); refine h_fa flds rfl rfl ?_) | ((with_reducible refine g_ld ?_); (refine h_ld txs H 0 rfl rfl rfl rfl ?_)))))
    (with_reducible refine is_l ?_); refine l_t txs rfl rfl (fun m1 => ?_) (fun m1 => ?_)
    · have hk : formT r = 142 := by rw [hfs, if_pos ⟨m0, m1⟩]
      repeat' (first | (with_reducible first | refine p_tn ?_ | refine p_tr ?_ | refine wp_seq ?_ | refine w_reg ?_) | (with_reducible (refine is_if ?_; (refine w_ift rfl ?_))) | (with_reducible first | refine wp_ret ?_ | refine l_nil ?_) | ((with_reducible refine g_on ?_); (first | ((with_reducible refine g_as ?_); refine l_p txs rfl rfl ?_) | ((with_reducible refine g_pk ?_); refine l_p txs rfl rfl ?_))))
      refine end2 rfl rfl rfl ?_
      exact fm_bad hk (by decide) H.B
    have hm2 : ¬ (r.minor ≠ 0 ∧ r.minor ≠ 1) := fun h => m1 h.2
    rotate_left
    have hm2 : ¬ (r.minor ≠ 0 ∧ r.minor ≠ 1) := fun h => m0 h.1
    all_goals
      rw [if_neg hm2] at hfs
      repeat' (first | (with_reducible first | refine p_tn ?_ | refine wp_seq ?_ | refine w_reg ?_) | (with_reducible (refine is_if ?_; (refine w_iff rfl ?_))) | (with_reducible first | refine wp_skip ?_ | refine l_nil ?_) | ((with_reducible refine g_on ?_); (first | ((with_reducible refine g_pk ?_); refine l_p txs rfl rfl ?_) | ((with_reducible refine g_fa ?_); refine h_fa flds rfl rfl ?_) | ((with_reducible refine g_ld ?_); (refine h_ld txs H 0 rfl rfl rfl rfl ?_)))))
      (with_reducible refine is_l ?_); refine l_t txs rfl rfl (fun h4 => ?_) (fun h4 => ?_)
      · have hk : formT r = 149 := by rw [hfs, if_pos (.inl (by omega))]
        repeat' (first | (with_reducible first | refine p_tn ?_ | refine p_tr ?_ | refine wp_seq ?_ | refine w_reg ?_) | (with_reducible (refine is_if ?_; (refine w_ift rfl ?_))) | (with_reducible first | refine wp_ret ?_ | refine l_nil ?_) | ((with_reducible refine g_on ?_); (first | ((with_reducible refine g_mv ?_); refine l_p txs rfl rfl ?_) | ((with_reducible refine g_as ?_); refine l_p txs rfl rfl ?_) | ((with_reducible refine g_pk ?_); refine l_p txs rfl rfl ?_))) | ((with_reducible refine g_if ?_); (refine l_off rfl ?_)))
        refine end2 rfl rfl rfl ?_
        exact fm_bad hk (by decide) H.B
      repeat' (first | ((with_reducible refine g_on ?_); ((with_reducible refine g_mv ?_); refine l_p txs rfl rfl ?_)) | ((with_reducible refine g_if ?_); (first | ((with_reducible refine g_fa ?_); refine h_fa flds rfl rfl ?_) | ((with_reducible refine g_ld ?_); (refine h_ld txs H 0 rfl rfl rfl rfl ?_)))))
      (with_reducible refine is_l ?_); refine l_t txs rfl rfl (fun h5 => ?_) (fun h5 => ?_)
      · have hk : formT r = 149 := by rw [hfs, if_pos (.inr (by omega))]
        repeat' (first | (with_reducible first | refine p_tn ?_ | refine p_tr ?_ | refine wp_seq ?_ | refine w_reg ?_) | (with_reducible (refine is_if ?_; (refine w_ift rfl ?_))) | (with_reducible first | refine wp_ret ?_ | refine l_nil ?_) | ((with_reducible refine g_on ?_); (first | ((with_reducible refine g_as ?_); refine l_p txs rfl rfl ?_) | ((with_reducible refine g_pk ?_); refine l_p txs rfl rfl ?_))))
        refine end2 rfl rfl rfl ?_
        exact fm_bad hk (by decide) H.B
      rw [if_neg (by omega)] at hfs
      repeat' (first | (with_reducible first | refine p_tn ?_ | refine wp_seq ?_ | refine w_reg ?_) | (with_reducible (refine is_if ?_; (refine w_iff rfl ?_))) | (with_reducible first | refine wp_skip ?_ | refine l_nil ?_) | ((with_reducible refine g_on ?_); (first | ((with_reducible refine g_mv ?_); refine l_p txs rfl rfl ?_) | ((with_reducible refine g_pk ?_); refine l_p txs rfl rfl ?_))))
      have hcf := rchecked_c (c := f2) (rowG_at H 0 rfl) hpb
      by_cases h9 : 64 < P.length
      · have hck : chkI P = 2 := by unfold chkI; rw [if_pos h9]
        have hk : formT r = 2 := by rw [hfs, if_pos h9]
        rw [hck] at hcf
        (with_reducible refine is_l ?_); refine l_callv rfl rfl (by kernel_rfl) hcf (fun w_ K => ?_)
        have H := H.call K
        repeat' (first | (with_reducible first | refine p_tn ?_ | refine wp_seq ?_ | refine w_reg ?_ | refine l_nil ?_) | ((with_reducible refine g_on ?_); (first | ((with_reducible refine g_mv ?_); refine l_p txs rfl rfl ?_) | ((with_reducible refine g_as ?_); refine l_p txs rfl rfl ?_))))
        (with_reducible refine is_l ?_); refine l_t txs rfl rfl (fun _ => ?_) (fun hh => absurd (by decide) hh)
        repeat' (first | (with_reducible first | refine p_tn ?_ | refine p_tr ?_ | refine wp_seq ?_ | refine w_reg ?_) | (with_reducible (refine is_if ?_; (refine w_ift rfl ?_))) | (with_reducible first | refine wp_ret ?_ | refine l_nil ?_) | ((with_reducible refine g_on ?_); (first | ((with_reducible refine g_mv ?_); refine l_p txs rfl rfl ?_) | ((with_reducible refine g_as ?_); refine l_p txs rfl rfl ?_))))
        refine end2 rfl rfl rfl ?_
        exact fm_bad hk (by decide) H.B
      rw [if_neg h9] at hfs
      cases h10 : P.all goodF
      · have hck : chkI P = 143 := by unfold chkI; rw [if_neg h9, h10]; rfl
        have hk : formT r = 143 := by rw [hfs, if_pos h10]
        rw [hck] at hcf
        (with_reducible refine is_l ?_); refine l_callv rfl rfl (by kernel_rfl) hcf (fun w_ K => ?_)
        have H := H.call K
        repeat' (first | (with_reducible first | refine p_tn ?_ | refine wp_seq ?_ | refine w_reg ?_ | refine l_nil ?_) | ((with_reducible refine g_on ?_); (first | ((with_reducible refine g_mv ?_); refine l_p txs rfl rfl ?_) | ((with_reducible refine g_as ?_); refine l_p txs rfl rfl ?_))))
        (with_reducible refine is_l ?_); refine l_t txs rfl rfl (fun _ => ?_) (fun hh => absurd (by decide) hh)
        repeat' (first | (with_reducible first | refine p_tn ?_ | refine p_tr ?_ | refine wp_seq ?_ | refine w_reg ?_) | (with_reducible (refine is_if ?_; (refine w_ift rfl ?_))) | (with_reducible first | refine wp_ret ?_ | refine l_nil ?_) | ((with_reducible refine g_on ?_); (first | ((with_reducible refine g_mv ?_); refine l_p txs rfl rfl ?_) | ((with_reducible refine g_as ?_); refine l_p txs rfl rfl ?_))))
        refine end2 rfl rfl rfl ?_
        exact fm_bad hk (by decide) H.B
      have hck : chkI P = 0 := by unfold chkI; rw [if_neg h9, h10]; rfl
      rw [if_neg (by rw [h10]; simp)] at hfs
      rw [hck] at hcf
      (with_reducible refine is_l ?_); refine l_callv rfl rfl (by kernel_rfl) hcf (fun w_ K => ?_)
      have H := H.call K
      repeat' (first | (with_reducible first | refine p_tn ?_ | refine wp_seq ?_ | refine w_reg ?_ | refine l_nil ?_) | ((with_reducible refine g_on ?_); (first | ((with_reducible refine g_mv ?_); refine l_p txs rfl rfl ?_) | ((with_reducible refine g_as ?_); refine l_p txs rfl rfl ?_))))
      (with_reducible refine is_l ?_); refine l_t txs rfl rfl (fun hh => absurd rfl hh) (fun _ => ?_)
      repeat' (first | (with_reducible first | refine p_tn ?_ | refine wp_seq ?_ | refine w_reg ?_) | (with_reducible (refine is_if ?_; (refine w_iff rfl ?_))) | (with_reducible first | refine wp_skip ?_ | refine l_nil ?_) | ((with_reducible refine g_on ?_); (first | ((with_reducible refine g_fa ?_); refine h_fa flds rfl rfl ?_) | ((with_reducible refine g_ld ?_); (refine h_ld txs H 0 rfl rfl rfl rfl ?_)) | ((with_reducible refine g_cl ?_); refine l_p txs rfl rfl ?_))))
      (with_reducible refine is_l ?_); refine l_t txs rfl rfl (fun h6 => ?_) (fun h6 => ?_)
      · have hk : formT r = 145 := by rw [hfs, if_pos (.inl (by omega))]
        repeat' (first | (with_reducible first | refine p_tn ?_ | refine p_tr ?_ | refine wp_seq ?_ | refine w_reg ?_) | (with_reducible (refine is_if ?_; (refine w_ift rfl ?_))) | (with_reducible first | refine wp_ret ?_ | refine l_nil ?_) | ((with_reducible refine g_on ?_); (first | ((with_reducible refine g_mv ?_); refine l_p txs rfl rfl ?_) | ((with_reducible refine g_as ?_); refine l_p txs rfl rfl ?_) | ((with_reducible refine g_pk ?_); refine l_p txs rfl rfl ?_))) | ((with_reducible refine g_if ?_); (refine l_off rfl ?_)))
        refine end2 rfl rfl rfl ?_
        exact fm_bad hk (by decide) H.B
    all_goals
      repeat' (first | (with_reducible first | refine p_tn ?_ | refine wp_seq ?_) | (with_reducible (refine is_if ?_; (refine w_iff rfl ?_))) | (with_reducible first | refine wp_skip ?_ | refine l_nil ?_) | ((with_reducible refine g_on ?_); (first | ((with_reducible refine g_mv ?_); refine l_p txs rfl rfl ?_) | ((with_reducible refine g_pk ?_); refine l_p txs rfl rfl ?_))) | ((with_reducible refine g_if ?_); (first | (refine l_off rfl ?_) | ((with_reducible refine g_mv ?_); refine l_p txs rfl rfl ?_) | ((with_reducible refine g_pk ?_); refine l_p txs rfl rfl ?_) | ((with_reducible refine g_fa ?_); refine h_fa flds rfl rfl ?_) | ((with_reducible refine g_ld ?_); (refine h_ld txs H 0 rfl rfl rfl rfl ?_)) | ((with_reducible refine g_cl ?_); refine l_p txs rfl rfl ?_))))
      first
      | ((with_reducible refine is_l ?_); refine l_t txs rfl rfl (fun h7 => ?_) (fun h7 => ?_)
         rotate_left
         rw [if_neg (fun h => h.elim (fun h => by omega) (fun h => h.2 (List.length_eq_zero_iff.1 (by omega))))] at hfs
         rotate_left
         · have hk : formT r = 145 := by rw [hfs, if_pos (.inr ⟨hbs, by intro e; rw [e] at h7; simp at h7⟩)]
           repeat' (first | (with_reducible first | refine p_tn ?_ | refine p_tr ?_ | refine wp_seq ?_ | refine w_reg ?_) | (with_reducible (refine is_if ?_; (refine w_ift rfl ?_))) | (with_reducible first | refine wp_ret ?_ | refine l_nil ?_) | ((with_reducible refine g_on ?_); (first | ((with_reducible refine g_as ?_); refine l_p txs rfl rfl ?_) | ((with_reducible refine g_pk ?_); refine l_p txs rfl rfl ?_))) | ((with_reducible refine g_if ?_); ((with_reducible refine g_pk ?_); refine l_p txs rfl rfl ?_)))
           refine end2 rfl rfl rfl ?_
           exact fm_bad hk (by decide) H.B)
      | rw [if_neg (hlast.resolve_left (by omega))] at hfs
      repeat' (first | (with_reducible first | refine p_tn ?_ | refine wp_seq ?_) | (with_reducible (refine is_if ?_; (refine w_iff rfl ?_))) | (with_reducible first | refine wp_skip ?_ | refine l_nil ?_) | ((with_reducible refine g_on ?_); ((with_reducible refine g_pk ?_); refine l_p txs rfl rfl ?_)) | ((with_reducible refine g_if ?_); ((with_reducible refine g_pk ?_); refine l_p txs rfl rfl ?_)))
      have HS := H.pick [0] [0] (by decide) (by decide) rfl rfl
      refine d_start (fun w_ => Hp w w_ _ _) #[false, false, false, false, false, false, false, false, false, false, false, false, false, false, false] (by kernel_rfl) rfl rfl HS.drew ?_
      have H := H.drew
      have HS := HS.drew
      first | (refine d_pure (i := 0) #[true, false, false, false, false, false, false, false, false, false, false, false, false, false, false] rfl (by kernel_rfl) (fun _ _ _ h => h) rfl (fun w_ => evF_run (o := ⟨_, _, _, _, _, _⟩) flds rfl) ?_) | (refine d_pure (i := 0) #[true, false, false, false, false, false, false, false, false, false, false, false, false, false, false] rfl (by kernel_rfl) (fun _ _ _ h => h) rfl (fun w_ => evG_run (o := ⟨_, _, _, _, _, _⟩) flds rfl) ?_)
      first | (refine d_take (i := 1) #[true, true, false, false, false, false, false, false, false, false, false, false, false, false, false] rfl (by kernel_rfl) (fun _ _ _ h => h) rfl (fun w_ K => evL_run (o := ⟨_, _, _, _, _, _⟩) txs rfl (K.cellAt 0 rfl rfl)) HS ?_)
      first | (refine d_pure (i := 5) #[true, true, false, false, false, true, false, false, false, false, false, false, false, false, false] rfl (by kernel_rfl) (fun _ _ _ h => h) rfl (fun w_ => evF_run (o := ⟨_, _, _, _, _, _⟩) flds rfl) ?_) | (refine d_pure (i := 5) #[true, true, false, false, false, true, false, false, false, false, false, false, false, false, false] rfl (by kernel_rfl) (fun _ _ _ h => h) rfl (fun w_ => evG_run (o := ⟨_, _, _, _, _, _⟩) flds rfl) ?_)
      first | (refine d_take (i := 6) #[true, true, false, false, false, true, true, false, false, false, false, false, false, false, false] rfl (by kernel_rfl) (fun _ _ _ h => h) rfl (fun w_ K => evL_run (o := ⟨_, _, _, _, _, _⟩) txs rfl (K.cellAt 0 rfl rfl)) HS ?_)
      first | (refine d_pure (i := 10) #[true, true, false, false, false, true, true, false, false, false, true, false, false, false, false] rfl (by kernel_rfl) (fun _ _ _ h => h) rfl (fun w_ => evF_run (o := ⟨_, _, _, _, _, _⟩) flds rfl) ?_) | (refine d_pure (i := 10) #[true, true, false, false, false, true, true, false, false, false, true, false, false, false, false] rfl (by kernel_rfl) (fun _ _ _ h => h) rfl (fun w_ => evG_run (o := ⟨_, _, _, _, _, _⟩) flds rfl) ?_)
      first | (refine d_take (i := 11) #[true, true, false, false, false, true, true, false, false, false, true, true, false, false, false] rfl (by kernel_rfl) (fun _ _ _ h => h) rfl (fun w_ K => evL_run (o := ⟨_, _, _, _, _, _⟩) txs rfl (K.cellAt 0 rfl rfl)) HS ?_)
      refine d_one (i := 2) #[true, true, true, false, false, true, true, false, false, false, true, true, false, false, false] rfl (by kernel_rfl) rfl ?_
      refine l_callv rfl rfl (by kernel_rfl) (fmtNum_c _ hmi _) (fun w_ K => ?_); have H := H.call K
      refine l_nil ?_
      have HS := H.pick [0] [0] (by decide) (by decide) rfl rfl
      refine ⟨rfl, HS, ?_⟩
      first | (refine d_pure (i := 3) #[true, true, true, true, false, true, true, false, false, false, true, true, false, false, false] rfl (by kernel_rfl) (fun _ _ _ h => h) rfl (fun w_ => evCat_run (o := ⟨_, _, _, _, _, _⟩) rfl (by show 7 + _ ≤ _; omega)) ?_)
      first | (refine d_pure (i := 4) #[true, true, true, true, true, true, true, false, false, false, true, true, false, false, false] rfl (by kernel_rfl) (fun _ _ _ h => h) rfl (fun w_ => evCat_run (o := ⟨_, _, _, _, _, _⟩) rfl (by rw [ByteArray.size_append]; show 7 + _ + 1 ≤ _; omega)) ?_)
      refine d_one (i := 7) #[true, true, true, true, true, true, true, true, false, false, true, true, false, false, false] rfl (by kernel_rfl) rfl ?_
      refine l_callv rfl rfl (by kernel_rfl) (fmtNum_c _ hst _) (fun w_ K => ?_); have H := H.call K
      refine l_nil ?_
      have HS := H.pick [0] [0] (by decide) (by decide) rfl rfl
      refine ⟨rfl, HS, ?_⟩
      first | (refine d_pure (i := 8) #[true, true, true, true, true, true, true, true, true, false, true, true, false, false, false] rfl (by kernel_rfl) (fun _ _ _ h => h) rfl (fun w_ => evCat_run (o := ⟨_, _, _, _, _, _⟩) rfl (by rw [ByteArray.size_append, ByteArray.size_append]; show 7 + _ + 1 + _ ≤ _; omega)) ?_)
      first | (refine d_pure (i := 9) #[true, true, true, true, true, true, true, true, true, true, true, true, false, false, false] rfl (by kernel_rfl) (fun _ _ _ h => h) rfl (fun w_ => evCat_run (o := ⟨_, _, _, _, _, _⟩) rfl (by rw [ByteArray.size_append, ByteArray.size_append, ByteArray.size_append]; show 7 + _ + 1 + _ + 1 ≤ _; omega)) ?_)
      refine d_one (i := 12) #[true, true, true, true, true, true, true, true, true, true, true, true, true, false, false] rfl (by kernel_rfl) rfl ?_
      refine l_callv rfl rfl (by kernel_rfl) (rreason_c (hTR.below H.B) _ hst) (fun w_ K => ?_); have H := H.call K
      refine l_nil ?_
      have HS := H.pick [0] [0] (by decide) (by decide) rfl rfl
      refine ⟨rfl, HS, ?_⟩
      first | (refine d_pure (i := 13) #[true, true, true, true, true, true, true, true, true, true, true, true, true, true, false] rfl (by kernel_rfl) (fun _ _ _ h => h) rfl (fun w_ => evCat_run (o := ⟨_, _, _, _, _, _⟩) rfl (by rw [ByteArray.size_append, ByteArray.size_append, ByteArray.size_append, ByteArray.size_append]; show 7 + _ + 1 + _ + 1 + _ ≤ _; omega)) ?_)
      first | (refine d_pure (i := 14) #[true, true, true, true, true, true, true, true, true, true, true, true, true, true, true] rfl (by kernel_rfl) (fun _ _ _ h => h) rfl (fun w_ => evP_run (o := ⟨_, _, _, _, _, _⟩) txs rfl) ?_)
      refine d_done rfl ?_
      have hbl0 : bl ((⟨#[72, 84, 84, 80, 47, 49, 46]⟩ : ByteArray) ++ strOfNums (decI r.minor) ++ (⟨#[32]⟩ : ByteArray) ++ strOfNums (decI r.status) ++ (⟨#[32]⟩ : ByteArray) ++ strOfNums (reasonS r.status)) = startRes r.status r.minor := by
        simp only [bl_cat, blS (decI_bytes _), blS rok.1]
        rfl
      have hz0 := bl_length ((⟨#[72, 84, 84, 80, 47, 49, 46]⟩ : ByteArray) ++ strOfNums (decI r.minor) ++ (⟨#[32]⟩ : ByteArray) ++ strOfNums (decI r.status) ++ (⟨#[32]⟩ : ByteArray) ++ strOfNums (reasonS r.status))
      have hz1 : ((⟨#[72, 84, 84, 80, 47, 49, 46]⟩ : ByteArray) ++ strOfNums (decI r.minor) ++ (⟨#[32]⟩ : ByteArray) ++ strOfNums (decI r.status) ++ (⟨#[32]⟩ : ByteArray) ++ strOfNums (reasonS r.status)).size ≤ 200 := by
        rw [ByteArray.size_append, ByteArray.size_append, ByteArray.size_append, ByteArray.size_append, ByteArray.size_append]
        show 7 + _ + 1 + _ + 1 + _ ≤ _
        omega
      generalize (⟨#[72, 84, 84, 80, 47, 49, 46]⟩ : ByteArray) ++ strOfNums (decI r.minor) ++ (⟨#[32]⟩ : ByteArray) ++ strOfNums (decI r.status) ++ (⟨#[32]⟩ : ByteArray) ++ strOfNums (reasonS r.status) = s0 at hbl0 hz0 hz1 ⊢
      repeat' (first | (with_reducible first | refine p_tn ?_ | refine wp_seq ?_ | refine w_reg ?_) | ((with_reducible refine g_on ?_); (first | ((with_reducible refine g_mv ?_); refine l_p txs rfl rfl ?_) | ((with_reducible refine g_fa ?_); refine h_fa flds rfl rfl ?_) | ((with_reducible refine g_ld ?_); (refine h_ld txs H 0 rfl rfl rfl rfl ?_)))))
      have hla := rlaid_c (c := f2) (c2 := b1) (rowG_at H 0 rfl) hpb (by omega) (hr.below H.B) (by omega) (start := s0) (by omega) (by omega)
      rw [hbl0] at hla
      (with_reducible refine is_l ?_); refine l_call rfl rfl (by kernel_rfl) hla (fun e w_ hR4 => ?_)
      obtain ⟨g9, c9, rfl, K, hrd⟩ := hR4
      refine ⟨_, rfl, ?_⟩
      have H := H.call K
      generalize wholeS (startRes r.status r.minor) P r.body = V at hrd ⊢
      repeat' (first | (with_reducible first | refine p_tn ?_ | refine wp_ret ?_ | refine l_nil ?_) | ((with_reducible refine g_on ?_); ((with_reducible refine g_as ?_); refine l_p txs rfl rfl ?_)))
      refine end2 rfl rfl rfl ?_
      exact fm_ok hfs H.B hrd
end Go.Proofs.YthgojbdpmcccaaaGreatDoor.K.Ref
end
section
namespace Go.Proofs.YthgojbdpmcccaaaGreatDoor.K.Ref
open Go.RowKit Go.Proofs.YthgojbdpmcccaaaGreatDoor.Q Go.Proofs.YthgojbdpmcccaaaGreatDoor.Wb Go.Proofs.YthgojbdpmcccaaaGreatDoorW.PrintWords Go.Proofs.YthgojbdpmcccaaaGreatDoor.K
set_option linter.unusedVariables false
set_option linter.unusedSimpArgs false
theorem built_aq (a b : ByteArray) (i : Int) (A : Option Addr) (n c : Nat) : Tryz.prog.built 86 [(0, .string a), (1, .string b), (2, .int .i64 i), (4, .slice A n c)] = some #[.string a, .string b, .int .i64 i, .slice none 0 0, .slice A n c, .bool false] := by kernel_rfl
set_option maxRecDepth 100000 in
set_option maxHeartbeats 8000000 in
theorem asked_c {w : World} {m t : L} {mi pad : Int} {ns vs : List L} {body : L} {NB VB BB : Option Addr} {nc vc bc : Nat} (hn : Rd w NB (strC ns)) (hv : Rd w VB (strC vs)) (hnl : ns.length ≤ 10000000) (hr : ReadsInt w .u8 BB body.length body) (hbl : body.length ≤ 1000000000) :
    Calls Tryz.prog 41 #[.agg #[.string (strOfNums m), .string (strOfNums t), .int .i64 mi, .slice NB ns.length nc, .slice VB vs.length vc, .slice BB body.length bc, .int .i64 pad]] w fun e w' => ∃ F f B b, e = .returned (.agg (reqA (reqOf m t mi ns vs body pad) F f B b)) ∧ Hp w w' [] [rowG (.slice F (mkF ns vs).length f) (mkF ns vs), rowB (.slice B (padS body pad).length b) (padS body pad)] := by
  refine enter (args := [.agg #[.string (strOfNums m), .string (strOfNums t), .int .i64 mi, .slice NB ns.length nc, .slice VB vs.length vc, .slice BB body.length bc, .int .i64 pad]]) Tryz.func41 rfl Tryz.ntmps41 rfl ?_
  have H := (Hp.nil w).nilRow 145 2
  repeat' (with_reducible first | refine wp_seq ?_ | refine w_reg ?_)
  (with_reducible refine is_l ?_); refine h_box H rfl rfl rfl (fun gX w_ H => ?_)
  (with_reducible refine is_l ?_); refine h_alloc recs H rfl rfl (fun gC w_ H => ?_)
  repeat' (with_reducible first | refine p_tn ?_ | refine wp_seq ?_ | refine l_nil ?_)
  have HS := H.pick [0, 1] [] (by decide) (by decide) rfl rfl
  refine e_start (fun w_ => Hp w w_ _ _) [] #[false, false, false, false, false, false, false, false, false, false, false, false, false, false] (by kernel_rfl) rfl rfl HS.drew ?_
  have H := H.drew
  have HS := HS.drew
  first | (refine e_pure (i := 0) #[true, false, false, false, false, false, false, false, false, false, false, false, false, false] rfl (by kernel_rfl) (fun _ _ _ h => h) rfl (fun w_ => evF_run (o := ⟨_, _, _, _, _, _⟩) flds rfl) ?_) | (refine e_pure (i := 0) #[true, false, false, false, false, false, false, false, false, false, false, false, false, false] rfl (by kernel_rfl) (fun _ _ _ h => h) rfl (fun w_ => evG_run (o := ⟨_, _, _, _, _, _⟩) flds rfl) ?_)
  first | (refine e_take (i := 1) #[true, true, false, false, false, false, false, false, false, false, false, false, false, false] rfl (by kernel_rfl) (fun _ _ _ h => h) rfl (fun w_ K => evL_run (o := ⟨_, _, _, _, _, _⟩) txs rfl (K.cellAt 0 rfl rfl)) HS ?_) | (refine e_take (i := 1) #[true, true, false, false, false, false, false, false, false, false, false, false, false, false] rfl (by kernel_rfl) (fun _ _ _ h => h) rfl (fun w_ K => evL_run (o := ⟨_, _, _, _, _, _⟩) txs rfl (K.cellAt 1 rfl rfl)) HS ?_)
  first | (refine e_pure (i := 2) #[true, true, true, false, false, false, false, false, false, false, false, false, false, false] rfl (by kernel_rfl) (fun _ _ _ h => h) rfl (fun w_ => evF_run (o := ⟨_, _, _, _, _, _⟩) flds rfl) ?_) | (refine e_pure (i := 2) #[true, true, true, false, false, false, false, false, false, false, false, false, false, false] rfl (by kernel_rfl) (fun _ _ _ h => h) rfl (fun w_ => evG_run (o := ⟨_, _, _, _, _, _⟩) flds rfl) ?_)
  first | (refine e_take (i := 3) #[true, true, true, true, false, false, false, false, false, false, false, false, false, false] rfl (by kernel_rfl) (fun _ _ _ h => h) rfl (fun w_ K => evL_run (o := ⟨_, _, _, _, _, _⟩) txs rfl (K.cellAt 0 rfl rfl)) HS ?_) | (refine e_take (i := 3) #[true, true, true, true, false, false, false, false, false, false, false, false, false, false] rfl (by kernel_rfl) (fun _ _ _ h => h) rfl (fun w_ K => evL_run (o := ⟨_, _, _, _, _, _⟩) txs rfl (K.cellAt 1 rfl rfl)) HS ?_)
  first | (refine e_pure (i := 4) #[true, true, true, true, true, false, false, false, false, false, false, false, false, false] rfl (by kernel_rfl) (fun _ _ _ h => h) rfl (fun w_ => evF_run (o := ⟨_, _, _, _, _, _⟩) flds rfl) ?_) | (refine e_pure (i := 4) #[true, true, true, true, true, false, false, false, false, false, false, false, false, false] rfl (by kernel_rfl) (fun _ _ _ h => h) rfl (fun w_ => evG_run (o := ⟨_, _, _, _, _, _⟩) flds rfl) ?_)
  first | (refine e_take (i := 5) #[true, true, true, true, true, true, false, false, false, false, false, false, false, false] rfl (by kernel_rfl) (fun _ _ _ h => h) rfl (fun w_ K => evL_run (o := ⟨_, _, _, _, _, _⟩) txs rfl (K.cellAt 0 rfl rfl)) HS ?_) | (refine e_take (i := 5) #[true, true, true, true, true, true, false, false, false, false, false, false, false, false] rfl (by kernel_rfl) (fun _ _ _ h => h) rfl (fun w_ K => evL_run (o := ⟨_, _, _, _, _, _⟩) txs rfl (K.cellAt 1 rfl rfl)) HS ?_)
  first | (refine e_pure (i := 6) #[true, true, true, true, true, true, true, false, false, false, false, false, false, false] rfl (by kernel_rfl) (fun _ _ _ h => h) rfl (fun w_ => evF_run (o := ⟨_, _, _, _, _, _⟩) flds rfl) ?_) | (refine e_pure (i := 6) #[true, true, true, true, true, true, true, false, false, false, false, false, false, false] rfl (by kernel_rfl) (fun _ _ _ h => h) rfl (fun w_ => evG_run (o := ⟨_, _, _, _, _, _⟩) flds rfl) ?_)
  first | (refine e_take (i := 7) #[true, true, true, true, true, true, true, true, false, false, false, false, false, false] rfl (by kernel_rfl) (fun _ _ _ h => h) rfl (fun w_ K => evL_run (o := ⟨_, _, _, _, _, _⟩) txs rfl (K.cellAt 0 rfl rfl)) HS ?_) | (refine e_take (i := 7) #[true, true, true, true, true, true, true, true, false, false, false, false, false, false] rfl (by kernel_rfl) (fun _ _ _ h => h) rfl (fun w_ K => evL_run (o := ⟨_, _, _, _, _, _⟩) txs rfl (K.cellAt 1 rfl rfl)) HS ?_)
  first | (refine e_pure (i := 8) #[true, true, true, true, true, true, true, true, true, false, false, false, false, false] rfl (by kernel_rfl) (fun _ _ _ h => h) rfl (fun w_ => evF_run (o := ⟨_, _, _, _, _, _⟩) flds rfl) ?_) | (refine e_pure (i := 8) #[true, true, true, true, true, true, true, true, true, false, false, false, false, false] rfl (by kernel_rfl) (fun _ _ _ h => h) rfl (fun w_ => evG_run (o := ⟨_, _, _, _, _, _⟩) flds rfl) ?_)
  first | (refine e_take (i := 9) #[true, true, true, true, true, true, true, true, true, true, false, false, false, false] rfl (by kernel_rfl) (fun _ _ _ h => h) rfl (fun w_ K => evL_run (o := ⟨_, _, _, _, _, _⟩) txs rfl (K.cellAt 0 rfl rfl)) HS ?_) | (refine e_take (i := 9) #[true, true, true, true, true, true, true, true, true, true, false, false, false, false] rfl (by kernel_rfl) (fun _ _ _ h => h) rfl (fun w_ K => evL_run (o := ⟨_, _, _, _, _, _⟩) txs rfl (K.cellAt 1 rfl rfl)) HS ?_)
  refine e_two (i := 10) (j := 12) #[true, true, true, true, true, true, true, true, true, true, true, false, false, false] #[true, true, true, true, true, true, true, true, true, true, false, false, true, false] rfl rfl (by kernel_rfl) (by decide) (by decide) rfl rfl ?_ ?_
  (refine l_call rfl rfl (by kernel_rfl) (padded_c (hr.below H.B) pad hbl) (fun e w_ hR => ?_)); obtain ⟨A1, c1, rfl, K⟩ := hR; refine ⟨_, rfl, ?_⟩; have H := H.join K
  refine l_nil ?_
  have HS := H.pick [0, 1] [] (by decide) (by decide) rfl rfl
  refine ⟨rfl, HS, ?_⟩
  first | (refine e_pure (i := 11) #[true, true, true, true, true, true, true, true, true, true, true, true, false, false] rfl (by kernel_rfl) (fun _ _ _ h => h) rfl (fun w_ => evBld_run (o := ⟨_, _, _, _, _, _⟩) rfl (built_aq _ _ _ _ _ _)) ?_)
  refine e_one (i := 12) #[true, true, true, true, true, true, true, true, true, true, true, true, true, false] rfl (by kernel_rfl) (by decide) rfl ?_
  refine h_alloc recs H rfl rfl (fun gL w_ H => ?_)
  refine l_nil ?_
  have HS := H.pick [1, 2] [] (by decide) (by decide) rfl rfl
  refine ⟨rfl, HS, ?_⟩
  refine e_one (i := 13) #[true, true, true, true, true, true, true, true, true, true, true, true, true, true] rfl (by kernel_rfl) (by decide) rfl ?_
  refine g_on ?_; ((with_reducible refine g_st ?_); (refine h_stR recs H 0 rfl rfl rfl rfl rfl rfl rfl rfl rfl (fun w_ H => ?_)))
  refine l_nil ?_
  have HS := H.pick [1, 2] [] (by decide) (by decide) rfl rfl
  refine ⟨rfl, HS, ?_⟩
  refine e_done rfl ?_
  rotate_left
  refine h_alloc recs H rfl rfl (fun gL w_ H => ?_)
  refine l_nil ?_
  have HS := H.pick [1, 2] [] (by decide) (by decide) rfl rfl
  refine ⟨rfl, HS, ?_⟩
  refine e_one (i := 10) #[true, true, true, true, true, true, true, true, true, true, true, false, true, false] rfl (by kernel_rfl) (by decide) rfl ?_
  (refine l_call rfl rfl (by kernel_rfl) (padded_c (hr.below H.B) pad hbl) (fun e w_ hR => ?_)); obtain ⟨A1, c1, rfl, K⟩ := hR; refine ⟨_, rfl, ?_⟩; have H := H.join K
  refine l_nil ?_
  have HS := H.pick [1, 2] [] (by decide) (by decide) rfl rfl
  refine ⟨rfl, HS, ?_⟩
  first | (refine e_pure (i := 11) #[true, true, true, true, true, true, true, true, true, true, true, true, true, false] rfl (by kernel_rfl) (fun _ _ _ h => h) rfl (fun w_ => evBld_run (o := ⟨_, _, _, _, _, _⟩) rfl (built_aq _ _ _ _ _ _)) ?_)
  refine e_one (i := 13) #[true, true, true, true, true, true, true, true, true, true, true, true, true, true] rfl (by kernel_rfl) (by decide) rfl ?_
  refine g_on ?_; ((with_reducible refine g_st ?_); (refine h_stR recs H 0 rfl rfl rfl rfl rfl rfl rfl rfl rfl (fun w_ H => ?_)))
  refine l_nil ?_
  have HS := H.pick [1, 2] [] (by decide) (by decide) rfl rfl
  refine ⟨rfl, HS, ?_⟩
  refine e_done rfl ?_
  all_goals
    repeat' (first | (with_reducible first | refine p_tn ?_ | refine wp_seq ?_ | refine wp_block ?_ | refine w_reg ?_ | refine l_nil ?_) | ((with_reducible refine g_on ?_); ((with_reducible refine g_as ?_); refine l_p txs rfl rfl ?_)))
    have hml := mkF_len ns vs
    refine w_loop (σ := Nat × Option Addr × Nat) (S := fun s => [(1, .pointer (some ⟨gX, 0, none⟩)), (2, .pointer (some ⟨gC, 0, none⟩)), (3, .pointer (some ⟨gL, 0, none⟩)), (4, .int .i64 (s.1 : Int))])
      (J := fun s w' => Hp w w' [(gL, 86, [.string (strOfNums m), .string (strOfNums t), .int .i64 mi, .slice s.2.1 s.1 s.2.2, .slice A1 (padS body pad).length c1, .bool false]), (gC, 86, [.string ⟨#[]⟩, .string ⟨#[]⟩, .int .i64 0, .slice none 0 0, .slice none 0 0, .bool false]), (gX, 25, [.string (strOfNums m), .string (strOfNums t), .int .i64 mi, .slice NB ns.length nc, .slice VB vs.length vc, .slice BB body.length bc, .int .i64 pad])] [rowB (.slice A1 (padS body pad).length c1) (padS body pad), ⟨.slice s.2.1 s.1 s.2.2, 145, 2, s.1, fldC ((mkF ns vs).take s.1)⟩] ∧ s.1 ≤ ns.length) (μ := fun s => ns.length - s.1) (0, none, 0) ⟨rfl, rfl, rfl, rfl, trivial⟩ ⟨H, by omega⟩ ?_
    rintro ⟨i, A2, c2⟩ f w_ ⟨H, hi⟩
    simp only at H hi ⊢
    repeat' (first | (with_reducible first | refine wp_seq ?_ | refine w_reg ?_) | ((with_reducible refine g_on ?_); (first | ((with_reducible refine g_mv ?_); refine l_p txs rfl rfl ?_) | ((with_reducible refine g_fa ?_); refine h_fa flds rfl rfl ?_) | ((with_reducible refine g_ld ?_); (refine h_ld txs H 2 rfl rfl rfl rfl ?_)) | ((with_reducible refine g_cl ?_); refine l_p txs rfl rfl ?_))))
    (with_reducible refine is_l ?_); refine l_t txs rfl rfl (fun hlt => ?_) (fun hge => ?_)
    · obtain ⟨x, hx⟩ : ∃ x, ns[i]? = some x := ⟨_, List.getElem?_eq_getElem (by omega)⟩
      obtain ⟨ad, rfl⟩ : ∃ ad, NB = some ad := by
        cases NB with
        | none =>
          have := hn.1 rfl
          simp only [strC, List.map_eq_nil_iff] at this
          rw [this] at hx
          simp at hx
        | some ad => exact ⟨ad, rfl⟩
      have hcell := hn.2 ad rfl _ _ (strC_at hx)
      have htk := mkF_take (vs := vs) hx
      repeat' (first | (with_reducible first | refine p_tn ?_ | refine wp_seq ?_ | refine wp_block ?_) | (with_reducible (refine is_if ?_; (refine w_ift rfl ?_))) | (with_reducible first | refine wp_skip ?_ | refine l_nil ?_))
      have HS := H.pick [0, 1, 2] [0] (by decide) (by decide) rfl rfl
      refine e_start (fun w_ => Hp w w_ _ _) [15] #[false, false, false, false, false, false, false, false, false, false, false, false, false, false, false, false] (by kernel_rfl) rfl rfl HS.drew ?_
      have H := H.drew
      have HS := HS.drew
      first | (refine e_pure (i := 0) #[true, false, false, false, false, false, false, false, false, false, false, false, false, false, false, false] rfl (by kernel_rfl) (fun _ _ _ h => h) rfl (fun w_ => evF_run (o := ⟨_, _, _, _, _, _⟩) flds rfl) ?_) | (refine e_pure (i := 0) #[true, false, false, false, false, false, false, false, false, false, false, false, false, false, false, false] rfl (by kernel_rfl) (fun _ _ _ h => h) rfl (fun w_ => evG_run (o := ⟨_, _, _, _, _, _⟩) flds rfl) ?_)
      first | (refine e_take (i := 1) #[true, true, false, false, false, false, false, false, false, false, false, false, false, false, false, false] rfl (by kernel_rfl) (fun _ _ _ h => h) rfl (fun w_ K => evL_run (o := ⟨_, _, _, _, _, _⟩) txs rfl (K.cellAt 0 rfl rfl)) HS ?_) | (refine e_take (i := 1) #[true, true, false, false, false, false, false, false, false, false, false, false, false, false, false, false] rfl (by kernel_rfl) (fun _ _ _ h => h) rfl (fun w_ K => evL_run (o := ⟨_, _, _, _, _, _⟩) txs rfl (K.cellAt 1 rfl rfl)) HS ?_) | (refine e_take (i := 1) #[true, true, false, false, false, false, false, false, false, false, false, false, false, false, false, false] rfl (by kernel_rfl) (fun _ _ _ h => h) rfl (fun w_ K => evL_run (o := ⟨_, _, _, _, _, _⟩) txs rfl (K.cellAt 2 rfl rfl)) HS ?_)
      first | (refine e_pure (i := 2) #[true, true, true, false, false, false, false, false, false, false, false, false, false, false, false, false] rfl (by kernel_rfl) (fun _ _ _ h => h) rfl (fun w_ => evF_run (o := ⟨_, _, _, _, _, _⟩) flds rfl) ?_) | (refine e_pure (i := 2) #[true, true, true, false, false, false, false, false, false, false, false, false, false, false, false, false] rfl (by kernel_rfl) (fun _ _ _ h => h) rfl (fun w_ => evG_run (o := ⟨_, _, _, _, _, _⟩) flds rfl) ?_)
      first | (refine e_take (i := 3) #[true, true, true, true, false, false, false, false, false, false, false, false, false, false, false, false] rfl (by kernel_rfl) (fun _ _ _ h => h) rfl (fun w_ K => evL_run (o := ⟨_, _, _, _, _, _⟩) txs rfl (K.cellAt 0 rfl rfl)) HS ?_) | (refine e_take (i := 3) #[true, true, true, true, false, false, false, false, false, false, false, false, false, false, false, false] rfl (by kernel_rfl) (fun _ _ _ h => h) rfl (fun w_ K => evL_run (o := ⟨_, _, _, _, _, _⟩) txs rfl (K.cellAt 1 rfl rfl)) HS ?_) | (refine e_take (i := 3) #[true, true, true, true, false, false, false, false, false, false, false, false, false, false, false, false] rfl (by kernel_rfl) (fun _ _ _ h => h) rfl (fun w_ K => evL_run (o := ⟨_, _, _, _, _, _⟩) txs rfl (K.cellAt 2 rfl rfl)) HS ?_)
      first | (refine e_pure (i := 4) #[true, true, true, true, true, false, false, false, false, false, false, false, false, false, false, false] rfl (by kernel_rfl) (fun _ _ _ h => h) rfl (fun w_ => evP_run (o := ⟨_, _, _, _, _, _⟩) txs rfl) ?_)
      first | (refine e_pure (i := 5) #[true, true, true, true, true, true, false, false, false, false, false, false, false, false, false, false] rfl (by kernel_rfl) (fun _ _ _ h => h) rfl (fun w_ => evIA_run (o := ⟨_, _, _, _, _, _⟩) txs rfl (by omega) (by omega)) ?_)
      first | (refine e_take (i := 6) #[true, true, true, true, true, true, true, false, false, false, false, false, false, false, false, false] rfl (by kernel_rfl) (fun _ _ _ h => h) rfl (fun w_ K => evL_run (o := ⟨_, _, _, _, _, _⟩) txs rfl (by rw [Int.toNat_natCast]; exact K.old hcell)) HS ?_)
      first | (refine e_pure (i := 7) #[true, true, true, true, true, true, true, true, false, false, false, false, false, false, false, false] rfl (by kernel_rfl) (fun _ _ _ h => h) rfl (fun w_ => evF_run (o := ⟨_, _, _, _, _, _⟩) flds rfl) ?_) | (refine e_pure (i := 7) #[true, true, true, true, true, true, true, true, false, false, false, false, false, false, false, false] rfl (by kernel_rfl) (fun _ _ _ h => h) rfl (fun w_ => evG_run (o := ⟨_, _, _, _, _, _⟩) flds rfl) ?_)
      first | (refine e_take (i := 8) #[true, true, true, true, true, true, true, true, true, false, false, false, false, false, false, false] rfl (by kernel_rfl) (fun _ _ _ h => h) rfl (fun w_ K => evL_run (o := ⟨_, _, _, _, _, _⟩) txs rfl (K.cellAt 0 rfl rfl)) HS ?_) | (refine e_take (i := 8) #[true, true, true, true, true, true, true, true, true, false, false, false, false, false, false, false] rfl (by kernel_rfl) (fun _ _ _ h => h) rfl (fun w_ K => evL_run (o := ⟨_, _, _, _, _, _⟩) txs rfl (K.cellAt 1 rfl rfl)) HS ?_) | (refine e_take (i := 8) #[true, true, true, true, true, true, true, true, true, false, false, false, false, false, false, false] rfl (by kernel_rfl) (fun _ _ _ h => h) rfl (fun w_ K => evL_run (o := ⟨_, _, _, _, _, _⟩) txs rfl (K.cellAt 2 rfl rfl)) HS ?_)
      first | (refine e_pure (i := 9) #[true, true, true, true, true, true, true, true, true, true, false, false, false, false, false, false] rfl (by kernel_rfl) (fun _ _ _ h => h) rfl (fun w_ => evP_run (o := ⟨_, _, _, _, _, _⟩) txs rfl) ?_)
      refine e_one (i := 10) #[true, true, true, true, true, true, true, true, true, true, true, false, false, false, false, false] rfl (by kernel_rfl) (by decide) rfl ?_
      refine l_callv rfl rfl (by kernel_rfl) (value14_c (hv.below H.B) i (by omega)) (fun w_ K => ?_); have H := H.call K
      refine l_nil ?_
      have HS := H.pick [0, 1, 2] [0] (by decide) (by decide) rfl rfl
      refine ⟨rfl, HS, ?_⟩
      first | (refine e_pure (i := 11) #[true, true, true, true, true, true, true, true, true, true, true, true, false, false, false, false] rfl (by kernel_rfl) (fun _ _ _ h => h) rfl (fun w_ => evBld_run (o := ⟨_, _, _, _, _, _⟩) rfl (built_g2 _ _)) ?_)
      refine e_one (i := 12) #[true, true, true, true, true, true, true, true, true, true, true, true, true, false, false, false] rfl (by kernel_rfl) (by decide) rfl ?_
      refine h_bs H info_g Tryz.underlying84 (by decide) (by decide) rfl rfl (fill_f _ _) (fun g_ w_ H => ?_)
      refine l_nil ?_
      have HS := H.pick [1, 2, 3] [0] (by decide) (by decide) rfl rfl
      refine ⟨rfl, HS, ?_⟩
      refine e_one (i := 13) #[true, true, true, true, true, true, true, true, true, true, true, true, true, true, false, false] rfl (by kernel_rfl) (by decide) rfl ?_
      (refine h_app H 1 rfl info_g Tryz.underlying84 rfl rfl rfl rfl (H.cellRd 0 rfl) rfl rfl (by show (i + 1) * 32 ≤ _; omega) (fun v w_ hv H => ?_)); obtain ⟨A', c', rfl⟩ := hv
      refine l_nil ?_
      have HS := H.pick [1, 2, 3] [0] (by decide) (by decide) rfl rfl
      refine ⟨rfl, HS, ?_⟩
      first | (refine e_pure (i := 14) #[true, true, true, true, true, true, true, true, true, true, true, true, true, true, true, false] rfl (by kernel_rfl) (fun _ _ _ h => h) rfl (fun w_ => evF_run (o := ⟨_, _, _, _, _, _⟩) flds rfl) ?_) | (refine e_pure (i := 14) #[true, true, true, true, true, true, true, true, true, true, true, true, true, true, true, false] rfl (by kernel_rfl) (fun _ _ _ h => h) rfl (fun w_ => evG_run (o := ⟨_, _, _, _, _, _⟩) flds rfl) ?_)
      refine e_last (i := 15) #[true, true, true, true, true, true, true, true, true, true, true, true, true, true, true, true] rfl (by kernel_rfl) (by decide) rfl ?_
      refine g_on ?_; ((with_reducible refine g_st ?_); (refine h_st txs ones H 1 rfl rfl rfl rfl rfl rfl rfl rfl rfl (fun w_ H => ?_)))
      refine l_nil ?_
      refine ⟨rfl, ?_⟩
      refine e_done rfl ?_
      repeat' (first | (with_reducible first | refine p_tn ?_ | refine p_bn ?_ | refine w_reg ?_ | refine l_nil ?_) | ((with_reducible refine g_on ?_); (first | ((with_reducible refine g_mv ?_); refine l_p txs rfl rfl ?_) | ((with_reducible refine g_as ?_); refine l_p txs rfl rfl ?_) | ((with_reducible refine g_bi ?_); (refine l_a txs rfl rfl (by first | exact in_i64 (by omega) (by omega) | exact in_u8 (by omega) (by omega) | exact in_u64 (by omega) (by omega) | exact in_i32 (by omega) (by omega)) ?_)))))
      refine ⟨(i + 1, A', c'), _, rfl, ⟨rfl, rfl, rfl, rfl, trivial⟩, ⟨?_, by show i + 1 ≤ _; omega⟩, by show _ - (i + 1) < _ - i; omega⟩
      simp only [htk, fldC_snoc]
      exact H.pick [1, 2, 3] [0, 1] (by decide) (by decide) rfl rfl
    · have hall : (mkF ns vs).take i = mkF ns vs := List.take_of_length_le (by omega)
      have hin : i = ns.length := by omega
      subst hin
      rw [hall] at H
      repeat' (first | (with_reducible first | refine p_tn ?_ | refine p_tx ?_ | refine x_hit ?_ | refine wp_seq ?_ | refine w_reg ?_) | (with_reducible (refine is_if ?_; (refine w_iff rfl ?_))) | (with_reducible first | refine wp_exit ?_ | refine wp_ret ?_ | refine l_nil ?_) | ((with_reducible refine g_on ?_); (first | ((with_reducible refine g_ld ?_); (refine h_ldR recs H 0 rfl rfl rfl rfl rfl ?_)) | ((with_reducible refine g_st ?_); (refine h_stR recs H 1 rfl rfl rfl rfl rfl rfl rfl rfl rfl (fun w_ H => ?_))))))
      refine end_cell recs H 1 rfl rfl rfl rfl rfl ?_
      refine ⟨A2, c2, A1, c1, ?_, ?_⟩
      · show _ = Ending.returned (.agg #[.string (strOfNums m), .string (strOfNums t), .int .i64 mi, .slice A2 (mkF ns vs).length c2, .slice A1 (padS body pad).length c1, .bool false])
        rw [hml]
      · unfold rowG
        rw [hml]
        exact H.pick [] [1, 0] (by decide) (by decide) rfl rfl
theorem built_ax (a i : Int) (A : Option Addr) (n c : Nat) : Tryz.prog.built 120 [(0, .int .i64 a), (1, .int .i64 i), (3, .slice A n c)] = some #[.int .i64 a, .int .i64 i, .slice none 0 0, .slice A n c, .bool false] := by kernel_rfl
set_option maxRecDepth 100000 in
set_option maxHeartbeats 8000000 in
theorem answered_c {w : World} {st mi pad : Int} {ns vs : List L} {body : L} {NB VB BB : Option Addr} {nc vc bc : Nat} (hn : Rd w NB (strC ns)) (hv : Rd w VB (strC vs)) (hnl : ns.length ≤ 10000000) (hr : ReadsInt w .u8 BB body.length body) (hbl : body.length ≤ 1000000000) :
    Calls Tryz.prog 63 #[.agg #[.int .i64 st, .int .i64 mi, .slice NB ns.length nc, .slice VB vs.length vc, .slice BB body.length bc, .int .i64 pad]] w fun e w' => ∃ F f B b, e = .returned (.agg (resA (resOf st mi ns vs body pad) F f B b)) ∧ Hp w w' [] [rowG (.slice F (mkF ns vs).length f) (mkF ns vs), rowB (.slice B (padS body pad).length b) (padS body pad)] := by
  refine enter (args := [.agg #[.int .i64 st, .int .i64 mi, .slice NB ns.length nc, .slice VB vs.length vc, .slice BB body.length bc, .int .i64 pad]]) Tryz.func63 rfl Tryz.ntmps63 rfl ?_
  have H := (Hp.nil w).nilRow 145 2
  repeat' (with_reducible first | refine wp_seq ?_ | refine w_reg ?_)
  (with_reducible refine is_l ?_); refine h_box H rfl rfl rfl (fun gX w_ H => ?_)
  (with_reducible refine is_l ?_); refine h_alloc recs H rfl rfl (fun gC w_ H => ?_)
  repeat' (with_reducible first | refine p_tn ?_ | refine wp_seq ?_ | refine l_nil ?_)
  have HS := H.pick [0, 1] [] (by decide) (by decide) rfl rfl
  refine e_start (fun w_ => Hp w w_ _ _) [] #[false, false, false, false, false, false, false, false, false, false, false, false] (by kernel_rfl) rfl rfl HS.drew ?_
  have H := H.drew
  have HS := HS.drew
  first | (refine e_pure (i := 0) #[true, false, false, false, false, false, false, false, false, false, false, false] rfl (by kernel_rfl) (fun _ _ _ h => h) rfl (fun w_ => evF_run (o := ⟨_, _, _, _, _, _⟩) flds rfl) ?_) | (refine e_pure (i := 0) #[true, false, false, false, false, false, false, false, false, false, false, false] rfl (by kernel_rfl) (fun _ _ _ h => h) rfl (fun w_ => evG_run (o := ⟨_, _, _, _, _, _⟩) flds rfl) ?_)
  first | (refine e_take (i := 1) #[true, true, false, false, false, false, false, false, false, false, false, false] rfl (by kernel_rfl) (fun _ _ _ h => h) rfl (fun w_ K => evL_run (o := ⟨_, _, _, _, _, _⟩) txs rfl (K.cellAt 0 rfl rfl)) HS ?_) | (refine e_take (i := 1) #[true, true, false, false, false, false, false, false, false, false, false, false] rfl (by kernel_rfl) (fun _ _ _ h => h) rfl (fun w_ K => evL_run (o := ⟨_, _, _, _, _, _⟩) txs rfl (K.cellAt 1 rfl rfl)) HS ?_)
  first | (refine e_pure (i := 2) #[true, true, true, false, false, false, false, false, false, false, false, false] rfl (by kernel_rfl) (fun _ _ _ h => h) rfl (fun w_ => evF_run (o := ⟨_, _, _, _, _, _⟩) flds rfl) ?_) | (refine e_pure (i := 2) #[true, true, true, false, false, false, false, false, false, false, false, false] rfl (by kernel_rfl) (fun _ _ _ h => h) rfl (fun w_ => evG_run (o := ⟨_, _, _, _, _, _⟩) flds rfl) ?_)
  first | (refine e_take (i := 3) #[true, true, true, true, false, false, false, false, false, false, false, false] rfl (by kernel_rfl) (fun _ _ _ h => h) rfl (fun w_ K => evL_run (o := ⟨_, _, _, _, _, _⟩) txs rfl (K.cellAt 0 rfl rfl)) HS ?_) | (refine e_take (i := 3) #[true, true, true, true, false, false, false, false, false, false, false, false] rfl (by kernel_rfl) (fun _ _ _ h => h) rfl (fun w_ K => evL_run (o := ⟨_, _, _, _, _, _⟩) txs rfl (K.cellAt 1 rfl rfl)) HS ?_)
  first | (refine e_pure (i := 4) #[true, true, true, true, true, false, false, false, false, false, false, false] rfl (by kernel_rfl) (fun _ _ _ h => h) rfl (fun w_ => evF_run (o := ⟨_, _, _, _, _, _⟩) flds rfl) ?_) | (refine e_pure (i := 4) #[true, true, true, true, true, false, false, false, false, false, false, false] rfl (by kernel_rfl) (fun _ _ _ h => h) rfl (fun w_ => evG_run (o := ⟨_, _, _, _, _, _⟩) flds rfl) ?_)
  first | (refine e_take (i := 5) #[true, true, true, true, true, true, false, false, false, false, false, false] rfl (by kernel_rfl) (fun _ _ _ h => h) rfl (fun w_ K => evL_run (o := ⟨_, _, _, _, _, _⟩) txs rfl (K.cellAt 0 rfl rfl)) HS ?_) | (refine e_take (i := 5) #[true, true, true, true, true, true, false, false, false, false, false, false] rfl (by kernel_rfl) (fun _ _ _ h => h) rfl (fun w_ K => evL_run (o := ⟨_, _, _, _, _, _⟩) txs rfl (K.cellAt 1 rfl rfl)) HS ?_)
  first | (refine e_pure (i := 6) #[true, true, true, true, true, true, true, false, false, false, false, false] rfl (by kernel_rfl) (fun _ _ _ h => h) rfl (fun w_ => evF_run (o := ⟨_, _, _, _, _, _⟩) flds rfl) ?_) | (refine e_pure (i := 6) #[true, true, true, true, true, true, true, false, false, false, false, false] rfl (by kernel_rfl) (fun _ _ _ h => h) rfl (fun w_ => evG_run (o := ⟨_, _, _, _, _, _⟩) flds rfl) ?_)
  first | (refine e_take (i := 7) #[true, true, true, true, true, true, true, true, false, false, false, false] rfl (by kernel_rfl) (fun _ _ _ h => h) rfl (fun w_ K => evL_run (o := ⟨_, _, _, _, _, _⟩) txs rfl (K.cellAt 0 rfl rfl)) HS ?_) | (refine e_take (i := 7) #[true, true, true, true, true, true, true, true, false, false, false, false] rfl (by kernel_rfl) (fun _ _ _ h => h) rfl (fun w_ K => evL_run (o := ⟨_, _, _, _, _, _⟩) txs rfl (K.cellAt 1 rfl rfl)) HS ?_)
  refine e_two (i := 8) (j := 10) #[true, true, true, true, true, true, true, true, true, false, false, false] #[true, true, true, true, true, true, true, true, false, false, true, false] rfl rfl (by kernel_rfl) (by decide) (by decide) rfl rfl ?_ ?_
  (refine l_call rfl rfl (by kernel_rfl) (padded_c (hr.below H.B) pad hbl) (fun e w_ hR => ?_)); obtain ⟨A1, c1, rfl, K⟩ := hR; refine ⟨_, rfl, ?_⟩; have H := H.join K
  refine l_nil ?_
  have HS := H.pick [0, 1] [] (by decide) (by decide) rfl rfl
  refine ⟨rfl, HS, ?_⟩
  first | (refine e_pure (i := 9) #[true, true, true, true, true, true, true, true, true, true, false, false] rfl (by kernel_rfl) (fun _ _ _ h => h) rfl (fun w_ => evBld_run (o := ⟨_, _, _, _, _, _⟩) rfl (built_ax _ _ _ _ _)) ?_)
  refine e_one (i := 10) #[true, true, true, true, true, true, true, true, true, true, true, false] rfl (by kernel_rfl) (by decide) rfl ?_
  refine h_alloc recs H rfl rfl (fun gL w_ H => ?_)
  refine l_nil ?_
  have HS := H.pick [1, 2] [] (by decide) (by decide) rfl rfl
  refine ⟨rfl, HS, ?_⟩
  refine e_one (i := 11) #[true, true, true, true, true, true, true, true, true, true, true, true] rfl (by kernel_rfl) (by decide) rfl ?_
  refine g_on ?_; ((with_reducible refine g_st ?_); (refine h_stR recs H 0 rfl rfl rfl rfl rfl rfl rfl rfl rfl (fun w_ H => ?_)))
  refine l_nil ?_
  have HS := H.pick [1, 2] [] (by decide) (by decide) rfl rfl
  refine ⟨rfl, HS, ?_⟩
  refine e_done rfl ?_
  rotate_left
  refine h_alloc recs H rfl rfl (fun gL w_ H => ?_)
  refine l_nil ?_
  have HS := H.pick [1, 2] [] (by decide) (by decide) rfl rfl
  refine ⟨rfl, HS, ?_⟩
  refine e_one (i := 8) #[true, true, true, true, true, true, true, true, true, false, true, false] rfl (by kernel_rfl) (by decide) rfl ?_
  (refine l_call rfl rfl (by kernel_rfl) (padded_c (hr.below H.B) pad hbl) (fun e w_ hR => ?_)); obtain ⟨A1, c1, rfl, K⟩ := hR; refine ⟨_, rfl, ?_⟩; have H := H.join K
  refine l_nil ?_
  have HS := H.pick [1, 2] [] (by decide) (by decide) rfl rfl
  refine ⟨rfl, HS, ?_⟩
  first | (refine e_pure (i := 9) #[true, true, true, true, true, true, true, true, true, true, true, false] rfl (by kernel_rfl) (fun _ _ _ h => h) rfl (fun w_ => evBld_run (o := ⟨_, _, _, _, _, _⟩) rfl (built_ax _ _ _ _ _)) ?_)
  refine e_one (i := 11) #[true, true, true, true, true, true, true, true, true, true, true, true] rfl (by kernel_rfl) (by decide) rfl ?_
  refine g_on ?_; ((with_reducible refine g_st ?_); (refine h_stR recs H 0 rfl rfl rfl rfl rfl rfl rfl rfl rfl (fun w_ H => ?_)))
  refine l_nil ?_
  have HS := H.pick [1, 2] [] (by decide) (by decide) rfl rfl
  refine ⟨rfl, HS, ?_⟩
  refine e_done rfl ?_
  all_goals
    repeat' (first | (with_reducible first | refine p_tn ?_ | refine wp_seq ?_ | refine wp_block ?_ | refine w_reg ?_ | refine l_nil ?_) | ((with_reducible refine g_on ?_); ((with_reducible refine g_as ?_); refine l_p txs rfl rfl ?_)))
    have hml := mkF_len ns vs
    refine w_loop (σ := Nat × Option Addr × Nat) (S := fun s => [(1, .pointer (some ⟨gX, 0, none⟩)), (2, .pointer (some ⟨gC, 0, none⟩)), (3, .pointer (some ⟨gL, 0, none⟩)), (4, .int .i64 (s.1 : Int))])
      (J := fun s w' => Hp w w' [(gL, 120, [.int .i64 st, .int .i64 mi, .slice s.2.1 s.1 s.2.2, .slice A1 (padS body pad).length c1, .bool false]), (gC, 120, [.int .i64 0, .int .i64 0, .slice none 0 0, .slice none 0 0, .bool false]), (gX, 53, [.int .i64 st, .int .i64 mi, .slice NB ns.length nc, .slice VB vs.length vc, .slice BB body.length bc, .int .i64 pad])] [rowB (.slice A1 (padS body pad).length c1) (padS body pad), ⟨.slice s.2.1 s.1 s.2.2, 145, 2, s.1, fldC ((mkF ns vs).take s.1)⟩] ∧ s.1 ≤ ns.length) (μ := fun s => ns.length - s.1) (0, none, 0) ⟨rfl, rfl, rfl, rfl, trivial⟩ ⟨H, by omega⟩ ?_
    rintro ⟨i, A2, c2⟩ f w_ ⟨H, hi⟩
    simp only at H hi ⊢
    repeat' (first | (with_reducible first | refine wp_seq ?_ | refine w_reg ?_) | ((with_reducible refine g_on ?_); (first | ((with_reducible refine g_mv ?_); refine l_p txs rfl rfl ?_) | ((with_reducible refine g_fa ?_); refine h_fa flds rfl rfl ?_) | ((with_reducible refine g_ld ?_); (refine h_ld txs H 2 rfl rfl rfl rfl ?_)) | ((with_reducible refine g_cl ?_); refine l_p txs rfl rfl ?_))))
    (with_reducible refine is_l ?_); refine l_t txs rfl rfl (fun hlt => ?_) (fun hge => ?_)
    · obtain ⟨x, hx⟩ : ∃ x, ns[i]? = some x := ⟨_, List.getElem?_eq_getElem (by omega)⟩
      obtain ⟨ad, rfl⟩ : ∃ ad, NB = some ad := by
        cases NB with
        | none =>
          have := hn.1 rfl
          simp only [strC, List.map_eq_nil_iff] at this
          rw [this] at hx
          simp at hx
        | some ad => exact ⟨ad, rfl⟩
      have hcell := hn.2 ad rfl _ _ (strC_at hx)
      have htk := mkF_take (vs := vs) hx
      repeat' (first | (with_reducible first | refine p_tn ?_ | refine wp_seq ?_ | refine wp_block ?_) | (with_reducible (refine is_if ?_; (refine w_ift rfl ?_))) | (with_reducible first | refine wp_skip ?_ | refine l_nil ?_))
      have HS := H.pick [0, 1, 2] [0] (by decide) (by decide) rfl rfl
      refine e_start (fun w_ => Hp w w_ _ _) [15] #[false, false, false, false, false, false, false, false, false, false, false, false, false, false, false, false] (by kernel_rfl) rfl rfl HS.drew ?_
      have H := H.drew
      have HS := HS.drew
      first | (refine e_pure (i := 0) #[true, false, false, false, false, false, false, false, false, false, false, false, false, false, false, false] rfl (by kernel_rfl) (fun _ _ _ h => h) rfl (fun w_ => evF_run (o := ⟨_, _, _, _, _, _⟩) flds rfl) ?_) | (refine e_pure (i := 0) #[true, false, false, false, false, false, false, false, false, false, false, false, false, false, false, false] rfl (by kernel_rfl) (fun _ _ _ h => h) rfl (fun w_ => evG_run (o := ⟨_, _, _, _, _, _⟩) flds rfl) ?_)
      first | (refine e_take (i := 1) #[true, true, false, false, false, false, false, false, false, false, false, false, false, false, false, false] rfl (by kernel_rfl) (fun _ _ _ h => h) rfl (fun w_ K => evL_run (o := ⟨_, _, _, _, _, _⟩) txs rfl (K.cellAt 0 rfl rfl)) HS ?_) | (refine e_take (i := 1) #[true, true, false, false, false, false, false, false, false, false, false, false, false, false, false, false] rfl (by kernel_rfl) (fun _ _ _ h => h) rfl (fun w_ K => evL_run (o := ⟨_, _, _, _, _, _⟩) txs rfl (K.cellAt 1 rfl rfl)) HS ?_) | (refine e_take (i := 1) #[true, true, false, false, false, false, false, false, false, false, false, false, false, false, false, false] rfl (by kernel_rfl) (fun _ _ _ h => h) rfl (fun w_ K => evL_run (o := ⟨_, _, _, _, _, _⟩) txs rfl (K.cellAt 2 rfl rfl)) HS ?_)
      first | (refine e_pure (i := 2) #[true, true, true, false, false, false, false, false, false, false, false, false, false, false, false, false] rfl (by kernel_rfl) (fun _ _ _ h => h) rfl (fun w_ => evF_run (o := ⟨_, _, _, _, _, _⟩) flds rfl) ?_) | (refine e_pure (i := 2) #[true, true, true, false, false, false, false, false, false, false, false, false, false, false, false, false] rfl (by kernel_rfl) (fun _ _ _ h => h) rfl (fun w_ => evG_run (o := ⟨_, _, _, _, _, _⟩) flds rfl) ?_)
      first | (refine e_take (i := 3) #[true, true, true, true, false, false, false, false, false, false, false, false, false, false, false, false] rfl (by kernel_rfl) (fun _ _ _ h => h) rfl (fun w_ K => evL_run (o := ⟨_, _, _, _, _, _⟩) txs rfl (K.cellAt 0 rfl rfl)) HS ?_) | (refine e_take (i := 3) #[true, true, true, true, false, false, false, false, false, false, false, false, false, false, false, false] rfl (by kernel_rfl) (fun _ _ _ h => h) rfl (fun w_ K => evL_run (o := ⟨_, _, _, _, _, _⟩) txs rfl (K.cellAt 1 rfl rfl)) HS ?_) | (refine e_take (i := 3) #[true, true, true, true, false, false, false, false, false, false, false, false, false, false, false, false] rfl (by kernel_rfl) (fun _ _ _ h => h) rfl (fun w_ K => evL_run (o := ⟨_, _, _, _, _, _⟩) txs rfl (K.cellAt 2 rfl rfl)) HS ?_)
      first | (refine e_pure (i := 4) #[true, true, true, true, true, false, false, false, false, false, false, false, false, false, false, false] rfl (by kernel_rfl) (fun _ _ _ h => h) rfl (fun w_ => evP_run (o := ⟨_, _, _, _, _, _⟩) txs rfl) ?_)
      first | (refine e_pure (i := 5) #[true, true, true, true, true, true, false, false, false, false, false, false, false, false, false, false] rfl (by kernel_rfl) (fun _ _ _ h => h) rfl (fun w_ => evIA_run (o := ⟨_, _, _, _, _, _⟩) txs rfl (by omega) (by omega)) ?_)
      first | (refine e_take (i := 6) #[true, true, true, true, true, true, true, false, false, false, false, false, false, false, false, false] rfl (by kernel_rfl) (fun _ _ _ h => h) rfl (fun w_ K => evL_run (o := ⟨_, _, _, _, _, _⟩) txs rfl (by rw [Int.toNat_natCast]; exact K.old hcell)) HS ?_)
      first | (refine e_pure (i := 7) #[true, true, true, true, true, true, true, true, false, false, false, false, false, false, false, false] rfl (by kernel_rfl) (fun _ _ _ h => h) rfl (fun w_ => evF_run (o := ⟨_, _, _, _, _, _⟩) flds rfl) ?_) | (refine e_pure (i := 7) #[true, true, true, true, true, true, true, true, false, false, false, false, false, false, false, false] rfl (by kernel_rfl) (fun _ _ _ h => h) rfl (fun w_ => evG_run (o := ⟨_, _, _, _, _, _⟩) flds rfl) ?_)
      first | (refine e_take (i := 8) #[true, true, true, true, true, true, true, true, true, false, false, false, false, false, false, false] rfl (by kernel_rfl) (fun _ _ _ h => h) rfl (fun w_ K => evL_run (o := ⟨_, _, _, _, _, _⟩) txs rfl (K.cellAt 0 rfl rfl)) HS ?_) | (refine e_take (i := 8) #[true, true, true, true, true, true, true, true, true, false, false, false, false, false, false, false] rfl (by kernel_rfl) (fun _ _ _ h => h) rfl (fun w_ K => evL_run (o := ⟨_, _, _, _, _, _⟩) txs rfl (K.cellAt 1 rfl rfl)) HS ?_) | (refine e_take (i := 8) #[true, true, true, true, true, true, true, true, true, false, false, false, false, false, false, false] rfl (by kernel_rfl) (fun _ _ _ h => h) rfl (fun w_ K => evL_run (o := ⟨_, _, _, _, _, _⟩) txs rfl (K.cellAt 2 rfl rfl)) HS ?_)
      first | (refine e_pure (i := 9) #[true, true, true, true, true, true, true, true, true, true, false, false, false, false, false, false] rfl (by kernel_rfl) (fun _ _ _ h => h) rfl (fun w_ => evP_run (o := ⟨_, _, _, _, _, _⟩) txs rfl) ?_)
      refine e_one (i := 10) #[true, true, true, true, true, true, true, true, true, true, true, false, false, false, false, false] rfl (by kernel_rfl) (by decide) rfl ?_
      refine l_callv rfl rfl (by kernel_rfl) (value14_c (hv.below H.B) i (by omega)) (fun w_ K => ?_); have H := H.call K
      refine l_nil ?_
      have HS := H.pick [0, 1, 2] [0] (by decide) (by decide) rfl rfl
      refine ⟨rfl, HS, ?_⟩
      first | (refine e_pure (i := 11) #[true, true, true, true, true, true, true, true, true, true, true, true, false, false, false, false] rfl (by kernel_rfl) (fun _ _ _ h => h) rfl (fun w_ => evBld_run (o := ⟨_, _, _, _, _, _⟩) rfl (built_g2 _ _)) ?_)
      refine e_one (i := 12) #[true, true, true, true, true, true, true, true, true, true, true, true, true, false, false, false] rfl (by kernel_rfl) (by decide) rfl ?_
      refine h_bs H info_g Tryz.underlying84 (by decide) (by decide) rfl rfl (fill_f _ _) (fun g_ w_ H => ?_)
      refine l_nil ?_
      have HS := H.pick [1, 2, 3] [0] (by decide) (by decide) rfl rfl
      refine ⟨rfl, HS, ?_⟩
      refine e_one (i := 13) #[true, true, true, true, true, true, true, true, true, true, true, true, true, true, false, false] rfl (by kernel_rfl) (by decide) rfl ?_
      (refine h_app H 1 rfl info_g Tryz.underlying84 rfl rfl rfl rfl (H.cellRd 0 rfl) rfl rfl (by show (i + 1) * 32 ≤ _; omega) (fun v w_ hv H => ?_)); obtain ⟨A', c', rfl⟩ := hv
      refine l_nil ?_
      have HS := H.pick [1, 2, 3] [0] (by decide) (by decide) rfl rfl
      refine ⟨rfl, HS, ?_⟩
      first | (refine e_pure (i := 14) #[true, true, true, true, true, true, true, true, true, true, true, true, true, true, true, false] rfl (by kernel_rfl) (fun _ _ _ h => h) rfl (fun w_ => evF_run (o := ⟨_, _, _, _, _, _⟩) flds rfl) ?_) | (refine e_pure (i := 14) #[true, true, true, true, true, true, true, true, true, true, true, true, true, true, true, false] rfl (by kernel_rfl) (fun _ _ _ h => h) rfl (fun w_ => evG_run (o := ⟨_, _, _, _, _, _⟩) flds rfl) ?_)
      refine e_last (i := 15) #[true, true, true, true, true, true, true, true, true, true, true, true, true, true, true, true] rfl (by kernel_rfl) (by decide) rfl ?_
      refine g_on ?_; ((with_reducible refine g_st ?_); (refine h_st txs ones H 1 rfl rfl rfl rfl rfl rfl rfl rfl rfl (fun w_ H => ?_)))
      refine l_nil ?_
      refine ⟨rfl, ?_⟩
      refine e_done rfl ?_
      repeat' (first | (with_reducible first | refine p_tn ?_ | refine p_bn ?_ | refine w_reg ?_ | refine l_nil ?_) | ((with_reducible refine g_on ?_); (first | ((with_reducible refine g_mv ?_); refine l_p txs rfl rfl ?_) | ((with_reducible refine g_as ?_); refine l_p txs rfl rfl ?_) | ((with_reducible refine g_bi ?_); (refine l_a txs rfl rfl (by first | exact in_i64 (by omega) (by omega) | exact in_u8 (by omega) (by omega) | exact in_u64 (by omega) (by omega) | exact in_i32 (by omega) (by omega)) ?_)))))
      refine ⟨(i + 1, A', c'), _, rfl, ⟨rfl, rfl, rfl, rfl, trivial⟩, ⟨?_, by show i + 1 ≤ _; omega⟩, by show _ - (i + 1) < _ - i; omega⟩
      simp only [htk, fldC_snoc]
      exact H.pick [1, 2, 3] [0, 1] (by decide) (by decide) rfl rfl
    · have hall : (mkF ns vs).take i = mkF ns vs := List.take_of_length_le (by omega)
      have hin : i = ns.length := by omega
      subst hin
      rw [hall] at H
      repeat' (first | (with_reducible first | refine p_tn ?_ | refine p_tx ?_ | refine x_hit ?_ | refine wp_seq ?_ | refine w_reg ?_) | (with_reducible (refine is_if ?_; (refine w_iff rfl ?_))) | (with_reducible first | refine wp_exit ?_ | refine wp_ret ?_ | refine l_nil ?_) | ((with_reducible refine g_on ?_); (first | ((with_reducible refine g_ld ?_); (refine h_ldR recs H 0 rfl rfl rfl rfl rfl ?_)) | ((with_reducible refine g_st ?_); (refine h_stR recs H 1 rfl rfl rfl rfl rfl rfl rfl rfl rfl (fun w_ H => ?_))))))
      refine end_cell recs H 1 rfl rfl rfl rfl rfl ?_
      refine ⟨A2, c2, A1, c1, ?_, ?_⟩
      · show _ = Ending.returned (.agg #[.int .i64 st, .int .i64 mi, .slice A2 (mkF ns vs).length c2, .slice A1 (padS body pad).length c1, .bool false])
        rw [hml]
      · unfold rowG
        rw [hml]
        exact H.pick [] [1, 0] (by decide) (by decide) rfl rfl
theorem _root_.Go.Proofs.YthgojbdpmcccaaaGreatDoor.Q.Hp.sub {w0 w : World} {l : List Ent} {r : List RowD} (H : Hp w0 w l r) (k : Nat) {g : Nat} {t : TypeId} {cs : List Value} (hk : l[k]? = some (g, t, cs)) (o : Nat) {vs : List Value} (hv : (cs.drop o).take vs.length = vs) : ∀ (j : Nat) (v : Value), vs[j]? = some v → w.cell? ((⟨g, o, none⟩ : Addr).add j) = some v := by
  intro j v hj
  have hb := H.get k hk
  have hlt : j < vs.length := (List.getElem?_eq_some_iff.1 hj).1
  rw [add_lit]
  rw [← hv, List.getElem?_take_of_lt hlt, List.getElem?_drop] at hj
  simp only [World.cell?, hb]
  simpa using hj
def outX (k : Nat) (x : L) : L := if k = 0 then x else []
theorem fmX_out {w w' : World} {k : Nat} {x : L} {e : Ending} (h : FmX w k x e w') : ∃ A c, e = .returned (.tuple #[.slice A (outX k x).length c, .int .i64 (k : Int)]) ∧ Below w.heap.size w w' ∧ ReadsInt w' .u8 A (outX k x).length (outX k x) := by
  obtain ⟨K, A, n, c, rfl, h1, h2⟩ := h
  by_cases hk : k = 0
  · obtain ⟨rfl, hr⟩ := h2 hk
    have e1 : outX k x = x := if_pos hk
    rw [e1]
    exact ⟨A, c, rfl, K, hr⟩
  · obtain ⟨rfl, rfl, rfl⟩ := h1 hk
    have e1 : outX k x = [] := if_neg hk
    rw [e1]
    exact ⟨none, 0, rfl, K, ⟨rfl, Nat.zero_le _, fun h0 => absurd h0 (Nat.lt_irrefl 0)⟩⟩
theorem byt_out {w w' : World} {k : Nat} {x : L} {v : Value} (hx : x.length ≤ 9223372036854775807) (h1 : k ≠ 0 → v = .slice none 0 0) (h2 : k = 0 → BytB w w' x v) : ∃ A c, v = .slice A (outX k x).length c ∧ ReadsInt w' .u8 A (outX k x).length (outX k x) := by
  by_cases hk : k = 0
  · obtain ⟨g, cur, c, rfl, hc, hge, hgb, hgs, hgm, hgt⟩ := h2 hk
    have e1 : outX k x = x := if_pos hk
    rw [e1]
    exact ⟨_, c, rfl, reads_of_rd (byt_rd hgb hgt) hx⟩
  · have e1 : outX k x = [] := if_neg hk
    rw [e1, h1 hk]
    exact ⟨none, 0, rfl, ⟨rfl, Nat.zero_le _, fun h0 => absurd h0 (Nat.lt_irrefl 0)⟩⟩
theorem pad_bytes {b : L} (hb : Bytes b) (pad : Int) : Bytes (padS b pad) := app_bytes hb (by intro x hx; have := List.eq_of_mem_replicate hx; omega)
theorem pad_len {b : L} (hl : b.length ≤ 5000000) (pad : Int) : (padS b pad).length ≤ 7000000 := by unfold padS padN; rw [List.length_append, List.length_replicate]; split <;> omega
theorem whole_le {s : L} {l : List Fld} {b : L} (h1 : s.length ≤ 8000) (h2 : headLen l ≤ 16384) (h3 : b.length ≤ 1048576) : (wholeS s l b).length ≤ 1100000 := by
  unfold wholeS
  rw [List.length_append, List.length_append, List.length_append, headF_length]
  show _ + 2 + _ + _ ≤ _
  omega
theorem formY_lenR {r : ResS} (h : formT r = 0) (hst : -9223372036854775808 ≤ r.status ∧ r.status ≤ 9223372036854775807) (hmi : -9223372036854775808 ≤ r.minor ∧ r.minor ≤ 9223372036854775807) : 0 < (formY r).length ∧ (formY r).length ≤ 1100000 := by
  obtain ⟨h2, _, hl⟩ := res_ok h
  have z1 := itoaI_size r.minor hmi.1 hmi.2
  have z2 := itoaI_size r.status hst.1 hst.2
  rw [sizeS' (decI_bytes _)] at z1 z2
  have z3 := (reason_ok _ hst.1 hst.2).2
  have hs : (startRes r.status r.minor).length ≤ 200 := by
    unfold startRes
    simp only [List.length_append, List.length_cons, List.length_nil]
    omega
  unfold formY wholeS
  rw [List.length_append, List.length_append, List.length_append, headF_length]
  show 0 < _ + 2 + _ + _ ∧ _ + 2 + _ + _ ≤ _
  omega
set_option maxRecDepth 100000 in
set_option maxHeartbeats 16000000 in
theorem printsQ_c {A : Nat → Addr} {w : World} (hE : LayS A w) (hP : TabP w) {mx : Int} (hM : w.cell? ⟨20, 0, none⟩ = some (.int .i64 mx)) {tM : TypeId} {frM : Nat × Nat} (hT : w.heap[17]? = some (.cells meC tM frM)) {tN : TypeId} {frN : Nat × Nat} (hN : w.heap[14]? = some (.cells meC tN frN))
    {m t : L} {mi pad : Int} {ns vs : List L} {body : L} {NB VB BB : Option Addr} {nc vc bc : Nat} (hm : Bytes m) (ht : Bytes t) (hml : m.length ≤ 10000000) (htl : t.length ≤ 10000000) (hmi : -9223372036854775808 ≤ mi ∧ mi ≤ 9223372036854775807) (hn : Rd w NB (strC ns)) (hv : Rd w VB (strC vs)) (hnl : ns.length ≤ 5000000)
    (hnb : ∀ x ∈ ns, Bytes x ∧ x.length ≤ 100000000) (hvb : ∀ x ∈ vs, Bytes x ∧ x.length ≤ 100000000) (hrb : ReadsInt w .u8 BB body.length body) (hbb : Bytes body) (hbl : body.length ≤ 5000000)
    (p0 n0 : Int) (t0 : ByteArray) (i3 i4 i5 : Int) (s1 s4 s5 s6 : Option Addr) (l1 l4 l5 l6 d1 d4 d5 d6 : Nat) :
    Calls Tryz.prog 26 #[.agg #[.int .i64 3, .slice s1 l1 d1, .int .i64 p0, .int .i64 n0, .string t0, .string (strOfNums m), .string (strOfNums t), .int .i64 mi, .slice NB ns.length nc, .slice VB vs.length vc, .slice BB body.length bc, .int .i64 pad, .int .i64 i3, .int .i64 i4, .slice s4 l4 d4, .slice s5 l5 d5, .slice s6 l6 d6, .int .i64 i5]] w fun e w' => e = .returned (.bool true) ∧ Below w.heap.size w w' := by
  have hTb : ∀ w1, Below w.heap.size w w1 → w1.heap[17]? = some (.cells meC tM frM) := fun w1 K => (K.block _ (blk_lt hT)).trans hT
  have hNb : ∀ w1, Below w.heap.size w w1 → w1.heap[14]? = some (.cells meC tN frN) := fun w1 K => (K.block _ (blk_lt hN)).trans hN
  refine enter (args := [.agg #[.int .i64 3, .slice s1 l1 d1, .int .i64 p0, .int .i64 n0, .string t0, .string (strOfNums m), .string (strOfNums t), .int .i64 mi, .slice NB ns.length nc, .slice VB vs.length vc, .slice BB body.length bc, .int .i64 pad, .int .i64 i3, .int .i64 i4, .slice s4 l4 d4, .slice s5 l5 d5, .slice s6 l6 d6, .int .i64 i5]]) Tryz.func26 rfl Tryz.ntmps26 rfl ?_
  have H := Hp.nil w
  repeat' (with_reducible first | refine wp_seq ?_ | refine w_reg ?_)
  (with_reducible refine is_l ?_); refine h_box H rfl rfl rfl (fun gX w_ H => ?_)
  repeat' (first | (with_reducible first | refine p_tn ?_ | refine wp_seq ?_ | refine w_reg ?_ | refine l_nil ?_) | ((with_reducible refine g_on ?_); (first | ((with_reducible refine g_as ?_); refine l_p txs rfl rfl ?_) | ((with_reducible refine g_fa ?_); refine h_fa flds rfl rfl ?_) | ((with_reducible refine g_ld ?_); (refine h_ld txs H 0 rfl rfl rfl rfl ?_)))))
  (with_reducible refine is_l ?_); refine l_t txs rfl rfl (fun _ => ?_) (fun hh => absurd rfl hh)
  repeat' (first | (with_reducible first | refine p_tn ?_ | refine wp_seq ?_ | refine w_reg ?_) | (with_reducible (refine is_if ?_; (refine w_ift rfl ?_))) | (with_reducible refine l_nil ?_) | ((with_reducible refine g_on ?_); ((with_reducible refine g_fa ?_); refine h_fa flds rfl rfl ?_)))
  (with_reducible refine is_l ?_); refine h_ldA recs (cs := [.string (strOfNums m), .string (strOfNums t), .int .i64 mi, .slice NB ns.length nc, .slice VB vs.length vc, .slice BB body.length bc, .int .i64 pad]) (H.sub 0 rfl 5 rfl) rfl rfl rfl rfl ?_
  skip
  have hfb := mkF_bytes hnb hvb
  have hfl : (mkF ns vs).length ≤ 5000000 := by rw [mkF_len]; omega
  have hpb := pad_bytes hbb pad
  have hpl := pad_len hbl pad
  (with_reducible refine is_l ?_); refine l_call rfl rfl (by kernel_rfl) (asked_c (m := m) (t := t) (mi := mi) (pad := pad) (hn.below H.B) (hv.below H.B) (by omega) (hrb.below H.B) (by omega)) (fun e w_ hR => ?_)
  obtain ⟨F1, f1, P1, p1, rfl, K⟩ := hR
  refine ⟨_, rfl, ?_⟩
  have H := H.join K
  obtain ⟨r, hr⟩ : ∃ r, r = reqOf m t mi ns vs body pad := ⟨_, rfl⟩
  have r1 : r.method = m := by rw [hr]; rfl
  have r2 : r.target = t := by rw [hr]; rfl
  have r3 : r.minor = mi := by rw [hr]; rfl
  have r4 : r.fields = mkF ns vs := by rw [hr]; rfl
  have r5 : r.body = padS body pad := by rw [hr]; rfl
  have q1 := rowG_at H 0 (A := F1) (c := f1) (x := mkF ns vs) rfl
  have q2 := (rowB_rd H 1 (F := P1) (f := p1) (x := padS body pad) rfl).1
  rw [← r4] at q1
  rw [← r5] at q2
  rw [← hr]
  skip
  (with_reducible refine is_l ?_); refine l_call rfl rfl (by kernel_rfl) (rFormatRequest_c (hNb _ H.B) r (by rw [r1]; exact hm) (by rw [r2]; exact ht) (by rw [r1]; exact hml) (by rw [r2]; exact htl) (by rw [r3]; exact hmi) q1 (by rw [r4]; exact hfb) (by rw [r4]; exact hfl) q2 (by rw [r5]; omega)) (fun e w_ hR => ?_)
  obtain ⟨A1, c1, rfl, K, hP1⟩ := fmX_out hR
  refine ⟨_, rfl, ?_⟩
  have H := H.call K
  generalize hY : outX (formS r) (wholeS (startI r) (printedS r.fields (toldB r.body)) r.body) = Y at hP1 ⊢
  repeat' (first | (with_reducible first | refine p_tn ?_ | refine wp_seq ?_ | refine w_reg ?_ | refine l_nil ?_) | ((with_reducible refine g_on ?_); (first | ((with_reducible refine g_mv ?_); refine l_p txs rfl rfl ?_) | ((with_reducible refine g_as ?_); refine l_p txs rfl rfl ?_) | ((with_reducible refine g_ex ?_); refine l_p txs rfl rfl ?_) | ((with_reducible refine g_fa ?_); refine h_fa flds rfl rfl ?_))))
  (with_reducible refine is_l ?_); refine h_ldA recs (cs := [.string (strOfNums m), .string (strOfNums t), .int .i64 mi, .slice NB ns.length nc, .slice VB vs.length vc, .slice BB body.length bc, .int .i64 pad]) (H.sub 0 rfl 5 rfl) rfl rfl rfl rfl ?_
  skip
  (with_reducible refine is_l ?_); refine l_call rfl rfl (by kernel_rfl) (request_c (m := m) (t := t) (mi := mi) (pad := pad) (hn.below H.B) (hv.below H.B) (by omega) (hrb.below H.B) (by omega)) (fun e w_ hR => ?_)
  obtain ⟨F2, f2, P2, p2, rfl, K⟩ := hR
  refine ⟨_, rfl, ?_⟩
  have hP1 := hP1.below K.B
  have H := H.join K
  have q1 := rowF_rd H 0 (F := F2) (f := f2) (x := mkF ns vs) rfl
  have q2 := (rowB_rd H 1 (F := P2) (f := p2) (x := padS body pad) rfl).1
  rw [← r4] at q1
  rw [← r5] at q2
  rw [← hr]
  skip
  (with_reducible refine is_l ?_); refine l_call rfl rfl (by kernel_rfl) (FormatRequest_c (hE.below H.B) (hP.below H.B) (H.old hM) (hTb _ H.B) r (by rw [r1]; exact hm) (by rw [r2]; exact ht) (by rw [r1]; exact hml) (by rw [r2]; exact htl) (by rw [r3]; exact hmi) q1 (by rw [r4]; exact hfb) (by rw [r4]; exact hfl) q2 (by rw [r5]; exact hpb) (by rw [r5]; omega)) (fun e w_ hR => ?_)
  obtain ⟨K, v2, rfl, hbad, hgood⟩ := hR
  obtain ⟨A2, c2, rfl, hP2⟩ : ∃ A c, v2 = .slice A (outX (formS r) (wholeS (startI r) (printedS r.fields (toldB r.body)) r.body)).length c ∧ ReadsInt w_ .u8 A (outX (formS r) (wholeS (startI r) (printedS r.fields (toldB r.body)) r.body)).length (outX (formS r) (wholeS (startI r) (printedS r.fields (toldB r.body)) r.body)) := by
    by_cases hk : formS r = 0
    · obtain ⟨o1, o2, o3, o4⟩ := check_ok hk
      have := whole_le o1 o2 o4
      exact byt_out (by omega) hbad hgood
    · refine ⟨none, 0, ?_, ?_⟩
      · rw [hbad hk]; unfold outX; rw [if_neg hk]; rfl
      · unfold outX; rw [if_neg hk]; exact ⟨rfl, Nat.zero_le _, fun h0 => absurd h0 (Nat.lt_irrefl 0)⟩
  refine ⟨_, rfl, ?_⟩
  rw [hY] at hP2 ⊢
  have hP1 := hP1.below K
  have H := H.call K
  repeat' (first | (with_reducible first | refine p_tn ?_ | refine wp_seq ?_ | refine w_reg ?_ | refine l_nil ?_) | ((with_reducible refine g_on ?_); (first | ((with_reducible refine g_mv ?_); refine l_p txs rfl rfl ?_) | ((with_reducible refine g_as ?_); refine l_p txs rfl rfl ?_) | ((with_reducible refine g_ex ?_); refine l_p txs rfl rfl ?_))))
  (with_reducible refine is_l ?_); refine l_t txs rfl rfl (fun _ => ?_) (fun hh => absurd rfl hh)
  repeat' (first | ((with_reducible refine g_on ?_); ((with_reducible refine g_mv ?_); refine l_p txs rfl rfl ?_)) | ((with_reducible refine g_if ?_); ((with_reducible refine g_mv ?_); refine l_p txs rfl rfl ?_)))
  (with_reducible refine is_l ?_); refine l_text rfl rfl Tryz.underlying23 Tryz.underlying5 Tryz.underlying9 hP2 ?_
  repeat' ((with_reducible refine g_if ?_); ((with_reducible refine g_mv ?_); refine l_p txs rfl rfl ?_))
  (with_reducible refine is_l ?_); refine l_text rfl rfl Tryz.underlying23 Tryz.underlying5 Tryz.underlying9 hP1 ?_
  skip
  (with_reducible refine is_l ?_); refine l_t txs rfl rfl (fun _ => ?_) (fun hh => absurd rfl hh)
  repeat' (first | (with_reducible first | refine p_tn ?_ | refine p_tr ?_ | refine wp_ret ?_ | refine l_nil ?_) | ((with_reducible refine g_on ?_); (first | ((with_reducible refine g_as ?_); refine l_p txs rfl rfl ?_) | ((with_reducible refine g_pk ?_); refine l_p txs rfl rfl ?_))))
  refine end1 rfl rfl ?_
  exact ⟨rfl, H.B⟩
set_option maxRecDepth 100000 in
set_option maxHeartbeats 16000000 in
theorem printsS_c {A : Nat → Addr} {w : World} (hE : LayS A w) (h13 : Sent w (gE 13) (A 13)) (hP : TabP w) {tR : TypeId} {frR : Nat × Nat} (hRe : w.heap[13]? = some (.cells reC tR frR)) (hTR : TabR w)
    {st mi pad : Int} {ns vs : List L} {body : L} {NB VB BB : Option Addr} {nc vc bc : Nat} (hst : -9223372036854775808 ≤ st ∧ st ≤ 9223372036854775807) (hmi : -9223372036854775808 ≤ mi ∧ mi ≤ 9223372036854775807) (hn : Rd w NB (strC ns)) (hv : Rd w VB (strC vs)) (hnl : ns.length ≤ 5000000)
    (hnb : ∀ x ∈ ns, Bytes x ∧ x.length ≤ 100000000) (hvb : ∀ x ∈ vs, Bytes x ∧ x.length ≤ 100000000) (hrb : ReadsInt w .u8 BB body.length body) (hbb : Bytes body) (hbl : body.length ≤ 5000000)
    (k0 : Int) (hk0 : k0 ≠ 3) (p0 n0 : Int) (t0 t1 t2 : ByteArray) (i1 i2 : Int) (s1 s2 s3 s4 : Option Addr) (l1 l2 l3 l4 d1 d2 d3 d4 : Nat) :
    Calls Tryz.prog 26 #[.agg #[.int .i64 k0, .slice s1 l1 d1, .int .i64 p0, .int .i64 n0, .string t0, .string t1, .string t2, .int .i64 i1, .slice s2 l2 d2, .slice s3 l3 d3, .slice s4 l4 d4, .int .i64 i2, .int .i64 st, .int .i64 mi, .slice NB ns.length nc, .slice VB vs.length vc, .slice BB body.length bc, .int .i64 pad]] w fun e w' => e = .returned (.bool true) ∧ Below w.heap.size w w' := by
  have hReb : ∀ w1, Below w.heap.size w w1 → w1.heap[13]? = some (.cells reC tR frR) := fun w1 K => (K.block _ (blk_lt hRe)).trans hRe
  refine enter (args := [.agg #[.int .i64 k0, .slice s1 l1 d1, .int .i64 p0, .int .i64 n0, .string t0, .string t1, .string t2, .int .i64 i1, .slice s2 l2 d2, .slice s3 l3 d3, .slice s4 l4 d4, .int .i64 i2, .int .i64 st, .int .i64 mi, .slice NB ns.length nc, .slice VB vs.length vc, .slice BB body.length bc, .int .i64 pad]]) Tryz.func26 rfl Tryz.ntmps26 rfl ?_
  have H := Hp.nil w
  repeat' (with_reducible first | refine wp_seq ?_ | refine w_reg ?_)
  (with_reducible refine is_l ?_); refine h_box H rfl rfl rfl (fun gX w_ H => ?_)
  repeat' (first | (with_reducible first | refine p_tn ?_ | refine wp_seq ?_ | refine w_reg ?_ | refine l_nil ?_) | ((with_reducible refine g_on ?_); (first | ((with_reducible refine g_as ?_); refine l_p txs rfl rfl ?_) | ((with_reducible refine g_fa ?_); refine h_fa flds rfl rfl ?_) | ((with_reducible refine g_ld ?_); (refine h_ld txs H 0 rfl rfl rfl rfl ?_)))))
  (with_reducible refine is_l ?_); refine l_t txs rfl rfl (fun hh => absurd hh hk0) (fun _ => ?_)
  repeat' (first | (with_reducible first | refine p_tn ?_ | refine wp_seq ?_ | refine w_reg ?_) | (with_reducible (refine is_if ?_; (refine w_iff rfl ?_))) | (with_reducible first | refine wp_skip ?_ | refine l_nil ?_) | ((with_reducible refine g_on ?_); ((with_reducible refine g_fa ?_); refine h_fa flds rfl rfl ?_)))
  (with_reducible refine is_l ?_); refine h_ldA recs (cs := [.int .i64 st, .int .i64 mi, .slice NB ns.length nc, .slice VB vs.length vc, .slice BB body.length bc, .int .i64 pad]) (H.sub 0 rfl 12 rfl) rfl rfl rfl rfl ?_
  skip
  have hfb := mkF_bytes hnb hvb
  have hfl : (mkF ns vs).length ≤ 5000000 := by rw [mkF_len]; omega
  have hpb := pad_bytes hbb pad
  have hpl := pad_len hbl pad
  (with_reducible refine is_l ?_); refine l_call rfl rfl (by kernel_rfl) (answered_c (st := st) (mi := mi) (pad := pad) (hn.below H.B) (hv.below H.B) (by omega) (hrb.below H.B) (by omega)) (fun e w_ hR => ?_)
  obtain ⟨F1, f1, P1, p1, rfl, K⟩ := hR
  refine ⟨_, rfl, ?_⟩
  have H := H.join K
  obtain ⟨r, hr⟩ : ∃ r, r = resOf st mi ns vs body pad := ⟨_, rfl⟩
  have r2 : r.status = st := by rw [hr]; rfl
  have r3 : r.minor = mi := by rw [hr]; rfl
  have r4 : r.fields = mkF ns vs := by rw [hr]; rfl
  have r5 : r.body = padS body pad := by rw [hr]; rfl
  have q1 := rowG_at H 0 (A := F1) (c := f1) (x := mkF ns vs) rfl
  have q2 := (rowB_rd H 1 (F := P1) (f := p1) (x := padS body pad) rfl).1
  rw [← r4] at q1
  rw [← r5] at q2
  rw [← hr]
  skip
  (with_reducible refine is_l ?_); refine l_call rfl rfl (by kernel_rfl) (rFormatResponse_c (hTR.below H.B) r (by rw [r2]; exact hst) (by rw [r3]; exact hmi) q1 (by rw [r4]; exact hfb) (by rw [r4]; exact hfl) q2 (by rw [r5]; omega)) (fun e w_ hR => ?_)
  obtain ⟨A1, c1, rfl, K, hP1⟩ := fmX_out hR
  refine ⟨_, rfl, ?_⟩
  have H := H.call K
  generalize hY : outX (formT r) (formY r) = Y at hP1 ⊢
  repeat' (first | (with_reducible first | refine p_tn ?_ | refine wp_seq ?_ | refine w_reg ?_ | refine l_nil ?_) | ((with_reducible refine g_on ?_); (first | ((with_reducible refine g_mv ?_); refine l_p txs rfl rfl ?_) | ((with_reducible refine g_as ?_); refine l_p txs rfl rfl ?_) | ((with_reducible refine g_ex ?_); refine l_p txs rfl rfl ?_) | ((with_reducible refine g_fa ?_); refine h_fa flds rfl rfl ?_))))
  (with_reducible refine is_l ?_); refine h_ldA recs (cs := [.int .i64 st, .int .i64 mi, .slice NB ns.length nc, .slice VB vs.length vc, .slice BB body.length bc, .int .i64 pad]) (H.sub 0 rfl 12 rfl) rfl rfl rfl rfl ?_
  skip
  (with_reducible refine is_l ?_); refine l_call rfl rfl (by kernel_rfl) (response_c (st := st) (mi := mi) (pad := pad) (hn.below H.B) (hv.below H.B) (by omega) (hrb.below H.B) (by omega)) (fun e w_ hR => ?_)
  obtain ⟨F2, f2, P2, p2, rfl, K⟩ := hR
  refine ⟨_, rfl, ?_⟩
  have hP1 := hP1.below K.B
  have H := H.join K
  have q1 := rowF_rd H 0 (F := F2) (f := f2) (x := mkF ns vs) rfl
  have q2 := (rowB_rd H 1 (F := P2) (f := p2) (x := padS body pad) rfl).1
  rw [← r4] at q1
  rw [← r5] at q2
  rw [← hr]
  skip
  (with_reducible refine is_l ?_); refine l_call rfl rfl (by kernel_rfl) (FormatResponse_c (hE.below H.B) (h13.below H.B) (hP.below H.B) (hReb _ H.B) r (by rw [r2]; exact hst) (by rw [r3]; exact hmi) q1 (by rw [r4]; exact hfb) (by rw [r4]; exact hfl) q2 (by rw [r5]; exact hpb) (by rw [r5]; omega)) (fun e w_ hR => ?_)
  obtain ⟨K, v2, rfl, hbad, hgood⟩ := hR
  obtain ⟨A2, c2, rfl, hP2⟩ : ∃ A c, v2 = .slice A (outX (formT r) (formY r)).length c ∧ ReadsInt w_ .u8 A (outX (formT r) (formY r)).length (outX (formT r) (formY r)) := by
    by_cases hk : formT r = 0
    · have := (formY_lenR hk (by rw [r2]; exact hst) (by rw [r3]; exact hmi)).2
      exact byt_out (by omega) hbad hgood
    · refine ⟨none, 0, ?_, ?_⟩
      · rw [hbad hk]; unfold outX; rw [if_neg hk]; rfl
      · unfold outX; rw [if_neg hk]; exact ⟨rfl, Nat.zero_le _, fun h0 => absurd h0 (Nat.lt_irrefl 0)⟩
  refine ⟨_, rfl, ?_⟩
  rw [hY] at hP2 ⊢
  have hP1 := hP1.below K
  have H := H.call K
  repeat' (first | (with_reducible first | refine p_tn ?_ | refine wp_seq ?_ | refine w_reg ?_ | refine l_nil ?_) | ((with_reducible refine g_on ?_); (first | ((with_reducible refine g_mv ?_); refine l_p txs rfl rfl ?_) | ((with_reducible refine g_as ?_); refine l_p txs rfl rfl ?_) | ((with_reducible refine g_ex ?_); refine l_p txs rfl rfl ?_))))
  (with_reducible refine is_l ?_); refine l_t txs rfl rfl (fun _ => ?_) (fun hh => absurd rfl hh)
  repeat' (first | ((with_reducible refine g_on ?_); ((with_reducible refine g_mv ?_); refine l_p txs rfl rfl ?_)) | ((with_reducible refine g_if ?_); ((with_reducible refine g_mv ?_); refine l_p txs rfl rfl ?_)))
  (with_reducible refine is_l ?_); refine l_text rfl rfl Tryz.underlying23 Tryz.underlying5 Tryz.underlying9 hP2 ?_
  repeat' ((with_reducible refine g_if ?_); ((with_reducible refine g_mv ?_); refine l_p txs rfl rfl ?_))
  (with_reducible refine is_l ?_); refine l_text rfl rfl Tryz.underlying23 Tryz.underlying5 Tryz.underlying9 hP1 ?_
  skip
  (with_reducible refine is_l ?_); refine l_t txs rfl rfl (fun _ => ?_) (fun hh => absurd rfl hh)
  repeat' (first | (with_reducible first | refine p_tn ?_ | refine wp_ret ?_ | refine l_nil ?_) | ((with_reducible refine g_on ?_); (first | ((with_reducible refine g_as ?_); refine l_p txs rfl rfl ?_) | ((with_reducible refine g_pk ?_); refine l_p txs rfl rfl ?_))))
  refine end1 rfl rfl ?_
  exact ⟨rfl, H.B⟩
theorem built_oq (m t : ByteArray) (mi pad : Int) (NB VB BB : Option Addr) (n1 n2 n3 c1 c2 c3 : Nat) : Tryz.prog.built 56 [(0, .int .i64 3), (5, .agg #[.string m, .string t, .int .i64 mi, .slice NB n1 c1, .slice VB n2 c2, .slice BB n3 c3, .int .i64 pad])] = some #[.int .i64 3, .slice none 0 0, .int .i64 0, .int .i64 0, .string ⟨#[]⟩, .string m, .string t, .int .i64 mi, .slice NB n1 c1, .slice VB n2 c2, .slice BB n3 c3, .int .i64 pad, .int .i64 0, .int .i64 0, .slice none 0 0, .slice none 0 0, .slice none 0 0, .int .i64 0] := by kernel_rfl
theorem built_os (st mi pad : Int) (NB VB BB : Option Addr) (n1 n2 n3 c1 c2 c3 : Nat) : Tryz.prog.built 56 [(0, .int .i64 4), (6, .agg #[.int .i64 st, .int .i64 mi, .slice NB n1 c1, .slice VB n2 c2, .slice BB n3 c3, .int .i64 pad])] = some #[.int .i64 4, .slice none 0 0, .int .i64 0, .int .i64 0, .string ⟨#[]⟩, .string ⟨#[]⟩, .string ⟨#[]⟩, .int .i64 0, .slice none 0 0, .slice none 0 0, .slice none 0 0, .int .i64 0, .int .i64 st, .int .i64 mi, .slice NB n1 c1, .slice VB n2 c2, .slice BB n3 c3, .int .i64 pad] := by kernel_rfl
set_option maxRecDepth 100000 in
set_option maxHeartbeats 16000000 in
theorem prints_c {A : Nat → Addr} {w : World} (hE : LayS A w) (h13 : Sent w (gE 13) (A 13)) (hP : TabP w) {mx : Int} (hM : w.cell? ⟨20, 0, none⟩ = some (.int .i64 mx)) {tM : TypeId} {frM : Nat × Nat} (hT : w.heap[17]? = some (.cells meC tM frM)) {tN : TypeId} {frN : Nat × Nat} (hN : w.heap[14]? = some (.cells meC tN frN)) {tR : TypeId} {frR : Nat × Nat} (hRe : w.heap[13]? = some (.cells reC tR frR)) (hTR : TabR w)
    {m t : L} {mi pad : Int} {ns vs : List L} {body : L} {NB VB BB : Option Addr} {nc vc bc : Nat} (hm : Bytes m) (ht : Bytes t) (hml : m.length ≤ 10000000) (htl : t.length ≤ 10000000) (hmi : -9223372036854775808 ≤ mi ∧ mi ≤ 9223372036854775807) (hn : Rd w NB (strC ns)) (hv : Rd w VB (strC vs)) (hnl : ns.length ≤ 5000000)
    (hnb : ∀ x ∈ ns, Bytes x ∧ x.length ≤ 100000000) (hvb : ∀ x ∈ vs, Bytes x ∧ x.length ≤ 100000000) (hrb : ReadsInt w .u8 BB body.length body) (hbb : Bytes body) (hbl : body.length ≤ 5000000)
    {st mi2 pad2 : Int} {ns2 vs2 : List L} {body2 : L} {NB2 VB2 BB2 : Option Addr} {nc2 vc2 bc2 : Nat} (hst : -9223372036854775808 ≤ st ∧ st ≤ 9223372036854775807) (hmi2 : -9223372036854775808 ≤ mi2 ∧ mi2 ≤ 9223372036854775807) (hn2 : Rd w NB2 (strC ns2)) (hv2 : Rd w VB2 (strC vs2)) (hnl2 : ns2.length ≤ 5000000)
    (hnb2 : ∀ x ∈ ns2, Bytes x ∧ x.length ≤ 100000000) (hvb2 : ∀ x ∈ vs2, Bytes x ∧ x.length ≤ 100000000) (hrb2 : ReadsInt w .u8 BB2 body2.length body2) (hbb2 : Bytes body2) (hbl2 : body2.length ≤ 5000000) :
    Calls Tryz.prog 7 #[.agg #[.string (strOfNums m), .string (strOfNums t), .int .i64 mi, .slice NB ns.length nc, .slice VB vs.length vc, .slice BB body.length bc, .int .i64 pad], .agg #[.int .i64 st, .int .i64 mi2, .slice NB2 ns2.length nc2, .slice VB2 vs2.length vc2, .slice BB2 body2.length bc2, .int .i64 pad2]] w fun e w' => e = .returned (.bool true) ∧ Below w.heap.size w w' := by
  have hTb : ∀ w1, Below w.heap.size w w1 → w1.heap[17]? = some (.cells meC tM frM) := fun w1 K => (K.block _ (blk_lt hT)).trans hT
  have hNb : ∀ w1, Below w.heap.size w w1 → w1.heap[14]? = some (.cells meC tN frN) := fun w1 K => (K.block _ (blk_lt hN)).trans hN
  have hReb : ∀ w1, Below w.heap.size w w1 → w1.heap[13]? = some (.cells reC tR frR) := fun w1 K => (K.block _ (blk_lt hRe)).trans hRe
  refine enter (args := [.agg #[.string (strOfNums m), .string (strOfNums t), .int .i64 mi, .slice NB ns.length nc, .slice VB vs.length vc, .slice BB body.length bc, .int .i64 pad], .agg #[.int .i64 st, .int .i64 mi2, .slice NB2 ns2.length nc2, .slice VB2 vs2.length vc2, .slice BB2 body2.length bc2, .int .i64 pad2]]) Tryz.func7 rfl Tryz.ntmps7 rfl ?_
  have H := Hp.nil w
  repeat' (with_reducible first | refine wp_seq ?_ | refine w_reg ?_)
  (with_reducible refine is_l ?_); refine h_box H rfl rfl rfl (fun gX w_ H => ?_)
  (with_reducible refine is_l ?_); refine h_box H rfl rfl rfl (fun gY w_ H => ?_)
  repeat' (first | (with_reducible first | refine p_tn ?_ | refine wp_seq ?_ | refine w_reg ?_ | refine l_nil ?_) | ((with_reducible refine g_on ?_); ((with_reducible refine g_as ?_); refine l_p txs rfl rfl ?_)))
  (with_reducible refine is_l ?_); refine l_callv rfl rfl (by kernel_rfl) (known_c (hE.below H.B) (H.old hM) (hTb _ H.B)) (fun w_ K => ?_)
  have H := H.call K
  repeat' (first | ((with_reducible refine g_on ?_); ((with_reducible refine g_mv ?_); refine l_p txs rfl rfl ?_)) | ((with_reducible refine g_if ?_); ((with_reducible refine g_ld ?_); (refine h_ldR recs H 1 rfl rfl rfl rfl rfl ?_))))
  (with_reducible refine is_l ?_); refine h_bld rfl rfl (built_oq _ _ _ _ _ _ _ _ _ _ _ _ _) ?_
  skip
  (with_reducible refine is_l ?_); refine l_callv rfl rfl (by kernel_rfl) (printsQ_c (hE.below H.B) (hP.below H.B) (H.old hM) (hTb _ H.B) (hNb _ H.B) hm ht hml htl hmi (hn.below H.B) (hv.below H.B) hnl hnb hvb (hrb.below H.B) hbb hbl 0 0 ⟨#[]⟩ 0 0 0 none none none none 0 0 0 0 0 0 0 0) (fun w_ K => ?_)
  have H := H.call K
  repeat' (first | ((with_reducible refine g_on ?_); (first | ((with_reducible refine g_mv ?_); refine l_p txs rfl rfl ?_) | ((with_reducible refine g_pk ?_); refine l_p txs rfl rfl ?_))) | ((with_reducible refine g_if ?_); ((with_reducible refine g_ld ?_); (refine h_ldR recs H 0 rfl rfl rfl rfl rfl ?_))))
  (with_reducible refine is_l ?_); refine h_bld rfl rfl (built_os _ _ _ _ _ _ _ _ _ _ _ _) ?_
  skip
  (with_reducible refine is_l ?_); refine l_callv rfl rfl (by kernel_rfl) (printsS_c (hE.below H.B) (h13.below H.B) (hP.below H.B) (hReb _ H.B) (hTR.below H.B) hst hmi2 (hn2.below H.B) (hv2.below H.B) hnl2 hnb2 hvb2 (hrb2.below H.B) hbb2 hbl2 4 (by decide) 0 0 ⟨#[]⟩ ⟨#[]⟩ ⟨#[]⟩ 0 0 none none none none 0 0 0 0 0 0 0 0) (fun w_ K => ?_)
  have H := H.call K
  repeat' (first | (with_reducible first | refine p_tn ?_ | refine wp_ret ?_ | refine l_nil ?_) | ((with_reducible refine g_on ?_); (first | ((with_reducible refine g_as ?_); refine l_p txs rfl rfl ?_) | ((with_reducible refine g_pk ?_); refine l_p txs rfl rfl ?_))))
  refine end1 rfl rfl ?_
  exact ⟨rfl, H.B⟩
end Go.Proofs.YthgojbdpmcccaaaGreatDoor.K.Ref
end
section
namespace Go.Proofs.YthgojbdpmcccaaaGreatDoor.Op
open Go.ChangeShapes Go.WideShapes Go.ChangeAt Go.RowKit
open Go.Proofs.YthgojbdpmcccaaaGreatDoor.K Go.Proofs.YthgojbdpmcccaaaGreatDoor.Q Go.Proofs.YthgojbdpmcccaaaGreatDoor.Wb Go.Proofs.YthgojbdpmcccaaaGreatDoor.LaidF Go.Proofs.YthgojbdpmcccaaaGreatDoorW.PrintWords
set_option linter.unusedVariables false
set_option linter.unusedSimpArgs false
structure ResIn (W : World) (k : Nat) where
  st : Int
  mi : Int
  ns : List L
  vs : List L
  body : L
  pad : Int
  NB : Option Addr
  nc : Nat
  VB : Option Addr
  vc : Nat
  BB : Option Addr
  bc : Nat
  hst : -9223372036854775808 ≤ st ∧ st ≤ 9223372036854775807
  hmi : -9223372036854775808 ≤ mi ∧ mi ≤ 9223372036854775807
  hn : Rd W NB (strC ns) ∧ ns.length ≤ k ∧ ∀ x ∈ ns, Bytes x ∧ x.length ≤ k
  hvs : Rd W VB (strC vs) ∧ vs.length ≤ k ∧ ∀ x ∈ vs, Bytes x ∧ x.length ≤ k
  hb : ReadsInt W .u8 BB body.length body ∧ body.length ≤ bc ∧ body.length ≤ k ∧ Bytes body ∧ (BB = none → bc = 0 ∧ body.length = 0)
  hp : -9223372036854775808 ≤ pad ∧ pad ≤ 9223372036854775807
def ResIn.val {W : World} {k : Nat} (R : ResIn W k) : Value := .agg #[.int .i64 R.st, .int .i64 R.mi, .slice R.NB R.ns.length R.nc, .slice R.VB R.vs.length R.vc, .slice R.BB R.body.length R.bc, .int .i64 R.pad]
theorem six {cs : List Value} (h : cs.length = 6) : ∃ a b c d e f, cs = [a, b, c, d, e, f] := by
  match cs, h with
  | [a, b, c, d, e, f], _ => exact ⟨a, b, c, d, e, f, rfl⟩
set_option maxRecDepth 100000 in
theorem open_res {H : Type} {enc : TypeId × Value → H} {W : World} {base : Nat} {v : Value} {d : DataW H} {ps : List MemPlace} (hval : Value.okWide Tryz.prog W .any base 53 v) (h : DataW.Trod enc Tryz.prog W 0 (fun _ => true) true 53 v d ps) : ∃ R : ResIn W (Rows.uptoBulk d), v = R.val := by
  obtain ⟨cs, rfl, hsz⟩ := okWide_struct Tryz.underlying53 hval
  obtain ⟨fuel, hf⟩ := h
  obtain ⟨xs, n, hx, hl, hall⟩ := one_at Tryz.underlying53 (by kernel_rfl) hf
  have e7 : Tryz.prog.cellsOf 53 = 6 := by kernel_rfl
  have hcs : (Value.agg cs).cells.toList = cs.toList := rfl
  rw [hcs, e7] at hl
  rw [hcs] at hall
  obtain ⟨a, b, c, q, e, f, h7⟩ := six hl
  rw [h7] at hall
  simp only at hx
  obtain ⟨y0, m0, h0⟩ := hall 0 _ rfl
  obtain ⟨y1, m1, h1⟩ := hall 1 _ rfl
  obtain ⟨y2, m2, h2⟩ := hall 2 _ rfl
  obtain ⟨y3, m3, h3⟩ := hall 3 _ rfl
  obtain ⟨y4, m4, h4⟩ := hall 4 _ rfl
  obtain ⟨y5, m5, h5⟩ := hall 5 _ rfl
  obtain ⟨i0, k0, b0⟩ := int_in Tryz.underlying3 h0
  obtain ⟨i1, k1, b1⟩ := int_in Tryz.underlying3 h1
  obtain ⟨A2, c2, l2, k2, z2, r2, n2, b2⟩ := strs_in h2
  obtain ⟨A3, c3, l3, k3, z3, r3, n3, b3⟩ := strs_in h3
  obtain ⟨A4, c4, l4, k4, z4, r4, n4, b4, o4⟩ := bytes_in h4
  obtain ⟨i5, k5, b5⟩ := int_in Tryz.underlying3 h5
  have hle : ∀ y, y ∈ xs → Rows.uptoBulk y.1 ≤ Rows.uptoBulk d := fun y hy => by rw [hx]; exact agg_le hy
  have L2 := hle _ m2
  have L3 := hle _ m3
  have L4 := hle _ m4
  refine ⟨⟨i0, i1, l2, l3, l4, i5, A2, c2, A3, c3, A4, c4, b0, b1, ⟨r2, by omega, fun x hx => ⟨(b2 x hx).1, by have := (b2 x hx).2; omega⟩⟩, ⟨r3, by omega, fun x hx => ⟨(b3 x hx).1, by have := (b3 x hx).2; omega⟩⟩, ⟨r4, z4, by omega, b4, o4⟩, b5⟩, ?_⟩
  have h8 : cs = [a, b, c, q, e, f].toArray := by rw [← h7]
  simp at k0 k1 k2 k3 k4 k5
  unfold ResIn.val
  rw [h8, k0, k1, k2, k3, k4, k5]
end Go.Proofs.YthgojbdpmcccaaaGreatDoor.Op
end
