/- ModverOrders. -/
import Derived.Test.YtnimaenhijlcmaaDoorVn
namespace Go.Proofs.YtnimaenhijlcmaaDoor.K
open Go.RowKit Go.Proofs.YtnimaenhijlcmaaDoor.Q Go.Proofs.YtnimaenhijlcmaaDoor.Mb Go.Proofs.YtnimaenhijlcmaaDoorW.PrintWords
set_option linter.unusedVariables false
set_option linter.unusedSimpArgs false

theorem neq_bool (a : Bool) (w : World) : (binOp .neq 4 (.bool a) (.bool a)).run Tryd.prog w = .ok (.bool false) w := by
  rw [run_neq_bool w _ a a Tryd.underlying4]
  simp
theorem l_neq {P : Program} {n : Nat} {ops : Array Oper} {Q : Exit → Act → World → Prop} {rest : List Oper} {f : Fr} {w : World} {d : Option Nat} {tt : TypeId} {ps : String} {af : Array Edge} {gd : Option (Nat × Bool)} {t t2 : TypeId} {x y : Operand} {u v : Value} {b : Bool} (hw : want n ops f ⟨d, .binOp .neq t x y t2, tt, ps, af, gd⟩ = true) (hx : nf (X n f x) = some u) (hy : nf (X n f y) = some v) (hg : ∀ c1 c2 : Array Value, u ≠ .agg c1 ∨ v ≠ .agg c2) (hn : u ≠ .nilIface ∨ v ≠ .nilIface)
    (hr : (binOp .neq t u v).run P w = .ok (.bool b) w) (h : WL P ops Q rest (act n (put f d (.bool b))) w) : WL P ops Q (⟨d, .binOp .neq t x y t2, tt, ps, af, gd⟩ :: rest) (act n f) w := by
  refine l_val hw ?_ h
  have e1 := nf_eq hx
  have e2 := nf_eq hy
  have hge : (eqGuard .neq t x y u v).run P w = .ok () w := by
    unfold eqGuard
    cases u <;> cases v <;> first | rfl | (exfalso; rcases hn with h | h <;> exact h rfl) | (exfalso; rcases hg _ _ with h | h <;> exact h rfl)
  unfold execOp
  simp [← e1, ← e2, hge, hr]
set_option maxRecDepth 100000 in
set_option maxHeartbeats 4000000 in
theorem known_c {w : World} (hL : Lay w) : Calls Tryd.prog 15 #[] w fun e w' => e = .returned (.bool true) ∧ Below w.heap.size w w' := by
  have ek : checkS (bl ⟨#[97, 46, 99, 111, 109, 47, 98]⟩) (bl ⟨#[118, 49, 46, 50, 46, 51]⟩) = 0 := by decide +kernel
  have et : keyT ⟨#[97, 46, 99, 111, 109, 47, 98]⟩ ⟨#[118, 49, 46, 50, 46, 51]⟩ = ⟨#[97, 46, 99, 111, 109, 47, 98, 64, 118, 49, 46, 50, 46, 51]⟩ := by unfold keyT; rw [if_pos ek]; decide +kernel
  have ec : compareS (bl ⟨#[118, 49, 46, 50, 46, 51]⟩) (bl ⟨#[118, 49, 46, 49, 48, 46, 48]⟩) = -1 := by decide +kernel
  refine enter (args := []) Tryd.func15 rfl Tryd.ntmps15 rfl ?_
  have H := Hp.nil w
  repeat' (first | (with_reducible first | refine p_tn ?_ | refine wp_seq ?_ | refine w_reg ?_ | refine l_nil ?_) | ((with_reducible refine g_on ?_); ((with_reducible refine g_as ?_); refine l_p txs rfl rfl ?_)))
  have hk := Key_c hL ⟨#[97, 46, 99, 111, 109, 47, 98]⟩ ⟨#[118, 49, 46, 50, 46, 51]⟩
  rw [ek, et] at hk
  (with_reducible refine is_l ?_); refine l_callv rfl rfl (by kernel_rfl) hk (fun w_ K => ?_)
  have H := H.call K
  repeat' (first | (with_reducible first | refine p_tn ?_ | refine wp_seq ?_ | refine w_reg ?_ | refine l_nil ?_) | ((with_reducible refine g_on ?_); (first | ((with_reducible refine g_mv ?_); refine l_p txs rfl rfl ?_) | ((with_reducible refine g_as ?_); refine l_p txs rfl rfl ?_) | ((with_reducible refine g_ex ?_); refine l_p txs rfl rfl ?_))))
  (with_reducible refine is_l ?_); refine l_t txs rfl rfl (fun _ => ?_) (fun h => absurd rfl h)
  repeat' (first | ((with_reducible refine g_on ?_); ((with_reducible refine g_mv ?_); refine l_p txs rfl rfl ?_)) | ((with_reducible refine g_if ?_); ((with_reducible refine g_mv ?_); refine l_p txs rfl rfl ?_)))
  (with_reducible refine is_l ?_); refine l_t txs rfl rfl (fun _ => ?_) (fun h => absurd rfl h)
  repeat' ((with_reducible refine g_on ?_); (first | ((with_reducible refine g_mv ?_); refine l_p txs rfl rfl ?_) | ((with_reducible refine g_pk ?_); refine l_p txs rfl rfl ?_)))
  obtain ⟨⟨mx, hM⟩, _, _⟩ := hL
  have hc := Compare_c (H.old hM) ⟨#[118, 49, 46, 50, 46, 51]⟩ ⟨#[118, 49, 46, 49, 48, 46, 48]⟩
  rw [ec] at hc
  (with_reducible refine is_l ?_); refine l_callv rfl rfl (by kernel_rfl) hc (fun w_ K => ?_)
  have H := H.call K
  skip
  (with_reducible refine is_l ?_); refine l_t txs rfl rfl (fun _ => ?_) (fun h => absurd rfl h)
  repeat' (first | (with_reducible first | refine p_tn ?_ | refine wp_ret ?_ | refine l_nil ?_) | ((with_reducible refine g_on ?_); (first | ((with_reducible refine g_as ?_); refine l_p txs rfl rfl ?_) | ((with_reducible refine g_pk ?_); refine l_p txs rfl rfl ?_))))
  refine end1 rfl rfl ?_
  exact ⟨rfl, H.B⟩
theorem chk_two (s : L) : chkV s = 0 ∧ (∃ v, parseV s = some v) ∨ chkV s = 111 ∧ parseV s = none := by
  unfold chkV
  cases parseV s with
  | none => exact .inr ⟨rfl, rfl⟩
  | some v => exact .inl ⟨rfl, v, rfl⟩
set_option maxRecDepth 100000 in
set_option maxHeartbeats 8000000 in
theorem orders_c {w : World} (hL : Lay w) (t u v : ByteArray) :
    Calls Tryd.prog 5 #[.string t, .string u, .string v] w fun e w' => e = .returned (.bool true) ∧ Below w.heap.size w w' := by
  obtain ⟨⟨mx, hM⟩, _, _⟩ := id hL
  have r1 := ordS.range (bl t) (bl u)
  have r2 := ordS.refl (bl t)
  have r3 := ordS.anti (bl t) (bl u)
  have r4 := ordS.trans (bl t) (bl u) (bl v)
  have hlast : compareS (bl t) (bl u) = match parseV (bl t), parseV (bl u) with
    | some v, some w => cmpV v w
    | some _, none => 1
    | none, some _ => -1
    | none, none => 0 := rfl
  have hba := fun w1 hM1 => Compare_c (w := w1) (mx := mx) hM1 u t
  have haa := fun w1 hM1 => Compare_c (w := w1) (mx := mx) hM1 t t
  rw [r3] at hba
  rw [r2] at haa
  refine enter (args := [.string t, .string u, .string v]) Tryd.func5 rfl Tryd.ntmps5 rfl ?_
  have H := Hp.nil w
  repeat' (first | (with_reducible first | refine p_tn ?_ | refine wp_seq ?_ | refine w_reg ?_ | refine l_nil ?_) | ((with_reducible refine g_on ?_); (first | ((with_reducible refine g_mv ?_); refine l_p txs rfl rfl ?_) | ((with_reducible refine g_as ?_); refine l_p txs rfl rfl ?_))))
  (with_reducible refine is_l ?_); refine l_callv rfl rfl (by kernel_rfl) (Compare_c (H.old hM) t u) (fun w_ K => ?_)
  have H := H.call K
  repeat' (first | (with_reducible first | refine p_tn ?_ | refine wp_seq ?_ | refine w_reg ?_ | refine l_nil ?_) | ((with_reducible refine g_on ?_); (first | ((with_reducible refine g_mv ?_); refine l_p txs rfl rfl ?_) | ((with_reducible refine g_as ?_); refine l_p txs rfl rfl ?_))))
  (with_reducible refine is_l ?_); refine l_callv rfl rfl (by kernel_rfl) (Compare_c (H.old hM) u v) (fun w_ K => ?_)
  have H := H.call K
  repeat' (first | (with_reducible first | refine p_tn ?_ | refine wp_seq ?_ | refine w_reg ?_ | refine l_nil ?_) | ((with_reducible refine g_on ?_); (first | ((with_reducible refine g_mv ?_); refine l_p txs rfl rfl ?_) | ((with_reducible refine g_as ?_); refine l_p txs rfl rfl ?_))))
  (with_reducible refine is_l ?_); refine l_callv rfl rfl (by kernel_rfl) (Compare_c (H.old hM) t v) (fun w_ K => ?_)
  have H := H.call K
  generalize compareS (bl t) (bl u) = x at r1 r3 r4 hlast hba ⊢
  generalize compareS (bl u) (bl v) = y at r4 ⊢
  generalize compareS (bl t) (bl v) = z at r4 ⊢
  repeat' (first | (with_reducible first | refine p_tn ?_ | refine wp_seq ?_ | refine w_reg ?_ | refine l_nil ?_) | ((with_reducible refine g_on ?_); ((with_reducible refine g_as ?_); refine l_p txs rfl rfl ?_)))
  (with_reducible refine is_l ?_); refine l_callv rfl rfl (by kernel_rfl) (known_c (hL.below H.B)) (fun w_ K => ?_)
  have H := H.call K
  repeat' (first | ((with_reducible refine g_on ?_); (first | ((with_reducible refine g_mv ?_); refine l_p txs rfl rfl ?_) | ((with_reducible refine g_un ?_); (refine l_p txs rfl rfl ?_)))) | ((with_reducible refine g_if ?_); ((with_reducible refine g_mv ?_); refine l_p txs rfl rfl ?_)))
  (with_reducible refine is_l ?_); refine l_callv rfl rfl (by kernel_rfl) (haa _ (H.old hM)) (fun w_ K => ?_)
  have H := H.call K
  skip
  (with_reducible refine is_l ?_); refine l_t txs rfl rfl (fun h => absurd rfl h) (fun _ => ?_)
  repeat' (first | ((with_reducible refine g_on ?_); (first | ((with_reducible refine g_mv ?_); refine l_p txs rfl rfl ?_) | ((with_reducible refine g_pk ?_); refine l_p txs rfl rfl ?_))) | ((with_reducible refine g_if ?_); ((with_reducible refine g_mv ?_); refine l_p txs rfl rfl ?_)))
  (with_reducible refine is_l ?_); refine l_callv rfl rfl (by kernel_rfl) (hba _ (H.old hM)) (fun w_ K => ?_)
  have H := H.call K
  repeat' ((with_reducible refine g_if ?_); (first | ((with_reducible refine g_mv ?_); refine l_p txs rfl rfl ?_) | ((with_reducible refine g_un ?_); (refine l_a txs rfl rfl (by first | exact in_i64 (by omega) (by omega) | exact in_u8 (by omega) (by omega) | exact in_u64 (by omega) (by omega) | exact in_i32 (by omega) (by omega)) ?_))))
  (with_reducible refine is_l ?_); refine l_t txs rfl rfl (fun h => ?_) (fun _ => ?_)
  · exfalso
    omega
  repeat' (first | ((with_reducible refine g_on ?_); (first | ((with_reducible refine g_mv ?_); refine l_p txs rfl rfl ?_) | ((with_reducible refine g_pk ?_); refine l_p txs rfl rfl ?_))) | ((with_reducible refine g_if ?_); ((with_reducible refine g_mv ?_); refine l_p txs rfl rfl ?_)))
  (with_reducible refine is_l ?_); refine l_t txs rfl rfl (fun h => ?_) (fun _ => ?_)
  · omega
  repeat' (first | ((with_reducible refine g_on ?_); (first | ((with_reducible refine g_mv ?_); refine l_p txs rfl rfl ?_) | ((with_reducible refine g_pk ?_); refine l_p txs rfl rfl ?_))) | ((with_reducible refine g_if ?_); ((with_reducible refine g_mv ?_); refine l_p txs rfl rfl ?_)))
  (with_reducible refine is_l ?_); refine l_t txs rfl rfl (fun h => ?_) (fun _ => ?_)
  · omega
  repeat' (first | (with_reducible first | refine p_tn ?_ | refine wp_seq ?_ | refine w_reg ?_) | (with_reducible (refine is_if ?_; (refine w_iff rfl ?_))) | (with_reducible first | refine wp_skip ?_ | refine l_nil ?_) | ((with_reducible refine g_on ?_); (first | ((with_reducible refine g_mv ?_); refine l_p txs rfl rfl ?_) | ((with_reducible refine g_pk ?_); refine l_p txs rfl rfl ?_))))
  (with_reducible refine is_l ?_); refine l_t txs rfl rfl (fun hx => ?_) (fun hx => ?_)
  repeat' (first | (with_reducible first | refine p_tn ?_ | refine wp_seq ?_ | refine w_reg ?_) | (with_reducible (refine is_if ?_; (refine w_iff rfl ?_))) | (with_reducible first | refine wp_skip ?_ | refine l_nil ?_) | ((with_reducible refine g_on ?_); (first | ((with_reducible refine g_mv ?_); refine l_p txs rfl rfl ?_) | ((with_reducible refine g_pk ?_); refine l_p txs rfl rfl ?_))) | ((with_reducible refine g_if ?_); (first | (refine l_off rfl ?_) | ((with_reducible refine g_mv ?_); refine l_p txs rfl rfl ?_))))
  (with_reducible refine is_l ?_); refine l_t txs rfl rfl (fun hy => ?_) (fun hy => ?_)
  have r4 := r4 hx hy
  repeat' (first | (with_reducible first | refine p_tn ?_ | refine wp_seq ?_ | refine w_reg ?_) | (with_reducible (refine is_if ?_; (refine w_iff rfl ?_))) | (with_reducible first | refine wp_skip ?_ | refine l_nil ?_) | ((with_reducible refine g_on ?_); (first | ((with_reducible refine g_mv ?_); refine l_p txs rfl rfl ?_) | ((with_reducible refine g_pk ?_); refine l_p txs rfl rfl ?_))) | ((with_reducible refine g_if ?_); (first | (refine l_off rfl ?_) | ((with_reducible refine g_mv ?_); refine l_p txs rfl rfl ?_))))
  (with_reducible refine is_l ?_); refine l_t txs rfl rfl (fun hz => absurd hz (by omega)) (fun _ => ?_)
  repeat' ((with_reducible refine g_if ?_); ((with_reducible refine g_mv ?_); refine l_p txs rfl rfl ?_))
  (with_reducible refine is_l ?_); refine l_t txs rfl rfl (fun hz => ?_) (fun hz => ?_)
  repeat' ((with_reducible refine g_if ?_); ((with_reducible refine g_mv ?_); refine l_p txs rfl rfl ?_))
  (with_reducible refine is_l ?_); refine l_t txs rfl rfl (fun _ => ?_) (fun h => absurd (show x = 0 by omega) h)
  repeat' ((with_reducible refine g_if ?_); ((with_reducible refine g_mv ?_); refine l_p txs rfl rfl ?_))
  (with_reducible refine is_l ?_); refine l_t txs rfl rfl (fun _ => ?_) (fun h => absurd (show y = 0 by omega) h)
  repeat' ((with_reducible refine g_if ?_); ((with_reducible refine g_pk ?_); refine l_p txs rfl rfl ?_))
  (with_reducible refine is_l ?_); refine l_neq rfl rfl rfl (fun _ _ => .inl (by simp)) (.inl (by simp)) (neq_bool true _) ?_
  rotate_left
  repeat' (first | (with_reducible first | refine p_tn ?_ | refine wp_seq ?_ | refine w_reg ?_) | (with_reducible (refine is_if ?_; (refine w_iff rfl ?_))) | (with_reducible first | refine wp_skip ?_ | refine l_nil ?_) | ((with_reducible refine g_on ?_); (first | ((with_reducible refine g_mv ?_); refine l_p txs rfl rfl ?_) | ((with_reducible refine g_pk ?_); refine l_p txs rfl rfl ?_))) | ((with_reducible refine g_if ?_); ((with_reducible refine g_pk ?_); refine l_p txs rfl rfl ?_)))
  (with_reducible refine is_l ?_); refine l_t txs rfl rfl (fun hx0 => ?_) (fun hx0 => ?_)
  repeat' ((with_reducible refine g_if ?_); (first | (refine l_off rfl ?_) | ((with_reducible refine g_mv ?_); refine l_p txs rfl rfl ?_) | ((with_reducible refine g_pk ?_); refine l_p txs rfl rfl ?_)))
  (with_reducible refine is_l ?_); refine l_t txs rfl rfl (fun (h : y = 0) => absurd h (by omega)) (fun _ => ?_)
  repeat' ((with_reducible refine g_if ?_); ((with_reducible refine g_pk ?_); refine l_p txs rfl rfl ?_))
  (with_reducible refine is_l ?_); refine l_neq rfl rfl rfl (fun _ _ => .inl (by simp)) (.inl (by simp)) (neq_bool false _) ?_
  rotate_left
  repeat' (first | (with_reducible first | refine p_tn ?_ | refine wp_seq ?_ | refine w_reg ?_) | (with_reducible (refine is_if ?_; (refine w_iff rfl ?_))) | (with_reducible first | refine wp_skip ?_ | refine l_nil ?_) | ((with_reducible refine g_on ?_); (first | ((with_reducible refine g_mv ?_); refine l_p txs rfl rfl ?_) | ((with_reducible refine g_pk ?_); refine l_p txs rfl rfl ?_))) | ((with_reducible refine g_if ?_); ((with_reducible refine g_pk ?_); refine l_p txs rfl rfl ?_)))
  (with_reducible refine is_l ?_); refine l_neq rfl rfl rfl (fun _ _ => .inl (by simp)) (.inl (by simp)) (neq_bool false _) ?_
  all_goals
    have c1 := fun w1 hM1 => checkVersion_c (w := w1) (mx := mx) hM1 t
    have c2 := fun w1 hM1 => checkVersion_c (w := w1) (mx := mx) hM1 u
    have e1 := chk_two (bl t)
    have e2 := chk_two (bl u)
    generalize chkV (bl t) = p at c1 e1
    generalize chkV (bl u) = q at c2 e2
    repeat' (first | (with_reducible first | refine p_tn ?_ | refine wp_seq ?_ | refine w_reg ?_) | (with_reducible (refine is_if ?_; (refine w_iff rfl ?_))) | (with_reducible first | refine wp_skip ?_ | refine l_nil ?_) | ((with_reducible refine g_on ?_); (first | ((with_reducible refine g_mv ?_); refine l_p txs rfl rfl ?_) | ((with_reducible refine g_pk ?_); refine l_p txs rfl rfl ?_))) | ((with_reducible refine g_if ?_); ((with_reducible refine g_pk ?_); refine l_p txs rfl rfl ?_)))
    (with_reducible refine is_l ?_); refine l_callv rfl rfl (by kernel_rfl) (c1 _ (H.old hM)) (fun w_ K => ?_)
    have H := H.call K
    skip
    rcases e1 with ⟨hp, v1, e1⟩ | ⟨hp, e1⟩
    all_goals
      subst hp
      (with_reducible refine is_l ?_); refine l_t txs rfl rfl (fun hk => ?_) (fun hk => ?_)
      first
      | exact absurd hk (by decide)
      | rotate_left
      first
      | exact absurd hk (by decide)
      | skip
      repeat' (first | (with_reducible first | refine p_tn ?_ | refine wp_seq ?_ | refine w_reg ?_ | refine l_nil ?_) | ((with_reducible refine g_on ?_); (first | ((with_reducible refine g_mv ?_); refine l_p txs rfl rfl ?_) | ((with_reducible refine g_as ?_); refine l_p txs rfl rfl ?_))))
      (with_reducible refine is_l ?_); refine l_callv rfl rfl (by kernel_rfl) (c2 _ (H.old hM)) (fun w_ K => ?_)
      have H := H.call K
      skip
      rcases e2 with ⟨hq, v2, e2⟩ | ⟨hq, e2⟩
      all_goals
        subst hq
        rw [e1, e2] at hlast
        (with_reducible refine is_l ?_); refine l_t txs rfl rfl (fun hk => ?_) (fun hk => ?_)
        first
        | exact absurd hk (by decide)
        | rotate_left
        first
        | exact absurd hk (by decide)
        | skip
        first
        | (have hxv : x = cmpV v1 v2 := hlast
           clear hxv)
        | (have hxv : x = 1 := hlast
           subst hxv)
        | (have hxv : x = -1 := hlast
           subst hxv)
        | (have hxv : x = 0 := hlast
           subst hxv)
        repeat' (first | (with_reducible first | refine p_tn ?_ | refine p_bn ?_ | refine wp_seq ?_ | refine wp_block ?_ | refine w_reg ?_) | (with_reducible (refine is_if ?_; (first | (refine w_ift rfl ?_) | (refine w_iff rfl ?_)))) | (with_reducible first | refine wp_skip ?_ | refine wp_ret ?_ | refine l_nil ?_) | ((with_reducible refine g_on ?_); (first | ((with_reducible refine g_mv ?_); refine l_p txs rfl rfl ?_) | ((with_reducible refine g_as ?_); refine l_p txs rfl rfl ?_) | ((with_reducible refine g_pk ?_); refine l_p txs rfl rfl ?_) | ((with_reducible refine g_un ?_); (refine l_p txs rfl rfl ?_)))) | ((with_reducible refine g_if ?_); (first | (refine l_off rfl ?_) | ((with_reducible refine g_mv ?_); refine l_p txs rfl rfl ?_) | ((with_reducible refine g_un ?_); (refine l_p txs rfl rfl ?_)))))
        first
        | ((with_reducible refine is_l ?_); refine l_t txs rfl rfl (fun _ => ?_) (fun h => absurd rfl h))
        | skip
        repeat' (first | (with_reducible first | refine p_tn ?_ | refine p_tr ?_ | refine p_br ?_ | refine wp_ret ?_ | refine l_nil ?_) | ((with_reducible refine g_on ?_); ((with_reducible refine g_as ?_); refine l_p txs rfl rfl ?_)))
        refine end1 rfl rfl ?_
        exact ⟨rfl, H.B⟩
end Go.Proofs.YtnimaenhijlcmaaDoor.K
