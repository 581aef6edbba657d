/- ModverOrders. -/
import Derived.Test.YtnimaenhijlcmaaGreatDoorVn
namespace Go.Proofs.YtnimaenhijlcmaaGreatDoor.K
open Go.RowKit Go.Proofs.YtnimaenhijlcmaaGreatDoor.Q Go.Proofs.YtnimaenhijlcmaaGreatDoor.Mb Go.Proofs.YtnimaenhijlcmaaGreatDoorW.PrintWords
set_option linter.unusedVariables false
set_option linter.unusedSimpArgs false

theorem neq_bool (a : Bool) (w : World) : (binOp .neq 4 (.bool a) (.bool a)).run Tryz.prog w = .ok (.bool false) w := by
  rw [run_neq_bool w _ a a Tryz.underlying4]
  simp
theorem l_neq {P : Program} {n : Nat} {ops : Array Oper} {Q : Exit → Act → World → Prop} {rest : List Oper} {f : Fr} {w : World} {d : Option Nat} {tt : TypeId} {ps : String} {af : Array Edge} {gd : Option (Nat × Bool)} {t t2 : TypeId} {x y : Operand} {u v : Value} {b : Bool} (hw : want n ops f ⟨d, .binOp .neq t x y t2, tt, ps, af, gd⟩ = true) (hx : nf (X n f x) = some u) (hy : nf (X n f y) = some v) (hg : ∀ c1 c2 : Array Value, u ≠ .agg c1 ∨ v ≠ .agg c2) (hn : u ≠ .nilIface ∨ v ≠ .nilIface)
    (hr : (binOp .neq t u v).run P w = .ok (.bool b) w) (h : WL P ops Q rest (act n (put f d (.bool b))) w) : WL P ops Q (⟨d, .binOp .neq t x y t2, tt, ps, af, gd⟩ :: rest) (act n f) w := by
  refine l_val hw ?_ h
  have e1 := nf_eq hx
  have e2 := nf_eq hy
  have hge : (eqGuard .neq t x y u v).run P w = .ok () w := by
    unfold eqGuard
    cases u <;> cases v <;> first | rfl | (exfalso; rcases hn with h | h <;> exact h rfl) | (exfalso; rcases hg _ _ with h | h <;> exact h rfl)
  unfold execOp
  simp [← e1, ← e2, hge, hr]
set_option maxRecDepth 100000 in
set_option maxHeartbeats 4000000 in
theorem known_c {w : World} (hL : Lay w) : Calls Tryz.prog 9 #[] w fun e w' => e = .returned (.bool true) ∧ Below w.heap.size w w' := by
  have ek : checkS (bl ⟨#[97, 46, 99, 111, 109, 47, 98]⟩) (bl ⟨#[118, 49, 46, 50, 46, 51]⟩) = 0 := by decide +kernel
  have et : keyT ⟨#[97, 46, 99, 111, 109, 47, 98]⟩ ⟨#[118, 49, 46, 50, 46, 51]⟩ = ⟨#[97, 46, 99, 111, 109, 47, 98, 64, 118, 49, 46, 50, 46, 51]⟩ := by unfold keyT; rw [if_pos ek]; decide +kernel
  have ec : compareS (bl ⟨#[118, 49, 46, 50, 46, 51]⟩) (bl ⟨#[118, 49, 46, 49, 48, 46, 48]⟩) = -1 := by decide +kernel
  refine enter (args := []) Tryz.func9 rfl Tryz.ntmps9 rfl ?_
  have H := Hp.nil w
  repeat' (first | (with_reducible first | refine p_tn ?_ | refine wp_seq ?_ | refine w_reg ?_ | refine l_nil ?_) | ((with_reducible refine g_on ?_); ((with_reducible refine g_as ?_); refine l_p txs rfl rfl ?_)))
  have hk := Key_c hL ⟨#[97, 46, 99, 111, 109, 47, 98]⟩ ⟨#[118, 49, 46, 50, 46, 51]⟩
  rw [ek, et] at hk
  (with_reducible refine is_l ?_); refine l_callv rfl rfl (by kernel_rfl) hk (fun w_ K => ?_)
  have H := H.call K
  repeat' (first | (with_reducible first | refine p_tn ?_ | refine wp_seq ?_ | refine w_reg ?_ | refine l_nil ?_) | ((with_reducible refine g_on ?_); (first | ((with_reducible refine g_mv ?_); refine l_p txs rfl rfl ?_) | ((with_reducible refine g_as ?_); refine l_p txs rfl rfl ?_) | ((with_reducible refine g_ex ?_); refine l_p txs rfl rfl ?_))))
  (with_reducible refine is_l ?_); refine l_t txs rfl rfl (fun _ => ?_) (fun h => absurd rfl h)
  repeat' (first | ((with_reducible refine g_on ?_); ((with_reducible refine g_mv ?_); refine l_p txs rfl rfl ?_)) | ((with_reducible refine g_if ?_); ((with_reducible refine g_mv ?_); refine l_p txs rfl rfl ?_)))
  (with_reducible refine is_l ?_); refine l_t txs rfl rfl (fun _ => ?_) (fun h => absurd rfl h)
  repeat' ((with_reducible refine g_on ?_); (first | ((with_reducible refine g_mv ?_); refine l_p txs rfl rfl ?_) | ((with_reducible refine g_pk ?_); refine l_p txs rfl rfl ?_)))
  obtain ⟨⟨mx, hM⟩, _, _⟩ := hL
  have hc := Compare_c (H.old hM) ⟨#[118, 49, 46, 50, 46, 51]⟩ ⟨#[118, 49, 46, 49, 48, 46, 48]⟩
  rw [ec] at hc
  (with_reducible refine is_l ?_); refine l_callv rfl rfl (by kernel_rfl) hc (fun w_ K => ?_)
  have H := H.call K
  skip
  (with_reducible refine is_l ?_); refine l_t txs rfl rfl (fun _ => ?_) (fun h => absurd rfl h)
  repeat' (first | (with_reducible first | refine p_tn ?_ | refine wp_ret ?_ | refine l_nil ?_) | ((with_reducible refine g_on ?_); (first | ((with_reducible refine g_as ?_); refine l_p txs rfl rfl ?_) | ((with_reducible refine g_pk ?_); refine l_p txs rfl rfl ?_))))
  refine end1 rfl rfl ?_
  exact ⟨rfl, H.B⟩
end Go.Proofs.YtnimaenhijlcmaaGreatDoor.K
