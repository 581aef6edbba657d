/- Each: the text boxed, the function value over the box. -/
import Derived.Test.YtljinjgamgmocaaPb
namespace Go.Proofs.Ytljinjgamgmocaa.K
open Go.RowKit Go.Proofs.Ytljinjgamgmocaa.Q Go.Proofs.Ytljinjgamgmocaa.Mb Go.Proofs.YtljinjgamgmocaaW.PrintWords
set_option linter.unusedVariables false
set_option linter.unusedSimpArgs false
section
variable {P : Program} {n : Nat} {ops : Array Oper} {Q : Exit → Act → World → Prop} {rest : List Oper} {f : Fr} {w : World} {d : Option Nat} {op : Op} {tt : TypeId} {ps : String} {af : Array Edge} {gd : Option (Nat × Bool)}
theorem l_valw {v : Value} {w' : World} (hw : want n ops f ⟨d, op, tt, ps, af, gd⟩ = true) (hv : (execOp (X n f) ⟨d, op, tt, ps, af, gd⟩).run P w = .ok (.value v) w') (h : WL P ops Q rest (act n (put f d v)) w') : WL P ops Q (⟨d, op, tt, ps, af, gd⟩ :: rest) (act n f) w := by
  refine ⟨?_⟩
  have h := h.out
  simp only [wpList, want_eq, hw, if_true]
  left
  unfold Oper.wp
  rw [eval_act, hv]
  simp only [Oper.upon, put_act]
  exact h
theorem l_box {t : TypeId} {x : Operand} {v : Value} (hw : want n ops f ⟨d, .box t x, tt, ps, af, gd⟩ = true) (hx : X n f x = v)
    (h : WL P ops Q rest (act n (put f d (.pointer (some ⟨w.heap.size, 0, none⟩)))) (w.alloc (.cells v.cells t))) : WL P ops Q (⟨d, .box t x, tt, ps, af, gd⟩ :: rest) (act n f) w := by
  refine l_valw hw ?_ h
  have : (Instr.box t v).run P w = .ok (.pointer (some ⟨w.heap.size, 0, none⟩)) (w.alloc (.cells v.cells t)) := by
    simp [Instr.box, newVar, newRow, go_sem]
  unfold execOp
  simp [hx, this]
theorem l_mkf {g : FuncId} {y : Operand} {v : Value} (hw : want n ops f ⟨d, .makeFunc (.func g) #[] #[y], tt, ps, af, gd⟩ = true) (hy : X n f y = v)
    (h : WL P ops Q rest (act n (put f d (.func (.func g) #[] #[v]))) w) : WL P ops Q (⟨d, .makeFunc (.func g) #[] #[y], tt, ps, af, gd⟩ :: rest) (act n f) w := by
  refine l_valw hw ?_ h
  unfold execOp
  simp [hy, Instr.makeFunc, go_sem]
end
theorem new_cell (w : World) (t : TypeId) (cs : Array Value) (j : Nat) : (w.alloc (.cells cs t)).cell? ⟨w.heap.size, j, none⟩ = cs[j]? := cell_of_row _ _ _ cs t (0, 0) (heap_alloc_new w _)
set_option maxRecDepth 100000 in
set_option maxHeartbeats 8000000 in
theorem each_c (s : L) (hs : Bytes s) (hl : s.length ≤ 1048576) (w : World) :
    Calls Try.prog 10 #[.string (strOfNums s)] w fun e w' => e = .returned (.func (.func 13) #[] #[.pointer (some ⟨w.heap.size, 0, none⟩)]) ∧ w' = w.alloc (.cells (Value.string (strOfNums s)).cells 9) := by
  refine enter (args := [.string (strOfNums s)]) Try.func10 rfl Try.ntmps10 rfl ?_
  repeat' (with_reducible first | refine wp_seq ?_ | refine w_reg ?_)
  (with_reducible refine is_l ?_); refine l_box (v := .string (strOfNums s)) rfl rfl ?_
  repeat' (first | (first | (first | (with_reducible refine p_tn ?_) | (with_reducible refine p_tx ?_) | (with_reducible refine p_tr ?_) | (with_reducible refine p_bn ?_) | (with_reducible refine p_br ?_) | (with_reducible refine x_hit ?_) | (with_reducible refine x_miss rfl ?_) | (with_reducible refine wp_seq ?_) | (with_reducible refine wp_block ?_) | (with_reducible refine w_reg ?_) | (with_reducible (refine is_if ?_; first | refine w_ift rfl ?_ | refine w_iff rfl ?_)) | ((with_reducible refine is_if ?_); first | refine w_ift rfl ?_ | refine w_iff rfl ?_) | (with_reducible refine wp_skip ?_) | (with_reducible refine wp_exit ?_) | (with_reducible refine wp_ret ?_)) | (with_reducible refine p_sn ?_) | (with_reducible refine p_sr ?_) | (with_reducible refine p_sx ?_) | (with_reducible refine wp_scope_straight ?_) | (with_reducible refine wp_label ?_)) | (first | (with_reducible refine l_nil ?_) | ((with_reducible refine g_on ?_); ((with_reducible refine g_as ?_); refine l_p txs rfl rfl ?_))))
  (with_reducible refine is_l ?_); refine l_ld txs rfl rfl (new_cell w _ _ 0) ?_
  repeat' (first | (first | (first | (with_reducible refine p_tn ?_) | (with_reducible refine p_tx ?_) | (with_reducible refine p_tr ?_) | (with_reducible refine p_bn ?_) | (with_reducible refine p_br ?_) | (with_reducible refine x_hit ?_) | (with_reducible refine x_miss rfl ?_) | (with_reducible refine wp_seq ?_) | (with_reducible refine wp_block ?_) | (with_reducible refine w_reg ?_) | (with_reducible (refine is_if ?_; first | refine w_ift rfl ?_ | refine w_iff rfl ?_)) | ((with_reducible refine is_if ?_); first | refine w_ift rfl ?_ | refine w_iff rfl ?_) | (with_reducible refine wp_skip ?_) | (with_reducible refine wp_exit ?_) | (with_reducible refine wp_ret ?_)) | (with_reducible refine p_sn ?_) | (with_reducible refine p_sr ?_) | (with_reducible refine p_sx ?_) | (with_reducible refine wp_scope_straight ?_) | (with_reducible refine wp_label ?_)) | ((with_reducible refine g_on ?_); ((with_reducible refine g_cl ?_); refine l_p txs rfl rfl ?_)))
  (with_reducible refine is_l ?_); refine l_t txs rfl rfl (fun h1 => ?_) (fun h1 => ?_)
  · exact absurd h1 (by simp only [← bl_length, blS hs]; omega)
  repeat' (first | (first | (first | (with_reducible refine p_tn ?_) | (with_reducible refine p_tx ?_) | (with_reducible refine p_tr ?_) | (with_reducible refine p_bn ?_) | (with_reducible refine p_br ?_) | (with_reducible refine x_hit ?_) | (with_reducible refine x_miss rfl ?_) | (with_reducible refine wp_seq ?_) | (with_reducible refine wp_block ?_) | (with_reducible refine w_reg ?_) | (with_reducible (refine is_if ?_; first | refine w_ift rfl ?_ | refine w_iff rfl ?_)) | ((with_reducible refine is_if ?_); first | refine w_ift rfl ?_ | refine w_iff rfl ?_) | (with_reducible refine wp_skip ?_) | (with_reducible refine wp_exit ?_) | (with_reducible refine wp_ret ?_)) | (with_reducible refine p_sn ?_) | (with_reducible refine p_sr ?_) | (with_reducible refine p_sx ?_) | (with_reducible refine wp_scope_straight ?_) | (with_reducible refine wp_label ?_)) | (with_reducible refine l_nil ?_))
  (with_reducible refine is_l ?_); refine l_mkf rfl rfl ?_
  repeat' (first | (first | (first | (with_reducible refine p_tn ?_) | (with_reducible refine p_tx ?_) | (with_reducible refine p_tr ?_) | (with_reducible refine p_bn ?_) | (with_reducible refine p_br ?_) | (with_reducible refine x_hit ?_) | (with_reducible refine x_miss rfl ?_) | (with_reducible refine wp_seq ?_) | (with_reducible refine wp_block ?_) | (with_reducible refine w_reg ?_) | (with_reducible (refine is_if ?_; first | refine w_ift rfl ?_ | refine w_iff rfl ?_)) | ((with_reducible refine is_if ?_); first | refine w_ift rfl ?_ | refine w_iff rfl ?_) | (with_reducible refine wp_skip ?_) | (with_reducible refine wp_exit ?_) | (with_reducible refine wp_ret ?_)) | (with_reducible refine p_sn ?_) | (with_reducible refine p_sr ?_) | (with_reducible refine p_sx ?_) | (with_reducible refine wp_scope_straight ?_) | (with_reducible refine wp_label ?_)) | (first | (with_reducible refine l_nil ?_) | ((with_reducible refine g_on ?_); ((with_reducible refine g_as ?_); refine l_p txs rfl rfl ?_))))
  refine end1 rfl rfl ?_
  exact ⟨rfl, rfl⟩
end Go.Proofs.Ytljinjgamgmocaa.K
