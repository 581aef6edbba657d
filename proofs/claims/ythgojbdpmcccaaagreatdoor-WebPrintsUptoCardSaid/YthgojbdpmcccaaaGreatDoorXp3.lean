/- Joined texts of mine, 3: Wk, Wn, Xf, Xg, Xh, Xi, Xj, Xk, Xl, Xm, Xo. -/
import Derived.LaidEql
import Derived.Laws.StructEq
import Derived.Test.YthgojbdpmcccaaaGreatDoorXp2
section
namespace Go.Proofs.YthgojbdpmcccaaaGreatDoor.K
open Go.RowKit Go.Proofs.YthgojbdpmcccaaaGreatDoor.Q Go.Proofs.YthgojbdpmcccaaaGreatDoor.Wb Go.Proofs.YthgojbdpmcccaaaGreatDoorW.PrintWords
set_option linter.unusedVariables false
set_option linter.unusedSimpArgs false
set_option maxHeartbeats 2000000 in
theorem number_3 {A : Nat → Addr} {w : World} (h : LayS A w) : Calls Tryz.prog 52 #[errV (A 3)] w fun e w' => e = .returned (.int .i64 1) ∧ w' = w := by
  refine enter (args := [errV (A 3)]) Tryz.func52 rfl Tryz.ntmps52 rfl ?_
  repeat' (first | (with_reducible first | refine p_tn ?_ | refine wp_seq ?_ | refine wp_block ?_ | refine w_reg ?_ | refine l_nil ?_) | (with_reducible (refine is_l ?_; (refine l_p tys rfl rfl ?_))))
  (with_reducible refine is_l ?_); refine l_t tys rfl rfl (fun h => h.elim) (fun _ => ?_)
  repeat' (first | (with_reducible first | refine p_tn ?_ | refine wp_seq ?_ | refine w_reg ?_) | (with_reducible (refine is_if ?_; (refine w_iff rfl ?_))) | (with_reducible refine l_nil ?_) | (with_reducible (refine is_l ?_; (refine l_p tys rfl rfl ?_))))
  (with_reducible refine is_l ?_); refine l_ld tys rfl rfl (h.sent 3 (by decide) (by decide)).cell ?_
  (with_reducible refine is_l ?_); refine l_callp rfl rfl (by kernel_rfl) (Is.is_same (A 3) w) ?_
  repeat' (first | (with_reducible first | refine p_tn ?_ | refine p_tr ?_ | refine p_br ?_ | refine wp_seq ?_ | refine w_reg ?_) | (with_reducible (refine is_if ?_; (refine w_ift rfl ?_))) | (with_reducible first | refine wp_ret ?_ | refine l_nil ?_) | (with_reducible (refine is_l ?_; (refine l_p tys rfl rfl ?_))))
  refine end1 rfl rfl ?_
  exact ⟨rfl, rfl⟩
set_option maxHeartbeats 2000000 in
theorem number_4 {A : Nat → Addr} {w : World} (h : LayS A w) : Calls Tryz.prog 52 #[errV (A 4)] w fun e w' => e = .returned (.int .i64 2) ∧ w' = w := by
  refine enter (args := [errV (A 4)]) Tryz.func52 rfl Tryz.ntmps52 rfl ?_
  repeat' (first | (with_reducible first | refine p_tn ?_ | refine wp_seq ?_ | refine wp_block ?_ | refine w_reg ?_ | refine l_nil ?_) | (with_reducible (refine is_l ?_; (refine l_p tys rfl rfl ?_))))
  (with_reducible refine is_l ?_); refine l_t tys rfl rfl (fun h => h.elim) (fun _ => ?_)
  repeat' (first | (with_reducible first | refine p_tn ?_ | refine wp_seq ?_ | refine w_reg ?_) | (with_reducible (refine is_if ?_; (refine w_iff rfl ?_))) | (with_reducible refine l_nil ?_) | (with_reducible (refine is_l ?_; (refine l_p tys rfl rfl ?_))))
  (with_reducible refine is_l ?_); refine l_ld tys rfl rfl (h.sent 3 (by decide) (by decide)).cell ?_
  (with_reducible refine is_l ?_); refine l_callp rfl rfl (by kernel_rfl) (is_not h (g := 4) (k := 3) (by decide) (by decide) (by decide) (by decide) (by decide)) ?_
  repeat' (first | (with_reducible first | refine p_tn ?_ | refine wp_seq ?_ | refine w_reg ?_) | (with_reducible (refine is_if ?_; (refine w_iff rfl ?_))) | (with_reducible refine l_nil ?_) | (with_reducible (refine is_l ?_; (refine l_p tys rfl rfl ?_))))
  (with_reducible refine is_l ?_); refine l_ld tys rfl rfl (h.sent 4 (by decide) (by decide)).cell ?_
  (with_reducible refine is_l ?_); refine l_callp rfl rfl (by kernel_rfl) (Is.is_same (A 4) w) ?_
  repeat' (first | (with_reducible first | refine p_tn ?_ | refine p_tr ?_ | refine p_br ?_ | refine wp_seq ?_ | refine w_reg ?_) | (with_reducible (refine is_if ?_; (refine w_ift rfl ?_))) | (with_reducible first | refine wp_ret ?_ | refine l_nil ?_) | (with_reducible (refine is_l ?_; (refine l_p tys rfl rfl ?_))))
  refine end1 rfl rfl ?_
  exact ⟨rfl, rfl⟩
set_option maxHeartbeats 2000000 in
theorem number_5 {A : Nat → Addr} {w : World} (h : LayS A w) : Calls Tryz.prog 52 #[errV (A 5)] w fun e w' => e = .returned (.int .i64 140) ∧ w' = w := by
  refine enter (args := [errV (A 5)]) Tryz.func52 rfl Tryz.ntmps52 rfl ?_
  repeat' (first | (with_reducible first | refine p_tn ?_ | refine wp_seq ?_ | refine wp_block ?_ | refine w_reg ?_ | refine l_nil ?_) | (with_reducible (refine is_l ?_; (refine l_p tys rfl rfl ?_))))
  (with_reducible refine is_l ?_); refine l_t tys rfl rfl (fun h => h.elim) (fun _ => ?_)
  repeat' (first | (with_reducible first | refine p_tn ?_ | refine wp_seq ?_ | refine w_reg ?_) | (with_reducible (refine is_if ?_; (refine w_iff rfl ?_))) | (with_reducible refine l_nil ?_) | (with_reducible (refine is_l ?_; (refine l_p tys rfl rfl ?_))))
  (with_reducible refine is_l ?_); refine l_ld tys rfl rfl (h.sent 3 (by decide) (by decide)).cell ?_
  (with_reducible refine is_l ?_); refine l_callp rfl rfl (by kernel_rfl) (is_not h (g := 5) (k := 3) (by decide) (by decide) (by decide) (by decide) (by decide)) ?_
  repeat' (first | (with_reducible first | refine p_tn ?_ | refine wp_seq ?_ | refine w_reg ?_) | (with_reducible (refine is_if ?_; (refine w_iff rfl ?_))) | (with_reducible refine l_nil ?_) | (with_reducible (refine is_l ?_; (refine l_p tys rfl rfl ?_))))
  (with_reducible refine is_l ?_); refine l_ld tys rfl rfl (h.sent 4 (by decide) (by decide)).cell ?_
  (with_reducible refine is_l ?_); refine l_callp rfl rfl (by kernel_rfl) (is_not h (g := 5) (k := 4) (by decide) (by decide) (by decide) (by decide) (by decide)) ?_
  repeat' (first | (with_reducible first | refine p_tn ?_ | refine wp_seq ?_ | refine w_reg ?_) | (with_reducible (refine is_if ?_; (refine w_iff rfl ?_))) | (with_reducible refine l_nil ?_) | (with_reducible (refine is_l ?_; (refine l_p tys rfl rfl ?_))))
  (with_reducible refine is_l ?_); refine l_ld tys rfl rfl (h.sent 5 (by decide) (by decide)).cell ?_
  (with_reducible refine is_l ?_); refine l_callp rfl rfl (by kernel_rfl) (Is.is_same (A 5) w) ?_
  repeat' (first | (with_reducible first | refine p_tn ?_ | refine p_tr ?_ | refine p_br ?_ | refine wp_seq ?_ | refine w_reg ?_) | (with_reducible (refine is_if ?_; (refine w_ift rfl ?_))) | (with_reducible first | refine wp_ret ?_ | refine l_nil ?_) | (with_reducible (refine is_l ?_; (refine l_p tys rfl rfl ?_))))
  refine end1 rfl rfl ?_
  exact ⟨rfl, rfl⟩
set_option maxHeartbeats 2000000 in
theorem number_6 {A : Nat → Addr} {w : World} (h : LayS A w) : Calls Tryz.prog 52 #[errV (A 6)] w fun e w' => e = .returned (.int .i64 141) ∧ w' = w := by
  refine enter (args := [errV (A 6)]) Tryz.func52 rfl Tryz.ntmps52 rfl ?_
  repeat' (first | (with_reducible first | refine p_tn ?_ | refine wp_seq ?_ | refine wp_block ?_ | refine w_reg ?_ | refine l_nil ?_) | (with_reducible (refine is_l ?_; (refine l_p tys rfl rfl ?_))))
  (with_reducible refine is_l ?_); refine l_t tys rfl rfl (fun h => h.elim) (fun _ => ?_)
  repeat' (first | (with_reducible first | refine p_tn ?_ | refine wp_seq ?_ | refine w_reg ?_) | (with_reducible (refine is_if ?_; (refine w_iff rfl ?_))) | (with_reducible refine l_nil ?_) | (with_reducible (refine is_l ?_; (refine l_p tys rfl rfl ?_))))
  (with_reducible refine is_l ?_); refine l_ld tys rfl rfl (h.sent 3 (by decide) (by decide)).cell ?_
  (with_reducible refine is_l ?_); refine l_callp rfl rfl (by kernel_rfl) (is_not h (g := 6) (k := 3) (by decide) (by decide) (by decide) (by decide) (by decide)) ?_
  repeat' (first | (with_reducible first | refine p_tn ?_ | refine wp_seq ?_ | refine w_reg ?_) | (with_reducible (refine is_if ?_; (refine w_iff rfl ?_))) | (with_reducible refine l_nil ?_) | (with_reducible (refine is_l ?_; (refine l_p tys rfl rfl ?_))))
  (with_reducible refine is_l ?_); refine l_ld tys rfl rfl (h.sent 4 (by decide) (by decide)).cell ?_
  (with_reducible refine is_l ?_); refine l_callp rfl rfl (by kernel_rfl) (is_not h (g := 6) (k := 4) (by decide) (by decide) (by decide) (by decide) (by decide)) ?_
  repeat' (first | (with_reducible first | refine p_tn ?_ | refine wp_seq ?_ | refine w_reg ?_) | (with_reducible (refine is_if ?_; (refine w_iff rfl ?_))) | (with_reducible refine l_nil ?_) | (with_reducible (refine is_l ?_; (refine l_p tys rfl rfl ?_))))
  (with_reducible refine is_l ?_); refine l_ld tys rfl rfl (h.sent 5 (by decide) (by decide)).cell ?_
  (with_reducible refine is_l ?_); refine l_callp rfl rfl (by kernel_rfl) (is_not h (g := 6) (k := 5) (by decide) (by decide) (by decide) (by decide) (by decide)) ?_
  repeat' (first | (with_reducible first | refine p_tn ?_ | refine wp_seq ?_ | refine w_reg ?_) | (with_reducible (refine is_if ?_; (refine w_iff rfl ?_))) | (with_reducible refine l_nil ?_) | (with_reducible (refine is_l ?_; (refine l_p tys rfl rfl ?_))))
  (with_reducible refine is_l ?_); refine l_ld tys rfl rfl (h.sent 6 (by decide) (by decide)).cell ?_
  (with_reducible refine is_l ?_); refine l_callp rfl rfl (by kernel_rfl) (Is.is_same (A 6) w) ?_
  repeat' (first | (with_reducible first | refine p_tn ?_ | refine p_tr ?_ | refine p_br ?_ | refine wp_seq ?_ | refine w_reg ?_) | (with_reducible (refine is_if ?_; (refine w_ift rfl ?_))) | (with_reducible first | refine wp_ret ?_ | refine l_nil ?_) | (with_reducible (refine is_l ?_; (refine l_p tys rfl rfl ?_))))
  refine end1 rfl rfl ?_
  exact ⟨rfl, rfl⟩
set_option maxHeartbeats 2000000 in
theorem number_7 {A : Nat → Addr} {w : World} (h : LayS A w) : Calls Tryz.prog 52 #[errV (A 7)] w fun e w' => e = .returned (.int .i64 142) ∧ w' = w := by
  refine enter (args := [errV (A 7)]) Tryz.func52 rfl Tryz.ntmps52 rfl ?_
  repeat' (first | (with_reducible first | refine p_tn ?_ | refine wp_seq ?_ | refine wp_block ?_ | refine w_reg ?_ | refine l_nil ?_) | (with_reducible (refine is_l ?_; (refine l_p tys rfl rfl ?_))))
  (with_reducible refine is_l ?_); refine l_t tys rfl rfl (fun h => h.elim) (fun _ => ?_)
  repeat' (first | (with_reducible first | refine p_tn ?_ | refine wp_seq ?_ | refine w_reg ?_) | (with_reducible (refine is_if ?_; (refine w_iff rfl ?_))) | (with_reducible refine l_nil ?_) | (with_reducible (refine is_l ?_; (refine l_p tys rfl rfl ?_))))
  (with_reducible refine is_l ?_); refine l_ld tys rfl rfl (h.sent 3 (by decide) (by decide)).cell ?_
  (with_reducible refine is_l ?_); refine l_callp rfl rfl (by kernel_rfl) (is_not h (g := 7) (k := 3) (by decide) (by decide) (by decide) (by decide) (by decide)) ?_
  repeat' (first | (with_reducible first | refine p_tn ?_ | refine wp_seq ?_ | refine w_reg ?_) | (with_reducible (refine is_if ?_; (refine w_iff rfl ?_))) | (with_reducible refine l_nil ?_) | (with_reducible (refine is_l ?_; (refine l_p tys rfl rfl ?_))))
  (with_reducible refine is_l ?_); refine l_ld tys rfl rfl (h.sent 4 (by decide) (by decide)).cell ?_
  (with_reducible refine is_l ?_); refine l_callp rfl rfl (by kernel_rfl) (is_not h (g := 7) (k := 4) (by decide) (by decide) (by decide) (by decide) (by decide)) ?_
  repeat' (first | (with_reducible first | refine p_tn ?_ | refine wp_seq ?_ | refine w_reg ?_) | (with_reducible (refine is_if ?_; (refine w_iff rfl ?_))) | (with_reducible refine l_nil ?_) | (with_reducible (refine is_l ?_; (refine l_p tys rfl rfl ?_))))
  (with_reducible refine is_l ?_); refine l_ld tys rfl rfl (h.sent 5 (by decide) (by decide)).cell ?_
  (with_reducible refine is_l ?_); refine l_callp rfl rfl (by kernel_rfl) (is_not h (g := 7) (k := 5) (by decide) (by decide) (by decide) (by decide) (by decide)) ?_
  repeat' (first | (with_reducible first | refine p_tn ?_ | refine wp_seq ?_ | refine w_reg ?_) | (with_reducible (refine is_if ?_; (refine w_iff rfl ?_))) | (with_reducible refine l_nil ?_) | (with_reducible (refine is_l ?_; (refine l_p tys rfl rfl ?_))))
  (with_reducible refine is_l ?_); refine l_ld tys rfl rfl (h.sent 6 (by decide) (by decide)).cell ?_
  (with_reducible refine is_l ?_); refine l_callp rfl rfl (by kernel_rfl) (is_not h (g := 7) (k := 6) (by decide) (by decide) (by decide) (by decide) (by decide)) ?_
  repeat' (first | (with_reducible first | refine p_tn ?_ | refine wp_seq ?_ | refine w_reg ?_) | (with_reducible (refine is_if ?_; (refine w_iff rfl ?_))) | (with_reducible refine l_nil ?_) | (with_reducible (refine is_l ?_; (refine l_p tys rfl rfl ?_))))
  (with_reducible refine is_l ?_); refine l_ld tys rfl rfl (h.sent 7 (by decide) (by decide)).cell ?_
  (with_reducible refine is_l ?_); refine l_callp rfl rfl (by kernel_rfl) (Is.is_same (A 7) w) ?_
  repeat' (first | (with_reducible first | refine p_tn ?_ | refine p_tr ?_ | refine p_br ?_ | refine wp_seq ?_ | refine w_reg ?_) | (with_reducible (refine is_if ?_; (refine w_ift rfl ?_))) | (with_reducible first | refine wp_ret ?_ | refine l_nil ?_) | (with_reducible (refine is_l ?_; (refine l_p tys rfl rfl ?_))))
  refine end1 rfl rfl ?_
  exact ⟨rfl, rfl⟩
set_option maxHeartbeats 2000000 in
theorem number_8 {A : Nat → Addr} {w : World} (h : LayS A w) : Calls Tryz.prog 52 #[errV (A 8)] w fun e w' => e = .returned (.int .i64 143) ∧ w' = w := by
  refine enter (args := [errV (A 8)]) Tryz.func52 rfl Tryz.ntmps52 rfl ?_
  repeat' (first | (with_reducible first | refine p_tn ?_ | refine wp_seq ?_ | refine wp_block ?_ | refine w_reg ?_ | refine l_nil ?_) | (with_reducible (refine is_l ?_; (refine l_p tys rfl rfl ?_))))
  (with_reducible refine is_l ?_); refine l_t tys rfl rfl (fun h => h.elim) (fun _ => ?_)
  repeat' (first | (with_reducible first | refine p_tn ?_ | refine wp_seq ?_ | refine w_reg ?_) | (with_reducible (refine is_if ?_; (refine w_iff rfl ?_))) | (with_reducible refine l_nil ?_) | (with_reducible (refine is_l ?_; (refine l_p tys rfl rfl ?_))))
  (with_reducible refine is_l ?_); refine l_ld tys rfl rfl (h.sent 3 (by decide) (by decide)).cell ?_
  (with_reducible refine is_l ?_); refine l_callp rfl rfl (by kernel_rfl) (is_not h (g := 8) (k := 3) (by decide) (by decide) (by decide) (by decide) (by decide)) ?_
  repeat' (first | (with_reducible first | refine p_tn ?_ | refine wp_seq ?_ | refine w_reg ?_) | (with_reducible (refine is_if ?_; (refine w_iff rfl ?_))) | (with_reducible refine l_nil ?_) | (with_reducible (refine is_l ?_; (refine l_p tys rfl rfl ?_))))
  (with_reducible refine is_l ?_); refine l_ld tys rfl rfl (h.sent 4 (by decide) (by decide)).cell ?_
  (with_reducible refine is_l ?_); refine l_callp rfl rfl (by kernel_rfl) (is_not h (g := 8) (k := 4) (by decide) (by decide) (by decide) (by decide) (by decide)) ?_
  repeat' (first | (with_reducible first | refine p_tn ?_ | refine wp_seq ?_ | refine w_reg ?_) | (with_reducible (refine is_if ?_; (refine w_iff rfl ?_))) | (with_reducible refine l_nil ?_) | (with_reducible (refine is_l ?_; (refine l_p tys rfl rfl ?_))))
  (with_reducible refine is_l ?_); refine l_ld tys rfl rfl (h.sent 5 (by decide) (by decide)).cell ?_
  (with_reducible refine is_l ?_); refine l_callp rfl rfl (by kernel_rfl) (is_not h (g := 8) (k := 5) (by decide) (by decide) (by decide) (by decide) (by decide)) ?_
  repeat' (first | (with_reducible first | refine p_tn ?_ | refine wp_seq ?_ | refine w_reg ?_) | (with_reducible (refine is_if ?_; (refine w_iff rfl ?_))) | (with_reducible refine l_nil ?_) | (with_reducible (refine is_l ?_; (refine l_p tys rfl rfl ?_))))
  (with_reducible refine is_l ?_); refine l_ld tys rfl rfl (h.sent 6 (by decide) (by decide)).cell ?_
  (with_reducible refine is_l ?_); refine l_callp rfl rfl (by kernel_rfl) (is_not h (g := 8) (k := 6) (by decide) (by decide) (by decide) (by decide) (by decide)) ?_
  repeat' (first | (with_reducible first | refine p_tn ?_ | refine wp_seq ?_ | refine w_reg ?_) | (with_reducible (refine is_if ?_; (refine w_iff rfl ?_))) | (with_reducible refine l_nil ?_) | (with_reducible (refine is_l ?_; (refine l_p tys rfl rfl ?_))))
  (with_reducible refine is_l ?_); refine l_ld tys rfl rfl (h.sent 7 (by decide) (by decide)).cell ?_
  (with_reducible refine is_l ?_); refine l_callp rfl rfl (by kernel_rfl) (is_not h (g := 8) (k := 7) (by decide) (by decide) (by decide) (by decide) (by decide)) ?_
  repeat' (first | (with_reducible first | refine p_tn ?_ | refine wp_seq ?_ | refine w_reg ?_) | (with_reducible (refine is_if ?_; (refine w_iff rfl ?_))) | (with_reducible refine l_nil ?_) | (with_reducible (refine is_l ?_; (refine l_p tys rfl rfl ?_))))
  (with_reducible refine is_l ?_); refine l_ld tys rfl rfl (h.sent 8 (by decide) (by decide)).cell ?_
  (with_reducible refine is_l ?_); refine l_callp rfl rfl (by kernel_rfl) (Is.is_same (A 8) w) ?_
  repeat' (first | (with_reducible first | refine p_tn ?_ | refine p_tr ?_ | refine p_br ?_ | refine wp_seq ?_ | refine w_reg ?_) | (with_reducible (refine is_if ?_; (refine w_ift rfl ?_))) | (with_reducible first | refine wp_ret ?_ | refine l_nil ?_) | (with_reducible (refine is_l ?_; (refine l_p tys rfl rfl ?_))))
  refine end1 rfl rfl ?_
  exact ⟨rfl, rfl⟩
set_option maxHeartbeats 2000000 in
theorem number_9 {A : Nat → Addr} {w : World} (h : LayS A w) : Calls Tryz.prog 52 #[errV (A 9)] w fun e w' => e = .returned (.int .i64 144) ∧ w' = w := by
  refine enter (args := [errV (A 9)]) Tryz.func52 rfl Tryz.ntmps52 rfl ?_
  repeat' (first | (with_reducible first | refine p_tn ?_ | refine wp_seq ?_ | refine wp_block ?_ | refine w_reg ?_ | refine l_nil ?_) | (with_reducible (refine is_l ?_; (refine l_p tys rfl rfl ?_))))
  (with_reducible refine is_l ?_); refine l_t tys rfl rfl (fun h => h.elim) (fun _ => ?_)
  repeat' (first | (with_reducible first | refine p_tn ?_ | refine wp_seq ?_ | refine w_reg ?_) | (with_reducible (refine is_if ?_; (refine w_iff rfl ?_))) | (with_reducible refine l_nil ?_) | (with_reducible (refine is_l ?_; (refine l_p tys rfl rfl ?_))))
  (with_reducible refine is_l ?_); refine l_ld tys rfl rfl (h.sent 3 (by decide) (by decide)).cell ?_
  (with_reducible refine is_l ?_); refine l_callp rfl rfl (by kernel_rfl) (is_not h (g := 9) (k := 3) (by decide) (by decide) (by decide) (by decide) (by decide)) ?_
  repeat' (first | (with_reducible first | refine p_tn ?_ | refine wp_seq ?_ | refine w_reg ?_) | (with_reducible (refine is_if ?_; (refine w_iff rfl ?_))) | (with_reducible refine l_nil ?_) | (with_reducible (refine is_l ?_; (refine l_p tys rfl rfl ?_))))
  (with_reducible refine is_l ?_); refine l_ld tys rfl rfl (h.sent 4 (by decide) (by decide)).cell ?_
  (with_reducible refine is_l ?_); refine l_callp rfl rfl (by kernel_rfl) (is_not h (g := 9) (k := 4) (by decide) (by decide) (by decide) (by decide) (by decide)) ?_
  repeat' (first | (with_reducible first | refine p_tn ?_ | refine wp_seq ?_ | refine w_reg ?_) | (with_reducible (refine is_if ?_; (refine w_iff rfl ?_))) | (with_reducible refine l_nil ?_) | (with_reducible (refine is_l ?_; (refine l_p tys rfl rfl ?_))))
  (with_reducible refine is_l ?_); refine l_ld tys rfl rfl (h.sent 5 (by decide) (by decide)).cell ?_
  (with_reducible refine is_l ?_); refine l_callp rfl rfl (by kernel_rfl) (is_not h (g := 9) (k := 5) (by decide) (by decide) (by decide) (by decide) (by decide)) ?_
  repeat' (first | (with_reducible first | refine p_tn ?_ | refine wp_seq ?_ | refine w_reg ?_) | (with_reducible (refine is_if ?_; (refine w_iff rfl ?_))) | (with_reducible refine l_nil ?_) | (with_reducible (refine is_l ?_; (refine l_p tys rfl rfl ?_))))
  (with_reducible refine is_l ?_); refine l_ld tys rfl rfl (h.sent 6 (by decide) (by decide)).cell ?_
  (with_reducible refine is_l ?_); refine l_callp rfl rfl (by kernel_rfl) (is_not h (g := 9) (k := 6) (by decide) (by decide) (by decide) (by decide) (by decide)) ?_
  repeat' (first | (with_reducible first | refine p_tn ?_ | refine wp_seq ?_ | refine w_reg ?_) | (with_reducible (refine is_if ?_; (refine w_iff rfl ?_))) | (with_reducible refine l_nil ?_) | (with_reducible (refine is_l ?_; (refine l_p tys rfl rfl ?_))))
  (with_reducible refine is_l ?_); refine l_ld tys rfl rfl (h.sent 7 (by decide) (by decide)).cell ?_
  (with_reducible refine is_l ?_); refine l_callp rfl rfl (by kernel_rfl) (is_not h (g := 9) (k := 7) (by decide) (by decide) (by decide) (by decide) (by decide)) ?_
  repeat' (first | (with_reducible first | refine p_tn ?_ | refine wp_seq ?_ | refine w_reg ?_) | (with_reducible (refine is_if ?_; (refine w_iff rfl ?_))) | (with_reducible refine l_nil ?_) | (with_reducible (refine is_l ?_; (refine l_p tys rfl rfl ?_))))
  (with_reducible refine is_l ?_); refine l_ld tys rfl rfl (h.sent 8 (by decide) (by decide)).cell ?_
  (with_reducible refine is_l ?_); refine l_callp rfl rfl (by kernel_rfl) (is_not h (g := 9) (k := 8) (by decide) (by decide) (by decide) (by decide) (by decide)) ?_
  repeat' (first | (with_reducible first | refine p_tn ?_ | refine wp_seq ?_ | refine w_reg ?_) | (with_reducible (refine is_if ?_; (refine w_iff rfl ?_))) | (with_reducible refine l_nil ?_) | (with_reducible (refine is_l ?_; (refine l_p tys rfl rfl ?_))))
  (with_reducible refine is_l ?_); refine l_ld tys rfl rfl (h.sent 9 (by decide) (by decide)).cell ?_
  (with_reducible refine is_l ?_); refine l_callp rfl rfl (by kernel_rfl) (Is.is_same (A 9) w) ?_
  repeat' (first | (with_reducible first | refine p_tn ?_ | refine p_tr ?_ | refine p_br ?_ | refine wp_seq ?_ | refine w_reg ?_) | (with_reducible (refine is_if ?_; (refine w_ift rfl ?_))) | (with_reducible first | refine wp_ret ?_ | refine l_nil ?_) | (with_reducible (refine is_l ?_; (refine l_p tys rfl rfl ?_))))
  refine end1 rfl rfl ?_
  exact ⟨rfl, rfl⟩
set_option maxHeartbeats 2000000 in
theorem number_10 {A : Nat → Addr} {w : World} (h : LayS A w) : Calls Tryz.prog 52 #[errV (A 10)] w fun e w' => e = .returned (.int .i64 145) ∧ w' = w := by
  refine enter (args := [errV (A 10)]) Tryz.func52 rfl Tryz.ntmps52 rfl ?_
  repeat' (first | (with_reducible first | refine p_tn ?_ | refine wp_seq ?_ | refine wp_block ?_ | refine w_reg ?_ | refine l_nil ?_) | (with_reducible (refine is_l ?_; (refine l_p tys rfl rfl ?_))))
  (with_reducible refine is_l ?_); refine l_t tys rfl rfl (fun h => h.elim) (fun _ => ?_)
  repeat' (first | (with_reducible first | refine p_tn ?_ | refine wp_seq ?_ | refine w_reg ?_) | (with_reducible (refine is_if ?_; (refine w_iff rfl ?_))) | (with_reducible refine l_nil ?_) | (with_reducible (refine is_l ?_; (refine l_p tys rfl rfl ?_))))
  (with_reducible refine is_l ?_); refine l_ld tys rfl rfl (h.sent 3 (by decide) (by decide)).cell ?_
  (with_reducible refine is_l ?_); refine l_callp rfl rfl (by kernel_rfl) (is_not h (g := 10) (k := 3) (by decide) (by decide) (by decide) (by decide) (by decide)) ?_
  repeat' (first | (with_reducible first | refine p_tn ?_ | refine wp_seq ?_ | refine w_reg ?_) | (with_reducible (refine is_if ?_; (refine w_iff rfl ?_))) | (with_reducible refine l_nil ?_) | (with_reducible (refine is_l ?_; (refine l_p tys rfl rfl ?_))))
  (with_reducible refine is_l ?_); refine l_ld tys rfl rfl (h.sent 4 (by decide) (by decide)).cell ?_
  (with_reducible refine is_l ?_); refine l_callp rfl rfl (by kernel_rfl) (is_not h (g := 10) (k := 4) (by decide) (by decide) (by decide) (by decide) (by decide)) ?_
  repeat' (first | (with_reducible first | refine p_tn ?_ | refine wp_seq ?_ | refine w_reg ?_) | (with_reducible (refine is_if ?_; (refine w_iff rfl ?_))) | (with_reducible refine l_nil ?_) | (with_reducible (refine is_l ?_; (refine l_p tys rfl rfl ?_))))
  (with_reducible refine is_l ?_); refine l_ld tys rfl rfl (h.sent 5 (by decide) (by decide)).cell ?_
  (with_reducible refine is_l ?_); refine l_callp rfl rfl (by kernel_rfl) (is_not h (g := 10) (k := 5) (by decide) (by decide) (by decide) (by decide) (by decide)) ?_
  repeat' (first | (with_reducible first | refine p_tn ?_ | refine wp_seq ?_ | refine w_reg ?_) | (with_reducible (refine is_if ?_; (refine w_iff rfl ?_))) | (with_reducible refine l_nil ?_) | (with_reducible (refine is_l ?_; (refine l_p tys rfl rfl ?_))))
  (with_reducible refine is_l ?_); refine l_ld tys rfl rfl (h.sent 6 (by decide) (by decide)).cell ?_
  (with_reducible refine is_l ?_); refine l_callp rfl rfl (by kernel_rfl) (is_not h (g := 10) (k := 6) (by decide) (by decide) (by decide) (by decide) (by decide)) ?_
  repeat' (first | (with_reducible first | refine p_tn ?_ | refine wp_seq ?_ | refine w_reg ?_) | (with_reducible (refine is_if ?_; (refine w_iff rfl ?_))) | (with_reducible refine l_nil ?_) | (with_reducible (refine is_l ?_; (refine l_p tys rfl rfl ?_))))
  (with_reducible refine is_l ?_); refine l_ld tys rfl rfl (h.sent 7 (by decide) (by decide)).cell ?_
  (with_reducible refine is_l ?_); refine l_callp rfl rfl (by kernel_rfl) (is_not h (g := 10) (k := 7) (by decide) (by decide) (by decide) (by decide) (by decide)) ?_
  repeat' (first | (with_reducible first | refine p_tn ?_ | refine wp_seq ?_ | refine w_reg ?_) | (with_reducible (refine is_if ?_; (refine w_iff rfl ?_))) | (with_reducible refine l_nil ?_) | (with_reducible (refine is_l ?_; (refine l_p tys rfl rfl ?_))))
  (with_reducible refine is_l ?_); refine l_ld tys rfl rfl (h.sent 8 (by decide) (by decide)).cell ?_
  (with_reducible refine is_l ?_); refine l_callp rfl rfl (by kernel_rfl) (is_not h (g := 10) (k := 8) (by decide) (by decide) (by decide) (by decide) (by decide)) ?_
  repeat' (first | (with_reducible first | refine p_tn ?_ | refine wp_seq ?_ | refine w_reg ?_) | (with_reducible (refine is_if ?_; (refine w_iff rfl ?_))) | (with_reducible refine l_nil ?_) | (with_reducible (refine is_l ?_; (refine l_p tys rfl rfl ?_))))
  (with_reducible refine is_l ?_); refine l_ld tys rfl rfl (h.sent 9 (by decide) (by decide)).cell ?_
  (with_reducible refine is_l ?_); refine l_callp rfl rfl (by kernel_rfl) (is_not h (g := 10) (k := 9) (by decide) (by decide) (by decide) (by decide) (by decide)) ?_
  repeat' (first | (with_reducible first | refine p_tn ?_ | refine wp_seq ?_ | refine w_reg ?_) | (with_reducible (refine is_if ?_; (refine w_iff rfl ?_))) | (with_reducible refine l_nil ?_) | (with_reducible (refine is_l ?_; (refine l_p tys rfl rfl ?_))))
  (with_reducible refine is_l ?_); refine l_ld tys rfl rfl (h.sent 10 (by decide) (by decide)).cell ?_
  (with_reducible refine is_l ?_); refine l_callp rfl rfl (by kernel_rfl) (Is.is_same (A 10) w) ?_
  repeat' (first | (with_reducible first | refine p_tn ?_ | refine p_tr ?_ | refine p_br ?_ | refine wp_seq ?_ | refine w_reg ?_) | (with_reducible (refine is_if ?_; (refine w_ift rfl ?_))) | (with_reducible first | refine wp_ret ?_ | refine l_nil ?_) | (with_reducible (refine is_l ?_; (refine l_p tys rfl rfl ?_))))
  refine end1 rfl rfl ?_
  exact ⟨rfl, rfl⟩
set_option maxHeartbeats 2000000 in
theorem number_11 {A : Nat → Addr} {w : World} (h : LayS A w) : Calls Tryz.prog 52 #[errV (A 11)] w fun e w' => e = .returned (.int .i64 146) ∧ w' = w := by
  refine enter (args := [errV (A 11)]) Tryz.func52 rfl Tryz.ntmps52 rfl ?_
  repeat' (first | (with_reducible first | refine p_tn ?_ | refine wp_seq ?_ | refine wp_block ?_ | refine w_reg ?_ | refine l_nil ?_) | (with_reducible (refine is_l ?_; (refine l_p tys rfl rfl ?_))))
  (with_reducible refine is_l ?_); refine l_t tys rfl rfl (fun h => h.elim) (fun _ => ?_)
  repeat' (first | (with_reducible first | refine p_tn ?_ | refine wp_seq ?_ | refine w_reg ?_) | (with_reducible (refine is_if ?_; (refine w_iff rfl ?_))) | (with_reducible refine l_nil ?_) | (with_reducible (refine is_l ?_; (refine l_p tys rfl rfl ?_))))
  (with_reducible refine is_l ?_); refine l_ld tys rfl rfl (h.sent 3 (by decide) (by decide)).cell ?_
  (with_reducible refine is_l ?_); refine l_callp rfl rfl (by kernel_rfl) (is_not h (g := 11) (k := 3) (by decide) (by decide) (by decide) (by decide) (by decide)) ?_
  repeat' (first | (with_reducible first | refine p_tn ?_ | refine wp_seq ?_ | refine w_reg ?_) | (with_reducible (refine is_if ?_; (refine w_iff rfl ?_))) | (with_reducible refine l_nil ?_) | (with_reducible (refine is_l ?_; (refine l_p tys rfl rfl ?_))))
  (with_reducible refine is_l ?_); refine l_ld tys rfl rfl (h.sent 4 (by decide) (by decide)).cell ?_
  (with_reducible refine is_l ?_); refine l_callp rfl rfl (by kernel_rfl) (is_not h (g := 11) (k := 4) (by decide) (by decide) (by decide) (by decide) (by decide)) ?_
  repeat' (first | (with_reducible first | refine p_tn ?_ | refine wp_seq ?_ | refine w_reg ?_) | (with_reducible (refine is_if ?_; (refine w_iff rfl ?_))) | (with_reducible refine l_nil ?_) | (with_reducible (refine is_l ?_; (refine l_p tys rfl rfl ?_))))
  (with_reducible refine is_l ?_); refine l_ld tys rfl rfl (h.sent 5 (by decide) (by decide)).cell ?_
  (with_reducible refine is_l ?_); refine l_callp rfl rfl (by kernel_rfl) (is_not h (g := 11) (k := 5) (by decide) (by decide) (by decide) (by decide) (by decide)) ?_
  repeat' (first | (with_reducible first | refine p_tn ?_ | refine wp_seq ?_ | refine w_reg ?_) | (with_reducible (refine is_if ?_; (refine w_iff rfl ?_))) | (with_reducible refine l_nil ?_) | (with_reducible (refine is_l ?_; (refine l_p tys rfl rfl ?_))))
  (with_reducible refine is_l ?_); refine l_ld tys rfl rfl (h.sent 6 (by decide) (by decide)).cell ?_
  (with_reducible refine is_l ?_); refine l_callp rfl rfl (by kernel_rfl) (is_not h (g := 11) (k := 6) (by decide) (by decide) (by decide) (by decide) (by decide)) ?_
  repeat' (first | (with_reducible first | refine p_tn ?_ | refine wp_seq ?_ | refine w_reg ?_) | (with_reducible (refine is_if ?_; (refine w_iff rfl ?_))) | (with_reducible refine l_nil ?_) | (with_reducible (refine is_l ?_; (refine l_p tys rfl rfl ?_))))
  (with_reducible refine is_l ?_); refine l_ld tys rfl rfl (h.sent 7 (by decide) (by decide)).cell ?_
  (with_reducible refine is_l ?_); refine l_callp rfl rfl (by kernel_rfl) (is_not h (g := 11) (k := 7) (by decide) (by decide) (by decide) (by decide) (by decide)) ?_
  repeat' (first | (with_reducible first | refine p_tn ?_ | refine wp_seq ?_ | refine w_reg ?_) | (with_reducible (refine is_if ?_; (refine w_iff rfl ?_))) | (with_reducible refine l_nil ?_) | (with_reducible (refine is_l ?_; (refine l_p tys rfl rfl ?_))))
  (with_reducible refine is_l ?_); refine l_ld tys rfl rfl (h.sent 8 (by decide) (by decide)).cell ?_
  (with_reducible refine is_l ?_); refine l_callp rfl rfl (by kernel_rfl) (is_not h (g := 11) (k := 8) (by decide) (by decide) (by decide) (by decide) (by decide)) ?_
  repeat' (first | (with_reducible first | refine p_tn ?_ | refine wp_seq ?_ | refine w_reg ?_) | (with_reducible (refine is_if ?_; (refine w_iff rfl ?_))) | (with_reducible refine l_nil ?_) | (with_reducible (refine is_l ?_; (refine l_p tys rfl rfl ?_))))
  (with_reducible refine is_l ?_); refine l_ld tys rfl rfl (h.sent 9 (by decide) (by decide)).cell ?_
  (with_reducible refine is_l ?_); refine l_callp rfl rfl (by kernel_rfl) (is_not h (g := 11) (k := 9) (by decide) (by decide) (by decide) (by decide) (by decide)) ?_
  repeat' (first | (with_reducible first | refine p_tn ?_ | refine wp_seq ?_ | refine w_reg ?_) | (with_reducible (refine is_if ?_; (refine w_iff rfl ?_))) | (with_reducible refine l_nil ?_) | (with_reducible (refine is_l ?_; (refine l_p tys rfl rfl ?_))))
  (with_reducible refine is_l ?_); refine l_ld tys rfl rfl (h.sent 10 (by decide) (by decide)).cell ?_
  (with_reducible refine is_l ?_); refine l_callp rfl rfl (by kernel_rfl) (is_not h (g := 11) (k := 10) (by decide) (by decide) (by decide) (by decide) (by decide)) ?_
  repeat' (first | (with_reducible first | refine p_tn ?_ | refine wp_seq ?_ | refine w_reg ?_) | (with_reducible (refine is_if ?_; (refine w_iff rfl ?_))) | (with_reducible refine l_nil ?_) | (with_reducible (refine is_l ?_; (refine l_p tys rfl rfl ?_))))
  (with_reducible refine is_l ?_); refine l_ld tys rfl rfl (h.sent 11 (by decide) (by decide)).cell ?_
  (with_reducible refine is_l ?_); refine l_callp rfl rfl (by kernel_rfl) (Is.is_same (A 11) w) ?_
  repeat' (first | (with_reducible first | refine p_tn ?_ | refine p_tr ?_ | refine p_br ?_ | refine wp_seq ?_ | refine w_reg ?_) | (with_reducible (refine is_if ?_; (refine w_ift rfl ?_))) | (with_reducible first | refine wp_ret ?_ | refine l_nil ?_) | (with_reducible (refine is_l ?_; (refine l_p tys rfl rfl ?_))))
  refine end1 rfl rfl ?_
  exact ⟨rfl, rfl⟩
set_option maxHeartbeats 2000000 in
theorem number_2 {A : Nat → Addr} {w : World} (h : LayS A w) : Calls Tryz.prog 52 #[errV (A 2)] w fun e w' => e = .returned (.int .i64 147) ∧ w' = w := by
  refine enter (args := [errV (A 2)]) Tryz.func52 rfl Tryz.ntmps52 rfl ?_
  repeat' (first | (with_reducible first | refine p_tn ?_ | refine wp_seq ?_ | refine wp_block ?_ | refine w_reg ?_ | refine l_nil ?_) | (with_reducible (refine is_l ?_; (refine l_p tys rfl rfl ?_))))
  (with_reducible refine is_l ?_); refine l_t tys rfl rfl (fun h => h.elim) (fun _ => ?_)
  repeat' (first | (with_reducible first | refine p_tn ?_ | refine wp_seq ?_ | refine w_reg ?_) | (with_reducible (refine is_if ?_; (refine w_iff rfl ?_))) | (with_reducible refine l_nil ?_) | (with_reducible (refine is_l ?_; (refine l_p tys rfl rfl ?_))))
  (with_reducible refine is_l ?_); refine l_ld tys rfl rfl (h.sent 3 (by decide) (by decide)).cell ?_
  (with_reducible refine is_l ?_); refine l_callp rfl rfl (by kernel_rfl) (is_not h (g := 2) (k := 3) (by decide) (by decide) (by decide) (by decide) (by decide)) ?_
  repeat' (first | (with_reducible first | refine p_tn ?_ | refine wp_seq ?_ | refine w_reg ?_) | (with_reducible (refine is_if ?_; (refine w_iff rfl ?_))) | (with_reducible refine l_nil ?_) | (with_reducible (refine is_l ?_; (refine l_p tys rfl rfl ?_))))
  (with_reducible refine is_l ?_); refine l_ld tys rfl rfl (h.sent 4 (by decide) (by decide)).cell ?_
  (with_reducible refine is_l ?_); refine l_callp rfl rfl (by kernel_rfl) (is_not h (g := 2) (k := 4) (by decide) (by decide) (by decide) (by decide) (by decide)) ?_
  repeat' (first | (with_reducible first | refine p_tn ?_ | refine wp_seq ?_ | refine w_reg ?_) | (with_reducible (refine is_if ?_; (refine w_iff rfl ?_))) | (with_reducible refine l_nil ?_) | (with_reducible (refine is_l ?_; (refine l_p tys rfl rfl ?_))))
  (with_reducible refine is_l ?_); refine l_ld tys rfl rfl (h.sent 5 (by decide) (by decide)).cell ?_
  (with_reducible refine is_l ?_); refine l_callp rfl rfl (by kernel_rfl) (is_not h (g := 2) (k := 5) (by decide) (by decide) (by decide) (by decide) (by decide)) ?_
  repeat' (first | (with_reducible first | refine p_tn ?_ | refine wp_seq ?_ | refine w_reg ?_) | (with_reducible (refine is_if ?_; (refine w_iff rfl ?_))) | (with_reducible refine l_nil ?_) | (with_reducible (refine is_l ?_; (refine l_p tys rfl rfl ?_))))
  (with_reducible refine is_l ?_); refine l_ld tys rfl rfl (h.sent 6 (by decide) (by decide)).cell ?_
  (with_reducible refine is_l ?_); refine l_callp rfl rfl (by kernel_rfl) (is_not h (g := 2) (k := 6) (by decide) (by decide) (by decide) (by decide) (by decide)) ?_
  repeat' (first | (with_reducible first | refine p_tn ?_ | refine wp_seq ?_ | refine w_reg ?_) | (with_reducible (refine is_if ?_; (refine w_iff rfl ?_))) | (with_reducible refine l_nil ?_) | (with_reducible (refine is_l ?_; (refine l_p tys rfl rfl ?_))))
  (with_reducible refine is_l ?_); refine l_ld tys rfl rfl (h.sent 7 (by decide) (by decide)).cell ?_
  (with_reducible refine is_l ?_); refine l_callp rfl rfl (by kernel_rfl) (is_not h (g := 2) (k := 7) (by decide) (by decide) (by decide) (by decide) (by decide)) ?_
  repeat' (first | (with_reducible first | refine p_tn ?_ | refine wp_seq ?_ | refine w_reg ?_) | (with_reducible (refine is_if ?_; (refine w_iff rfl ?_))) | (with_reducible refine l_nil ?_) | (with_reducible (refine is_l ?_; (refine l_p tys rfl rfl ?_))))
  (with_reducible refine is_l ?_); refine l_ld tys rfl rfl (h.sent 8 (by decide) (by decide)).cell ?_
  (with_reducible refine is_l ?_); refine l_callp rfl rfl (by kernel_rfl) (is_not h (g := 2) (k := 8) (by decide) (by decide) (by decide) (by decide) (by decide)) ?_
  repeat' (first | (with_reducible first | refine p_tn ?_ | refine wp_seq ?_ | refine w_reg ?_) | (with_reducible (refine is_if ?_; (refine w_iff rfl ?_))) | (with_reducible refine l_nil ?_) | (with_reducible (refine is_l ?_; (refine l_p tys rfl rfl ?_))))
  (with_reducible refine is_l ?_); refine l_ld tys rfl rfl (h.sent 9 (by decide) (by decide)).cell ?_
  (with_reducible refine is_l ?_); refine l_callp rfl rfl (by kernel_rfl) (is_not h (g := 2) (k := 9) (by decide) (by decide) (by decide) (by decide) (by decide)) ?_
  repeat' (first | (with_reducible first | refine p_tn ?_ | refine wp_seq ?_ | refine w_reg ?_) | (with_reducible (refine is_if ?_; (refine w_iff rfl ?_))) | (with_reducible refine l_nil ?_) | (with_reducible (refine is_l ?_; (refine l_p tys rfl rfl ?_))))
  (with_reducible refine is_l ?_); refine l_ld tys rfl rfl (h.sent 10 (by decide) (by decide)).cell ?_
  (with_reducible refine is_l ?_); refine l_callp rfl rfl (by kernel_rfl) (is_not h (g := 2) (k := 10) (by decide) (by decide) (by decide) (by decide) (by decide)) ?_
  repeat' (first | (with_reducible first | refine p_tn ?_ | refine wp_seq ?_ | refine w_reg ?_) | (with_reducible (refine is_if ?_; (refine w_iff rfl ?_))) | (with_reducible refine l_nil ?_) | (with_reducible (refine is_l ?_; (refine l_p tys rfl rfl ?_))))
  (with_reducible refine is_l ?_); refine l_ld tys rfl rfl (h.sent 11 (by decide) (by decide)).cell ?_
  (with_reducible refine is_l ?_); refine l_callp rfl rfl (by kernel_rfl) (is_not h (g := 2) (k := 11) (by decide) (by decide) (by decide) (by decide) (by decide)) ?_
  repeat' (first | (with_reducible first | refine p_tn ?_ | refine wp_seq ?_ | refine w_reg ?_) | (with_reducible (refine is_if ?_; (refine w_iff rfl ?_))) | (with_reducible refine l_nil ?_) | (with_reducible (refine is_l ?_; (refine l_p tys rfl rfl ?_))))
  (with_reducible refine is_l ?_); refine l_ld tys rfl rfl (h.sent 2 (by decide) (by decide)).cell ?_
  (with_reducible refine is_l ?_); refine l_callp rfl rfl (by kernel_rfl) (Is.is_same (A 2) w) ?_
  repeat' (first | (with_reducible first | refine p_tn ?_ | refine p_tr ?_ | refine p_br ?_ | refine wp_seq ?_ | refine w_reg ?_) | (with_reducible (refine is_if ?_; (refine w_ift rfl ?_))) | (with_reducible first | refine wp_ret ?_ | refine l_nil ?_) | (with_reducible (refine is_l ?_; (refine l_p tys rfl rfl ?_))))
  refine end1 rfl rfl ?_
  exact ⟨rfl, rfl⟩
set_option maxHeartbeats 2000000 in
theorem number_12 {A : Nat → Addr} {w : World} (h : LayS A w) : Calls Tryz.prog 52 #[errV (A 12)] w fun e w' => e = .returned (.int .i64 148) ∧ w' = w := by
  refine enter (args := [errV (A 12)]) Tryz.func52 rfl Tryz.ntmps52 rfl ?_
  repeat' (first | (with_reducible first | refine p_tn ?_ | refine wp_seq ?_ | refine wp_block ?_ | refine w_reg ?_ | refine l_nil ?_) | (with_reducible (refine is_l ?_; (refine l_p tys rfl rfl ?_))))
  (with_reducible refine is_l ?_); refine l_t tys rfl rfl (fun h => h.elim) (fun _ => ?_)
  repeat' (first | (with_reducible first | refine p_tn ?_ | refine wp_seq ?_ | refine w_reg ?_) | (with_reducible (refine is_if ?_; (refine w_iff rfl ?_))) | (with_reducible refine l_nil ?_) | (with_reducible (refine is_l ?_; (refine l_p tys rfl rfl ?_))))
  (with_reducible refine is_l ?_); refine l_ld tys rfl rfl (h.sent 3 (by decide) (by decide)).cell ?_
  (with_reducible refine is_l ?_); refine l_callp rfl rfl (by kernel_rfl) (is_not h (g := 12) (k := 3) (by decide) (by decide) (by decide) (by decide) (by decide)) ?_
  repeat' (first | (with_reducible first | refine p_tn ?_ | refine wp_seq ?_ | refine w_reg ?_) | (with_reducible (refine is_if ?_; (refine w_iff rfl ?_))) | (with_reducible refine l_nil ?_) | (with_reducible (refine is_l ?_; (refine l_p tys rfl rfl ?_))))
  (with_reducible refine is_l ?_); refine l_ld tys rfl rfl (h.sent 4 (by decide) (by decide)).cell ?_
  (with_reducible refine is_l ?_); refine l_callp rfl rfl (by kernel_rfl) (is_not h (g := 12) (k := 4) (by decide) (by decide) (by decide) (by decide) (by decide)) ?_
  repeat' (first | (with_reducible first | refine p_tn ?_ | refine wp_seq ?_ | refine w_reg ?_) | (with_reducible (refine is_if ?_; (refine w_iff rfl ?_))) | (with_reducible refine l_nil ?_) | (with_reducible (refine is_l ?_; (refine l_p tys rfl rfl ?_))))
  (with_reducible refine is_l ?_); refine l_ld tys rfl rfl (h.sent 5 (by decide) (by decide)).cell ?_
  (with_reducible refine is_l ?_); refine l_callp rfl rfl (by kernel_rfl) (is_not h (g := 12) (k := 5) (by decide) (by decide) (by decide) (by decide) (by decide)) ?_
  repeat' (first | (with_reducible first | refine p_tn ?_ | refine wp_seq ?_ | refine w_reg ?_) | (with_reducible (refine is_if ?_; (refine w_iff rfl ?_))) | (with_reducible refine l_nil ?_) | (with_reducible (refine is_l ?_; (refine l_p tys rfl rfl ?_))))
  (with_reducible refine is_l ?_); refine l_ld tys rfl rfl (h.sent 6 (by decide) (by decide)).cell ?_
  (with_reducible refine is_l ?_); refine l_callp rfl rfl (by kernel_rfl) (is_not h (g := 12) (k := 6) (by decide) (by decide) (by decide) (by decide) (by decide)) ?_
  repeat' (first | (with_reducible first | refine p_tn ?_ | refine wp_seq ?_ | refine w_reg ?_) | (with_reducible (refine is_if ?_; (refine w_iff rfl ?_))) | (with_reducible refine l_nil ?_) | (with_reducible (refine is_l ?_; (refine l_p tys rfl rfl ?_))))
  (with_reducible refine is_l ?_); refine l_ld tys rfl rfl (h.sent 7 (by decide) (by decide)).cell ?_
  (with_reducible refine is_l ?_); refine l_callp rfl rfl (by kernel_rfl) (is_not h (g := 12) (k := 7) (by decide) (by decide) (by decide) (by decide) (by decide)) ?_
  repeat' (first | (with_reducible first | refine p_tn ?_ | refine wp_seq ?_ | refine w_reg ?_) | (with_reducible (refine is_if ?_; (refine w_iff rfl ?_))) | (with_reducible refine l_nil ?_) | (with_reducible (refine is_l ?_; (refine l_p tys rfl rfl ?_))))
  (with_reducible refine is_l ?_); refine l_ld tys rfl rfl (h.sent 8 (by decide) (by decide)).cell ?_
  (with_reducible refine is_l ?_); refine l_callp rfl rfl (by kernel_rfl) (is_not h (g := 12) (k := 8) (by decide) (by decide) (by decide) (by decide) (by decide)) ?_
  repeat' (first | (with_reducible first | refine p_tn ?_ | refine wp_seq ?_ | refine w_reg ?_) | (with_reducible (refine is_if ?_; (refine w_iff rfl ?_))) | (with_reducible refine l_nil ?_) | (with_reducible (refine is_l ?_; (refine l_p tys rfl rfl ?_))))
  (with_reducible refine is_l ?_); refine l_ld tys rfl rfl (h.sent 9 (by decide) (by decide)).cell ?_
  (with_reducible refine is_l ?_); refine l_callp rfl rfl (by kernel_rfl) (is_not h (g := 12) (k := 9) (by decide) (by decide) (by decide) (by decide) (by decide)) ?_
  repeat' (first | (with_reducible first | refine p_tn ?_ | refine wp_seq ?_ | refine w_reg ?_) | (with_reducible (refine is_if ?_; (refine w_iff rfl ?_))) | (with_reducible refine l_nil ?_) | (with_reducible (refine is_l ?_; (refine l_p tys rfl rfl ?_))))
  (with_reducible refine is_l ?_); refine l_ld tys rfl rfl (h.sent 10 (by decide) (by decide)).cell ?_
  (with_reducible refine is_l ?_); refine l_callp rfl rfl (by kernel_rfl) (is_not h (g := 12) (k := 10) (by decide) (by decide) (by decide) (by decide) (by decide)) ?_
  repeat' (first | (with_reducible first | refine p_tn ?_ | refine wp_seq ?_ | refine w_reg ?_) | (with_reducible (refine is_if ?_; (refine w_iff rfl ?_))) | (with_reducible refine l_nil ?_) | (with_reducible (refine is_l ?_; (refine l_p tys rfl rfl ?_))))
  (with_reducible refine is_l ?_); refine l_ld tys rfl rfl (h.sent 11 (by decide) (by decide)).cell ?_
  (with_reducible refine is_l ?_); refine l_callp rfl rfl (by kernel_rfl) (is_not h (g := 12) (k := 11) (by decide) (by decide) (by decide) (by decide) (by decide)) ?_
  repeat' (first | (with_reducible first | refine p_tn ?_ | refine wp_seq ?_ | refine w_reg ?_) | (with_reducible (refine is_if ?_; (refine w_iff rfl ?_))) | (with_reducible refine l_nil ?_) | (with_reducible (refine is_l ?_; (refine l_p tys rfl rfl ?_))))
  (with_reducible refine is_l ?_); refine l_ld tys rfl rfl (h.sent 2 (by decide) (by decide)).cell ?_
  (with_reducible refine is_l ?_); refine l_callp rfl rfl (by kernel_rfl) (is_not h (g := 12) (k := 2) (by decide) (by decide) (by decide) (by decide) (by decide)) ?_
  repeat' (first | (with_reducible first | refine p_tn ?_ | refine wp_seq ?_ | refine w_reg ?_) | (with_reducible (refine is_if ?_; (refine w_iff rfl ?_))) | (with_reducible refine l_nil ?_) | (with_reducible (refine is_l ?_; (refine l_p tys rfl rfl ?_))))
  (with_reducible refine is_l ?_); refine l_ld tys rfl rfl (h.sent 12 (by decide) (by decide)).cell ?_
  (with_reducible refine is_l ?_); refine l_callp rfl rfl (by kernel_rfl) (Is.is_same (A 12) w) ?_
  repeat' (first | (with_reducible first | refine p_tn ?_ | refine p_tr ?_ | refine p_br ?_ | refine wp_seq ?_ | refine w_reg ?_) | (with_reducible (refine is_if ?_; (refine w_ift rfl ?_))) | (with_reducible first | refine wp_ret ?_ | refine l_nil ?_) | (with_reducible (refine is_l ?_; (refine l_p tys rfl rfl ?_))))
  refine end1 rfl rfl ?_
  exact ⟨rfl, rfl⟩
set_option maxHeartbeats 2000000 in
theorem number_13 {A : Nat → Addr} {w : World} (h : LayS A w) : Calls Tryz.prog 52 #[errV (A 13)] w fun e w' => e = .returned (.int .i64 149) ∧ w' = w := by
  refine enter (args := [errV (A 13)]) Tryz.func52 rfl Tryz.ntmps52 rfl ?_
  repeat' (first | (with_reducible first | refine p_tn ?_ | refine wp_seq ?_ | refine wp_block ?_ | refine w_reg ?_ | refine l_nil ?_) | (with_reducible (refine is_l ?_; (refine l_p tys rfl rfl ?_))))
  (with_reducible refine is_l ?_); refine l_t tys rfl rfl (fun h => h.elim) (fun _ => ?_)
  repeat' (first | (with_reducible first | refine p_tn ?_ | refine wp_seq ?_ | refine w_reg ?_) | (with_reducible (refine is_if ?_; (refine w_iff rfl ?_))) | (with_reducible refine l_nil ?_) | (with_reducible (refine is_l ?_; (refine l_p tys rfl rfl ?_))))
  (with_reducible refine is_l ?_); refine l_ld tys rfl rfl (h.sent 3 (by decide) (by decide)).cell ?_
  (with_reducible refine is_l ?_); refine l_callp rfl rfl (by kernel_rfl) (is_not h (g := 13) (k := 3) (by decide) (by decide) (by decide) (by decide) (by decide)) ?_
  repeat' (first | (with_reducible first | refine p_tn ?_ | refine wp_seq ?_ | refine w_reg ?_) | (with_reducible (refine is_if ?_; (refine w_iff rfl ?_))) | (with_reducible refine l_nil ?_) | (with_reducible (refine is_l ?_; (refine l_p tys rfl rfl ?_))))
  (with_reducible refine is_l ?_); refine l_ld tys rfl rfl (h.sent 4 (by decide) (by decide)).cell ?_
  (with_reducible refine is_l ?_); refine l_callp rfl rfl (by kernel_rfl) (is_not h (g := 13) (k := 4) (by decide) (by decide) (by decide) (by decide) (by decide)) ?_
  repeat' (first | (with_reducible first | refine p_tn ?_ | refine wp_seq ?_ | refine w_reg ?_) | (with_reducible (refine is_if ?_; (refine w_iff rfl ?_))) | (with_reducible refine l_nil ?_) | (with_reducible (refine is_l ?_; (refine l_p tys rfl rfl ?_))))
  (with_reducible refine is_l ?_); refine l_ld tys rfl rfl (h.sent 5 (by decide) (by decide)).cell ?_
  (with_reducible refine is_l ?_); refine l_callp rfl rfl (by kernel_rfl) (is_not h (g := 13) (k := 5) (by decide) (by decide) (by decide) (by decide) (by decide)) ?_
  repeat' (first | (with_reducible first | refine p_tn ?_ | refine wp_seq ?_ | refine w_reg ?_) | (with_reducible (refine is_if ?_; (refine w_iff rfl ?_))) | (with_reducible refine l_nil ?_) | (with_reducible (refine is_l ?_; (refine l_p tys rfl rfl ?_))))
  (with_reducible refine is_l ?_); refine l_ld tys rfl rfl (h.sent 6 (by decide) (by decide)).cell ?_
  (with_reducible refine is_l ?_); refine l_callp rfl rfl (by kernel_rfl) (is_not h (g := 13) (k := 6) (by decide) (by decide) (by decide) (by decide) (by decide)) ?_
  repeat' (first | (with_reducible first | refine p_tn ?_ | refine wp_seq ?_ | refine w_reg ?_) | (with_reducible (refine is_if ?_; (refine w_iff rfl ?_))) | (with_reducible refine l_nil ?_) | (with_reducible (refine is_l ?_; (refine l_p tys rfl rfl ?_))))
  (with_reducible refine is_l ?_); refine l_ld tys rfl rfl (h.sent 7 (by decide) (by decide)).cell ?_
  (with_reducible refine is_l ?_); refine l_callp rfl rfl (by kernel_rfl) (is_not h (g := 13) (k := 7) (by decide) (by decide) (by decide) (by decide) (by decide)) ?_
  repeat' (first | (with_reducible first | refine p_tn ?_ | refine wp_seq ?_ | refine w_reg ?_) | (with_reducible (refine is_if ?_; (refine w_iff rfl ?_))) | (with_reducible refine l_nil ?_) | (with_reducible (refine is_l ?_; (refine l_p tys rfl rfl ?_))))
  (with_reducible refine is_l ?_); refine l_ld tys rfl rfl (h.sent 8 (by decide) (by decide)).cell ?_
  (with_reducible refine is_l ?_); refine l_callp rfl rfl (by kernel_rfl) (is_not h (g := 13) (k := 8) (by decide) (by decide) (by decide) (by decide) (by decide)) ?_
  repeat' (first | (with_reducible first | refine p_tn ?_ | refine wp_seq ?_ | refine w_reg ?_) | (with_reducible (refine is_if ?_; (refine w_iff rfl ?_))) | (with_reducible refine l_nil ?_) | (with_reducible (refine is_l ?_; (refine l_p tys rfl rfl ?_))))
  (with_reducible refine is_l ?_); refine l_ld tys rfl rfl (h.sent 9 (by decide) (by decide)).cell ?_
  (with_reducible refine is_l ?_); refine l_callp rfl rfl (by kernel_rfl) (is_not h (g := 13) (k := 9) (by decide) (by decide) (by decide) (by decide) (by decide)) ?_
  repeat' (first | (with_reducible first | refine p_tn ?_ | refine wp_seq ?_ | refine w_reg ?_) | (with_reducible (refine is_if ?_; (refine w_iff rfl ?_))) | (with_reducible refine l_nil ?_) | (with_reducible (refine is_l ?_; (refine l_p tys rfl rfl ?_))))
  (with_reducible refine is_l ?_); refine l_ld tys rfl rfl (h.sent 10 (by decide) (by decide)).cell ?_
  (with_reducible refine is_l ?_); refine l_callp rfl rfl (by kernel_rfl) (is_not h (g := 13) (k := 10) (by decide) (by decide) (by decide) (by decide) (by decide)) ?_
  repeat' (first | (with_reducible first | refine p_tn ?_ | refine wp_seq ?_ | refine w_reg ?_) | (with_reducible (refine is_if ?_; (refine w_iff rfl ?_))) | (with_reducible refine l_nil ?_) | (with_reducible (refine is_l ?_; (refine l_p tys rfl rfl ?_))))
  (with_reducible refine is_l ?_); refine l_ld tys rfl rfl (h.sent 11 (by decide) (by decide)).cell ?_
  (with_reducible refine is_l ?_); refine l_callp rfl rfl (by kernel_rfl) (is_not h (g := 13) (k := 11) (by decide) (by decide) (by decide) (by decide) (by decide)) ?_
  repeat' (first | (with_reducible first | refine p_tn ?_ | refine wp_seq ?_ | refine w_reg ?_) | (with_reducible (refine is_if ?_; (refine w_iff rfl ?_))) | (with_reducible refine l_nil ?_) | (with_reducible (refine is_l ?_; (refine l_p tys rfl rfl ?_))))
  (with_reducible refine is_l ?_); refine l_ld tys rfl rfl (h.sent 2 (by decide) (by decide)).cell ?_
  (with_reducible refine is_l ?_); refine l_callp rfl rfl (by kernel_rfl) (is_not h (g := 13) (k := 2) (by decide) (by decide) (by decide) (by decide) (by decide)) ?_
  repeat' (first | (with_reducible first | refine p_tn ?_ | refine wp_seq ?_ | refine w_reg ?_) | (with_reducible (refine is_if ?_; (refine w_iff rfl ?_))) | (with_reducible refine l_nil ?_) | (with_reducible (refine is_l ?_; (refine l_p tys rfl rfl ?_))))
  (with_reducible refine is_l ?_); refine l_ld tys rfl rfl (h.sent 12 (by decide) (by decide)).cell ?_
  (with_reducible refine is_l ?_); refine l_callp rfl rfl (by kernel_rfl) (is_not h (g := 13) (k := 12) (by decide) (by decide) (by decide) (by decide) (by decide)) ?_
  repeat' (first | (with_reducible first | refine p_tn ?_ | refine p_bn ?_ | refine wp_seq ?_ | refine w_reg ?_) | (with_reducible (refine is_if ?_; (refine w_iff rfl ?_))) | (with_reducible first | refine wp_skip ?_ | refine wp_ret ?_ | refine l_nil ?_) | (with_reducible (refine is_l ?_; (refine l_p tys rfl rfl ?_))))
  refine end1 rfl rfl ?_
  exact ⟨rfl, rfl⟩
def codeE : Nat → Int
  | 3 => 1
  | 4 => 2
  | 5 => 140
  | 6 => 141
  | 7 => 142
  | 8 => 143
  | 9 => 144
  | 10 => 145
  | 11 => 146
  | 2 => 147
  | 12 => 148
  | _ => 149
theorem numberOf_c {A : Nat → Addr} {w : World} (h : LayS A w) : ∀ g, 2 ≤ g → g ≤ 13 → Calls Tryz.prog 52 #[errV (A g)] w fun e w' => e = .returned (.int .i64 (codeE g)) ∧ w' = w := by
  intro g h2 h12
  match g, h2, h12 with
  | 2, _, _ => exact number_2 h
  | 3, _, _ => exact number_3 h
  | 4, _, _ => exact number_4 h
  | 5, _, _ => exact number_5 h
  | 6, _, _ => exact number_6 h
  | 7, _, _ => exact number_7 h
  | 8, _, _ => exact number_8 h
  | 9, _, _ => exact number_9 h
  | 10, _, _ => exact number_10 h
  | 11, _, _ => exact number_11 h
  | 12, _, _ => exact number_12 h
  | 13, _, _ => exact number_13 h
end Go.Proofs.YthgojbdpmcccaaaGreatDoor.K
end
section
namespace Go.Proofs.YthgojbdpmcccaaaGreatDoor.K
open Go.RowKit Go.Proofs.YthgojbdpmcccaaaGreatDoor.Q Go.Proofs.YthgojbdpmcccaaaGreatDoor.Wb Go.Proofs.YthgojbdpmcccaaaGreatDoorW.PrintWords
set_option linter.unusedVariables false
set_option linter.unusedSimpArgs false
theorem isp_not {A : Nat → Addr} {w : World} (h : LayS A w) (part : ByteArray) {g k : Nat} (h2 : 2 ≤ g) (h12 : g ≤ 12) (k2 : 2 ≤ k) (k12 : k ≤ 12) (hn : g ≠ k) :
    Calls Tryz.prog 104 #[placV part (errV (A g)), errV (A k)] w fun e w' => e = .returned (.bool false) ∧ Below w.heap.size w w' := by
  obtain ⟨c, t, hr⟩ := (h.sent g h2 (by omega)).row
  obtain ⟨c', t', hr'⟩ := (h.sent k k2 (by omega)).row
  exact Is.is_pother part (A g) (A k) c c' t t' w (h.ne g k h2 (by omega) k2 (by omega) hn) hr hr'
set_option maxHeartbeats 2000000 in
theorem numberP_3 {A : Nat → Addr} {w : World} (h : LayS A w) (part : ByteArray) : Calls Tryz.prog 52 #[placV part (errV (A 3))] w fun e w' => e = .returned (.int .i64 1) ∧ Below w.heap.size w w' := by
  refine enter (args := [placV part (errV (A 3))]) Tryz.func52 rfl Tryz.ntmps52 rfl ?_
  have B0 := Below.refl w.heap.size w
  repeat' (first | (with_reducible first | refine p_tn ?_ | refine wp_seq ?_ | refine wp_block ?_ | refine w_reg ?_ | refine l_nil ?_) | (with_reducible (refine is_l ?_; (refine l_p tys rfl rfl ?_))))
  (with_reducible refine is_l ?_); refine l_t tys rfl rfl (fun h => h.elim) (fun _ => ?_)
  repeat' (first | (with_reducible first | refine p_tn ?_ | refine wp_seq ?_ | refine w_reg ?_) | (with_reducible (refine is_if ?_; (refine w_iff rfl ?_))) | (with_reducible refine l_nil ?_) | (with_reducible (refine is_l ?_; (refine l_p tys rfl rfl ?_))))
  (with_reducible refine is_l ?_); refine l_ld tys rfl rfl ((h.below B0).sent 3 (by decide) (by decide)).cell ?_
  (with_reducible refine is_l ?_); refine l_callv rfl rfl (by kernel_rfl) (Is.is_psame part (A 3) _) (fun w1 K1 => ?_)
  have B1 := Bt B0 K1
  repeat' (first | (with_reducible first | refine p_tn ?_ | refine p_tr ?_ | refine p_br ?_ | refine wp_seq ?_ | refine w_reg ?_) | (with_reducible (refine is_if ?_; (refine w_ift rfl ?_))) | (with_reducible first | refine wp_ret ?_ | refine l_nil ?_) | (with_reducible (refine is_l ?_; (refine l_p tys rfl rfl ?_))))
  refine end1 rfl rfl ?_
  exact ⟨rfl, B1⟩
set_option maxHeartbeats 2000000 in
theorem numberP_4 {A : Nat → Addr} {w : World} (h : LayS A w) (part : ByteArray) : Calls Tryz.prog 52 #[placV part (errV (A 4))] w fun e w' => e = .returned (.int .i64 2) ∧ Below w.heap.size w w' := by
  refine enter (args := [placV part (errV (A 4))]) Tryz.func52 rfl Tryz.ntmps52 rfl ?_
  have B0 := Below.refl w.heap.size w
  repeat' (first | (with_reducible first | refine p_tn ?_ | refine wp_seq ?_ | refine wp_block ?_ | refine w_reg ?_ | refine l_nil ?_) | (with_reducible (refine is_l ?_; (refine l_p tys rfl rfl ?_))))
  (with_reducible refine is_l ?_); refine l_t tys rfl rfl (fun h => h.elim) (fun _ => ?_)
  repeat' (first | (with_reducible first | refine p_tn ?_ | refine wp_seq ?_ | refine w_reg ?_) | (with_reducible (refine is_if ?_; (refine w_iff rfl ?_))) | (with_reducible refine l_nil ?_) | (with_reducible (refine is_l ?_; (refine l_p tys rfl rfl ?_))))
  (with_reducible refine is_l ?_); refine l_ld tys rfl rfl ((h.below B0).sent 3 (by decide) (by decide)).cell ?_
  (with_reducible refine is_l ?_); refine l_callv rfl rfl (by kernel_rfl) (isp_not (h.below B0) part (g := 4) (k := 3) (by decide) (by decide) (by decide) (by decide) (by decide)) (fun w1 K1 => ?_)
  have B1 := Bt B0 K1
  repeat' (first | (with_reducible first | refine p_tn ?_ | refine wp_seq ?_ | refine w_reg ?_) | (with_reducible (refine is_if ?_; (refine w_iff rfl ?_))) | (with_reducible refine l_nil ?_) | (with_reducible (refine is_l ?_; (refine l_p tys rfl rfl ?_))))
  (with_reducible refine is_l ?_); refine l_ld tys rfl rfl ((h.below B1).sent 4 (by decide) (by decide)).cell ?_
  (with_reducible refine is_l ?_); refine l_callv rfl rfl (by kernel_rfl) (Is.is_psame part (A 4) _) (fun w2 K2 => ?_)
  have B2 := Bt B1 K2
  repeat' (first | (with_reducible first | refine p_tn ?_ | refine p_tr ?_ | refine p_br ?_ | refine wp_seq ?_ | refine w_reg ?_) | (with_reducible (refine is_if ?_; (refine w_ift rfl ?_))) | (with_reducible first | refine wp_ret ?_ | refine l_nil ?_) | (with_reducible (refine is_l ?_; (refine l_p tys rfl rfl ?_))))
  refine end1 rfl rfl ?_
  exact ⟨rfl, B2⟩
set_option maxHeartbeats 2000000 in
theorem numberP_5 {A : Nat → Addr} {w : World} (h : LayS A w) (part : ByteArray) : Calls Tryz.prog 52 #[placV part (errV (A 5))] w fun e w' => e = .returned (.int .i64 140) ∧ Below w.heap.size w w' := by
  refine enter (args := [placV part (errV (A 5))]) Tryz.func52 rfl Tryz.ntmps52 rfl ?_
  have B0 := Below.refl w.heap.size w
  repeat' (first | (with_reducible first | refine p_tn ?_ | refine wp_seq ?_ | refine wp_block ?_ | refine w_reg ?_ | refine l_nil ?_) | (with_reducible (refine is_l ?_; (refine l_p tys rfl rfl ?_))))
  (with_reducible refine is_l ?_); refine l_t tys rfl rfl (fun h => h.elim) (fun _ => ?_)
  repeat' (first | (with_reducible first | refine p_tn ?_ | refine wp_seq ?_ | refine w_reg ?_) | (with_reducible (refine is_if ?_; (refine w_iff rfl ?_))) | (with_reducible refine l_nil ?_) | (with_reducible (refine is_l ?_; (refine l_p tys rfl rfl ?_))))
  (with_reducible refine is_l ?_); refine l_ld tys rfl rfl ((h.below B0).sent 3 (by decide) (by decide)).cell ?_
  (with_reducible refine is_l ?_); refine l_callv rfl rfl (by kernel_rfl) (isp_not (h.below B0) part (g := 5) (k := 3) (by decide) (by decide) (by decide) (by decide) (by decide)) (fun w1 K1 => ?_)
  have B1 := Bt B0 K1
  repeat' (first | (with_reducible first | refine p_tn ?_ | refine wp_seq ?_ | refine w_reg ?_) | (with_reducible (refine is_if ?_; (refine w_iff rfl ?_))) | (with_reducible refine l_nil ?_) | (with_reducible (refine is_l ?_; (refine l_p tys rfl rfl ?_))))
  (with_reducible refine is_l ?_); refine l_ld tys rfl rfl ((h.below B1).sent 4 (by decide) (by decide)).cell ?_
  (with_reducible refine is_l ?_); refine l_callv rfl rfl (by kernel_rfl) (isp_not (h.below B1) part (g := 5) (k := 4) (by decide) (by decide) (by decide) (by decide) (by decide)) (fun w2 K2 => ?_)
  have B2 := Bt B1 K2
  repeat' (first | (with_reducible first | refine p_tn ?_ | refine wp_seq ?_ | refine w_reg ?_) | (with_reducible (refine is_if ?_; (refine w_iff rfl ?_))) | (with_reducible refine l_nil ?_) | (with_reducible (refine is_l ?_; (refine l_p tys rfl rfl ?_))))
  (with_reducible refine is_l ?_); refine l_ld tys rfl rfl ((h.below B2).sent 5 (by decide) (by decide)).cell ?_
  (with_reducible refine is_l ?_); refine l_callv rfl rfl (by kernel_rfl) (Is.is_psame part (A 5) _) (fun w3 K3 => ?_)
  have B3 := Bt B2 K3
  repeat' (first | (with_reducible first | refine p_tn ?_ | refine p_tr ?_ | refine p_br ?_ | refine wp_seq ?_ | refine w_reg ?_) | (with_reducible (refine is_if ?_; (refine w_ift rfl ?_))) | (with_reducible first | refine wp_ret ?_ | refine l_nil ?_) | (with_reducible (refine is_l ?_; (refine l_p tys rfl rfl ?_))))
  refine end1 rfl rfl ?_
  exact ⟨rfl, B3⟩
set_option maxHeartbeats 2000000 in
theorem numberP_6 {A : Nat → Addr} {w : World} (h : LayS A w) (part : ByteArray) : Calls Tryz.prog 52 #[placV part (errV (A 6))] w fun e w' => e = .returned (.int .i64 141) ∧ Below w.heap.size w w' := by
  refine enter (args := [placV part (errV (A 6))]) Tryz.func52 rfl Tryz.ntmps52 rfl ?_
  have B0 := Below.refl w.heap.size w
  repeat' (first | (with_reducible first | refine p_tn ?_ | refine wp_seq ?_ | refine wp_block ?_ | refine w_reg ?_ | refine l_nil ?_) | (with_reducible (refine is_l ?_; (refine l_p tys rfl rfl ?_))))
  (with_reducible refine is_l ?_); refine l_t tys rfl rfl (fun h => h.elim) (fun _ => ?_)
  repeat' (first | (with_reducible first | refine p_tn ?_ | refine wp_seq ?_ | refine w_reg ?_) | (with_reducible (refine is_if ?_; (refine w_iff rfl ?_))) | (with_reducible refine l_nil ?_) | (with_reducible (refine is_l ?_; (refine l_p tys rfl rfl ?_))))
  (with_reducible refine is_l ?_); refine l_ld tys rfl rfl ((h.below B0).sent 3 (by decide) (by decide)).cell ?_
  (with_reducible refine is_l ?_); refine l_callv rfl rfl (by kernel_rfl) (isp_not (h.below B0) part (g := 6) (k := 3) (by decide) (by decide) (by decide) (by decide) (by decide)) (fun w1 K1 => ?_)
  have B1 := Bt B0 K1
  repeat' (first | (with_reducible first | refine p_tn ?_ | refine wp_seq ?_ | refine w_reg ?_) | (with_reducible (refine is_if ?_; (refine w_iff rfl ?_))) | (with_reducible refine l_nil ?_) | (with_reducible (refine is_l ?_; (refine l_p tys rfl rfl ?_))))
  (with_reducible refine is_l ?_); refine l_ld tys rfl rfl ((h.below B1).sent 4 (by decide) (by decide)).cell ?_
  (with_reducible refine is_l ?_); refine l_callv rfl rfl (by kernel_rfl) (isp_not (h.below B1) part (g := 6) (k := 4) (by decide) (by decide) (by decide) (by decide) (by decide)) (fun w2 K2 => ?_)
  have B2 := Bt B1 K2
  repeat' (first | (with_reducible first | refine p_tn ?_ | refine wp_seq ?_ | refine w_reg ?_) | (with_reducible (refine is_if ?_; (refine w_iff rfl ?_))) | (with_reducible refine l_nil ?_) | (with_reducible (refine is_l ?_; (refine l_p tys rfl rfl ?_))))
  (with_reducible refine is_l ?_); refine l_ld tys rfl rfl ((h.below B2).sent 5 (by decide) (by decide)).cell ?_
  (with_reducible refine is_l ?_); refine l_callv rfl rfl (by kernel_rfl) (isp_not (h.below B2) part (g := 6) (k := 5) (by decide) (by decide) (by decide) (by decide) (by decide)) (fun w3 K3 => ?_)
  have B3 := Bt B2 K3
  repeat' (first | (with_reducible first | refine p_tn ?_ | refine wp_seq ?_ | refine w_reg ?_) | (with_reducible (refine is_if ?_; (refine w_iff rfl ?_))) | (with_reducible refine l_nil ?_) | (with_reducible (refine is_l ?_; (refine l_p tys rfl rfl ?_))))
  (with_reducible refine is_l ?_); refine l_ld tys rfl rfl ((h.below B3).sent 6 (by decide) (by decide)).cell ?_
  (with_reducible refine is_l ?_); refine l_callv rfl rfl (by kernel_rfl) (Is.is_psame part (A 6) _) (fun w4 K4 => ?_)
  have B4 := Bt B3 K4
  repeat' (first | (with_reducible first | refine p_tn ?_ | refine p_tr ?_ | refine p_br ?_ | refine wp_seq ?_ | refine w_reg ?_) | (with_reducible (refine is_if ?_; (refine w_ift rfl ?_))) | (with_reducible first | refine wp_ret ?_ | refine l_nil ?_) | (with_reducible (refine is_l ?_; (refine l_p tys rfl rfl ?_))))
  refine end1 rfl rfl ?_
  exact ⟨rfl, B4⟩
set_option maxHeartbeats 2000000 in
theorem numberP_7 {A : Nat → Addr} {w : World} (h : LayS A w) (part : ByteArray) : Calls Tryz.prog 52 #[placV part (errV (A 7))] w fun e w' => e = .returned (.int .i64 142) ∧ Below w.heap.size w w' := by
  refine enter (args := [placV part (errV (A 7))]) Tryz.func52 rfl Tryz.ntmps52 rfl ?_
  have B0 := Below.refl w.heap.size w
  repeat' (first | (with_reducible first | refine p_tn ?_ | refine wp_seq ?_ | refine wp_block ?_ | refine w_reg ?_ | refine l_nil ?_) | (with_reducible (refine is_l ?_; (refine l_p tys rfl rfl ?_))))
  (with_reducible refine is_l ?_); refine l_t tys rfl rfl (fun h => h.elim) (fun _ => ?_)
  repeat' (first | (with_reducible first | refine p_tn ?_ | refine wp_seq ?_ | refine w_reg ?_) | (with_reducible (refine is_if ?_; (refine w_iff rfl ?_))) | (with_reducible refine l_nil ?_) | (with_reducible (refine is_l ?_; (refine l_p tys rfl rfl ?_))))
  (with_reducible refine is_l ?_); refine l_ld tys rfl rfl ((h.below B0).sent 3 (by decide) (by decide)).cell ?_
  (with_reducible refine is_l ?_); refine l_callv rfl rfl (by kernel_rfl) (isp_not (h.below B0) part (g := 7) (k := 3) (by decide) (by decide) (by decide) (by decide) (by decide)) (fun w1 K1 => ?_)
  have B1 := Bt B0 K1
  repeat' (first | (with_reducible first | refine p_tn ?_ | refine wp_seq ?_ | refine w_reg ?_) | (with_reducible (refine is_if ?_; (refine w_iff rfl ?_))) | (with_reducible refine l_nil ?_) | (with_reducible (refine is_l ?_; (refine l_p tys rfl rfl ?_))))
  (with_reducible refine is_l ?_); refine l_ld tys rfl rfl ((h.below B1).sent 4 (by decide) (by decide)).cell ?_
  (with_reducible refine is_l ?_); refine l_callv rfl rfl (by kernel_rfl) (isp_not (h.below B1) part (g := 7) (k := 4) (by decide) (by decide) (by decide) (by decide) (by decide)) (fun w2 K2 => ?_)
  have B2 := Bt B1 K2
  repeat' (first | (with_reducible first | refine p_tn ?_ | refine wp_seq ?_ | refine w_reg ?_) | (with_reducible (refine is_if ?_; (refine w_iff rfl ?_))) | (with_reducible refine l_nil ?_) | (with_reducible (refine is_l ?_; (refine l_p tys rfl rfl ?_))))
  (with_reducible refine is_l ?_); refine l_ld tys rfl rfl ((h.below B2).sent 5 (by decide) (by decide)).cell ?_
  (with_reducible refine is_l ?_); refine l_callv rfl rfl (by kernel_rfl) (isp_not (h.below B2) part (g := 7) (k := 5) (by decide) (by decide) (by decide) (by decide) (by decide)) (fun w3 K3 => ?_)
  have B3 := Bt B2 K3
  repeat' (first | (with_reducible first | refine p_tn ?_ | refine wp_seq ?_ | refine w_reg ?_) | (with_reducible (refine is_if ?_; (refine w_iff rfl ?_))) | (with_reducible refine l_nil ?_) | (with_reducible (refine is_l ?_; (refine l_p tys rfl rfl ?_))))
  (with_reducible refine is_l ?_); refine l_ld tys rfl rfl ((h.below B3).sent 6 (by decide) (by decide)).cell ?_
  (with_reducible refine is_l ?_); refine l_callv rfl rfl (by kernel_rfl) (isp_not (h.below B3) part (g := 7) (k := 6) (by decide) (by decide) (by decide) (by decide) (by decide)) (fun w4 K4 => ?_)
  have B4 := Bt B3 K4
  repeat' (first | (with_reducible first | refine p_tn ?_ | refine wp_seq ?_ | refine w_reg ?_) | (with_reducible (refine is_if ?_; (refine w_iff rfl ?_))) | (with_reducible refine l_nil ?_) | (with_reducible (refine is_l ?_; (refine l_p tys rfl rfl ?_))))
  (with_reducible refine is_l ?_); refine l_ld tys rfl rfl ((h.below B4).sent 7 (by decide) (by decide)).cell ?_
  (with_reducible refine is_l ?_); refine l_callv rfl rfl (by kernel_rfl) (Is.is_psame part (A 7) _) (fun w5 K5 => ?_)
  have B5 := Bt B4 K5
  repeat' (first | (with_reducible first | refine p_tn ?_ | refine p_tr ?_ | refine p_br ?_ | refine wp_seq ?_ | refine w_reg ?_) | (with_reducible (refine is_if ?_; (refine w_ift rfl ?_))) | (with_reducible first | refine wp_ret ?_ | refine l_nil ?_) | (with_reducible (refine is_l ?_; (refine l_p tys rfl rfl ?_))))
  refine end1 rfl rfl ?_
  exact ⟨rfl, B5⟩
set_option maxHeartbeats 2000000 in
theorem numberP_8 {A : Nat → Addr} {w : World} (h : LayS A w) (part : ByteArray) : Calls Tryz.prog 52 #[placV part (errV (A 8))] w fun e w' => e = .returned (.int .i64 143) ∧ Below w.heap.size w w' := by
  refine enter (args := [placV part (errV (A 8))]) Tryz.func52 rfl Tryz.ntmps52 rfl ?_
  have B0 := Below.refl w.heap.size w
  repeat' (first | (with_reducible first | refine p_tn ?_ | refine wp_seq ?_ | refine wp_block ?_ | refine w_reg ?_ | refine l_nil ?_) | (with_reducible (refine is_l ?_; (refine l_p tys rfl rfl ?_))))
  (with_reducible refine is_l ?_); refine l_t tys rfl rfl (fun h => h.elim) (fun _ => ?_)
  repeat' (first | (with_reducible first | refine p_tn ?_ | refine wp_seq ?_ | refine w_reg ?_) | (with_reducible (refine is_if ?_; (refine w_iff rfl ?_))) | (with_reducible refine l_nil ?_) | (with_reducible (refine is_l ?_; (refine l_p tys rfl rfl ?_))))
  (with_reducible refine is_l ?_); refine l_ld tys rfl rfl ((h.below B0).sent 3 (by decide) (by decide)).cell ?_
  (with_reducible refine is_l ?_); refine l_callv rfl rfl (by kernel_rfl) (isp_not (h.below B0) part (g := 8) (k := 3) (by decide) (by decide) (by decide) (by decide) (by decide)) (fun w1 K1 => ?_)
  have B1 := Bt B0 K1
  repeat' (first | (with_reducible first | refine p_tn ?_ | refine wp_seq ?_ | refine w_reg ?_) | (with_reducible (refine is_if ?_; (refine w_iff rfl ?_))) | (with_reducible refine l_nil ?_) | (with_reducible (refine is_l ?_; (refine l_p tys rfl rfl ?_))))
  (with_reducible refine is_l ?_); refine l_ld tys rfl rfl ((h.below B1).sent 4 (by decide) (by decide)).cell ?_
  (with_reducible refine is_l ?_); refine l_callv rfl rfl (by kernel_rfl) (isp_not (h.below B1) part (g := 8) (k := 4) (by decide) (by decide) (by decide) (by decide) (by decide)) (fun w2 K2 => ?_)
  have B2 := Bt B1 K2
  repeat' (first | (with_reducible first | refine p_tn ?_ | refine wp_seq ?_ | refine w_reg ?_) | (with_reducible (refine is_if ?_; (refine w_iff rfl ?_))) | (with_reducible refine l_nil ?_) | (with_reducible (refine is_l ?_; (refine l_p tys rfl rfl ?_))))
  (with_reducible refine is_l ?_); refine l_ld tys rfl rfl ((h.below B2).sent 5 (by decide) (by decide)).cell ?_
  (with_reducible refine is_l ?_); refine l_callv rfl rfl (by kernel_rfl) (isp_not (h.below B2) part (g := 8) (k := 5) (by decide) (by decide) (by decide) (by decide) (by decide)) (fun w3 K3 => ?_)
  have B3 := Bt B2 K3
  repeat' (first | (with_reducible first | refine p_tn ?_ | refine wp_seq ?_ | refine w_reg ?_) | (with_reducible (refine is_if ?_; (refine w_iff rfl ?_))) | (with_reducible refine l_nil ?_) | (with_reducible (refine is_l ?_; (refine l_p tys rfl rfl ?_))))
  (with_reducible refine is_l ?_); refine l_ld tys rfl rfl ((h.below B3).sent 6 (by decide) (by decide)).cell ?_
  (with_reducible refine is_l ?_); refine l_callv rfl rfl (by kernel_rfl) (isp_not (h.below B3) part (g := 8) (k := 6) (by decide) (by decide) (by decide) (by decide) (by decide)) (fun w4 K4 => ?_)
  have B4 := Bt B3 K4
  repeat' (first | (with_reducible first | refine p_tn ?_ | refine wp_seq ?_ | refine w_reg ?_) | (with_reducible (refine is_if ?_; (refine w_iff rfl ?_))) | (with_reducible refine l_nil ?_) | (with_reducible (refine is_l ?_; (refine l_p tys rfl rfl ?_))))
  (with_reducible refine is_l ?_); refine l_ld tys rfl rfl ((h.below B4).sent 7 (by decide) (by decide)).cell ?_
  (with_reducible refine is_l ?_); refine l_callv rfl rfl (by kernel_rfl) (isp_not (h.below B4) part (g := 8) (k := 7) (by decide) (by decide) (by decide) (by decide) (by decide)) (fun w5 K5 => ?_)
  have B5 := Bt B4 K5
  repeat' (first | (with_reducible first | refine p_tn ?_ | refine wp_seq ?_ | refine w_reg ?_) | (with_reducible (refine is_if ?_; (refine w_iff rfl ?_))) | (with_reducible refine l_nil ?_) | (with_reducible (refine is_l ?_; (refine l_p tys rfl rfl ?_))))
  (with_reducible refine is_l ?_); refine l_ld tys rfl rfl ((h.below B5).sent 8 (by decide) (by decide)).cell ?_
  (with_reducible refine is_l ?_); refine l_callv rfl rfl (by kernel_rfl) (Is.is_psame part (A 8) _) (fun w6 K6 => ?_)
  have B6 := Bt B5 K6
  repeat' (first | (with_reducible first | refine p_tn ?_ | refine p_tr ?_ | refine p_br ?_ | refine wp_seq ?_ | refine w_reg ?_) | (with_reducible (refine is_if ?_; (refine w_ift rfl ?_))) | (with_reducible first | refine wp_ret ?_ | refine l_nil ?_) | (with_reducible (refine is_l ?_; (refine l_p tys rfl rfl ?_))))
  refine end1 rfl rfl ?_
  exact ⟨rfl, B6⟩
set_option maxHeartbeats 2000000 in
theorem numberP_9 {A : Nat → Addr} {w : World} (h : LayS A w) (part : ByteArray) : Calls Tryz.prog 52 #[placV part (errV (A 9))] w fun e w' => e = .returned (.int .i64 144) ∧ Below w.heap.size w w' := by
  refine enter (args := [placV part (errV (A 9))]) Tryz.func52 rfl Tryz.ntmps52 rfl ?_
  have B0 := Below.refl w.heap.size w
  repeat' (first | (with_reducible first | refine p_tn ?_ | refine wp_seq ?_ | refine wp_block ?_ | refine w_reg ?_ | refine l_nil ?_) | (with_reducible (refine is_l ?_; (refine l_p tys rfl rfl ?_))))
  (with_reducible refine is_l ?_); refine l_t tys rfl rfl (fun h => h.elim) (fun _ => ?_)
  repeat' (first | (with_reducible first | refine p_tn ?_ | refine wp_seq ?_ | refine w_reg ?_) | (with_reducible (refine is_if ?_; (refine w_iff rfl ?_))) | (with_reducible refine l_nil ?_) | (with_reducible (refine is_l ?_; (refine l_p tys rfl rfl ?_))))
  (with_reducible refine is_l ?_); refine l_ld tys rfl rfl ((h.below B0).sent 3 (by decide) (by decide)).cell ?_
  (with_reducible refine is_l ?_); refine l_callv rfl rfl (by kernel_rfl) (isp_not (h.below B0) part (g := 9) (k := 3) (by decide) (by decide) (by decide) (by decide) (by decide)) (fun w1 K1 => ?_)
  have B1 := Bt B0 K1
  repeat' (first | (with_reducible first | refine p_tn ?_ | refine wp_seq ?_ | refine w_reg ?_) | (with_reducible (refine is_if ?_; (refine w_iff rfl ?_))) | (with_reducible refine l_nil ?_) | (with_reducible (refine is_l ?_; (refine l_p tys rfl rfl ?_))))
  (with_reducible refine is_l ?_); refine l_ld tys rfl rfl ((h.below B1).sent 4 (by decide) (by decide)).cell ?_
  (with_reducible refine is_l ?_); refine l_callv rfl rfl (by kernel_rfl) (isp_not (h.below B1) part (g := 9) (k := 4) (by decide) (by decide) (by decide) (by decide) (by decide)) (fun w2 K2 => ?_)
  have B2 := Bt B1 K2
  repeat' (first | (with_reducible first | refine p_tn ?_ | refine wp_seq ?_ | refine w_reg ?_) | (with_reducible (refine is_if ?_; (refine w_iff rfl ?_))) | (with_reducible refine l_nil ?_) | (with_reducible (refine is_l ?_; (refine l_p tys rfl rfl ?_))))
  (with_reducible refine is_l ?_); refine l_ld tys rfl rfl ((h.below B2).sent 5 (by decide) (by decide)).cell ?_
  (with_reducible refine is_l ?_); refine l_callv rfl rfl (by kernel_rfl) (isp_not (h.below B2) part (g := 9) (k := 5) (by decide) (by decide) (by decide) (by decide) (by decide)) (fun w3 K3 => ?_)
  have B3 := Bt B2 K3
  repeat' (first | (with_reducible first | refine p_tn ?_ | refine wp_seq ?_ | refine w_reg ?_) | (with_reducible (refine is_if ?_; (refine w_iff rfl ?_))) | (with_reducible refine l_nil ?_) | (with_reducible (refine is_l ?_; (refine l_p tys rfl rfl ?_))))
  (with_reducible refine is_l ?_); refine l_ld tys rfl rfl ((h.below B3).sent 6 (by decide) (by decide)).cell ?_
  (with_reducible refine is_l ?_); refine l_callv rfl rfl (by kernel_rfl) (isp_not (h.below B3) part (g := 9) (k := 6) (by decide) (by decide) (by decide) (by decide) (by decide)) (fun w4 K4 => ?_)
  have B4 := Bt B3 K4
  repeat' (first | (with_reducible first | refine p_tn ?_ | refine wp_seq ?_ | refine w_reg ?_) | (with_reducible (refine is_if ?_; (refine w_iff rfl ?_))) | (with_reducible refine l_nil ?_) | (with_reducible (refine is_l ?_; (refine l_p tys rfl rfl ?_))))
  (with_reducible refine is_l ?_); refine l_ld tys rfl rfl ((h.below B4).sent 7 (by decide) (by decide)).cell ?_
  (with_reducible refine is_l ?_); refine l_callv rfl rfl (by kernel_rfl) (isp_not (h.below B4) part (g := 9) (k := 7) (by decide) (by decide) (by decide) (by decide) (by decide)) (fun w5 K5 => ?_)
  have B5 := Bt B4 K5
  repeat' (first | (with_reducible first | refine p_tn ?_ | refine wp_seq ?_ | refine w_reg ?_) | (with_reducible (refine is_if ?_; (refine w_iff rfl ?_))) | (with_reducible refine l_nil ?_) | (with_reducible (refine is_l ?_; (refine l_p tys rfl rfl ?_))))
  (with_reducible refine is_l ?_); refine l_ld tys rfl rfl ((h.below B5).sent 8 (by decide) (by decide)).cell ?_
  (with_reducible refine is_l ?_); refine l_callv rfl rfl (by kernel_rfl) (isp_not (h.below B5) part (g := 9) (k := 8) (by decide) (by decide) (by decide) (by decide) (by decide)) (fun w6 K6 => ?_)
  have B6 := Bt B5 K6
  repeat' (first | (with_reducible first | refine p_tn ?_ | refine wp_seq ?_ | refine w_reg ?_) | (with_reducible (refine is_if ?_; (refine w_iff rfl ?_))) | (with_reducible refine l_nil ?_) | (with_reducible (refine is_l ?_; (refine l_p tys rfl rfl ?_))))
  (with_reducible refine is_l ?_); refine l_ld tys rfl rfl ((h.below B6).sent 9 (by decide) (by decide)).cell ?_
  (with_reducible refine is_l ?_); refine l_callv rfl rfl (by kernel_rfl) (Is.is_psame part (A 9) _) (fun w7 K7 => ?_)
  have B7 := Bt B6 K7
  repeat' (first | (with_reducible first | refine p_tn ?_ | refine p_tr ?_ | refine p_br ?_ | refine wp_seq ?_ | refine w_reg ?_) | (with_reducible (refine is_if ?_; (refine w_ift rfl ?_))) | (with_reducible first | refine wp_ret ?_ | refine l_nil ?_) | (with_reducible (refine is_l ?_; (refine l_p tys rfl rfl ?_))))
  refine end1 rfl rfl ?_
  exact ⟨rfl, B7⟩
set_option maxHeartbeats 2000000 in
theorem numberP_10 {A : Nat → Addr} {w : World} (h : LayS A w) (part : ByteArray) : Calls Tryz.prog 52 #[placV part (errV (A 10))] w fun e w' => e = .returned (.int .i64 145) ∧ Below w.heap.size w w' := by
  refine enter (args := [placV part (errV (A 10))]) Tryz.func52 rfl Tryz.ntmps52 rfl ?_
  have B0 := Below.refl w.heap.size w
  repeat' (first | (with_reducible first | refine p_tn ?_ | refine wp_seq ?_ | refine wp_block ?_ | refine w_reg ?_ | refine l_nil ?_) | (with_reducible (refine is_l ?_; (refine l_p tys rfl rfl ?_))))
  (with_reducible refine is_l ?_); refine l_t tys rfl rfl (fun h => h.elim) (fun _ => ?_)
  repeat' (first | (with_reducible first | refine p_tn ?_ | refine wp_seq ?_ | refine w_reg ?_) | (with_reducible (refine is_if ?_; (refine w_iff rfl ?_))) | (with_reducible refine l_nil ?_) | (with_reducible (refine is_l ?_; (refine l_p tys rfl rfl ?_))))
  (with_reducible refine is_l ?_); refine l_ld tys rfl rfl ((h.below B0).sent 3 (by decide) (by decide)).cell ?_
  (with_reducible refine is_l ?_); refine l_callv rfl rfl (by kernel_rfl) (isp_not (h.below B0) part (g := 10) (k := 3) (by decide) (by decide) (by decide) (by decide) (by decide)) (fun w1 K1 => ?_)
  have B1 := Bt B0 K1
  repeat' (first | (with_reducible first | refine p_tn ?_ | refine wp_seq ?_ | refine w_reg ?_) | (with_reducible (refine is_if ?_; (refine w_iff rfl ?_))) | (with_reducible refine l_nil ?_) | (with_reducible (refine is_l ?_; (refine l_p tys rfl rfl ?_))))
  (with_reducible refine is_l ?_); refine l_ld tys rfl rfl ((h.below B1).sent 4 (by decide) (by decide)).cell ?_
  (with_reducible refine is_l ?_); refine l_callv rfl rfl (by kernel_rfl) (isp_not (h.below B1) part (g := 10) (k := 4) (by decide) (by decide) (by decide) (by decide) (by decide)) (fun w2 K2 => ?_)
  have B2 := Bt B1 K2
  repeat' (first | (with_reducible first | refine p_tn ?_ | refine wp_seq ?_ | refine w_reg ?_) | (with_reducible (refine is_if ?_; (refine w_iff rfl ?_))) | (with_reducible refine l_nil ?_) | (with_reducible (refine is_l ?_; (refine l_p tys rfl rfl ?_))))
  (with_reducible refine is_l ?_); refine l_ld tys rfl rfl ((h.below B2).sent 5 (by decide) (by decide)).cell ?_
  (with_reducible refine is_l ?_); refine l_callv rfl rfl (by kernel_rfl) (isp_not (h.below B2) part (g := 10) (k := 5) (by decide) (by decide) (by decide) (by decide) (by decide)) (fun w3 K3 => ?_)
  have B3 := Bt B2 K3
  repeat' (first | (with_reducible first | refine p_tn ?_ | refine wp_seq ?_ | refine w_reg ?_) | (with_reducible (refine is_if ?_; (refine w_iff rfl ?_))) | (with_reducible refine l_nil ?_) | (with_reducible (refine is_l ?_; (refine l_p tys rfl rfl ?_))))
  (with_reducible refine is_l ?_); refine l_ld tys rfl rfl ((h.below B3).sent 6 (by decide) (by decide)).cell ?_
  (with_reducible refine is_l ?_); refine l_callv rfl rfl (by kernel_rfl) (isp_not (h.below B3) part (g := 10) (k := 6) (by decide) (by decide) (by decide) (by decide) (by decide)) (fun w4 K4 => ?_)
  have B4 := Bt B3 K4
  repeat' (first | (with_reducible first | refine p_tn ?_ | refine wp_seq ?_ | refine w_reg ?_) | (with_reducible (refine is_if ?_; (refine w_iff rfl ?_))) | (with_reducible refine l_nil ?_) | (with_reducible (refine is_l ?_; (refine l_p tys rfl rfl ?_))))
  (with_reducible refine is_l ?_); refine l_ld tys rfl rfl ((h.below B4).sent 7 (by decide) (by decide)).cell ?_
  (with_reducible refine is_l ?_); refine l_callv rfl rfl (by kernel_rfl) (isp_not (h.below B4) part (g := 10) (k := 7) (by decide) (by decide) (by decide) (by decide) (by decide)) (fun w5 K5 => ?_)
  have B5 := Bt B4 K5
  repeat' (first | (with_reducible first | refine p_tn ?_ | refine wp_seq ?_ | refine w_reg ?_) | (with_reducible (refine is_if ?_; (refine w_iff rfl ?_))) | (with_reducible refine l_nil ?_) | (with_reducible (refine is_l ?_; (refine l_p tys rfl rfl ?_))))
  (with_reducible refine is_l ?_); refine l_ld tys rfl rfl ((h.below B5).sent 8 (by decide) (by decide)).cell ?_
  (with_reducible refine is_l ?_); refine l_callv rfl rfl (by kernel_rfl) (isp_not (h.below B5) part (g := 10) (k := 8) (by decide) (by decide) (by decide) (by decide) (by decide)) (fun w6 K6 => ?_)
  have B6 := Bt B5 K6
  repeat' (first | (with_reducible first | refine p_tn ?_ | refine wp_seq ?_ | refine w_reg ?_) | (with_reducible (refine is_if ?_; (refine w_iff rfl ?_))) | (with_reducible refine l_nil ?_) | (with_reducible (refine is_l ?_; (refine l_p tys rfl rfl ?_))))
  (with_reducible refine is_l ?_); refine l_ld tys rfl rfl ((h.below B6).sent 9 (by decide) (by decide)).cell ?_
  (with_reducible refine is_l ?_); refine l_callv rfl rfl (by kernel_rfl) (isp_not (h.below B6) part (g := 10) (k := 9) (by decide) (by decide) (by decide) (by decide) (by decide)) (fun w7 K7 => ?_)
  have B7 := Bt B6 K7
  repeat' (first | (with_reducible first | refine p_tn ?_ | refine wp_seq ?_ | refine w_reg ?_) | (with_reducible (refine is_if ?_; (refine w_iff rfl ?_))) | (with_reducible refine l_nil ?_) | (with_reducible (refine is_l ?_; (refine l_p tys rfl rfl ?_))))
  (with_reducible refine is_l ?_); refine l_ld tys rfl rfl ((h.below B7).sent 10 (by decide) (by decide)).cell ?_
  (with_reducible refine is_l ?_); refine l_callv rfl rfl (by kernel_rfl) (Is.is_psame part (A 10) _) (fun w8 K8 => ?_)
  have B8 := Bt B7 K8
  repeat' (first | (with_reducible first | refine p_tn ?_ | refine p_tr ?_ | refine p_br ?_ | refine wp_seq ?_ | refine w_reg ?_) | (with_reducible (refine is_if ?_; (refine w_ift rfl ?_))) | (with_reducible first | refine wp_ret ?_ | refine l_nil ?_) | (with_reducible (refine is_l ?_; (refine l_p tys rfl rfl ?_))))
  refine end1 rfl rfl ?_
  exact ⟨rfl, B8⟩
set_option maxHeartbeats 2000000 in
theorem numberP_11 {A : Nat → Addr} {w : World} (h : LayS A w) (part : ByteArray) : Calls Tryz.prog 52 #[placV part (errV (A 11))] w fun e w' => e = .returned (.int .i64 146) ∧ Below w.heap.size w w' := by
  refine enter (args := [placV part (errV (A 11))]) Tryz.func52 rfl Tryz.ntmps52 rfl ?_
  have B0 := Below.refl w.heap.size w
  repeat' (first | (with_reducible first | refine p_tn ?_ | refine wp_seq ?_ | refine wp_block ?_ | refine w_reg ?_ | refine l_nil ?_) | (with_reducible (refine is_l ?_; (refine l_p tys rfl rfl ?_))))
  (with_reducible refine is_l ?_); refine l_t tys rfl rfl (fun h => h.elim) (fun _ => ?_)
  repeat' (first | (with_reducible first | refine p_tn ?_ | refine wp_seq ?_ | refine w_reg ?_) | (with_reducible (refine is_if ?_; (refine w_iff rfl ?_))) | (with_reducible refine l_nil ?_) | (with_reducible (refine is_l ?_; (refine l_p tys rfl rfl ?_))))
  (with_reducible refine is_l ?_); refine l_ld tys rfl rfl ((h.below B0).sent 3 (by decide) (by decide)).cell ?_
  (with_reducible refine is_l ?_); refine l_callv rfl rfl (by kernel_rfl) (isp_not (h.below B0) part (g := 11) (k := 3) (by decide) (by decide) (by decide) (by decide) (by decide)) (fun w1 K1 => ?_)
  have B1 := Bt B0 K1
  repeat' (first | (with_reducible first | refine p_tn ?_ | refine wp_seq ?_ | refine w_reg ?_) | (with_reducible (refine is_if ?_; (refine w_iff rfl ?_))) | (with_reducible refine l_nil ?_) | (with_reducible (refine is_l ?_; (refine l_p tys rfl rfl ?_))))
  (with_reducible refine is_l ?_); refine l_ld tys rfl rfl ((h.below B1).sent 4 (by decide) (by decide)).cell ?_
  (with_reducible refine is_l ?_); refine l_callv rfl rfl (by kernel_rfl) (isp_not (h.below B1) part (g := 11) (k := 4) (by decide) (by decide) (by decide) (by decide) (by decide)) (fun w2 K2 => ?_)
  have B2 := Bt B1 K2
  repeat' (first | (with_reducible first | refine p_tn ?_ | refine wp_seq ?_ | refine w_reg ?_) | (with_reducible (refine is_if ?_; (refine w_iff rfl ?_))) | (with_reducible refine l_nil ?_) | (with_reducible (refine is_l ?_; (refine l_p tys rfl rfl ?_))))
  (with_reducible refine is_l ?_); refine l_ld tys rfl rfl ((h.below B2).sent 5 (by decide) (by decide)).cell ?_
  (with_reducible refine is_l ?_); refine l_callv rfl rfl (by kernel_rfl) (isp_not (h.below B2) part (g := 11) (k := 5) (by decide) (by decide) (by decide) (by decide) (by decide)) (fun w3 K3 => ?_)
  have B3 := Bt B2 K3
  repeat' (first | (with_reducible first | refine p_tn ?_ | refine wp_seq ?_ | refine w_reg ?_) | (with_reducible (refine is_if ?_; (refine w_iff rfl ?_))) | (with_reducible refine l_nil ?_) | (with_reducible (refine is_l ?_; (refine l_p tys rfl rfl ?_))))
  (with_reducible refine is_l ?_); refine l_ld tys rfl rfl ((h.below B3).sent 6 (by decide) (by decide)).cell ?_
  (with_reducible refine is_l ?_); refine l_callv rfl rfl (by kernel_rfl) (isp_not (h.below B3) part (g := 11) (k := 6) (by decide) (by decide) (by decide) (by decide) (by decide)) (fun w4 K4 => ?_)
  have B4 := Bt B3 K4
  repeat' (first | (with_reducible first | refine p_tn ?_ | refine wp_seq ?_ | refine w_reg ?_) | (with_reducible (refine is_if ?_; (refine w_iff rfl ?_))) | (with_reducible refine l_nil ?_) | (with_reducible (refine is_l ?_; (refine l_p tys rfl rfl ?_))))
  (with_reducible refine is_l ?_); refine l_ld tys rfl rfl ((h.below B4).sent 7 (by decide) (by decide)).cell ?_
  (with_reducible refine is_l ?_); refine l_callv rfl rfl (by kernel_rfl) (isp_not (h.below B4) part (g := 11) (k := 7) (by decide) (by decide) (by decide) (by decide) (by decide)) (fun w5 K5 => ?_)
  have B5 := Bt B4 K5
  repeat' (first | (with_reducible first | refine p_tn ?_ | refine wp_seq ?_ | refine w_reg ?_) | (with_reducible (refine is_if ?_; (refine w_iff rfl ?_))) | (with_reducible refine l_nil ?_) | (with_reducible (refine is_l ?_; (refine l_p tys rfl rfl ?_))))
  (with_reducible refine is_l ?_); refine l_ld tys rfl rfl ((h.below B5).sent 8 (by decide) (by decide)).cell ?_
  (with_reducible refine is_l ?_); refine l_callv rfl rfl (by kernel_rfl) (isp_not (h.below B5) part (g := 11) (k := 8) (by decide) (by decide) (by decide) (by decide) (by decide)) (fun w6 K6 => ?_)
  have B6 := Bt B5 K6
  repeat' (first | (with_reducible first | refine p_tn ?_ | refine wp_seq ?_ | refine w_reg ?_) | (with_reducible (refine is_if ?_; (refine w_iff rfl ?_))) | (with_reducible refine l_nil ?_) | (with_reducible (refine is_l ?_; (refine l_p tys rfl rfl ?_))))
  (with_reducible refine is_l ?_); refine l_ld tys rfl rfl ((h.below B6).sent 9 (by decide) (by decide)).cell ?_
  (with_reducible refine is_l ?_); refine l_callv rfl rfl (by kernel_rfl) (isp_not (h.below B6) part (g := 11) (k := 9) (by decide) (by decide) (by decide) (by decide) (by decide)) (fun w7 K7 => ?_)
  have B7 := Bt B6 K7
  repeat' (first | (with_reducible first | refine p_tn ?_ | refine wp_seq ?_ | refine w_reg ?_) | (with_reducible (refine is_if ?_; (refine w_iff rfl ?_))) | (with_reducible refine l_nil ?_) | (with_reducible (refine is_l ?_; (refine l_p tys rfl rfl ?_))))
  (with_reducible refine is_l ?_); refine l_ld tys rfl rfl ((h.below B7).sent 10 (by decide) (by decide)).cell ?_
  (with_reducible refine is_l ?_); refine l_callv rfl rfl (by kernel_rfl) (isp_not (h.below B7) part (g := 11) (k := 10) (by decide) (by decide) (by decide) (by decide) (by decide)) (fun w8 K8 => ?_)
  have B8 := Bt B7 K8
  repeat' (first | (with_reducible first | refine p_tn ?_ | refine wp_seq ?_ | refine w_reg ?_) | (with_reducible (refine is_if ?_; (refine w_iff rfl ?_))) | (with_reducible refine l_nil ?_) | (with_reducible (refine is_l ?_; (refine l_p tys rfl rfl ?_))))
  (with_reducible refine is_l ?_); refine l_ld tys rfl rfl ((h.below B8).sent 11 (by decide) (by decide)).cell ?_
  (with_reducible refine is_l ?_); refine l_callv rfl rfl (by kernel_rfl) (Is.is_psame part (A 11) _) (fun w9 K9 => ?_)
  have B9 := Bt B8 K9
  repeat' (first | (with_reducible first | refine p_tn ?_ | refine p_tr ?_ | refine p_br ?_ | refine wp_seq ?_ | refine w_reg ?_) | (with_reducible (refine is_if ?_; (refine w_ift rfl ?_))) | (with_reducible first | refine wp_ret ?_ | refine l_nil ?_) | (with_reducible (refine is_l ?_; (refine l_p tys rfl rfl ?_))))
  refine end1 rfl rfl ?_
  exact ⟨rfl, B9⟩
set_option maxHeartbeats 2000000 in
theorem numberP_2 {A : Nat → Addr} {w : World} (h : LayS A w) (part : ByteArray) : Calls Tryz.prog 52 #[placV part (errV (A 2))] w fun e w' => e = .returned (.int .i64 147) ∧ Below w.heap.size w w' := by
  refine enter (args := [placV part (errV (A 2))]) Tryz.func52 rfl Tryz.ntmps52 rfl ?_
  have B0 := Below.refl w.heap.size w
  repeat' (first | (with_reducible first | refine p_tn ?_ | refine wp_seq ?_ | refine wp_block ?_ | refine w_reg ?_ | refine l_nil ?_) | (with_reducible (refine is_l ?_; (refine l_p tys rfl rfl ?_))))
  (with_reducible refine is_l ?_); refine l_t tys rfl rfl (fun h => h.elim) (fun _ => ?_)
  repeat' (first | (with_reducible first | refine p_tn ?_ | refine wp_seq ?_ | refine w_reg ?_) | (with_reducible (refine is_if ?_; (refine w_iff rfl ?_))) | (with_reducible refine l_nil ?_) | (with_reducible (refine is_l ?_; (refine l_p tys rfl rfl ?_))))
  (with_reducible refine is_l ?_); refine l_ld tys rfl rfl ((h.below B0).sent 3 (by decide) (by decide)).cell ?_
  (with_reducible refine is_l ?_); refine l_callv rfl rfl (by kernel_rfl) (isp_not (h.below B0) part (g := 2) (k := 3) (by decide) (by decide) (by decide) (by decide) (by decide)) (fun w1 K1 => ?_)
  have B1 := Bt B0 K1
  repeat' (first | (with_reducible first | refine p_tn ?_ | refine wp_seq ?_ | refine w_reg ?_) | (with_reducible (refine is_if ?_; (refine w_iff rfl ?_))) | (with_reducible refine l_nil ?_) | (with_reducible (refine is_l ?_; (refine l_p tys rfl rfl ?_))))
  (with_reducible refine is_l ?_); refine l_ld tys rfl rfl ((h.below B1).sent 4 (by decide) (by decide)).cell ?_
  (with_reducible refine is_l ?_); refine l_callv rfl rfl (by kernel_rfl) (isp_not (h.below B1) part (g := 2) (k := 4) (by decide) (by decide) (by decide) (by decide) (by decide)) (fun w2 K2 => ?_)
  have B2 := Bt B1 K2
  repeat' (first | (with_reducible first | refine p_tn ?_ | refine wp_seq ?_ | refine w_reg ?_) | (with_reducible (refine is_if ?_; (refine w_iff rfl ?_))) | (with_reducible refine l_nil ?_) | (with_reducible (refine is_l ?_; (refine l_p tys rfl rfl ?_))))
  (with_reducible refine is_l ?_); refine l_ld tys rfl rfl ((h.below B2).sent 5 (by decide) (by decide)).cell ?_
  (with_reducible refine is_l ?_); refine l_callv rfl rfl (by kernel_rfl) (isp_not (h.below B2) part (g := 2) (k := 5) (by decide) (by decide) (by decide) (by decide) (by decide)) (fun w3 K3 => ?_)
  have B3 := Bt B2 K3
  repeat' (first | (with_reducible first | refine p_tn ?_ | refine wp_seq ?_ | refine w_reg ?_) | (with_reducible (refine is_if ?_; (refine w_iff rfl ?_))) | (with_reducible refine l_nil ?_) | (with_reducible (refine is_l ?_; (refine l_p tys rfl rfl ?_))))
  (with_reducible refine is_l ?_); refine l_ld tys rfl rfl ((h.below B3).sent 6 (by decide) (by decide)).cell ?_
  (with_reducible refine is_l ?_); refine l_callv rfl rfl (by kernel_rfl) (isp_not (h.below B3) part (g := 2) (k := 6) (by decide) (by decide) (by decide) (by decide) (by decide)) (fun w4 K4 => ?_)
  have B4 := Bt B3 K4
  repeat' (first | (with_reducible first | refine p_tn ?_ | refine wp_seq ?_ | refine w_reg ?_) | (with_reducible (refine is_if ?_; (refine w_iff rfl ?_))) | (with_reducible refine l_nil ?_) | (with_reducible (refine is_l ?_; (refine l_p tys rfl rfl ?_))))
  (with_reducible refine is_l ?_); refine l_ld tys rfl rfl ((h.below B4).sent 7 (by decide) (by decide)).cell ?_
  (with_reducible refine is_l ?_); refine l_callv rfl rfl (by kernel_rfl) (isp_not (h.below B4) part (g := 2) (k := 7) (by decide) (by decide) (by decide) (by decide) (by decide)) (fun w5 K5 => ?_)
  have B5 := Bt B4 K5
  repeat' (first | (with_reducible first | refine p_tn ?_ | refine wp_seq ?_ | refine w_reg ?_) | (with_reducible (refine is_if ?_; (refine w_iff rfl ?_))) | (with_reducible refine l_nil ?_) | (with_reducible (refine is_l ?_; (refine l_p tys rfl rfl ?_))))
  (with_reducible refine is_l ?_); refine l_ld tys rfl rfl ((h.below B5).sent 8 (by decide) (by decide)).cell ?_
  (with_reducible refine is_l ?_); refine l_callv rfl rfl (by kernel_rfl) (isp_not (h.below B5) part (g := 2) (k := 8) (by decide) (by decide) (by decide) (by decide) (by decide)) (fun w6 K6 => ?_)
  have B6 := Bt B5 K6
  repeat' (first | (with_reducible first | refine p_tn ?_ | refine wp_seq ?_ | refine w_reg ?_) | (with_reducible (refine is_if ?_; (refine w_iff rfl ?_))) | (with_reducible refine l_nil ?_) | (with_reducible (refine is_l ?_; (refine l_p tys rfl rfl ?_))))
  (with_reducible refine is_l ?_); refine l_ld tys rfl rfl ((h.below B6).sent 9 (by decide) (by decide)).cell ?_
  (with_reducible refine is_l ?_); refine l_callv rfl rfl (by kernel_rfl) (isp_not (h.below B6) part (g := 2) (k := 9) (by decide) (by decide) (by decide) (by decide) (by decide)) (fun w7 K7 => ?_)
  have B7 := Bt B6 K7
  repeat' (first | (with_reducible first | refine p_tn ?_ | refine wp_seq ?_ | refine w_reg ?_) | (with_reducible (refine is_if ?_; (refine w_iff rfl ?_))) | (with_reducible refine l_nil ?_) | (with_reducible (refine is_l ?_; (refine l_p tys rfl rfl ?_))))
  (with_reducible refine is_l ?_); refine l_ld tys rfl rfl ((h.below B7).sent 10 (by decide) (by decide)).cell ?_
  (with_reducible refine is_l ?_); refine l_callv rfl rfl (by kernel_rfl) (isp_not (h.below B7) part (g := 2) (k := 10) (by decide) (by decide) (by decide) (by decide) (by decide)) (fun w8 K8 => ?_)
  have B8 := Bt B7 K8
  repeat' (first | (with_reducible first | refine p_tn ?_ | refine wp_seq ?_ | refine w_reg ?_) | (with_reducible (refine is_if ?_; (refine w_iff rfl ?_))) | (with_reducible refine l_nil ?_) | (with_reducible (refine is_l ?_; (refine l_p tys rfl rfl ?_))))
  (with_reducible refine is_l ?_); refine l_ld tys rfl rfl ((h.below B8).sent 11 (by decide) (by decide)).cell ?_
  (with_reducible refine is_l ?_); refine l_callv rfl rfl (by kernel_rfl) (isp_not (h.below B8) part (g := 2) (k := 11) (by decide) (by decide) (by decide) (by decide) (by decide)) (fun w9 K9 => ?_)
  have B9 := Bt B8 K9
  repeat' (first | (with_reducible first | refine p_tn ?_ | refine wp_seq ?_ | refine w_reg ?_) | (with_reducible (refine is_if ?_; (refine w_iff rfl ?_))) | (with_reducible refine l_nil ?_) | (with_reducible (refine is_l ?_; (refine l_p tys rfl rfl ?_))))
  (with_reducible refine is_l ?_); refine l_ld tys rfl rfl ((h.below B9).sent 2 (by decide) (by decide)).cell ?_
  (with_reducible refine is_l ?_); refine l_callv rfl rfl (by kernel_rfl) (Is.is_psame part (A 2) _) (fun w10 K10 => ?_)
  have B10 := Bt B9 K10
  repeat' (first | (with_reducible first | refine p_tn ?_ | refine p_tr ?_ | refine p_br ?_ | refine wp_seq ?_ | refine w_reg ?_) | (with_reducible (refine is_if ?_; (refine w_ift rfl ?_))) | (with_reducible first | refine wp_ret ?_ | refine l_nil ?_) | (with_reducible (refine is_l ?_; (refine l_p tys rfl rfl ?_))))
  refine end1 rfl rfl ?_
  exact ⟨rfl, B10⟩
set_option maxHeartbeats 2000000 in
theorem numberP_12 {A : Nat → Addr} {w : World} (h : LayS A w) (part : ByteArray) : Calls Tryz.prog 52 #[placV part (errV (A 12))] w fun e w' => e = .returned (.int .i64 148) ∧ Below w.heap.size w w' := by
  refine enter (args := [placV part (errV (A 12))]) Tryz.func52 rfl Tryz.ntmps52 rfl ?_
  have B0 := Below.refl w.heap.size w
  repeat' (first | (with_reducible first | refine p_tn ?_ | refine wp_seq ?_ | refine wp_block ?_ | refine w_reg ?_ | refine l_nil ?_) | (with_reducible (refine is_l ?_; (refine l_p tys rfl rfl ?_))))
  (with_reducible refine is_l ?_); refine l_t tys rfl rfl (fun h => h.elim) (fun _ => ?_)
  repeat' (first | (with_reducible first | refine p_tn ?_ | refine wp_seq ?_ | refine w_reg ?_) | (with_reducible (refine is_if ?_; (refine w_iff rfl ?_))) | (with_reducible refine l_nil ?_) | (with_reducible (refine is_l ?_; (refine l_p tys rfl rfl ?_))))
  (with_reducible refine is_l ?_); refine l_ld tys rfl rfl ((h.below B0).sent 3 (by decide) (by decide)).cell ?_
  (with_reducible refine is_l ?_); refine l_callv rfl rfl (by kernel_rfl) (isp_not (h.below B0) part (g := 12) (k := 3) (by decide) (by decide) (by decide) (by decide) (by decide)) (fun w1 K1 => ?_)
  have B1 := Bt B0 K1
  repeat' (first | (with_reducible first | refine p_tn ?_ | refine wp_seq ?_ | refine w_reg ?_) | (with_reducible (refine is_if ?_; (refine w_iff rfl ?_))) | (with_reducible refine l_nil ?_) | (with_reducible (refine is_l ?_; (refine l_p tys rfl rfl ?_))))
  (with_reducible refine is_l ?_); refine l_ld tys rfl rfl ((h.below B1).sent 4 (by decide) (by decide)).cell ?_
  (with_reducible refine is_l ?_); refine l_callv rfl rfl (by kernel_rfl) (isp_not (h.below B1) part (g := 12) (k := 4) (by decide) (by decide) (by decide) (by decide) (by decide)) (fun w2 K2 => ?_)
  have B2 := Bt B1 K2
  repeat' (first | (with_reducible first | refine p_tn ?_ | refine wp_seq ?_ | refine w_reg ?_) | (with_reducible (refine is_if ?_; (refine w_iff rfl ?_))) | (with_reducible refine l_nil ?_) | (with_reducible (refine is_l ?_; (refine l_p tys rfl rfl ?_))))
  (with_reducible refine is_l ?_); refine l_ld tys rfl rfl ((h.below B2).sent 5 (by decide) (by decide)).cell ?_
  (with_reducible refine is_l ?_); refine l_callv rfl rfl (by kernel_rfl) (isp_not (h.below B2) part (g := 12) (k := 5) (by decide) (by decide) (by decide) (by decide) (by decide)) (fun w3 K3 => ?_)
  have B3 := Bt B2 K3
  repeat' (first | (with_reducible first | refine p_tn ?_ | refine wp_seq ?_ | refine w_reg ?_) | (with_reducible (refine is_if ?_; (refine w_iff rfl ?_))) | (with_reducible refine l_nil ?_) | (with_reducible (refine is_l ?_; (refine l_p tys rfl rfl ?_))))
  (with_reducible refine is_l ?_); refine l_ld tys rfl rfl ((h.below B3).sent 6 (by decide) (by decide)).cell ?_
  (with_reducible refine is_l ?_); refine l_callv rfl rfl (by kernel_rfl) (isp_not (h.below B3) part (g := 12) (k := 6) (by decide) (by decide) (by decide) (by decide) (by decide)) (fun w4 K4 => ?_)
  have B4 := Bt B3 K4
  repeat' (first | (with_reducible first | refine p_tn ?_ | refine wp_seq ?_ | refine w_reg ?_) | (with_reducible (refine is_if ?_; (refine w_iff rfl ?_))) | (with_reducible refine l_nil ?_) | (with_reducible (refine is_l ?_; (refine l_p tys rfl rfl ?_))))
  (with_reducible refine is_l ?_); refine l_ld tys rfl rfl ((h.below B4).sent 7 (by decide) (by decide)).cell ?_
  (with_reducible refine is_l ?_); refine l_callv rfl rfl (by kernel_rfl) (isp_not (h.below B4) part (g := 12) (k := 7) (by decide) (by decide) (by decide) (by decide) (by decide)) (fun w5 K5 => ?_)
  have B5 := Bt B4 K5
  repeat' (first | (with_reducible first | refine p_tn ?_ | refine wp_seq ?_ | refine w_reg ?_) | (with_reducible (refine is_if ?_; (refine w_iff rfl ?_))) | (with_reducible refine l_nil ?_) | (with_reducible (refine is_l ?_; (refine l_p tys rfl rfl ?_))))
  (with_reducible refine is_l ?_); refine l_ld tys rfl rfl ((h.below B5).sent 8 (by decide) (by decide)).cell ?_
  (with_reducible refine is_l ?_); refine l_callv rfl rfl (by kernel_rfl) (isp_not (h.below B5) part (g := 12) (k := 8) (by decide) (by decide) (by decide) (by decide) (by decide)) (fun w6 K6 => ?_)
  have B6 := Bt B5 K6
  repeat' (first | (with_reducible first | refine p_tn ?_ | refine wp_seq ?_ | refine w_reg ?_) | (with_reducible (refine is_if ?_; (refine w_iff rfl ?_))) | (with_reducible refine l_nil ?_) | (with_reducible (refine is_l ?_; (refine l_p tys rfl rfl ?_))))
  (with_reducible refine is_l ?_); refine l_ld tys rfl rfl ((h.below B6).sent 9 (by decide) (by decide)).cell ?_
  (with_reducible refine is_l ?_); refine l_callv rfl rfl (by kernel_rfl) (isp_not (h.below B6) part (g := 12) (k := 9) (by decide) (by decide) (by decide) (by decide) (by decide)) (fun w7 K7 => ?_)
  have B7 := Bt B6 K7
  repeat' (first | (with_reducible first | refine p_tn ?_ | refine wp_seq ?_ | refine w_reg ?_) | (with_reducible (refine is_if ?_; (refine w_iff rfl ?_))) | (with_reducible refine l_nil ?_) | (with_reducible (refine is_l ?_; (refine l_p tys rfl rfl ?_))))
  (with_reducible refine is_l ?_); refine l_ld tys rfl rfl ((h.below B7).sent 10 (by decide) (by decide)).cell ?_
  (with_reducible refine is_l ?_); refine l_callv rfl rfl (by kernel_rfl) (isp_not (h.below B7) part (g := 12) (k := 10) (by decide) (by decide) (by decide) (by decide) (by decide)) (fun w8 K8 => ?_)
  have B8 := Bt B7 K8
  repeat' (first | (with_reducible first | refine p_tn ?_ | refine wp_seq ?_ | refine w_reg ?_) | (with_reducible (refine is_if ?_; (refine w_iff rfl ?_))) | (with_reducible refine l_nil ?_) | (with_reducible (refine is_l ?_; (refine l_p tys rfl rfl ?_))))
  (with_reducible refine is_l ?_); refine l_ld tys rfl rfl ((h.below B8).sent 11 (by decide) (by decide)).cell ?_
  (with_reducible refine is_l ?_); refine l_callv rfl rfl (by kernel_rfl) (isp_not (h.below B8) part (g := 12) (k := 11) (by decide) (by decide) (by decide) (by decide) (by decide)) (fun w9 K9 => ?_)
  have B9 := Bt B8 K9
  repeat' (first | (with_reducible first | refine p_tn ?_ | refine wp_seq ?_ | refine w_reg ?_) | (with_reducible (refine is_if ?_; (refine w_iff rfl ?_))) | (with_reducible refine l_nil ?_) | (with_reducible (refine is_l ?_; (refine l_p tys rfl rfl ?_))))
  (with_reducible refine is_l ?_); refine l_ld tys rfl rfl ((h.below B9).sent 2 (by decide) (by decide)).cell ?_
  (with_reducible refine is_l ?_); refine l_callv rfl rfl (by kernel_rfl) (isp_not (h.below B9) part (g := 12) (k := 2) (by decide) (by decide) (by decide) (by decide) (by decide)) (fun w10 K10 => ?_)
  have B10 := Bt B9 K10
  repeat' (first | (with_reducible first | refine p_tn ?_ | refine wp_seq ?_ | refine w_reg ?_) | (with_reducible (refine is_if ?_; (refine w_iff rfl ?_))) | (with_reducible refine l_nil ?_) | (with_reducible (refine is_l ?_; (refine l_p tys rfl rfl ?_))))
  (with_reducible refine is_l ?_); refine l_ld tys rfl rfl ((h.below B10).sent 12 (by decide) (by decide)).cell ?_
  (with_reducible refine is_l ?_); refine l_callv rfl rfl (by kernel_rfl) (Is.is_psame part (A 12) _) (fun w11 K11 => ?_)
  have B11 := Bt B10 K11
  repeat' (first | (with_reducible first | refine p_tn ?_ | refine p_tr ?_ | refine p_br ?_ | refine wp_seq ?_ | refine w_reg ?_) | (with_reducible (refine is_if ?_; (refine w_ift rfl ?_))) | (with_reducible first | refine wp_ret ?_ | refine l_nil ?_) | (with_reducible (refine is_l ?_; (refine l_p tys rfl rfl ?_))))
  refine end1 rfl rfl ?_
  exact ⟨rfl, B11⟩
theorem numberOfP_c {A : Nat → Addr} {w : World} (h : LayS A w) (part : ByteArray) : ∀ g, 2 ≤ g → g ≤ 12 → Calls Tryz.prog 52 #[placV part (errV (A g))] w fun e w' => e = .returned (.int .i64 (codeE g)) ∧ Below w.heap.size w w' := by
  intro g h2 h12
  match g, h2, h12 with
  | 2, _, _ => exact numberP_2 h part
  | 3, _, _ => exact numberP_3 h part
  | 4, _, _ => exact numberP_4 h part
  | 5, _, _ => exact numberP_5 h part
  | 6, _, _ => exact numberP_6 h part
  | 7, _, _ => exact numberP_7 h part
  | 8, _, _ => exact numberP_8 h part
  | 9, _, _ => exact numberP_9 h part
  | 10, _, _ => exact numberP_10 h part
  | 11, _, _ => exact numberP_11 h part
  | 12, _, _ => exact numberP_12 h part
end Go.Proofs.YthgojbdpmcccaaaGreatDoor.K
end
section
namespace Go.Proofs.YthgojbdpmcccaaaGreatDoor.K
open Go.RowKit Go.Proofs.YthgojbdpmcccaaaGreatDoor.Q Go.Proofs.YthgojbdpmcccaaaGreatDoor.Wb Go.Proofs.YthgojbdpmcccaaaGreatDoorW.PrintWords
set_option linter.unusedVariables false
set_option linter.unusedSimpArgs false
theorem vals_cons (f : Fld) (l : List Fld) (n : L) : vals (f :: l) n = if lowS f.1 = n then f.2 :: vals l n else vals l n := by
  unfold vals
  rw [List.filterMap_cons]
  by_cases h : lowS f.1 = n
  · rw [if_pos h, if_pos h]
  · rw [if_neg h, if_neg h]
theorem names_ne : nHost ≠ nConn ∧ nHost ≠ nCode ∧ nHost ≠ nLen ∧ nConn ≠ nCode ∧ nConn ≠ nLen ∧ nCode ≠ nLen := by decide
theorem frm_fold : ∀ (l : List Fld) (m : Frm),
    (l.foldl frmStep m).hosts = m.hosts + (vals l nHost).length ∧ (l.foldl frmStep m).host = ((vals l nHost).getLast?.map strOfNums).getD m.host ∧
    (l.foldl frmStep m).codings = m.codings + (vals l nCode).length ∧ (l.foldl frmStep m).coding = ((vals l nCode).getLast?.map fun v => strOfNums (lowS v)).getD m.coding ∧
    (l.foldl frmStep m).lengths = m.lengths + (vals l nLen).length ∧ (l.foldl frmStep m).length = ((vals l nLen).getLast?.map strOfNums).getD m.length ∧
    (l.foldl frmStep m).framed = (m.framed || !(vals l nCode).isEmpty || !(vals l nLen).isEmpty) ∧
    (l.foldl frmStep m).closes = (m.closes || ((vals l nConn).flatMap wordsV).contains wClose) ∧
    (l.foldl frmStep m).keeps = (m.keeps || ((vals l nConn).flatMap wordsV).contains wKeep)
  | [], m => by simp [vals]
  | f :: l, m => by
    obtain ⟨a1, a2, a3, a4, a5, a6, a7, a8, a9⟩ := frm_fold l (frmStep m f)
    obtain ⟨e1, e2, e3, e4, e5, e6⟩ := names_ne
    have last : ∀ {α : Type} (g : L → α) (v : L) (r : List L) (d : α), (((v :: r).getLast?).map g).getD d = ((r.getLast?).map g).getD (g v) := by
      intro α g v r d
      rw [List.getLast?_cons]
      cases r.getLast? <;> rfl
    simp only [List.foldl_cons, a1, a2, a3, a4, a5, a6, a7, a8, a9, vals_cons]
    unfold frmStep
    by_cases h1 : lowS f.1 = nHost
    · rw [h1]
      simp only [if_true, if_neg e1, if_neg e2, if_neg e3, last]
      (repeat' apply And.intro) <;> first | trivial | rfl | (simp; done) | (simp; omega) | (rw [Bool.or_assoc])
    by_cases h2 : lowS f.1 = nConn
    · rw [h2]
      simp only [if_true, if_neg e1.symm, if_neg e4, if_neg e5, last, List.flatMap_cons, List.contains_append]
      (repeat' apply And.intro) <;> first | trivial | rfl | (simp; done) | (simp; omega) | (rw [Bool.or_assoc])
    by_cases h3 : lowS f.1 = nCode
    · rw [h3]
      simp only [if_true, if_neg e2.symm, if_neg e4.symm, if_neg e6, last]
      (repeat' apply And.intro) <;> first | trivial | rfl | (simp; done) | (simp; omega) | (rw [Bool.or_assoc])
    by_cases h4 : lowS f.1 = nLen
    · rw [h4]
      simp only [if_true, if_neg e3.symm, if_neg e5.symm, if_neg e6.symm, last]
      (repeat' apply And.intro) <;> first | trivial | rfl | (simp; done) | (simp; omega) | (rw [Bool.or_assoc])
    · simp only [if_neg h1, if_neg h2, if_neg h3, if_neg h4]
      (repeat' apply And.intro) <;> first | trivial | rfl | (simp; done) | (simp; omega) | (rw [Bool.or_assoc])
theorem vals_bytes {l : List Fld} (hb : BytesF l) {n v : L} (h : v ∈ vals l n) : Bytes v ∧ v.length ≤ 100000000 := by
  unfold vals at h
  obtain ⟨f, hf, hv⟩ := List.mem_filterMap.1 h
  split at hv
  · cases hv
    exact ⟨(hb f hf).2.1, (hb f hf).2.2.2⟩
  · cases hv
theorem vals_le (l : List Fld) (n : L) : (vals l n).length ≤ l.length := List.length_filterMap_le _ _
theorem host_bad {l : List Fld} (hb : BytesF l) (minor : Int) : hostBad (frmS l) minor = !hostOk l minor := by
  obtain ⟨a1, a2, _⟩ := frm_fold l frm0
  unfold hostBad frmS
  rw [a1, a2]
  unfold hostOk
  cases hv : vals l nHost with
  | nil =>
    simp only [List.length_nil, List.getLast?_nil, Option.map_none, Option.getD_none]
    by_cases h : minor = 1
    · simp [frm0, h, bl]
    · simp [frm0, h, bl]
  | cons v r =>
    have hb1 := (vals_bytes hb (n := nHost) (v := v) (by rw [hv]; simp)).1
    cases r with
    | nil => simp [frm0, blS hb1]
    | cons v2 r =>
      have : (1 : Int) < frm0.hosts + ((v :: v2 :: r).length : Nat) := by simp [frm0]; omega
      rw [decide_eq_true this]; rfl
theorem closes_eq {l : List Fld} (minor : Int) : (if minor = 1 then (frmS l).closes else (frmS l).closes || !(frmS l).keeps) = closesS l minor := by
  obtain ⟨_, _, _, _, _, _, _, a8, a9⟩ := frm_fold l frm0
  unfold frmS
  rw [a8, a9]
  unfold closesS
  have e : ((vals l nConn).flatMap fun v => (splitC 44 v).map fun w => lowS (trimS w)) = (vals l nConn).flatMap wordsV := rfl
  simp only [e]
  by_cases h : minor = 1
  · simp [h, frm0]
  · have hmb : (minor != 1) = true := by simp [h]
    rw [if_neg h, hmb]
    simp [frm0]
def ErrOf (A : Nat → Addr) (v : Value) (k : Nat) : Prop := ∃ g, 2 ≤ g ∧ g ≤ 13 ∧ codeE g = (k : Int) ∧ (v = errV (A g) ∨ (g ≤ 12 ∧ ∃ part, v = placV part (errV (A g))))
theorem errOf_c {A : Nat → Addr} {w : World} (hE : LayS A w) {v : Value} {k : Nat} (h : ErrOf A v k) : Calls Tryz.prog 52 #[v] w fun e w' => e = .returned (.int .i64 (k : Int)) ∧ Below w.heap.size w w' := by
  obtain ⟨g, h2, h12, hc, rfl | ⟨h13, part, rfl⟩⟩ := h
  · refine (numberOf_c hE g h2 h12).mono fun e w' ⟨h1, h2⟩ => ⟨by rw [h1, hc], by rw [h2]; exact Below.refl _ w⟩
  · refine (numberOfP_c hE part g h2 h13).mono fun e w' ⟨h1, h2⟩ => ⟨by rw [h1, hc], h2⟩
theorem errOf_iface {A : Nat → Addr} {v : Value} {k : Nat} (h : ErrOf A v k) : ∃ t u, v = .iface t u := by
  obtain ⟨g, _, _, _, rfl | ⟨_, part, rfl⟩⟩ := h
  · exact ⟨_, _, rfl⟩
  · exact ⟨_, _, rfl⟩
theorem same_err (a : Addr) (w : World) : (binOp .eql 98 (errV a) (errV a)).run Tryz.prog w = .ok (.bool true) w := by
  obtain ⟨i, hi, hcmp⟩ := Option.map_eq_some_iff.1 Is.isComp
  obtain ⟨j, hj, hjs⟩ := Option.map_eq_some_iff.1 Is.isSize
  exact run_eql_iface_ptr_same (P := Tryz.prog) w a Tryz.underlying98 Tryz.underlying283 hi hcmp hj
theorem other_err {a b : Addr} {ca cb : Array Value} {ta tb : TypeId} (w : World) (hne : a ≠ b) (ha : w.heap[a.block]? = some (.cells ca ta (0, 0))) (hb : w.heap[b.block]? = some (.cells cb tb (0, 0))) : (binOp .eql 98 (errV a) (errV b)).run Tryz.prog w = .ok (.bool false) w := by
  obtain ⟨i, hi, hcmp⟩ := Option.map_eq_some_iff.1 Is.isComp
  obtain ⟨j, hj, hjs⟩ := Option.map_eq_some_iff.1 Is.isSize
  exact run_eql_iface_ptr_other (P := Tryz.prog) w Tryz.underlying98 Tryz.underlying283 hi hcmp hj (by rw [hjs]; decide) hne ha hb
theorem nil_err (t : TypeId) (v : Value) (w : World) : (binOp .eql 98 .nilIface (.iface t v)).run Tryz.prog w = .ok (.bool false) w := run_eql_iface_nil_left (P := Tryz.prog) w t v Tryz.underlying98
theorem l_eq {P : Program} {n : Nat} {ops : Array Oper} {Q : Exit → Act → World → Prop} {rest : List Oper} {f : Fr} {w : World} {d : Option Nat} {tt : TypeId} {ps : String} {af : Array Edge} {gd : Option (Nat × Bool)} {t t2 : TypeId} {x y : Operand} {u v : Value} {b : Bool} (hw : want n ops f ⟨d, .binOp .eql t x y t2, tt, ps, af, gd⟩ = true) (hx : nf (X n f x) = some u) (hy : nf (X n f y) = some v) (hg : ∀ c1 c2 : Array Value, u ≠ .agg c1 ∨ v ≠ .agg c2) (hn : u ≠ .nilIface ∨ v ≠ .nilIface)
    (hr : (binOp .eql t u v).run P w = .ok (.bool b) w) (h : WL P ops Q rest (act n (put f d (.bool b))) w) : WL P ops Q (⟨d, .binOp .eql t x y t2, tt, ps, af, gd⟩ :: rest) (act n f) w := by
  refine l_val hw ?_ h
  have e1 := nf_eq hx
  have e2 := nf_eq hy
  have hge : (eqGuard .eql t x y u v).run P w = .ok () w := by
    unfold eqGuard
    cases u <;> cases v <;> first | rfl | (exfalso; rcases hn with h | h <;> exact h rfl) | (exfalso; rcases hg _ _ with h | h <;> exact h rfl)
  unfold execOp
  simp [← e1, ← e2, hge, hr]
abbrev rowB (v : Value) (b : L) : RowD := ⟨v, 5, 1, b.length, nums .u8 b⟩
def BdR (A : Nat → Addr) (w : World) (l : List Fld) (minor : Int) (rest : L) (e : Ending) (w' : World) : Prop := match frameS l minor with
  | .error k => ∃ v, ErrOf A v k ∧ e = .returned (.tuple #[.slice none 0 0, .int .i64 0, v]) ∧ Hp w w' [] []
  | .ok fr => match bodyS rest fr with
    | .error k => ∃ v, ErrOf A v k ∧ e = .returned (.tuple #[.slice none 0 0, .int .i64 0, v]) ∧ Hp w w' [] []
    | .ok (b, m) => ∃ B c, e = .returned (.tuple #[.slice B b.length c, .int .i64 (m : Int), .nilIface]) ∧ Hp w w' [] [rowB (.slice B b.length c) b]
theorem bdR_frame {A : Nat → Addr} {w : World} {l : List Fld} {minor : Int} {rest : L} {w' : World} {k : Nat} {v : Value} (h : frameS l minor = .error k) (hv : ErrOf A v k) (H : Hp w w' [] []) : BdR A w l minor rest (.returned (.tuple #[.slice none 0 0, .int .i64 0, v])) w' := by
  unfold BdR; rw [h]; exact ⟨v, hv, rfl, H⟩
theorem bdR_body {A : Nat → Addr} {w : World} {l : List Fld} {minor : Int} {rest : L} {w' : World} {k : Nat} {v : Value} {fr : Wb.Frame} (h : frameS l minor = .ok fr) (h2 : bodyS rest fr = .error k) (hv : ErrOf A v k) (H : Hp w w' [] []) : BdR A w l minor rest (.returned (.tuple #[.slice none 0 0, .int .i64 0, v])) w' := by
  unfold BdR; rw [h]; simp only [h2]; exact ⟨v, hv, rfl, H⟩
theorem bdR_ok {A : Nat → Addr} {w : World} {l : List Fld} {minor : Int} {rest : L} {w' : World} {b : L} {m : Nat} {fr : Wb.Frame} {B : Option Addr} {c : Nat} (h : frameS l minor = .ok fr) (h2 : bodyS rest fr = .ok (b, m)) (H : Hp w w' [] [rowB (.slice B b.length c) b]) : BdR A w l minor rest (.returned (.tuple #[.slice B b.length c, .int .i64 (m : Int), .nilIface])) w' := by
  unfold BdR; rw [h]; simp only [h2]; exact ⟨B, c, rfl, H⟩
end Go.Proofs.YthgojbdpmcccaaaGreatDoor.K
end
section
namespace Go.Proofs.YthgojbdpmcccaaaGreatDoor.K
open Go.RowKit Go.Proofs.YthgojbdpmcccaaaGreatDoor.Q Go.Proofs.YthgojbdpmcccaaaGreatDoor.Wb Go.Proofs.YthgojbdpmcccaaaGreatDoorW.PrintWords
set_option linter.unusedVariables false
set_option linter.unusedSimpArgs false
theorem frame_coded {l : List Fld} {minor : Int} {cd : L} {r : List L} (h : vals l nCode = cd :: r) : frameS l minor = if r ≠ [] ∨ minor = 0 ∨ lowS cd ≠ wChunked ∨ vals l nLen ≠ [] then .error 143 else .ok .chunks := by
  unfold frameS
  rw [h]
  cases r with
  | nil => simp
  | cons a r => simp
theorem frame_len2 {l : List Fld} {minor : Int} {a b : L} {r : List L} (h : vals l nCode = []) (h2 : vals l nLen = a :: b :: r) : frameS l minor = .error 143 := by
  unfold frameS; rw [h, h2]
theorem frame_len1 {l : List Fld} {minor : Int} {v : L} (h : vals l nCode = []) (h2 : vals l nLen = [v]) : frameS l minor = match numS v with | none => .error 143 | some n => if 1048576 < n then .error 145 else .ok (.len n) := by
  unfold frameS; rw [h, h2]; cases hn : numS v <;> simp [hn]
theorem unchS_errs : ∀ {f : Nat} {acc b : L} {k : Nat}, unchS f acc b = .error k → k = 2 ∨ k = 140 ∨ k = 146
  | 0, _, _, _, h => by simp [unchS] at h; omega
  | f + 1, acc, b, k, h => by
    rw [unchS_succ] at h
    split at h
    · split at h <;> (simp only [Except.error.injEq] at h; omega)
    · split at h
      · simp only [Except.error.injEq] at h; omega
      · split at h
        · simp only [Except.error.injEq] at h; omega
        · split at h
          · simp only [Except.error.injEq] at h; omega
          · split at h
            · rename_i e he
              simp only [Except.error.injEq] at h
              subst h
              have := end_errs he
              omega
            · split at h
              · cases h
              · exact unchS_errs h
theorem un_errs {b : L} {k : Nat} (h : unchunkS b = .error k) : k = 2 ∨ k = 140 ∨ k = 146 := by
  unfold unchunkS at h
  split at h
  · cases h
  · rename_i e he
    simp only [Except.error.injEq] at h
    subst h
    exact unchS_errs he
abbrev tBody : ByteArray := ⟨#[98, 111, 100, 121]⟩
set_option maxHeartbeats 8000000 in
theorem body_c {A : Nat → Addr} {w : World} (hE : LayS A w) {mx : Int} (hM : w.cell? ⟨20, 0, none⟩ = some (.int .i64 mx)) (l : List Fld) (hb : BytesF l) (hln : l.length ≤ 100000000) (hfr : vals l nCode ≠ [] ∨ vals l nLen ≠ [])
    {B : Option Addr} {c : Nat} {rest : L} (h : ReadsInt w .u8 B rest.length rest) (hc : rest.length ≤ c) (hn : B = none → c = 0 ∧ rest.length = 0) (hbr : Bytes rest) (hs : rest.length ≤ 2000000000000) (minor : Int) :
    Calls Tryz.prog 112 #[.agg (frmA (frmS l)), .slice B rest.length c, .int .i64 minor] w (BdR A w l minor rest) := by
  have c4 := (hE.sent 4 (by decide) (by decide)).cell
  have c5 := (hE.sent 5 (by decide) (by decide)).cell
  have c8 := (hE.sent 8 (by decide) (by decide)).cell
  have c10 := (hE.sent 10 (by decide) (by decide)).cell
  have e8 : ErrOf A (errV (A 8)) 143 := ⟨8, by decide, by decide, rfl, .inl rfl⟩
  have e10 : ErrOf A (errV (A 10)) 145 := ⟨10, by decide, by decide, rfl, .inl rfl⟩
  have p5 : ErrOf A (placV tBody (errV (A 5))) 140 := ⟨5, by decide, by decide, rfl, .inr ⟨by decide, _, rfl⟩⟩
  have p10 : ErrOf A (placV tBody (errV (A 10))) 145 := ⟨10, by decide, by decide, rfl, .inr ⟨by decide, _, rfl⟩⟩
  have p11 : ErrOf A (placV tBody (errV (A 11))) 146 := ⟨11, by decide, by decide, rfl, .inr ⟨by decide, _, rfl⟩⟩
  obtain ⟨_, _, a3, a4, a5, a6, _⟩ := frm_fold l frm0
  change (frmS l).codings = _ at a3
  change (frmS l).coding = _ at a4
  change (frmS l).lengths = _ at a5
  change (frmS l).length = _ at a6
  have z1 : frm0.codings = 0 := rfl
  have z2 : frm0.lengths = 0 := rfl
  rw [z1] at a3
  rw [z2] at a5
  obtain ⟨m, hm⟩ : ∃ m, m = frmS l := ⟨_, rfl⟩
  rw [← hm] at a3 a4 a5 a6 ⊢
  refine enter (args := [.agg (frmA m), .slice B rest.length c, .int .i64 minor]) Tryz.func112 rfl Tryz.ntmps112 rfl ?_
  have H := Hp.nil w
  repeat' (first | (with_reducible first | refine p_tn ?_ | refine wp_seq ?_ | refine w_reg ?_ | refine l_nil ?_) | ((with_reducible refine g_on ?_); (first | ((with_reducible refine g_as ?_); refine l_p txs rfl rfl ?_) | ((with_reducible refine g_fa ?_); refine h_fa flds rfl rfl ?_) | ((with_reducible refine g_ld ?_); (refine h_ld txs H 0 rfl rfl rfl rfl ?_)) | ((with_reducible refine g_bx ?_); refine h_box H rfl rfl rfl (fun g_ w_ H => ?_)))))
  (with_reducible refine is_l ?_); refine l_t txs rfl rfl (fun hcod => ?_) (fun hcod => ?_)
  · obtain ⟨cd, r, hv⟩ : ∃ cd r, vals l nCode = cd :: r := by
      cases hv : vals l nCode with
      | nil => rw [hv] at a3; simp only [List.length_nil] at a3; omega
      | cons cd r => exact ⟨cd, r, rfl⟩
    have hfe := frame_coded (minor := minor) hv
    have hcb := (vals_bytes hb (n := nCode) (v := cd) (by rw [hv]; simp)).1
    rw [hv, List.length_cons] at a3
    repeat' (first | (with_reducible first | refine p_tn ?_ | refine wp_seq ?_ | refine w_reg ?_) | (with_reducible (refine is_if ?_; (refine w_ift rfl ?_))) | (with_reducible refine l_nil ?_) | ((with_reducible refine g_on ?_); ((with_reducible refine g_mv ?_); refine l_p txs rfl rfl ?_)))
    (with_reducible refine is_l ?_); refine l_t txs rfl rfl (fun h1 => ?_) (fun h1 => ?_)
    · have hf : frameS l minor = .error 143 := by rw [hfe, if_pos (.inr (.inl h1))]
      repeat' (first | (with_reducible first | refine p_tn ?_ | refine wp_seq ?_) | (with_reducible (refine is_if ?_; (refine w_ift rfl ?_))) | (with_reducible refine l_nil ?_) | ((with_reducible refine g_on ?_); (first | ((with_reducible refine g_mv ?_); refine l_p txs rfl rfl ?_) | ((with_reducible refine g_pk ?_); refine l_p txs rfl rfl ?_))) | ((with_reducible refine g_if ?_); (refine l_off rfl ?_)))
      have HS := H.pick [] [] (by decide) (by decide) rfl rfl
      refine d_start (fun w_ => Hp w w_ _ _) #[false, false, false, false] (by kernel_rfl) rfl rfl HS.drew ?_
      have H := H.drew
      have HS := HS.drew
      first | (refine d_take (i := 0) #[true, false, false, false] rfl (by kernel_rfl) (fun _ _ _ h => h) rfl (fun w_ K => evL_run (o := ⟨_, _, _, _, _, _⟩) txs rfl (K.old c8)) HS ?_)
      first | (refine d_pure (i := 1) #[true, true, false, false] rfl (by kernel_rfl) (fun _ _ _ h => h) rfl (fun w_ => evP_run (o := ⟨_, _, _, _, _, _⟩) txs rfl) ?_)
      first | (refine d_pure (i := 2) #[true, true, true, false] rfl (by kernel_rfl) (fun _ _ _ h => h) rfl (fun w_ => evP_run (o := ⟨_, _, _, _, _, _⟩) txs rfl) ?_)
      first | (refine d_pure (i := 3) #[true, true, true, true] rfl (by kernel_rfl) (fun _ _ _ h => h) rfl (fun w_ => evP_run (o := ⟨_, _, _, _, _, _⟩) txs rfl) ?_)
      refine d_done rfl ?_
      repeat' (with_reducible first | refine p_tn ?_ | refine p_tr ?_ | refine wp_ret ?_)
      refine end3 rfl rfl rfl rfl ?_
      exact bdR_frame hf e8 (H.pick [] [] (by decide) (by decide) rfl rfl)
    repeat' (first | ((with_reducible refine g_on ?_); ((with_reducible refine g_mv ?_); refine l_p txs rfl rfl ?_)) | ((with_reducible refine g_if ?_); (first | ((with_reducible refine g_fa ?_); refine h_fa flds rfl rfl ?_) | ((with_reducible refine g_ld ?_); (refine h_ld txs H 0 rfl rfl rfl rfl ?_)))))
    (with_reducible refine is_l ?_); refine l_t txs rfl rfl (fun h2 => ?_) (fun h2 => ?_)
    · have hf : frameS l minor = .error 143 := by
        rw [hfe, if_pos]
        refine .inl (fun e => ?_)
        rw [e, List.length_nil] at a3
        omega
      repeat' (first | (with_reducible first | refine p_tn ?_ | refine wp_seq ?_) | (with_reducible (refine is_if ?_; (refine w_ift rfl ?_))) | (with_reducible refine l_nil ?_) | ((with_reducible refine g_on ?_); (first | ((with_reducible refine g_mv ?_); refine l_p txs rfl rfl ?_) | ((with_reducible refine g_pk ?_); refine l_p txs rfl rfl ?_))) | ((with_reducible refine g_if ?_); (refine l_off rfl ?_)))
      have HS := H.pick [] [] (by decide) (by decide) rfl rfl
      refine d_start (fun w_ => Hp w w_ _ _) #[false, false, false, false] (by kernel_rfl) rfl rfl HS.drew ?_
      have H := H.drew
      have HS := HS.drew
      first | (refine d_take (i := 0) #[true, false, false, false] rfl (by kernel_rfl) (fun _ _ _ h => h) rfl (fun w_ K => evL_run (o := ⟨_, _, _, _, _, _⟩) txs rfl (K.old c8)) HS ?_)
      first | (refine d_pure (i := 1) #[true, true, false, false] rfl (by kernel_rfl) (fun _ _ _ h => h) rfl (fun w_ => evP_run (o := ⟨_, _, _, _, _, _⟩) txs rfl) ?_)
      first | (refine d_pure (i := 2) #[true, true, true, false] rfl (by kernel_rfl) (fun _ _ _ h => h) rfl (fun w_ => evP_run (o := ⟨_, _, _, _, _, _⟩) txs rfl) ?_)
      first | (refine d_pure (i := 3) #[true, true, true, true] rfl (by kernel_rfl) (fun _ _ _ h => h) rfl (fun w_ => evP_run (o := ⟨_, _, _, _, _, _⟩) txs rfl) ?_)
      refine d_done rfl ?_
      repeat' (with_reducible first | refine p_tn ?_ | refine p_tr ?_ | refine wp_ret ?_)
      refine end3 rfl rfl rfl rfl ?_
      exact bdR_frame hf e8 (H.pick [] [] (by decide) (by decide) rfl rfl)
    have hr : r = [] := by
      cases r with
      | nil => rfl
      | cons a r => rw [List.length_cons] at a3; omega
    subst hr
    have hco : bl m.coding = lowS cd := by
      rw [a4, hv]
      show bl (strOfNums (lowS cd)) = _
      exact blS (bytes_low hcb)
    repeat' (first | ((with_reducible refine g_on ?_); (first | ((with_reducible refine g_mv ?_); refine l_p txs rfl rfl ?_) | ((with_reducible refine g_pk ?_); refine l_p txs rfl rfl ?_))) | ((with_reducible refine g_if ?_); (first | ((with_reducible refine g_fa ?_); refine h_fa flds rfl rfl ?_) | ((with_reducible refine g_ld ?_); (refine h_ld txs H 0 rfl rfl rfl rfl ?_)))))
    (with_reducible refine is_l ?_); refine l_t txs rfl rfl (fun h3 => ?_) (fun h3 => ?_)
    · have hf : frameS l minor = .error 143 := by rw [hfe, if_pos (.inr (.inr (.inl (fun e => h3 (by rw [hco, e]; rfl)))))]
      repeat' (first | (with_reducible first | refine p_tn ?_ | refine wp_seq ?_) | (with_reducible (refine is_if ?_; (refine w_ift rfl ?_))) | (with_reducible refine l_nil ?_) | ((with_reducible refine g_on ?_); (first | ((with_reducible refine g_mv ?_); refine l_p txs rfl rfl ?_) | ((with_reducible refine g_pk ?_); refine l_p txs rfl rfl ?_))) | ((with_reducible refine g_if ?_); (refine l_off rfl ?_)))
      have HS := H.pick [] [] (by decide) (by decide) rfl rfl
      refine d_start (fun w_ => Hp w w_ _ _) #[false, false, false, false] (by kernel_rfl) rfl rfl HS.drew ?_
      have H := H.drew
      have HS := HS.drew
      first | (refine d_take (i := 0) #[true, false, false, false] rfl (by kernel_rfl) (fun _ _ _ h => h) rfl (fun w_ K => evL_run (o := ⟨_, _, _, _, _, _⟩) txs rfl (K.old c8)) HS ?_)
      first | (refine d_pure (i := 1) #[true, true, false, false] rfl (by kernel_rfl) (fun _ _ _ h => h) rfl (fun w_ => evP_run (o := ⟨_, _, _, _, _, _⟩) txs rfl) ?_)
      first | (refine d_pure (i := 2) #[true, true, true, false] rfl (by kernel_rfl) (fun _ _ _ h => h) rfl (fun w_ => evP_run (o := ⟨_, _, _, _, _, _⟩) txs rfl) ?_)
      first | (refine d_pure (i := 3) #[true, true, true, true] rfl (by kernel_rfl) (fun _ _ _ h => h) rfl (fun w_ => evP_run (o := ⟨_, _, _, _, _, _⟩) txs rfl) ?_)
      refine d_done rfl ?_
      repeat' (with_reducible first | refine p_tn ?_ | refine p_tr ?_ | refine wp_ret ?_)
      refine end3 rfl rfl rfl rfl ?_
      exact bdR_frame hf e8 (H.pick [] [] (by decide) (by decide) rfl rfl)
    have hch : lowS cd = wChunked := by
      have : bl m.coding = wChunked := Classical.byContradiction (fun e => h3 e)
      rw [← hco, this]
    repeat' (first | ((with_reducible refine g_on ?_); (first | ((with_reducible refine g_mv ?_); refine l_p txs rfl rfl ?_) | ((with_reducible refine g_pk ?_); refine l_p txs rfl rfl ?_))) | ((with_reducible refine g_if ?_); (first | ((with_reducible refine g_fa ?_); refine h_fa flds rfl rfl ?_) | ((with_reducible refine g_ld ?_); (refine h_ld txs H 0 rfl rfl rfl rfl ?_)))))
    (with_reducible refine is_l ?_); refine l_t txs rfl rfl (fun h4 => ?_) (fun h4 => ?_)
    · have hf : frameS l minor = .error 143 := by
        rw [hfe, if_pos]
        refine .inr (.inr (.inr (fun e => ?_)))
        rw [e, List.length_nil] at a5
        omega
      repeat' (first | (with_reducible first | refine p_tn ?_ | refine wp_seq ?_) | (with_reducible (refine is_if ?_; (refine w_ift rfl ?_))) | (with_reducible refine l_nil ?_) | ((with_reducible refine g_on ?_); ((with_reducible refine g_pk ?_); refine l_p txs rfl rfl ?_)))
      have HS := H.pick [] [] (by decide) (by decide) rfl rfl
      refine d_start (fun w_ => Hp w w_ _ _) #[false, false, false, false] (by kernel_rfl) rfl rfl HS.drew ?_
      have H := H.drew
      have HS := HS.drew
      first | (refine d_take (i := 0) #[true, false, false, false] rfl (by kernel_rfl) (fun _ _ _ h => h) rfl (fun w_ K => evL_run (o := ⟨_, _, _, _, _, _⟩) txs rfl (K.old c8)) HS ?_)
      first | (refine d_pure (i := 1) #[true, true, false, false] rfl (by kernel_rfl) (fun _ _ _ h => h) rfl (fun w_ => evP_run (o := ⟨_, _, _, _, _, _⟩) txs rfl) ?_)
      first | (refine d_pure (i := 2) #[true, true, true, false] rfl (by kernel_rfl) (fun _ _ _ h => h) rfl (fun w_ => evP_run (o := ⟨_, _, _, _, _, _⟩) txs rfl) ?_)
      first | (refine d_pure (i := 3) #[true, true, true, true] rfl (by kernel_rfl) (fun _ _ _ h => h) rfl (fun w_ => evP_run (o := ⟨_, _, _, _, _, _⟩) txs rfl) ?_)
      refine d_done rfl ?_
      repeat' (with_reducible first | refine p_tn ?_ | refine p_tr ?_ | refine wp_ret ?_)
      refine end3 rfl rfl rfl rfl ?_
      exact bdR_frame hf e8 (H.pick [] [] (by decide) (by decide) rfl rfl)
    have hvl : vals l nLen = [] := by
      cases hv2 : vals l nLen with
      | nil => rfl
      | cons a r => rw [hv2, List.length_cons] at a5; omega
    have hf : frameS l minor = .ok .chunks := by
      rw [hfe, if_neg]
      rintro (h | h | h | h)
      · exact h rfl
      · exact h1 h
      · exact h hch
      · exact h hvl
    repeat' (first | (with_reducible first | refine p_tn ?_ | refine wp_seq ?_ | refine w_reg ?_) | (with_reducible (refine is_if ?_; (refine w_iff rfl ?_))) | (with_reducible first | refine wp_skip ?_ | refine l_nil ?_) | ((with_reducible refine g_on ?_); (first | ((with_reducible refine g_mv ?_); refine l_p txs rfl rfl ?_) | ((with_reducible refine g_pk ?_); refine l_p txs rfl rfl ?_))))
    have hcu := unchunk_c (hE.below H.B) (H.old hM) (h.below H.B) hc hn hbr hs
    (with_reducible refine is_l ?_); refine l_call rfl rfl (by kernel_rfl) hcu (fun e w_ hR => ?_)
    obtain ⟨K, hu⟩ := hR
    cases hun : unchunkS rest with
    | error k =>
      rw [hun] at hu
      simp only at hu
      subst hu
      refine ⟨_, rfl, ?_⟩
      have H := H.call K
      rcases un_errs hun with rfl | rfl | rfl
      · have hbo : bodyS rest .chunks = .error 145 := by simp only [bodyS, hun]; rfl
        repeat' (first | (with_reducible first | refine p_tn ?_ | refine wp_seq ?_ | refine w_reg ?_ | refine l_nil ?_) | ((with_reducible refine g_on ?_); (first | ((with_reducible refine g_mv ?_); refine l_p txs rfl rfl ?_) | ((with_reducible refine g_as ?_); refine l_p txs rfl rfl ?_) | ((with_reducible refine g_ex ?_); refine l_p txs rfl rfl ?_))))
        (with_reducible refine is_l ?_); refine l_ld txs rfl rfl (H.old c4) ?_
        (with_reducible refine is_l ?_); refine l_eq rfl rfl rfl (fun _ _ => .inl (by simp [errU])) (.inl (by simp [errU])) (same_err (A 4) w_) ?_
        repeat' (first | (with_reducible first | refine p_tn ?_ | refine w_reg ?_) | (with_reducible (refine is_if ?_; (refine w_ift rfl ?_))) | (with_reducible refine l_nil ?_))
        (with_reducible refine is_l ?_); refine l_ld txs rfl rfl (H.old c10) ?_
        repeat' (first | (with_reducible first | refine p_tn ?_ | refine wp_seq ?_ | refine w_reg ?_ | refine l_nil ?_) | ((with_reducible refine g_on ?_); (first | ((with_reducible refine g_mv ?_); refine l_p txs rfl rfl ?_) | ((with_reducible refine g_as ?_); refine l_p txs rfl rfl ?_))))
        (with_reducible refine is_l ?_); refine l_callp rfl rfl (by kernel_rfl) (in_c tBody _ _ _) ?_
        repeat' (first | (with_reducible first | refine p_tn ?_ | refine p_tr ?_ | refine wp_ret ?_ | refine l_nil ?_) | ((with_reducible refine g_on ?_); ((with_reducible refine g_as ?_); refine l_p txs rfl rfl ?_)))
        refine end3 rfl rfl rfl rfl ?_
        exact bdR_body hf hbo p10 (H.pick [] [] (by decide) (by decide) rfl rfl)
      · have hbo : bodyS rest .chunks = .error 140 := by simp only [bodyS, hun]; rfl
        obtain ⟨ca, ta, ra⟩ := ((hE.below H.B).sent 5 (by decide) (by decide)).row
        obtain ⟨cb, tb, rb⟩ := ((hE.below H.B).sent 4 (by decide) (by decide)).row
        repeat' (first | (with_reducible first | refine p_tn ?_ | refine wp_seq ?_ | refine w_reg ?_ | refine l_nil ?_) | ((with_reducible refine g_on ?_); (first | ((with_reducible refine g_mv ?_); refine l_p txs rfl rfl ?_) | ((with_reducible refine g_as ?_); refine l_p txs rfl rfl ?_) | ((with_reducible refine g_ex ?_); refine l_p txs rfl rfl ?_))))
        (with_reducible refine is_l ?_); refine l_ld txs rfl rfl (H.old c4) ?_
        (with_reducible refine is_l ?_); refine l_eq rfl rfl rfl (fun _ _ => .inl (by simp [errU])) (.inl (by simp [errU])) (other_err w_ (hE.ne 5 4 (by decide) (by decide) (by decide) (by decide) (by decide)) ra rb) ?_
        repeat' (first | (with_reducible first | refine p_tn ?_ | refine wp_seq ?_ | refine w_reg ?_) | (with_reducible (refine is_if ?_; (refine w_iff rfl ?_))) | (with_reducible first | refine wp_skip ?_ | refine l_nil ?_) | ((with_reducible refine g_on ?_); ((with_reducible refine g_mv ?_); refine l_p txs rfl rfl ?_)))
        (with_reducible refine is_l ?_); refine l_callp rfl rfl (by kernel_rfl) (in_c tBody _ _ _) ?_
        repeat' (first | (with_reducible first | refine p_tn ?_ | refine p_tr ?_ | refine wp_ret ?_ | refine l_nil ?_) | ((with_reducible refine g_on ?_); ((with_reducible refine g_as ?_); refine l_p txs rfl rfl ?_)))
        refine end3 rfl rfl rfl rfl ?_
        exact bdR_body hf hbo p5 (H.pick [] [] (by decide) (by decide) rfl rfl)
      · have hbo : bodyS rest .chunks = .error 146 := by simp only [bodyS, hun]; rfl
        obtain ⟨ca, ta, ra⟩ := ((hE.below H.B).sent 11 (by decide) (by decide)).row
        obtain ⟨cb, tb, rb⟩ := ((hE.below H.B).sent 4 (by decide) (by decide)).row
        repeat' (first | (with_reducible first | refine p_tn ?_ | refine wp_seq ?_ | refine w_reg ?_ | refine l_nil ?_) | ((with_reducible refine g_on ?_); (first | ((with_reducible refine g_mv ?_); refine l_p txs rfl rfl ?_) | ((with_reducible refine g_as ?_); refine l_p txs rfl rfl ?_) | ((with_reducible refine g_ex ?_); refine l_p txs rfl rfl ?_))))
        (with_reducible refine is_l ?_); refine l_ld txs rfl rfl (H.old c4) ?_
        (with_reducible refine is_l ?_); refine l_eq rfl rfl rfl (fun _ _ => .inl (by simp [errU])) (.inl (by simp [errU])) (other_err w_ (hE.ne 11 4 (by decide) (by decide) (by decide) (by decide) (by decide)) ra rb) ?_
        repeat' (first | (with_reducible first | refine p_tn ?_ | refine wp_seq ?_ | refine w_reg ?_) | (with_reducible (refine is_if ?_; (refine w_iff rfl ?_))) | (with_reducible first | refine wp_skip ?_ | refine l_nil ?_) | ((with_reducible refine g_on ?_); ((with_reducible refine g_mv ?_); refine l_p txs rfl rfl ?_)))
        (with_reducible refine is_l ?_); refine l_callp rfl rfl (by kernel_rfl) (in_c tBody _ _ _) ?_
        repeat' (first | (with_reducible first | refine p_tn ?_ | refine p_tr ?_ | refine wp_ret ?_ | refine l_nil ?_) | ((with_reducible refine g_on ?_); ((with_reducible refine g_as ?_); refine l_p txs rfl rfl ?_)))
        refine end3 rfl rfl rfl rfl ?_
        exact bdR_body hf hbo p11 (H.pick [] [] (by decide) (by decide) rfl rfl)
    | ok z =>
      obtain ⟨b, n⟩ := z
      rw [hun] at hu
      simp only at hu
      obtain ⟨A1, c1, rfl, hO, hle⟩ := hu
      refine ⟨_, rfl, ?_⟩
      have hbo : bodyS rest .chunks = .ok (b, n) := by simp only [bodyS, hun]
      have H := H.join (Hp.ofOwn hO K)
      repeat' (first | (with_reducible first | refine p_tn ?_ | refine wp_seq ?_ | refine w_reg ?_ | refine l_nil ?_) | ((with_reducible refine g_on ?_); (first | ((with_reducible refine g_mv ?_); refine l_p txs rfl rfl ?_) | ((with_reducible refine g_as ?_); refine l_p txs rfl rfl ?_) | ((with_reducible refine g_ex ?_); refine l_p txs rfl rfl ?_))))
      (with_reducible refine is_l ?_); refine l_ld txs rfl rfl (H.old c4) ?_
      (with_reducible refine is_l ?_); refine l_eq rfl rfl rfl (fun _ _ => .inl (by simp)) (.inr (by simp)) (nil_err _ _ w_) ?_
      repeat' (first | (with_reducible first | refine p_tn ?_ | refine wp_seq ?_ | refine w_reg ?_) | (with_reducible (refine is_if ?_; (refine w_iff rfl ?_))) | (with_reducible first | refine wp_skip ?_ | refine l_nil ?_) | ((with_reducible refine g_on ?_); ((with_reducible refine g_mv ?_); refine l_p txs rfl rfl ?_)))
      (with_reducible refine is_l ?_); refine l_callp rfl rfl (by kernel_rfl) (in_nil tBody _) ?_
      repeat' (first | (with_reducible first | refine p_tn ?_ | refine p_tr ?_ | refine wp_ret ?_ | refine l_nil ?_) | ((with_reducible refine g_on ?_); ((with_reducible refine g_as ?_); refine l_p txs rfl rfl ?_)))
      refine end3 rfl rfl rfl rfl ?_
      exact bdR_ok hf hbo (H.pick [] [0] (by decide) (by decide) rfl rfl)
  have hv : vals l nCode = [] := by
    cases hv : vals l nCode with
    | nil => rfl
    | cons a r => rw [hv, List.length_cons] at a3; omega
  repeat' (first | (with_reducible first | refine p_tn ?_ | refine wp_seq ?_ | refine w_reg ?_) | (with_reducible (refine is_if ?_; (refine w_iff rfl ?_))) | (with_reducible first | refine wp_skip ?_ | refine l_nil ?_) | ((with_reducible refine g_on ?_); (first | ((with_reducible refine g_fa ?_); refine h_fa flds rfl rfl ?_) | ((with_reducible refine g_ld ?_); (refine h_ld txs H 0 rfl rfl rfl rfl ?_)))))
  (with_reducible refine is_l ?_); refine l_t txs rfl rfl (fun h1 => ?_) (fun h1 => ?_)
  · have hf : frameS l minor = .error 143 := by
      cases hv2 : vals l nLen with
      | nil => rw [hv2, List.length_nil] at a5; omega
      | cons a r =>
        cases r with
        | nil => rw [hv2, List.length_cons, List.length_nil] at a5; omega
        | cons b r => exact frame_len2 hv hv2
    repeat' (first | (with_reducible first | refine p_tn ?_ | refine wp_seq ?_) | (with_reducible (refine is_if ?_; (refine w_ift rfl ?_))) | (with_reducible refine l_nil ?_))
    have HS := H.pick [] [] (by decide) (by decide) rfl rfl
    refine d_start (fun w_ => Hp w w_ _ _) #[false, false, false, false] (by kernel_rfl) rfl rfl HS.drew ?_
    have H := H.drew
    have HS := HS.drew
    first | (refine d_take (i := 0) #[true, false, false, false] rfl (by kernel_rfl) (fun _ _ _ h => h) rfl (fun w_ K => evL_run (o := ⟨_, _, _, _, _, _⟩) txs rfl (K.old c8)) HS ?_)
    first | (refine d_pure (i := 1) #[true, true, false, false] rfl (by kernel_rfl) (fun _ _ _ h => h) rfl (fun w_ => evP_run (o := ⟨_, _, _, _, _, _⟩) txs rfl) ?_)
    first | (refine d_pure (i := 2) #[true, true, true, false] rfl (by kernel_rfl) (fun _ _ _ h => h) rfl (fun w_ => evP_run (o := ⟨_, _, _, _, _, _⟩) txs rfl) ?_)
    first | (refine d_pure (i := 3) #[true, true, true, true] rfl (by kernel_rfl) (fun _ _ _ h => h) rfl (fun w_ => evP_run (o := ⟨_, _, _, _, _, _⟩) txs rfl) ?_)
    refine d_done rfl ?_
    repeat' (with_reducible first | refine p_tn ?_ | refine p_tr ?_ | refine wp_ret ?_)
    refine end3 rfl rfl rfl rfl ?_
    exact bdR_frame hf e8 (H.pick [] [] (by decide) (by decide) rfl rfl)
  obtain ⟨v, hv2⟩ : ∃ v, vals l nLen = [v] := by
    cases hv2 : vals l nLen with
    | nil => exact absurd hv2 (hfr.elim (fun h => absurd hv h) id)
    | cons a r =>
      cases r with
      | nil => exact ⟨a, rfl⟩
      | cons b r => rw [hv2, List.length_cons, List.length_cons] at a5; omega
  obtain ⟨hvb, hvl⟩ := vals_bytes hb (n := nLen) (v := v) (by rw [hv2]; simp)
  have hml : m.length = strOfNums v := by rw [a6, hv2]; rfl
  have hfe := frame_len1 (minor := minor) hv hv2
  have zv := sizeS' hvb
  have hnum := fun w1 => number_c (strOfNums v) 1048576 (by decide) (by decide) w1 (by omega)
  rw [blS hvb] at hnum
  rw [hml] at H
  repeat' (first | (with_reducible first | refine p_tn ?_ | refine wp_seq ?_ | refine w_reg ?_) | (with_reducible (refine is_if ?_; (refine w_iff rfl ?_))) | (with_reducible first | refine wp_skip ?_ | refine l_nil ?_) | ((with_reducible refine g_on ?_); (first | ((with_reducible refine g_fa ?_); refine h_fa flds rfl rfl ?_) | ((with_reducible refine g_ld ?_); (refine h_ld txs H 0 rfl rfl rfl rfl ?_)))))
  cases hnv : numS v with
  | none =>
    rw [numberV_none _ hnv] at hnum
    have hf : frameS l minor = .error 143 := by rw [hfe, hnv]
    (with_reducible refine is_l ?_); refine l_callp rfl rfl (by kernel_rfl) (hnum _) ?_
    repeat' (first | (with_reducible first | refine p_tn ?_ | refine wp_seq ?_ | refine wp_block ?_ | refine w_reg ?_) | (with_reducible (refine is_if ?_; (refine w_ift rfl ?_))) | (with_reducible refine l_nil ?_) | ((with_reducible refine g_on ?_); (first | ((with_reducible refine g_mv ?_); refine l_p txs rfl rfl ?_) | ((with_reducible refine g_as ?_); refine l_p txs rfl rfl ?_) | ((with_reducible refine g_ex ?_); refine l_p txs rfl rfl ?_) | ((with_reducible refine g_un ?_); (refine l_p txs rfl rfl ?_)))))
    have HS := H.pick [] [] (by decide) (by decide) rfl rfl
    refine d_start (fun w_ => Hp w w_ _ _) #[false, false, false, false] (by kernel_rfl) rfl rfl HS.drew ?_
    have H := H.drew
    have HS := HS.drew
    first | (refine d_take (i := 0) #[true, false, false, false] rfl (by kernel_rfl) (fun _ _ _ h => h) rfl (fun w_ K => evL_run (o := ⟨_, _, _, _, _, _⟩) txs rfl (K.old c8)) HS ?_)
    first | (refine d_pure (i := 1) #[true, true, false, false] rfl (by kernel_rfl) (fun _ _ _ h => h) rfl (fun w_ => evP_run (o := ⟨_, _, _, _, _, _⟩) txs rfl) ?_)
    first | (refine d_pure (i := 2) #[true, true, true, false] rfl (by kernel_rfl) (fun _ _ _ h => h) rfl (fun w_ => evP_run (o := ⟨_, _, _, _, _, _⟩) txs rfl) ?_)
    first | (refine d_pure (i := 3) #[true, true, true, true] rfl (by kernel_rfl) (fun _ _ _ h => h) rfl (fun w_ => evP_run (o := ⟨_, _, _, _, _, _⟩) txs rfl) ?_)
    refine d_done rfl ?_
    repeat' (with_reducible first | refine p_tn ?_ | refine p_tr ?_ | refine p_br ?_ | refine wp_ret ?_)
    refine end3 rfl rfl rfl rfl ?_
    exact bdR_frame hf e8 (H.pick [] [] (by decide) (by decide) rfl rfl)
  | some n =>
    rw [numberV_some _ hnv] at hnum
    rw [hnv] at hfe
    simp only at hfe
    by_cases hbig : 1048576 < n
    · have hf : frameS l minor = .error 145 := by rw [hfe, if_pos hbig]
      obtain ⟨k, hk⟩ : ∃ k : Int, k = if (1048576 : Int) + 1 < (n : Int) then 1048576 + 1 else (n : Int) := ⟨_, rfl⟩
      have hk2 : 1048576 < k := by rw [hk]; split <;> omega
      rw [← hk] at hnum
      (with_reducible refine is_l ?_); refine l_callp rfl rfl (by kernel_rfl) (hnum _) ?_
      repeat' (first | (with_reducible first | refine p_tn ?_ | refine wp_seq ?_ | refine wp_block ?_ | refine w_reg ?_) | (with_reducible (refine is_if ?_; (refine w_iff rfl ?_))) | (with_reducible refine l_nil ?_) | ((with_reducible refine g_on ?_); (first | ((with_reducible refine g_mv ?_); refine l_p txs rfl rfl ?_) | ((with_reducible refine g_as ?_); refine l_p txs rfl rfl ?_) | ((with_reducible refine g_ex ?_); refine l_p txs rfl rfl ?_) | ((with_reducible refine g_un ?_); (refine l_p txs rfl rfl ?_)))))
      (with_reducible refine is_l ?_); refine l_t txs rfl rfl (fun h2 => ?_) (fun h2 => absurd hk2 h2)
      repeat' (first | (with_reducible first | refine p_tn ?_ | refine wp_seq ?_) | (with_reducible (refine is_if ?_; (refine w_ift rfl ?_))) | (with_reducible refine l_nil ?_) | ((with_reducible refine g_on ?_); ((with_reducible refine g_as ?_); refine l_p txs rfl rfl ?_)))
      have HS := H.pick [] [] (by decide) (by decide) rfl rfl
      refine d_start (fun w_ => Hp w w_ _ _) #[false, false, false, false] (by kernel_rfl) rfl rfl HS.drew ?_
      have H := H.drew
      have HS := HS.drew
      first | (refine d_take (i := 0) #[true, false, false, false] rfl (by kernel_rfl) (fun _ _ _ h => h) rfl (fun w_ K => evL_run (o := ⟨_, _, _, _, _, _⟩) txs rfl (K.old c10)) HS ?_)
      first | (refine d_pure (i := 1) #[true, true, false, false] rfl (by kernel_rfl) (fun _ _ _ h => h) rfl (fun w_ => evP_run (o := ⟨_, _, _, _, _, _⟩) txs rfl) ?_)
      first | (refine d_pure (i := 2) #[true, true, true, false] rfl (by kernel_rfl) (fun _ _ _ h => h) rfl (fun w_ => evP_run (o := ⟨_, _, _, _, _, _⟩) txs rfl) ?_)
      first | (refine d_pure (i := 3) #[true, true, true, true] rfl (by kernel_rfl) (fun _ _ _ h => h) rfl (fun w_ => evP_run (o := ⟨_, _, _, _, _, _⟩) txs rfl) ?_)
      refine d_done rfl ?_
      repeat' (with_reducible first | refine p_tn ?_ | refine p_tr ?_ | refine p_br ?_ | refine wp_ret ?_)
      refine end3 rfl rfl rfl rfl ?_
      exact bdR_frame hf e10 (H.pick [] [] (by decide) (by decide) rfl rfl)
    · have hf : frameS l minor = .ok (.len n) := by rw [hfe, if_neg hbig]
      have hk : (if (1048576 : Int) + 1 < (n : Int) then (1048576 : Int) + 1 else (n : Int)) = (n : Int) := if_neg (by omega)
      rw [hk] at hnum
      (with_reducible refine is_l ?_); refine l_callp rfl rfl (by kernel_rfl) (hnum _) ?_
      repeat' (first | (with_reducible first | refine p_tn ?_ | refine wp_seq ?_ | refine wp_block ?_ | refine w_reg ?_) | (with_reducible (refine is_if ?_; (refine w_iff rfl ?_))) | (with_reducible refine l_nil ?_) | ((with_reducible refine g_on ?_); (first | ((with_reducible refine g_mv ?_); refine l_p txs rfl rfl ?_) | ((with_reducible refine g_as ?_); refine l_p txs rfl rfl ?_) | ((with_reducible refine g_ex ?_); refine l_p txs rfl rfl ?_) | ((with_reducible refine g_un ?_); (refine l_p txs rfl rfl ?_)))))
      (with_reducible refine is_l ?_); refine l_t txs rfl rfl (fun h2 => absurd h2 (by omega)) (fun h2 => ?_)
      repeat' (first | (with_reducible first | refine p_tn ?_ | refine wp_seq ?_ | refine w_reg ?_) | (with_reducible (refine is_if ?_; (refine w_iff rfl ?_))) | (with_reducible refine l_nil ?_) | ((with_reducible refine g_on ?_); (first | ((with_reducible refine g_mv ?_); refine l_p txs rfl rfl ?_) | ((with_reducible refine g_as ?_); refine l_p txs rfl rfl ?_) | ((with_reducible refine g_cl ?_); refine l_p txs rfl rfl ?_))))
      (with_reducible refine is_l ?_); refine l_t txs rfl rfl (fun h3 => ?_) (fun h3 => ?_)
      · have hbo : bodyS rest (.len n) = .error 140 := by simp only [bodyS]; rw [if_pos (by omega)]
        repeat' (first | (with_reducible first | refine p_tn ?_ | refine wp_seq ?_ | refine w_reg ?_) | (with_reducible (refine is_if ?_; (refine w_ift rfl ?_))) | (with_reducible refine l_nil ?_) | ((with_reducible refine g_on ?_); ((with_reducible refine g_as ?_); refine l_p txs rfl rfl ?_)))
        (with_reducible refine is_l ?_); refine l_ld txs rfl rfl (H.old c5) ?_
        (with_reducible refine is_l ?_); refine l_callp rfl rfl (by kernel_rfl) (in_c tBody _ _ _) ?_
        repeat' (first | (with_reducible first | refine p_tn ?_ | refine p_tr ?_ | refine p_br ?_ | refine wp_ret ?_ | refine l_nil ?_) | ((with_reducible refine g_on ?_); ((with_reducible refine g_as ?_); refine l_p txs rfl rfl ?_)))
        refine end3 rfl rfl rfl rfl ?_
        exact bdR_body hf hbo p5 (H.pick [] [] (by decide) (by decide) rfl rfl)
      · have hbo : bodyS rest (.len n) = .ok (rest.take n, n) := by simp only [bodyS]; rw [if_neg (by omega)]
        have hnl : n ≤ rest.length := by omega
        repeat' (first | (with_reducible first | refine p_tn ?_ | refine p_bn ?_ | refine wp_seq ?_ | refine w_reg ?_) | (with_reducible (refine is_if ?_; (refine w_iff rfl ?_))) | (with_reducible first | refine wp_skip ?_ | refine l_nil ?_) | ((with_reducible refine g_on ?_); (first | ((with_reducible refine g_mv ?_); refine l_p txs rfl rfl ?_) | ((with_reducible refine g_as ?_); refine l_p txs rfl rfl ?_))))
        (with_reducible refine is_l ?_); refine l_cutN txs 0 n rfl rfl (by omega) (by omega) ?_
        have r0 := reads_cut (h.below H.B) (p := 0) (q := n) (c := c) (by omega) hnl hc
        rw [List.drop_zero] at r0
        have ht : (rest.take n).length = n := by rw [List.length_take]; omega
        cases hB : cutA B c 0 1 with
        | none =>
          have hB0 := cutA_none hB
          have hn0 := hn hB0
          have hnz : n = 0 := by omega
          subst hnz
          (with_reducible refine is_l ?_); refine l_callp rfl rfl (by kernel_rfl) (Tryz.bytes_Clone_nil _ _ _) ?_
          repeat' (first | (with_reducible first | refine p_tn ?_ | refine wp_ret ?_ | refine l_nil ?_) | ((with_reducible refine g_on ?_); (first | ((with_reducible refine g_mv ?_); refine l_p txs rfl rfl ?_) | ((with_reducible refine g_as ?_); refine l_p txs rfl rfl ?_))))
          refine end3 rfl rfl rfl rfl ?_
          have H := (H.nilRow 5 1).pick [] [0] (by decide) (by decide) rfl rfl
          exact bdR_ok (b := rest.take 0) (B := none) (c := 0) hf hbo H
        | some ad =>
          rw [hB] at r0
          have hcl := Tryz.bytes_Clone_at ad (n - 0) (c - 0) (rest.take n) w_ r0.1 (by omega) (fun i hi => by
            obtain ⟨ad', e, hcc⟩ := r0.2.2 (by omega)
            cases e
            exact hcc i hi)
          (with_reducible refine is_l ?_); refine l_call rfl rfl (by kernel_rfl) hcl (fun e w_ hR => ?_)
          obtain ⟨v', rfl, hO, _, K⟩ := hR
          obtain ⟨A', c', rfl⟩ := own_slice hO
          refine ⟨_, rfl, ?_⟩
          have H := H.join (Hp.ofOwn hO K)
          repeat' (first | (with_reducible first | refine p_tn ?_ | refine wp_ret ?_ | refine l_nil ?_) | ((with_reducible refine g_on ?_); (first | ((with_reducible refine g_mv ?_); refine l_p txs rfl rfl ?_) | ((with_reducible refine g_as ?_); refine l_p txs rfl rfl ?_))))
          refine end3 rfl rfl rfl rfl ?_
          have H := H.pick [] [0] (by decide) (by decide) rfl rfl
          have hln2 : n - 0 = (rest.take n).length := by omega
          rw [hln2] at H ⊢
          exact bdR_ok hf hbo H
end Go.Proofs.YthgojbdpmcccaaaGreatDoor.K
end
section
namespace Go.Proofs.YthgojbdpmcccaaaGreatDoor.K
open Go.RowKit Go.Proofs.YthgojbdpmcccaaaGreatDoor.Q Go.Proofs.YthgojbdpmcccaaaGreatDoor.Wb Go.Proofs.YthgojbdpmcccaaaGreatDoorW.PrintWords
set_option linter.unusedVariables false
set_option linter.unusedSimpArgs false
def ErrB (A : Nat → Addr) (v : Value) (k : Nat) : Prop := ∃ g, 2 ≤ g ∧ g ≤ 12 ∧ codeE g = (k : Int) ∧ v = errV (A g)
theorem ErrB.of {A : Nat → Addr} {v : Value} {k : Nat} (h : ErrB A v k) : ErrOf A v k := by
  obtain ⟨g, a, b, c, d⟩ := h
  exact ⟨g, a, Nat.le_succ_of_le b, c, .inl d⟩
theorem ErrB.placed {A : Nat → Addr} {v : Value} {k : Nat} (h : ErrB A v k) (part : ByteArray) : ErrOf A (placV part v) k := by
  obtain ⟨g, a, b, c, rfl⟩ := h
  exact ⟨g, a, Nat.le_succ_of_le b, c, .inr ⟨b, part, rfl⟩⟩
def HdR (A : Nat → Addr) (w : World) (tl : Nat) (B : Option Addr) (b : L) (e : Ending) (w' : World) : Prop := match cutS tl b with
  | .error k => ∃ s a1 l1 c1 a2 l2 c2 v, ErrB A v k ∧ e = .returned (.tuple #[.agg #[.string s, .slice a1 l1 c1, .slice a2 l2 c2], v]) ∧ Hp w w' [] []
  | .ok (first, ls, r) => ∃ Bf cf Br cr, e = .returned (.tuple #[.agg #[.string (strOfNums first), .slice Bf ls.length cf, .slice Br r.length cr], .nilIface]) ∧ Hp w w' [] [rowS (.slice Bf ls.length cf) ls] ∧ (∀ w1, ReadsInt w1 .u8 B b.length b → ReadsInt w1 .u8 Br r.length r) ∧ r.length ≤ cr ∧ (Br = none → cr = 0 ∧ r.length = 0)
theorem hdR_err {A : Nat → Addr} {w : World} {tl : Nat} {B : Option Addr} {b : L} {w' : World} {k : Nat} {v : Value} {s : ByteArray} {a1 a2 : Option Addr} {l1 c1 l2 c2 : Nat} (h : cutS tl b = .error k) (hv : ErrB A v k) (H : Hp w w' [] []) : HdR A w tl B b (.returned (.tuple #[.agg #[.string s, .slice a1 l1 c1, .slice a2 l2 c2], v])) w' := by
  unfold HdR; rw [h]; exact ⟨s, a1, l1, c1, a2, l2, c2, v, hv, rfl, H⟩
theorem linesS_succ (f : Nat) (b : L) : linesS (f + 1) b = match lineS b with
    | none => none
    | some ([], r) => some ([], r)
    | some (x :: l, r) => match linesS f r with
      | none => none
      | some (ls, q) => some ((x :: l) :: ls, q) := rfl
theorem cutS_none {tl : Nat} {b : L} (h : lineS b = none) : cutS tl b = if 8001 < b.length then .error tl else .error 140 := by unfold cutS; rw [h]
theorem cutS_long {tl : Nat} {b first rest : L} (h : lineS b = some (first, rest)) (h2 : 8000 < first.length) : cutS tl b = .error tl := by unfold cutS; rw [h]; exact if_pos h2
theorem cutS_lines {tl : Nat} {b first rest : L} (h : lineS b = some (first, rest)) (h2 : ¬ 8000 < first.length) : cutS tl b = match linesS (rest.length + 1) rest with
    | none => if 16384 < rest.length then .error 2 else .error 140
    | some (ls, r) => if 16384 < rest.length - r.length then .error 2 else .ok (first, ls, r) := by unfold cutS; rw [h]; simp only; rw [if_neg h2]; cases linesS (rest.length + 1) rest <;> rfl
structure HJ (w : World) (B : Option Addr) (b : L) (g6 g4 : Nat) (first rest : L) (acc : List L) (B1 : Option Addr) (c1 : Nat) (Bl : Option Addr) (cl : Nat) (left : L) (w' : World) : Prop where
  H : Hp w w' [(g6, 171, [.string (strOfNums first), .slice B1 acc.length c1, .slice none 0 0]), (g4, 171, [.string ⟨#[]⟩, .slice none 0 0, .slice none 0 0])] [rowS (.slice B1 acc.length c1) acc]
  rd : ∀ w1, ReadsInt w1 .u8 B b.length b → ReadsInt w1 .u8 Bl left.length left
  rc : left.length ≤ cl
  rn : Bl = none → cl = 0 ∧ left.length = 0
  rb : Bytes left
  al : acc.length + left.length ≤ rest.length
  D : ∃ f, left.length < f ∧ linesS (rest.length + 1) rest = match linesS f left with | none => none | some (ls, q) => some (acc ++ ls, q)
theorem line_rest {w : World} {B : Option Addr} {c : Nat} {l x bh : L} (h : ReadsInt w .u8 B l.length l) (hc : l.length ≤ c) (hn : B = none → c = 0 ∧ l.length = 0) (hb : Bytes l) (hl : lineS l = some (x, bh)) :
    ReadsInt w .u8 (cutA B c (l.length - bh.length) 1) bh.length bh ∧ bh.length ≤ c - (l.length - bh.length) ∧ (cutA B c (l.length - bh.length) 1 = none → c - (l.length - bh.length) = 0 ∧ bh.length = 0) ∧ Bytes bh ∧ Bytes x ∧ x.length ≤ l.length ∧ bh.length < l.length := by
  obtain ⟨q, hq, _, hxq⟩ := lineS_some hl
  have hlen : q.length + 1 + bh.length = l.length := by rw [hq]; simp; omega
  have hxl : x.length ≤ l.length := by rw [hxq]; have := chop_le q; omega
  have hdrop : (l.take l.length).drop (l.length - bh.length) = bh := by
    rw [List.take_length, hq, show (q ++ 10 :: bh).length - bh.length = (q ++ [10]).length by simp; omega]
    rw [show q ++ 10 :: bh = (q ++ [10]) ++ bh by simp, List.drop_left]
  have rdb := reads_cut h (p := l.length - bh.length) (q := l.length) (c := c) (by omega) (Nat.le_refl _) hc
  rw [hdrop, show l.length - (l.length - bh.length) = bh.length by omega] at rdb
  refine ⟨rdb, by omega, fun e => ?_, fun y hy => hb y (by rw [hq]; simp [hy]), fun y hy => ?_, hxl, by omega⟩
  · have := hn (cutA_none e)
    omega
  · rw [hxq, chop_take] at hy
    exact hb y (by rw [hq]; simp [List.mem_of_mem_take hy])
set_option maxHeartbeats 8000000 in
theorem head_c {A : Nat → Addr} {w : World} (hE : LayS A w) {g : Nat} (hg2 : 2 ≤ g) (hg12 : g ≤ 12) {tl : Nat} (htl : codeE g = (tl : Int)) {B : Option Addr} {c : Nat} {b : L} (h : ReadsInt w .u8 B b.length b) (hc : b.length ≤ c) (hn : B = none → c = 0 ∧ b.length = 0) (hb : Bytes b) (hs : b.length ≤ 2000000000000) :
    Calls Tryz.prog 108 #[.slice B b.length c, errV (A g)] w (HdR A w tl B b) := by
  have c4 := (hE.sent 4 (by decide) (by decide)).cell
  have c5 := (hE.sent 5 (by decide) (by decide)).cell
  have e4 : ErrB A (errV (A 4)) 2 := ⟨4, by decide, by decide, rfl, rfl⟩
  have e5 : ErrB A (errV (A 5)) 140 := ⟨5, by decide, by decide, rfl, rfl⟩
  have et : ErrB A (errV (A g)) tl := ⟨g, hg2, hg12, htl, rfl⟩
  refine enter (args := [.slice B b.length c, errV (A g)]) Tryz.func108 rfl Tryz.ntmps108 rfl ?_
  have H := Hp.nil w
  repeat' (with_reducible first | refine wp_seq ?_ | refine w_reg ?_)
  (with_reducible refine is_l ?_); refine h_alloc recs H rfl rfl (fun g4 w_ H => ?_)
  (with_reducible refine g_on ?_); ((with_reducible refine g_as ?_); refine l_p txs rfl rfl ?_)
  with_reducible refine l_nil ?_
  repeat' (with_reducible first | refine p_tn ?_ | refine wp_seq ?_ | refine w_reg ?_ | refine wp_scope_straight ?_)
  (with_reducible refine is_l ?_); refine h_alloc recs H rfl rfl (fun g6 w_ H => ?_)
  repeat' (first | (with_reducible first | refine p_tn ?_ | refine wp_seq ?_ | refine w_reg ?_ | refine l_nil ?_) | ((with_reducible refine g_on ?_); ((with_reducible refine g_mv ?_); refine l_p txs rfl rfl ?_)))
  have hcl := line_c (h.below H.B) hc hn hb (by omega)
  cases hline : lineS b with
  | none =>
    rw [lineV_none hline] at hcl
    have hcs := cutS_none (tl := tl) hline
    (with_reducible refine is_l ?_); refine l_callv rfl rfl (by kernel_rfl) hcl (fun w_ K => ?_)
    have H := H.call K
    repeat' (first | (with_reducible first | refine p_tn ?_ | refine wp_seq ?_ | refine w_reg ?_) | (with_reducible (refine is_if ?_; (refine w_ift rfl ?_))) | (with_reducible refine l_nil ?_) | ((with_reducible refine g_on ?_); (first | ((with_reducible refine g_mv ?_); refine l_p txs rfl rfl ?_) | ((with_reducible refine g_as ?_); refine l_p txs rfl rfl ?_) | ((with_reducible refine g_ex ?_); refine l_p txs rfl rfl ?_) | ((with_reducible refine g_un ?_); (refine l_p txs rfl rfl ?_)) | ((with_reducible refine g_cl ?_); refine l_p txs rfl rfl ?_))))
    (with_reducible refine is_l ?_); refine l_t txs rfl rfl (fun h1 => ?_) (fun h1 => ?_)
    · rw [if_pos (by omega)] at hcs
      repeat' (first | (with_reducible first | refine p_tn ?_ | refine p_tr ?_ | refine wp_seq ?_ | refine w_reg ?_) | (with_reducible (refine is_if ?_; (refine w_ift rfl ?_))) | (with_reducible first | refine wp_ret ?_ | refine p_sr ?_ | refine l_nil ?_) | ((with_reducible refine g_on ?_); (first | ((with_reducible refine g_mv ?_); refine l_p txs rfl rfl ?_) | ((with_reducible refine g_as ?_); refine l_p txs rfl rfl ?_) | ((with_reducible refine g_ld ?_); (refine h_ldR recs H 0 rfl rfl rfl rfl rfl ?_)) | ((with_reducible refine g_st ?_); (refine h_stR recs H 1 rfl rfl rfl rfl rfl rfl rfl rfl rfl (fun w_ H => ?_))))))
      refine end_ct recs H 1 rfl rfl rfl rfl rfl rfl ?_
      exact hdR_err hcs et (H.pick [] [] (by decide) (by decide) rfl rfl)
    · rw [if_neg (by omega)] at hcs
      repeat' (first | (with_reducible first | refine p_tn ?_ | refine wp_seq ?_) | (with_reducible (refine is_if ?_; (refine w_iff rfl ?_))) | (with_reducible first | refine wp_skip ?_ | refine l_nil ?_))
      have HS := H.pick [0] [] (by decide) (by decide) rfl rfl
      refine d_start (fun w_ => Hp w w_ _ _) #[false, false, false, false] (by kernel_rfl) rfl rfl HS.drew ?_
      have H := H.drew
      have HS := HS.drew
      first | (refine d_take (i := 0) #[true, false, false, false] rfl (by kernel_rfl) (fun _ _ _ h => h) rfl (fun w_ K => evLR_run (o := ⟨_, _, _, _, _, _⟩) recs rfl rfl (K.range 0 rfl) rfl) HS ?_)
      first | (refine d_take (i := 1) #[true, true, false, false] rfl (by kernel_rfl) (fun _ _ _ h => h) rfl (fun w_ K => evL_run (o := ⟨_, _, _, _, _, _⟩) txs rfl (K.old c5)) HS ?_)
      refine d_one (i := 2) #[true, true, true, false] rfl (by kernel_rfl) rfl ?_
      refine g_on ?_; ((with_reducible refine g_st ?_); (refine h_stR recs H 1 rfl rfl rfl rfl rfl rfl rfl rfl rfl (fun w_ H => ?_)))
      refine l_nil ?_
      have HS := H.pick [0] [] (by decide) (by decide) rfl rfl
      refine ⟨rfl, HS, ?_⟩
      first | (refine d_pure (i := 3) #[true, true, true, true] rfl (by kernel_rfl) (fun _ _ _ h => h) rfl (fun w_ => evP_run (o := ⟨_, _, _, _, _, _⟩) txs rfl) ?_)
      refine d_done rfl ?_
      repeat' (with_reducible first | refine p_tn ?_ | refine p_tr ?_ | refine wp_ret ?_ | refine p_sr ?_)
      refine end_ct recs H 1 rfl rfl rfl rfl rfl rfl ?_
      exact hdR_err hcs e5 (H.pick [] [] (by decide) (by decide) rfl rfl)
  | some xb =>
    obtain ⟨first, rest⟩ := xb
    rw [lineV_some hline] at hcl
    obtain ⟨_, r2, r3, r4, r5, r6, r7⟩ := line_rest h hc hn hb hline
    have r1 := fun w1 (h1 : ReadsInt w1 .u8 B b.length b) => (line_rest h1 hc hn hb hline).1
    obtain ⟨Bl, hBl⟩ : ∃ a, a = cutA B c (b.length - rest.length) 1 := ⟨_, rfl⟩
    obtain ⟨cl, hcl2⟩ : ∃ a, a = c - (b.length - rest.length) := ⟨_, rfl⟩
    rw [← hBl] at r1 r3 hcl
    rw [← hcl2] at r2 r3 hcl
    have z1 := sizeS' r5
    (with_reducible refine is_l ?_); refine l_callv rfl rfl (by kernel_rfl) hcl (fun w_ K => ?_)
    have H := H.call K
    repeat' (first | (with_reducible first | refine p_tn ?_ | refine wp_seq ?_ | refine w_reg ?_) | (with_reducible (refine is_if ?_; (refine w_iff rfl ?_))) | (with_reducible first | refine wp_skip ?_ | refine l_nil ?_) | ((with_reducible refine g_on ?_); (first | ((with_reducible refine g_mv ?_); refine l_p txs rfl rfl ?_) | ((with_reducible refine g_as ?_); refine l_p txs rfl rfl ?_) | ((with_reducible refine g_ex ?_); refine l_p txs rfl rfl ?_) | ((with_reducible refine g_un ?_); (refine l_p txs rfl rfl ?_)) | ((with_reducible refine g_cl ?_); refine l_p txs rfl rfl ?_))))
    (with_reducible refine is_l ?_); refine l_t txs rfl rfl (fun h1 => ?_) (fun h1 => ?_)
    · have hcs := cutS_long (tl := tl) hline (by omega)
      repeat' (first | (with_reducible first | refine p_tn ?_ | refine p_tr ?_ | refine wp_seq ?_ | refine w_reg ?_) | (with_reducible (refine is_if ?_; (refine w_ift rfl ?_))) | (with_reducible first | refine wp_ret ?_ | refine p_sr ?_ | refine l_nil ?_) | ((with_reducible refine g_on ?_); (first | ((with_reducible refine g_mv ?_); refine l_p txs rfl rfl ?_) | ((with_reducible refine g_as ?_); refine l_p txs rfl rfl ?_) | ((with_reducible refine g_ld ?_); (refine h_ldR recs H 0 rfl rfl rfl rfl rfl ?_)) | ((with_reducible refine g_st ?_); (refine h_stR recs H 1 rfl rfl rfl rfl rfl rfl rfl rfl rfl (fun w_ H => ?_))))))
      refine end_ct recs H 1 rfl rfl rfl rfl rfl rfl ?_
      exact hdR_err hcs et (H.pick [] [] (by decide) (by decide) rfl rfl)
    have hcs := cutS_lines (tl := tl) hline (by omega)
    repeat' (first | (with_reducible first | refine p_tn ?_ | refine wp_seq ?_ | refine wp_block ?_ | refine w_reg ?_) | (with_reducible (refine is_if ?_; (refine w_iff rfl ?_))) | (with_reducible first | refine wp_skip ?_ | refine wp_label ?_ | refine l_nil ?_) | ((with_reducible refine g_on ?_); (first | ((with_reducible refine g_mv ?_); refine l_p txs rfl rfl ?_) | ((with_reducible refine g_as ?_); refine l_p txs rfl rfl ?_) | ((with_reducible refine g_fa ?_); refine h_fa flds rfl rfl ?_) | ((with_reducible refine g_st ?_); (refine h_st txs ones H 0 rfl rfl rfl rfl rfl rfl rfl rfl rfl (fun w_ H => ?_))))))
    have H := H.nilRow 9 1
    refine w_loop (σ := (List L × Option Addr × Nat) × (Option Addr × Nat × L)) (S := fun s => [(0, .slice B b.length c), (1, errV (A g)), (4, .pointer (some ⟨g4, 0, none⟩)), (5, .nilIface), (6, .pointer (some ⟨g6, 0, none⟩)), (8, .slice Bl rest.length cl), (10, .slice s.2.1 s.2.2.2.length s.2.2.1)])
      (J := fun s w' => HJ w B b g6 g4 first rest s.1.1 s.1.2.1 s.1.2.2 s.2.1 s.2.2.1 s.2.2.2 w') (μ := fun s => s.2.2.2.length) (([], none, 0), (Bl, cl, rest)) ⟨rfl, rfl, rfl, rfl, rfl, rfl, rfl, trivial⟩
      ⟨H, r1, r2, r3, r4, by simp, rest.length + 1, Nat.lt_succ_self _, by simp only [List.nil_append]; cases linesS (rest.length + 1) rest <;> rfl⟩ ?_
    rintro ⟨⟨acc, B1, c1⟩, B2, c2, left⟩ f w_ ⟨H, q1, q2, q3, q4, q5, fu, hfu, hD⟩
    simp only at H q1 q2 q3 q4 q5 hfu hD ⊢
    obtain ⟨f', rfl⟩ : ∃ k, fu = k + 1 := ⟨fu - 1, by omega⟩
    have hS := linesS_succ f' left
    rw [hS] at hD
    repeat' (first | (with_reducible first | refine wp_seq ?_ | refine wp_block ?_ | refine w_reg ?_) | ((with_reducible refine g_on ?_); ((with_reducible refine g_mv ?_); refine l_p txs rfl rfl ?_)))
    have hcl := line_c ((q1 w h).below H.B) q2 q3 q4 (by omega)
    cases hl2 : lineS left with
    | none =>
      rw [lineV_none hl2] at hcl
      rw [hl2] at hD
      simp only at hD
      rw [hD] at hcs
      simp only at hcs
      (with_reducible refine is_l ?_); refine l_callv rfl rfl (by kernel_rfl) hcl (fun w_ K => ?_)
      have H := H.call K
      repeat' (first | (with_reducible first | refine p_tn ?_ | refine wp_seq ?_ | refine wp_block ?_ | refine w_reg ?_ | refine l_nil ?_) | ((with_reducible refine g_on ?_); (first | ((with_reducible refine g_mv ?_); refine l_p txs rfl rfl ?_) | ((with_reducible refine g_as ?_); refine l_p txs rfl rfl ?_) | ((with_reducible refine g_ex ?_); refine l_p txs rfl rfl ?_) | ((with_reducible refine g_un ?_); (refine l_p txs rfl rfl ?_)))) | ((with_reducible refine g_if ?_); (first | ((with_reducible refine g_mv ?_); refine l_p txs rfl rfl ?_) | ((with_reducible refine g_cl ?_); refine l_p txs rfl rfl ?_))))
      (with_reducible refine is_l ?_); refine l_t txs rfl rfl (fun h2 => ?_) (fun h2 => ?_)
      · rw [if_pos (by omega)] at hcs
        repeat' (first | (with_reducible first | refine p_tn ?_ | refine wp_seq ?_) | (with_reducible (refine is_if ?_; (refine w_ift rfl ?_))) | (with_reducible refine l_nil ?_) | ((with_reducible refine g_on ?_); (first | ((with_reducible refine g_as ?_); refine l_p txs rfl rfl ?_) | ((with_reducible refine g_pk ?_); refine l_p txs rfl rfl ?_))))
        have HS := H.pick [0] [] (by decide) (by decide) rfl rfl
        refine d_start (fun w_ => Hp w w_ _ _) #[false, false, false, false] (by kernel_rfl) rfl rfl HS.drew ?_
        have H := H.drew
        have HS := HS.drew
        first | (refine d_take (i := 0) #[true, false, false, false] rfl (by kernel_rfl) (fun _ _ _ h => h) rfl (fun w_ K => evLR_run (o := ⟨_, _, _, _, _, _⟩) recs rfl rfl (K.range 0 rfl) rfl) HS ?_)
        first | (refine d_take (i := 1) #[true, true, false, false] rfl (by kernel_rfl) (fun _ _ _ h => h) rfl (fun w_ K => evL_run (o := ⟨_, _, _, _, _, _⟩) txs rfl (K.old c4)) HS ?_)
        refine d_one (i := 2) #[true, true, true, false] rfl (by kernel_rfl) rfl ?_
        refine g_on ?_; ((with_reducible refine g_st ?_); (refine h_stR recs H 1 rfl rfl rfl rfl rfl rfl rfl rfl rfl (fun w_ H => ?_)))
        refine l_nil ?_
        have HS := H.pick [0] [] (by decide) (by decide) rfl rfl
        refine ⟨rfl, HS, ?_⟩
        first | (refine d_pure (i := 3) #[true, true, true, true] rfl (by kernel_rfl) (fun _ _ _ h => h) rfl (fun w_ => evP_run (o := ⟨_, _, _, _, _, _⟩) txs rfl) ?_)
        refine d_done rfl ?_
        repeat' (with_reducible first | refine p_tn ?_ | refine p_tr ?_ | refine p_br ?_ | refine wp_ret ?_ | refine p_sr ?_)
        refine end_ct recs H 1 rfl rfl rfl rfl rfl rfl ?_
        exact hdR_err hcs e4 (H.pick [] [] (by decide) (by decide) rfl rfl)
      · rw [if_neg (by omega)] at hcs
        repeat' (first | (with_reducible first | refine p_tn ?_ | refine wp_seq ?_ | refine w_reg ?_) | (with_reducible (refine is_if ?_; (first | (refine w_ift rfl ?_) | (refine w_iff rfl ?_)))) | (with_reducible refine l_nil ?_) | ((with_reducible refine g_on ?_); (first | ((with_reducible refine g_mv ?_); refine l_p txs rfl rfl ?_) | ((with_reducible refine g_as ?_); refine l_p txs rfl rfl ?_) | ((with_reducible refine g_pk ?_); refine l_p txs rfl rfl ?_) | ((with_reducible refine g_un ?_); (refine l_p txs rfl rfl ?_)))))
        have HS := H.pick [0] [] (by decide) (by decide) rfl rfl
        refine d_start (fun w_ => Hp w w_ _ _) #[false, false, false, false] (by kernel_rfl) rfl rfl HS.drew ?_
        have H := H.drew
        have HS := HS.drew
        first | (refine d_take (i := 0) #[true, false, false, false] rfl (by kernel_rfl) (fun _ _ _ h => h) rfl (fun w_ K => evLR_run (o := ⟨_, _, _, _, _, _⟩) recs rfl rfl (K.range 0 rfl) rfl) HS ?_)
        first | (refine d_take (i := 1) #[true, true, false, false] rfl (by kernel_rfl) (fun _ _ _ h => h) rfl (fun w_ K => evL_run (o := ⟨_, _, _, _, _, _⟩) txs rfl (K.old c5)) HS ?_)
        refine d_one (i := 2) #[true, true, true, false] rfl (by kernel_rfl) rfl ?_
        refine g_on ?_; ((with_reducible refine g_st ?_); (refine h_stR recs H 1 rfl rfl rfl rfl rfl rfl rfl rfl rfl (fun w_ H => ?_)))
        refine l_nil ?_
        have HS := H.pick [0] [] (by decide) (by decide) rfl rfl
        refine ⟨rfl, HS, ?_⟩
        first | (refine d_pure (i := 3) #[true, true, true, true] rfl (by kernel_rfl) (fun _ _ _ h => h) rfl (fun w_ => evP_run (o := ⟨_, _, _, _, _, _⟩) txs rfl) ?_)
        refine d_done rfl ?_
        repeat' (with_reducible first | refine p_tn ?_ | refine p_tr ?_ | refine p_br ?_ | refine wp_ret ?_ | refine p_sr ?_)
        refine end_ct recs H 1 rfl rfl rfl rfl rfl rfl ?_
        exact hdR_err hcs e5 (H.pick [] [] (by decide) (by decide) rfl rfl)
    | some xb =>
      obtain ⟨x, bh⟩ := xb
      rw [lineV_some hl2] at hcl
      obtain ⟨_, t2, t3, t4, t5, t6, t7⟩ := line_rest (q1 w h) q2 q3 q4 hl2
      have t1 := fun w1 (h1 : ReadsInt w1 .u8 B b.length b) => (line_rest (q1 w1 h1) q2 q3 q4 hl2).1
      obtain ⟨Bh, hBh⟩ : ∃ a, a = cutA B2 c2 (left.length - bh.length) 1 := ⟨_, rfl⟩
      obtain ⟨ch, hch⟩ : ∃ a, a = c2 - (left.length - bh.length) := ⟨_, rfl⟩
      rw [← hBh] at t1 t3 hcl
      rw [← hch] at t2 t3 hcl
      rw [hl2] at hD
      have zx := blS t5
      (with_reducible refine is_l ?_); refine l_callv rfl rfl (by kernel_rfl) hcl (fun w_ K => ?_)
      have H := H.call K
      repeat' (first | (with_reducible first | refine p_tn ?_ | refine wp_seq ?_ | refine wp_block ?_ | refine w_reg ?_) | (with_reducible (refine is_if ?_; (refine w_iff rfl ?_))) | (with_reducible refine l_nil ?_) | ((with_reducible refine g_on ?_); (first | ((with_reducible refine g_mv ?_); refine l_p txs rfl rfl ?_) | ((with_reducible refine g_as ?_); refine l_p txs rfl rfl ?_) | ((with_reducible refine g_ex ?_); refine l_p txs rfl rfl ?_) | ((with_reducible refine g_pk ?_); refine l_p txs rfl rfl ?_) | ((with_reducible refine g_un ?_); (refine l_p txs rfl rfl ?_)))) | ((with_reducible refine g_if ?_); (refine l_off rfl ?_)))
      cases x with
      | nil =>
        simp only at hD
        rw [hD] at hcs
        simp only [List.append_nil] at hcs
        (with_reducible refine is_l ?_); refine l_t txs rfl rfl (fun h2 => ?_) (fun h2 => absurd (by rw [zx]; rfl) h2)
        repeat' (first | (with_reducible first | refine p_tn ?_ | refine p_tx ?_ | refine x_hit ?_ | refine x_miss rfl ?_ | refine wp_seq ?_ | refine w_reg ?_) | (with_reducible (refine is_if ?_; (refine w_ift rfl ?_))) | (with_reducible first | refine wp_exit ?_ | refine l_nil ?_) | ((with_reducible refine g_on ?_); (first | ((with_reducible refine g_mv ?_); refine l_p txs rfl rfl ?_) | ((with_reducible refine g_as ?_); refine l_p txs rfl rfl ?_) | ((with_reducible refine g_fa ?_); refine h_fa flds rfl rfl ?_) | ((with_reducible refine g_ld ?_); (refine h_ld txs H 0 rfl rfl rfl rfl ?_)) | ((with_reducible refine g_st ?_); (refine h_st txs ones H 0 rfl rfl rfl rfl rfl rfl rfl rfl rfl (fun w_ H => ?_))) | ((with_reducible refine g_cl ?_); refine l_p txs rfl rfl ?_) | ((with_reducible refine g_bi ?_); (refine l_a txs rfl rfl (by first | exact in_i64 (by omega) (by omega) | exact in_u8 (by omega) (by omega) | exact in_u64 (by omega) (by omega) | exact in_i32 (by omega) (by omega)) ?_)))))
        (with_reducible refine is_l ?_); refine l_t txs rfl rfl (fun h3 => ?_) (fun h3 => ?_)
        · rw [if_pos (by omega)] at hcs
          repeat' (first | (with_reducible first | refine p_tn ?_ | refine wp_seq ?_) | (with_reducible (refine is_if ?_; (refine w_ift rfl ?_))) | (with_reducible refine l_nil ?_))
          have HS := H.pick [0] [] (by decide) (by decide) rfl rfl
          refine d_start (fun w_ => Hp w w_ _ _) #[false, false, false, false] (by kernel_rfl) rfl rfl HS.drew ?_
          have H := H.drew
          have HS := HS.drew
          first | (refine d_take (i := 0) #[true, false, false, false] rfl (by kernel_rfl) (fun _ _ _ h => h) rfl (fun w_ K => evLR_run (o := ⟨_, _, _, _, _, _⟩) recs rfl rfl (K.range 0 rfl) rfl) HS ?_)
          first | (refine d_take (i := 1) #[true, true, false, false] rfl (by kernel_rfl) (fun _ _ _ h => h) rfl (fun w_ K => evL_run (o := ⟨_, _, _, _, _, _⟩) txs rfl (K.old c4)) HS ?_)
          refine d_one (i := 2) #[true, true, true, false] rfl (by kernel_rfl) rfl ?_
          refine g_on ?_; ((with_reducible refine g_st ?_); (refine h_stR recs H 1 rfl rfl rfl rfl rfl rfl rfl rfl rfl (fun w_ H => ?_)))
          refine l_nil ?_
          have HS := H.pick [0] [] (by decide) (by decide) rfl rfl
          refine ⟨rfl, HS, ?_⟩
          first | (refine d_pure (i := 3) #[true, true, true, true] rfl (by kernel_rfl) (fun _ _ _ h => h) rfl (fun w_ => evP_run (o := ⟨_, _, _, _, _, _⟩) txs rfl) ?_)
          refine d_done rfl ?_
          repeat' (with_reducible first | refine p_tn ?_ | refine p_tr ?_ | refine wp_ret ?_ | refine p_sr ?_)
          refine end_ct recs H 1 rfl rfl rfl rfl rfl rfl ?_
          exact hdR_err hcs e4 (H.pick [] [] (by decide) (by decide) rfl rfl)
        · rw [if_neg (by omega)] at hcs
          repeat' (first | (with_reducible first | refine p_tn ?_ | refine wp_seq ?_ | refine w_reg ?_) | (with_reducible (refine is_if ?_; (refine w_iff rfl ?_))) | (with_reducible first | refine wp_skip ?_ | refine wp_ret ?_ | refine p_sr ?_ | refine l_nil ?_) | ((with_reducible refine g_on ?_); (first | ((with_reducible refine g_as ?_); refine l_p txs rfl rfl ?_) | ((with_reducible refine g_ld ?_); (refine h_ldR recs H 0 rfl rfl rfl rfl rfl ?_)) | ((with_reducible refine g_st ?_); (refine h_stR recs H 1 rfl rfl rfl rfl rfl rfl rfl rfl rfl (fun w_ H => ?_))))))
          refine end_ct recs H 1 rfl rfl rfl rfl rfl rfl ?_
          unfold HdR
          rw [hcs]
          exact ⟨B1, c1, Bh, ch, rfl, H.pick [] [0] (by decide) (by decide) rfl rfl, t1, t2, t3⟩
      | cons y ys =>
        simp only at hD
        (with_reducible refine is_l ?_); refine l_t txs rfl rfl (fun h2 => ?_) (fun h2 => ?_)
        · exfalso
          rw [zx] at h2
          cases h2
        repeat' (first | (with_reducible first | refine p_tn ?_ | refine p_bn ?_ | refine wp_seq ?_ | refine w_reg ?_) | (with_reducible (refine is_if ?_; (refine w_iff rfl ?_))) | (with_reducible first | refine wp_skip ?_ | refine l_nil ?_) | ((with_reducible refine g_on ?_); (first | ((with_reducible refine g_mv ?_); refine l_p txs rfl rfl ?_) | ((with_reducible refine g_as ?_); refine l_p txs rfl rfl ?_) | ((with_reducible refine g_fa ?_); refine h_fa flds rfl rfl ?_) | ((with_reducible refine g_ld ?_); (refine h_ld txs H 0 rfl rfl rfl rfl ?_)))))
        (with_reducible refine is_l ?_); refine h_bs H info_s Tryz.underlying22 (by decide) (by decide) rfl rfl (fill_s _) (fun g_ w_ H => ?_)
        (with_reducible refine is_l ?_); refine h_app H 0 rfl info_s Tryz.underlying22 rfl rfl rfl rfl (H.cellRd 0 rfl) rfl rfl (by show (acc.length + 1) * 16 ≤ _; omega) (fun v w_ hv H => ?_)
        obtain ⟨A', c', rfl⟩ := hv
        repeat' (first | (with_reducible first | refine p_tn ?_ | refine p_bn ?_ | refine w_reg ?_ | refine l_nil ?_) | ((with_reducible refine g_on ?_); (first | ((with_reducible refine g_mv ?_); refine l_p txs rfl rfl ?_) | ((with_reducible refine g_as ?_); refine l_p txs rfl rfl ?_) | ((with_reducible refine g_fa ?_); refine h_fa flds rfl rfl ?_) | ((with_reducible refine g_st ?_); (refine h_st txs ones H 1 rfl rfl rfl rfl rfl rfl rfl rfl rfl (fun w_ H => ?_))))))
        have hl : (acc ++ [y :: ys]).length = acc.length + 1 := by simp
        have hcs3 : strC (acc ++ [y :: ys]) = strC acc ++ [.string (strOfNums (y :: ys))] := by simp [strC]
        have H := H.pick [1, 2] [0] (by decide) (by decide) rfl rfl
        refine ⟨((acc ++ [y :: ys], A', c'), (Bh, ch, bh)), _, rfl, ⟨rfl, rfl, rfl, rfl, rfl, rfl, rfl, trivial⟩, ⟨?_, t1, t2, t3, t4, by show (acc ++ [y :: ys]).length + bh.length ≤ _; omega, f', by show bh.length < f'; omega, ?_⟩, by show bh.length < left.length; omega⟩
        · show Hp w _ [(g6, 171, [.string (strOfNums first), .slice A' (acc ++ [y :: ys]).length c', .slice none 0 0]), _] [rowS (.slice A' (acc ++ [y :: ys]).length c') (acc ++ [y :: ys])]
          unfold rowS
          rw [hl, hcs3]
          exact H
        · show linesS (rest.length + 1) rest = match linesS f' bh with | none => none | some (ls, q) => some ((acc ++ [y :: ys]) ++ ls, q)
          rw [hD]
          cases linesS f' bh with
          | none => rfl
          | some z => obtain ⟨ls, q⟩ := z; simp
end Go.Proofs.YthgojbdpmcccaaaGreatDoor.K
end
section
namespace Go.Proofs.YthgojbdpmcccaaaGreatDoor.K
open Go.RowKit Go.Proofs.YthgojbdpmcccaaaGreatDoor.Q Go.Proofs.YthgojbdpmcccaaaGreatDoor.Wb Go.Proofs.YthgojbdpmcccaaaGreatDoorW.PrintWords
set_option linter.unusedVariables false
set_option linter.unusedSimpArgs false
theorem frm_host (l : List Fld) (hb : BytesF l) : (frmS l).host.size ≤ 100000000 := by
  obtain ⟨_, a2, _⟩ := frm_fold l frm0
  change (frmS l).host = _ at a2
  rw [a2]
  cases hv : (vals l nHost).getLast? with
  | none => exact Nat.zero_le _
  | some v =>
    obtain ⟨h1, h2⟩ := vals_bytes hb (n := nHost) (v := v) (List.mem_of_getLast? hv)
    show (strOfNums v).size ≤ _
    rw [sizeS' h1]
    exact h2
theorem frm_framed (l : List Fld) : (frmS l).framed = (!(vals l nCode).isEmpty || !(vals l nLen).isEmpty) := by
  obtain ⟨_, _, _, _, _, _, a7, _⟩ := frm_fold l frm0
  change (frmS l).framed = _ at a7
  rw [a7]
  simp [frm0]
theorem frame_none_of {l : List Fld} {v : Int} (h : (frmS l).framed = false) : frameS l v = .ok .none := by
  rw [frm_framed] at h
  simp only [Bool.or_eq_false_iff, Bool.not_eq_false', List.isEmpty_iff] at h
  unfold frameS
  rw [h.1, h.2]
theorem framed_of {l : List Fld} (h : (frmS l).framed = true) : vals l nCode ≠ [] ∨ vals l nLen ≠ [] := by
  rw [frm_framed] at h
  simp only [Bool.or_eq_true, Bool.not_eq_true', List.isEmpty_eq_false_iff] at h
  exact h
theorem line_bytes {b x r : L} (hb : Bytes b) (h : lineS b = some (x, r)) : Bytes x ∧ Bytes r ∧ x.length + r.length < b.length ∧ r.length < b.length := by
  obtain ⟨q, hq, _, hxq⟩ := lineS_some h
  have hlen : q.length + 1 + r.length = b.length := by rw [hq]; simp; omega
  refine ⟨fun y hy => ?_, fun y hy => hb y (by rw [hq]; simp [hy]), by rw [hxq]; have := chop_le q; omega, by omega⟩
  rw [hxq, chop_take] at hy
  exact hb y (by rw [hq]; simp [List.mem_of_mem_take hy])
theorem lines_bytes : ∀ (f : Nat) {b r : L} {ls : List L}, Bytes b → linesS f b = some (ls, r) → (∀ x ∈ ls, Bytes x ∧ x.length + r.length < b.length) ∧ Bytes r ∧ r.length < b.length ∧ ls.length ≤ b.length
  | 0, b, r, ls, hb, h => by simp [linesS] at h
  | f + 1, b, r, ls, hb, h => by
    rw [linesS_succ] at h
    cases hc : lineS b with
    | none => rw [hc] at h; cases h
    | some z =>
      obtain ⟨x, s⟩ := z
      obtain ⟨h1, h2, h3, h4⟩ := line_bytes hb hc
      rw [hc] at h
      cases x with
      | nil =>
        simp only [Option.some.injEq, Prod.mk.injEq] at h
        obtain ⟨rfl, rfl⟩ := h
        exact ⟨fun _ h => (by cases h), h2, h4, by simp⟩
      | cons y ys =>
        simp only at h
        cases hr : linesS f s with
        | none => rw [hr] at h; cases h
        | some z =>
          obtain ⟨ms, q⟩ := z
          rw [hr] at h
          simp only [Option.some.injEq, Prod.mk.injEq] at h
          obtain ⟨rfl, rfl⟩ := h
          obtain ⟨a1, a2, a3, a4⟩ := lines_bytes f h2 hr
          refine ⟨fun z hz => ?_, a2, by omega, by simp; omega⟩
          rcases List.mem_cons.1 hz with rfl | hz
          · exact ⟨h1, by omega⟩
          · exact ⟨(a1 z hz).1, by have := (a1 z hz).2; omega⟩
theorem cut_bytes {tl : Nat} {b first r : L} {ls : List L} (hb : Bytes b) (hl : b.length ≤ 2000000000000) (h : cutS tl b = .ok (first, ls, r)) : Bytes first ∧ first.length ≤ 8000 ∧ BytesL ls ∧ Bytes r ∧ r.length < b.length := by
  cases hc : lineS b with
  | none => rw [cutS_none hc] at h; split at h <;> cases h
  | some z =>
    obtain ⟨x, s⟩ := z
    obtain ⟨h1, h2, h3, h4⟩ := line_bytes hb hc
    by_cases hx : 8000 < x.length
    · rw [cutS_long hc hx] at h; cases h
    · rw [cutS_lines hc hx] at h
      cases hr : linesS (s.length + 1) s with
      | none => rw [hr] at h; simp only at h; split at h <;> cases h
      | some z =>
        obtain ⟨ms, q⟩ := z
        rw [hr] at h
        simp only at h
        split at h
        · cases h
        · simp only [Except.ok.injEq, Prod.mk.injEq] at h
          obtain ⟨rfl, rfl, rfl⟩ := h
          obtain ⟨a1, a2, a3, a4⟩ := lines_bytes _ h2 hr
          exact ⟨h1, by omega, fun z hz => ⟨(a1 z hz).1, by have := (a1 z hz).2; omega⟩, a2, by omega⟩
theorem fieldsS_bytes : ∀ {ls : List L} {l : List Fld}, BytesL ls → fieldsS ls = some l → BytesF l ∧ l.length = ls.length
  | [], l, _, h => by simp [fieldsS] at h; subst h; exact ⟨fun _ h => (by cases h), rfl⟩
  | x :: r, l, hb, h => by
    rw [fieldsS_cons] at h
    cases hx : fieldS x with
    | none => rw [hx] at h; cases h
    | some f =>
      rw [hx] at h
      cases hr : fieldsS r with
      | none => rw [hr] at h; cases h
      | some m =>
        rw [hr] at h
        simp only [Option.some.injEq] at h
        subst h
        obtain ⟨h1, h2⟩ := fieldsS_bytes (fun y hy => hb y (by simp [hy])) hr
        refine ⟨fun y hy => ?_, by simp [h2]⟩
        rcases List.mem_cons.1 hy with rfl | hy
        · exact fieldS_bytes (hb x (by simp)) hx
        · exact h1 y hy
theorem fieldsE_bytes {ls : List L} {l : List Fld} (hb : BytesL ls) (h : fieldsE ls = .ok l) : BytesF l ∧ l.length ≤ 64 := by
  unfold fieldsE at h
  split at h
  · cases h
  · split at h
    · cases h
    · rename_i m hm
      simp only [Except.ok.injEq] at h
      subst h
      obtain ⟨h1, h2⟩ := fieldsS_bytes hb hm
      exact ⟨h1, by omega⟩
theorem pq_head {b : L} {k : Nat} (h : cutS 147 b = .error k) : parseReqS b = .error k := by unfold parseReqS; rw [h]
theorem pq_start {b first rest : L} {ls : List L} {k : Nat} (h : cutS 147 b = .ok (first, ls, rest)) (h2 : startS first = .error k) : parseReqS b = .error k := by unfold parseReqS; rw [h]; simp only [h2]
theorem pq_fields {b first rest m t : L} {ls : List L} {v : Int} {k : Nat} (h : cutS 147 b = .ok (first, ls, rest)) (h2 : startS first = .ok (m, t, v)) (h3 : fieldsE ls = .error k) : parseReqS b = .error k := by unfold parseReqS; rw [h]; simp only [h2, h3]
theorem pq_host {b first rest m t : L} {ls : List L} {v : Int} {l : List Fld} (h : cutS 147 b = .ok (first, ls, rest)) (h2 : startS first = .ok (m, t, v)) (h3 : fieldsE ls = .ok l) (h4 : hostOk l v = false) : parseReqS b = .error 144 := by unfold parseReqS; rw [h]; simp only [h2, h3, h4, if_true]
theorem pq_frame {b first rest m t : L} {ls : List L} {v : Int} {l : List Fld} {k : Nat} (h : cutS 147 b = .ok (first, ls, rest)) (h2 : startS first = .ok (m, t, v)) (h3 : fieldsE ls = .ok l) (h4 : hostOk l v = true) (h5 : frameS l v = .error k) : parseReqS b = .error k := by unfold parseReqS; rw [h]; simp only [h2, h3, h4, h5, Bool.true_eq_false, if_false]
theorem pq_body {b first rest m t : L} {ls : List L} {v : Int} {l : List Fld} {k : Nat} {fr : Wb.Frame} (h : cutS 147 b = .ok (first, ls, rest)) (h2 : startS first = .ok (m, t, v)) (h3 : fieldsE ls = .ok l) (h4 : hostOk l v = true) (h5 : frameS l v = .ok fr) (h6 : bodyS rest fr = .error k) : parseReqS b = .error k := by unfold parseReqS; rw [h]; simp only [h2, h3, h4, h5, h6, Bool.true_eq_false, if_false]
theorem pq_ok {b first rest m t bd : L} {ls : List L} {v : Int} {l : List Fld} {k : Nat} {fr : Wb.Frame} (h : cutS 147 b = .ok (first, ls, rest)) (h2 : startS first = .ok (m, t, v)) (h3 : fieldsE ls = .ok l) (h4 : hostOk l v = true) (h5 : frameS l v = .ok fr) (h6 : bodyS rest fr = .ok (bd, k)) : parseReqS b = .ok (⟨m, t, v, l, bd, closesS l v⟩, b.length - rest.length + k) := by unfold parseReqS; rw [h]; simp only [h2, h3, h4, h5, h6, Bool.true_eq_false, if_false]
theorem st_other {first : L} (h : (splitC 32 first).length ≠ 3) : startS first = .error 141 := by
  unfold startS
  split
  · rename_i m t v e; rw [e] at h; exact absurd rfl h
  · rfl
theorem st_three {first m t v : L} (h : splitC 32 first = [m, t, v]) : startS first = if tokS m = false ∨ t = [] ∨ t.all visB = false then .error 141
    else match versS v with
      | none => .error 141
      | some (a, b) => if methodsS.contains m = false then .error 148 else if a = 1 ∧ b ≤ 1 then .ok (m, t, b) else .error 142 := by unfold startS; rw [h]; cases hv : versS v <;> simp only [hv]
abbrev zReq : Array Value := #[.string ⟨#[]⟩, .string ⟨#[]⟩, .int .i64 0, .slice none 0 0, .slice none 0 0, .bool false]
abbrev reqA (r : ReqS) (Bf : Option Addr) (cf : Nat) (Bb : Option Addr) (cb : Nat) : Array Value := #[.string (strOfNums r.method), .string (strOfNums r.target), .int .i64 r.minor, .slice Bf r.fields.length cf, .slice Bb r.body.length cb, .bool r.close]
def PqR (A : Nat → Addr) (w : World) (b : L) (e : Ending) (w' : World) : Prop := match parseReqS b with
  | .error k => ∃ v, ErrOf A v k ∧ e = .returned (.tuple #[.agg zReq, .int .i64 0, v]) ∧ Hp w w' [] []
  | .ok (r, n) => ∃ Bf cf Bb cb, e = .returned (.tuple #[.agg (reqA r Bf cf Bb cb), .int .i64 (n : Int), .nilIface]) ∧ Hp w w' [] [rowF (.slice Bf r.fields.length cf) r.fields, rowB (.slice Bb r.body.length cb) r.body]
theorem pqR_err {A : Nat → Addr} {w : World} {b : L} {w' : World} {k : Nat} {v : Value} (h : parseReqS b = .error k) (hv : ErrOf A v k) (H : Hp w w' [] []) : PqR A w b (.returned (.tuple #[.agg zReq, .int .i64 0, v])) w' := by
  unfold PqR; rw [h]; exact ⟨v, hv, rfl, H⟩
abbrev tHead : ByteArray := ⟨#[104, 101, 97, 100]⟩
abbrev tFields : ByteArray := ⟨#[102, 105, 101, 108, 100, 115]⟩
set_option maxRecDepth 100000 in
set_option maxHeartbeats 8000000 in
theorem parseRequest_c {A : Nat → Addr} {w : World} (hE : LayS A w) {mx : Int} (hM : w.cell? ⟨20, 0, none⟩ = some (.int .i64 mx)) {tM : TypeId} {frM : Nat × Nat} (hT : w.heap[17]? = some (.cells meC tM frM))
    {B : Option Addr} {c : Nat} {b : L} (h : ReadsInt w .u8 B b.length b) (hc : b.length ≤ c) (hn : B = none → c = 0 ∧ b.length = 0) (hb : Bytes b) (hs : b.length ≤ 2000000000000) :
    Calls Tryz.prog 54 #[.slice B b.length c] w (PqR A w b) := by
  have c2 := (hE.sent 2 (by decide) (by decide)).cell
  have c6 := (hE.sent 6 (by decide) (by decide)).cell
  have c7 := (hE.sent 7 (by decide) (by decide)).cell
  have c12 := (hE.sent 12 (by decide) (by decide)).cell
  have e6 : ErrOf A (errV (A 6)) 141 := ⟨6, by decide, by decide, rfl, .inl rfl⟩
  have e7 : ErrOf A (errV (A 7)) 142 := ⟨7, by decide, by decide, rfl, .inl rfl⟩
  have e12 : ErrOf A (errV (A 12)) 148 := ⟨12, by decide, by decide, rfl, .inl rfl⟩
  have e9 : ErrOf A (errV (A 9)) 144 := ⟨9, by decide, by decide, rfl, .inl rfl⟩
  have hTb : ∀ w1, Below w.heap.size w w1 → w1.heap[17]? = some (.cells meC tM frM) := fun w1 K => (K.block _ (blk_lt hT)).trans hT
  refine enter (args := [.slice B b.length c]) Tryz.func54 rfl Tryz.ntmps54 rfl ?_
  have H := Hp.nil w
  repeat' (first | (with_reducible first | refine p_tn ?_ | refine wp_seq ?_ | refine w_reg ?_ | refine l_nil ?_) | ((with_reducible refine g_on ?_); (first | ((with_reducible refine g_mv ?_); refine l_p txs rfl rfl ?_) | ((with_reducible refine g_as ?_); refine l_p txs rfl rfl ?_) | ((with_reducible refine g_al ?_); refine h_alloc recs H rfl rfl (fun g_ w_ H => ?_)))))
  (with_reducible refine is_l ?_); refine l_ld txs rfl rfl (H.old c2) ?_
  have hcall := head_c (hE.below H.B) (g := 2) (by decide) (by decide) (tl := 147) rfl (h.below H.B) hc hn hb hs
  (with_reducible refine is_l ?_); refine l_call rfl rfl (by kernel_rfl) hcall (fun e w_ hR => ?_)
  unfold HdR at hR
  cases hcut : cutS 147 b with
  | error k =>
    rw [hcut] at hR
    obtain ⟨s0, a1, l1, k1, a2, l2, k2, v, hv, rfl, K⟩ := hR
    refine ⟨_, rfl, ?_⟩
    have H := H.join K
    have hres := pq_head hcut
    have hvp := hv.placed tHead
    obtain ⟨g, _, _, _, rfl⟩ := hv
    repeat' (first | (with_reducible first | refine p_tn ?_ | refine wp_seq ?_ | refine w_reg ?_ | refine l_nil ?_) | ((with_reducible refine g_on ?_); (first | ((with_reducible refine g_mv ?_); refine l_p txs rfl rfl ?_) | ((with_reducible refine g_as ?_); refine l_p txs rfl rfl ?_) | ((with_reducible refine g_ex ?_); refine l_p txs rfl rfl ?_) | ((with_reducible refine g_st ?_); (refine h_stR recs H 0 rfl rfl rfl rfl rfl rfl rfl rfl rfl (fun w_ H => ?_))) | ((with_reducible refine g_al ?_); refine h_alloc recs H rfl rfl (fun g_ w_ H => ?_)))))
    (with_reducible refine is_l ?_); refine l_t txs rfl rfl (fun _ => ?_) (fun hh => absurd trivial hh)
    repeat' (first | (with_reducible first | refine p_tn ?_ | refine wp_seq ?_) | (with_reducible (refine is_if ?_; (refine w_ift rfl ?_))) | (with_reducible refine l_nil ?_))
    have HS := H.pick [1] [] (by decide) (by decide) rfl rfl
    refine d_start (fun w_ => Hp w w_ _ _) #[false, false, false, false, false, false] (by kernel_rfl) rfl rfl HS.drew ?_
    have H := H.drew
    have HS := HS.drew
    first | (refine d_take (i := 0) #[true, false, false, false, false, false] rfl (by kernel_rfl) (fun _ _ _ h => h) rfl (fun w_ K => evLR_run (o := ⟨_, _, _, _, _, _⟩) recs rfl rfl (K.range 0 rfl) rfl) HS ?_)
    first | (refine d_pure (i := 1) #[true, true, false, false, false, false] rfl (by kernel_rfl) (fun _ _ _ h => h) rfl (fun w_ => evP_run (o := ⟨_, _, _, _, _, _⟩) txs rfl) ?_)
    refine d_one (i := 2) #[true, true, true, false, false, false] rfl (by kernel_rfl) rfl ?_
    refine l_callp rfl rfl (by kernel_rfl) (in_c tHead _ _ _) ?_
    refine l_nil ?_
    have HS := H.pick [1] [] (by decide) (by decide) rfl rfl
    refine ⟨rfl, HS, ?_⟩
    refine d_one (i := 3) #[true, true, true, true, false, false] rfl (by kernel_rfl) rfl ?_
    refine g_on ?_; ((with_reducible refine g_st ?_); (refine h_stR recs H 2 rfl rfl rfl rfl rfl rfl rfl rfl rfl (fun w_ H => ?_)))
    refine l_nil ?_
    have HS := H.pick [1] [] (by decide) (by decide) rfl rfl
    refine ⟨rfl, HS, ?_⟩
    first | (refine d_pure (i := 4) #[true, true, true, true, true, false] rfl (by kernel_rfl) (fun _ _ _ h => h) rfl (fun w_ => evP_run (o := ⟨_, _, _, _, _, _⟩) txs rfl) ?_)
    first | (refine d_pure (i := 5) #[true, true, true, true, true, true] rfl (by kernel_rfl) (fun _ _ _ h => h) rfl (fun w_ => evP_run (o := ⟨_, _, _, _, _, _⟩) txs rfl) ?_)
    refine d_done rfl ?_
    repeat' (with_reducible first | refine p_tn ?_ | refine p_tr ?_ | refine wp_ret ?_)
    refine end_ctt recs H 2 rfl rfl rfl rfl rfl rfl rfl ?_
    exact pqR_err hres hvp (H.pick [] [] (by decide) (by decide) rfl rfl)
  | ok z =>
    obtain ⟨first, ls, rest⟩ := z
    rw [hcut] at hR
    obtain ⟨Bf, cf, Br, cr, rfl, K, r1, r2, r3⟩ := hR
    refine ⟨_, rfl, ?_⟩
    obtain ⟨hb1, hl1, hb2, hb3, hl3⟩ := cut_bytes hb hs hcut
    have z1 := sizeS' hb1
    have H := H.join K
    repeat' (first | (with_reducible first | refine p_tn ?_ | refine wp_seq ?_ | refine w_reg ?_ | refine l_nil ?_) | ((with_reducible refine g_on ?_); (first | ((with_reducible refine g_mv ?_); refine l_p txs rfl rfl ?_) | ((with_reducible refine g_as ?_); refine l_p txs rfl rfl ?_) | ((with_reducible refine g_ex ?_); refine l_p txs rfl rfl ?_) | ((with_reducible refine g_st ?_); (refine h_stR recs H 0 rfl rfl rfl rfl rfl rfl rfl rfl rfl (fun w_ H => ?_))) | ((with_reducible refine g_al ?_); refine h_alloc recs H rfl rfl (fun g_ w_ H => ?_)))))
    (with_reducible refine is_l ?_); refine l_t txs rfl rfl (fun hh => absurd hh (by simp)) (fun _ => ?_)
    repeat' (first | (with_reducible first | refine p_tn ?_ | refine wp_seq ?_ | refine w_reg ?_) | (with_reducible (refine is_if ?_; (refine w_iff rfl ?_))) | (with_reducible first | refine wp_skip ?_ | refine l_nil ?_) | ((with_reducible refine g_on ?_); (first | ((with_reducible refine g_fa ?_); refine h_fa flds rfl rfl ?_) | ((with_reducible refine g_ld ?_); (refine h_ld txs H 0 rfl rfl rfl rfl ?_)))))
    have hsp := split_c (strOfNums first) 32 (by omega) w_ mx (H.old hM)
    rw [blS hb1] at hsp
    simp only [show ((32 : UInt8).toNat : Int) = 32 from rfl] at hsp
    have hsm := split_mem 32 first
    obtain ⟨ws, hws⟩ : ∃ p, p = splitC 32 first := ⟨_, rfl⟩
    rw [← hws] at hsp hsm
    (with_reducible refine is_l ?_); refine l_call rfl rfl (by kernel_rfl) hsp (fun e w_ hR => ?_)
    obtain ⟨gw, rfl, K⟩ := hR
    refine ⟨_, rfl, ?_⟩
    have H := (H.join K).pick [0, 1, 2, 3] [0] (by decide) (by decide) rfl rfl
    repeat' (first | (with_reducible first | refine p_tn ?_ | refine wp_seq ?_ | refine w_reg ?_ | refine l_nil ?_) | ((with_reducible refine g_on ?_); (first | ((with_reducible refine g_mv ?_); refine l_p txs rfl rfl ?_) | ((with_reducible refine g_as ?_); refine l_p txs rfl rfl ?_) | ((with_reducible refine g_cl ?_); refine l_p txs rfl rfl ?_))))
    (with_reducible refine is_l ?_); refine l_t txs rfl rfl (fun h1 => ?_) (fun h1 => ?_)
    · have hres := pq_start hcut (st_other (by rw [← hws]; omega))
      repeat' (first | (with_reducible first | refine p_tn ?_ | refine wp_seq ?_) | (with_reducible (refine is_if ?_; (refine w_ift rfl ?_))) | (with_reducible refine l_nil ?_) | ((with_reducible refine g_on ?_); (first | ((with_reducible refine g_mv ?_); refine l_p txs rfl rfl ?_) | ((with_reducible refine g_pk ?_); refine l_p txs rfl rfl ?_))) | ((with_reducible refine g_if ?_); (refine l_off rfl ?_)))
      have HS := H.pick [2] [] (by decide) (by decide) rfl rfl
      refine d_start (fun w_ => Hp w w_ _ _) #[false, false, false, false, false] (by kernel_rfl) rfl rfl HS.drew ?_
      have H := H.drew
      have HS := HS.drew
      first | (refine d_take (i := 0) #[true, false, false, false, false] rfl (by kernel_rfl) (fun _ _ _ h => h) rfl (fun w_ K => evLR_run (o := ⟨_, _, _, _, _, _⟩) recs rfl rfl (K.range 0 rfl) rfl) HS ?_)
      first | (refine d_take (i := 1) #[true, true, false, false, false] rfl (by kernel_rfl) (fun _ _ _ h => h) rfl (fun w_ K => evL_run (o := ⟨_, _, _, _, _, _⟩) txs rfl (K.old c6)) HS ?_)
      refine d_one (i := 2) #[true, true, true, false, false] rfl (by kernel_rfl) rfl ?_
      refine g_on ?_; ((with_reducible refine g_st ?_); (refine h_stR recs H 3 rfl rfl rfl rfl rfl rfl rfl rfl rfl (fun w_ H => ?_)))
      refine l_nil ?_
      have HS := H.pick [2] [] (by decide) (by decide) rfl rfl
      refine ⟨rfl, HS, ?_⟩
      first | (refine d_pure (i := 3) #[true, true, true, true, false] rfl (by kernel_rfl) (fun _ _ _ h => h) rfl (fun w_ => evP_run (o := ⟨_, _, _, _, _, _⟩) txs rfl) ?_)
      first | (refine d_pure (i := 4) #[true, true, true, true, true] rfl (by kernel_rfl) (fun _ _ _ h => h) rfl (fun w_ => evP_run (o := ⟨_, _, _, _, _, _⟩) txs rfl) ?_)
      refine d_done rfl ?_
      repeat' (with_reducible first | refine p_tn ?_ | refine p_tr ?_ | refine wp_ret ?_)
      refine end_ctt recs H 3 rfl rfl rfl rfl rfl rfl rfl ?_
      exact pqR_err hres e6 (H.pick [] [] (by decide) (by decide) rfl rfl)
    obtain ⟨m, t, v, hmtv⟩ : ∃ m t v, ws = [m, t, v] := by
      match ws, h1 with
      | [m, t, v], _ => exact ⟨m, t, v, rfl⟩
      | [], h1 => exact absurd (by simp) h1
      | [_], h1 => exact absurd (by simp) h1
      | [_, _], h1 => exact absurd (by simp) h1
      | _ :: _ :: _ :: _ :: _, h1 => exact absurd (by simp; omega) h1
    subst hmtv
    have hst := st_three hws.symm
    obtain ⟨hm1, hm2⟩ := hsm m (by simp)
    obtain ⟨ht1, ht2⟩ := hsm t (by simp)
    obtain ⟨hv1, hv2⟩ := hsm v (by simp)
    have bm : Bytes m := fun y hy => hb1 y (hm1 y hy)
    have bt : Bytes t := fun y hy => hb1 y (ht1 y hy)
    have bv : Bytes v := fun y hy => hb1 y (hv1 y hy)
    have zm := sizeS' bm
    have zt := sizeS' bt
    repeat' (first | ((with_reducible refine g_on ?_); ((with_reducible refine g_mv ?_); refine l_p txs rfl rfl ?_)) | ((with_reducible refine g_if ?_); (first | ((with_reducible refine g_mv ?_); refine l_p txs rfl rfl ?_) | ((with_reducible refine g_ld ?_); (refine h_ld txs H 0 rfl rfl rfl rfl ?_)) | ((with_reducible refine g_ia ?_); refine l_ia txs rfl rfl (by first | omega | assumption | decide) (by first | omega | assumption | decide) ?_))))
    have htok := fun w1 => token_c (strOfNums m) w1 (by omega)
    rw [blS bm] at htok
    cases htk : tokS m
    · rw [htk] at htok
      have hres := pq_start hcut (k := 141) (by rw [hst, if_pos (.inl htk)])
      (with_reducible refine is_l ?_); refine l_callp rfl rfl (by kernel_rfl) (htok _) ?_
      repeat' (first | (with_reducible first | refine p_tn ?_ | refine wp_seq ?_) | (with_reducible (refine is_if ?_; (refine w_ift rfl ?_))) | (with_reducible refine l_nil ?_) | ((with_reducible refine g_on ?_); (first | ((with_reducible refine g_mv ?_); refine l_p txs rfl rfl ?_) | ((with_reducible refine g_pk ?_); refine l_p txs rfl rfl ?_))) | ((with_reducible refine g_if ?_); (first | (refine l_off rfl ?_) | ((with_reducible refine g_un ?_); (refine l_p txs rfl rfl ?_)))))
      have HS := H.pick [2] [] (by decide) (by decide) rfl rfl
      refine d_start (fun w_ => Hp w w_ _ _) #[false, false, false, false, false] (by kernel_rfl) rfl rfl HS.drew ?_
      have H := H.drew
      have HS := HS.drew
      first | (refine d_take (i := 0) #[true, false, false, false, false] rfl (by kernel_rfl) (fun _ _ _ h => h) rfl (fun w_ K => evLR_run (o := ⟨_, _, _, _, _, _⟩) recs rfl rfl (K.range 0 rfl) rfl) HS ?_)
      first | (refine d_take (i := 1) #[true, true, false, false, false] rfl (by kernel_rfl) (fun _ _ _ h => h) rfl (fun w_ K => evL_run (o := ⟨_, _, _, _, _, _⟩) txs rfl (K.old c6)) HS ?_)
      refine d_one (i := 2) #[true, true, true, false, false] rfl (by kernel_rfl) rfl ?_
      refine g_on ?_; ((with_reducible refine g_st ?_); (refine h_stR recs H 3 rfl rfl rfl rfl rfl rfl rfl rfl rfl (fun w_ H => ?_)))
      refine l_nil ?_
      have HS := H.pick [2] [] (by decide) (by decide) rfl rfl
      refine ⟨rfl, HS, ?_⟩
      first | (refine d_pure (i := 3) #[true, true, true, true, false] rfl (by kernel_rfl) (fun _ _ _ h => h) rfl (fun w_ => evP_run (o := ⟨_, _, _, _, _, _⟩) txs rfl) ?_)
      first | (refine d_pure (i := 4) #[true, true, true, true, true] rfl (by kernel_rfl) (fun _ _ _ h => h) rfl (fun w_ => evP_run (o := ⟨_, _, _, _, _, _⟩) txs rfl) ?_)
      refine d_done rfl ?_
      repeat' (with_reducible first | refine p_tn ?_ | refine p_tr ?_ | refine wp_ret ?_)
      refine end_ctt recs H 3 rfl rfl rfl rfl rfl rfl rfl ?_
      exact pqR_err hres e6 (H.pick [] [] (by decide) (by decide) rfl rfl)
    rw [htk] at htok
    (with_reducible refine is_l ?_); refine l_callp rfl rfl (by kernel_rfl) (htok _) ?_
    repeat' (first | ((with_reducible refine g_on ?_); (first | ((with_reducible refine g_mv ?_); refine l_p txs rfl rfl ?_) | ((with_reducible refine g_pk ?_); refine l_p txs rfl rfl ?_))) | ((with_reducible refine g_if ?_); (first | ((with_reducible refine g_mv ?_); refine l_p txs rfl rfl ?_) | ((with_reducible refine g_ld ?_); (refine h_ld txs H 0 rfl rfl rfl rfl ?_)) | ((with_reducible refine g_un ?_); (refine l_p txs rfl rfl ?_)) | ((with_reducible refine g_ia ?_); refine l_ia txs rfl rfl (by first | omega | assumption | decide) (by first | omega | assumption | decide) ?_))))
    have hbt := blS bt
    (with_reducible refine is_l ?_); refine l_t txs rfl rfl (fun h2 => ?_) (fun h2 => ?_)
    · have h2' : t = [] := by rw [← hbt]; exact h2
      have hres := pq_start hcut (k := 141) (by rw [hst, if_pos (.inr (.inl h2'))])
      repeat' (first | (with_reducible first | refine p_tn ?_ | refine wp_seq ?_) | (with_reducible (refine is_if ?_; (refine w_ift rfl ?_))) | (with_reducible refine l_nil ?_) | ((with_reducible refine g_on ?_); (first | ((with_reducible refine g_mv ?_); refine l_p txs rfl rfl ?_) | ((with_reducible refine g_pk ?_); refine l_p txs rfl rfl ?_))) | ((with_reducible refine g_if ?_); (refine l_off rfl ?_)))
      have HS := H.pick [2] [] (by decide) (by decide) rfl rfl
      refine d_start (fun w_ => Hp w w_ _ _) #[false, false, false, false, false] (by kernel_rfl) rfl rfl HS.drew ?_
      have H := H.drew
      have HS := HS.drew
      first | (refine d_take (i := 0) #[true, false, false, false, false] rfl (by kernel_rfl) (fun _ _ _ h => h) rfl (fun w_ K => evLR_run (o := ⟨_, _, _, _, _, _⟩) recs rfl rfl (K.range 0 rfl) rfl) HS ?_)
      first | (refine d_take (i := 1) #[true, true, false, false, false] rfl (by kernel_rfl) (fun _ _ _ h => h) rfl (fun w_ K => evL_run (o := ⟨_, _, _, _, _, _⟩) txs rfl (K.old c6)) HS ?_)
      refine d_one (i := 2) #[true, true, true, false, false] rfl (by kernel_rfl) rfl ?_
      refine g_on ?_; ((with_reducible refine g_st ?_); (refine h_stR recs H 3 rfl rfl rfl rfl rfl rfl rfl rfl rfl (fun w_ H => ?_)))
      refine l_nil ?_
      have HS := H.pick [2] [] (by decide) (by decide) rfl rfl
      refine ⟨rfl, HS, ?_⟩
      first | (refine d_pure (i := 3) #[true, true, true, true, false] rfl (by kernel_rfl) (fun _ _ _ h => h) rfl (fun w_ => evP_run (o := ⟨_, _, _, _, _, _⟩) txs rfl) ?_)
      first | (refine d_pure (i := 4) #[true, true, true, true, true] rfl (by kernel_rfl) (fun _ _ _ h => h) rfl (fun w_ => evP_run (o := ⟨_, _, _, _, _, _⟩) txs rfl) ?_)
      refine d_done rfl ?_
      repeat' (with_reducible first | refine p_tn ?_ | refine p_tr ?_ | refine wp_ret ?_)
      refine end_ctt recs H 3 rfl rfl rfl rfl rfl rfl rfl ?_
      exact pqR_err hres e6 (H.pick [] [] (by decide) (by decide) rfl rfl)
    have h2' : ¬ t = [] := fun e => h2 (by rw [hbt, e]; rfl)
    repeat' (first | ((with_reducible refine g_on ?_); (first | ((with_reducible refine g_mv ?_); refine l_p txs rfl rfl ?_) | ((with_reducible refine g_pk ?_); refine l_p txs rfl rfl ?_))) | ((with_reducible refine g_if ?_); (first | ((with_reducible refine g_mv ?_); refine l_p txs rfl rfl ?_) | ((with_reducible refine g_ld ?_); (refine h_ld txs H 0 rfl rfl rfl rfl ?_)) | ((with_reducible refine g_ia ?_); refine l_ia txs rfl rfl (by first | omega | assumption | decide) (by first | omega | assumption | decide) ?_))))
    have hall := fun w1 => all_c (strOfNums t) 100 visB kind_visible w1 (by omega)
    rw [hbt] at hall
    cases hvi : t.all visB
    · rw [hvi] at hall
      have hres := pq_start hcut (k := 141) (by rw [hst, if_pos (.inr (.inr hvi))])
      (with_reducible refine is_l ?_); refine l_callp rfl rfl (by kernel_rfl) (hall _) ?_
      repeat' (first | (with_reducible first | refine p_tn ?_ | refine wp_seq ?_) | (with_reducible (refine is_if ?_; (refine w_ift rfl ?_))) | (with_reducible refine l_nil ?_) | ((with_reducible refine g_on ?_); ((with_reducible refine g_pk ?_); refine l_p txs rfl rfl ?_)) | ((with_reducible refine g_if ?_); ((with_reducible refine g_un ?_); (refine l_p txs rfl rfl ?_))))
      have HS := H.pick [2] [] (by decide) (by decide) rfl rfl
      refine d_start (fun w_ => Hp w w_ _ _) #[false, false, false, false, false] (by kernel_rfl) rfl rfl HS.drew ?_
      have H := H.drew
      have HS := HS.drew
      first | (refine d_take (i := 0) #[true, false, false, false, false] rfl (by kernel_rfl) (fun _ _ _ h => h) rfl (fun w_ K => evLR_run (o := ⟨_, _, _, _, _, _⟩) recs rfl rfl (K.range 0 rfl) rfl) HS ?_)
      first | (refine d_take (i := 1) #[true, true, false, false, false] rfl (by kernel_rfl) (fun _ _ _ h => h) rfl (fun w_ K => evL_run (o := ⟨_, _, _, _, _, _⟩) txs rfl (K.old c6)) HS ?_)
      refine d_one (i := 2) #[true, true, true, false, false] rfl (by kernel_rfl) rfl ?_
      refine g_on ?_; ((with_reducible refine g_st ?_); (refine h_stR recs H 3 rfl rfl rfl rfl rfl rfl rfl rfl rfl (fun w_ H => ?_)))
      refine l_nil ?_
      have HS := H.pick [2] [] (by decide) (by decide) rfl rfl
      refine ⟨rfl, HS, ?_⟩
      first | (refine d_pure (i := 3) #[true, true, true, true, false] rfl (by kernel_rfl) (fun _ _ _ h => h) rfl (fun w_ => evP_run (o := ⟨_, _, _, _, _, _⟩) txs rfl) ?_)
      first | (refine d_pure (i := 4) #[true, true, true, true, true] rfl (by kernel_rfl) (fun _ _ _ h => h) rfl (fun w_ => evP_run (o := ⟨_, _, _, _, _, _⟩) txs rfl) ?_)
      refine d_done rfl ?_
      repeat' (with_reducible first | refine p_tn ?_ | refine p_tr ?_ | refine wp_ret ?_)
      refine end_ctt recs H 3 rfl rfl rfl rfl rfl rfl rfl ?_
      exact pqR_err hres e6 (H.pick [] [] (by decide) (by decide) rfl rfl)
    rw [hvi] at hall
    rw [if_neg (by rintro (h | h | h); · rw [htk] at h; cases h
                   · exact h2' h
                   · rw [hvi] at h; cases h)] at hst
    (with_reducible refine is_l ?_); refine l_callp rfl rfl (by kernel_rfl) (hall _) ?_
    repeat' (first | (with_reducible first | refine p_tn ?_ | refine wp_seq ?_ | refine w_reg ?_) | (with_reducible (refine is_if ?_; (refine w_iff rfl ?_))) | (with_reducible first | refine wp_skip ?_ | refine l_nil ?_) | ((with_reducible refine g_on ?_); (first | ((with_reducible refine g_mv ?_); refine l_p txs rfl rfl ?_) | ((with_reducible refine g_pk ?_); refine l_p txs rfl rfl ?_) | ((with_reducible refine g_ld ?_); (refine h_ld txs H 0 rfl rfl rfl rfl ?_)) | ((with_reducible refine g_ia ?_); refine l_ia txs rfl rfl (by first | omega | assumption | decide) (by first | omega | assumption | decide) ?_))) | ((with_reducible refine g_if ?_); ((with_reducible refine g_un ?_); (refine l_p txs rfl rfl ?_))))
    have hver := fun w1 => version_c (strOfNums v) w1
    rw [blS bv] at hver
    cases hvs : versS v with
    | none =>
      rw [versV_none hvs] at hver
      rw [hvs] at hst
      have hres := pq_start hcut hst
      (with_reducible refine is_l ?_); refine l_callp rfl rfl (by kernel_rfl) (hver _) ?_
      repeat' (first | (with_reducible first | refine p_tn ?_ | refine wp_seq ?_ | refine wp_block ?_ | refine w_reg ?_) | (with_reducible (refine is_if ?_; (refine w_ift rfl ?_))) | (with_reducible refine l_nil ?_) | ((with_reducible refine g_on ?_); (first | ((with_reducible refine g_mv ?_); refine l_p txs rfl rfl ?_) | ((with_reducible refine g_as ?_); refine l_p txs rfl rfl ?_) | ((with_reducible refine g_ex ?_); refine l_p txs rfl rfl ?_) | ((with_reducible refine g_un ?_); (refine l_p txs rfl rfl ?_)))))
      have HS := H.pick [2] [] (by decide) (by decide) rfl rfl
      refine d_start (fun w_ => Hp w w_ _ _) #[false, false, false, false, false] (by kernel_rfl) rfl rfl HS.drew ?_
      have H := H.drew
      have HS := HS.drew
      first | (refine d_take (i := 0) #[true, false, false, false, false] rfl (by kernel_rfl) (fun _ _ _ h => h) rfl (fun w_ K => evLR_run (o := ⟨_, _, _, _, _, _⟩) recs rfl rfl (K.range 0 rfl) rfl) HS ?_)
      first | (refine d_take (i := 1) #[true, true, false, false, false] rfl (by kernel_rfl) (fun _ _ _ h => h) rfl (fun w_ K => evL_run (o := ⟨_, _, _, _, _, _⟩) txs rfl (K.old c6)) HS ?_)
      refine d_one (i := 2) #[true, true, true, false, false] rfl (by kernel_rfl) rfl ?_
      refine g_on ?_; ((with_reducible refine g_st ?_); (refine h_stR recs H 3 rfl rfl rfl rfl rfl rfl rfl rfl rfl (fun w_ H => ?_)))
      refine l_nil ?_
      have HS := H.pick [2] [] (by decide) (by decide) rfl rfl
      refine ⟨rfl, HS, ?_⟩
      first | (refine d_pure (i := 3) #[true, true, true, true, false] rfl (by kernel_rfl) (fun _ _ _ h => h) rfl (fun w_ => evP_run (o := ⟨_, _, _, _, _, _⟩) txs rfl) ?_)
      first | (refine d_pure (i := 4) #[true, true, true, true, true] rfl (by kernel_rfl) (fun _ _ _ h => h) rfl (fun w_ => evP_run (o := ⟨_, _, _, _, _, _⟩) txs rfl) ?_)
      refine d_done rfl ?_
      repeat' (with_reducible first | refine p_tn ?_ | refine p_tr ?_ | refine p_br ?_ | refine wp_ret ?_)
      refine end_ctt recs H 3 rfl rfl rfl rfl rfl rfl rfl ?_
      exact pqR_err hres e6 (H.pick [] [] (by decide) (by decide) rfl rfl)
    | some ab =>
      obtain ⟨va, minor⟩ := ab
      rw [versV_some hvs] at hver
      rw [hvs] at hst
      simp only at hst
      obtain ⟨kn, hkn⟩ : ∃ kn, kn = (decide (va = 1) && decide (minor ≤ 1)) := ⟨_, rfl⟩
      rw [← hkn] at hver
      (with_reducible refine is_l ?_); refine l_callp rfl rfl (by kernel_rfl) (hver _) ?_
      repeat' (first | (with_reducible first | refine p_tn ?_ | refine wp_seq ?_ | refine wp_block ?_ | refine w_reg ?_) | (with_reducible (refine is_if ?_; (refine w_iff rfl ?_))) | (with_reducible refine l_nil ?_) | ((with_reducible refine g_on ?_); (first | ((with_reducible refine g_mv ?_); refine l_p txs rfl rfl ?_) | ((with_reducible refine g_as ?_); refine l_p txs rfl rfl ?_) | ((with_reducible refine g_ex ?_); refine l_p txs rfl rfl ?_) | ((with_reducible refine g_ld ?_); (refine h_ld txs H 0 rfl rfl rfl rfl ?_)) | ((with_reducible refine g_un ?_); (refine l_p txs rfl rfl ?_)) | ((with_reducible refine g_ia ?_); refine l_ia txs rfl rfl (by first | omega | assumption | decide) (by first | omega | assumption | decide) ?_))))
      have him := isMethod_c (hTb _ H.B) (strOfNums m)
      rw [blS bm] at him
      cases hme : methodsS.contains m
      · rw [hme] at him hst
        have hres := pq_start hcut hst
        (with_reducible refine is_l ?_); refine l_callp rfl rfl (by kernel_rfl) him ?_
        repeat' (first | (with_reducible first | refine p_tn ?_ | refine wp_seq ?_) | (with_reducible (refine is_if ?_; (refine w_ift rfl ?_))) | (with_reducible refine l_nil ?_) | ((with_reducible refine g_on ?_); (first | ((with_reducible refine g_as ?_); refine l_p txs rfl rfl ?_) | ((with_reducible refine g_un ?_); (refine l_p txs rfl rfl ?_)))))
        have HS := H.pick [2] [] (by decide) (by decide) rfl rfl
        refine d_start (fun w_ => Hp w w_ _ _) #[false, false, false, false, false] (by kernel_rfl) rfl rfl HS.drew ?_
        have H := H.drew
        have HS := HS.drew
        first | (refine d_take (i := 0) #[true, false, false, false, false] rfl (by kernel_rfl) (fun _ _ _ h => h) rfl (fun w_ K => evLR_run (o := ⟨_, _, _, _, _, _⟩) recs rfl rfl (K.range 0 rfl) rfl) HS ?_)
        first | (refine d_take (i := 1) #[true, true, false, false, false] rfl (by kernel_rfl) (fun _ _ _ h => h) rfl (fun w_ K => evL_run (o := ⟨_, _, _, _, _, _⟩) txs rfl (K.old c12)) HS ?_)
        refine d_one (i := 2) #[true, true, true, false, false] rfl (by kernel_rfl) rfl ?_
        refine g_on ?_; ((with_reducible refine g_st ?_); (refine h_stR recs H 3 rfl rfl rfl rfl rfl rfl rfl rfl rfl (fun w_ H => ?_)))
        refine l_nil ?_
        have HS := H.pick [2] [] (by decide) (by decide) rfl rfl
        refine ⟨rfl, HS, ?_⟩
        first | (refine d_pure (i := 3) #[true, true, true, true, false] rfl (by kernel_rfl) (fun _ _ _ h => h) rfl (fun w_ => evP_run (o := ⟨_, _, _, _, _, _⟩) txs rfl) ?_)
        first | (refine d_pure (i := 4) #[true, true, true, true, true] rfl (by kernel_rfl) (fun _ _ _ h => h) rfl (fun w_ => evP_run (o := ⟨_, _, _, _, _, _⟩) txs rfl) ?_)
        refine d_done rfl ?_
        repeat' (with_reducible first | refine p_tn ?_ | refine p_tr ?_ | refine p_br ?_ | refine wp_ret ?_)
        refine end_ctt recs H 3 rfl rfl rfl rfl rfl rfl rfl ?_
        exact pqR_err hres e12 (H.pick [] [] (by decide) (by decide) rfl rfl)
      rw [hme] at him hst
      rw [if_neg (by simp)] at hst
      (with_reducible refine is_l ?_); refine l_callp rfl rfl (by kernel_rfl) him ?_
      cases kn
      · have hst2 : startS first = .error 142 := by
          rw [hst, if_neg]
          rintro ⟨h3, h4⟩
          simp [h3, h4] at hkn
        have hres := pq_start hcut hst2
        repeat' (first | (with_reducible first | refine p_tn ?_ | refine wp_seq ?_ | refine w_reg ?_) | (with_reducible (refine is_if ?_; (first | (refine w_ift rfl ?_) | (refine w_iff rfl ?_)))) | (with_reducible refine l_nil ?_) | ((with_reducible refine g_on ?_); (first | ((with_reducible refine g_mv ?_); refine l_p txs rfl rfl ?_) | ((with_reducible refine g_as ?_); refine l_p txs rfl rfl ?_) | ((with_reducible refine g_un ?_); (refine l_p txs rfl rfl ?_)))))
        have HS := H.pick [2] [] (by decide) (by decide) rfl rfl
        refine d_start (fun w_ => Hp w w_ _ _) #[false, false, false, false, false] (by kernel_rfl) rfl rfl HS.drew ?_
        have H := H.drew
        have HS := HS.drew
        first | (refine d_take (i := 0) #[true, false, false, false, false] rfl (by kernel_rfl) (fun _ _ _ h => h) rfl (fun w_ K => evLR_run (o := ⟨_, _, _, _, _, _⟩) recs rfl rfl (K.range 0 rfl) rfl) HS ?_)
        first | (refine d_take (i := 1) #[true, true, false, false, false] rfl (by kernel_rfl) (fun _ _ _ h => h) rfl (fun w_ K => evL_run (o := ⟨_, _, _, _, _, _⟩) txs rfl (K.old c7)) HS ?_)
        refine d_one (i := 2) #[true, true, true, false, false] rfl (by kernel_rfl) rfl ?_
        refine g_on ?_; ((with_reducible refine g_st ?_); (refine h_stR recs H 3 rfl rfl rfl rfl rfl rfl rfl rfl rfl (fun w_ H => ?_)))
        refine l_nil ?_
        have HS := H.pick [2] [] (by decide) (by decide) rfl rfl
        refine ⟨rfl, HS, ?_⟩
        first | (refine d_pure (i := 3) #[true, true, true, true, false] rfl (by kernel_rfl) (fun _ _ _ h => h) rfl (fun w_ => evP_run (o := ⟨_, _, _, _, _, _⟩) txs rfl) ?_)
        first | (refine d_pure (i := 4) #[true, true, true, true, true] rfl (by kernel_rfl) (fun _ _ _ h => h) rfl (fun w_ => evP_run (o := ⟨_, _, _, _, _, _⟩) txs rfl) ?_)
        refine d_done rfl ?_
        repeat' (with_reducible first | refine p_tn ?_ | refine p_tr ?_ | refine p_br ?_ | refine wp_ret ?_)
        refine end_ctt recs H 3 rfl rfl rfl rfl rfl rfl rfl ?_
        exact pqR_err hres e7 (H.pick [] [] (by decide) (by decide) rfl rfl)
      have hst2 : startS first = .ok (m, t, minor) := by
        rw [hst, if_pos]
        have h3 := hkn.symm
        simp only [Bool.and_eq_true, decide_eq_true_eq] at h3
        exact h3
      repeat' (first | (with_reducible first | refine p_tn ?_ | refine p_bn ?_ | refine wp_seq ?_ | refine w_reg ?_) | (with_reducible (refine is_if ?_; (refine w_iff rfl ?_))) | (with_reducible first | refine wp_skip ?_ | refine l_nil ?_) | ((with_reducible refine g_on ?_); (first | ((with_reducible refine g_mv ?_); refine l_p txs rfl rfl ?_) | ((with_reducible refine g_as ?_); refine l_p txs rfl rfl ?_) | ((with_reducible refine g_fa ?_); refine h_fa flds rfl rfl ?_) | ((with_reducible refine g_ld ?_); (refine h_ld txs H 1 rfl rfl rfl rfl ?_)) | ((with_reducible refine g_un ?_); (refine l_p txs rfl rfl ?_)))))
      -- the fields
      obtain ⟨A0, c0, he0, _, hrd, _⟩ := H.rd 0 rfl
      cases he0
      have hfo := fieldsOf_c (c := cf) (hE.below H.B) (H.old hM) hrd hb2
      (with_reducible refine is_l ?_); refine l_call rfl rfl (by kernel_rfl) hfo (fun e w_ hR => ?_)
      unfold FsR at hR
      cases hfe : fieldsE ls with
      | error k =>
        rw [hfe] at hR
        obtain ⟨rfl, K⟩ := hR
        refine ⟨_, rfl, ?_⟩
        have hres := pq_fields hcut hst2 hfe
        have H := H.join K
        have hke : k = 2 ∨ k = 143 := by
          unfold fieldsE at hfe
          split at hfe
          · simp only [Except.error.injEq] at hfe; omega
          · split at hfe
            · simp only [Except.error.injEq] at hfe; omega
            · cases hfe
        have hvp : ErrOf A (placV tFields (errV (A (if k = 2 then 4 else 8)))) k := by
          rcases hke with rfl | rfl
          · exact ⟨4, by decide, by decide, rfl, .inr ⟨by decide, _, rfl⟩⟩
          · exact ⟨8, by decide, by decide, rfl, .inr ⟨by decide, _, rfl⟩⟩
        repeat' (first | (with_reducible first | refine p_tn ?_ | refine wp_seq ?_ | refine w_reg ?_ | refine l_nil ?_) | ((with_reducible refine g_on ?_); (first | ((with_reducible refine g_mv ?_); refine l_p txs rfl rfl ?_) | ((with_reducible refine g_as ?_); refine l_p txs rfl rfl ?_) | ((with_reducible refine g_ex ?_); refine l_p txs rfl rfl ?_))))
        (with_reducible refine is_l ?_); refine l_t txs rfl rfl (fun _ => ?_) (fun hh => absurd trivial hh)
        repeat' (first | (with_reducible first | refine p_tn ?_ | refine wp_seq ?_) | (with_reducible (refine is_if ?_; (refine w_ift rfl ?_))) | (with_reducible refine l_nil ?_))
        have HS := H.pick [2] [] (by decide) (by decide) rfl rfl
        refine d_start (fun w_ => Hp w w_ _ _) #[false, false, false, false, false, false] (by kernel_rfl) rfl rfl HS.drew ?_
        have H := H.drew
        have HS := HS.drew
        first | (refine d_take (i := 0) #[true, false, false, false, false, false] rfl (by kernel_rfl) (fun _ _ _ h => h) rfl (fun w_ K => evLR_run (o := ⟨_, _, _, _, _, _⟩) recs rfl rfl (K.range 0 rfl) rfl) HS ?_)
        first | (refine d_pure (i := 1) #[true, true, false, false, false, false] rfl (by kernel_rfl) (fun _ _ _ h => h) rfl (fun w_ => evP_run (o := ⟨_, _, _, _, _, _⟩) txs rfl) ?_)
        refine d_one (i := 2) #[true, true, true, false, false, false] rfl (by kernel_rfl) rfl ?_
        refine l_callp rfl rfl (by kernel_rfl) (in_c tFields _ _ _) ?_
        refine l_nil ?_
        have HS := H.pick [2] [] (by decide) (by decide) rfl rfl
        refine ⟨rfl, HS, ?_⟩
        refine d_one (i := 3) #[true, true, true, true, false, false] rfl (by kernel_rfl) rfl ?_
        refine g_on ?_; ((with_reducible refine g_st ?_); (refine h_stR recs H 3 rfl rfl rfl rfl rfl rfl rfl rfl rfl (fun w_ H => ?_)))
        refine l_nil ?_
        have HS := H.pick [2] [] (by decide) (by decide) rfl rfl
        refine ⟨rfl, HS, ?_⟩
        first | (refine d_pure (i := 4) #[true, true, true, true, true, false] rfl (by kernel_rfl) (fun _ _ _ h => h) rfl (fun w_ => evP_run (o := ⟨_, _, _, _, _, _⟩) txs rfl) ?_)
        first | (refine d_pure (i := 5) #[true, true, true, true, true, true] rfl (by kernel_rfl) (fun _ _ _ h => h) rfl (fun w_ => evP_run (o := ⟨_, _, _, _, _, _⟩) txs rfl) ?_)
        refine d_done rfl ?_
        repeat' (with_reducible first | refine p_tn ?_ | refine p_tr ?_ | refine wp_ret ?_)
        refine end_ctt recs H 3 rfl rfl rfl rfl rfl rfl rfl ?_
        exact pqR_err hres hvp (H.pick [] [] (by decide) (by decide) rfl rfl)
      | ok l =>
        rw [hfe] at hR
        obtain ⟨Bl, cl, rfl, K⟩ := hR
        refine ⟨_, rfl, ?_⟩
        obtain ⟨bl1, bl2⟩ := fieldsE_bytes hb2 hfe
        have H := (H.join K).pick [0, 1, 2, 3] [0] (by decide) (by decide) rfl rfl
        repeat' (first | (with_reducible first | refine p_tn ?_ | refine wp_seq ?_ | refine w_reg ?_ | refine l_nil ?_) | ((with_reducible refine g_on ?_); (first | ((with_reducible refine g_mv ?_); refine l_p txs rfl rfl ?_) | ((with_reducible refine g_as ?_); refine l_p txs rfl rfl ?_) | ((with_reducible refine g_ex ?_); refine l_p txs rfl rfl ?_))))
        (with_reducible refine is_l ?_); refine l_t txs rfl rfl (fun hh => absurd hh (by simp)) (fun _ => ?_)
        repeat' (first | (with_reducible first | refine p_tn ?_ | refine wp_seq ?_ | refine w_reg ?_) | (with_reducible (refine is_if ?_; (refine w_iff rfl ?_))) | (with_reducible first | refine wp_skip ?_ | refine l_nil ?_) | ((with_reducible refine g_on ?_); ((with_reducible refine g_mv ?_); refine l_p txs rfl rfl ?_)))
        obtain ⟨A0, c0, he0, _, hrd, _⟩ := H.rd 0 rfl
        cases he0
        have hfr := framingOf_c (c := cl) (H.old hM) hrd bl1 (by omega)
        (with_reducible refine is_l ?_); refine l_callv rfl rfl (by kernel_rfl) hfr (fun w_ K => ?_)
        have H := H.call K
        repeat' (first | (with_reducible first | refine p_tn ?_ | refine wp_seq ?_ | refine w_reg ?_ | refine l_nil ?_) | ((with_reducible refine g_on ?_); (first | ((with_reducible refine g_mv ?_); refine l_p txs rfl rfl ?_) | ((with_reducible refine g_ld ?_); (refine h_ldR recs H 0 rfl rfl rfl rfl rfl ?_)) | ((with_reducible refine g_st ?_); (refine h_stR recs H 0 rfl rfl rfl rfl rfl rfl rfl rfl rfl (fun w_ H => ?_))) | ((with_reducible refine g_al ?_); refine h_alloc recs H rfl rfl (fun g_ w_ H => ?_)))))
        have hho := checkHost_c (hE.below H.B) (frmS l) (frm_host l bl1) minor
        rw [host_bad bl1] at hho
        cases hh : hostOk l minor
        · rw [hh] at hho
          have hres := pq_host hcut hst2 hfe hh
          (with_reducible refine is_l ?_); refine l_callv rfl rfl (by kernel_rfl) hho (fun w_ K => ?_)
          have H := H.call K
          repeat' (first | (with_reducible first | refine p_tn ?_ | refine wp_seq ?_ | refine w_reg ?_ | refine l_nil ?_) | ((with_reducible refine g_on ?_); (first | ((with_reducible refine g_mv ?_); refine l_p txs rfl rfl ?_) | ((with_reducible refine g_as ?_); refine l_p txs rfl rfl ?_))))
          (with_reducible refine is_l ?_); refine l_t txs rfl rfl (fun _ => ?_) (fun hh => absurd trivial hh)
          repeat' (first | (with_reducible first | refine p_tn ?_ | refine p_tr ?_ | refine wp_seq ?_ | refine w_reg ?_) | (with_reducible (refine is_if ?_; (refine w_ift rfl ?_))) | (with_reducible first | refine wp_ret ?_ | refine l_nil ?_) | ((with_reducible refine g_on ?_); (first | ((with_reducible refine g_mv ?_); refine l_p txs rfl rfl ?_) | ((with_reducible refine g_as ?_); refine l_p txs rfl rfl ?_) | ((with_reducible refine g_ld ?_); (refine h_ldR recs H 3 rfl rfl rfl rfl rfl ?_)) | ((with_reducible refine g_st ?_); (refine h_stR recs H 4 rfl rfl rfl rfl rfl rfl rfl rfl rfl (fun w_ H => ?_))))))
          refine end_ctt recs H 4 rfl rfl rfl rfl rfl rfl rfl ?_
          exact pqR_err hres e9 (H.pick [] [] (by decide) (by decide) rfl rfl)
        rw [hh] at hho
        (with_reducible refine is_l ?_); refine l_callv rfl rfl (by kernel_rfl) hho (fun w_ K => ?_)
        have H := H.call K
        repeat' (first | (with_reducible first | refine p_tn ?_ | refine wp_seq ?_ | refine w_reg ?_ | refine l_nil ?_) | ((with_reducible refine g_on ?_); (first | ((with_reducible refine g_mv ?_); refine l_p txs rfl rfl ?_) | ((with_reducible refine g_as ?_); refine l_p txs rfl rfl ?_))))
        (with_reducible refine is_l ?_); refine l_t txs rfl rfl (fun hh => absurd hh (by simp)) (fun _ => ?_)
        repeat' (first | (with_reducible first | refine p_tn ?_ | refine wp_seq ?_ | refine w_reg ?_) | (with_reducible (refine is_if ?_; (refine w_iff rfl ?_))) | (with_reducible first | refine wp_skip ?_ | refine l_nil ?_) | ((with_reducible refine g_on ?_); (first | ((with_reducible refine g_as ?_); refine l_p txs rfl rfl ?_) | ((with_reducible refine g_fa ?_); refine h_fa flds rfl rfl ?_) | ((with_reducible refine g_ld ?_); (refine h_ld txs H 0 rfl rfl rfl rfl ?_)))))
        have hclo := fun w1 => close_c (frmS l) minor w1
        rw [closes_eq] at hclo
        replace hclo := fun {w1} => hclo w1
        cases hfm : (frmS l).framed
        · have hfs : frameS l minor = .ok .none := frame_none_of hfm
          have hres := pq_ok (bd := []) (k := 0) hcut hst2 hfe hh hfs rfl
          repeat' (first | (with_reducible first | refine p_tn ?_ | refine wp_seq ?_) | (with_reducible (refine is_if ?_; (refine w_iff rfl ?_))) | (with_reducible refine wp_skip ?_))
          have HS := H.pick [0, 1, 2] [] (by decide) (by decide) rfl rfl
          refine d_start (fun w_ => Hp w w_ _ _) #[false, false, false, false, false, false, false, false, false, false, false, false, false, false, false, false, false, false, false, false, false] (by kernel_rfl) rfl rfl HS.drew ?_
          have H := H.drew
          have HS := HS.drew
          first | (refine d_pure (i := 0) #[true, false, false, false, false, false, false, false, false, false, false, false, false, false, false, false, false, false, false, false, false] rfl (by kernel_rfl) (fun _ _ _ h => h) rfl (fun w_ => evP_run (o := ⟨_, _, _, _, _, _⟩) txs rfl) ?_)
          first | (refine d_pure (i := 1) #[true, true, false, false, false, false, false, false, false, false, false, false, false, false, false, false, false, false, false, false, false] rfl (by kernel_rfl) (fun _ _ _ h => h) rfl (fun w_ => evIA_run (o := ⟨_, _, _, _, _, _⟩) txs rfl (by omega) (by omega)) ?_)
          first | (refine d_take (i := 2) #[true, true, true, false, false, false, false, false, false, false, false, false, false, false, false, false, false, false, false, false, false] rfl (by kernel_rfl) (fun _ _ _ h => h) rfl (fun w_ K => evL_run (o := ⟨_, _, _, _, _, _⟩) txs rfl (K.cellAt 0 rfl rfl)) HS ?_) | (refine d_take (i := 2) #[true, true, true, false, false, false, false, false, false, false, false, false, false, false, false, false, false, false, false, false, false] rfl (by kernel_rfl) (fun _ _ _ h => h) rfl (fun w_ K => evL_run (o := ⟨_, _, _, _, _, _⟩) txs rfl (K.cellAt 1 rfl rfl)) HS ?_) | (refine d_take (i := 2) #[true, true, true, false, false, false, false, false, false, false, false, false, false, false, false, false, false, false, false, false, false] rfl (by kernel_rfl) (fun _ _ _ h => h) rfl (fun w_ K => evL_run (o := ⟨_, _, _, _, _, _⟩) txs rfl (K.cellAt 2 rfl rfl)) HS ?_)
          first | (refine d_pure (i := 3) #[true, true, true, true, false, false, false, false, false, false, false, false, false, false, false, false, false, false, false, false, false] rfl (by kernel_rfl) (fun _ _ _ h => h) rfl (fun w_ => evP_run (o := ⟨_, _, _, _, _, _⟩) txs rfl) ?_)
          first | (refine d_pure (i := 4) #[true, true, true, true, true, false, false, false, false, false, false, false, false, false, false, false, false, false, false, false, false] rfl (by kernel_rfl) (fun _ _ _ h => h) rfl (fun w_ => evIA_run (o := ⟨_, _, _, _, _, _⟩) txs rfl (by omega) (by omega)) ?_)
          first | (refine d_take (i := 5) #[true, true, true, true, true, true, false, false, false, false, false, false, false, false, false, false, false, false, false, false, false] rfl (by kernel_rfl) (fun _ _ _ h => h) rfl (fun w_ K => evL_run (o := ⟨_, _, _, _, _, _⟩) txs rfl (K.cellAt 0 rfl rfl)) HS ?_) | (refine d_take (i := 5) #[true, true, true, true, true, true, false, false, false, false, false, false, false, false, false, false, false, false, false, false, false] rfl (by kernel_rfl) (fun _ _ _ h => h) rfl (fun w_ K => evL_run (o := ⟨_, _, _, _, _, _⟩) txs rfl (K.cellAt 1 rfl rfl)) HS ?_) | (refine d_take (i := 5) #[true, true, true, true, true, true, false, false, false, false, false, false, false, false, false, false, false, false, false, false, false] rfl (by kernel_rfl) (fun _ _ _ h => h) rfl (fun w_ K => evL_run (o := ⟨_, _, _, _, _, _⟩) txs rfl (K.cellAt 2 rfl rfl)) HS ?_)
          first | (refine d_pure (i := 6) #[true, true, true, true, true, true, true, false, false, false, false, false, false, false, false, false, false, false, false, false, false] rfl (by kernel_rfl) (fun _ _ _ h => h) rfl (fun w_ => evP_run (o := ⟨_, _, _, _, _, _⟩) txs rfl) ?_)
          first | (refine d_pure (i := 7) #[true, true, true, true, true, true, true, true, false, false, false, false, false, false, false, false, false, false, false, false, false] rfl (by kernel_rfl) (fun _ _ _ h => h) rfl (fun w_ => evP_run (o := ⟨_, _, _, _, _, _⟩) txs rfl) ?_)
          first | (refine d_take (i := 8) #[true, true, true, true, true, true, true, true, true, false, false, false, false, false, false, false, false, false, false, false, false] rfl (by kernel_rfl) (fun _ _ _ h => h) rfl (fun w_ K => evLR_run (o := ⟨_, _, _, _, _, _⟩) recs rfl rfl (K.range 0 rfl) rfl) HS ?_) | (refine d_take (i := 8) #[true, true, true, true, true, true, true, true, true, false, false, false, false, false, false, false, false, false, false, false, false] rfl (by kernel_rfl) (fun _ _ _ h => h) rfl (fun w_ K => evLR_run (o := ⟨_, _, _, _, _, _⟩) recs rfl rfl (K.range 1 rfl) rfl) HS ?_) | (refine d_take (i := 8) #[true, true, true, true, true, true, true, true, true, false, false, false, false, false, false, false, false, false, false, false, false] rfl (by kernel_rfl) (fun _ _ _ h => h) rfl (fun w_ K => evLR_run (o := ⟨_, _, _, _, _, _⟩) recs rfl rfl (K.range 2 rfl) rfl) HS ?_)
          first | (refine d_pure (i := 9) #[true, true, true, true, true, true, true, true, true, true, false, false, false, false, false, false, false, false, false, false, false] rfl (by kernel_rfl) (fun _ _ _ h => h) rfl (fun w_ => evP_run (o := ⟨_, _, _, _, _, _⟩) txs rfl) ?_)
          first | (refine d_pure (i := 11) #[true, true, true, true, true, true, true, true, true, true, false, true, false, false, false, false, false, false, false, false, false] rfl (by kernel_rfl) (fun _ _ _ h => h) rfl (fun w_ => evF_run (o := ⟨_, _, _, _, _, _⟩) flds rfl) ?_) | (refine d_pure (i := 11) #[true, true, true, true, true, true, true, true, true, true, false, true, false, false, false, false, false, false, false, false, false] rfl (by kernel_rfl) (fun _ _ _ h => h) rfl (fun w_ => evG_run (o := ⟨_, _, _, _, _, _⟩) flds rfl) ?_)
          refine d_one (i := 10) #[true, true, true, true, true, true, true, true, true, true, true, true, false, false, false, false, false, false, false, false, false] rfl (by kernel_rfl) rfl ?_
          refine l_callv rfl rfl (by kernel_rfl) hclo (fun w_ K => ?_); have H := H.call K
          refine l_nil ?_
          have HS := H.pick [0, 1, 2] [] (by decide) (by decide) rfl rfl
          refine ⟨rfl, HS, ?_⟩
          refine d_one (i := 12) #[true, true, true, true, true, true, true, true, true, true, true, true, true, false, false, false, false, false, false, false, false] rfl (by kernel_rfl) rfl ?_
          refine g_on ?_; ((with_reducible refine g_st ?_); (refine h_st txs ones H 3 rfl rfl rfl rfl rfl rfl rfl rfl rfl (fun w_ H => ?_)))
          refine l_nil ?_
          have HS := H.pick [0, 1, 2] [] (by decide) (by decide) rfl rfl
          refine ⟨rfl, HS, ?_⟩
          first | (refine d_pure (i := 13) #[true, true, true, true, true, true, true, true, true, true, true, true, true, true, false, false, false, false, false, false, false] rfl (by kernel_rfl) (fun _ _ _ h => h) rfl (fun w_ => evF_run (o := ⟨_, _, _, _, _, _⟩) flds rfl) ?_) | (refine d_pure (i := 13) #[true, true, true, true, true, true, true, true, true, true, true, true, true, true, false, false, false, false, false, false, false] rfl (by kernel_rfl) (fun _ _ _ h => h) rfl (fun w_ => evG_run (o := ⟨_, _, _, _, _, _⟩) flds rfl) ?_)
          refine d_one (i := 14) #[true, true, true, true, true, true, true, true, true, true, true, true, true, true, true, false, false, false, false, false, false] rfl (by kernel_rfl) rfl ?_
          refine g_on ?_; ((with_reducible refine g_st ?_); (refine h_st txs ones H 3 rfl rfl rfl rfl rfl rfl rfl rfl rfl (fun w_ H => ?_)))
          refine l_nil ?_
          have HS := H.pick [0, 1, 2] [] (by decide) (by decide) rfl rfl
          refine ⟨rfl, HS, ?_⟩
          first | (refine d_pure (i := 15) #[true, true, true, true, true, true, true, true, true, true, true, true, true, true, true, true, false, false, false, false, false] rfl (by kernel_rfl) (fun _ _ _ h => h) rfl (fun w_ => evF_run (o := ⟨_, _, _, _, _, _⟩) flds rfl) ?_) | (refine d_pure (i := 15) #[true, true, true, true, true, true, true, true, true, true, true, true, true, true, true, true, false, false, false, false, false] rfl (by kernel_rfl) (fun _ _ _ h => h) rfl (fun w_ => evG_run (o := ⟨_, _, _, _, _, _⟩) flds rfl) ?_)
          refine d_one (i := 16) #[true, true, true, true, true, true, true, true, true, true, true, true, true, true, true, true, true, false, false, false, false] rfl (by kernel_rfl) rfl ?_
          refine g_on ?_; ((with_reducible refine g_st ?_); (refine h_st txs ones H 3 rfl rfl rfl rfl rfl rfl rfl rfl rfl (fun w_ H => ?_)))
          refine l_nil ?_
          have HS := H.pick [0, 1, 2] [] (by decide) (by decide) rfl rfl
          refine ⟨rfl, HS, ?_⟩
          first | (refine d_pure (i := 17) #[true, true, true, true, true, true, true, true, true, true, true, true, true, true, true, true, true, true, false, false, false] rfl (by kernel_rfl) (fun _ _ _ h => h) rfl (fun w_ => evF_run (o := ⟨_, _, _, _, _, _⟩) flds rfl) ?_) | (refine d_pure (i := 17) #[true, true, true, true, true, true, true, true, true, true, true, true, true, true, true, true, true, true, false, false, false] rfl (by kernel_rfl) (fun _ _ _ h => h) rfl (fun w_ => evG_run (o := ⟨_, _, _, _, _, _⟩) flds rfl) ?_)
          refine d_one (i := 18) #[true, true, true, true, true, true, true, true, true, true, true, true, true, true, true, true, true, true, true, false, false] rfl (by kernel_rfl) rfl ?_
          refine g_on ?_; ((with_reducible refine g_st ?_); (refine h_st txs ones H 3 rfl rfl rfl rfl rfl rfl rfl rfl rfl (fun w_ H => ?_)))
          refine l_nil ?_
          have HS := H.pick [0, 1, 2] [] (by decide) (by decide) rfl rfl
          refine ⟨rfl, HS, ?_⟩
          first | (refine d_pure (i := 19) #[true, true, true, true, true, true, true, true, true, true, true, true, true, true, true, true, true, true, true, true, false] rfl (by kernel_rfl) (fun _ _ _ h => h) rfl (fun w_ => evF_run (o := ⟨_, _, _, _, _, _⟩) flds rfl) ?_) | (refine d_pure (i := 19) #[true, true, true, true, true, true, true, true, true, true, true, true, true, true, true, true, true, true, true, true, false] rfl (by kernel_rfl) (fun _ _ _ h => h) rfl (fun w_ => evG_run (o := ⟨_, _, _, _, _, _⟩) flds rfl) ?_)
          refine d_one (i := 20) #[true, true, true, true, true, true, true, true, true, true, true, true, true, true, true, true, true, true, true, true, true] rfl (by kernel_rfl) rfl ?_
          refine g_on ?_; ((with_reducible refine g_st ?_); (refine h_st txs ones H 3 rfl rfl rfl rfl rfl rfl rfl rfl rfl (fun w_ H => ?_)))
          refine l_nil ?_
          have HS := H.pick [0, 1, 2] [] (by decide) (by decide) rfl rfl
          refine ⟨rfl, HS, ?_⟩
          refine d_done rfl ?_
          repeat' (with_reducible first | refine p_tn ?_ | refine wp_seq ?_)
          have HS := H.pick [2, 3] [] (by decide) (by decide) rfl rfl
          refine d_start (fun w_ => Hp w w_ _ _) #[false, false, false, false, false, false, false, false, false, false, false, false] (by kernel_rfl) rfl rfl HS.drew ?_
          have H := H.drew
          have HS := HS.drew
          first | (refine d_take (i := 0) #[true, false, false, false, false, false, false, false, false, false, false, false] rfl (by kernel_rfl) (fun _ _ _ h => h) rfl (fun w_ K => evLR_run (o := ⟨_, _, _, _, _, _⟩) recs rfl rfl (K.range 0 rfl) rfl) HS ?_) | (refine d_take (i := 0) #[true, false, false, false, false, false, false, false, false, false, false, false] rfl (by kernel_rfl) (fun _ _ _ h => h) rfl (fun w_ K => evLR_run (o := ⟨_, _, _, _, _, _⟩) recs rfl rfl (K.range 1 rfl) rfl) HS ?_)
          first | (refine d_pure (i := 1) #[true, true, false, false, false, false, false, false, false, false, false, false] rfl (by kernel_rfl) (fun _ _ _ h => h) rfl (fun w_ => evP_run (o := ⟨_, _, _, _, _, _⟩) txs rfl) ?_)
          first | (refine d_pure (i := 2) #[true, true, true, false, false, false, false, false, false, false, false, false] rfl (by kernel_rfl) (fun _ _ _ h => h) rfl (fun w_ => evP_run (o := ⟨_, _, _, _, _, _⟩) txs rfl) ?_)
          first | (refine d_pure (i := 3) #[true, true, true, true, false, false, false, false, false, false, false, false] rfl (by kernel_rfl) (fun _ _ _ h => h) rfl (fun w_ => evF_run (o := ⟨_, _, _, _, _, _⟩) flds rfl) ?_) | (refine d_pure (i := 3) #[true, true, true, true, false, false, false, false, false, false, false, false] rfl (by kernel_rfl) (fun _ _ _ h => h) rfl (fun w_ => evG_run (o := ⟨_, _, _, _, _, _⟩) flds rfl) ?_)
          first | (refine d_take (i := 4) #[true, true, true, true, true, false, false, false, false, false, false, false] rfl (by kernel_rfl) (fun _ _ _ h => h) rfl (fun w_ K => evL_run (o := ⟨_, _, _, _, _, _⟩) txs rfl (K.cellAt 0 rfl rfl)) HS ?_) | (refine d_take (i := 4) #[true, true, true, true, true, false, false, false, false, false, false, false] rfl (by kernel_rfl) (fun _ _ _ h => h) rfl (fun w_ K => evL_run (o := ⟨_, _, _, _, _, _⟩) txs rfl (K.cellAt 1 rfl rfl)) HS ?_)
          first | (refine d_pure (i := 5) #[true, true, true, true, true, true, false, false, false, false, false, false] rfl (by kernel_rfl) (fun _ _ _ h => h) rfl (fun w_ => evP_run (o := ⟨_, _, _, _, _, _⟩) txs rfl) ?_)
          first | (refine d_pure (i := 6) #[true, true, true, true, true, true, true, false, false, false, false, false] rfl (by kernel_rfl) (fun _ _ _ h => h) rfl (fun w_ => evP_run (o := ⟨_, _, _, _, _, _⟩) txs rfl) ?_) | (refine d_pure (i := 6) #[true, true, true, true, true, true, true, false, false, false, false, false] rfl (by kernel_rfl) (fun _ _ _ h => h) rfl (fun w_ => (evA_run (o := ⟨_, _, _, _, _, _⟩) txs rfl).trans (by rw [wrap_in (by first | exact in_i64 (by omega) (by omega) | exact in_u8 (by omega) (by omega) | exact in_u64 (by omega) (by omega) | exact in_i32 (by omega) (by omega))])) ?_)
          first | (refine d_pure (i := 7) #[true, true, true, true, true, true, true, true, false, false, false, false] rfl (by kernel_rfl) (fun _ _ _ h => h) rfl (fun w_ => evP_run (o := ⟨_, _, _, _, _, _⟩) txs rfl) ?_)
          first | (refine d_pure (i := 8) #[true, true, true, true, true, true, true, true, true, false, false, false] rfl (by kernel_rfl) (fun _ _ _ h => h) rfl (fun w_ => evP_run (o := ⟨_, _, _, _, _, _⟩) txs rfl) ?_) | (refine d_pure (i := 8) #[true, true, true, true, true, true, true, true, true, false, false, false] rfl (by kernel_rfl) (fun _ _ _ h => h) rfl (fun w_ => (evA_run (o := ⟨_, _, _, _, _, _⟩) txs rfl).trans (by rw [wrap_in (by first | exact in_i64 (by omega) (by omega) | exact in_u8 (by omega) (by omega) | exact in_u64 (by omega) (by omega) | exact in_i32 (by omega) (by omega))])) ?_)
          refine d_one (i := 9) #[true, true, true, true, true, true, true, true, true, true, false, false] rfl (by kernel_rfl) rfl ?_
          refine g_on ?_; ((with_reducible refine g_st ?_); (refine h_stR recs H 4 rfl rfl rfl rfl rfl rfl rfl rfl rfl (fun w_ H => ?_)))
          refine l_nil ?_
          have HS := H.pick [2, 3] [] (by decide) (by decide) rfl rfl
          refine ⟨rfl, HS, ?_⟩
          first | (refine d_pure (i := 10) #[true, true, true, true, true, true, true, true, true, true, true, false] rfl (by kernel_rfl) (fun _ _ _ h => h) rfl (fun w_ => evP_run (o := ⟨_, _, _, _, _, _⟩) txs rfl) ?_)
          first | (refine d_pure (i := 11) #[true, true, true, true, true, true, true, true, true, true, true, true] rfl (by kernel_rfl) (fun _ _ _ h => h) rfl (fun w_ => evP_run (o := ⟨_, _, _, _, _, _⟩) txs rfl) ?_)
          refine d_done rfl ?_
          repeat' (with_reducible first | refine p_tn ?_ | refine wp_ret ?_)
          refine end_ctt recs H 4 rfl rfl rfl rfl rfl rfl rfl ?_
          have e : ((b.length : Int) - (rest.length : Int) + 0) = ((b.length - rest.length + 0 : Nat) : Int) := by omega
          rw [e]
          unfold PqR
          rw [hres]
          exact ⟨Bl, cl, none, 0, rfl, (H.nilRow 5 1).pick [] [1, 0] (by decide) (by decide) rfl rfl⟩
        · repeat' (first | (with_reducible first | refine wp_seq ?_ | refine w_reg ?_) | (with_reducible (refine is_if ?_; (refine w_ift rfl ?_))) | ((with_reducible refine g_on ?_); (first | ((with_reducible refine g_mv ?_); refine l_p txs rfl rfl ?_) | ((with_reducible refine g_fa ?_); refine h_fa flds rfl rfl ?_) | ((with_reducible refine g_ld ?_); (first | (refine h_ld txs H 2 rfl rfl rfl rfl ?_) | (refine h_ldR recs H 0 rfl rfl rfl rfl rfl ?_))))))
          have hbc := body_c (hE.below H.B) (H.old hM) l bl1 (by omega) (framed_of hfm) ((r1 w h).below H.B) r2 r3 hb3 (by omega) minor
          (with_reducible refine is_l ?_); refine l_call rfl rfl (by kernel_rfl) hbc (fun e w_ hR => ?_)
          unfold BdR at hR
          cases hfs : frameS l minor with
          | error k =>
            rw [hfs] at hR
            obtain ⟨v, hv, rfl, K⟩ := hR
            refine ⟨_, rfl, ?_⟩
            have hres := pq_frame hcut hst2 hfe hh hfs
            have H := H.join K
            obtain ⟨_, _, rfl⟩ := errOf_iface hv
            repeat' (first | (with_reducible first | refine p_tn ?_ | refine wp_seq ?_ | refine w_reg ?_ | refine l_nil ?_) | ((with_reducible refine g_on ?_); (first | ((with_reducible refine g_mv ?_); refine l_p txs rfl rfl ?_) | ((with_reducible refine g_as ?_); refine l_p txs rfl rfl ?_) | ((with_reducible refine g_ex ?_); refine l_p txs rfl rfl ?_) | ((with_reducible refine g_fa ?_); refine h_fa flds rfl rfl ?_) | ((with_reducible refine g_st ?_); (refine h_st txs ones H 3 rfl rfl rfl rfl rfl rfl rfl rfl rfl (fun w_ H => ?_))))))
            (with_reducible refine is_l ?_); refine l_t txs rfl rfl (fun _ => ?_) (fun hh => absurd trivial hh)
            repeat' (first | (with_reducible first | refine p_tn ?_ | refine p_tr ?_ | refine wp_seq ?_ | refine w_reg ?_) | (with_reducible (refine is_if ?_; (refine w_ift rfl ?_))) | (with_reducible first | refine wp_ret ?_ | refine l_nil ?_) | ((with_reducible refine g_on ?_); (first | ((with_reducible refine g_mv ?_); refine l_p txs rfl rfl ?_) | ((with_reducible refine g_as ?_); refine l_p txs rfl rfl ?_) | ((with_reducible refine g_ld ?_); (refine h_ldR recs H 3 rfl rfl rfl rfl rfl ?_)) | ((with_reducible refine g_st ?_); (refine h_stR recs H 4 rfl rfl rfl rfl rfl rfl rfl rfl rfl (fun w_ H => ?_))))))
            refine end_ctt recs H 4 rfl rfl rfl rfl rfl rfl rfl ?_
            exact pqR_err hres hv (H.pick [] [] (by decide) (by decide) rfl rfl)
          | ok fr =>
            rw [hfs] at hR
            simp only at hR
            cases hbo : bodyS rest fr with
            | error k =>
              rw [hbo] at hR
              obtain ⟨v, hv, rfl, K⟩ := hR
              refine ⟨_, rfl, ?_⟩
              have hres := pq_body hcut hst2 hfe hh hfs hbo
              have H := H.join K
              obtain ⟨_, _, rfl⟩ := errOf_iface hv
              repeat' (first | (with_reducible first | refine p_tn ?_ | refine wp_seq ?_ | refine w_reg ?_ | refine l_nil ?_) | ((with_reducible refine g_on ?_); (first | ((with_reducible refine g_mv ?_); refine l_p txs rfl rfl ?_) | ((with_reducible refine g_as ?_); refine l_p txs rfl rfl ?_) | ((with_reducible refine g_ex ?_); refine l_p txs rfl rfl ?_) | ((with_reducible refine g_fa ?_); refine h_fa flds rfl rfl ?_) | ((with_reducible refine g_st ?_); (refine h_st txs ones H 3 rfl rfl rfl rfl rfl rfl rfl rfl rfl (fun w_ H => ?_))))))
              (with_reducible refine is_l ?_); refine l_t txs rfl rfl (fun _ => ?_) (fun hh => absurd trivial hh)
              repeat' (first | (with_reducible first | refine p_tn ?_ | refine p_tr ?_ | refine wp_seq ?_ | refine w_reg ?_) | (with_reducible (refine is_if ?_; (refine w_ift rfl ?_))) | (with_reducible first | refine wp_ret ?_ | refine l_nil ?_) | ((with_reducible refine g_on ?_); (first | ((with_reducible refine g_mv ?_); refine l_p txs rfl rfl ?_) | ((with_reducible refine g_as ?_); refine l_p txs rfl rfl ?_) | ((with_reducible refine g_ld ?_); (refine h_ldR recs H 3 rfl rfl rfl rfl rfl ?_)) | ((with_reducible refine g_st ?_); (refine h_stR recs H 4 rfl rfl rfl rfl rfl rfl rfl rfl rfl (fun w_ H => ?_))))))
              refine end_ctt recs H 4 rfl rfl rfl rfl rfl rfl rfl ?_
              exact pqR_err hres hv (H.pick [] [] (by decide) (by decide) rfl rfl)
            | ok z =>
              obtain ⟨bd, k⟩ := z
              rw [hbo] at hR
              obtain ⟨Bb, cb, rfl, K⟩ := hR
              refine ⟨_, rfl, ?_⟩
              have hres := pq_ok hcut hst2 hfe hh hfs hbo
              have hkl := bodyS_le hbo
              have H := (H.join K).pick [0, 1, 2, 3, 4] [0, 1] (by decide) (by decide) rfl rfl
              repeat' (first | (with_reducible first | refine p_tn ?_ | refine wp_seq ?_ | refine w_reg ?_ | refine l_nil ?_) | ((with_reducible refine g_on ?_); (first | ((with_reducible refine g_mv ?_); refine l_p txs rfl rfl ?_) | ((with_reducible refine g_as ?_); refine l_p txs rfl rfl ?_) | ((with_reducible refine g_ex ?_); refine l_p txs rfl rfl ?_) | ((with_reducible refine g_fa ?_); refine h_fa flds rfl rfl ?_) | ((with_reducible refine g_st ?_); (refine h_st txs ones H 3 rfl rfl rfl rfl rfl rfl rfl rfl rfl (fun w_ H => ?_))))))
              (with_reducible refine is_l ?_); refine l_t txs rfl rfl (fun hh => absurd hh (by simp)) (fun _ => ?_)
              repeat' (first | (with_reducible first | refine p_tn ?_ | refine wp_seq ?_) | (with_reducible (refine is_if ?_; (refine w_iff rfl ?_))) | (with_reducible first | refine wp_skip ?_ | refine l_nil ?_))
              have HS := H.pick [0, 1, 2] [] (by decide) (by decide) rfl rfl
              refine d_start (fun w_ => Hp w w_ _ _) #[false, false, false, false, false, false, false, false, false, false, false, false, false, false, false, false, false, false, false, false, false] (by kernel_rfl) rfl rfl HS.drew ?_
              have H := H.drew
              have HS := HS.drew
              first | (refine d_pure (i := 0) #[true, false, false, false, false, false, false, false, false, false, false, false, false, false, false, false, false, false, false, false, false] rfl (by kernel_rfl) (fun _ _ _ h => h) rfl (fun w_ => evP_run (o := ⟨_, _, _, _, _, _⟩) txs rfl) ?_)
              first | (refine d_pure (i := 1) #[true, true, false, false, false, false, false, false, false, false, false, false, false, false, false, false, false, false, false, false, false] rfl (by kernel_rfl) (fun _ _ _ h => h) rfl (fun w_ => evIA_run (o := ⟨_, _, _, _, _, _⟩) txs rfl (by omega) (by omega)) ?_)
              first | (refine d_take (i := 2) #[true, true, true, false, false, false, false, false, false, false, false, false, false, false, false, false, false, false, false, false, false] rfl (by kernel_rfl) (fun _ _ _ h => h) rfl (fun w_ K => evL_run (o := ⟨_, _, _, _, _, _⟩) txs rfl (K.cellAt 0 rfl rfl)) HS ?_) | (refine d_take (i := 2) #[true, true, true, false, false, false, false, false, false, false, false, false, false, false, false, false, false, false, false, false, false] rfl (by kernel_rfl) (fun _ _ _ h => h) rfl (fun w_ K => evL_run (o := ⟨_, _, _, _, _, _⟩) txs rfl (K.cellAt 1 rfl rfl)) HS ?_) | (refine d_take (i := 2) #[true, true, true, false, false, false, false, false, false, false, false, false, false, false, false, false, false, false, false, false, false] rfl (by kernel_rfl) (fun _ _ _ h => h) rfl (fun w_ K => evL_run (o := ⟨_, _, _, _, _, _⟩) txs rfl (K.cellAt 2 rfl rfl)) HS ?_)
              first | (refine d_pure (i := 3) #[true, true, true, true, false, false, false, false, false, false, false, false, false, false, false, false, false, false, false, false, false] rfl (by kernel_rfl) (fun _ _ _ h => h) rfl (fun w_ => evP_run (o := ⟨_, _, _, _, _, _⟩) txs rfl) ?_)
              first | (refine d_pure (i := 4) #[true, true, true, true, true, false, false, false, false, false, false, false, false, false, false, false, false, false, false, false, false] rfl (by kernel_rfl) (fun _ _ _ h => h) rfl (fun w_ => evIA_run (o := ⟨_, _, _, _, _, _⟩) txs rfl (by omega) (by omega)) ?_)
              first | (refine d_take (i := 5) #[true, true, true, true, true, true, false, false, false, false, false, false, false, false, false, false, false, false, false, false, false] rfl (by kernel_rfl) (fun _ _ _ h => h) rfl (fun w_ K => evL_run (o := ⟨_, _, _, _, _, _⟩) txs rfl (K.cellAt 0 rfl rfl)) HS ?_) | (refine d_take (i := 5) #[true, true, true, true, true, true, false, false, false, false, false, false, false, false, false, false, false, false, false, false, false] rfl (by kernel_rfl) (fun _ _ _ h => h) rfl (fun w_ K => evL_run (o := ⟨_, _, _, _, _, _⟩) txs rfl (K.cellAt 1 rfl rfl)) HS ?_) | (refine d_take (i := 5) #[true, true, true, true, true, true, false, false, false, false, false, false, false, false, false, false, false, false, false, false, false] rfl (by kernel_rfl) (fun _ _ _ h => h) rfl (fun w_ K => evL_run (o := ⟨_, _, _, _, _, _⟩) txs rfl (K.cellAt 2 rfl rfl)) HS ?_)
              first | (refine d_pure (i := 6) #[true, true, true, true, true, true, true, false, false, false, false, false, false, false, false, false, false, false, false, false, false] rfl (by kernel_rfl) (fun _ _ _ h => h) rfl (fun w_ => evP_run (o := ⟨_, _, _, _, _, _⟩) txs rfl) ?_)
              first | (refine d_pure (i := 7) #[true, true, true, true, true, true, true, true, false, false, false, false, false, false, false, false, false, false, false, false, false] rfl (by kernel_rfl) (fun _ _ _ h => h) rfl (fun w_ => evP_run (o := ⟨_, _, _, _, _, _⟩) txs rfl) ?_)
              first | (refine d_take (i := 8) #[true, true, true, true, true, true, true, true, true, false, false, false, false, false, false, false, false, false, false, false, false] rfl (by kernel_rfl) (fun _ _ _ h => h) rfl (fun w_ K => evLR_run (o := ⟨_, _, _, _, _, _⟩) recs rfl rfl (K.range 0 rfl) rfl) HS ?_) | (refine d_take (i := 8) #[true, true, true, true, true, true, true, true, true, false, false, false, false, false, false, false, false, false, false, false, false] rfl (by kernel_rfl) (fun _ _ _ h => h) rfl (fun w_ K => evLR_run (o := ⟨_, _, _, _, _, _⟩) recs rfl rfl (K.range 1 rfl) rfl) HS ?_) | (refine d_take (i := 8) #[true, true, true, true, true, true, true, true, true, false, false, false, false, false, false, false, false, false, false, false, false] rfl (by kernel_rfl) (fun _ _ _ h => h) rfl (fun w_ K => evLR_run (o := ⟨_, _, _, _, _, _⟩) recs rfl rfl (K.range 2 rfl) rfl) HS ?_)
              first | (refine d_pure (i := 9) #[true, true, true, true, true, true, true, true, true, true, false, false, false, false, false, false, false, false, false, false, false] rfl (by kernel_rfl) (fun _ _ _ h => h) rfl (fun w_ => evP_run (o := ⟨_, _, _, _, _, _⟩) txs rfl) ?_)
              first | (refine d_pure (i := 11) #[true, true, true, true, true, true, true, true, true, true, false, true, false, false, false, false, false, false, false, false, false] rfl (by kernel_rfl) (fun _ _ _ h => h) rfl (fun w_ => evF_run (o := ⟨_, _, _, _, _, _⟩) flds rfl) ?_) | (refine d_pure (i := 11) #[true, true, true, true, true, true, true, true, true, true, false, true, false, false, false, false, false, false, false, false, false] rfl (by kernel_rfl) (fun _ _ _ h => h) rfl (fun w_ => evG_run (o := ⟨_, _, _, _, _, _⟩) flds rfl) ?_)
              refine d_one (i := 10) #[true, true, true, true, true, true, true, true, true, true, true, true, false, false, false, false, false, false, false, false, false] rfl (by kernel_rfl) rfl ?_
              refine l_callv rfl rfl (by kernel_rfl) hclo (fun w_ K => ?_); have H := H.call K
              refine l_nil ?_
              have HS := H.pick [0, 1, 2] [] (by decide) (by decide) rfl rfl
              refine ⟨rfl, HS, ?_⟩
              refine d_one (i := 12) #[true, true, true, true, true, true, true, true, true, true, true, true, true, false, false, false, false, false, false, false, false] rfl (by kernel_rfl) rfl ?_
              refine g_on ?_; ((with_reducible refine g_st ?_); (refine h_st txs ones H 3 rfl rfl rfl rfl rfl rfl rfl rfl rfl (fun w_ H => ?_)))
              refine l_nil ?_
              have HS := H.pick [0, 1, 2] [] (by decide) (by decide) rfl rfl
              refine ⟨rfl, HS, ?_⟩
              first | (refine d_pure (i := 13) #[true, true, true, true, true, true, true, true, true, true, true, true, true, true, false, false, false, false, false, false, false] rfl (by kernel_rfl) (fun _ _ _ h => h) rfl (fun w_ => evF_run (o := ⟨_, _, _, _, _, _⟩) flds rfl) ?_) | (refine d_pure (i := 13) #[true, true, true, true, true, true, true, true, true, true, true, true, true, true, false, false, false, false, false, false, false] rfl (by kernel_rfl) (fun _ _ _ h => h) rfl (fun w_ => evG_run (o := ⟨_, _, _, _, _, _⟩) flds rfl) ?_)
              refine d_one (i := 14) #[true, true, true, true, true, true, true, true, true, true, true, true, true, true, true, false, false, false, false, false, false] rfl (by kernel_rfl) rfl ?_
              refine g_on ?_; ((with_reducible refine g_st ?_); (refine h_st txs ones H 3 rfl rfl rfl rfl rfl rfl rfl rfl rfl (fun w_ H => ?_)))
              refine l_nil ?_
              have HS := H.pick [0, 1, 2] [] (by decide) (by decide) rfl rfl
              refine ⟨rfl, HS, ?_⟩
              first | (refine d_pure (i := 15) #[true, true, true, true, true, true, true, true, true, true, true, true, true, true, true, true, false, false, false, false, false] rfl (by kernel_rfl) (fun _ _ _ h => h) rfl (fun w_ => evF_run (o := ⟨_, _, _, _, _, _⟩) flds rfl) ?_) | (refine d_pure (i := 15) #[true, true, true, true, true, true, true, true, true, true, true, true, true, true, true, true, false, false, false, false, false] rfl (by kernel_rfl) (fun _ _ _ h => h) rfl (fun w_ => evG_run (o := ⟨_, _, _, _, _, _⟩) flds rfl) ?_)
              refine d_one (i := 16) #[true, true, true, true, true, true, true, true, true, true, true, true, true, true, true, true, true, false, false, false, false] rfl (by kernel_rfl) rfl ?_
              refine g_on ?_; ((with_reducible refine g_st ?_); (refine h_st txs ones H 3 rfl rfl rfl rfl rfl rfl rfl rfl rfl (fun w_ H => ?_)))
              refine l_nil ?_
              have HS := H.pick [0, 1, 2] [] (by decide) (by decide) rfl rfl
              refine ⟨rfl, HS, ?_⟩
              first | (refine d_pure (i := 17) #[true, true, true, true, true, true, true, true, true, true, true, true, true, true, true, true, true, true, false, false, false] rfl (by kernel_rfl) (fun _ _ _ h => h) rfl (fun w_ => evF_run (o := ⟨_, _, _, _, _, _⟩) flds rfl) ?_) | (refine d_pure (i := 17) #[true, true, true, true, true, true, true, true, true, true, true, true, true, true, true, true, true, true, false, false, false] rfl (by kernel_rfl) (fun _ _ _ h => h) rfl (fun w_ => evG_run (o := ⟨_, _, _, _, _, _⟩) flds rfl) ?_)
              refine d_one (i := 18) #[true, true, true, true, true, true, true, true, true, true, true, true, true, true, true, true, true, true, true, false, false] rfl (by kernel_rfl) rfl ?_
              refine g_on ?_; ((with_reducible refine g_st ?_); (refine h_st txs ones H 3 rfl rfl rfl rfl rfl rfl rfl rfl rfl (fun w_ H => ?_)))
              refine l_nil ?_
              have HS := H.pick [0, 1, 2] [] (by decide) (by decide) rfl rfl
              refine ⟨rfl, HS, ?_⟩
              first | (refine d_pure (i := 19) #[true, true, true, true, true, true, true, true, true, true, true, true, true, true, true, true, true, true, true, true, false] rfl (by kernel_rfl) (fun _ _ _ h => h) rfl (fun w_ => evF_run (o := ⟨_, _, _, _, _, _⟩) flds rfl) ?_) | (refine d_pure (i := 19) #[true, true, true, true, true, true, true, true, true, true, true, true, true, true, true, true, true, true, true, true, false] rfl (by kernel_rfl) (fun _ _ _ h => h) rfl (fun w_ => evG_run (o := ⟨_, _, _, _, _, _⟩) flds rfl) ?_)
              refine d_one (i := 20) #[true, true, true, true, true, true, true, true, true, true, true, true, true, true, true, true, true, true, true, true, true] rfl (by kernel_rfl) rfl ?_
              refine g_on ?_; ((with_reducible refine g_st ?_); (refine h_st txs ones H 3 rfl rfl rfl rfl rfl rfl rfl rfl rfl (fun w_ H => ?_)))
              refine l_nil ?_
              have HS := H.pick [0, 1, 2] [] (by decide) (by decide) rfl rfl
              refine ⟨rfl, HS, ?_⟩
              refine d_done rfl ?_
              repeat' (with_reducible first | refine p_tn ?_ | refine wp_seq ?_)
              have HS := H.pick [2, 3] [] (by decide) (by decide) rfl rfl
              refine d_start (fun w_ => Hp w w_ _ _) #[false, false, false, false, false, false, false, false, false, false, false, false] (by kernel_rfl) rfl rfl HS.drew ?_
              have H := H.drew
              have HS := HS.drew
              first | (refine d_take (i := 0) #[true, false, false, false, false, false, false, false, false, false, false, false] rfl (by kernel_rfl) (fun _ _ _ h => h) rfl (fun w_ K => evLR_run (o := ⟨_, _, _, _, _, _⟩) recs rfl rfl (K.range 0 rfl) rfl) HS ?_) | (refine d_take (i := 0) #[true, false, false, false, false, false, false, false, false, false, false, false] rfl (by kernel_rfl) (fun _ _ _ h => h) rfl (fun w_ K => evLR_run (o := ⟨_, _, _, _, _, _⟩) recs rfl rfl (K.range 1 rfl) rfl) HS ?_)
              first | (refine d_pure (i := 1) #[true, true, false, false, false, false, false, false, false, false, false, false] rfl (by kernel_rfl) (fun _ _ _ h => h) rfl (fun w_ => evP_run (o := ⟨_, _, _, _, _, _⟩) txs rfl) ?_)
              first | (refine d_pure (i := 2) #[true, true, true, false, false, false, false, false, false, false, false, false] rfl (by kernel_rfl) (fun _ _ _ h => h) rfl (fun w_ => evP_run (o := ⟨_, _, _, _, _, _⟩) txs rfl) ?_)
              first | (refine d_pure (i := 3) #[true, true, true, true, false, false, false, false, false, false, false, false] rfl (by kernel_rfl) (fun _ _ _ h => h) rfl (fun w_ => evF_run (o := ⟨_, _, _, _, _, _⟩) flds rfl) ?_) | (refine d_pure (i := 3) #[true, true, true, true, false, false, false, false, false, false, false, false] rfl (by kernel_rfl) (fun _ _ _ h => h) rfl (fun w_ => evG_run (o := ⟨_, _, _, _, _, _⟩) flds rfl) ?_)
              first | (refine d_take (i := 4) #[true, true, true, true, true, false, false, false, false, false, false, false] rfl (by kernel_rfl) (fun _ _ _ h => h) rfl (fun w_ K => evL_run (o := ⟨_, _, _, _, _, _⟩) txs rfl (K.cellAt 0 rfl rfl)) HS ?_) | (refine d_take (i := 4) #[true, true, true, true, true, false, false, false, false, false, false, false] rfl (by kernel_rfl) (fun _ _ _ h => h) rfl (fun w_ K => evL_run (o := ⟨_, _, _, _, _, _⟩) txs rfl (K.cellAt 1 rfl rfl)) HS ?_)
              first | (refine d_pure (i := 5) #[true, true, true, true, true, true, false, false, false, false, false, false] rfl (by kernel_rfl) (fun _ _ _ h => h) rfl (fun w_ => evP_run (o := ⟨_, _, _, _, _, _⟩) txs rfl) ?_)
              first | (refine d_pure (i := 6) #[true, true, true, true, true, true, true, false, false, false, false, false] rfl (by kernel_rfl) (fun _ _ _ h => h) rfl (fun w_ => evP_run (o := ⟨_, _, _, _, _, _⟩) txs rfl) ?_) | (refine d_pure (i := 6) #[true, true, true, true, true, true, true, false, false, false, false, false] rfl (by kernel_rfl) (fun _ _ _ h => h) rfl (fun w_ => (evA_run (o := ⟨_, _, _, _, _, _⟩) txs rfl).trans (by rw [wrap_in (by first | exact in_i64 (by omega) (by omega) | exact in_u8 (by omega) (by omega) | exact in_u64 (by omega) (by omega) | exact in_i32 (by omega) (by omega))])) ?_)
              first | (refine d_pure (i := 7) #[true, true, true, true, true, true, true, true, false, false, false, false] rfl (by kernel_rfl) (fun _ _ _ h => h) rfl (fun w_ => evP_run (o := ⟨_, _, _, _, _, _⟩) txs rfl) ?_)
              first | (refine d_pure (i := 8) #[true, true, true, true, true, true, true, true, true, false, false, false] rfl (by kernel_rfl) (fun _ _ _ h => h) rfl (fun w_ => evP_run (o := ⟨_, _, _, _, _, _⟩) txs rfl) ?_) | (refine d_pure (i := 8) #[true, true, true, true, true, true, true, true, true, false, false, false] rfl (by kernel_rfl) (fun _ _ _ h => h) rfl (fun w_ => (evA_run (o := ⟨_, _, _, _, _, _⟩) txs rfl).trans (by rw [wrap_in (by first | exact in_i64 (by omega) (by omega) | exact in_u8 (by omega) (by omega) | exact in_u64 (by omega) (by omega) | exact in_i32 (by omega) (by omega))])) ?_)
              refine d_one (i := 9) #[true, true, true, true, true, true, true, true, true, true, false, false] rfl (by kernel_rfl) rfl ?_
              refine g_on ?_; ((with_reducible refine g_st ?_); (refine h_stR recs H 4 rfl rfl rfl rfl rfl rfl rfl rfl rfl (fun w_ H => ?_)))
              refine l_nil ?_
              have HS := H.pick [2, 3] [] (by decide) (by decide) rfl rfl
              refine ⟨rfl, HS, ?_⟩
              first | (refine d_pure (i := 10) #[true, true, true, true, true, true, true, true, true, true, true, false] rfl (by kernel_rfl) (fun _ _ _ h => h) rfl (fun w_ => evP_run (o := ⟨_, _, _, _, _, _⟩) txs rfl) ?_)
              first | (refine d_pure (i := 11) #[true, true, true, true, true, true, true, true, true, true, true, true] rfl (by kernel_rfl) (fun _ _ _ h => h) rfl (fun w_ => evP_run (o := ⟨_, _, _, _, _, _⟩) txs rfl) ?_)
              refine d_done rfl ?_
              repeat' (with_reducible first | refine p_tn ?_ | refine wp_ret ?_)
              refine end_ctt recs H 4 rfl rfl rfl rfl rfl rfl rfl ?_
              have e : ((b.length : Int) - (rest.length : Int) + (k : Int)) = ((b.length - rest.length + k : Nat) : Int) := by omega
              rw [e]
              unfold PqR
              rw [hres]
              exact ⟨Bl, cl, Bb, cb, rfl, H.pick [] [1, 0] (by decide) (by decide) rfl rfl⟩
end Go.Proofs.YthgojbdpmcccaaaGreatDoor.K
end
section
namespace Go.Proofs.YthgojbdpmcccaaaGreatDoor.K
open Go.RowKit Go.Proofs.YthgojbdpmcccaaaGreatDoor.Q Go.Proofs.YthgojbdpmcccaaaGreatDoor.Wb Go.Proofs.YthgojbdpmcccaaaGreatDoorW.PrintWords
set_option linter.unusedVariables false
set_option linter.unusedSimpArgs false
theorem built_zReq : Tryz.prog.built 29 [] = some zReq := by kernel_rfl
def PrR (w : World) (b : L) (e : Ending) (w' : World) : Prop := match parseReqS b with
  | .error k => e = .returned (.tuple #[.agg zReq, .int .i64 0, .int .i64 (k : Int)]) ∧ Hp w w' [] []
  | .ok (r, n) => ∃ Bf cf Bb cb, e = .returned (.tuple #[.agg (reqA r Bf cf Bb cb), .int .i64 (n : Int), .int .i64 0]) ∧ Hp w w' [] [rowF (.slice Bf r.fields.length cf) r.fields, rowB (.slice Bb r.body.length cb) r.body]
set_option maxHeartbeats 4000000 in
theorem ParseRequest_c {A : Nat → Addr} {w : World} (hE : LayS A w) {mx : Int} (hM : w.cell? ⟨20, 0, none⟩ = some (.int .i64 mx)) {tM : TypeId} {frM : Nat × Nat} (hT : w.heap[17]? = some (.cells meC tM frM))
    {B : Option Addr} {c : Nat} {b : L} (h : ReadsInt w .u8 B b.length b) (hc : b.length ≤ c) (hn : B = none → c = 0 ∧ b.length = 0) (hb : Bytes b) (hs : b.length ≤ 2000000000000) :
    Calls Tryz.prog 16 #[.slice B b.length c] w (PrR w b) := by
  have hTb : ∀ w1, Below w.heap.size w w1 → w1.heap[17]? = some (.cells meC tM frM) := fun w1 K => (K.block _ (blk_lt hT)).trans hT
  refine enter (args := [.slice B b.length c]) Tryz.func16 rfl Tryz.ntmps16 rfl ?_
  have H := Hp.nil w
  repeat' (first | (with_reducible first | refine p_tn ?_ | refine wp_seq ?_ | refine w_reg ?_ | refine l_nil ?_) | ((with_reducible refine g_on ?_); (first | ((with_reducible refine g_mv ?_); refine l_p txs rfl rfl ?_) | ((with_reducible refine g_as ?_); refine l_p txs rfl rfl ?_) | ((with_reducible refine g_al ?_); refine h_alloc recs H rfl rfl (fun g_ w_ H => ?_)))))
  have hcall := parseRequest_c (hE.below H.B) (H.old hM) (hTb _ H.B) (h.below H.B) hc hn hb hs
  (with_reducible refine is_l ?_); refine l_call rfl rfl (by kernel_rfl) hcall (fun e w_ hR => ?_)
  unfold PqR at hR
  cases hp : parseReqS b with
  | error k =>
    rw [hp] at hR
    obtain ⟨v, hv, rfl, K⟩ := hR
    refine ⟨_, rfl, ?_⟩
    have H := H.join K
    obtain ⟨tv, uv, rfl⟩ := errOf_iface hv
    repeat' (first | (with_reducible first | refine p_tn ?_ | refine wp_seq ?_ | refine w_reg ?_ | refine l_nil ?_) | ((with_reducible refine g_on ?_); (first | ((with_reducible refine g_mv ?_); refine l_p txs rfl rfl ?_) | ((with_reducible refine g_as ?_); refine l_p txs rfl rfl ?_) | ((with_reducible refine g_ex ?_); refine l_p txs rfl rfl ?_) | ((with_reducible refine g_st ?_); (refine h_stR recs H 0 rfl rfl rfl rfl rfl rfl rfl rfl rfl (fun w_ H => ?_))) | ((with_reducible refine g_al ?_); refine h_alloc recs H rfl rfl (fun g_ w_ H => ?_)))))
    (with_reducible refine is_l ?_); refine l_t txs rfl rfl (fun _ => ?_) (fun hh => absurd trivial hh)
    repeat' (first | (with_reducible first | refine p_tn ?_ | refine wp_seq ?_ | refine w_reg ?_) | (with_reducible (refine is_if ?_; (refine w_ift rfl ?_))) | (with_reducible refine l_nil ?_))
    (with_reducible refine is_l ?_); refine h_bld rfl rfl built_zReq ?_
    repeat' ((with_reducible refine g_on ?_); ((with_reducible refine g_mv ?_); refine l_p txs rfl rfl ?_))
    (with_reducible refine is_l ?_); refine l_callv rfl rfl (by kernel_rfl) (errOf_c (hE.below H.B) hv) (fun w_ K => ?_)
    have H := H.call K
    repeat' (first | (with_reducible first | refine p_tn ?_ | refine p_tr ?_ | refine wp_ret ?_ | refine l_nil ?_) | ((with_reducible refine g_on ?_); (first | ((with_reducible refine g_as ?_); refine l_p txs rfl rfl ?_) | ((with_reducible refine g_st ?_); (refine h_stR recs H 1 rfl rfl rfl rfl rfl rfl rfl rfl rfl (fun w_ H => ?_))))))
    refine end_ctt recs H 1 rfl rfl rfl rfl rfl rfl rfl ?_
    unfold PrR
    rw [hp]
    exact ⟨rfl, H.pick [] [] (by decide) (by decide) rfl rfl⟩
  | ok z =>
    obtain ⟨r, n⟩ := z
    rw [hp] at hR
    obtain ⟨Bf, cf, Bb, cb, rfl, K⟩ := hR
    refine ⟨_, rfl, ?_⟩
    have H := H.join K
    repeat' (first | (with_reducible first | refine p_tn ?_ | refine wp_seq ?_ | refine w_reg ?_ | refine l_nil ?_) | ((with_reducible refine g_on ?_); (first | ((with_reducible refine g_mv ?_); refine l_p txs rfl rfl ?_) | ((with_reducible refine g_as ?_); refine l_p txs rfl rfl ?_) | ((with_reducible refine g_ex ?_); refine l_p txs rfl rfl ?_) | ((with_reducible refine g_st ?_); (refine h_stR recs H 0 rfl rfl rfl rfl rfl rfl rfl rfl rfl (fun w_ H => ?_))) | ((with_reducible refine g_al ?_); refine h_alloc recs H rfl rfl (fun g_ w_ H => ?_)))))
    (with_reducible refine is_l ?_); refine l_t txs rfl rfl (fun hh => absurd hh (by simp)) (fun _ => ?_)
    repeat' (first | (with_reducible first | refine p_tn ?_ | refine wp_seq ?_ | refine w_reg ?_) | (with_reducible (refine is_if ?_; (refine w_iff rfl ?_))) | (with_reducible first | refine wp_skip ?_ | refine wp_ret ?_ | refine l_nil ?_) | ((with_reducible refine g_on ?_); (first | ((with_reducible refine g_mv ?_); refine l_p txs rfl rfl ?_) | ((with_reducible refine g_as ?_); refine l_p txs rfl rfl ?_) | ((with_reducible refine g_ld ?_); (refine h_ldR recs H 0 rfl rfl rfl rfl rfl ?_)) | ((with_reducible refine g_st ?_); (refine h_stR recs H 1 rfl rfl rfl rfl rfl rfl rfl rfl rfl (fun w_ H => ?_))))))
    refine end_ctt recs H 1 rfl rfl rfl rfl rfl rfl rfl ?_
    unfold PrR
    rw [hp]
    exact ⟨Bf, cf, Bb, cb, rfl, H.pick [] [0, 1] (by decide) (by decide) rfl rfl⟩
theorem bodiless_c (st : Int) (w : World) : Calls Tryz.prog 64 #[.int .i64 st] w fun e w' => e = .returned (.bool (bareS st)) ∧ w' = w := by
  refine enter (args := [.int .i64 st]) Tryz.func64 rfl Tryz.ntmps64 rfl ?_
  repeat' (first | (with_reducible first | refine p_tn ?_ | refine wp_seq ?_ | refine w_reg ?_ | refine wp_ret ?_ | refine l_nil ?_) | (with_reducible (refine is_l ?_; (first | (refine l_off rfl ?_) | (refine l_p tys rfl rfl ?_) | (refine l_t tys rfl rfl (fun _ => ?_) (fun _ => ?_))))))
  all_goals (refine end1 rfl rfl ?_; exact ⟨by simp [bareS, *], rfl⟩)
end Go.Proofs.YthgojbdpmcccaaaGreatDoor.K
end
section
namespace Go.Proofs.YthgojbdpmcccaaaGreatDoor.K
open Go.RowKit Go.Proofs.YthgojbdpmcccaaaGreatDoor.Q Go.Proofs.YthgojbdpmcccaaaGreatDoor.Wb Go.Proofs.YthgojbdpmcccaaaGreatDoorW.PrintWords
set_option linter.unusedVariables false
set_option linter.unusedSimpArgs false
abbrev resA (r : ResS) (Bf : Option Addr) (cf : Nat) (Bb : Option Addr) (cb : Nat) : Array Value := #[.int .i64 r.status, .int .i64 r.minor, .slice Bf r.fields.length cf, .slice Bb r.body.length cb, .bool r.close]
end Go.Proofs.YthgojbdpmcccaaaGreatDoor.K
end
section
namespace Go.Proofs.YthgojbdpmcccaaaGreatDoor.K
open Go.RowKit Go.Proofs.YthgojbdpmcccaaaGreatDoor.Q Go.Proofs.YthgojbdpmcccaaaGreatDoor.Wb Go.Proofs.YthgojbdpmcccaaaGreatDoorW.PrintWords
set_option linter.unusedVariables false
set_option linter.unusedSimpArgs false
theorem fld_part {w : World} {ad : Addr} {l : List Fld} (h : Rd w (some ad) (fldC l)) {i : Nat} {x : Fld} (hx : l[i]? = some x) : ∀ (j : Nat) (v : Value), [Value.string (strOfNums x.1), .string (strOfNums x.2)][j]? = some v → w.cell? ((ad.add (i * 2)).add j) = some v := by
  obtain ⟨at1, at2⟩ := fldC_at hx
  refine h.part (i * 2) (vs := [Value.string (strOfNums x.1), .string (strOfNums x.2)]) ?_
  intro j v hj
  match j, hj with
  | 0, hj => simp only [List.getElem?_cons_zero, Option.some.injEq] at hj; subst hj; exact at1
  | 1, hj => simp only [List.getElem?_cons_succ, List.getElem?_cons_zero, Option.some.injEq] at hj; subst hj; exact at2
  | j + 2, hj => simp at hj
theorem rd_some {w : World} {B : Option Addr} {l : List Fld} (h : Rd w B (fldC l)) {i : Nat} (hi : i < l.length) : ∃ ad, B = some ad := by
  cases B with
  | none =>
    have := congrArg List.length (h.1 rfl)
    rw [fldC_len] at this
    simp only [List.length_nil] at this
    omega
  | some ad => exact ⟨ad, rfl⟩
end Go.Proofs.YthgojbdpmcccaaaGreatDoor.K
end
section
namespace Go.Proofs.YthgojbdpmcccaaaGreatDoor.K
open Go.RowKit Go.Proofs.YthgojbdpmcccaaaGreatDoor.Q Go.Proofs.YthgojbdpmcccaaaGreatDoor.Wb Go.Proofs.YthgojbdpmcccaaaGreatDoorW.PrintWords
set_option linter.unusedVariables false
set_option linter.unusedSimpArgs false
def padN (pad : Int) : Nat := if pad < 1100000 then pad.toNat else 1100000
def padS (b : L) (pad : Int) : L := b ++ List.replicate (padN pad) 120
set_option maxHeartbeats 4000000 in
theorem padded_c {w : World} {B : Option Addr} {c : Nat} {b : L} (h : ReadsInt w .u8 B b.length b) (pad : Int) (hs : b.length ≤ 1000000000) :
    Calls Tryz.prog 20 #[.slice B b.length c, .int .i64 pad] w fun e w' => ∃ A1 c1, e = .returned (.slice A1 (padS b pad).length c1) ∧ Hp w w' [] [rowB (.slice A1 (padS b pad).length c1) (padS b pad)] := by
  refine enter (args := [.slice B b.length c, .int .i64 pad]) Tryz.func20 rfl Tryz.ntmps20 rfl ?_
  have H := (Hp.nil w).nilRow 5 1
  repeat' (first | (with_reducible first | refine p_tn ?_ | refine wp_seq ?_ | refine w_reg ?_ | refine l_nil ?_) | ((with_reducible refine g_on ?_); (first | ((with_reducible refine g_mv ?_); refine l_p txs rfl rfl ?_) | ((with_reducible refine g_as ?_); refine l_p txs rfl rfl ?_))))
  (with_reducible refine is_l ?_); refine h_app H 0 rfl info_u8 Tryz.underlying23 rfl rfl rfl rfl (rd_of_reads (h.below H.B)) (by simp [nums]) (by simp [nums, List.all_map]; intros; rfl) (by show (0 + b.length) * 1 ≤ _; omega) (fun v w_ hv H => ?_)
  obtain ⟨A1, c1, rfl⟩ := hv
  have H := H.pick [] [0] (by decide) (by decide) rfl rfl
  simp only [Nat.zero_add, List.nil_append] at H
  rw [Nat.zero_add]
  repeat' (first | (with_reducible first | refine p_tn ?_ | refine wp_seq ?_ | refine wp_block ?_ | refine w_reg ?_ | refine l_nil ?_) | ((with_reducible refine g_on ?_); ((with_reducible refine g_as ?_); refine l_p txs rfl rfl ?_)))
  refine w_loop (σ := Nat × Option Addr × Nat) (S := fun s => [(1, .int .i64 pad), (5, .slice s.2.1 (b ++ List.replicate s.1 120).length s.2.2), (6, .int .i64 (s.1 : Int))])
    (J := fun s w' => Hp w w' [] [rowB (.slice s.2.1 (b ++ List.replicate s.1 120).length s.2.2) (b ++ List.replicate s.1 120)] ∧ s.1 ≤ padN pad) (μ := fun s => padN pad - s.1) (0, A1, c1) ⟨rfl, by show Value.slice A1 b.length c1 = _; simp, rfl, trivial⟩ ⟨by simpa using H, by omega⟩ ?_
  rintro ⟨k, A2, c2⟩ f w_ ⟨H, hk⟩
  simp only at H hk ⊢
  have hp : padN pad ≤ 1100000 := by unfold padN; split <;> omega
  have fin : padN pad ≤ k → ∃ A1' c1', Value.slice A2 (b ++ List.replicate k 120).length c2 = Value.slice A1' (padS b pad).length c1' ∧ Hp w w_ [] [rowB (.slice A1' (padS b pad).length c1') (padS b pad)] := by
    intro hle
    have : k = padN pad := by omega
    subst this
    exact ⟨A2, c2, rfl, H⟩
  repeat' (first | (with_reducible first | refine wp_seq ?_ | refine w_reg ?_) | ((with_reducible refine g_on ?_); ((with_reducible refine g_mv ?_); refine l_p txs rfl rfl ?_)))
  (with_reducible refine is_l ?_); refine l_t txs rfl rfl (fun h1 => ?_) (fun h1 => ?_)
  · repeat' (first | ((with_reducible refine g_on ?_); ((with_reducible refine g_mv ?_); refine l_p txs rfl rfl ?_)) | ((with_reducible refine g_if ?_); ((with_reducible refine g_mv ?_); refine l_p txs rfl rfl ?_)))
    (with_reducible refine is_l ?_); refine l_t txs rfl rfl (fun h2 => ?_) (fun h2 => ?_)
    · have hlt : k < padN pad := by unfold padN; split <;> omega
      have hlen : (b ++ List.replicate k (120 : Int)).length = b.length + k := by simp
      repeat' (first | (with_reducible first | refine p_tn ?_ | refine wp_seq ?_ | refine wp_block ?_ | refine w_reg ?_) | (with_reducible (refine is_if ?_; (refine w_ift rfl ?_))) | (with_reducible first | refine wp_skip ?_ | refine l_nil ?_) | ((with_reducible refine g_on ?_); (first | ((with_reducible refine g_mv ?_); refine l_p txs rfl rfl ?_) | ((with_reducible refine g_pk ?_); refine l_p txs rfl rfl ?_))))
      (with_reducible refine is_l ?_); refine h_bs H info_u8 Tryz.underlying23 (by decide) (by decide) rfl rfl (by kernel_rfl) (fun g_ w_ H => ?_)
      (with_reducible refine is_l ?_); refine h_app H 0 rfl info_u8 Tryz.underlying23 rfl rfl rfl rfl (H.cellRd 0 rfl) rfl rfl (by show ((b ++ List.replicate k (120 : Int)).length + 1) * 1 ≤ _; omega) (fun v w_ hv H => ?_)
      obtain ⟨A', c', rfl⟩ := hv
      have e1 : b ++ List.replicate (k + 1) (120 : Int) = (b ++ List.replicate k 120) ++ [120] := by rw [List.append_assoc, List.replicate_succ']
      have e2 : (b ++ List.replicate (k + 1) (120 : Int)).length = (b ++ List.replicate k (120 : Int)).length + 1 := by simp; omega
      have H := H.pick [] [0] (by decide) (by decide) rfl rfl
      repeat' (first | (with_reducible first | refine p_tn ?_ | refine p_bn ?_ | refine w_reg ?_ | refine l_nil ?_) | ((with_reducible refine g_on ?_); (first | ((with_reducible refine g_mv ?_); refine l_p txs rfl rfl ?_) | ((with_reducible refine g_as ?_); refine l_p txs rfl rfl ?_) | ((with_reducible refine g_bi ?_); (refine l_a txs rfl rfl (by first | exact in_i64 (by omega) (by omega) | exact in_u8 (by omega) (by omega) | exact in_u64 (by omega) (by omega) | exact in_i32 (by omega) (by omega)) ?_)))))
      refine ⟨(k + 1, A', c'), _, rfl, ⟨rfl, ?_, rfl, trivial⟩, ⟨?_, by show k + 1 ≤ _; omega⟩, by show _ - (k + 1) < _ - k; omega⟩
      · show Value.slice A' ((b ++ List.replicate k (120 : Int)).length + 1) c' = Value.slice A' (b ++ List.replicate (k + 1) (120 : Int)).length c'
        rw [e2]
      · show Hp w _ [] [rowB (.slice A' (b ++ List.replicate (k + 1) (120 : Int)).length c') (b ++ List.replicate (k + 1) (120 : Int))]
        unfold rowB
        rw [e2, e1]
        have e3 : nums .u8 ((b ++ List.replicate k (120 : Int)) ++ [120]) = nums .u8 (b ++ List.replicate k 120) ++ [.int .u8 120] := by rw [nums_append]; rfl
        rw [e3]
        exact H
    · repeat' (first | (with_reducible first | refine p_tn ?_ | refine p_tx ?_ | refine x_hit ?_ | refine wp_seq ?_ | refine w_reg ?_) | (with_reducible (refine is_if ?_; (refine w_iff rfl ?_))) | (with_reducible first | refine wp_exit ?_ | refine wp_ret ?_ | refine l_nil ?_) | ((with_reducible refine g_on ?_); (first | ((with_reducible refine g_mv ?_); refine l_p txs rfl rfl ?_) | ((with_reducible refine g_as ?_); refine l_p txs rfl rfl ?_) | ((with_reducible refine g_pk ?_); refine l_p txs rfl rfl ?_))))
      refine end1 rfl rfl ?_
      obtain ⟨A', c', e1, e2⟩ := fin (by unfold padN; split <;> omega)
      exact ⟨A', c', by rw [e1], e2⟩
  · repeat' (first | (with_reducible first | refine p_tn ?_ | refine p_tx ?_ | refine x_hit ?_ | refine wp_seq ?_ | refine w_reg ?_) | (with_reducible (refine is_if ?_; (refine w_iff rfl ?_))) | (with_reducible first | refine wp_exit ?_ | refine wp_ret ?_ | refine l_nil ?_) | ((with_reducible refine g_on ?_); (first | ((with_reducible refine g_mv ?_); refine l_p txs rfl rfl ?_) | ((with_reducible refine g_as ?_); refine l_p txs rfl rfl ?_) | ((with_reducible refine g_pk ?_); refine l_p txs rfl rfl ?_))) | ((with_reducible refine g_if ?_); (refine l_off rfl ?_)))
    refine end1 rfl rfl ?_
    obtain ⟨A', c', e1, e2⟩ := fin (by unfold padN; split <;> omega)
    exact ⟨A', c', by rw [e1], e2⟩
def knownB : L := [80, 85, 84, 32, 47, 97, 32, 72, 84, 84, 80, 47, 49, 46, 49, 13, 10, 72, 111, 115, 116, 58, 32, 98, 13, 10, 67, 111, 110, 116, 101, 110, 116, 45, 76, 101, 110, 103, 116, 104, 58, 32, 50, 13, 10, 13, 10, 104, 105, 33]
theorem known_parse : parseReqS knownB = .ok (⟨[80, 85, 84], [47, 97], 1, [([72, 111, 115, 116], [98]), ([67, 111, 110, 116, 101, 110, 116, 45, 76, 101, 110, 103, 116, 104], [50])], [104, 105], false⟩, 49) := by kernel_rfl
theorem info_u8a : (Tryz.prog.info? 5).map (·.size) = some 1 := by kernel_rfl
theorem info_u8b : ((Tryz.prog.info? 5).bind (·.zero)).isSome = true := by kernel_rfl
set_option maxRecDepth 100000 in
set_option maxHeartbeats 8000000 in
theorem known_c {A : Nat → Addr} {w : World} (hE : LayS A w) {mx : Int} (hM : w.cell? ⟨20, 0, none⟩ = some (.int .i64 mx)) {tM : TypeId} {frM : Nat × Nat} (hT : w.heap[17]? = some (.cells meC tM frM)) :
    Calls Tryz.prog 13 #[] w fun e w' => e = .returned (.bool true) ∧ Below w.heap.size w w' := by
  have hTb : ∀ w1, Below w.heap.size w w1 → w1.heap[17]? = some (.cells meC tM frM) := fun w1 K => (K.block _ (blk_lt hT)).trans hT
  refine enter (args := []) Tryz.func13 rfl Tryz.ntmps13 rfl ?_
  have H := Hp.nil w
  repeat' (first | (with_reducible first | refine p_tn ?_ | refine wp_seq ?_ | refine w_reg ?_ | refine l_nil ?_) | ((with_reducible refine g_on ?_); ((with_reducible refine g_as ?_); refine l_p txs rfl rfl ?_)))
  refine h_bytes H knownB Tryz.underlying23 Tryz.underlying5 info_u8a info_u8b rfl (by decide) (by decide) (by kernel_rfl) rfl (fun g_ w_ H hR => ?_)
  have hcall := ParseRequest_c (hE.below H.B) (H.old hM) (hTb _ H.B) (b := knownB) (c := 50) hR (by decide) (fun e => by cases e) (by unfold Bytes; decide) (by decide)
  (with_reducible refine is_l ?_); refine l_call rfl rfl (by kernel_rfl) hcall (fun e w_ hR => ?_)
  unfold PrR at hR
  rw [known_parse] at hR
  obtain ⟨Bf, cf, Bb, cb, rfl, K⟩ := hR
  refine ⟨_, rfl, ?_⟩
  have H := H.join K
  have O1 := H.row 1 _ rfl
  repeat' (first | (with_reducible first | refine p_tn ?_ | refine wp_seq ?_ | refine w_reg ?_ | refine l_nil ?_) | ((with_reducible refine g_on ?_); (first | ((with_reducible refine g_mv ?_); refine l_p txs rfl rfl ?_) | ((with_reducible refine g_as ?_); refine l_p txs rfl rfl ?_) | ((with_reducible refine g_ex ?_); refine l_p txs rfl rfl ?_) | ((with_reducible refine g_st ?_); (refine h_stR recs H 0 rfl rfl rfl rfl rfl rfl rfl rfl rfl (fun w_ H => ?_))) | ((with_reducible refine g_al ?_); refine h_alloc recs H rfl rfl (fun g_ w_ H => ?_)))))
  (with_reducible refine is_l ?_); refine l_t txs rfl rfl (fun _ => ?_) (fun hh => absurd rfl hh)
  repeat' (first | ((with_reducible refine g_on ?_); ((with_reducible refine g_mv ?_); refine l_p txs rfl rfl ?_)) | ((with_reducible refine g_if ?_); ((with_reducible refine g_mv ?_); refine l_p txs rfl rfl ?_)))
  (with_reducible refine is_l ?_); refine l_t txs rfl rfl (fun _ => ?_) (fun hh => absurd rfl hh)
  repeat' (first | ((with_reducible refine g_on ?_); (first | ((with_reducible refine g_mv ?_); refine l_p txs rfl rfl ?_) | ((with_reducible refine g_pk ?_); refine l_p txs rfl rfl ?_))) | ((with_reducible refine g_if ?_); (first | ((with_reducible refine g_fa ?_); refine h_fa flds rfl rfl ?_) | ((with_reducible refine g_ld ?_); (refine h_ld txs H 0 rfl rfl rfl rfl ?_)))))
  (with_reducible refine is_l ?_); refine l_t txs rfl rfl (fun _ => ?_) (fun hh => absurd rfl hh)
  repeat' (first | ((with_reducible refine g_on ?_); (first | ((with_reducible refine g_mv ?_); refine l_p txs rfl rfl ?_) | ((with_reducible refine g_pk ?_); refine l_p txs rfl rfl ?_))) | ((with_reducible refine g_if ?_); (first | ((with_reducible refine g_fa ?_); refine h_fa flds rfl rfl ?_) | ((with_reducible refine g_ld ?_); (refine h_ld txs H 0 rfl rfl rfl rfl ?_)))))
  (with_reducible refine is_l ?_); refine l_t txs rfl rfl (fun _ => ?_) (fun hh => absurd rfl hh)
  repeat' (first | ((with_reducible refine g_on ?_); (first | ((with_reducible refine g_mv ?_); refine l_p txs rfl rfl ?_) | ((with_reducible refine g_pk ?_); refine l_p txs rfl rfl ?_))) | ((with_reducible refine g_if ?_); (first | ((with_reducible refine g_fa ?_); refine h_fa flds rfl rfl ?_) | ((with_reducible refine g_ld ?_); (refine h_ld txs H 0 rfl rfl rfl rfl ?_)))))
  (with_reducible refine is_l ?_); refine l_t txs rfl rfl (fun _ => ?_) (fun hh => absurd rfl hh)
  repeat' (first | ((with_reducible refine g_on ?_); (first | ((with_reducible refine g_mv ?_); refine l_p txs rfl rfl ?_) | ((with_reducible refine g_pk ?_); refine l_p txs rfl rfl ?_))) | ((with_reducible refine g_if ?_); (first | ((with_reducible refine g_fa ?_); refine h_fa flds rfl rfl ?_) | ((with_reducible refine g_ld ?_); (refine h_ld txs H 0 rfl rfl rfl rfl ?_)) | ((with_reducible refine g_cl ?_); refine l_p txs rfl rfl ?_))))
  (with_reducible refine is_l ?_); refine l_t txs rfl rfl (fun _ => ?_) (fun hh => absurd rfl hh)
  repeat' (first | ((with_reducible refine g_on ?_); (first | ((with_reducible refine g_mv ?_); refine l_p txs rfl rfl ?_) | ((with_reducible refine g_pk ?_); refine l_p txs rfl rfl ?_))) | ((with_reducible refine g_if ?_); (first | ((with_reducible refine g_fa ?_); refine h_fa flds rfl rfl ?_) | ((with_reducible refine g_ld ?_); (refine h_ld txs H 0 rfl rfl rfl rfl ?_)))))
  obtain ⟨A3, c3, e3, _, R3⟩ := own_reads_of_le (enc := Value.int .u8) (d := (0 : Int)) (xs := [104, 105]) (H.row 1 _ rfl)
  cases e3
  (with_reducible refine is_l ?_); refine l_text rfl rfl Tryz.underlying23 Tryz.underlying5 Tryz.underlying9 (readsInt_of.2 R3) ?_
  skip
  (with_reducible refine is_l ?_); refine l_t txs rfl rfl (fun _ => ?_) (fun hh => absurd rfl hh)
  repeat' (first | (with_reducible first | refine p_tn ?_ | refine wp_ret ?_ | refine l_nil ?_) | ((with_reducible refine g_on ?_); (first | ((with_reducible refine g_mv ?_); refine l_p txs rfl rfl ?_) | ((with_reducible refine g_as ?_); refine l_p txs rfl rfl ?_) | ((with_reducible refine g_pk ?_); refine l_p txs rfl rfl ?_))) | ((with_reducible refine g_if ?_); (first | ((with_reducible refine g_fa ?_); refine h_fa flds rfl rfl ?_) | ((with_reducible refine g_ld ?_); (refine h_ld txs H 0 rfl rfl rfl rfl ?_)) | ((with_reducible refine g_un ?_); (refine l_p txs rfl rfl ?_)))))
  refine end1 rfl rfl ?_
  exact ⟨rfl, H.B⟩
end Go.Proofs.YthgojbdpmcccaaaGreatDoor.K
end
section
namespace Go.Proofs.YthgojbdpmcccaaaGreatDoor.K
open Go.RowKit Go.Proofs.YthgojbdpmcccaaaGreatDoor.Q Go.Proofs.YthgojbdpmcccaaaGreatDoor.Wb Go.Proofs.YthgojbdpmcccaaaGreatDoorW.PrintWords
set_option linter.unusedVariables false
set_option linter.unusedSimpArgs false
theorem rowF_rd {w0 w : World} {l : List Ent} {r : List RowD} (H : Hp w0 w l r) (k : Nat) {F : Option Addr} {f : Nat} {x : List Fld} (hk : r[k]? = some (rowF (.slice F x.length f) x)) : Rd w F (fldC x) := by
  obtain ⟨A0, c0, he, _, hr, _⟩ := H.rd k hk
  cases he
  exact hr
theorem rowB_rd {w0 w : World} {l : List Ent} {r : List RowD} (H : Hp w0 w l r) (k : Nat) {F : Option Addr} {f : Nat} {x : L} (hk : r[k]? = some (rowB (.slice F x.length f) x)) : ReadsInt w .u8 F x.length x ∧ x.length ≤ f ∧ (F = none → f = 0 ∧ x.length = 0) := by
  obtain ⟨A0, c0, he, hle, hr, hn⟩ := H.rd k hk
  cases he
  obtain ⟨A3, c3, e3, _, R3⟩ := own_reads_of_le (enc := Value.int .u8) (d := (0 : Int)) (xs := x) (H.row k _ hk)
  cases e3
  exact ⟨readsInt_of.2 R3, hle, hn⟩
end Go.Proofs.YthgojbdpmcccaaaGreatDoor.K
end
