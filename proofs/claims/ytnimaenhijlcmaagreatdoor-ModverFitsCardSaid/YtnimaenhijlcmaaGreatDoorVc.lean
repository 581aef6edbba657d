/- Orders: of numbers, of texts, of numbers in tens, of words. -/
import Derived.Test.YtnimaenhijlcmaaGreatDoorVb
namespace Go.Proofs.YtnimaenhijlcmaaGreatDoor.K
open Go.RowKit Go.Proofs.YtnimaenhijlcmaaGreatDoor.Q Go.Proofs.YtnimaenhijlcmaaGreatDoor.Mb Go.Proofs.YtnimaenhijlcmaaGreatDoorW.PrintWords
set_option linter.unusedVariables false
set_option linter.unusedSimpArgs false

theorem orderI_c (a b : Int) (w : World) : Calls Tryz.prog 93 #[.int .i64 a, .int .i64 b] w fun e w' => e = .returned (.int .i64 (cmpI a b)) ∧ w' = w := by
  refine enter (args := [.int .i64 a, .int .i64 b]) Tryz.func93 rfl Tryz.ntmps93 rfl ?_
  repeat' (first | (with_reducible first | refine p_tn ?_ | refine wp_seq ?_ | refine wp_block ?_ | refine w_reg ?_ | refine l_nil ?_) | (with_reducible (refine is_l ?_; (refine l_p tys rfl rfl ?_))))
  (with_reducible refine is_l ?_); refine l_t tys rfl rfl (fun h1 => ?_) (fun h1 => ?_)
  · repeat' (first | (with_reducible first | refine p_tn ?_ | refine p_tr ?_ | refine p_br ?_ | refine wp_seq ?_ | refine w_reg ?_) | (with_reducible (refine is_if ?_; (refine w_ift rfl ?_))) | (with_reducible first | refine wp_ret ?_ | refine l_nil ?_) | (with_reducible (refine is_l ?_; (refine l_p tys rfl rfl ?_))))
    refine end1 rfl rfl ?_
    exact ⟨by unfold cmpI; rw [if_pos h1], rfl⟩
  · repeat' (first | (with_reducible first | refine p_tn ?_ | refine wp_seq ?_ | refine w_reg ?_) | (with_reducible (refine is_if ?_; (refine w_iff rfl ?_))) | (with_reducible refine l_nil ?_) | (with_reducible (refine is_l ?_; (refine l_p tys rfl rfl ?_))))
    (with_reducible refine is_l ?_); refine l_t tys rfl rfl (fun h2 => ?_) (fun h2 => ?_)
    · repeat' (first | (with_reducible first | refine p_tn ?_ | refine p_tr ?_ | refine p_br ?_ | refine wp_seq ?_ | refine w_reg ?_) | (with_reducible (refine is_if ?_; (refine w_ift rfl ?_))) | (with_reducible first | refine wp_ret ?_ | refine l_nil ?_) | (with_reducible (refine is_l ?_; (refine l_p tys rfl rfl ?_))))
      refine end1 rfl rfl ?_
      exact ⟨by unfold cmpI; rw [if_neg h1, if_pos h2], rfl⟩
    · repeat' (first | (with_reducible first | refine p_tn ?_ | refine p_bn ?_ | refine wp_seq ?_ | refine w_reg ?_) | (with_reducible (refine is_if ?_; (refine w_iff rfl ?_))) | (with_reducible first | refine wp_skip ?_ | refine wp_ret ?_ | refine l_nil ?_) | (with_reducible (refine is_l ?_; (refine l_p tys rfl rfl ?_))))
      refine end1 rfl rfl ?_
      exact ⟨by unfold cmpI; rw [if_neg h1, if_neg h2], rfl⟩
theorem less_cmp : ∀ (s t : List UInt8), (Op.bytesLess s t = true ↔ cmpB (s.map fun b => (b.toNat : Int)) (t.map fun b => (b.toNat : Int)) = -1) ∧ (cmpB (s.map fun b => (b.toNat : Int)) (t.map fun b => (b.toNat : Int)) = 0 ↔ (s.map fun b => (b.toNat : Int)) = (t.map fun b => (b.toNat : Int))) ∧ (cmpB (s.map fun b => (b.toNat : Int)) (t.map fun b => (b.toNat : Int)) = -1 ∨ cmpB (s.map fun b => (b.toNat : Int)) (t.map fun b => (b.toNat : Int)) = 0 ∨ cmpB (s.map fun b => (b.toNat : Int)) (t.map fun b => (b.toNat : Int)) = 1)
  | [], [] => by simp [Op.bytesLess, cmpB]
  | [], y :: t => by simp [Op.bytesLess, cmpB]
  | x :: s, [] => by simp [Op.bytesLess, cmpB]
  | x :: s, y :: t => by
    obtain ⟨i1, i2, i3⟩ := less_cmp s t
    simp only [Op.bytesLess, List.map_cons, cmpB, List.cons.injEq]
    by_cases h1 : x < y
    · have h1' : (x.toNat : Int) < (y.toNat : Int) := by have := UInt8.lt_iff_toNat_lt.1 h1; omega
      rw [if_pos h1']
      refine ⟨by simp [h1], ⟨fun h => absurd h (by decide), fun h => by omega⟩, .inl rfl⟩
    · have h1' : ¬ (x.toNat : Int) < (y.toNat : Int) := by
        intro h; exact h1 (UInt8.lt_iff_toNat_lt.2 (by omega))
      rw [if_neg h1']
      by_cases h2 : (y.toNat : Int) < (x.toNat : Int)
      · rw [if_pos h2]
        have hne : ¬ x = y := fun e => by rw [e] at h2; omega
        refine ⟨by simp [h1, hne], ⟨fun h => absurd h (by decide), fun h => by omega⟩, .inr (.inr rfl)⟩
      · rw [if_neg h2]
        have he : x = y := UInt8.toNat_inj.1 (by omega)
        subst he
        refine ⟨by simp [h1, i1], by simp [i2], i3⟩
theorem less_bl (s t : ByteArray) : (Op.bytesLess s.toList t.toList = true ↔ cmpB (bl s) (bl t) = -1) ∧ (cmpB (bl s) (bl t) = 0 ↔ bl s = bl t) ∧ (cmpB (bl s) (bl t) = -1 ∨ cmpB (bl s) (bl t) = 0 ∨ cmpB (bl s) (bl t) = 1) := by
  have := less_cmp s.data.toList t.data.toList
  rw [ByteArray.toList_eq s, ByteArray.toList_eq t]
  exact this
theorem orderS_c (a b : ByteArray) (w : World) : Calls Tryz.prog 37 #[.string a, .string b] w fun e w' => e = .returned (.int .i64 (cmpB (bl a) (bl b))) ∧ w' = w := by
  obtain ⟨i1, i2, i3⟩ := less_bl a b
  refine enter (args := [.string a, .string b]) Tryz.func37 rfl Tryz.ntmps37 rfl ?_
  repeat' (first | (with_reducible first | refine p_tn ?_ | refine wp_seq ?_ | refine wp_block ?_ | refine w_reg ?_ | refine l_nil ?_) | (with_reducible (refine is_l ?_; (refine l_p tys rfl rfl ?_))))
  (with_reducible refine is_l ?_); refine l_t tys rfl rfl (fun h1 => ?_) (fun h1 => ?_)
  · repeat' (first | (with_reducible first | refine p_tn ?_ | refine p_tr ?_ | refine p_br ?_ | refine wp_seq ?_ | refine w_reg ?_) | (with_reducible (refine is_if ?_; (refine w_ift rfl ?_))) | (with_reducible first | refine wp_ret ?_ | refine l_nil ?_) | (with_reducible (refine is_l ?_; (refine l_p tys rfl rfl ?_))))
    refine end1 rfl rfl ?_
    exact ⟨by rw [i1.1 h1], rfl⟩
  · repeat' (first | (with_reducible first | refine p_tn ?_ | refine wp_seq ?_ | refine w_reg ?_) | (with_reducible (refine is_if ?_; (refine w_iff rfl ?_))) | (with_reducible refine l_nil ?_) | (with_reducible (refine is_l ?_; (refine l_p tys rfl rfl ?_))))
    (with_reducible refine is_l ?_); refine l_t tys rfl rfl (fun h2 => ?_) (fun h2 => ?_)
    · have hc : cmpB (bl a) (bl b) = 1 := by
        rcases i3 with h | h | h
        · exact absurd (i1.2 h) h1
        · exact absurd (.inr (i2.1 h)) h2
        · exact h
      repeat' (first | (with_reducible first | refine p_tn ?_ | refine p_tr ?_ | refine p_br ?_ | refine wp_seq ?_ | refine w_reg ?_) | (with_reducible (refine is_if ?_; (refine w_ift rfl ?_))) | (with_reducible first | refine wp_ret ?_ | refine l_nil ?_) | (with_reducible (refine is_l ?_; (refine l_p tys rfl rfl ?_))))
      refine end1 rfl rfl ?_
      exact ⟨by rw [hc], rfl⟩
    · have hc : cmpB (bl a) (bl b) = 0 := by
        rcases Classical.not_not.1 h2 with h | h
        · exact absurd h h1
        · exact i2.2 h
      repeat' (first | (with_reducible first | refine p_tn ?_ | refine p_bn ?_ | refine wp_seq ?_ | refine w_reg ?_) | (with_reducible (refine is_if ?_; (refine w_iff rfl ?_))) | (with_reducible first | refine wp_skip ?_ | refine wp_ret ?_ | refine l_nil ?_) | (with_reducible (refine is_l ?_; (refine l_p tys rfl rfl ?_))))
      refine end1 rfl rfl ?_
      exact ⟨by rw [hc], rfl⟩
end Go.Proofs.YtnimaenhijlcmaaGreatDoor.K
