/- Base64 written and read. -/
import Derived.Test.YtnimaenhijlcmaaGreatDoorVr
import Derived.Test.YtnimaenhijlcmaaGreatDoorMRec
import Derived.Laws.BitsLemmas
namespace Go.Proofs.YtnimaenhijlcmaaGreatDoor.K
open Go.RowKit Go.Proofs.YtnimaenhijlcmaaGreatDoor.Q Go.Proofs.YtnimaenhijlcmaaGreatDoor.Mb Go.Proofs.YtnimaenhijlcmaaGreatDoorW.PrintWords
set_option linter.unusedVariables false
set_option linter.unusedSimpArgs false

section
variable {P : Program} {n : Nat} {ops : Array Oper} {Q : Exit → Act → World → Prop} {rest : List Oper} {f : Fr} {w w0 : World} {d : Option Nat} {op : Op} {tt : TypeId} {ps : String} {af : Array Edge} {gd : Option (Nat × Bool)} {l l' : List Ent} {r : List RowD}
theorem bii_run {b : BinOp} {t t2 : TypeId} {x y : Operand} {k1 k2 : IntKind} {a c : Int} {z : Value} (hx : nf (X n f x) = some (.int k1 a)) (hy : nf (X n f y) = some (.int k2 c))
    (hr : (binOp b t (.int k1 a) (.int k2 c)).run P w = .ok z w) : (execOp (X n f) ⟨d, .binOp b t x y t2, tt, ps, af, gd⟩).run P w = .ok (.value z) w := by
  have hx' := nf_eq hx
  have hy' := nf_eq hy
  have hge : (eqGuard b t x y (.int k1 a) (.int k2 c)).run P w = .ok () w := by
    unfold eqGuard
    cases b <;> rfl
  unfold execOp
  simp [← hx', ← hy', hge, hr]
theorem l_bii {b : BinOp} {t t2 : TypeId} {x y : Operand} {k1 k2 : IntKind} {a c : Int} {z : Value} (hw : want n ops f ⟨d, .binOp b t x y t2, tt, ps, af, gd⟩ = true) (hx : nf (X n f x) = some (.int k1 a)) (hy : nf (X n f y) = some (.int k2 c))
    (hr : (binOp b t (.int k1 a) (.int k2 c)).run P w = .ok z w) (h : WL P ops Q rest (act n (put f d z)) w) : WL P ops Q (⟨d, .binOp b t x y t2, tt, ps, af, gd⟩ :: rest) (act n f) w :=
  l_val hw (bii_run hx hy hr) h
theorem q_bii {C : World → Prop} {K : Act → Prop} {b : BinOp} {t t2 : TypeId} {x y : Operand} {k1 k2 : IntKind} {a c : Int} {z : Value} (hw : want n ops f ⟨d, .binOp b t x y t2, tt, ps, af, gd⟩ = true) (hx : nf (X n f x) = some (.int k1 a)) (hy : nf (X n f y) = some (.int k2 c))
    (hr : ∀ w, (binOp b t (.int k1 a) (.int k2 c)).run P w = .ok z w) (h : WQ P ops C K rest (act n (put f d z))) : WQ P ops C K (⟨d, .binOp b t x y t2, tt, ps, af, gd⟩ :: rest) (act n f) :=
  q_val hw (fun w _ => bii_run hx hy (hr w)) h
end
section
variable (t : TypeId) (w : World)
theorem orI {x y z : Int} (i : Nat) (hi : i ≤ 62) (h0 : 0 ≤ x) (hx : x % 2 ^ i = 0) (h1 : x < 2 ^ 62) (h2 : 0 ≤ y) (h3 : y < 2 ^ i) (hz : z = x + y) : (binOp .or t (.int .i64 x) (.int .i64 y)).run Tryz.prog w = .ok (.int .i64 z) w := by
  have h : Go.bits .or .i64 x y = x + y := bits_join .i64 62 (by decide) (fun n h0 h1 => by rw [IntKind.wrap_i64]; omega) i x y h0 hx h1 h2 h3 (by
    have : (2 : Int) ^ i ≤ 2 ^ 62 := by exact_mod_cast Nat.pow_le_pow_right (by omega) hi
    omega)
  rw [binOp_or, hz, ← h]
  rfl
theorem andI (i : Nat) (hi : i ≤ 62) {x m z : Int} (hm : m = 2 ^ i - 1) (h0 : 0 ≤ x) (h1 : x < 2 ^ 62) (hz : z = x % 2 ^ i) : (binOp .and t (.int .i64 x) (.int .i64 m)).run Tryz.prog w = .ok (.int .i64 z) w := by
  have h : Go.bits .and .i64 x (2 ^ i - 1) = x % 2 ^ i := bits_mask .i64 62 (by decide) (fun n h0 h1 => by rw [IntKind.wrap_i64]; omega) i hi x h0 h1
  rw [binOp_and, hz, ← h, hm]
  rfl
theorem shlI {k : IntKind} (s : Nat) (hs : s ≤ 62) {x z : Int} (hz : z = x * 2 ^ s) (h0 : 0 ≤ z) (h1 : z < 2 ^ 62) : (binOp .shl t (.int .i64 x) (.int k (s : Int))).run Tryz.prog w = .ok (.int .i64 z) w := by
  have h2 : IntKind.i64.wrap z = z := by rw [IntKind.wrap_i64]; omega
  have h3 : ¬ ((s : Int) < 0) := by omega
  have h4 : min s IntKind.i64.bits = s := Nat.min_eq_left (by show s ≤ 64; omega)
  rw [binOp_shl]
  simp only [Op.shift]
  rw [if_neg h3, Int.toNat_natCast, h4, ← hz, h2]
  rfl
theorem shrI {k : IntKind} (s : Nat) (hs : s ≤ 62) {x z : Int} (h0 : 0 ≤ x) (hz : z = x / 2 ^ s) : (binOp .shr t (.int .i64 x) (.int k (s : Int))).run Tryz.prog w = .ok (.int .i64 z) w := by
  have h3 : ¬ ((s : Int) < 0) := by omega
  have h4 : min s IntKind.i64.bits = s := Nat.min_eq_left (by show s ≤ 64; omega)
  rw [binOp_shr]
  simp only [Op.shift]
  rw [if_neg h3, Int.toNat_natCast, h4, Int.fdiv_eq_ediv_of_nonneg _ (by exact_mod_cast Nat.zero_le _), ← hz]
  rfl
theorem quoI (k m : Nat) (hk : k ≤ 1000000000) (hm : 0 < m) : (binOp .quo 3 (.int .i64 (k : Int)) (.int .i64 (m : Int))).run Tryz.prog w = .ok (.int .i64 ((k / m : Nat) : Int)) w := by
  rw [binOp_quo]
  have hle : k / m ≤ k := Nat.div_le_self _ _
  have h1 : (k : Int).tdiv (m : Int) = ((k / m : Nat) : Int) := by rw [Int.tdiv_eq_ediv_of_nonneg (by omega)]; rfl
  generalize k / m = q at hle h1 ⊢
  have h2 : IntKind.i64.wrap (q : Int) = (q : Int) := by rw [IntKind.wrap_i64]; omega
  have h3 : ¬ m = 0 := by omega
  simp [Op.intDiv, h1, h2, h3]
theorem quoZ {a z : Int} (m : Nat) (h0 : 0 ≤ a) (ha : a ≤ 1000000000) (hm : 0 < m) (hz : z = a / m) : (binOp .quo 3 (.int .i64 a) (.int .i64 (m : Int))).run Tryz.prog w = .ok (.int .i64 z) w := by
  obtain ⟨k, rfl⟩ := Int.eq_ofNat_of_zero_le h0
  rw [quoI w k m (by omega) hm, hz]
  rfl
end
set_option maxHeartbeats 4000000 in
theorem value_c (c : Int) (h0 : 0 ≤ c) (h1 : c ≤ 255) (w : World) : Calls Tryz.prog 85 #[.int .u8 c] w fun e w' => e = .returned (.int .i64 (val c)) ∧ w' = w := by
  refine enter (args := [.int .u8 c]) Tryz.func85 rfl Tryz.ntmps85 rfl ?_
  have H := Hp.nil w
  repeat' (first | (with_reducible first | refine p_tn ?_ | refine wp_seq ?_ | refine wp_block ?_ | refine w_reg ?_ | refine l_nil ?_) | ((with_reducible refine g_on ?_); (first | ((with_reducible refine g_mv ?_); refine l_p txs rfl rfl ?_) | ((with_reducible refine g_as ?_); refine l_p txs rfl rfl ?_))))
  (with_reducible refine is_l ?_); refine l_t txs rfl rfl (fun h => ?_) (fun h => ?_)
  all_goals
    repeat' (first | (with_reducible first | refine p_tn ?_ | refine wp_seq ?_ | refine w_reg ?_) | (with_reducible (refine is_if ?_; (refine w_iff rfl ?_))) | (with_reducible refine l_nil ?_) | ((with_reducible refine g_on ?_); (first | ((with_reducible refine g_mv ?_); refine l_p txs rfl rfl ?_) | ((with_reducible refine g_as ?_); refine l_p txs rfl rfl ?_) | ((with_reducible refine g_pk ?_); refine l_p txs rfl rfl ?_))) | ((with_reducible refine g_if ?_); (first | (refine l_off rfl ?_) | ((with_reducible refine g_mv ?_); refine l_p txs rfl rfl ?_))))
    first
    | ((with_reducible refine is_l ?_); refine l_t txs rfl rfl (fun h => ?_) (fun h => ?_))
    | skip
  all_goals
    repeat' (first | (with_reducible first | refine p_tn ?_ | refine p_tr ?_ | refine p_br ?_ | refine wp_seq ?_ | refine w_reg ?_) | (with_reducible (refine is_if ?_; (first | (refine w_ift rfl ?_) | (refine w_iff rfl ?_)))) | (with_reducible first | refine wp_ret ?_ | refine l_nil ?_) | ((with_reducible refine g_on ?_); (first | ((with_reducible refine g_mv ?_); refine l_p txs rfl rfl ?_) | ((with_reducible refine g_as ?_); refine l_p txs rfl rfl ?_) | ((with_reducible refine g_pk ?_); refine l_p txs rfl rfl ?_) | ((with_reducible refine g_cv ?_); (refine l_a txs rfl rfl (by first | exact in_i64 (by omega) (by omega) | exact in_u8 (by omega) (by omega) | exact in_u64 (by omega) (by omega) | exact in_i32 (by omega) (by omega)) ?_)) | ((with_reducible refine g_bi ?_); (refine l_a txs rfl rfl (by first | exact in_i64 (by omega) (by omega) | exact in_u8 (by omega) (by omega) | exact in_u64 (by omega) (by omega) | exact in_i32 (by omega) (by omega)) ?_)))) | ((with_reducible refine g_if ?_); (first | (refine l_off rfl ?_) | ((with_reducible refine g_mv ?_); refine l_p txs rfl rfl ?_))))
    first
    | ((with_reducible refine is_l ?_); refine l_t txs rfl rfl (fun h => ?_) (fun h => ?_))
    | skip
  all_goals
    repeat' (first | (with_reducible first | refine p_tn ?_ | refine p_tr ?_ | refine p_br ?_ | refine wp_seq ?_ | refine w_reg ?_) | (with_reducible (refine is_if ?_; (first | (refine w_ift rfl ?_) | (refine w_iff rfl ?_)))) | (with_reducible first | refine wp_ret ?_ | refine l_nil ?_) | ((with_reducible refine g_on ?_); (first | ((with_reducible refine g_mv ?_); refine l_p txs rfl rfl ?_) | ((with_reducible refine g_as ?_); refine l_p txs rfl rfl ?_) | ((with_reducible refine g_pk ?_); refine l_p txs rfl rfl ?_) | ((with_reducible refine g_cv ?_); (refine l_a txs rfl rfl (by first | exact in_i64 (by omega) (by omega) | exact in_u8 (by omega) (by omega) | exact in_u64 (by omega) (by omega) | exact in_i32 (by omega) (by omega)) ?_)) | ((with_reducible refine g_bi ?_); (refine l_a txs rfl rfl (by first | exact in_i64 (by omega) (by omega) | exact in_u8 (by omega) (by omega) | exact in_u64 (by omega) (by omega) | exact in_i32 (by omega) (by omega)) ?_)))) | ((with_reducible refine g_if ?_); (first | (refine l_off rfl ?_) | ((with_reducible refine g_mv ?_); refine l_p txs rfl rfl ?_))))
    first
    | ((with_reducible refine is_l ?_); refine l_t txs rfl rfl (fun h => ?_) (fun h => ?_))
    | skip
  all_goals
    repeat' (first | (with_reducible first | refine p_tn ?_ | refine p_tr ?_ | refine p_br ?_ | refine wp_seq ?_ | refine w_reg ?_) | (with_reducible (refine is_if ?_; (first | (refine w_ift rfl ?_) | (refine w_iff rfl ?_)))) | (with_reducible first | refine wp_ret ?_ | refine l_nil ?_) | ((with_reducible refine g_on ?_); (first | ((with_reducible refine g_mv ?_); refine l_p txs rfl rfl ?_) | ((with_reducible refine g_as ?_); refine l_p txs rfl rfl ?_) | ((with_reducible refine g_pk ?_); refine l_p txs rfl rfl ?_) | ((with_reducible refine g_cv ?_); (refine l_a txs rfl rfl (by first | exact in_i64 (by omega) (by omega) | exact in_u8 (by omega) (by omega) | exact in_u64 (by omega) (by omega) | exact in_i32 (by omega) (by omega)) ?_)) | ((with_reducible refine g_bi ?_); (refine l_a txs rfl rfl (by first | exact in_i64 (by omega) (by omega) | exact in_u8 (by omega) (by omega) | exact in_u64 (by omega) (by omega) | exact in_i32 (by omega) (by omega)) ?_)))) | ((with_reducible refine g_if ?_); (first | (refine l_off rfl ?_) | ((with_reducible refine g_mv ?_); refine l_p txs rfl rfl ?_))))
    first
    | ((with_reducible refine is_l ?_); refine l_t txs rfl rfl (fun h => ?_) (fun h => ?_))
    | skip
  all_goals
    repeat' (first | (with_reducible first | refine p_tn ?_ | refine p_tr ?_ | refine p_bn ?_ | refine p_br ?_ | refine wp_seq ?_ | refine w_reg ?_) | (with_reducible (refine is_if ?_; (first | (refine w_ift rfl ?_) | (refine w_iff rfl ?_)))) | (with_reducible first | refine wp_skip ?_ | refine wp_ret ?_ | refine l_nil ?_) | ((with_reducible refine g_on ?_); (first | ((with_reducible refine g_mv ?_); refine l_p txs rfl rfl ?_) | ((with_reducible refine g_as ?_); refine l_p txs rfl rfl ?_) | ((with_reducible refine g_pk ?_); refine l_p txs rfl rfl ?_) | ((with_reducible refine g_cv ?_); (refine l_a txs rfl rfl (by first | exact in_i64 (by omega) (by omega) | exact in_u8 (by omega) (by omega) | exact in_u64 (by omega) (by omega) | exact in_i32 (by omega) (by omega)) ?_)) | ((with_reducible refine g_bi ?_); (refine l_a txs rfl rfl (by first | exact in_i64 (by omega) (by omega) | exact in_u8 (by omega) (by omega) | exact in_u64 (by omega) (by omega) | exact in_i32 (by omega) (by omega)) ?_)))) | ((with_reducible refine g_if ?_); (first | (refine l_off rfl ?_) | ((with_reducible refine g_mv ?_); refine l_p txs rfl rfl ?_))))
    first
    | ((with_reducible refine is_l ?_); refine l_t txs rfl rfl (fun h => ?_) (fun h => ?_))
    | skip
  all_goals
    repeat' (first | (with_reducible first | refine p_tn ?_ | refine p_tr ?_ | refine p_bn ?_ | refine p_br ?_ | refine wp_seq ?_ | refine w_reg ?_) | (with_reducible (refine is_if ?_; (first | (refine w_ift rfl ?_) | (refine w_iff rfl ?_)))) | (with_reducible first | refine wp_skip ?_ | refine wp_ret ?_ | refine l_nil ?_) | ((with_reducible refine g_on ?_); (first | ((with_reducible refine g_mv ?_); refine l_p txs rfl rfl ?_) | ((with_reducible refine g_as ?_); refine l_p txs rfl rfl ?_) | ((with_reducible refine g_pk ?_); refine l_p txs rfl rfl ?_) | ((with_reducible refine g_cv ?_); (refine l_a txs rfl rfl (by first | exact in_i64 (by omega) (by omega) | exact in_u8 (by omega) (by omega) | exact in_u64 (by omega) (by omega) | exact in_i32 (by omega) (by omega)) ?_)) | ((with_reducible refine g_bi ?_); (refine l_a txs rfl rfl (by first | exact in_i64 (by omega) (by omega) | exact in_u8 (by omega) (by omega) | exact in_u64 (by omega) (by omega) | exact in_i32 (by omega) (by omega)) ?_)))))
    first
    | ((with_reducible refine is_l ?_); refine l_t txs rfl rfl (fun h => ?_) (fun h => ?_))
    | skip
  all_goals
    repeat' (first | (with_reducible first | refine p_tn ?_ | refine p_tr ?_ | refine p_bn ?_ | refine p_br ?_ | refine wp_seq ?_ | refine w_reg ?_) | (with_reducible (refine is_if ?_; (first | (refine w_ift rfl ?_) | (refine w_iff rfl ?_)))) | (with_reducible first | refine wp_skip ?_ | refine wp_ret ?_ | refine l_nil ?_) | ((with_reducible refine g_on ?_); (first | ((with_reducible refine g_mv ?_); refine l_p txs rfl rfl ?_) | ((with_reducible refine g_as ?_); refine l_p txs rfl rfl ?_))))
    first
    | ((with_reducible refine is_l ?_); refine l_t txs rfl rfl (fun h => ?_) (fun h => ?_))
    | skip
  all_goals
    repeat' (first | (with_reducible first | refine p_tn ?_ | refine p_tr ?_ | refine p_bn ?_ | refine p_br ?_ | refine wp_seq ?_ | refine w_reg ?_) | (with_reducible (refine is_if ?_; (first | (refine w_ift rfl ?_) | (refine w_iff rfl ?_)))) | (with_reducible first | refine wp_skip ?_ | refine wp_ret ?_ | refine l_nil ?_) | ((with_reducible refine g_on ?_); ((with_reducible refine g_as ?_); refine l_p txs rfl rfl ?_)))
    refine end1 rfl rfl ?_
    refine ⟨?_, rfl⟩
    congr 2
    unfold val
    (repeat' split) <;> omega
/-- The letters. -/
abbrev letB : ByteArray := ⟨#[65, 66, 67, 68, 69, 70, 71, 72, 73, 74, 75, 76, 77, 78, 79, 80, 81, 82, 83, 84, 85, 86, 87, 88, 89, 90, 97, 98, 99, 100, 101, 102, 103, 104, 105, 106, 107, 108, 109, 110, 111, 112, 113, 114, 115, 116, 117, 118, 119, 120, 121, 122, 48, 49, 50, 51, 52, 53, 54, 55, 56, 57, 43, 47]⟩
theorem let_all : ∀ i : Fin 64, at_ (bl letB) (i.val : Int) = lt (i.val : Int) := by decide +kernel
theorem let_at {x : Int} (h0 : 0 ≤ x) (h1 : x < 64) : at_ (bl letB) x = lt x := by
  obtain ⟨n, rfl⟩ := Int.eq_ofNat_of_zero_le h0
  exact let_all ⟨n, by omega⟩
section
variable {P : Program} {ty : Nat → Option Ty} {n : Nat} {f : Fr} {w : World} {d : Option Nat} {tt : TypeId} {ps : String} {af : Array Edge} {gd : Option (Nat × Bool)}
theorem let_run (hty : Tys P ty) {t : TypeId} {y : Operand} {x : Int} (he : evI n f ty (.index t (.const (.string letB)) y) = some (letB, x)) (h0 : 0 ≤ x) (h1 : x < 64) : (execOp (X n f) ⟨d, .index t (.const (.string letB)) y, tt, ps, af, gd⟩).run P w = .ok (.value (.int .u8 (lt x))) w := by
  have := evI_run (P := P) (w := w) (o := ⟨d, .index t (.const (.string letB)) y, tt, ps, af, gd⟩) hty he h0 h1
  rw [let_at h0 h1] at this
  exact this
end
end Go.Proofs.YtnimaenhijlcmaaGreatDoor.K
