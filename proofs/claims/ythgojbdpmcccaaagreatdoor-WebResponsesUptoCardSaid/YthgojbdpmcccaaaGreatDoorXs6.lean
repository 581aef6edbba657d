/- Joined texts of mine, 6: Ro, Rp. -/
import Derived.Test.YthgojbdpmcccaaaGreatDoorXs5
section
namespace Go.Proofs.YthgojbdpmcccaaaGreatDoor.K.Ref
open Go.RowKit Go.Proofs.YthgojbdpmcccaaaGreatDoor.Q Go.Proofs.YthgojbdpmcccaaaGreatDoor.Wb Go.Proofs.YthgojbdpmcccaaaGreatDoorW.PrintWords Go.Proofs.YthgojbdpmcccaaaGreatDoor.K
set_option linter.unusedVariables false
set_option linter.unusedSimpArgs false
set_option maxHeartbeats 4000000 in
theorem sameFields_c {w : World} {B1 B2 : Option Addr} {c1 c2 : Nat} {l : List Fld} (h1 : Rd w B1 (fldC l)) (h2 : Rd w B2 (fldC l)) (hl : l.length ≤ 100000000) :
    Calls Tryz.prog 85 #[.slice B1 l.length c1, .slice B2 l.length c2] w fun e w' => e = .returned (.bool true) ∧ Below w.heap.size w w' := by
  refine enter (args := [.slice B1 l.length c1, .slice B2 l.length c2]) Tryz.func85 rfl Tryz.ntmps85 rfl ?_
  have H := Hp.nil w
  repeat' (first | (with_reducible first | refine p_tn ?_ | refine wp_seq ?_ | refine w_reg ?_ | refine l_nil ?_) | ((with_reducible refine g_on ?_); (first | ((with_reducible refine g_mv ?_); refine l_p txs rfl rfl ?_) | ((with_reducible refine g_as ?_); refine l_p txs rfl rfl ?_) | ((with_reducible refine g_cl ?_); refine l_p txs rfl rfl ?_))))
  (with_reducible refine is_l ?_); refine l_t txs rfl rfl (fun hh => absurd rfl hh) (fun _ => ?_)
  repeat' (first | (with_reducible first | refine p_tn ?_ | refine wp_seq ?_ | refine wp_block ?_ | refine w_reg ?_) | (with_reducible (refine is_if ?_; (refine w_iff rfl ?_))) | (with_reducible first | refine wp_skip ?_ | refine l_nil ?_) | ((with_reducible refine g_on ?_); ((with_reducible refine g_as ?_); refine l_p txs rfl rfl ?_)))
  refine w_loop (σ := Nat) (S := fun s => [(0, .slice B1 l.length c1), (1, .slice B2 l.length c2), (5, .int .i64 (s : Int))]) (J := fun s w' => Hp w w' [] [] ∧ s ≤ l.length) (μ := fun s => l.length - s) 0 ⟨rfl, rfl, rfl, trivial⟩ ⟨H, by omega⟩ ?_
  rintro i f w_ ⟨H, hi⟩
  repeat' (first | (with_reducible first | refine wp_seq ?_ | refine w_reg ?_) | ((with_reducible refine g_on ?_); (first | ((with_reducible refine g_mv ?_); refine l_p txs rfl rfl ?_) | ((with_reducible refine g_cl ?_); refine l_p txs rfl rfl ?_))))
  (with_reducible refine is_l ?_); refine l_t txs rfl rfl (fun hlt => ?_) (fun hge => ?_)
  · obtain ⟨x, hx⟩ : ∃ x, l[i]? = some x := ⟨_, List.getElem?_eq_getElem (by omega)⟩
    obtain ⟨a1, rfl⟩ := rd_some h1 (i := i) (by omega)
    obtain ⟨a2, rfl⟩ := rd_some h2 (i := i) (by omega)
    have q10 := fld_part h1 hx 0 _ rfl
    have q11 := fld_part h1 hx 1 _ rfl
    have q20 := fld_part h2 hx 0 _ rfl
    have q21 := fld_part h2 hx 1 _ rfl
    repeat' (first | (with_reducible first | refine p_tn ?_ | refine wp_seq ?_ | refine wp_block ?_) | (with_reducible (refine is_if ?_; (refine w_ift rfl ?_))) | (with_reducible first | refine wp_skip ?_ | refine l_nil ?_))
    have HS := H.pick [] [] (by decide) (by decide) rfl rfl
    refine d_start (fun w_ => Hp w w_ _ _) #[false, false, false, false, false, false, false, false, false, false, false, false, false, false, false, false, false, false, false, false, false, false, false, false] (by kernel_rfl) rfl rfl HS.drew ?_
    have H := H.drew
    have HS := HS.drew
    first | (refine d_pure (i := 0) #[true, false, false, false, false, false, false, false, false, false, false, false, false, false, false, false, false, false, false, false, false, false, false, false] rfl (by kernel_rfl) (fun _ _ _ h => h) rfl (fun w_ => evP_run (o := ⟨_, _, _, _, _, _⟩) txs rfl) ?_)
    first | (refine d_pure (i := 1) #[true, true, false, false, false, false, false, false, false, false, false, false, false, false, false, false, false, false, false, false, false, false, false, false] rfl (by kernel_rfl) (fun _ _ _ h => h) rfl (fun w_ => evP_run (o := ⟨_, _, _, _, _, _⟩) txs rfl) ?_)
    first | (refine d_pure (i := 2) #[true, true, true, false, false, false, false, false, false, false, false, false, false, false, false, false, false, false, false, false, false, false, false, false] rfl (by kernel_rfl) (fun _ _ _ h => h) rfl (fun w_ => evIA_run (o := ⟨_, _, _, _, _, _⟩) txs rfl (by omega) (by omega)) ?_)
    first | (refine d_pure (i := 3) #[true, true, true, true, false, false, false, false, false, false, false, false, false, false, false, false, false, false, false, false, false, false, false, false] rfl (by kernel_rfl) (fun _ _ _ h => h) rfl (fun w_ => evF_run (o := ⟨_, _, _, _, _, _⟩) flds rfl) ?_) | (refine d_pure (i := 3) #[true, true, true, true, false, false, false, false, false, false, false, false, false, false, false, false, false, false, false, false, false, false, false, false] rfl (by kernel_rfl) (fun _ _ _ h => h) rfl (fun w_ => evG_run (o := ⟨_, _, _, _, _, _⟩) flds rfl) ?_)
    first | (refine d_take (i := 4) #[true, true, true, true, true, false, false, false, false, false, false, false, false, false, false, false, false, false, false, false, false, false, false, false] rfl (by kernel_rfl) (fun _ _ _ h => h) rfl (fun w_ K => evL_run (o := ⟨_, _, _, _, _, _⟩) txs rfl (by rw [Int.toNat_natCast]; exact K.old q10)) HS ?_)
    first | (refine d_pure (i := 5) #[true, true, true, true, true, true, false, false, false, false, false, false, false, false, false, false, false, false, false, false, false, false, false, false] rfl (by kernel_rfl) (fun _ _ _ h => h) rfl (fun w_ => evP_run (o := ⟨_, _, _, _, _, _⟩) txs rfl) ?_)
    first | (refine d_pure (i := 6) #[true, true, true, true, true, true, true, false, false, false, false, false, false, false, false, false, false, false, false, false, false, false, false, false] rfl (by kernel_rfl) (fun _ _ _ h => h) rfl (fun w_ => evP_run (o := ⟨_, _, _, _, _, _⟩) txs rfl) ?_)
    first | (refine d_pure (i := 7) #[true, true, true, true, true, true, true, true, false, false, false, false, false, false, false, false, false, false, false, false, false, false, false, false] rfl (by kernel_rfl) (fun _ _ _ h => h) rfl (fun w_ => evIA_run (o := ⟨_, _, _, _, _, _⟩) txs rfl (by omega) (by omega)) ?_)
    first | (refine d_pure (i := 8) #[true, true, true, true, true, true, true, true, true, false, false, false, false, false, false, false, false, false, false, false, false, false, false, false] rfl (by kernel_rfl) (fun _ _ _ h => h) rfl (fun w_ => evF_run (o := ⟨_, _, _, _, _, _⟩) flds rfl) ?_) | (refine d_pure (i := 8) #[true, true, true, true, true, true, true, true, true, false, false, false, false, false, false, false, false, false, false, false, false, false, false, false] rfl (by kernel_rfl) (fun _ _ _ h => h) rfl (fun w_ => evG_run (o := ⟨_, _, _, _, _, _⟩) flds rfl) ?_)
    first | (refine d_take (i := 9) #[true, true, true, true, true, true, true, true, true, true, false, false, false, false, false, false, false, false, false, false, false, false, false, false] rfl (by kernel_rfl) (fun _ _ _ h => h) rfl (fun w_ K => evL_run (o := ⟨_, _, _, _, _, _⟩) txs rfl (by rw [Int.toNat_natCast]; exact K.old q20)) HS ?_)
    first | (refine d_pure (i := 10) #[true, true, true, true, true, true, true, true, true, true, true, false, false, false, false, false, false, false, false, false, false, false, false, false] rfl (by kernel_rfl) (fun _ _ _ h => h) rfl (fun w_ => evT_no (o := ⟨_, _, _, _, _, _⟩) txs rfl (fun h => h rfl)) ?_)
    first | (refine d_pure (i := 11) #[true, true, true, true, true, true, true, true, true, true, true, true, false, false, false, false, false, false, false, false, false, false, false, false] rfl (by kernel_rfl) (fun _ _ _ h => h) rfl (fun w_ => evP_run (o := ⟨_, _, _, _, _, _⟩) txs rfl) ?_)
    first | (refine d_off (i := 12) #[true, true, true, true, true, true, true, true, true, true, true, true, true, false, false, false, false, false, false, false, false, false, false, false] rfl (by kernel_rfl) (fun _ _ _ h => h) rfl ?_) | (first | (refine d_pure (i := 12) #[true, true, true, true, true, true, true, true, true, true, true, true, true, false, false, false, false, false, false, false, false, false, false, false] rfl (by kernel_rfl) (fun _ _ _ h => h) rfl (fun w_ => evP_run (o := ⟨_, _, _, _, _, _⟩) txs rfl) ?_))
    first | (refine d_off (i := 13) #[true, true, true, true, true, true, true, true, true, true, true, true, true, true, false, false, false, false, false, false, false, false, false, false] rfl (by kernel_rfl) (fun _ _ _ h => h) rfl ?_) | (first | (refine d_pure (i := 13) #[true, true, true, true, true, true, true, true, true, true, true, true, true, true, false, false, false, false, false, false, false, false, false, false] rfl (by kernel_rfl) (fun _ _ _ h => h) rfl (fun w_ => evP_run (o := ⟨_, _, _, _, _, _⟩) txs rfl) ?_))
    first | (refine d_off (i := 14) #[true, true, true, true, true, true, true, true, true, true, true, true, true, true, true, false, false, false, false, false, false, false, false, false] rfl (by kernel_rfl) (fun _ _ _ h => h) rfl ?_) | (first | (refine d_pure (i := 14) #[true, true, true, true, true, true, true, true, true, true, true, true, true, true, true, false, false, false, false, false, false, false, false, false] rfl (by kernel_rfl) (fun _ _ _ h => h) rfl (fun w_ => evIA_run (o := ⟨_, _, _, _, _, _⟩) txs rfl (by omega) (by omega)) ?_))
    first | (refine d_off (i := 15) #[true, true, true, true, true, true, true, true, true, true, true, true, true, true, true, true, false, false, false, false, false, false, false, false] rfl (by kernel_rfl) (fun _ _ _ h => h) rfl ?_) | (first | (refine d_pure (i := 15) #[true, true, true, true, true, true, true, true, true, true, true, true, true, true, true, true, false, false, false, false, false, false, false, false] rfl (by kernel_rfl) (fun _ _ _ h => h) rfl (fun w_ => evF_run (o := ⟨_, _, _, _, _, _⟩) flds rfl) ?_) | (refine d_pure (i := 15) #[true, true, true, true, true, true, true, true, true, true, true, true, true, true, true, true, false, false, false, false, false, false, false, false] rfl (by kernel_rfl) (fun _ _ _ h => h) rfl (fun w_ => evG_run (o := ⟨_, _, _, _, _, _⟩) flds rfl) ?_))
    first | (refine d_off (i := 16) #[true, true, true, true, true, true, true, true, true, true, true, true, true, true, true, true, true, false, false, false, false, false, false, false] rfl (by kernel_rfl) (fun _ _ _ h => h) rfl ?_) | (first | (refine d_take (i := 16) #[true, true, true, true, true, true, true, true, true, true, true, true, true, true, true, true, true, false, false, false, false, false, false, false] rfl (by kernel_rfl) (fun _ _ _ h => h) rfl (fun w_ K => evL_run (o := ⟨_, _, _, _, _, _⟩) txs rfl (by rw [Int.toNat_natCast]; exact K.old q11)) HS ?_))
    first | (refine d_off (i := 17) #[true, true, true, true, true, true, true, true, true, true, true, true, true, true, true, true, true, true, false, false, false, false, false, false] rfl (by kernel_rfl) (fun _ _ _ h => h) rfl ?_) | (first | (refine d_pure (i := 17) #[true, true, true, true, true, true, true, true, true, true, true, true, true, true, true, true, true, true, false, false, false, false, false, false] rfl (by kernel_rfl) (fun _ _ _ h => h) rfl (fun w_ => evP_run (o := ⟨_, _, _, _, _, _⟩) txs rfl) ?_))
    first | (refine d_off (i := 18) #[true, true, true, true, true, true, true, true, true, true, true, true, true, true, true, true, true, true, true, false, false, false, false, false] rfl (by kernel_rfl) (fun _ _ _ h => h) rfl ?_) | (first | (refine d_pure (i := 18) #[true, true, true, true, true, true, true, true, true, true, true, true, true, true, true, true, true, true, true, false, false, false, false, false] rfl (by kernel_rfl) (fun _ _ _ h => h) rfl (fun w_ => evP_run (o := ⟨_, _, _, _, _, _⟩) txs rfl) ?_))
    first | (refine d_off (i := 19) #[true, true, true, true, true, true, true, true, true, true, true, true, true, true, true, true, true, true, true, true, false, false, false, false] rfl (by kernel_rfl) (fun _ _ _ h => h) rfl ?_) | (first | (refine d_pure (i := 19) #[true, true, true, true, true, true, true, true, true, true, true, true, true, true, true, true, true, true, true, true, false, false, false, false] rfl (by kernel_rfl) (fun _ _ _ h => h) rfl (fun w_ => evIA_run (o := ⟨_, _, _, _, _, _⟩) txs rfl (by omega) (by omega)) ?_))
    first | (refine d_off (i := 20) #[true, true, true, true, true, true, true, true, true, true, true, true, true, true, true, true, true, true, true, true, true, false, false, false] rfl (by kernel_rfl) (fun _ _ _ h => h) rfl ?_) | (first | (refine d_pure (i := 20) #[true, true, true, true, true, true, true, true, true, true, true, true, true, true, true, true, true, true, true, true, true, false, false, false] rfl (by kernel_rfl) (fun _ _ _ h => h) rfl (fun w_ => evF_run (o := ⟨_, _, _, _, _, _⟩) flds rfl) ?_) | (refine d_pure (i := 20) #[true, true, true, true, true, true, true, true, true, true, true, true, true, true, true, true, true, true, true, true, true, false, false, false] rfl (by kernel_rfl) (fun _ _ _ h => h) rfl (fun w_ => evG_run (o := ⟨_, _, _, _, _, _⟩) flds rfl) ?_))
    first | (refine d_off (i := 21) #[true, true, true, true, true, true, true, true, true, true, true, true, true, true, true, true, true, true, true, true, true, true, false, false] rfl (by kernel_rfl) (fun _ _ _ h => h) rfl ?_) | (first | (refine d_take (i := 21) #[true, true, true, true, true, true, true, true, true, true, true, true, true, true, true, true, true, true, true, true, true, true, false, false] rfl (by kernel_rfl) (fun _ _ _ h => h) rfl (fun w_ K => evL_run (o := ⟨_, _, _, _, _, _⟩) txs rfl (by rw [Int.toNat_natCast]; exact K.old q21)) HS ?_))
    first | (refine d_off (i := 22) #[true, true, true, true, true, true, true, true, true, true, true, true, true, true, true, true, true, true, true, true, true, true, true, false] rfl (by kernel_rfl) (fun _ _ _ h => h) rfl ?_) | (first | (refine d_pure (i := 22) #[true, true, true, true, true, true, true, true, true, true, true, true, true, true, true, true, true, true, true, true, true, true, true, false] rfl (by kernel_rfl) (fun _ _ _ h => h) rfl (fun w_ => evT_no (o := ⟨_, _, _, _, _, _⟩) txs rfl (fun h => h rfl)) ?_))
    first | (refine d_pure (i := 23) #[true, true, true, true, true, true, true, true, true, true, true, true, true, true, true, true, true, true, true, true, true, true, true, true] rfl (by kernel_rfl) (fun _ _ _ h => h) rfl (fun w_ => evP_run (o := ⟨_, _, _, _, _, _⟩) txs rfl) ?_)
    refine d_done rfl ?_
    repeat' (first | (with_reducible first | refine p_tn ?_ | refine p_bn ?_ | refine w_reg ?_) | (with_reducible (refine is_if ?_; (refine w_iff rfl ?_))) | (with_reducible first | refine wp_skip ?_ | refine l_nil ?_) | ((with_reducible refine g_on ?_); (first | ((with_reducible refine g_mv ?_); refine l_p txs rfl rfl ?_) | ((with_reducible refine g_as ?_); refine l_p txs rfl rfl ?_) | ((with_reducible refine g_bi ?_); (refine l_a txs rfl rfl (by first | exact in_i64 (by omega) (by omega) | exact in_u8 (by omega) (by omega) | exact in_u64 (by omega) (by omega) | exact in_i32 (by omega) (by omega)) ?_)))))
    refine ⟨i + 1, _, rfl, ⟨rfl, rfl, rfl, trivial⟩, ⟨H, by omega⟩, by omega⟩
  · repeat' (first | (with_reducible first | refine p_tn ?_ | refine p_tx ?_ | refine x_hit ?_ | refine wp_seq ?_ | refine w_reg ?_) | (with_reducible (refine is_if ?_; (refine w_iff rfl ?_))) | (with_reducible first | refine wp_exit ?_ | refine wp_ret ?_ | refine l_nil ?_) | ((with_reducible refine g_on ?_); ((with_reducible refine g_as ?_); refine l_p txs rfl rfl ?_)))
    refine end1 rfl rfl ?_
    exact ⟨rfl, H.B⟩
theorem l_neq {P : Program} {n : Nat} {ops : Array Oper} {Q : Exit → Act → World → Prop} {rest : List Oper} {f : Fr} {w : World} {d : Option Nat} {tt : TypeId} {ps : String} {af : Array Edge} {gd : Option (Nat × Bool)} {t t2 : TypeId} {x y : Operand} {u v : Value} {b : Bool} (hw : want n ops f ⟨d, .binOp .neq t x y t2, tt, ps, af, gd⟩ = true) (hx : nf (X n f x) = some u) (hy : nf (X n f y) = some v) (hg : ∀ c1 c2 : Array Value, u ≠ .agg c1 ∨ v ≠ .agg c2) (hn : u ≠ .nilIface ∨ v ≠ .nilIface)
    (hr : (binOp .neq t u v).run P w = .ok (.bool b) w) (h : WL P ops Q rest (act n (put f d (.bool b))) w) : WL P ops Q (⟨d, .binOp .neq t x y t2, tt, ps, af, gd⟩ :: rest) (act n f) w := by
  refine l_val hw ?_ h
  have e1 := nf_eq hx
  have e2 := nf_eq hy
  have hge : (eqGuard .neq t x y u v).run P w = .ok () w := by
    unfold eqGuard
    cases u <;> cases v <;> first | rfl | (exfalso; rcases hn with h | h <;> exact h rfl) | (exfalso; rcases hg _ _ with h | h <;> exact h rfl)
  unfold execOp
  simp [← e1, ← e2, hge, hr]
theorem neq_bool (a : Bool) (w : World) : (binOp .neq 4 (.bool a) (.bool a)).run Tryz.prog w = .ok (.bool false) w := by
  rw [run_neq_bool w _ a a Tryz.underlying4]
  simp
set_option maxRecDepth 100000 in
set_option maxHeartbeats 4000000 in
theorem sameResponse_c {w : World} (r : ResS) {F1 F2 B1 B2 : Option Addr} {f1 f2 b1 b2 : Nat} (h1 : Rd w F1 (fldC r.fields)) (h2 : Rd w F2 (fldC r.fields)) (k1 : ReadsInt w .u8 B1 r.body.length r.body) (k2 : ReadsInt w .u8 B2 r.body.length r.body) (hl : r.fields.length ≤ 100000000) :
    Calls Tryz.prog 72 #[.agg (resA r F1 f1 B1 b1), .agg (resA r F2 f2 B2 b2)] w fun e w' => e = .returned (.bool true) ∧ Below w.heap.size w w' := by
  refine enter (args := [.agg (resA r F1 f1 B1 b1), .agg (resA r F2 f2 B2 b2)]) Tryz.func72 rfl Tryz.ntmps72 rfl ?_
  have H := Hp.nil w
  repeat' (first | (with_reducible first | refine p_tn ?_ | refine wp_seq ?_ | refine w_reg ?_ | refine l_nil ?_) | ((with_reducible refine g_on ?_); (first | ((with_reducible refine g_as ?_); refine l_p txs rfl rfl ?_) | ((with_reducible refine g_fa ?_); refine h_fa flds rfl rfl ?_) | ((with_reducible refine g_ld ?_); (first | (refine h_ld txs H 0 rfl rfl rfl rfl ?_) | (refine h_ld txs H 1 rfl rfl rfl rfl ?_))) | ((with_reducible refine g_bx ?_); refine h_box H rfl rfl rfl (fun g_ w_ H => ?_)))))
  (with_reducible refine is_l ?_); refine l_t txs rfl rfl (fun hh => absurd rfl hh) (fun _ => ?_)
  repeat' (first | ((with_reducible refine g_on ?_); ((with_reducible refine g_mv ?_); refine l_p txs rfl rfl ?_)) | ((with_reducible refine g_if ?_); (first | ((with_reducible refine g_fa ?_); refine h_fa flds rfl rfl ?_) | ((with_reducible refine g_ld ?_); (first | (refine h_ld txs H 0 rfl rfl rfl rfl ?_) | (refine h_ld txs H 1 rfl rfl rfl rfl ?_))))))
  (with_reducible refine is_l ?_); refine l_t txs rfl rfl (fun hh => absurd rfl hh) (fun _ => ?_)
  repeat' (first | ((with_reducible refine g_on ?_); (first | ((with_reducible refine g_mv ?_); refine l_p txs rfl rfl ?_) | ((with_reducible refine g_pk ?_); refine l_p txs rfl rfl ?_))) | ((with_reducible refine g_if ?_); (first | ((with_reducible refine g_fa ?_); refine h_fa flds rfl rfl ?_) | ((with_reducible refine g_ld ?_); (first | (refine h_ld txs H 0 rfl rfl rfl rfl ?_) | (refine h_ld txs H 1 rfl rfl rfl rfl ?_))))))
  (with_reducible refine is_l ?_); refine l_neq rfl rfl rfl (fun _ _ => .inl (by simp)) (.inl (by simp)) (neq_bool r.close _) ?_
  repeat' (first | (with_reducible first | refine p_tn ?_ | refine wp_seq ?_ | refine w_reg ?_) | (with_reducible (refine is_if ?_; (refine w_iff rfl ?_))) | (with_reducible first | refine wp_skip ?_ | refine l_nil ?_) | ((with_reducible refine g_on ?_); (first | ((with_reducible refine g_pk ?_); refine l_p txs rfl rfl ?_) | ((with_reducible refine g_fa ?_); refine h_fa flds rfl rfl ?_) | ((with_reducible refine g_ld ?_); (first | (refine h_ld txs H 0 rfl rfl rfl rfl ?_) | (refine h_ld txs H 1 rfl rfl rfl rfl ?_))))))
  (with_reducible refine is_l ?_); refine l_callv rfl rfl (by kernel_rfl) (sameFields_c (h1.below H.B) (h2.below H.B) hl) (fun w_ K => ?_)
  have H := H.call K
  repeat' (first | ((with_reducible refine g_on ?_); ((with_reducible refine g_mv ?_); refine l_p txs rfl rfl ?_)) | ((with_reducible refine g_if ?_); (first | ((with_reducible refine g_fa ?_); refine h_fa flds rfl rfl ?_) | ((with_reducible refine g_ld ?_); (refine h_ld txs H 1 rfl rfl rfl rfl ?_)))))
  (with_reducible refine is_l ?_); refine l_text rfl rfl Tryz.underlying23 Tryz.underlying5 Tryz.underlying9 (k1.below H.B) ?_
  repeat' ((with_reducible refine g_if ?_); (first | ((with_reducible refine g_fa ?_); refine h_fa flds rfl rfl ?_) | ((with_reducible refine g_ld ?_); (refine h_ld txs H 0 rfl rfl rfl rfl ?_))))
  (with_reducible refine is_l ?_); refine l_text rfl rfl Tryz.underlying23 Tryz.underlying5 Tryz.underlying9 (k2.below H.B) ?_
  (with_reducible refine is_l ?_); refine l_t txs rfl rfl (fun _ => ?_) (fun hh => absurd rfl hh)
  repeat' (first | (with_reducible first | refine p_tn ?_ | refine wp_ret ?_ | refine l_nil ?_) | ((with_reducible refine g_on ?_); (first | ((with_reducible refine g_as ?_); refine l_p txs rfl rfl ?_) | ((with_reducible refine g_pk ?_); refine l_p txs rfl rfl ?_))))
  refine end1 rfl rfl ?_
  exact ⟨rfl, H.B⟩
end Go.Proofs.YthgojbdpmcccaaaGreatDoor.K.Ref
end
section
namespace Go.Proofs.YthgojbdpmcccaaaGreatDoor.K.Ref
open Go.RowKit Go.Proofs.YthgojbdpmcccaaaGreatDoor.Q Go.Proofs.YthgojbdpmcccaaaGreatDoor.Wb Go.Proofs.YthgojbdpmcccaaaGreatDoorW.PrintWords Go.Proofs.YthgojbdpmcccaaaGreatDoor.K
set_option linter.unusedVariables false
set_option linter.unusedSimpArgs false
theorem reads_nil (w : World) : ReadsInt w .u8 none 0 [] := ⟨rfl, Nat.zero_le _, fun h0 => absurd h0 (Nat.lt_irrefl 0)⟩
theorem rd_nil (w : World) : Rd w none [] := ⟨fun _ => rfl, fun ad e => by cases e⟩
theorem rsR_out {w : World} {b : L} {e : Ending} {w' : World} (h : RsR w b e w') : ∃ F f B c, e = .returned (.tuple #[.agg (resA (outRes b).1 F f B c), .int .i64 ((outRes b).2.1 : Int), .int .i64 ((outRes b).2.2 : Int)]) ∧ Below w.heap.size w w' ∧ Rd w' F (fldC (outRes b).1.fields) ∧ ReadsInt w' .u8 B (outRes b).1.body.length (outRes b).1.body := by
  unfold RsR at h
  unfold outRes
  cases hp : parseResS b with
  | error k =>
    rw [hp] at h
    obtain ⟨rfl, K⟩ := h
    exact ⟨none, 0, none, 0, rfl, K, rd_nil w', reads_nil w'⟩
  | ok z =>
    obtain ⟨r, n⟩ := z
    rw [hp] at h
    exact h
theorem built_op (k : Int) (B : Option Addr) (n c : Nat) : Tryz.prog.built 56 [(0, .int .i64 k), (1, .slice B n c)] = some #[.int .i64 k, .slice B n c, .int .i64 0, .int .i64 0, .string ⟨#[]⟩, .string ⟨#[]⟩, .string ⟨#[]⟩, .int .i64 0, .slice none 0 0, .slice none 0 0, .slice none 0 0, .int .i64 0, .int .i64 0, .int .i64 0, .slice none 0 0, .slice none 0 0, .slice none 0 0, .int .i64 0] := by kernel_rfl
set_option maxRecDepth 100000 in
set_option maxHeartbeats 16000000 in
theorem parsesS_c {A : Nat → Addr} {w : World} (hE : LayS A w) (h13 : Sent w (gE 13) (A 13)) {mx : Int} (hM : w.cell? ⟨20, 0, none⟩ = some (.int .i64 mx))
    {B1 : Option Addr} {k1 : Nat} {b : L} (h1 : ReadsInt w .u8 B1 b.length b) (hb : Bytes b) (hs : b.length ≤ 10000000) (pad n : Int) (t m1 m2 : ByteArray) (i1 i2 i3 i4 : Int) (s1 s2 s3 s4 s5 s6 : Option Addr) (l1 l2 l3 l4 l5 l6 d1 d2 d3 d4 d5 d6 : Nat) (i5 : Int) :
    Calls Tryz.prog 31 #[.agg #[.int .i64 2, .slice B1 b.length k1, .int .i64 pad, .int .i64 n, .string t, .string m1, .string m2, .int .i64 i1, .slice s1 l1 d1, .slice s2 l2 d2, .slice s3 l3 d3, .int .i64 i2, .int .i64 i3, .int .i64 i4, .slice s4 l4 d4, .slice s5 l5 d5, .slice s6 l6 d6, .int .i64 i5]] w fun e w' => e = .returned (.bool true) ∧ Below w.heap.size w w' := by
  refine enter (args := [.agg #[.int .i64 2, .slice B1 b.length k1, .int .i64 pad, .int .i64 n, .string t, .string m1, .string m2, .int .i64 i1, .slice s1 l1 d1, .slice s2 l2 d2, .slice s3 l3 d3, .int .i64 i2, .int .i64 i3, .int .i64 i4, .slice s4 l4 d4, .slice s5 l5 d5, .slice s6 l6 d6, .int .i64 i5]]) Tryz.func31 rfl Tryz.ntmps31 rfl ?_
  have H := Hp.nil w
  repeat' (with_reducible first | refine wp_seq ?_ | refine w_reg ?_)
  (with_reducible refine is_l ?_); refine h_box H rfl rfl rfl (fun gX w_ H => ?_)
  repeat' (first | (with_reducible first | refine p_tn ?_ | refine wp_seq ?_ | refine w_reg ?_ | refine l_nil ?_) | ((with_reducible refine g_on ?_); (first | ((with_reducible refine g_as ?_); refine l_p txs rfl rfl ?_) | ((with_reducible refine g_fa ?_); refine h_fa flds rfl rfl ?_) | ((with_reducible refine g_ld ?_); (refine h_ld txs H 0 rfl rfl rfl rfl ?_)))))
  (with_reducible refine is_l ?_); refine l_call rfl rfl (by kernel_rfl) (padded_c (h1.below H.B) pad (by omega)) (fun e w_ hR => ?_)
  obtain ⟨A0, c0, rfl, K⟩ := hR
  refine ⟨_, rfl, ?_⟩
  have H := H.join K
  have hpb : Bytes (padS b pad) := fun x hx => (List.mem_append.1 hx).elim (hb x) (fun hx => by have := List.eq_of_mem_replicate hx; omega)
  have hpl : (padS b pad).length ≤ 11100000 := by unfold padS padN; rw [List.length_append, List.length_replicate]; split <;> omega
  have H : Hp w w_ _ [rowB (.slice A0 (padS b pad).length c0) (padS b pad)] := H
  generalize padS b pad = X at H hpb hpl ⊢
  repeat' (first | (with_reducible first | refine p_tn ?_ | refine wp_seq ?_ | refine wp_block ?_ | refine w_reg ?_ | refine l_nil ?_) | ((with_reducible refine g_on ?_); (first | ((with_reducible refine g_as ?_); refine l_p txs rfl rfl ?_) | ((with_reducible refine g_fa ?_); refine h_fa flds rfl rfl ?_) | ((with_reducible refine g_ld ?_); (refine h_ld txs H 0 rfl rfl rfl rfl ?_)))))
  (with_reducible refine is_l ?_); refine l_t txs rfl rfl (fun hh => absurd hh (by decide)) (fun _ => ?_)
  repeat' (first | (with_reducible first | refine p_tn ?_ | refine wp_seq ?_ | refine w_reg ?_) | (with_reducible (refine is_if ?_; (refine w_iff rfl ?_))) | (with_reducible refine l_nil ?_) | ((with_reducible refine g_on ?_); ((with_reducible refine g_as ?_); refine l_p txs rfl rfl ?_)))
  (with_reducible refine is_l ?_); refine l_t txs rfl rfl (fun _ => ?_) (fun hh => absurd rfl hh)
  repeat' (first | (with_reducible first | refine p_tn ?_ | refine wp_seq ?_ | refine w_reg ?_) | (with_reducible (refine is_if ?_; (refine w_ift rfl ?_))) | (with_reducible refine l_nil ?_) | ((with_reducible refine g_on ?_); (first | ((with_reducible refine g_mv ?_); refine l_p txs rfl rfl ?_) | ((with_reducible refine g_as ?_); refine l_p txs rfl rfl ?_))))
  obtain ⟨ra, ra2, ra3⟩ := rowB_rd H 0 (F := A0) (f := c0) (x := X) rfl
  (with_reducible refine is_l ?_); refine l_call rfl rfl (by kernel_rfl) (rParseResponse_c ra hpb (by omega)) (fun e w_ hR => ?_)
  obtain ⟨F1, f1, P1, p1, rfl, K, hF1, hP1⟩ := rsR_out hR
  refine ⟨_, rfl, ?_⟩
  have ra := ra.below K
  have H0 := H.call K
  have hEf := hE.below H0.B
  have h13f := h13.below H0.B
  have hMf := H0.old hM
  obtain ⟨w, hwf⟩ : ∃ wf, wf = w_ := ⟨_, rfl⟩
  rw [← hwf] at H0 hEf h13f hMf ra hF1 hP1
  have H : Hp w w_ [] [] := by rw [hwf]; exact Hp.nil _
  clear hwf
  obtain ⟨hbm1, hlm1⟩ : BytesF (outRes X).1.fields ∧ (outRes X).1.fields.length ≤ 64 := outRes_bytes hpb (by omega)
  generalize hq : outRes X = q at hF1 hP1 hbm1 hlm1 ⊢
  repeat' (first | (with_reducible first | refine p_tn ?_ | refine wp_seq ?_ | refine w_reg ?_ | refine l_nil ?_) | ((with_reducible refine g_on ?_); (first | ((with_reducible refine g_mv ?_); refine l_p txs rfl rfl ?_) | ((with_reducible refine g_as ?_); refine l_p txs rfl rfl ?_) | ((with_reducible refine g_ex ?_); refine l_p txs rfl rfl ?_) | ((with_reducible refine g_st ?_); (refine h_stR recs H 0 rfl rfl rfl rfl rfl rfl rfl rfl rfl (fun w_ H => ?_))) | ((with_reducible refine g_al ?_); refine h_alloc recs H rfl rfl (fun g_ w_ H => ?_)))))
  (with_reducible refine is_l ?_); refine l_call rfl rfl (by kernel_rfl) (ParseResponse_c (hEf.below H.B) (h13f.below H.B) (H.old hMf) (ra.below H.B) ra2 ra3 hpb (by omega)) (fun e w_ hR => ?_)
  have hR := ptR_out hR
  rw [hq] at hR
  obtain ⟨F2, f2, P2, p2, rfl, K⟩ := hR
  refine ⟨_, rfl, ?_⟩
  have H := H.join K
  repeat' (first | (with_reducible first | refine p_tn ?_ | refine wp_seq ?_ | refine w_reg ?_ | refine l_nil ?_) | ((with_reducible refine g_on ?_); (first | ((with_reducible refine g_mv ?_); refine l_p txs rfl rfl ?_) | ((with_reducible refine g_as ?_); refine l_p txs rfl rfl ?_) | ((with_reducible refine g_ex ?_); refine l_p txs rfl rfl ?_) | ((with_reducible refine g_st ?_); (refine h_stR recs H 0 rfl rfl rfl rfl rfl rfl rfl rfl rfl (fun w_ H => ?_))) | ((with_reducible refine g_al ?_); refine h_alloc recs H rfl rfl (fun g_ w_ H => ?_)))))
  (with_reducible refine is_l ?_); refine l_t txs rfl rfl (fun _ => ?_) (fun hh => absurd rfl hh)
  repeat' (first | ((with_reducible refine g_on ?_); ((with_reducible refine g_mv ?_); refine l_p txs rfl rfl ?_)) | ((with_reducible refine g_if ?_); ((with_reducible refine g_mv ?_); refine l_p txs rfl rfl ?_)))
  (with_reducible refine is_l ?_); refine l_t txs rfl rfl (fun _ => ?_) (fun hh => absurd rfl hh)
  repeat' (first | ((with_reducible refine g_on ?_); (first | ((with_reducible refine g_mv ?_); refine l_p txs rfl rfl ?_) | ((with_reducible refine g_pk ?_); refine l_p txs rfl rfl ?_))) | ((with_reducible refine g_if ?_); ((with_reducible refine g_ld ?_); (first | (refine h_ldR recs H 0 rfl rfl rfl rfl rfl ?_) | (refine h_ldR recs H 1 rfl rfl rfl rfl rfl ?_)))))
  (with_reducible refine is_l ?_); refine l_callv rfl rfl (by kernel_rfl) (sameResponse_c q.1 (rowF_rd H 0 rfl) (hF1.below H.B) (rowB_rd H 1 (x := q.1.body) rfl).1 (hP1.below H.B) (by omega)) (fun w_ K => ?_)
  have H := H.call K
  repeat' (first | (with_reducible first | refine p_tn ?_ | refine p_tr ?_ | refine p_br ?_ | refine wp_ret ?_ | refine l_nil ?_) | ((with_reducible refine g_on ?_); (first | ((with_reducible refine g_as ?_); refine l_p txs rfl rfl ?_) | ((with_reducible refine g_pk ?_); refine l_p txs rfl rfl ?_))))
  refine end1 rfl rfl ?_
  exact ⟨rfl, Bt H0.B H.B⟩
set_option maxHeartbeats 4000000 in
theorem responses_c {A : Nat → Addr} {w : World} (hE : LayS A w) (h13 : Sent w (gE 13) (A 13)) {mx : Int} (hM : w.cell? ⟨20, 0, none⟩ = some (.int .i64 mx)) {tM : TypeId} {frM : Nat × Nat} (hT : w.heap[17]? = some (.cells meC tM frM))
    {B1 : Option Addr} {k1 : Nat} {b : L} (h1 : ReadsInt w .u8 B1 b.length b) (hb : Bytes b) (hs : b.length ≤ 10000000) :
    Calls Tryz.prog 10 #[.slice B1 b.length k1] w fun e w' => e = .returned (.bool true) ∧ Below w.heap.size w w' := by
  have hTb : ∀ w1, Below w.heap.size w w1 → w1.heap[17]? = some (.cells meC tM frM) := fun w1 K => (K.block _ (blk_lt hT)).trans hT
  refine enter (args := [.slice B1 b.length k1]) Tryz.func10 rfl Tryz.ntmps10 rfl ?_
  have H := Hp.nil w
  repeat' (first | (with_reducible first | refine p_tn ?_ | refine wp_seq ?_ | refine w_reg ?_ | refine l_nil ?_) | ((with_reducible refine g_on ?_); ((with_reducible refine g_as ?_); refine l_p txs rfl rfl ?_)))
  (with_reducible refine is_l ?_); refine l_callv rfl rfl (by kernel_rfl) (known_c (hE.below H.B) (H.old hM) (hTb _ H.B)) (fun w_ K => ?_)
  have H := H.call K
  repeat' (first | ((with_reducible refine g_on ?_); ((with_reducible refine g_mv ?_); refine l_p txs rfl rfl ?_)) | ((with_reducible refine g_if ?_); ((with_reducible refine g_mv ?_); refine l_p txs rfl rfl ?_)))
  (with_reducible refine is_l ?_); refine h_bld rfl rfl (built_op _ _ _ _) ?_
  skip
  (with_reducible refine is_l ?_); refine l_callv rfl rfl (by kernel_rfl) (parsesS_c (hE.below H.B) (h13.below H.B) (H.old hM) (h1.below H.B) hb hs 0 0 ⟨#[]⟩ ⟨#[]⟩ ⟨#[]⟩ 0 0 0 0 none none none none none none 0 0 0 0 0 0 0 0 0 0 0 0 0) (fun w_ K => ?_)
  have H := H.call K
  repeat' (first | (with_reducible first | refine p_tn ?_ | refine wp_ret ?_ | refine l_nil ?_) | ((with_reducible refine g_on ?_); (first | ((with_reducible refine g_as ?_); refine l_p txs rfl rfl ?_) | ((with_reducible refine g_pk ?_); refine l_p txs rfl rfl ?_))))
  refine end1 rfl rfl ?_
  exact ⟨rfl, H.B⟩
end Go.Proofs.YthgojbdpmcccaaaGreatDoor.K.Ref
end
