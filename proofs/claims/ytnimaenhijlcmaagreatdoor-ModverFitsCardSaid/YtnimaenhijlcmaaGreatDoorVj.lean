/- Digits trimmed off the end. -/
import Derived.Test.YtnimaenhijlcmaaGreatDoorVi
namespace Go.Proofs.YtnimaenhijlcmaaGreatDoor.K
open Go.RowKit Go.Proofs.YtnimaenhijlcmaaGreatDoor.Q Go.Proofs.YtnimaenhijlcmaaGreatDoor.Mb Go.Proofs.YtnimaenhijlcmaaGreatDoorW.PrintWords
set_option linter.unusedVariables false
set_option linter.unusedSimpArgs false

section
variable {P : Program} {n : Nat} {ops : Array Oper} {Q : Exit → Act → World → Prop} {rest : List Oper} {f : Fr} {w : World} {d : Option Nat} {op : Op} {tt : TypeId} {ps : String} {af : Array Edge} {gd : Option (Nat × Bool)}
theorem l_valw {v : Value} {w' : World} (hw : want n ops f ⟨d, op, tt, ps, af, gd⟩ = true) (hv : (execOp (X n f) ⟨d, op, tt, ps, af, gd⟩).run P w = .ok (.value v) w') (h : WL P ops Q rest (act n (put f d v)) w') : WL P ops Q (⟨d, op, tt, ps, af, gd⟩ :: rest) (act n f) w := by
  refine ⟨?_⟩
  have h := h.out
  simp only [wpList, want_eq, hw, if_true]
  left
  unfold Oper.wp
  rw [eval_act, hv]
  simp only [Oper.upon, put_act]
  exact h
end
section
variable {P : Program} {n : Nat} {ops : Array Oper} {Q : Exit → Act → World → Prop} {rest : List Oper} {f : Fr} {w : World} {d : Option Nat} {op : Op} {tt : TypeId} {ps : String} {af : Array Edge} {gd : Option (Nat × Bool)}
theorem l_skip {w' : World} (hw : want n ops f ⟨d, op, tt, ps, af, gd⟩ = true) (hv : (execOp (X n f) ⟨d, op, tt, ps, af, gd⟩).run P w = .ok .skip w') (h : WL P ops Q rest (act n (put f d undef)) w') : WL P ops Q (⟨d, op, tt, ps, af, gd⟩ :: rest) (act n f) w := by
  refine ⟨?_⟩
  have h := h.out
  simp only [wpList, want_eq, hw, if_true]
  left
  unfold Oper.wp
  rw [eval_act, hv]
  simp only [Oper.upon, put_act]
  exact h
end
section
variable {P : Program} {n : Nat} {ops : Array Oper} {Q : Exit → Act → World → Prop} {rest : List Oper} {f : Fr} {w : World} {d : Option Nat} {op : Op} {tt : TypeId} {ps : String} {af : Array Edge} {gd : Option (Nat × Bool)}
theorem run_alloc {t : TypeId} {i : TypeInfo} {z : Value} (hi : P.info? t = some i) (hz : i.zero = some z) : (Instr.alloc t true (.tuple #[])).run P w = .ok (.pointer (some ⟨w.heap.size, 0, none⟩)) (w.alloc (.cells z.cells t)) := by
  simp [Instr.alloc, zeroValue, typeInfo, hi, hz, newVar, newRow, go_sem]
end
section
variable {P : Program} {n : Nat} {ops : Array Oper} {Q : Exit → Act → World → Prop} {rest : List Oper} {f : Fr} {w : World} {d : Option Nat} {op : Op} {tt : TypeId} {ps : String} {af : Array Edge} {gd : Option (Nat × Bool)}
theorem l_alloc {t : TypeId} {i : TypeInfo} {z : Value} (hw : want n ops f ⟨d, .alloc t, tt, ps, af, gd⟩ = true) (hi : P.info? t = some i) (hz : i.zero = some z)
    (h : WL P ops Q rest (act n (put f d (.pointer (some ⟨w.heap.size, 0, none⟩)))) (w.alloc (.cells z.cells t))) : WL P ops Q (⟨d, .alloc t, tt, ps, af, gd⟩ :: rest) (act n f) w := by
  refine l_valw hw ?_ h
  have := run_alloc (P := P) (w := w) hi hz
  unfold execOp
  simp [this]
end
section
variable {P : Program} {n : Nat} {ops : Array Oper} {Q : Exit → Act → World → Prop} {rest : List Oper} {f : Fr} {w : World} {d : Option Nat} {op : Op} {tt : TypeId} {ps : String} {af : Array Edge} {gd : Option (Nat × Bool)}
theorem l_store_new {t : TypeId} {c c' : Array Value} {x y : Operand} (hw : want n ops f ⟨none, .store t x y, tt, ps, af, gd⟩ = true) (hx : X n f x = .pointer (some ⟨w.heap.size, 0, none⟩)) (hy : X n f y = .agg c') (hi : (P.info? t).map (·.size) = some c'.size) (ho : c.size = c'.size) (h1 : c'.all (·.oneCell') = true)
    (h : WL P ops Q rest (act n f) (w.alloc (.cells c' t))) : WL P ops Q (⟨none, .store t x y, tt, ps, af, gd⟩ :: rest) (act n f) (w.alloc (.cells c t)) := by
  refine l_skip hw ?_ h
  have := run_storeAt_new (P := P) w t c c' hi ho h1
  unfold execOp
  simp [hx, hy, this]
end
theorem new_cell (w : World) (t : TypeId) (cs : Array Value) (j : Nat) : (w.alloc (.cells cs t)).cell? ⟨w.heap.size, j, none⟩ = cs[j]? := cell_of_row _ _ _ cs t (0, 0) (heap_alloc_new w _)
def ds8 : List UInt8 := [48, 49, 50, 51, 52, 53, 54, 55, 56, 57]
theorem ds_dig (x : UInt8) : ds8.contains x = digB (x.toNat : Int) := by
  have h : ∀ i : Fin 256, ds8.contains (UInt8.ofNat i.val) = digB (i.val : Int) := by decide +kernel
  have h2 := h ⟨x.toNat, x.toNat_lt⟩
  simpa using h2
/-- The set of the digits lies at block b. -/
def SetB (w : World) (b : Nat) : Prop := ∀ x : UInt8, w.cell? ⟨b, x.toNat, none⟩ = some (.bool (digB (x.toNat : Int)))
theorem inSet_c {w : World} {b : Nat} (h : SetB w b) (c : Int) (h0 : 0 ≤ c) (h1 : c ≤ 255) : Calls Tryz.prog 170 #[.pointer (some ⟨b, 0, none⟩), .int .u8 c] w fun e w' => e = .returned (.bool (digB c)) ∧ w' = w := by
  have e := ofNat_toNat h0 h1
  have := Tryz.asciiSet_contains b (UInt8.ofNat c.toNat) _ w (h _)
  rw [e] at this
  exact this
theorem bare_snoc (u : L) (x : Int) : digBare (u ++ [x]) = if digB x = true then digBare u else u ++ [x] := by
  unfold digBare
  rw [List.reverse_append, List.reverse_cons, List.reverse_nil, List.nil_append, List.singleton_append, List.dropWhile_cons]
  split
  · rfl
  · simp
theorem snoc_of {l : L} {k : Nat} {x : Int} (h : l[k]? = some x) (hk : l.length = k + 1) : l = l.take k ++ [x] := by
  have h2 := List.take_succ_eq_append_getElem (l := l) (i := k) (by omega)
  rw [List.take_of_length_le (by omega)] at h2
  rw [(List.getElem?_eq_some_iff.1 h).2] at h2
  exact h2
set_option maxHeartbeats 4000000 in
theorem trimA_c {w : World} {b : Nat} (h : SetB w b) (t : ByteArray) (ht : t.size ≤ 100000000) : Calls Tryz.prog 161 #[.string t, .pointer (some ⟨b, 0, none⟩)] w fun e w' => e = .returned (.string (strOfNums (digBare (bl t)))) ∧ w' = w := by
  refine enter (args := [.string t, .pointer (some ⟨b, 0, none⟩)]) Tryz.func161 rfl Tryz.ntmps161 rfl ?_
  repeat' (first | (with_reducible first | refine p_tn ?_ | refine wp_seq ?_ | refine wp_block ?_ | refine w_reg ?_ | refine l_nil ?_) | (with_reducible (refine is_l ?_; (refine l_p tys rfl rfl ?_))))
  refine w_loop (σ := ByteArray) (S := fun v => [(0, .string v), (1, .pointer (some ⟨b, 0, none⟩))]) (J := fun v w' => w' = w ∧ digBare (bl t) = digBare (bl v) ∧ v.size ≤ t.size) (μ := fun v => v.size) t ⟨rfl, rfl, trivial⟩ ⟨rfl, rfl, Nat.le_refl _⟩ ?_
  rintro v f w1 ⟨rfl, hv, hvt⟩
  have hvl := bl_length v
  repeat' (first | (with_reducible first | refine wp_seq ?_ | refine w_reg ?_) | (with_reducible (refine is_l ?_; (refine l_p tys rfl rfl ?_))))
  (with_reducible refine is_l ?_); refine l_t tys rfl rfl (fun hgt => ?_) (fun hle => ?_)
  · obtain ⟨k, hk⟩ : ∃ k, v.size = k + 1 := ⟨v.size - 1, by omega⟩
    obtain ⟨x, hx⟩ : ∃ x, (bl v)[k]? = some x := ⟨_, List.getElem?_eq_getElem (by omega)⟩
    have hx2 := bl_bytes v x (List.mem_of_getElem? hx)
    have hs := snoc_of hx (by omega)
    have hat : at_ (bl v) ((v.size : Int) - 1) = x := by unfold at_; rw [show ((v.size : Int) - 1).toNat = k by omega, List.getD_eq_getElem?_getD, hx]; rfl
    repeat' (first | (with_reducible first | refine p_tn ?_ | refine wp_seq ?_ | refine wp_block ?_ | refine w_reg ?_) | (with_reducible (refine is_if ?_; (refine w_ift rfl ?_))) | (with_reducible first | refine wp_skip ?_ | refine l_nil ?_) | (with_reducible (refine is_l ?_; (first | (refine l_p tys rfl rfl ?_) | (refine l_a tys rfl rfl (by first | exact in_i64 (by omega) (by omega) | exact in_u8 (by omega) (by omega) | exact in_u64 (by omega) (by omega) | exact in_i32 (by omega) (by omega)) ?_) | (refine l_ix tys rfl rfl (by first | omega | assumption | decide) (by first | omega | assumption | decide) ?_)))))
    rw [hat]
    (with_reducible refine is_l ?_); refine l_callp rfl rfl (by kernel_rfl) (inSet_c h x hx2.1 hx2.2) ?_
    cases hd : digB x
    · have hb : digBare (bl t) = bl v := by
        rw [hv, hs, bare_snoc, hd, if_neg (by simp)]
      repeat' (first | (with_reducible first | refine p_tn ?_ | refine p_tx ?_ | refine x_hit ?_ | refine x_miss rfl ?_ | refine wp_seq ?_ | refine w_reg ?_) | (with_reducible (refine is_if ?_; (refine w_ift rfl ?_))) | (with_reducible first | refine wp_exit ?_ | refine wp_ret ?_ | refine l_nil ?_) | (with_reducible (refine is_l ?_; (refine l_p tys rfl rfl ?_))))
      refine end1 rfl rfl ?_
      exact ⟨by rw [hb, strS], rfl⟩
    · have hto : ((v.size : Int) - 1).toNat = k := by omega
      have hb : bl (v.extract 0 k) = (bl v).take k := by rw [blE]; simp
      repeat' (first | (with_reducible first | refine p_tn ?_ | refine p_bn ?_ | refine w_reg ?_) | (with_reducible (refine is_if ?_; (refine w_iff rfl ?_))) | (with_reducible first | refine wp_skip ?_ | refine l_nil ?_) | (with_reducible (refine is_l ?_; (first | (refine l_p tys rfl rfl ?_) | (refine l_a tys rfl rfl (by first | exact in_i64 (by omega) (by omega) | exact in_u8 (by omega) (by omega) | exact in_u64 (by omega) (by omega) | exact in_i32 (by omega) (by omega)) ?_) | (refine l_sl tys rfl rfl (by first | omega | assumption | decide) (by first | omega | assumption | decide) (by first | omega | assumption | decide) ?_)))))
      refine ⟨v.extract 0 k, _, rfl, ⟨by show Value.string (v.extract _ _) = _; rw [hto]; rfl, rfl, trivial⟩, ⟨rfl, ?_, by rw [← bl_length, hb, List.length_take]; omega⟩, ?_⟩
      · rw [hv, hb]
        conv => lhs; rw [hs]
        rw [bare_snoc, hd, if_pos rfl]
      · rw [← bl_length, hb, List.length_take]; omega
  · have h0 : bl v = [] := List.eq_nil_of_length_eq_zero (by omega)
    have hb : digBare (bl t) = bl v := by rw [hv, h0]; rfl
    repeat' (first | (with_reducible first | refine p_tn ?_ | refine p_tx ?_ | refine x_hit ?_ | refine wp_seq ?_ | refine w_reg ?_) | (with_reducible (refine is_if ?_; (refine w_iff rfl ?_))) | (with_reducible first | refine wp_exit ?_ | refine wp_ret ?_ | refine l_nil ?_) | (with_reducible (refine is_l ?_; (refine l_p tys rfl rfl ?_))))
    refine end1 rfl rfl ?_
    exact ⟨by rw [hb, strS], rfl⟩
theorem info_setA : (Tryz.prog.info? 161).map (fun i => (i.zero, i.size)) = some (some (.agg (Array.replicate 256 (.bool false))), 256) := by kernel_rfl
theorem zero_set (w : World) : (zeroValue 161).run Tryz.prog w = .ok (.agg (Array.replicate 256 (.bool false))) w := by
  obtain ⟨i0, hi, hz⟩ := Option.map_eq_some_iff.1 info_setA
  simp only [Prod.mk.injEq] at hz
  simp [zeroValue, typeInfo, hi, hz.1, go_sem]
set_option maxRecDepth 100000 in
set_option maxHeartbeats 4000000 in
theorem trimDig_c (t : ByteArray) (w : World) (ht : t.size ≤ 100000000) : Calls Tryz.prog 141 #[.string t, .string ⟨#[48, 49, 50, 51, 52, 53, 54, 55, 56, 57]⟩] w fun e w' => e = .returned (.string (strOfNums (digBare (bl t)))) ∧ Below w.heap.size w w' := by
  obtain ⟨i0, hi, hz⟩ := Option.map_eq_some_iff.1 info_setA
  simp only [Prod.mk.injEq] at hz
  refine enter (args := [.string t, .string ⟨#[48, 49, 50, 51, 52, 53, 54, 55, 56, 57]⟩]) Tryz.func141 rfl Tryz.ntmps141 rfl ?_
  repeat' (first | (with_reducible first | refine p_tn ?_ | refine wp_seq ?_ | refine w_reg ?_ | refine l_nil ?_) | (with_reducible (refine is_l ?_; (refine l_p tys rfl rfl ?_))))
  (with_reducible refine is_l ?_); refine l_t tys rfl rfl (fun h1 => ?_) (fun h1 => ?_)
  · have h1 : bl t = [] := h1
    repeat' (first | (with_reducible first | refine p_tn ?_ | refine p_tr ?_ | refine wp_seq ?_ | refine w_reg ?_) | (with_reducible (refine is_if ?_; (refine w_ift rfl ?_))) | (with_reducible first | refine wp_ret ?_ | refine l_nil ?_) | (with_reducible (refine is_l ?_; (first | (refine l_off rfl ?_) | (refine l_p tys rfl rfl ?_)))))
    refine end1 rfl rfl ?_
    refine ⟨?_, Below.refl _ w⟩
    rw [h1]
    congr 2
    exact bl_inj (by rw [h1]; rfl)
  repeat' (with_reducible (refine is_l ?_; (refine l_p tys rfl rfl ?_)))
  (with_reducible refine is_l ?_); refine l_t tys rfl rfl (fun h2 => absurd h2 (by decide)) (fun h2 => ?_)
  repeat' (first | (with_reducible first | refine p_tn ?_ | refine wp_seq ?_ | refine w_reg ?_) | (with_reducible (refine is_if ?_; (refine w_iff rfl ?_))) | (with_reducible first | refine wp_skip ?_ | refine l_nil ?_) | (with_reducible (refine is_l ?_; (refine l_p tys rfl rfl ?_))))
  (with_reducible refine is_l ?_); refine l_t tys rfl rfl (fun h3 => absurd h3 (by decide)) (fun h3 => ?_)
  repeat' (first | (with_reducible first | refine p_tn ?_ | refine wp_seq ?_ | refine w_reg ?_) | (with_reducible (refine is_if ?_; (refine w_iff rfl ?_))) | (with_reducible first | refine wp_skip ?_ | refine l_nil ?_) | (with_reducible (refine is_l ?_; (first | (refine l_off rfl ?_) | (refine l_p tys rfl rfl ?_)))))
  have hset := Tryz.strings_makeASCIISet zero_set ⟨#[48, 49, 50, 51, 52, 53, 54, 55, 56, 57]⟩ w (by decide) (fun j b h => (show ∀ x ∈ ds8, x.toNat < 128 by decide) b (List.mem_of_getElem? h))
  (with_reducible refine is_l ?_); refine l_call rfl rfl (by kernel_rfl) hset (fun e w_ hR => ?_)
  obtain ⟨rfl, rfl⟩ := hR
  refine ⟨_, rfl, ?_⟩
  have K1 : Below w.heap.size w (w.alloc (.cells (Lib.setCells ds8) 161)) := (Below.refl _ w).alloc (Nat.le_refl _) _
  have hsc : (⟨#[48, 49, 50, 51, 52, 53, 54, 55, 56, 57]⟩ : ByteArray).data.toList = ds8 := rfl
  rw [hsc]
  generalize hC : Lib.setCells ds8 = C at K1 ⊢
  have hCs : C.size = 256 := by rw [← hC]; decide +kernel
  have hC1 : C.all (·.oneCell') = true := by rw [← hC]; decide +kernel
  generalize w.alloc (.cells C 161) = w1 at K1 ⊢
  repeat' (with_reducible (refine is_l ?_; (refine l_p tys rfl rfl ?_)))
  (with_reducible refine is_l ?_); refine l_alloc rfl hi hz.1 ?_
  (with_reducible refine is_l ?_); refine l_store_new (c' := C) rfl rfl rfl (by rw [hi, hCs]; simp [hz.2]) (by rw [hCs]; simp [Value.cells]) hC1 ?_
  have K2 : Below w.heap.size w (w1.alloc (.cells C 161)) := Bt K1 ((Below.refl _ w1).alloc (Nat.le_refl _) _)
  have hS : SetB (w1.alloc (.cells C 161)) w1.heap.size := fun x => by
    rw [new_cell, ← hC, Lib.setCells_at, ds_dig]
  repeat' (first | (with_reducible first | refine p_tn ?_ | refine wp_seq ?_ | refine w_reg ?_) | (with_reducible (refine is_if ?_; (refine w_ift rfl ?_))) | (with_reducible refine l_nil ?_) | (with_reducible (refine is_l ?_; (refine l_p tys rfl rfl ?_))))
  (with_reducible refine is_l ?_); refine l_callp rfl rfl (by kernel_rfl) (trimA_c hS t ht) ?_
  repeat' (first | (with_reducible first | refine p_tn ?_ | refine p_tr ?_ | refine wp_ret ?_ | refine l_nil ?_) | (with_reducible (refine is_l ?_; (refine l_p tys rfl rfl ?_))))
  refine end1 rfl rfl ?_
  exact ⟨rfl, K2⟩
end Go.Proofs.YtnimaenhijlcmaaGreatDoor.K
