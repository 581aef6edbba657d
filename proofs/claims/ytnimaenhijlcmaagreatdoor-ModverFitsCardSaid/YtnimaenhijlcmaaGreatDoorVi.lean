/- Runes of paths; hosts. -/
import Derived.Test.YtnimaenhijlcmaaGreatDoorVh
namespace Go.Proofs.YtnimaenhijlcmaaGreatDoor.K
open Go.RowKit Go.Proofs.YtnimaenhijlcmaaGreatDoor.Q Go.Proofs.YtnimaenhijlcmaaGreatDoor.Mb Go.Proofs.YtnimaenhijlcmaaGreatDoorW.PrintWords
set_option linter.unusedVariables false
set_option linter.unusedSimpArgs false

section
variable {P : Program} {n : Nat} {ops : Array Oper} {Q : Exit → Act → World → Prop} {rest : List Oper} {f : Fr} {w : World} {d : Option Nat} {op : Op} {tt : TypeId} {ps : String} {af : Array Edge} {gd : Option (Nat × Bool)}
theorem run_load_row {g : Nat} {t ty : TypeId} {cs : Array Value} {fr : Nat × Nat} {m : Nat} {e : TypeId} (hg : w.heap[g]? = some (.cells cs t fr)) (hu : P.underlying ty = some (.array m e)) (hi : (P.info? ty).map (·.size) = some cs.size) :
    (Instr.loadAt ty (.pointer (some ⟨g, 0, none⟩))).run P w = .ok (.agg cs) w := by
  simp only [Instr.loadAt, Instr.sureAddr, Sem.run_bind, Sem.run_pure, Result.andThen_ok, run_loadVar_row w g t ty cs fr _ hg hu rfl hi]
end
section
variable {P : Program} {n : Nat} {ops : Array Oper} {Q : Exit → Act → World → Prop} {rest : List Oper} {f : Fr} {w : World} {d : Option Nat} {op : Op} {tt : TypeId} {ps : String} {af : Array Edge} {gd : Option (Nat × Bool)}
theorem l_load_row {g : Nat} {t t2 : TypeId} {cs : Array Value} {fr : Nat × Nat} {m : Nat} {e : TypeId} {x : Operand} (hw : want n ops f ⟨d, .load t x, tt, ps, af, gd⟩ = true) (hx : X n f x = .pointer (some ⟨g, 0, none⟩)) (hg : w.heap[g]? = some (.cells cs t2 fr)) (hu : P.underlying t = some (.array m e)) (hi : (P.info? t).map (·.size) = some cs.size)
    (h : WL P ops Q rest (act n (put f d (.agg cs))) w) : WL P ops Q (⟨d, .load t x, tt, ps, af, gd⟩ :: rest) (act n f) w := by
  refine l_val hw ?_ h
  have := run_load_row (P := P) hg hu hi
  unfold execOp
  simp [hx, this]
end
section
variable {P : Program} {n : Nat} {ops : Array Oper} {Q : Exit → Act → World → Prop} {rest : List Oper} {f : Fr} {w : World} {d : Option Nat} {op : Op} {tt : TypeId} {ps : String} {af : Array Edge} {gd : Option (Nat × Bool)}
theorem run_index_text {t e : TypeId} {m : Nat} {i : TypeInfo} {cs : Array Value} {k : Nat} {v : Value} (ht : P.underlying t = some (.array m e)) (he : P.underlying e = some .string) (hi : P.info? e = some i) (hs : i.size = 1) (hk : k < m) (hv : cs[k]? = some v) :
    (Instr.index t (.agg cs) (.int .i64 (k : Int))).run P w = .ok v w := by
  simp [Instr.index, part, isAgg, sizeOf, typeInfo, asIntOf, run_underlying ht, run_underlying he, hi, hs, hk, hv, go_sem]
end
section
variable {P : Program} {n : Nat} {ops : Array Oper} {Q : Exit → Act → World → Prop} {rest : List Oper} {f : Fr} {w : World} {d : Option Nat} {op : Op} {tt : TypeId} {ps : String} {af : Array Edge} {gd : Option (Nat × Bool)}
theorem l_idx_text {t e : TypeId} {m : Nat} {i : TypeInfo} {cs : Array Value} {k : Nat} {v : Value} {x y : Operand} (hw : want n ops f ⟨d, .index t x y, tt, ps, af, gd⟩ = true) (hx : X n f x = .agg cs) (hy : X n f y = .int .i64 (k : Int)) (ht : P.underlying t = some (.array m e)) (he : P.underlying e = some .string) (hi : P.info? e = some i) (hs : i.size = 1) (hk : k < m) (hv : cs[k]? = some v)
    (h : WL P ops Q rest (act n (put f d v)) w) : WL P ops Q (⟨d, .index t x y, tt, ps, af, gd⟩ :: rest) (act n f) w := by
  refine l_val hw ?_ h
  have := run_index_text (P := P) (w := w) ht he hi hs hk hv
  unfold execOp
  simp [hx, hy, this]
end
section
variable {P : Program} {n : Nat} {ops : Array Oper} {Q : Exit → Act → World → Prop} {rest : List Oper} {f : Fr} {w : World} {d : Option Nat} {op : Op} {tt : TypeId} {ps : String} {af : Array Edge} {gd : Option (Nat × Bool)}
theorem run_index_int {t e : TypeId} {m : Nat} {i : TypeInfo} {cs : Array Value} {k : Nat} {v : Value} {ik : IntKind} (ht : P.underlying t = some (.array m e)) (he : P.underlying e = some (.int ik)) (hi : P.info? e = some i) (hs : i.size = 1) (hk : k < m) (hv : cs[k]? = some v) :
    (Instr.index t (.agg cs) (.int .i64 (k : Int))).run P w = .ok v w := by
  simp [Instr.index, part, isAgg, sizeOf, typeInfo, asIntOf, run_underlying ht, run_underlying he, hi, hs, hk, hv, go_sem]
theorem l_idx_int {t e : TypeId} {m : Nat} {i : TypeInfo} {cs : Array Value} {k : Nat} {v : Value} {ik : IntKind} {x y : Operand} (hw : want n ops f ⟨d, .index t x y, tt, ps, af, gd⟩ = true) (hx : X n f x = .agg cs) (hy : X n f y = .int .i64 (k : Int)) (ht : P.underlying t = some (.array m e)) (he : P.underlying e = some (.int ik)) (hi : P.info? e = some i) (hs : i.size = 1) (hk : k < m) (hv : cs[k]? = some v)
    (h : WL P ops Q rest (act n (put f d v)) w) : WL P ops Q (⟨d, .index t x y, tt, ps, af, gd⟩ :: rest) (act n f) w := by
  refine l_val hw ?_ h
  have := run_index_int (P := P) (w := w) ht he hi hs hk hv
  unfold execOp
  simp [hx, hy, this]
end
/-- The marks of a path, as they lie. -/
def mkL : List Int := [45, 46, 95, 126, 47]
def mkC : Array Value := (mkL.map (Value.int .i32)).toArray
theorem mk_at : ∀ k, k < 5 → mkC[k]? = some (.int .i32 (mkL.getD k 0)) ∧ mkL.drop k = mkL.getD k 0 :: mkL.drop (k + 1)
  | 0, _ => ⟨rfl, rfl⟩
  | 1, _ => ⟨rfl, rfl⟩
  | 2, _ => ⟨rfl, rfl⟩
  | 3, _ => ⟨rfl, rfl⟩
  | 4, _ => ⟨rfl, rfl⟩
  | k + 5, h => absurd h (by omega)
theorem info_mkA : (Tryz.prog.info? 137).map (·.size) = some mkC.size := by kernel_rfl
theorem info_i32 : (Tryz.prog.info? 21).map (·.size) = some 1 := by kernel_rfl
set_option maxHeartbeats 2000000 in
theorem isPathRune_c {w : World} {t2 : TypeId} {fr : Nat × Nat} (hT : w.heap[1]? = some (.cells mkC t2 fr)) (c : Int) :
    Calls Tryz.prog 107 #[.int .i32 c] w fun e w' => e = .returned (.bool (pathB c)) ∧ w' = w := by
  obtain ⟨i0, hi0, hs0⟩ := Option.map_eq_some_iff.1 info_i32
  refine enter (args := [.int .i32 c]) Tryz.func107 rfl Tryz.ntmps107 rfl ?_
  repeat' (first | (with_reducible first | refine p_tn ?_ | refine wp_seq ?_ | refine w_reg ?_ | refine l_nil ?_) | (with_reducible (refine is_l ?_; (refine l_p tys rfl rfl ?_))))
  (with_reducible refine is_l ?_); refine l_callp rfl rfl (by kernel_rfl) (isDigit_c c _) ?_
  cases h1 : digB c
  rotate_left
  · skip
    have hp : pathB c = true := by unfold pathB; simp [*]
    repeat' (first | (with_reducible first | refine p_tn ?_ | refine p_tr ?_ | refine wp_seq ?_ | refine w_reg ?_) | (with_reducible (refine is_if ?_; (refine w_ift rfl ?_))) | (with_reducible first | refine wp_ret ?_ | refine l_nil ?_) | (with_reducible (refine is_l ?_; (first | (refine l_off rfl ?_) | (refine l_p tys rfl rfl ?_)))))
    refine end1 rfl rfl ?_
    exact ⟨by rw [hp], rfl⟩
  repeat' (with_reducible (refine is_l ?_; (refine l_p tys rfl rfl ?_)))
  (with_reducible refine is_l ?_); refine l_callp rfl rfl (by kernel_rfl) (isSmall_c c _) ?_
  cases h2 : smlB c
  rotate_left
  · skip
    have hp : pathB c = true := by unfold pathB; simp [*]
    repeat' (first | (with_reducible first | refine p_tn ?_ | refine p_tr ?_ | refine wp_seq ?_ | refine w_reg ?_) | (with_reducible (refine is_if ?_; (refine w_ift rfl ?_))) | (with_reducible first | refine wp_ret ?_ | refine l_nil ?_) | (with_reducible (refine is_l ?_; (first | (refine l_off rfl ?_) | (refine l_p tys rfl rfl ?_)))))
    refine end1 rfl rfl ?_
    exact ⟨by rw [hp], rfl⟩
  repeat' (with_reducible (refine is_l ?_; (refine l_p tys rfl rfl ?_)))
  (with_reducible refine is_l ?_); refine l_callp rfl rfl (by kernel_rfl) (isCapital_c c _) ?_
  cases h3 : capB c
  rotate_left
  · skip
    have hp : pathB c = true := by unfold pathB; simp [*]
    repeat' (first | (with_reducible first | refine p_tn ?_ | refine p_tr ?_ | refine wp_seq ?_ | refine w_reg ?_) | (with_reducible (refine is_if ?_; (refine w_ift rfl ?_))) | (with_reducible first | refine wp_ret ?_ | refine l_nil ?_) | (with_reducible (refine is_l ?_; (refine l_p tys rfl rfl ?_))))
    refine end1 rfl rfl ?_
    exact ⟨by rw [hp], rfl⟩
  have hp : pathB c = mkL.contains c := by unfold pathB; rw [h1, h2, h3]; rfl
  repeat' (first | (with_reducible first | refine p_tn ?_ | refine wp_seq ?_ | refine w_reg ?_) | (with_reducible (refine is_if ?_; (refine w_iff rfl ?_))) | (with_reducible first | refine wp_skip ?_ | refine l_nil ?_) | (with_reducible (refine is_l ?_; (refine l_p tys rfl rfl ?_))))
  (with_reducible refine is_l ?_); refine l_load_row rfl rfl hT Tryz.underlying137 info_mkA ?_
  repeat' (first | (with_reducible first | refine p_tn ?_ | refine wp_block ?_ | refine l_nil ?_) | (with_reducible (refine is_l ?_; (refine l_p tys rfl rfl ?_))))
  refine w_loop (σ := Nat) (S := fun k => [(0, .int .i32 c), (15, .agg mkC), (16, .int .i64 (k : Int))]) (J := fun k w' => w' = w ∧ k ≤ 5 ∧ mkL.contains c = (mkL.drop k).contains c) (μ := fun k => 5 - k) 0 ⟨rfl, rfl, rfl, trivial⟩ ⟨rfl, by omega, rfl⟩ ?_
  rintro k f w1 ⟨rfl, hk, hl⟩
  repeat' (with_reducible first | refine wp_seq ?_ | refine w_reg ?_)
  (with_reducible refine is_l ?_); refine l_t tys rfl rfl (fun hlt => ?_) (fun hge => ?_)
  · have hk' : k < 5 := by omega
    obtain ⟨q1, q2⟩ := mk_at k hk'
    rw [q2, List.contains_cons] at hl
    repeat' (first | (with_reducible first | refine p_tn ?_ | refine wp_seq ?_ | refine wp_block ?_ | refine w_reg ?_) | (with_reducible (refine is_if ?_; (refine w_ift rfl ?_))) | (with_reducible first | refine wp_skip ?_ | refine l_nil ?_))
    (with_reducible refine is_l ?_); refine l_idx_int rfl rfl rfl Tryz.underlying137 Tryz.underlying21 hi0 hs0 hk' q1 ?_
    repeat' (first | (with_reducible first | refine p_tn ?_ | refine wp_seq ?_ | refine w_reg ?_ | refine l_nil ?_) | (with_reducible (refine is_l ?_; (refine l_p tys rfl rfl ?_))))
    (with_reducible refine is_l ?_); refine l_t tys rfl rfl (fun hh => ?_) (fun hn => ?_)
    · repeat' (first | (with_reducible first | refine p_tn ?_ | refine p_tr ?_ | refine p_br ?_ | refine wp_seq ?_ | refine w_reg ?_) | (with_reducible (refine is_if ?_; (refine w_ift rfl ?_))) | (with_reducible first | refine wp_ret ?_ | refine l_nil ?_) | (with_reducible (refine is_l ?_; (refine l_p tys rfl rfl ?_))))
      refine end1 rfl rfl ?_
      exact ⟨by rw [hp, hl, hh]; simp, rfl⟩
    · repeat' (first | (with_reducible first | refine p_tn ?_ | refine p_bn ?_ | refine w_reg ?_) | (with_reducible (refine is_if ?_; (refine w_iff rfl ?_))) | (with_reducible first | refine wp_skip ?_ | refine l_nil ?_) | (with_reducible (refine is_l ?_; (first | (refine l_p tys rfl rfl ?_) | (refine l_a tys rfl rfl (by first | exact in_i64 (by omega) (by omega) | exact in_u8 (by omega) (by omega) | exact in_u64 (by omega) (by omega) | exact in_i32 (by omega) (by omega)) ?_)))))
      exact ⟨k + 1, _, rfl, ⟨rfl, rfl, rfl, trivial⟩, ⟨rfl, by omega, by rw [hl, beq_eq_false_iff_ne.2 hn]; simp⟩, by omega⟩
  · have hnil : mkL.drop k = [] := List.drop_eq_nil_of_le (by show 5 ≤ k; omega)
    rw [hnil] at hl
    repeat' (first | (with_reducible first | refine p_tn ?_ | refine p_tx ?_ | refine x_hit ?_ | refine wp_seq ?_ | refine w_reg ?_) | (with_reducible (refine is_if ?_; (refine w_iff rfl ?_))) | (with_reducible first | refine wp_exit ?_ | refine wp_ret ?_ | refine l_nil ?_) | (with_reducible (refine is_l ?_; (refine l_p tys rfl rfl ?_))))
    refine end1 rfl rfl ?_
    exact ⟨by rw [hp, hl]; rfl, rfl⟩
theorem contains_find (c : Int) : ∀ l : L, decide (0 ≤ find c l) = l.contains c
  | [] => rfl
  | x :: r => by
    have ih := contains_find c r
    have hg := find_ge c r
    by_cases h : x = c
    · subst h
      have e : find x (x :: r) = 0 := by simp [find]
      rw [e]; simp
    · have hne : (c == x) = false := beq_eq_false_iff_ne.2 (fun e => h e.symm)
      rw [List.contains_cons, hne, Bool.false_or, ← ih]
      by_cases h2 : find c r < 0
      · have e : find c (x :: r) = -1 := by simp [find, h, h2]
        rw [e, decide_eq_false (by omega), decide_eq_false (by omega)]
      · have e : find c (x :: r) = find c r + 1 := by simp [find, h, h2]
        rw [e, decide_eq_true (by omega), decide_eq_true (by omega)]
theorem contains_c (t : ByteArray) (c : UInt8) (w : World) : Calls Tryz.prog 142 #[.string t, .string ⟨#[c]⟩] w fun e w' => e = .returned (.bool ((bl t).contains (c.toNat : Int))) ∧ w' = w := by
  refine (Tryz.strings_Contains_one t c w).mono fun e w' ⟨h1, h2⟩ => ⟨?_, h2⟩
  have hcc : (c.toNat : Int).toNat.toUInt8 = c := by simp
  have hi := index_find (c := (c.toNat : Int)) (by omega) (by have := c.toNat_lt; omega) t.data.toList
  rw [hcc] at hi
  rw [h1, hi, ← contains_find]
  rfl
def hstB (c : Int) : Bool := !(capB c || decide (c = 95) || decide (c = 126))
theorem path_small {c : Int} (h : pathB c = true) : c < 128 := by
  unfold pathB digB smlB capB at h
  simp at h
  omega
set_option maxHeartbeats 4000000 in
theorem isHost_c (t : ByteArray) (w : World) (ht : t.size ≤ 100000000) (h0 : bl t ≠ []) (hP : (bl t).all pathB = true) : Calls Tryz.prog 109 #[.string t] w fun e w' => e = .returned (.bool (hostB (bl t))) ∧ Below w.heap.size w w' := by
  have hlen := bl_length t
  refine enter (args := [.string t]) Tryz.func109 rfl Tryz.ntmps109 rfl ?_
  have H := Hp.nil w
  repeat' (first | (with_reducible first | refine p_tn ?_ | refine wp_seq ?_ | refine w_reg ?_ | refine l_nil ?_) | (with_reducible (refine is_l ?_; (refine l_p tys rfl rfl ?_))))
  (with_reducible refine is_l ?_); refine l_range H Tryz.underlying9 rfl rfl (fun g w_ H hk hg => ?_)
  repeat' (with_reducible first | refine p_tn ?_ | refine wp_block ?_ | refine l_nil ?_)
  refine w_loop (σ := Nat) (S := fun s => [(0, .string t), (6, .pointer (some ⟨g, 0, none⟩))]) (J := fun s w' => Hp w w' [] [] ∧ w'.heap[g]? = some (.stringIter t s) ∧ ((bl t).take s).all hstB = true) (μ := fun s => t.size - s) 0 ⟨rfl, rfl, trivial⟩ ⟨H, hk, by simp⟩ ?_
  clear hk H
  rintro p f w_ ⟨H, hk, ha⟩
  repeat' (with_reducible first | refine wp_seq ?_ | refine w_reg ?_)
  by_cases hp : p < t.size
  · obtain ⟨b, hb, hbb⟩ := dec_byte t p hp
    (with_reducible refine is_l ?_); refine l_nextV H hk hg hp rfl rfl (fun w_ H hk => ?_)
    have hbs : b < 128 := path_small (List.all_eq_true.1 hP b (List.mem_of_getElem? hb))
    obtain ⟨h2, h3⟩ : ((Utf8.decode t p).1 : Int) = b ∧ (Utf8.decode t p).2 = 1 := by
      rcases hbb with h | h
      · exact h.2
      · omega
    rw [h3] at hk
    rw [h2]
    repeat' (first | (with_reducible first | refine p_tn ?_ | refine wp_seq ?_ | refine wp_block ?_ | refine w_reg ?_) | (with_reducible (refine is_if ?_; (refine w_ift rfl ?_))) | (with_reducible first | refine wp_skip ?_ | refine l_nil ?_) | (with_reducible (refine is_l ?_; (refine l_p tys rfl rfl ?_))))
    (with_reducible refine is_l ?_); refine l_callp rfl rfl (by kernel_rfl) (isCapital_c b _) ?_
    cases hc : capB b
    rotate_left
    · skip
      have hn : hostB (bl t) = false := by unfold hostB; rw [not_all (p := fun c => !(capB c || decide (c = 95) || decide (c = 126))) hb (by simp [*])]; rfl
      repeat' (first | (with_reducible first | refine p_tn ?_ | refine p_tr ?_ | refine p_br ?_ | refine wp_seq ?_ | refine w_reg ?_) | (with_reducible (refine is_if ?_; (refine w_ift rfl ?_))) | (with_reducible first | refine wp_ret ?_ | refine l_nil ?_) | (with_reducible (refine is_l ?_; (first | (refine l_off rfl ?_) | (refine l_p tys rfl rfl ?_)))))
      refine end1 rfl rfl ?_
      exact ⟨by rw [hn], H.B⟩
    repeat' (with_reducible (refine is_l ?_; (refine l_p tys rfl rfl ?_)))
    (with_reducible refine is_l ?_); refine l_t tys rfl rfl (fun e1 => ?_) (fun e1 => ?_)
    · skip
      have hn : hostB (bl t) = false := by unfold hostB; rw [not_all (p := fun c => !(capB c || decide (c = 95) || decide (c = 126))) hb (by simp [*])]; rfl
      repeat' (first | (with_reducible first | refine p_tn ?_ | refine p_tr ?_ | refine p_br ?_ | refine wp_seq ?_ | refine w_reg ?_) | (with_reducible (refine is_if ?_; (refine w_ift rfl ?_))) | (with_reducible first | refine wp_ret ?_ | refine l_nil ?_) | (with_reducible (refine is_l ?_; (first | (refine l_off rfl ?_) | (refine l_p tys rfl rfl ?_)))))
      refine end1 rfl rfl ?_
      exact ⟨by rw [hn], H.B⟩
    repeat' (with_reducible (refine is_l ?_; (refine l_p tys rfl rfl ?_)))
    (with_reducible refine is_l ?_); refine l_t tys rfl rfl (fun e2 => ?_) (fun e2 => ?_)
    · skip
      have hn : hostB (bl t) = false := by unfold hostB; rw [not_all (p := fun c => !(capB c || decide (c = 95) || decide (c = 126))) hb (by simp [*])]; rfl
      repeat' (first | (with_reducible first | refine p_tn ?_ | refine p_tr ?_ | refine p_br ?_ | refine wp_seq ?_ | refine w_reg ?_) | (with_reducible (refine is_if ?_; (refine w_ift rfl ?_))) | (with_reducible first | refine wp_ret ?_ | refine l_nil ?_) | (with_reducible (refine is_l ?_; (refine l_p tys rfl rfl ?_))))
      refine end1 rfl rfl ?_
      exact ⟨by rw [hn], H.B⟩
    have hh : hstB b = true := by unfold hstB; rw [hc, decide_eq_false e1, decide_eq_false e2]; rfl
    repeat' (first | (with_reducible first | refine p_tn ?_ | refine p_bn ?_) | (with_reducible (refine is_if ?_; (refine w_iff rfl ?_))) | (with_reducible first | refine wp_skip ?_ | refine l_nil ?_) | (with_reducible (refine is_l ?_; (refine l_p tys rfl rfl ?_))))
    exact ⟨p + 1, _, rfl, ⟨rfl, rfl, trivial⟩, ⟨H, hk, take_all hb hh ha⟩, by omega⟩
  · have hall : (bl t).all hstB = true := by rw [← List.take_of_length_le (l := bl t) (i := p) (by omega)]; exact ha
    have hH : hostB (bl t) = ((bl t).contains 46 && decide ((bl t).head? ≠ some 45)) := by
      unfold hostB
      rw [show ((bl t).all fun c => !(capB c || decide (c = 95) || decide (c = 126))) = true from hall, Bool.true_and]
    have hpos : 0 < t.size := by rw [← hlen]; exact List.length_pos_iff.2 h0
    have hhd : (bl t).head? = some (at_ (bl t) 0) := by
      unfold at_
      cases hb : bl t with
      | nil => exact absurd hb h0
      | cons x r => rfl
    (with_reducible refine is_l ?_); refine l_nextE hk hp rfl rfl ?_
    repeat' (first | (with_reducible first | refine p_tn ?_ | refine p_tx ?_ | refine x_hit ?_ | refine wp_seq ?_ | refine w_reg ?_) | (with_reducible (refine is_if ?_; (refine w_iff rfl ?_))) | (with_reducible first | refine wp_exit ?_ | refine l_nil ?_) | (with_reducible (refine is_l ?_; (refine l_p tys rfl rfl ?_))))
    have hco := fun w1 => contains_c t 46 w1
    rw [show ((46 : UInt8).toNat : Int) = 46 from rfl] at hco
    (with_reducible refine is_l ?_); refine l_callp rfl rfl (by kernel_rfl) (hco _) ?_
    cases hc : (bl t).contains 46
    · repeat' (first | (with_reducible first | refine p_tn ?_ | refine wp_ret ?_ | refine l_nil ?_) | (with_reducible (refine is_l ?_; (first | (refine l_off rfl ?_) | (refine l_p tys rfl rfl ?_)))))
      refine end1 rfl rfl ?_
      exact ⟨by rw [hH, hc]; rfl, H.B⟩
    · repeat' (with_reducible (refine is_l ?_; (first | (refine l_p tys rfl rfl ?_) | (refine l_ix tys rfl rfl (by first | omega | assumption | decide) (by first | omega | assumption | decide) ?_))))
      (with_reducible refine is_l ?_); refine l_t tys rfl rfl (fun e1 => ?_) (fun e1 => ?_)
      · repeat' (first | (with_reducible first | refine p_tn ?_ | refine wp_ret ?_ | refine l_nil ?_) | (with_reducible (refine is_l ?_; (refine l_p tys rfl rfl ?_))))
        refine end1 rfl rfl ?_
        exact ⟨by rw [hH, hc, hhd, decide_eq_true (show some (at_ (bl t) 0) ≠ some 45 from fun e => e1 (Option.some.inj e))]; rfl, H.B⟩
      · repeat' (first | (with_reducible first | refine p_tn ?_ | refine wp_ret ?_ | refine l_nil ?_) | (with_reducible (refine is_l ?_; (refine l_p tys rfl rfl ?_))))
        refine end1 rfl rfl ?_
        exact ⟨by rw [hH, hc, hhd, decide_eq_false (fun h => h (by rw [Classical.not_not.1 e1]))]; rfl, H.B⟩
end Go.Proofs.YtnimaenhijlcmaaGreatDoor.K
