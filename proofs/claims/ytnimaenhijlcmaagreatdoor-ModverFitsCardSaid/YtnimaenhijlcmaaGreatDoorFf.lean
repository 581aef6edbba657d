/- The law's keys and records; ModverFits. -/
import Derived.Test.YtnimaenhijlcmaaGreatDoorFe
namespace Go.Proofs.YtnimaenhijlcmaaGreatDoor.K.Rec.Law
open Go.RowKit Go.Proofs.YtnimaenhijlcmaaGreatDoor.Q Go.Proofs.YtnimaenhijlcmaaGreatDoor.K Go.Proofs.YtnimaenhijlcmaaGreatDoor.K.Rec Go.Proofs.YtnimaenhijlcmaaGreatDoor.Mb Go.Proofs.YtnimaenhijlcmaaGreatDoorW.PrintWords
set_option linter.unusedVariables false
set_option linter.unusedSimpArgs false

def fo : Nat → Nat → Option Nat
  | 27, 0 => some 0
  | 27, 1 => some 1
  | 27, 2 => some 2
  | 27, 3 => some 3
  | 27, 4 => some 35
  | 27, 5 => some 67
  | t, k => K.fo t k
theorem fld0 : fldB Tryz.prog 27 0 = some 0 := by kernel_rfl
theorem fld1 : fldB Tryz.prog 27 1 = some 1 := by kernel_rfl
theorem fld2 : fldB Tryz.prog 27 2 = some 2 := by kernel_rfl
theorem fld3 : fldB Tryz.prog 27 3 = some 3 := by kernel_rfl
theorem fld4 : fldB Tryz.prog 27 4 = some 35 := by kernel_rfl
theorem fld5 : fldB Tryz.prog 27 5 = some 67 := by kernel_rfl
theorem flds : Flds Tryz.prog fo := by
  intro t k o h
  unfold fo at h
  split at h
  · cases h; exact fld0
  · cases h; exact fld1
  · cases h; exact fld2
  · cases h; exact fld3
  · cases h; exact fld4
  · cases h; exact fld5
  · exact K.flds t k o h
/-- A call's cells. -/
abbrev opC (k : Int) (t u : ByteArray) (A B : L) (s : Value) : List Value := .int .i64 k :: .string t :: .string u :: (nums .u8 A ++ (nums .u8 B ++ [s]))
theorem op_a {k : Int} {t u : ByteArray} {A B : L} {s : Value} {j : Nat} {v : Value} (h : (nums .u8 A)[j]? = some v) : (opC k t u A B s)[3 + j]? = some v := by
  rw [Nat.add_comm 3 j]
  show (nums .u8 A ++ (nums .u8 B ++ [s]))[j]? = some v
  rw [List.getElem?_append_left (List.getElem?_eq_some_iff.1 h).1, h]
theorem op_b {k : Int} {t u : ByteArray} {A B : L} {s : Value} (lA : A.length = 32) {j : Nat} {v : Value} (h : (nums .u8 B)[j]? = some v) : (opC k t u A B s)[35 + j]? = some v := by
  rw [show 35 + j = (32 + j) + 3 by omega]
  show (nums .u8 A ++ (nums .u8 B ++ [s]))[32 + j]? = some v
  rw [List.getElem?_append_right (by rw [nums_length]; omega), nums_length, lA, Nat.add_sub_cancel_left, List.getElem?_append_left (List.getElem?_eq_some_iff.1 h).1, h]
theorem op_s {k : Int} {t u : ByteArray} {A B : L} {s : Value} (lA : A.length = 32) (lB : B.length = 32) : (opC k t u A B s)[67]? = some s := by
  show (nums .u8 A ++ (nums .u8 B ++ [s]))[64]? = some s
  rw [List.getElem?_append_right (by rw [nums_length]; omega), nums_length, lA, List.getElem?_append_right (by rw [nums_length]; omega), nums_length, lB]
  rfl
theorem cons_of {l : L} {n : Nat} (h : l.length = n + 1) : ∃ a r, l = a :: r ∧ r.length = n := by
  cases l with
  | nil => simp at h
  | cons a r => exact ⟨a, r, rfl, by simpa using h⟩
theorem list32 {l : L} (h : l.length = 32) : ∃ a0 a1 a2 a3 a4 a5 a6 a7 a8 a9 a10 a11 a12 a13 a14 a15 a16 a17 a18 a19 a20 a21 a22 a23 a24 a25 a26 a27 a28 a29 a30 a31 : Int, l = [a0, a1, a2, a3, a4, a5, a6, a7, a8, a9, a10, a11, a12, a13, a14, a15, a16, a17, a18, a19, a20, a21, a22, a23, a24, a25, a26, a27, a28, a29, a30, a31] := by
  obtain ⟨a0, l0, e0, h0⟩ := cons_of h
  obtain ⟨a1, l1, e1, h1⟩ := cons_of h0
  obtain ⟨a2, l2, e2, h2⟩ := cons_of h1
  obtain ⟨a3, l3, e3, h3⟩ := cons_of h2
  obtain ⟨a4, l4, e4, h4⟩ := cons_of h3
  obtain ⟨a5, l5, e5, h5⟩ := cons_of h4
  obtain ⟨a6, l6, e6, h6⟩ := cons_of h5
  obtain ⟨a7, l7, e7, h7⟩ := cons_of h6
  obtain ⟨a8, l8, e8, h8⟩ := cons_of h7
  obtain ⟨a9, l9, e9, h9⟩ := cons_of h8
  obtain ⟨a10, l10, e10, h10⟩ := cons_of h9
  obtain ⟨a11, l11, e11, h11⟩ := cons_of h10
  obtain ⟨a12, l12, e12, h12⟩ := cons_of h11
  obtain ⟨a13, l13, e13, h13⟩ := cons_of h12
  obtain ⟨a14, l14, e14, h14⟩ := cons_of h13
  obtain ⟨a15, l15, e15, h15⟩ := cons_of h14
  obtain ⟨a16, l16, e16, h16⟩ := cons_of h15
  obtain ⟨a17, l17, e17, h17⟩ := cons_of h16
  obtain ⟨a18, l18, e18, h18⟩ := cons_of h17
  obtain ⟨a19, l19, e19, h19⟩ := cons_of h18
  obtain ⟨a20, l20, e20, h20⟩ := cons_of h19
  obtain ⟨a21, l21, e21, h21⟩ := cons_of h20
  obtain ⟨a22, l22, e22, h22⟩ := cons_of h21
  obtain ⟨a23, l23, e23, h23⟩ := cons_of h22
  obtain ⟨a24, l24, e24, h24⟩ := cons_of h23
  obtain ⟨a25, l25, e25, h25⟩ := cons_of h24
  obtain ⟨a26, l26, e26, h26⟩ := cons_of h25
  obtain ⟨a27, l27, e27, h27⟩ := cons_of h26
  obtain ⟨a28, l28, e28, h28⟩ := cons_of h27
  obtain ⟨a29, l29, e29, h29⟩ := cons_of h28
  obtain ⟨a30, l30, e30, h30⟩ := cons_of h29
  obtain ⟨a31, l31, e31, h31⟩ := cons_of h30
  cases l31 with
  | cons a r => simp at h31
  | nil => exact ⟨a0, a1, a2, a3, a4, a5, a6, a7, a8, a9, a10, a11, a12, a13, a14, a15, a16, a17, a18, a19, a20, a21, a22, a23, a24, a25, a26, a27, a28, a29, a30, a31, by rw [e0, e1, e2, e3, e4, e5, e6, e7, e8, e9, e10, e11, e12, e13, e14, e15, e16, e17, e18, e19, e20, e21, e22, e23, e24, e25, e26, e27, e28, e29, e30, e31]⟩
theorem built_op (k : Int) (t u : ByteArray) {A B : L} (lA : A.length = 32) (lB : B.length = 32) : Tryz.prog.built 27 [(0, .int .i64 k), (1, .string t), (2, .string u), (3, .agg (nums .u8 A).toArray), (4, .agg (nums .u8 B).toArray)] = some (opC k t u A B (.slice none 0 0)).toArray := by
  obtain ⟨a0, a1, a2, a3, a4, a5, a6, a7, a8, a9, a10, a11, a12, a13, a14, a15, a16, a17, a18, a19, a20, a21, a22, a23, a24, a25, a26, a27, a28, a29, a30, a31, rfl⟩ := list32 lA
  obtain ⟨b0, b1, b2, b3, b4, b5, b6, b7, b8, b9, b10, b11, b12, b13, b14, b15, b16, b17, b18, b19, b20, b21, b22, b23, b24, b25, b26, b27, b28, b29, b30, b31, rfl⟩ := list32 lB
  kernel_rfl
section
variable {P : Program} {n : Nat} {ops : Array Oper} {Q : Exit → Act → World → Prop} {rest : List Oper} {f : Fr} {w : World} {d : Option Nat} {tt : TypeId} {ps : String} {af : Array Edge} {gd : Option (Nat × Bool)}
theorem l_iaZ {t e : TypeId} {m sz : Nat} {x y : Operand} {g : Nat} {k : IntKind} {j : Int} (ht : P.underlying t = some (.array m e)) (he : (P.info? e).map (·.size) = some sz) (hw : want n ops f ⟨d, .indexAddr t x y, tt, ps, af, gd⟩ = true) (hx : nf (X n f x) = some (.pointer (some ⟨g, 0, none⟩))) (hy : nf (X n f y) = some (.int k j)) (h0 : 0 ≤ j) (h1 : j < m)
    (h : WL P ops Q rest (act n (put f d (.pointer (some ⟨g, j.toNat * sz, none⟩)))) w) : WL P ops Q (⟨d, .indexAddr t x y, tt, ps, af, gd⟩ :: rest) (act n f) w := by
  refine l_val hw ?_ h
  have hx' := nf_eq hx
  have hy' := nf_eq hy
  obtain ⟨i0, hi, hz⟩ := Option.map_eq_some_iff.1 he
  unfold execOp
  simp [go_sem, ← hx', ← hy', Instr.indexAt, run_underlying ht, sizeOf, typeInfo, hi, hz, h0, h1, Addr.add_lit]
end
theorem size32 : (Tryz.prog.info? 22).map (·.size) = some 32 := by kernel_rfl
theorem get_a {A B : L} {j : Nat} {v : Value} (h : (nums .u8 A)[j]? = some v) : (nums .u8 (A ++ B))[j]? = some v := by
  rw [nums_app, List.getElem?_append_left (List.getElem?_eq_some_iff.1 h).1, h]
theorem get_b {A B : L} (lA : A.length = 32) {j : Nat} {v : Value} (h : (nums .u8 B)[j]? = some v) : (nums .u8 (A ++ B))[32 + j]? = some v := by
  rw [nums_app, List.getElem?_append_right (by rw [nums_length]; omega), nums_length, lA, Nat.add_sub_cancel_left, h]
/-- What the laws' calls need of the world. -/
structure LayR (w : World) : Prop where
  lay : Lay w
  tak : ∃ t fr, w.heap[3]? = some (.cells deC t fr)
theorem LayR.below {w w' : World} (h : LayR w) (K : Below w.heap.size w w') : LayR w' := by
  obtain ⟨hL, t, fr, h1⟩ := h
  exact ⟨hL.below K, t, fr, (K.block _ (blk_lt h1)).trans h1⟩
set_option maxRecDepth 100000 in
set_option maxHeartbeats 16000000 in
theorem records7_c {w : World} (hL : LayR w) (t u : ByteArray) (A B : L) (s : Value) :
    Calls Tryz.prog 8 #[.agg (opC 7 t u A B s).toArray] w fun e w' => e = .returned (.bool true) ∧ Below w.heap.size w w' := by
  refine enter (args := [.agg (opC 7 t u A B s).toArray]) Tryz.func8 rfl Tryz.ntmps8 rfl ?_
  have H := Hp.nil w
  repeat' (with_reducible first | refine wp_seq ?_ | refine w_reg ?_)
  (with_reducible refine is_l ?_); refine h_box H rfl rfl (nfL_eq _ _) (fun gX w_ H => ?_)
  have H : Hp w w_ [(gX, 27, opC 7 t u A B s)] [] := H
  repeat' (first | (with_reducible first | refine p_tn ?_ | refine wp_seq ?_ | refine wp_block ?_ | refine w_reg ?_ | refine l_nil ?_) | ((with_reducible refine g_on ?_); (first | ((with_reducible refine g_as ?_); refine l_p txs rfl rfl ?_) | ((with_reducible refine g_fa ?_); refine h_fa flds rfl rfl ?_) | ((with_reducible refine g_ld ?_); (refine h_ld txs H 0 rfl rfl rfl rfl ?_)))))
  (with_reducible refine is_l ?_); refine l_t txs rfl rfl (fun _ => ?_) (fun h => absurd rfl h)
  repeat' (first | (with_reducible first | refine p_tn ?_ | refine wp_seq ?_ | refine w_reg ?_) | (with_reducible (refine is_if ?_; (refine w_ift rfl ?_))) | (with_reducible refine l_nil ?_) | ((with_reducible refine g_on ?_); (first | ((with_reducible refine g_as ?_); refine l_p txs rfl rfl ?_) | ((with_reducible refine g_fa ?_); refine h_fa flds rfl rfl ?_) | ((with_reducible refine g_ld ?_); (refine h_ld txs H 0 rfl rfl rfl rfl ?_)))))
  obtain ⟨_, t2, fr, hD⟩ := hL.below H.B
  have hk := Ref.Key_r hD t u
  have hk2 := fun (w1 : World) (h1 : Lay w1) => Key_c h1 t u
  generalize keyT t u = kt at hk hk2
  generalize checkS (bl t) (bl u) = n at hk hk2
  (with_reducible refine is_l ?_); refine l_callv rfl rfl (by kernel_rfl) hk (fun w_ K => ?_)
  have H := H.call K
  repeat' (first | (with_reducible first | refine p_tn ?_ | refine wp_seq ?_ | refine w_reg ?_ | refine l_nil ?_) | ((with_reducible refine g_on ?_); (first | ((with_reducible refine g_mv ?_); refine l_p txs rfl rfl ?_) | ((with_reducible refine g_as ?_); refine l_p txs rfl rfl ?_) | ((with_reducible refine g_ex ?_); refine l_p txs rfl rfl ?_) | ((with_reducible refine g_fa ?_); refine h_fa flds rfl rfl ?_) | ((with_reducible refine g_ld ?_); (refine h_ld txs H 0 rfl rfl rfl rfl ?_)))))
  (with_reducible refine is_l ?_); refine l_callv rfl rfl (by kernel_rfl) (hk2 _ (hL.below H.B).lay) (fun w_ K => ?_)
  have H := H.call K
  repeat' (first | (with_reducible first | refine p_tn ?_ | refine wp_seq ?_ | refine w_reg ?_ | refine l_nil ?_) | ((with_reducible refine g_on ?_); (first | ((with_reducible refine g_mv ?_); refine l_p txs rfl rfl ?_) | ((with_reducible refine g_as ?_); refine l_p txs rfl rfl ?_) | ((with_reducible refine g_ex ?_); refine l_p txs rfl rfl ?_))))
  (with_reducible refine is_l ?_); refine l_t txs rfl rfl (fun _ => ?_) (fun h => absurd rfl h)
  repeat' (first | ((with_reducible refine g_on ?_); ((with_reducible refine g_mv ?_); refine l_p txs rfl rfl ?_)) | ((with_reducible refine g_if ?_); ((with_reducible refine g_mv ?_); refine l_p txs rfl rfl ?_)))
  (with_reducible refine is_l ?_); refine l_t txs rfl rfl (fun _ => ?_) (fun h => absurd rfl h)
  repeat' (first | (with_reducible first | refine p_tn ?_ | refine p_tr ?_ | refine p_br ?_ | refine wp_ret ?_ | refine l_nil ?_) | ((with_reducible refine g_on ?_); (first | ((with_reducible refine g_as ?_); refine l_p txs rfl rfl ?_) | ((with_reducible refine g_pk ?_); refine l_p txs rfl rfl ?_))))
  refine end1 rfl rfl ?_
  exact ⟨rfl, H.B⟩
set_option maxRecDepth 100000 in
set_option maxHeartbeats 16000000 in
theorem records13_c {w : World} (hL : LayR w) (t u : ByteArray) (A B : L) (bA : Bytes A) (lA : A.length = 32) (bB : Bytes B) (lB : B.length = 32) (s : Value) :
    Calls Tryz.prog 8 #[.agg (opC 13 t u A B s).toArray] w fun e w' => e = .returned (.bool true) ∧ Below w.heap.size w w' := by
  have nA : (nums .u8 A).length = (nums .u8 zL).length := by rw [nums_length, lA]; rfl
  have nB : (nums .u8 B).length = (nums .u8 zL).length := by rw [nums_length, lB]; rfl
  refine enter (args := [.agg (opC 13 t u A B s).toArray]) Tryz.func8 rfl Tryz.ntmps8 rfl ?_
  have H := Hp.nil w
  repeat' (with_reducible first | refine wp_seq ?_ | refine w_reg ?_)
  (with_reducible refine is_l ?_); refine h_box H rfl rfl (nfL_eq _ _) (fun gX w_ H => ?_)
  have H : Hp w w_ [(gX, 27, opC 13 t u A B s)] [] := H
  repeat' (first | (with_reducible first | refine p_tn ?_ | refine wp_seq ?_ | refine wp_block ?_ | refine w_reg ?_ | refine l_nil ?_) | ((with_reducible refine g_on ?_); (first | ((with_reducible refine g_as ?_); refine l_p txs rfl rfl ?_) | ((with_reducible refine g_fa ?_); refine h_fa flds rfl rfl ?_) | ((with_reducible refine g_ld ?_); (refine h_ld txs H 0 rfl rfl rfl rfl ?_)))))
  (with_reducible refine is_l ?_); refine l_t txs rfl rfl (fun h => absurd h (by decide)) (fun _ => ?_)
  repeat' (first | (with_reducible first | refine p_tn ?_ | refine wp_seq ?_ | refine w_reg ?_) | (with_reducible (refine is_if ?_; (refine w_iff rfl ?_))) | (with_reducible refine l_nil ?_) | ((with_reducible refine g_on ?_); ((with_reducible refine g_as ?_); refine l_p txs rfl rfl ?_)))
  (with_reducible refine is_l ?_); refine l_t txs rfl rfl (fun h => absurd h (by decide)) (fun _ => ?_)
  repeat' (first | (with_reducible first | refine p_tn ?_ | refine wp_seq ?_ | refine w_reg ?_) | (with_reducible (refine is_if ?_; (refine w_iff rfl ?_))) | (with_reducible refine l_nil ?_) | ((with_reducible refine g_on ?_); ((with_reducible refine g_as ?_); refine l_p txs rfl rfl ?_)))
  (with_reducible refine is_l ?_); refine l_t txs rfl rfl (fun h => absurd h (by decide)) (fun _ => ?_)
  repeat' (first | (with_reducible first | refine p_tn ?_ | refine wp_seq ?_ | refine w_reg ?_) | (with_reducible (refine is_if ?_; (refine w_iff rfl ?_))) | (with_reducible refine l_nil ?_) | ((with_reducible refine g_on ?_); ((with_reducible refine g_as ?_); refine l_p txs rfl rfl ?_)))
  (with_reducible refine is_l ?_); refine l_t txs rfl rfl (fun h => absurd h (by decide)) (fun _ => ?_)
  repeat' (first | (with_reducible first | refine p_tn ?_ | refine wp_seq ?_ | refine w_reg ?_) | (with_reducible (refine is_if ?_; (refine w_iff rfl ?_))) | (with_reducible refine l_nil ?_) | ((with_reducible refine g_on ?_); ((with_reducible refine g_as ?_); refine l_p txs rfl rfl ?_)))
  (with_reducible refine is_l ?_); refine l_t txs rfl rfl (fun _ => ?_) (fun h => absurd rfl h)
  repeat' (first | (with_reducible first | refine p_tn ?_ | refine wp_seq ?_ | refine w_reg ?_) | (with_reducible (refine is_if ?_; (refine w_ift rfl ?_))) | (with_reducible refine l_nil ?_) | ((with_reducible refine g_on ?_); (first | ((with_reducible refine g_as ?_); refine l_p txs rfl rfl ?_) | ((with_reducible refine g_fa ?_); refine h_fa flds rfl rfl ?_) | ((with_reducible refine g_ld ?_); (refine h_ld txs H 0 rfl rfl rfl rfl ?_)))))
  (with_reducible refine is_l ?_); refine h_ldA recs (cs := nums .u8 A) (fun j v hv => by show World.cell? _ ((⟨gX, 3, none⟩ : Addr).add j) = _; rw [Addr.add_lit]; exact H.cellAt 0 rfl (op_a hv)) rfl rfl rfl nA ?_
  repeat' ((with_reducible refine g_on ?_); ((with_reducible refine g_fa ?_); refine h_fa flds rfl rfl ?_))
  (with_reducible refine is_l ?_); refine h_ldA recs (cs := nums .u8 B) (fun j v hv => by show World.cell? _ ((⟨gX, 35, none⟩ : Addr).add j) = _; rw [Addr.add_lit]; exact H.cellAt 0 rfl (op_b lA hv)) rfl rfl rfl nB ?_
  skip
  obtain ⟨_, t2, fr, hD⟩ := hL.below H.B
  have hk := Record_r hD t u A B bA lA bB lB
  have hk2 := fun (w1 : World) (h1 : Lay w1) => Record_c h1 t u A B bA lA bB lB
  generalize recT t u A B = kt at hk hk2
  generalize checkS (bl t) (bl u) = n at hk hk2
  (with_reducible refine is_l ?_); refine l_callv rfl rfl (by kernel_rfl) hk (fun w_ K => ?_)
  have H := H.call K
  repeat' (first | (with_reducible first | refine p_tn ?_ | refine wp_seq ?_ | refine w_reg ?_ | refine l_nil ?_) | ((with_reducible refine g_on ?_); (first | ((with_reducible refine g_mv ?_); refine l_p txs rfl rfl ?_) | ((with_reducible refine g_as ?_); refine l_p txs rfl rfl ?_) | ((with_reducible refine g_ex ?_); refine l_p txs rfl rfl ?_) | ((with_reducible refine g_fa ?_); refine h_fa flds rfl rfl ?_) | ((with_reducible refine g_ld ?_); (refine h_ld txs H 0 rfl rfl rfl rfl ?_)))))
  (with_reducible refine is_l ?_); refine h_ldA recs (cs := nums .u8 A) (fun j v hv => by show World.cell? _ ((⟨gX, 3, none⟩ : Addr).add j) = _; rw [Addr.add_lit]; exact H.cellAt 0 rfl (op_a hv)) rfl rfl rfl nA ?_
  repeat' ((with_reducible refine g_on ?_); ((with_reducible refine g_fa ?_); refine h_fa flds rfl rfl ?_))
  (with_reducible refine is_l ?_); refine h_ldA recs (cs := nums .u8 B) (fun j v hv => by show World.cell? _ ((⟨gX, 35, none⟩ : Addr).add j) = _; rw [Addr.add_lit]; exact H.cellAt 0 rfl (op_b lA hv)) rfl rfl rfl nB ?_
  skip
  (with_reducible refine is_l ?_); refine l_callv rfl rfl (by kernel_rfl) (hk2 _ (hL.below H.B).lay) (fun w_ K => ?_)
  have H := H.call K
  repeat' (first | (with_reducible first | refine p_tn ?_ | refine wp_seq ?_ | refine w_reg ?_ | refine l_nil ?_) | ((with_reducible refine g_on ?_); (first | ((with_reducible refine g_mv ?_); refine l_p txs rfl rfl ?_) | ((with_reducible refine g_as ?_); refine l_p txs rfl rfl ?_) | ((with_reducible refine g_ex ?_); refine l_p txs rfl rfl ?_))))
  (with_reducible refine is_l ?_); refine l_t txs rfl rfl (fun _ => ?_) (fun h => absurd rfl h)
  repeat' (first | ((with_reducible refine g_on ?_); ((with_reducible refine g_mv ?_); refine l_p txs rfl rfl ?_)) | ((with_reducible refine g_if ?_); ((with_reducible refine g_mv ?_); refine l_p txs rfl rfl ?_)))
  (with_reducible refine is_l ?_); refine l_t txs rfl rfl (fun _ => ?_) (fun h => absurd rfl h)
  repeat' (first | (with_reducible first | refine p_tn ?_ | refine p_tr ?_ | refine p_br ?_ | refine wp_ret ?_ | refine l_nil ?_) | ((with_reducible refine g_on ?_); (first | ((with_reducible refine g_as ?_); refine l_p txs rfl rfl ?_) | ((with_reducible refine g_pk ?_); refine l_p txs rfl rfl ?_))))
  refine end1 rfl rfl ?_
  exact ⟨rfl, H.B⟩
set_option maxRecDepth 100000 in
set_option maxHeartbeats 16000000 in
theorem fits_c {w : World} (hL : LayR w) (t u : ByteArray) (A B : L) (bA : Bytes A) (lA : A.length = 32) (bB : Bytes B) (lB : B.length = 32) :
    Calls Tryz.prog 3 #[.string t, .string u, .agg (nums .u8 (A ++ B)).toArray] w fun e w' => e = .returned (.bool true) ∧ Below w.heap.size w w' := by
  have nA : (nums .u8 A).length = (nums .u8 zL).length := by rw [nums_length, lA]; rfl
  have nB : (nums .u8 B).length = (nums .u8 zL).length := by rw [nums_length, lB]; rfl
  refine enter (args := [.string t, .string u, .agg (nums .u8 (A ++ B)).toArray]) Tryz.func3 rfl Tryz.ntmps3 rfl ?_
  have H := Hp.nil w
  repeat' (with_reducible first | refine wp_seq ?_ | refine w_reg ?_)
  (with_reducible refine is_l ?_); refine h_box H rfl rfl (nfL_eq _ _) (fun g5 w_ H => ?_)
  have H : Hp w w_ [(g5, 23, nums .u8 (A ++ B))] [] := H
  repeat' (first | (with_reducible first | refine p_tn ?_ | refine wp_seq ?_ | refine wp_block ?_ | refine w_reg ?_ | refine l_nil ?_) | ((with_reducible refine g_on ?_); ((with_reducible refine g_as ?_); refine l_p txs rfl rfl ?_)))
  refine w_loop (σ := Nat) (S := fun s => [(0, .string t), (1, .string u), (5, .pointer (some ⟨g5, 0, none⟩)), (7, .int .i64 ((7 + s : Nat) : Int))])
    (J := fun s w' => Hp w w' [(g5, 23, nums .u8 (A ++ B))] [] ∧ s ≤ 7) (μ := fun s => 7 - s) 0 ⟨rfl, rfl, rfl, rfl, trivial⟩ ⟨H, by omega⟩ ?_
  clear H
  rintro k f w_ ⟨H, hk⟩
  repeat' (first | (with_reducible first | refine wp_seq ?_ | refine w_reg ?_) | ((with_reducible refine g_on ?_); ((with_reducible refine g_mv ?_); refine l_p txs rfl rfl ?_)))
  (with_reducible refine is_l ?_); refine l_t txs rfl rfl (fun hle => ?_) (fun hgt => ?_)
  · by_cases h0 : k = 0
    · subst h0
      repeat' (first | (with_reducible first | refine p_tn ?_ | refine wp_seq ?_ | refine wp_block ?_ | refine w_reg ?_) | (with_reducible (refine is_if ?_; (refine w_ift rfl ?_))) | (with_reducible first | refine wp_skip ?_ | refine l_nil ?_) | ((with_reducible refine g_on ?_); ((with_reducible refine g_mv ?_); refine l_p txs rfl rfl ?_)))
      (with_reducible refine is_l ?_); refine l_t txs rfl rfl (fun _ => ?_) (fun h => absurd rfl h)
      repeat' (first | (with_reducible first | refine p_tn ?_ | refine wp_seq ?_ | refine w_reg ?_) | (with_reducible (refine is_if ?_; (refine w_ift rfl ?_))) | (with_reducible refine l_nil ?_) | ((with_reducible refine g_on ?_); (first | ((with_reducible refine g_mv ?_); refine l_p txs rfl rfl ?_) | ((with_reducible refine g_pk ?_); refine l_p txs rfl rfl ?_))) | ((with_reducible refine g_if ?_); (refine l_off rfl ?_)))
      (with_reducible refine is_l ?_); refine l_iaZ Tryz.underlying23 size32 rfl rfl rfl (by decide) (by decide) ?_
      skip
      (with_reducible refine is_l ?_); refine h_ldA recs (cs := nums .u8 A) (fun j v hv => by show World.cell? _ ((⟨g5, 0, none⟩ : Addr).add j) = _; rw [Addr.add_lit, Nat.zero_add]; exact H.cellAt 0 rfl (get_a hv)) rfl rfl rfl nA ?_
      skip
      (with_reducible refine is_l ?_); refine l_iaZ Tryz.underlying23 size32 rfl rfl rfl (by decide) (by decide) ?_
      skip
      (with_reducible refine is_l ?_); refine h_ldA recs (cs := nums .u8 B) (fun j v hv => by show World.cell? _ ((⟨g5, 32, none⟩ : Addr).add j) = _; rw [Addr.add_lit]; exact H.cellAt 0 rfl (get_b lA hv)) rfl rfl rfl nB ?_
      skip
      (with_reducible refine is_l ?_); refine h_bld rfl rfl (built_op 7 t u lA lB) ?_
      skip
      (with_reducible refine is_l ?_); refine l_callv rfl rfl (by kernel_rfl) (records7_c (hL.below H.B) t u A B _) (fun w_ K => ?_)
      have H := H.call K
      repeat' (first | (with_reducible first | refine p_tn ?_ | refine p_bn ?_ | refine wp_seq ?_ | refine w_reg ?_) | (with_reducible (refine is_if ?_; (refine w_iff rfl ?_))) | (with_reducible first | refine wp_skip ?_ | refine l_nil ?_) | ((with_reducible refine g_on ?_); (first | ((with_reducible refine g_mv ?_); refine l_p txs rfl rfl ?_) | ((with_reducible refine g_as ?_); refine l_p txs rfl rfl ?_) | ((with_reducible refine g_un ?_); (refine l_p txs rfl rfl ?_)) | ((with_reducible refine g_bi ?_); (refine l_a txs rfl rfl (by first | exact in_i64 (by omega) (by omega) | exact in_u8 (by omega) (by omega) | exact in_u64 (by omega) (by omega) | exact in_i32 (by omega) (by omega)) ?_)))))
      exact ⟨1, _, rfl, ⟨rfl, rfl, rfl, rfl, trivial⟩, ⟨H, by omega⟩, by decide⟩
    by_cases h6 : k = 6
    · subst h6
      repeat' (first | (with_reducible first | refine p_tn ?_ | refine wp_seq ?_ | refine wp_block ?_ | refine w_reg ?_) | (with_reducible (refine is_if ?_; (refine w_ift rfl ?_))) | (with_reducible first | refine wp_skip ?_ | refine l_nil ?_) | ((with_reducible refine g_on ?_); ((with_reducible refine g_mv ?_); refine l_p txs rfl rfl ?_)))
      (with_reducible refine is_l ?_); refine l_t txs rfl rfl (fun h => absurd h (by decide)) (fun _ => ?_)
      repeat' (first | ((with_reducible refine g_on ?_); ((with_reducible refine g_mv ?_); refine l_p txs rfl rfl ?_)) | ((with_reducible refine g_if ?_); ((with_reducible refine g_mv ?_); refine l_p txs rfl rfl ?_)))
      (with_reducible refine is_l ?_); refine l_t txs rfl rfl (fun _ => ?_) (fun h => absurd rfl h)
      repeat' (first | (with_reducible first | refine p_tn ?_ | refine wp_seq ?_ | refine w_reg ?_) | (with_reducible (refine is_if ?_; (refine w_ift rfl ?_))) | (with_reducible refine l_nil ?_) | ((with_reducible refine g_on ?_); (first | ((with_reducible refine g_mv ?_); refine l_p txs rfl rfl ?_) | ((with_reducible refine g_pk ?_); refine l_p txs rfl rfl ?_))))
      (with_reducible refine is_l ?_); refine l_iaZ Tryz.underlying23 size32 rfl rfl rfl (by decide) (by decide) ?_
      skip
      (with_reducible refine is_l ?_); refine h_ldA recs (cs := nums .u8 A) (fun j v hv => by show World.cell? _ ((⟨g5, 0, none⟩ : Addr).add j) = _; rw [Addr.add_lit, Nat.zero_add]; exact H.cellAt 0 rfl (get_a hv)) rfl rfl rfl nA ?_
      skip
      (with_reducible refine is_l ?_); refine l_iaZ Tryz.underlying23 size32 rfl rfl rfl (by decide) (by decide) ?_
      skip
      (with_reducible refine is_l ?_); refine h_ldA recs (cs := nums .u8 B) (fun j v hv => by show World.cell? _ ((⟨g5, 32, none⟩ : Addr).add j) = _; rw [Addr.add_lit]; exact H.cellAt 0 rfl (get_b lA hv)) rfl rfl rfl nB ?_
      skip
      (with_reducible refine is_l ?_); refine h_bld rfl rfl (built_op 13 t u lA lB) ?_
      skip
      (with_reducible refine is_l ?_); refine l_callv rfl rfl (by kernel_rfl) (records13_c (hL.below H.B) t u A B bA lA bB lB _) (fun w_ K => ?_)
      have H := H.call K
      repeat' (first | (with_reducible first | refine p_tn ?_ | refine p_bn ?_ | refine wp_seq ?_ | refine w_reg ?_) | (with_reducible (refine is_if ?_; (refine w_iff rfl ?_))) | (with_reducible first | refine wp_skip ?_ | refine l_nil ?_) | ((with_reducible refine g_on ?_); (first | ((with_reducible refine g_mv ?_); refine l_p txs rfl rfl ?_) | ((with_reducible refine g_as ?_); refine l_p txs rfl rfl ?_) | ((with_reducible refine g_un ?_); (refine l_p txs rfl rfl ?_)) | ((with_reducible refine g_bi ?_); (refine l_a txs rfl rfl (by first | exact in_i64 (by omega) (by omega) | exact in_u8 (by omega) (by omega) | exact in_u64 (by omega) (by omega) | exact in_i32 (by omega) (by omega)) ?_)))))
      exact ⟨7, _, rfl, ⟨rfl, rfl, rfl, rfl, trivial⟩, ⟨H, by omega⟩, by decide⟩
    · repeat' (first | (with_reducible first | refine p_tn ?_ | refine wp_seq ?_ | refine wp_block ?_ | refine w_reg ?_) | (with_reducible (refine is_if ?_; (refine w_ift rfl ?_))) | (with_reducible first | refine wp_skip ?_ | refine l_nil ?_) | ((with_reducible refine g_on ?_); ((with_reducible refine g_mv ?_); refine l_p txs rfl rfl ?_)))
      (with_reducible refine is_l ?_); refine l_t txs rfl rfl (fun h => absurd h (by omega)) (fun _ => ?_)
      repeat' (first | ((with_reducible refine g_on ?_); ((with_reducible refine g_mv ?_); refine l_p txs rfl rfl ?_)) | ((with_reducible refine g_if ?_); ((with_reducible refine g_mv ?_); refine l_p txs rfl rfl ?_)))
      (with_reducible refine is_l ?_); refine l_t txs rfl rfl (fun h => absurd h (by omega)) (fun _ => ?_)
      repeat' (first | (with_reducible first | refine p_tn ?_ | refine p_bn ?_ | refine w_reg ?_) | (with_reducible (refine is_if ?_; (refine w_iff rfl ?_))) | (with_reducible first | refine wp_skip ?_ | refine l_nil ?_) | ((with_reducible refine g_on ?_); (first | ((with_reducible refine g_mv ?_); refine l_p txs rfl rfl ?_) | ((with_reducible refine g_as ?_); refine l_p txs rfl rfl ?_) | ((with_reducible refine g_pk ?_); refine l_p txs rfl rfl ?_) | ((with_reducible refine g_bi ?_); (refine l_a txs rfl rfl (by first | exact in_i64 (by omega) (by omega) | exact in_u8 (by omega) (by omega) | exact in_u64 (by omega) (by omega) | exact in_i32 (by omega) (by omega)) ?_)))))
      exact ⟨k + 1, _, rfl, ⟨rfl, rfl, rfl, by show Value.int .i64 (((7 + k : Nat) : Int) + 1) = Value.int .i64 ((7 + (k + 1) : Nat) : Int); congr 1, trivial⟩, ⟨H, by omega⟩, by show 7 - (k + 1) < 7 - k; omega⟩
  · repeat' (first | (with_reducible first | refine p_tn ?_ | refine p_tx ?_ | refine x_hit ?_ | refine wp_seq ?_ | refine w_reg ?_) | (with_reducible (refine is_if ?_; (refine w_iff rfl ?_))) | (with_reducible first | refine wp_exit ?_ | refine l_nil ?_))
    (with_reducible refine is_l ?_); refine l_callv rfl rfl (by kernel_rfl) (known_c (hL.below H.B).lay) (fun w_ K => ?_)
    have H := H.call K
    repeat' (first | (with_reducible first | refine p_tn ?_ | refine wp_ret ?_ | refine l_nil ?_) | ((with_reducible refine g_on ?_); ((with_reducible refine g_as ?_); refine l_p txs rfl rfl ?_)))
    refine end1 rfl rfl ?_
    exact ⟨rfl, H.B⟩
end Go.Proofs.YtnimaenhijlcmaaGreatDoor.K.Rec.Law
