/- Sums. -/
import Derived.Test.YtnimaenhijlcmaaGreatDoorVw
namespace Go.Proofs.YtnimaenhijlcmaaGreatDoor.K.Rec
open Go.RowKit Go.Proofs.YtnimaenhijlcmaaGreatDoor.Q Go.Proofs.YtnimaenhijlcmaaGreatDoor.K Go.Proofs.YtnimaenhijlcmaaGreatDoor.Mb Go.Proofs.YtnimaenhijlcmaaGreatDoorW.PrintWords
set_option linter.unusedVariables false
set_option linter.unusedSimpArgs false

/-! The tables, with arrays of 32 bytes and of three texts. -/
abbrev zL : L := [0, 0, 0, 0, 0, 0, 0, 0, 0, 0, 0, 0, 0, 0, 0, 0, 0, 0, 0, 0, 0, 0, 0, 0, 0, 0, 0, 0, 0, 0, 0, 0]
def rt : Nat → Option (List Value)
  | 22 => some (nums .u8 zL)
  | 87 => some [.string ⟨#[]⟩, .string ⟨#[]⟩, .string ⟨#[]⟩]
  | t => K.rt t
theorem recOkA : RecOk Tryz.prog 22 (nums .u8 zL) := ⟨⟨_, Tryz.underlying22, rfl⟩, by kernel_rfl⟩
theorem recOkB : RecOk Tryz.prog 87 [.string ⟨#[]⟩, .string ⟨#[]⟩, .string ⟨#[]⟩] := ⟨⟨_, Tryz.underlying87, rfl⟩, by kernel_rfl⟩
theorem recs : Recs Tryz.prog rt := by
  intro t zs h
  unfold rt at h
  split at h
  · cases h; exact recOkA
  · cases h; exact recOkB
  · exact K.recs t zs h
section
variable {P : Program} {n : Nat} {ops : Array Oper} {Q : Exit → Act → World → Prop} {rest : List Oper} {f : Fr} {w w0 : World} {d : Option Nat} {op : Op} {tt : TypeId} {ps : String} {af : Array Edge} {gd : Option (Nat × Bool)} {l l' : List Ent} {r : List RowD}
/-- The whole of an array, as a slice. -/
theorem l_slW {t e : TypeId} {m : Nat} {x : Operand} {g : Nat} (ht : P.underlying t = some (.array m e)) (he : (P.info? e).map (·.size) = some 1) (hw : want n ops f ⟨d, .slice t x none none none, tt, ps, af, gd⟩ = true) (hx : nf (X n f x) = some (.pointer (some ⟨g, 0, none⟩)))
    (h : WL P ops Q rest (act n (put f d (.slice (some ⟨g, 0, none⟩) m m))) w) : WL P ops Q (⟨d, .slice t x none none none, tt, ps, af, gd⟩ :: rest) (act n f) w := by
  refine l_val hw ?_ h
  have hx' := nf_eq hx
  obtain ⟨i0, hi, hz⟩ := Option.map_eq_some_iff.1 he
  unfold execOp
  have hel : P.elem t = e := by simp [Program.elem, ht]
  simp [go_sem, ← hx', Instr.sliceAt, Instr.slice, Instr.sliceBounds, Instr.sliceBound, run_underlying ht, sizeOf, typeInfo, hi, hz, hel, Addr.add_lit]
theorem l_s2a {t e : TypeId} {m q c : Nat} {x : Operand} {A : Option Addr} (ht : P.underlying t = some (.array m e)) (hw : want n ops f ⟨d, .sliceToArrayPointer t x, tt, ps, af, gd⟩ = true) (hx : nf (X n f x) = some (.slice A q c)) (hm : m ≤ q)
    (h : WL P ops Q rest (act n (put f d (.pointer A))) w) : WL P ops Q (⟨d, .sliceToArrayPointer t x, tt, ps, af, gd⟩ :: rest) (act n f) w := by
  refine l_val hw ?_ h
  have hx' := nf_eq hx
  have hlt : ¬ q < m := by omega
  unfold execOp
  simp [go_sem, ← hx', Instr.arrayAt, run_underlying ht, hlt]
end
theorem nums_one (x : L) : (nums .u8 x).all (·.oneCell') = true := by
  unfold nums
  rw [List.all_map, List.all_eq_true]
  intro y _
  rfl
theorem nums_length (x : L) : (nums .u8 x).length = x.length := by simp [nums]
set_option maxHeartbeats 4000000 in
theorem Sum_c (x : L) (hb : Bytes x) (hx : x.length = 32) (w : World) : Calls Tryz.prog 23 #[.agg (nums .u8 x).toArray] w fun e w' => e = .returned (.string (strOfNums (sumS x))) ∧ Below w.heap.size w w' := by
  refine enter (args := [.agg (nums .u8 x).toArray]) Tryz.func23 rfl Tryz.ntmps23 rfl ?_
  have H := Hp.nil w
  have hn : (nums .u8 x).length = 32 := by rw [nums_length, hx]
  have e1 : (⟨#[104, 49, 58]⟩ : ByteArray) ++ strOfNums (enc64 x) = strOfNums (sumS x) := by
    refine bl_inj ?_
    rw [bl_cat, blS (enc64_bytes hb), blS]
    · rfl
    · intro y hy
      rcases List.mem_append.1 hy with hy | hy
      · unfold h1S at hy
        simp only [List.mem_cons, List.not_mem_nil, or_false] at hy
        rcases hy with rfl | rfl | rfl <;> omega
      · exact enc64_bytes hb y hy
  repeat' (with_reducible first | refine wp_seq ?_ | refine w_reg ?_)
  (with_reducible refine is_l ?_); refine h_box H rfl rfl (nfL_eq _ _) (fun gX w_ H => ?_)
  repeat' (first | (with_reducible first | refine p_tn ?_ | refine wp_seq ?_ | refine w_reg ?_ | refine l_nil ?_) | ((with_reducible refine g_on ?_); ((with_reducible refine g_as ?_); refine l_p txs rfl rfl ?_)))
  (with_reducible refine is_l ?_); refine l_slW Tryz.underlying22 one0_1 rfl rfl ?_
  skip
  have he := enc_c (w := w_) (g := gX) (j := 0) (c := 32) x hb (by omega) (by omega) (fun i v hv => by rw [Nat.zero_add]; exact H.cellAt 0 rfl hv)
  rw [hx] at he
  (with_reducible refine is_l ?_); refine l_callv rfl rfl (by kernel_rfl) he (fun w_ K => ?_)
  have H := H.call K
  skip
  (with_reducible refine is_l ?_); refine l_cat rfl rfl (by
    rw [← bl_length (strOfNums (enc64 x)), blS (enc64_bytes hb), enc64_length, hx]
    decide) ?_
  repeat' (first | (with_reducible first | refine p_tn ?_ | refine wp_ret ?_ | refine l_nil ?_) | ((with_reducible refine g_on ?_); ((with_reducible refine g_as ?_); refine l_p txs rfl rfl ?_)))
  refine end1 rfl rfl ?_
  exact ⟨by rw [e1], H.B⟩
theorem pre_take (s p : List UInt8) : p.isPrefixOf s = decide ((s.map fun b => (b.toNat : Int)).take p.length = p.map fun b => (b.toNat : Int)) := by
  rw [← List.map_take]
  by_cases h : p.isPrefixOf s = true
  · rw [h]
    have h1 := List.isPrefixOf_iff_prefix.1 h
    have h2 := List.prefix_iff_eq_take.1 h1
    rw [decide_eq_true (by rw [← h2])]
  · rw [Bool.not_eq_true] at h
    rw [h, decide_eq_false (fun e => ?_)]
    have h2 := map_inj8 e
    have h1 : p.isPrefixOf s = true := List.isPrefixOf_iff_prefix.2 (List.prefix_iff_eq_take.2 h2.symm)
    rw [h] at h1
    cases h1
theorem cutPre_c (t p : ByteArray) (w : World) : Calls Tryz.prog 52 #[.string t, .string p] w fun e w' => e = .returned (.tuple #[.string (strOfNums (if (bl t).take p.size = bl p then (bl t).drop p.size else bl t)), .bool (decide ((bl t).take p.size = bl p))]) ∧ w' = w := by
  refine (Tryz.strings_CutPrefix t p w).mono fun e w' ⟨h1, h2⟩ => ⟨?_, h2⟩
  rw [h1]
  have hs := pre_take t.data.toList p.data.toList
  have hs : p.data.toList.isPrefixOf t.data.toList = decide ((bl t).take p.size = bl p) := hs
  unfold Lib.trimPrefix Lib.hasPrefix
  rw [hs]
  by_cases h : (bl t).take p.size = bl p
  · rw [if_pos h, decide_eq_true h]
    have : strOfNums ((bl t).drop p.size) = ⟨(t.data.toList.drop p.data.toList.length).toArray⟩ := by
      refine bl_inj ?_
      rw [blS (fun y hy => bl_bytes t y (List.mem_of_mem_drop hy))]
      show (bl t).drop p.data.toList.length = (t.data.toList.drop p.data.toList.length).map _
      rw [List.map_drop]
      rfl
    rw [this]
    rfl
  · rw [if_neg h, decide_eq_false h, strS]
    rfl
theorem parSum_if (s : L) : parSum s = if s.take 3 = h1S then (match b64D (s.drop 3) with | some l => if l.length = 32 then some l else none | none => none) else none := by
  unfold parSum h1S
  split
  · rename_i r
    rw [if_pos (show List.take 3 (104 :: 49 :: 58 :: r) = [104, 49, 58] from rfl)]
    rfl
  · rename_i hn
    rw [if_neg]
    intro h
    match s, h with
    | a :: b :: c :: r, h =>
      simp only [List.take_succ_cons, List.take_zero, List.cons.injEq, and_true] at h
      obtain ⟨rfl, rfl, rfl⟩ := h
      exact hn r rfl
    | [], h => cases h
    | [_], h => cases h
    | [_, _], h => cases h
/-- What ParseSum tells of what is read. -/
def psL (o : Option L) : L := o.getD zL
def psE (o : Option L) : Int := match o with | some _ => 0 | none => 114
set_option maxRecDepth 100000 in
set_option maxHeartbeats 8000000 in
theorem ParseSum_c (t : ByteArray) (w : World) : Calls Tryz.prog 26 #[.string t] w fun e w' => e = .returned (.tuple #[.agg (nums .u8 (psL (parSum (bl t)))).toArray, .int .i64 (psE (parSum (bl t)))]) ∧ Below w.heap.size w w' := by
  have hbt := bl_bytes t
  refine enter (args := [.string t]) Tryz.func26 rfl Tryz.ntmps26 rfl ?_
  have H := Hp.nil w
  have hP := parSum_if (bl t)
  have hcp := fun w1 => cutPre_c t ⟨#[104, 49, 58]⟩ w1
  rw [show bl (⟨#[104, 49, 58]⟩ : ByteArray) = h1S from rfl, show (⟨#[104, 49, 58]⟩ : ByteArray).size = 3 from rfl] at hcp
  repeat' (first | (with_reducible first | refine p_tn ?_ | refine wp_seq ?_ | refine w_reg ?_ | refine l_nil ?_) | ((with_reducible refine g_on ?_); (first | ((with_reducible refine g_mv ?_); refine l_p txs rfl rfl ?_) | ((with_reducible refine g_as ?_); refine l_p txs rfl rfl ?_) | ((with_reducible refine g_al ?_); refine h_alloc recs H rfl rfl (fun g_ w_ H => ?_)))))
  (with_reducible refine is_l ?_); refine l_callp rfl rfl (by kernel_rfl) (hcp _) ?_
  by_cases hh : (bl t).take 3 = h1S
  · rw [if_pos hh] at hP
    rw [if_pos hh, decide_eq_true hh]
    have hbd : Bytes ((bl t).drop 3) := fun y hy => hbt y (List.mem_of_mem_drop hy)
    generalize (bl t).drop 3 = s at hP hbd ⊢
    repeat' (first | (with_reducible first | refine p_tn ?_ | refine wp_seq ?_ | refine w_reg ?_) | (with_reducible (refine is_if ?_; (refine w_iff rfl ?_))) | (with_reducible first | refine wp_skip ?_ | refine l_nil ?_) | ((with_reducible refine g_on ?_); (first | ((with_reducible refine g_mv ?_); refine l_p txs rfl rfl ?_) | ((with_reducible refine g_as ?_); refine l_p txs rfl rfl ?_) | ((with_reducible refine g_ex ?_); refine l_p txs rfl rfl ?_) | ((with_reducible refine g_un ?_); (refine l_p txs rfl rfl ?_)))))
    have hde := fun w1 => dec_c (strOfNums s) w1
    have hz : (strOfNums s).size = s.length := by rw [← bl_length, blS hbd]
    rw [blS hbd, hz] at hde
    obtain ⟨o, n, ho, hn, hde, hP⟩ : ∃ (o : Option L) (n : Int), o = (if 1048576 < s.length then none else b64D s) ∧ n ≠ 0 ∧ (∀ w1, Calls Tryz.prog 53 #[.string (strOfNums s)] w1 fun e w' => DeR w1 o n e w') ∧ parSum (bl t) = (match o with | some l => if l.length = 32 then some l else none | none => none) := by
      refine ⟨_, _, rfl, ?_, hde, ?_⟩
      · split <;> omega
      · by_cases hb : 1048576 < s.length
        · rw [if_pos hb, hP]
          cases hs : b64D s with
          | none => rfl
          | some l =>
            obtain ⟨_, h2⟩ := b64D_sound hs
            have := congrArg List.length h2
            rw [enc64_length] at this
            simp only
            rw [if_neg (by omega)]
        · rw [if_neg hb, hP]
    clear ho
    (with_reducible refine is_l ?_); refine l_call rfl rfl (by kernel_rfl) (hde _) (fun e w_ hR => ?_)
    cases o with
    | none =>
      obtain ⟨rfl, K⟩ := hR
      refine ⟨_, rfl, ?_⟩
      have H := H.call K
      have hno : parSum (bl t) = none := hP
      repeat' (first | (with_reducible first | refine p_tn ?_ | refine wp_seq ?_ | refine w_reg ?_ | refine l_nil ?_) | ((with_reducible refine g_on ?_); (first | ((with_reducible refine g_mv ?_); refine l_p txs rfl rfl ?_) | ((with_reducible refine g_as ?_); refine l_p txs rfl rfl ?_) | ((with_reducible refine g_ex ?_); refine l_p txs rfl rfl ?_))))
      (with_reducible refine is_l ?_); refine l_t txs rfl rfl (fun _ => ?_) (fun h => absurd hn h)
      repeat' (first | (with_reducible first | refine p_tn ?_ | refine wp_seq ?_ | refine w_reg ?_) | (with_reducible (refine is_if ?_; (refine w_ift rfl ?_))) | (with_reducible refine l_nil ?_) | ((with_reducible refine g_on ?_); (first | ((with_reducible refine g_mv ?_); refine l_p txs rfl rfl ?_) | ((with_reducible refine g_pk ?_); refine l_p txs rfl rfl ?_))) | ((with_reducible refine g_if ?_); (refine l_off rfl ?_)))
      (with_reducible refine is_l ?_); refine h_bld rfl rfl (show Tryz.prog.built 22 [] = some (nums .u8 zL).toArray by kernel_rfl) ?_
      repeat' (first | (with_reducible first | refine p_tn ?_ | refine p_tr ?_ | refine wp_ret ?_ | refine l_nil ?_) | ((with_reducible refine g_on ?_); (first | ((with_reducible refine g_as ?_); refine l_p txs rfl rfl ?_) | ((with_reducible refine g_st ?_); (refine h_stR recs H 0 rfl rfl rfl rfl rfl rfl rfl rfl rfl (fun w_ H => ?_))))))
      refine end_ct recs H 0 rfl rfl rfl rfl rfl rfl ?_
      exact ⟨by rw [hno]; rfl, H.B⟩
    | some l =>
      obtain ⟨A, c, rfl, K⟩ := hR
      refine ⟨_, rfl, ?_⟩
      have H := H.join K
      have hP : parSum (bl t) = if l.length = 32 then some l else none := hP
      repeat' (first | (with_reducible first | refine p_tn ?_ | refine wp_seq ?_ | refine w_reg ?_ | refine l_nil ?_) | ((with_reducible refine g_on ?_); (first | ((with_reducible refine g_mv ?_); refine l_p txs rfl rfl ?_) | ((with_reducible refine g_as ?_); refine l_p txs rfl rfl ?_) | ((with_reducible refine g_ex ?_); refine l_p txs rfl rfl ?_))))
      (with_reducible refine is_l ?_); refine l_t txs rfl rfl (fun h => absurd rfl h) (fun _ => ?_)
      repeat' (first | ((with_reducible refine g_on ?_); ((with_reducible refine g_mv ?_); refine l_p txs rfl rfl ?_)) | ((with_reducible refine g_if ?_); (first | ((with_reducible refine g_mv ?_); refine l_p txs rfl rfl ?_) | ((with_reducible refine g_cl ?_); refine l_p txs rfl rfl ?_))))
      (with_reducible refine is_l ?_); refine l_t txs rfl rfl (fun h32 => ?_) (fun h32 => ?_)
      · have hno : parSum (bl t) = none := by rw [hP, if_neg (by omega)]
        repeat' (first | (with_reducible first | refine p_tn ?_ | refine wp_seq ?_ | refine w_reg ?_) | (with_reducible (refine is_if ?_; (refine w_ift rfl ?_))) | (with_reducible refine l_nil ?_) | ((with_reducible refine g_on ?_); ((with_reducible refine g_pk ?_); refine l_p txs rfl rfl ?_)))
        (with_reducible refine is_l ?_); refine h_bld rfl rfl (show Tryz.prog.built 22 [] = some (nums .u8 zL).toArray by kernel_rfl) ?_
        repeat' (first | (with_reducible first | refine p_tn ?_ | refine p_tr ?_ | refine wp_ret ?_ | refine l_nil ?_) | ((with_reducible refine g_on ?_); (first | ((with_reducible refine g_as ?_); refine l_p txs rfl rfl ?_) | ((with_reducible refine g_st ?_); (refine h_stR recs H 0 rfl rfl rfl rfl rfl rfl rfl rfl rfl (fun w_ H => ?_))))))
        refine end_ct recs H 0 rfl rfl rfl rfl rfl rfl ?_
        exact ⟨by rw [hno]; rfl, H.B⟩
      · have h32 : l.length = 32 := by omega
        have hso : parSum (bl t) = some l := by rw [hP, if_pos h32]
        have hRd := H.rd 0 rfl
        obtain ⟨A3, c3, e3, _, hRd, hAn⟩ := hRd
        cases e3
        obtain ⟨ad, rfl⟩ : ∃ ad, A = some ad := by
          cases A with
          | some ad => exact ⟨ad, rfl⟩
          | none => exact absurd (hAn rfl).2 (by show l.length ≠ 0; omega)
        repeat' (first | (with_reducible first | refine p_tn ?_ | refine wp_seq ?_ | refine w_reg ?_) | (with_reducible (refine is_if ?_; (refine w_iff rfl ?_))) | (with_reducible first | refine wp_skip ?_ | refine l_nil ?_) | ((with_reducible refine g_on ?_); (first | ((with_reducible refine g_mv ?_); refine l_p txs rfl rfl ?_) | ((with_reducible refine g_pk ?_); refine l_p txs rfl rfl ?_))))
        (with_reducible refine is_l ?_); refine l_s2a Tryz.underlying22 rfl rfl (by omega) ?_
        (with_reducible refine is_l ?_); refine h_ldA recs (cs := nums .u8 l) (fun j v hv => hRd.2 ad rfl j v hv) rfl rfl rfl (by rw [nums_length, h32]; rfl) ?_
        (with_reducible refine is_l ?_); refine h_stR recs H 0 rfl rfl rfl rfl rfl (nfL_eq _ _) (by rw [nums_length, h32]; rfl) (nums_one l) rfl (fun w_ H => ?_)
        repeat' (first | (with_reducible first | refine p_tn ?_ | refine wp_ret ?_ | refine l_nil ?_) | ((with_reducible refine g_on ?_); ((with_reducible refine g_as ?_); refine l_p txs rfl rfl ?_)))
        refine end_ct recs H 0 rfl rfl rfl rfl (by rw [nums_length, h32]; rfl) rfl ?_
        exact ⟨by rw [hso]; rfl, H.B⟩
  · rw [if_neg hh] at hP
    rw [if_neg hh, decide_eq_false hh]
    have hno := hP
    repeat' (first | (with_reducible first | refine p_tn ?_ | refine wp_seq ?_ | refine w_reg ?_) | (with_reducible (refine is_if ?_; (refine w_ift rfl ?_))) | (with_reducible refine l_nil ?_) | ((with_reducible refine g_on ?_); (first | ((with_reducible refine g_mv ?_); refine l_p txs rfl rfl ?_) | ((with_reducible refine g_as ?_); refine l_p txs rfl rfl ?_) | ((with_reducible refine g_ex ?_); refine l_p txs rfl rfl ?_) | ((with_reducible refine g_un ?_); (refine l_p txs rfl rfl ?_)))))
    (with_reducible refine is_l ?_); refine h_bld rfl rfl (show Tryz.prog.built 22 [] = some (nums .u8 zL).toArray by kernel_rfl) ?_
    repeat' (first | (with_reducible first | refine p_tn ?_ | refine p_tr ?_ | refine wp_ret ?_ | refine l_nil ?_) | ((with_reducible refine g_on ?_); (first | ((with_reducible refine g_as ?_); refine l_p txs rfl rfl ?_) | ((with_reducible refine g_st ?_); (refine h_stR recs H 0 rfl rfl rfl rfl rfl rfl rfl rfl rfl (fun w_ H => ?_))))))
    refine end_ct recs H 0 rfl rfl rfl rfl rfl rfl ?_
    exact ⟨by rw [hno]; rfl, H.B⟩
theorem psL_length (s : L) : (psL (parSum s)).length = 32 := by
  cases h : parSum s with
  | none => rfl
  | some l => exact (parSum_some h).2.1
theorem psL_bytes (s : L) : Bytes (psL (parSum s)) := by
  cases h : parSum s with
  | none =>
    have : (psL none).all (fun z => decide (z = 0)) = true := rfl
    intro x hx
    have := of_decide_eq_true (List.all_eq_true.1 this x hx)
    omega
  | some l => exact (parSum_some h).1
end Go.Proofs.YtnimaenhijlcmaaGreatDoor.K.Rec
