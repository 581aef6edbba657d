/- ModverBack. -/
import Derived.Test.YtnimaenhijlcmaaDoorSf
namespace Go.Proofs.YtnimaenhijlcmaaDoor.K.Rec
open Go.RowKit Go.Proofs.YtnimaenhijlcmaaDoor.Q Go.Proofs.YtnimaenhijlcmaaDoor.K Go.Proofs.YtnimaenhijlcmaaDoor.Mb Go.Proofs.YtnimaenhijlcmaaDoorW.PrintWords
set_option linter.unusedVariables false
set_option linter.unusedSimpArgs false

section
variable {P : Program} {n : Nat} {ops : Array Oper} {Q : Exit → Act → World → Prop} {rest : List Oper} {f : Fr} {w : World} {d : Option Nat} {tt : TypeId} {ps : String} {af : Array Edge} {gd : Option (Nat × Bool)}
theorem l_iaZ {t e : TypeId} {m sz : Nat} {x y : Operand} {g : Nat} {k : IntKind} {j : Int} (ht : P.underlying t = some (.array m e)) (he : (P.info? e).map (·.size) = some sz) (hw : want n ops f ⟨d, .indexAddr t x y, tt, ps, af, gd⟩ = true) (hx : nf (X n f x) = some (.pointer (some ⟨g, 0, none⟩))) (hy : nf (X n f y) = some (.int k j)) (h0 : 0 ≤ j) (h1 : j < m)
    (h : WL P ops Q rest (act n (put f d (.pointer (some ⟨g, j.toNat * sz, none⟩)))) w) : WL P ops Q (⟨d, .indexAddr t x y, tt, ps, af, gd⟩ :: rest) (act n f) w := by
  refine l_val hw ?_ h
  have hx' := nf_eq hx
  have hy' := nf_eq hy
  obtain ⟨i0, hi, hz⟩ := Option.map_eq_some_iff.1 he
  unfold execOp
  simp [go_sem, ← hx', ← hy', Instr.indexAt, run_underlying ht, sizeOf, typeInfo, hi, hz, h0, h1, Addr.add_lit]
end
theorem size32 : (Tryd.prog.info? 43).map (·.size) = some 32 := by kernel_rfl
theorem get_a {A B : L} {j : Nat} {v : Value} (h : (nums .u8 A)[j]? = some v) : (nums .u8 (A ++ B))[j]? = some v := by
  rw [nums_app, List.getElem?_append_left (List.getElem?_eq_some_iff.1 h).1, h]
theorem get_b {A B : L} (lA : A.length = 32) {j : Nat} {v : Value} (h : (nums .u8 B)[j]? = some v) : (nums .u8 (A ++ B))[32 + j]? = some v := by
  rw [nums_app, List.getElem?_append_right (by rw [nums_length]; omega), nums_length, lA, Nat.add_sub_cancel_left, h]
theorem key_rec (t u : ByteArray) (A B : L) (h : checkS (bl t) (bl u) ≠ 0) : keyT t u = ⟨#[]⟩ ∧ recT t u A B = ⟨#[]⟩ ∧ ((pathN (bl t) ≠ 0 ∧ checkS (bl t) (bl u) = 110) ∨ (pathN (bl t) = 0 ∧ checkS (bl t) (bl u) ≠ 110)) := by
  unfold keyT recT
  rw [if_neg h, if_neg h]
  refine ⟨rfl, rfl, ?_⟩
  unfold pathN checkS
  cases hp : pathS (bl t)
  · exact .inl ⟨by decide, rfl⟩
  · refine .inr ⟨rfl, ?_⟩
    rw [if_neg (by simp)]
    cases parseV (bl u) with
    | none => simp
    | some v =>
      simp only
      split <;> omega
theorem key_ok {t u : ByteArray} (h : checkS (bl t) (bl u) = 0) : parK (bl (keyT t u)) = (t, u, 0) ∧ (keyT t u).size ≤ 1000 := by
  obtain ⟨h1, x, h2, _⟩ := check_ok h
  have e : keyT t u = t ++ ⟨#[64]⟩ ++ u := by unfold keyT; rw [if_pos h]
  have hb : bl (keyT t u) = bl t ++ 64 :: bl u := by
    rw [e, bl_cat, bl_cat, List.append_assoc]
    rfl
  constructor
  · unfold parK
    rw [hb, keyS_mk (path_no h1).2.1 (ver_no h2).2.1]
    simp only
    rw [if_pos h, strS, strS]
  · rw [← bl_length, hb, List.length_append, List.length_cons]
    have := (path_ne h1).2
    have := (ver_no h2).2.2.2.2.2.2
    omega
theorem rec_ok {t u : ByteArray} {A B : L} (h : checkS (bl t) (bl u) = 0) (bA : Bytes A) (lA : A.length = 32) (bB : Bytes B) (lB : B.length = 32) : parRec (bl (recT t u A B)) = .is (bl t) (bl u) A B ∧ (recT t u A B).size ≤ 873 := by
  have e : recT t u A B = strOfNums (recS (bl t) (bl u) A B) := by unfold recT; rw [if_pos h]
  have hbr : Bytes (recS (bl t) (bl u) A B) := by
    intro y hy
    unfold recS line1 modS at hy
    simp only [List.mem_append, List.mem_cons, List.not_mem_nil, or_false] at hy
    have q1 := bl_bytes t y
    have q2 := bl_bytes u y
    have q3 := sum_bytes bA y
    have q4 := sum_bytes bB y
    have q5 : y = 32 ∨ y = 10 ∨ y = 47 ∨ y = 103 ∨ y = 111 ∨ y = 46 ∨ y = 109 ∨ y = 100 → 0 ≤ y ∧ y ≤ 255 := by omega
    grind
  rw [e, blS hbr]
  refine ⟨rec_back h bA lA bB lB, ?_⟩
  rw [← bl_length, blS hbr]
  exact rec_len h lA lB
theorem esc_ok {t u : ByteArray} (h : checkS (bl t) (bl u) = 0) : ∃ c d : ByteArray, escPath (bl t) = (c, 0) ∧ escVer (bl u) = (d, 0) ∧ unPath (bl c) = (t, 0) ∧ unVer (bl d) = (u, 0) ∧ c.size ≤ 1000 ∧ d.size ≤ 1000 := by
  obtain ⟨h1, x, h2, _⟩ := check_ok h
  have b1 : Bytes (escS (bl t)) := esc_bytes fun y hy => ⟨(bl_bytes t y hy).1, path_low h1 y hy⟩
  have b2 : Bytes (escS (bl u)) := esc_bytes fun y hy => ⟨(bl_bytes u y hy).1, ver_low h2 y hy⟩
  refine ⟨strOfNums (escS (bl t)), strOfNums (escS (bl u)), ?_, ?_, ?_, ?_, ?_, ?_⟩
  · unfold escPath; rw [h1]; rfl
  · unfold escVer; rw [h2]; rfl
  · rw [blS b1]
    unfold unPath
    rw [unesc_esc (path_no h1).1]
    simp only
    rw [h1]
    show (strOfNums (bl t), (0 : Int)) = _
    rw [strS]
  · rw [blS b2]
    unfold unVer
    rw [unesc_esc (ver_no h2).1]
    simp only
    rw [h2]
    show (strOfNums (bl u), (0 : Int)) = _
    rw [strS]
  · rw [← bl_length, blS b1]
    have := esc_len (bl t)
    have := (path_ne h1).2
    omega
  · rw [← bl_length, blS b2]
    have := esc_len (bl u)
    have := (ver_no h2).2.2.2.2.2.2
    omega
set_option maxRecDepth 100000 in
set_option maxHeartbeats 16000000 in
theorem back_c {w : World} (hL : Lay w) (t u : ByteArray) (A B : L) (bA : Bytes A) (lA : A.length = 32) (bB : Bytes B) (lB : B.length = 32) :
    Calls Tryd.prog 10 #[.string t, .string u, .agg (nums .u8 (A ++ B)).toArray] w fun e w' => e = .returned (.bool true) ∧ Below w.heap.size w w' := by
  have nA : (nums .u8 A).length = (nums .u8 zL).length := by rw [nums_length, lA]; rfl
  have nB : (nums .u8 B).length = (nums .u8 zL).length := by rw [nums_length, lB]; rfl
  have qA := fun w1 => neq32 bA bA lA lA w1
  have qB := fun w1 => neq32 bB bB lB lB w1
  rw [decide_eq_true rfl] at qA qB
  simp only [Bool.not_true] at qA qB
  have ps := fun w1 => ParseSum_c (strOfNums (sumS A)) w1
  rw [blS (sum_bytes bA), parSum_sum bA lA] at ps
  have ps : ∀ w1, Calls Tryd.prog 27 #[.string (strOfNums (sumS A))] w1 fun e w' => e = .returned (.tuple #[.agg (nums .u8 A).toArray, .int .i64 0]) ∧ Below w1.heap.size w1 w' := ps
  refine enter (args := [.string t, .string u, .agg (nums .u8 (A ++ B)).toArray]) Tryd.func10 rfl Tryd.ntmps10 rfl ?_
  have H := Hp.nil w
  repeat' (with_reducible first | refine wp_seq ?_ | refine w_reg ?_)
  (with_reducible refine is_l ?_); refine h_box H rfl rfl (nfL_eq _ _) (fun g5 w_ H => ?_)
  repeat' (first | (with_reducible first | refine p_tn ?_ | refine wp_seq ?_ | refine w_reg ?_ | refine l_nil ?_) | ((with_reducible refine g_on ?_); ((with_reducible refine g_as ?_); refine l_p txs rfl rfl ?_)))
  (with_reducible refine is_l ?_); refine l_callv rfl rfl (by kernel_rfl) (sample_c (hL.below H.B)) (fun w_ K => ?_)
  have H := H.call K
  repeat' (first | (with_reducible first | refine p_tn ?_ | refine wp_seq ?_ | refine w_reg ?_) | (with_reducible (refine is_if ?_; (refine w_iff rfl ?_))) | (with_reducible first | refine wp_skip ?_ | refine l_nil ?_) | ((with_reducible refine g_on ?_); ((with_reducible refine g_un ?_); (refine l_p txs rfl rfl ?_))))
  (with_reducible refine is_l ?_); refine l_iaZ Tryd.underlying50 size32 rfl rfl rfl (by decide) (by decide) ?_
  (with_reducible refine is_l ?_); refine h_ldA recs (cs := nums .u8 A) (fun j v hv => by show World.cell? _ ((⟨g5, 0, none⟩ : Addr).add j) = _; rw [Addr.add_lit, Nat.zero_add]; exact H.cellAt 0 rfl (get_a hv)) rfl rfl rfl nA ?_
  (with_reducible refine is_l ?_); refine l_callv rfl rfl (by kernel_rfl) (Sum_c A bA lA _) (fun w_ K => ?_)
  have H := H.call K
  skip
  (with_reducible refine is_l ?_); refine l_callv rfl rfl (by kernel_rfl) (ps _) (fun w_ K => ?_)
  have H := H.call K
  repeat' ((with_reducible refine g_on ?_); (first | ((with_reducible refine g_mv ?_); refine l_p txs rfl rfl ?_) | ((with_reducible refine g_ex ?_); refine l_p txs rfl rfl ?_) | ((with_reducible refine g_al ?_); refine h_alloc recs H rfl rfl (fun g_ w_ H => ?_))))
  (with_reducible refine is_l ?_); refine h_stR recs H 0 rfl rfl rfl rfl rfl (nfL_eq _ _) nA (nums_one _) rfl (fun w_ H => ?_)
  repeat' (first | (with_reducible first | refine p_tn ?_ | refine wp_seq ?_ | refine w_reg ?_ | refine l_nil ?_) | ((with_reducible refine g_on ?_); (first | ((with_reducible refine g_mv ?_); refine l_p txs rfl rfl ?_) | ((with_reducible refine g_as ?_); refine l_p txs rfl rfl ?_))))
  (with_reducible refine is_l ?_); refine l_t txs rfl rfl (fun h => absurd rfl h) (fun _ => ?_)
  repeat' ((with_reducible refine g_on ?_); ((with_reducible refine g_mv ?_); refine l_p txs rfl rfl ?_))
  (with_reducible refine is_l ?_); refine h_ldR recs H 0 rfl rfl rfl rfl nA ?_
  skip
  (with_reducible refine is_l ?_); refine l_iaZ Tryd.underlying50 size32 rfl rfl rfl (by decide) (by decide) ?_
  (with_reducible refine is_l ?_); refine h_ldA recs (cs := nums .u8 A) (fun j v hv => by show World.cell? _ ((⟨g5, 0, none⟩ : Addr).add j) = _; rw [Addr.add_lit, Nat.zero_add]; exact H.cellAt 1 rfl (get_a hv)) rfl rfl rfl nA ?_
  (with_reducible refine is_l ?_); refine l_bag (z := .bool false) guard32 rfl rfl rfl (qA _) ?_
  have H := H.pick [1] [] (by decide) (by decide) rfl rfl
  by_cases hc : checkS (bl t) (bl u) = 0
  rotate_left
  · skip
    obtain ⟨hk, hr, hm⟩ := key_rec t u A B hc
    have ck := fun (w1 : World) (h1 : Lay w1) => Key_c h1 t u
    have cr := fun (w1 : World) (h1 : Lay w1) => Record_c h1 t u A B bA lA bB lB
    have cp := fun (w1 : World) (h1 : Lay w1) => checkPath_c h1 t
    rw [hk] at ck
    rw [hr] at cr
    generalize checkS (bl t) (bl u) = j at ck cr hc hm
    generalize pathN (bl t) = m at cp hm
    repeat' (first | (with_reducible first | refine p_tn ?_ | refine wp_seq ?_ | refine w_reg ?_) | (with_reducible (refine is_if ?_; (refine w_iff rfl ?_))) | (with_reducible first | refine wp_skip ?_ | refine l_nil ?_) | ((with_reducible refine g_on ?_); (first | ((with_reducible refine g_mv ?_); refine l_p txs rfl rfl ?_) | ((with_reducible refine g_pk ?_); refine l_p txs rfl rfl ?_))))
    (with_reducible refine is_l ?_); refine l_callv rfl rfl (by kernel_rfl) (ck _ (hL.below H.B)) (fun w_ K => ?_)
    have H := H.call K
    repeat' (first | (with_reducible first | refine p_tn ?_ | refine wp_seq ?_ | refine w_reg ?_ | refine l_nil ?_) | ((with_reducible refine g_on ?_); (first | ((with_reducible refine g_mv ?_); refine l_p txs rfl rfl ?_) | ((with_reducible refine g_as ?_); refine l_p txs rfl rfl ?_) | ((with_reducible refine g_ex ?_); refine l_p txs rfl rfl ?_))))
    (with_reducible refine is_l ?_); refine l_iaZ Tryd.underlying50 size32 rfl rfl rfl (by decide) (by decide) ?_
    (with_reducible refine is_l ?_); refine h_ldA recs (cs := nums .u8 A) (fun j v hv => by show World.cell? _ ((⟨g5, 0, none⟩ : Addr).add j) = _; rw [Addr.add_lit, Nat.zero_add]; exact H.cellAt 0 rfl (get_a hv)) rfl rfl rfl nA ?_
    skip
    (with_reducible refine is_l ?_); refine l_iaZ Tryd.underlying50 size32 rfl rfl rfl (by decide) (by decide) ?_
    (with_reducible refine is_l ?_); refine h_ldA recs (cs := nums .u8 B) (fun j v hv => by show World.cell? _ ((⟨g5, 32, none⟩ : Addr).add j) = _; rw [Addr.add_lit]; exact H.cellAt 0 rfl (get_b lA hv)) rfl rfl rfl nB ?_
    skip
    (with_reducible refine is_l ?_); refine l_callv rfl rfl (by kernel_rfl) (cr _ (hL.below H.B)) (fun w_ K => ?_)
    have H := H.call K
    repeat' (first | (with_reducible first | refine p_tn ?_ | refine wp_seq ?_ | refine w_reg ?_ | refine l_nil ?_) | ((with_reducible refine g_on ?_); (first | ((with_reducible refine g_mv ?_); refine l_p txs rfl rfl ?_) | ((with_reducible refine g_as ?_); refine l_p txs rfl rfl ?_) | ((with_reducible refine g_ex ?_); refine l_p txs rfl rfl ?_))))
    (with_reducible refine is_l ?_); refine l_t txs rfl rfl (fun h => absurd rfl h) (fun _ => ?_)
    repeat' (first | (with_reducible first | refine p_tn ?_ | refine wp_seq ?_ | refine w_reg ?_) | (with_reducible (refine is_if ?_; (refine w_iff rfl ?_))) | (with_reducible first | refine wp_skip ?_ | refine l_nil ?_) | ((with_reducible refine g_on ?_); ((with_reducible refine g_mv ?_); refine l_p txs rfl rfl ?_)))
    (with_reducible refine is_l ?_); refine l_t txs rfl rfl (fun _ => ?_) (fun h => absurd (show (j : Int) ≠ 0 by omega) h)
    repeat' (first | (with_reducible first | refine p_tn ?_ | refine wp_seq ?_ | refine w_reg ?_) | (with_reducible (refine is_if ?_; (refine w_ift rfl ?_))) | (with_reducible refine l_nil ?_) | ((with_reducible refine g_on ?_); ((with_reducible refine g_mv ?_); refine l_p txs rfl rfl ?_)))
    (with_reducible refine is_l ?_); refine l_callv rfl rfl (by kernel_rfl) (cp _ (hL.below H.B)) (fun w_ K => ?_)
    have H := H.call K
    skip
    rcases hm with ⟨hm, rfl⟩ | ⟨hm, hj⟩
    · (with_reducible refine is_l ?_); refine l_t txs rfl rfl (fun _ => ?_) (fun h => absurd (show (m : Int) ≠ 0 by omega) h)
      repeat' (first | (with_reducible first | refine p_tn ?_ | refine wp_seq ?_ | refine w_reg ?_ | refine l_nil ?_) | ((with_reducible refine g_on ?_); (first | ((with_reducible refine g_mv ?_); refine l_p txs rfl rfl ?_) | ((with_reducible refine g_as ?_); refine l_p txs rfl rfl ?_))))
      (with_reducible refine is_l ?_); refine l_t txs rfl rfl (fun _ => ?_) (fun h => absurd rfl h)
      repeat' (first | ((with_reducible refine g_on ?_); ((with_reducible refine g_mv ?_); refine l_p txs rfl rfl ?_)) | ((with_reducible refine g_if ?_); ((with_reducible refine g_mv ?_); refine l_p txs rfl rfl ?_)))
      (with_reducible refine is_l ?_); refine l_t txs rfl rfl (fun _ => ?_) (fun h => absurd rfl h)
      repeat' (first | ((with_reducible refine g_on ?_); (first | ((with_reducible refine g_mv ?_); refine l_p txs rfl rfl ?_) | ((with_reducible refine g_pk ?_); refine l_p txs rfl rfl ?_))) | ((with_reducible refine g_if ?_); ((with_reducible refine g_mv ?_); refine l_p txs rfl rfl ?_)))
      (with_reducible refine is_l ?_); refine l_t txs rfl rfl (fun _ => ?_) (fun h => absurd rfl h)
      repeat' ((with_reducible refine g_if ?_); ((with_reducible refine g_mv ?_); refine l_p txs rfl rfl ?_))
      (with_reducible refine is_l ?_); refine l_bb rfl rfl rfl (eql_bool true _) ?_
      repeat' (first | (with_reducible first | refine p_tn ?_ | refine p_tr ?_ | refine wp_ret ?_ | refine l_nil ?_) | ((with_reducible refine g_on ?_); (first | ((with_reducible refine g_as ?_); refine l_p txs rfl rfl ?_) | ((with_reducible refine g_pk ?_); refine l_p txs rfl rfl ?_))))
      refine end1 rfl rfl ?_
      exact ⟨rfl, H.B⟩
    · (with_reducible refine is_l ?_); refine l_t txs rfl rfl (fun h => absurd h (show ¬ (m : Int) ≠ 0 by omega)) (fun _ => ?_)
      repeat' (first | (with_reducible first | refine p_tn ?_ | refine wp_seq ?_ | refine w_reg ?_ | refine l_nil ?_) | ((with_reducible refine g_on ?_); (first | ((with_reducible refine g_mv ?_); refine l_p txs rfl rfl ?_) | ((with_reducible refine g_as ?_); refine l_p txs rfl rfl ?_))))
      (with_reducible refine is_l ?_); refine l_t txs rfl rfl (fun _ => ?_) (fun h => absurd rfl h)
      repeat' (first | ((with_reducible refine g_on ?_); ((with_reducible refine g_mv ?_); refine l_p txs rfl rfl ?_)) | ((with_reducible refine g_if ?_); ((with_reducible refine g_mv ?_); refine l_p txs rfl rfl ?_)))
      (with_reducible refine is_l ?_); refine l_t txs rfl rfl (fun _ => ?_) (fun h => absurd rfl h)
      repeat' (first | ((with_reducible refine g_on ?_); (first | ((with_reducible refine g_mv ?_); refine l_p txs rfl rfl ?_) | ((with_reducible refine g_pk ?_); refine l_p txs rfl rfl ?_))) | ((with_reducible refine g_if ?_); ((with_reducible refine g_mv ?_); refine l_p txs rfl rfl ?_)))
      (with_reducible refine is_l ?_); refine l_t txs rfl rfl (fun h => absurd h (show ¬ (j : Int) = 110 by omega)) (fun _ => ?_)
      repeat' ((with_reducible refine g_if ?_); ((with_reducible refine g_mv ?_); refine l_p txs rfl rfl ?_))
      (with_reducible refine is_l ?_); refine l_bb rfl rfl rfl (eql_bool false _) ?_
      repeat' (first | (with_reducible first | refine p_tn ?_ | refine p_tr ?_ | refine wp_ret ?_ | refine l_nil ?_) | ((with_reducible refine g_on ?_); (first | ((with_reducible refine g_as ?_); refine l_p txs rfl rfl ?_) | ((with_reducible refine g_pk ?_); refine l_p txs rfl rfl ?_))))
      refine end1 rfl rfl ?_
      exact ⟨rfl, H.B⟩
  · skip
    obtain ⟨hpk, zk⟩ := key_ok hc
    obtain ⟨hpr, zr⟩ := rec_ok hc bA lA bB lB
    obtain ⟨c, d, e1, e2, e3, e4, zc, zd⟩ := esc_ok hc
    have ck := fun (w1 : World) (h1 : Lay w1) => Key_c h1 t u
    have cr := fun (w1 : World) (h1 : Lay w1) => Record_c h1 t u A B bA lA bB lB
    have dk := fun (w1 : World) (h1 : Lay w1) => ParseKey_c h1 (keyT t u) (by omega)
    have dr := fun (w1 : World) (h1 : Lay w1) => ParseRecord_c h1 (recT t u A B)
    have ce1 := fun (w1 : World) (h1 : Lay w1) => EscapePath_c h1 t
    have ce2 := fun (w1 : World) (h1 : Lay w1) => EscapeVersion_c h1 u
    have cu1 := fun (w1 : World) (h1 : Lay w1) => UnescapePath_c h1 c (by omega)
    have cu2 := fun (w1 : World) (h1 : Lay w1) => UnescapeVersion_c h1 d (by omega)
    rw [hc] at ck cr
    rw [hpk] at dk
    rw [hpr] at dr
    rw [e1] at ce1
    rw [e2] at ce2
    rw [e3] at cu1
    rw [e4] at cu2
    simp only [rcP, rcV, rcA, rcB, rcE, strS] at dk dr ce1 ce2 cu1 cu2
    generalize keyT t u = kk at ck dk zk
    generalize recT t u A B = rr at cr dr zr
    repeat' (first | (with_reducible first | refine p_tn ?_ | refine wp_seq ?_ | refine w_reg ?_) | (with_reducible (refine is_if ?_; (refine w_iff rfl ?_))) | (with_reducible first | refine wp_skip ?_ | refine l_nil ?_) | ((with_reducible refine g_on ?_); (first | ((with_reducible refine g_mv ?_); refine l_p txs rfl rfl ?_) | ((with_reducible refine g_pk ?_); refine l_p txs rfl rfl ?_))))
    (with_reducible refine is_l ?_); refine l_callv rfl rfl (by kernel_rfl) (ck _ (hL.below H.B)) (fun w_ K => ?_)
    have H := H.call K
    repeat' (first | (with_reducible first | refine p_tn ?_ | refine wp_seq ?_ | refine w_reg ?_ | refine l_nil ?_) | ((with_reducible refine g_on ?_); (first | ((with_reducible refine g_mv ?_); refine l_p txs rfl rfl ?_) | ((with_reducible refine g_as ?_); refine l_p txs rfl rfl ?_) | ((with_reducible refine g_ex ?_); refine l_p txs rfl rfl ?_))))
    (with_reducible refine is_l ?_); refine l_iaZ Tryd.underlying50 size32 rfl rfl rfl (by decide) (by decide) ?_
    (with_reducible refine is_l ?_); refine h_ldA recs (cs := nums .u8 A) (fun j v hv => by show World.cell? _ ((⟨g5, 0, none⟩ : Addr).add j) = _; rw [Addr.add_lit, Nat.zero_add]; exact H.cellAt 0 rfl (get_a hv)) rfl rfl rfl nA ?_
    skip
    (with_reducible refine is_l ?_); refine l_iaZ Tryd.underlying50 size32 rfl rfl rfl (by decide) (by decide) ?_
    (with_reducible refine is_l ?_); refine h_ldA recs (cs := nums .u8 B) (fun j v hv => by show World.cell? _ ((⟨g5, 32, none⟩ : Addr).add j) = _; rw [Addr.add_lit]; exact H.cellAt 0 rfl (get_b lA hv)) rfl rfl rfl nB ?_
    skip
    (with_reducible refine is_l ?_); refine l_callv rfl rfl (by kernel_rfl) (cr _ (hL.below H.B)) (fun w_ K => ?_)
    have H := H.call K
    repeat' (first | (with_reducible first | refine p_tn ?_ | refine wp_seq ?_ | refine w_reg ?_ | refine l_nil ?_) | ((with_reducible refine g_on ?_); (first | ((with_reducible refine g_mv ?_); refine l_p txs rfl rfl ?_) | ((with_reducible refine g_as ?_); refine l_p txs rfl rfl ?_) | ((with_reducible refine g_ex ?_); refine l_p txs rfl rfl ?_))))
    (with_reducible refine is_l ?_); refine l_t txs rfl rfl (fun h => absurd rfl h) (fun _ => ?_)
    repeat' (first | (with_reducible first | refine p_tn ?_ | refine wp_seq ?_ | refine w_reg ?_) | (with_reducible (refine is_if ?_; (refine w_iff rfl ?_))) | (with_reducible first | refine wp_skip ?_ | refine l_nil ?_) | ((with_reducible refine g_on ?_); ((with_reducible refine g_mv ?_); refine l_p txs rfl rfl ?_)))
    (with_reducible refine is_l ?_); refine l_t txs rfl rfl (fun h => absurd rfl h) (fun _ => ?_)
    repeat' (first | (with_reducible first | refine p_tn ?_ | refine wp_seq ?_ | refine w_reg ?_) | (with_reducible (refine is_if ?_; (refine w_iff rfl ?_))) | (with_reducible first | refine wp_skip ?_ | refine l_nil ?_) | ((with_reducible refine g_on ?_); ((with_reducible refine g_mv ?_); refine l_p txs rfl rfl ?_)))
    (with_reducible refine is_l ?_); refine l_callv rfl rfl (by kernel_rfl) (dk _ (hL.below H.B)) (fun w_ K => ?_)
    have H := H.call K
    repeat' (first | (with_reducible first | refine p_tn ?_ | refine wp_seq ?_ | refine w_reg ?_ | refine l_nil ?_) | ((with_reducible refine g_on ?_); (first | ((with_reducible refine g_mv ?_); refine l_p txs rfl rfl ?_) | ((with_reducible refine g_as ?_); refine l_p txs rfl rfl ?_) | ((with_reducible refine g_ex ?_); refine l_p txs rfl rfl ?_))))
    (with_reducible refine is_l ?_); refine l_callv rfl rfl (by kernel_rfl) (dr _ (hL.below H.B)) (fun w_ K => ?_)
    have H := H.call K
    repeat' ((with_reducible refine g_on ?_); (first | ((with_reducible refine g_mv ?_); refine l_p txs rfl rfl ?_) | ((with_reducible refine g_as ?_); refine l_p txs rfl rfl ?_) | ((with_reducible refine g_ex ?_); refine l_p txs rfl rfl ?_) | ((with_reducible refine g_al ?_); refine h_alloc recs H rfl rfl (fun g_ w_ H => ?_))))
    (with_reducible refine is_l ?_); refine h_stR recs H 1 rfl rfl rfl rfl rfl (nfL_eq _ _) nA (nums_one _) rfl (fun w_ H => ?_)
    (with_reducible refine is_l ?_); refine h_stR recs H 0 rfl rfl rfl rfl rfl (nfL_eq _ _) nB (nums_one _) rfl (fun w_ H => ?_)
    repeat' (first | (with_reducible first | refine p_tn ?_ | refine wp_seq ?_ | refine w_reg ?_ | refine l_nil ?_) | ((with_reducible refine g_on ?_); (first | ((with_reducible refine g_mv ?_); refine l_p txs rfl rfl ?_) | ((with_reducible refine g_as ?_); refine l_p txs rfl rfl ?_))))
    (with_reducible refine is_l ?_); refine l_t txs rfl rfl (fun h => absurd rfl h) (fun _ => ?_)
    repeat' (first | ((with_reducible refine g_on ?_); ((with_reducible refine g_mv ?_); refine l_p txs rfl rfl ?_)) | ((with_reducible refine g_if ?_); ((with_reducible refine g_mv ?_); refine l_p txs rfl rfl ?_)))
    (with_reducible refine is_l ?_); refine l_t txs rfl rfl (fun h => absurd rfl h) (fun _ => ?_)
    repeat' (first | ((with_reducible refine g_on ?_); (first | ((with_reducible refine g_mv ?_); refine l_p txs rfl rfl ?_) | ((with_reducible refine g_pk ?_); refine l_p txs rfl rfl ?_))) | ((with_reducible refine g_if ?_); ((with_reducible refine g_mv ?_); refine l_p txs rfl rfl ?_)))
    (with_reducible refine is_l ?_); refine l_t txs rfl rfl (fun h => absurd rfl h) (fun _ => ?_)
    repeat' (first | ((with_reducible refine g_on ?_); (first | ((with_reducible refine g_mv ?_); refine l_p txs rfl rfl ?_) | ((with_reducible refine g_pk ?_); refine l_p txs rfl rfl ?_))) | ((with_reducible refine g_if ?_); ((with_reducible refine g_mv ?_); refine l_p txs rfl rfl ?_)))
    (with_reducible refine is_l ?_); refine l_t txs rfl rfl (fun h => absurd rfl h) (fun _ => ?_)
    repeat' (first | ((with_reducible refine g_on ?_); (first | ((with_reducible refine g_mv ?_); refine l_p txs rfl rfl ?_) | ((with_reducible refine g_pk ?_); refine l_p txs rfl rfl ?_))) | ((with_reducible refine g_if ?_); ((with_reducible refine g_mv ?_); refine l_p txs rfl rfl ?_)))
    (with_reducible refine is_l ?_); refine l_t txs rfl rfl (fun h => absurd rfl h) (fun _ => ?_)
    repeat' (first | ((with_reducible refine g_on ?_); (first | ((with_reducible refine g_mv ?_); refine l_p txs rfl rfl ?_) | ((with_reducible refine g_pk ?_); refine l_p txs rfl rfl ?_))) | ((with_reducible refine g_if ?_); ((with_reducible refine g_mv ?_); refine l_p txs rfl rfl ?_)))
    (with_reducible refine is_l ?_); refine l_t txs rfl rfl (fun h => absurd rfl h) (fun _ => ?_)
    repeat' ((with_reducible refine g_on ?_); (first | ((with_reducible refine g_mv ?_); refine l_p txs rfl rfl ?_) | ((with_reducible refine g_pk ?_); refine l_p txs rfl rfl ?_)))
    (with_reducible refine is_l ?_); refine h_ldR recs H 1 rfl rfl rfl rfl nA ?_
    skip
    (with_reducible refine is_l ?_); refine l_iaZ Tryd.underlying50 size32 rfl rfl rfl (by decide) (by decide) ?_
    (with_reducible refine is_l ?_); refine h_ldA recs (cs := nums .u8 A) (fun j v hv => by show World.cell? _ ((⟨g5, 0, none⟩ : Addr).add j) = _; rw [Addr.add_lit, Nat.zero_add]; exact H.cellAt 2 rfl (get_a hv)) rfl rfl rfl nA ?_
    (with_reducible refine is_l ?_); refine l_bag (z := .bool false) guard32 rfl rfl rfl (qA _) ?_
    repeat' ((with_reducible refine g_on ?_); (first | ((with_reducible refine g_mv ?_); refine l_p txs rfl rfl ?_) | ((with_reducible refine g_pk ?_); refine l_p txs rfl rfl ?_)))
    (with_reducible refine is_l ?_); refine h_ldR recs H 0 rfl rfl rfl rfl nB ?_
    skip
    (with_reducible refine is_l ?_); refine l_iaZ Tryd.underlying50 size32 rfl rfl rfl (by decide) (by decide) ?_
    (with_reducible refine is_l ?_); refine h_ldA recs (cs := nums .u8 B) (fun j v hv => by show World.cell? _ ((⟨g5, 32, none⟩ : Addr).add j) = _; rw [Addr.add_lit]; exact H.cellAt 2 rfl (get_b lA hv)) rfl rfl rfl nB ?_
    (with_reducible refine is_l ?_); refine l_bag (z := .bool false) guard32 rfl rfl rfl (qB _) ?_
    repeat' (first | ((with_reducible refine g_on ?_); (first | ((with_reducible refine g_mv ?_); refine l_p txs rfl rfl ?_) | ((with_reducible refine g_pk ?_); refine l_p txs rfl rfl ?_))) | ((with_reducible refine g_if ?_); (first | ((with_reducible refine g_mv ?_); refine l_p txs rfl rfl ?_) | ((with_reducible refine g_cl ?_); refine l_p txs rfl rfl ?_))))
    (with_reducible refine is_l ?_); refine l_t txs rfl rfl (fun h => absurd h (by omega)) (fun _ => ?_)
    repeat' (first | (with_reducible first | refine p_tn ?_ | refine wp_seq ?_ | refine w_reg ?_) | (with_reducible (refine is_if ?_; (refine w_iff rfl ?_))) | (with_reducible first | refine wp_skip ?_ | refine l_nil ?_) | ((with_reducible refine g_on ?_); (first | ((with_reducible refine g_mv ?_); refine l_p txs rfl rfl ?_) | ((with_reducible refine g_pk ?_); refine l_p txs rfl rfl ?_))))
    (with_reducible refine is_l ?_); refine l_callv rfl rfl (by kernel_rfl) (ce1 _ (hL.below H.B)) (fun w_ K => ?_)
    have H := H.call K
    repeat' (first | (with_reducible first | refine p_tn ?_ | refine wp_seq ?_ | refine w_reg ?_ | refine l_nil ?_) | ((with_reducible refine g_on ?_); (first | ((with_reducible refine g_mv ?_); refine l_p txs rfl rfl ?_) | ((with_reducible refine g_as ?_); refine l_p txs rfl rfl ?_) | ((with_reducible refine g_ex ?_); refine l_p txs rfl rfl ?_))))
    (with_reducible refine is_l ?_); refine l_callv rfl rfl (by kernel_rfl) (ce2 _ (hL.below H.B)) (fun w_ K => ?_)
    have H := H.call K
    repeat' (first | (with_reducible first | refine p_tn ?_ | refine wp_seq ?_ | refine w_reg ?_ | refine l_nil ?_) | ((with_reducible refine g_on ?_); (first | ((with_reducible refine g_mv ?_); refine l_p txs rfl rfl ?_) | ((with_reducible refine g_as ?_); refine l_p txs rfl rfl ?_) | ((with_reducible refine g_ex ?_); refine l_p txs rfl rfl ?_))))
    (with_reducible refine is_l ?_); refine l_t txs rfl rfl (fun h => absurd rfl h) (fun _ => ?_)
    repeat' (first | ((with_reducible refine g_on ?_); ((with_reducible refine g_mv ?_); refine l_p txs rfl rfl ?_)) | ((with_reducible refine g_if ?_); ((with_reducible refine g_mv ?_); refine l_p txs rfl rfl ?_)))
    (with_reducible refine is_l ?_); refine l_t txs rfl rfl (fun h => absurd rfl h) (fun _ => ?_)
    repeat' (first | (with_reducible first | refine p_tn ?_ | refine wp_seq ?_ | refine w_reg ?_) | (with_reducible (refine is_if ?_; (refine w_iff rfl ?_))) | (with_reducible first | refine wp_skip ?_ | refine l_nil ?_) | ((with_reducible refine g_on ?_); (first | ((with_reducible refine g_mv ?_); refine l_p txs rfl rfl ?_) | ((with_reducible refine g_pk ?_); refine l_p txs rfl rfl ?_))))
    (with_reducible refine is_l ?_); refine l_callv rfl rfl (by kernel_rfl) (cu1 _ (hL.below H.B)) (fun w_ K => ?_)
    have H := H.call K
    repeat' (first | (with_reducible first | refine p_tn ?_ | refine wp_seq ?_ | refine w_reg ?_ | refine l_nil ?_) | ((with_reducible refine g_on ?_); (first | ((with_reducible refine g_mv ?_); refine l_p txs rfl rfl ?_) | ((with_reducible refine g_as ?_); refine l_p txs rfl rfl ?_) | ((with_reducible refine g_ex ?_); refine l_p txs rfl rfl ?_))))
    (with_reducible refine is_l ?_); refine l_callv rfl rfl (by kernel_rfl) (cu2 _ (hL.below H.B)) (fun w_ K => ?_)
    have H := H.call K
    repeat' (first | (with_reducible first | refine p_tn ?_ | refine wp_seq ?_ | refine w_reg ?_ | refine l_nil ?_) | ((with_reducible refine g_on ?_); (first | ((with_reducible refine g_mv ?_); refine l_p txs rfl rfl ?_) | ((with_reducible refine g_as ?_); refine l_p txs rfl rfl ?_) | ((with_reducible refine g_ex ?_); refine l_p txs rfl rfl ?_))))
    (with_reducible refine is_l ?_); refine l_t txs rfl rfl (fun _ => ?_) (fun h => absurd rfl h)
    repeat' (first | ((with_reducible refine g_on ?_); ((with_reducible refine g_mv ?_); refine l_p txs rfl rfl ?_)) | ((with_reducible refine g_if ?_); ((with_reducible refine g_mv ?_); refine l_p txs rfl rfl ?_)))
    (with_reducible refine is_l ?_); refine l_t txs rfl rfl (fun _ => ?_) (fun h => absurd rfl h)
    repeat' (first | ((with_reducible refine g_on ?_); (first | ((with_reducible refine g_mv ?_); refine l_p txs rfl rfl ?_) | ((with_reducible refine g_pk ?_); refine l_p txs rfl rfl ?_))) | ((with_reducible refine g_if ?_); ((with_reducible refine g_mv ?_); refine l_p txs rfl rfl ?_)))
    (with_reducible refine is_l ?_); refine l_t txs rfl rfl (fun _ => ?_) (fun h => absurd rfl h)
    repeat' (first | ((with_reducible refine g_on ?_); (first | ((with_reducible refine g_mv ?_); refine l_p txs rfl rfl ?_) | ((with_reducible refine g_pk ?_); refine l_p txs rfl rfl ?_))) | ((with_reducible refine g_if ?_); ((with_reducible refine g_mv ?_); refine l_p txs rfl rfl ?_)))
    (with_reducible refine is_l ?_); refine l_t txs rfl rfl (fun _ => ?_) (fun h => absurd rfl h)
    repeat' (first | (with_reducible first | refine p_tn ?_ | refine wp_ret ?_ | refine l_nil ?_) | ((with_reducible refine g_on ?_); (first | ((with_reducible refine g_as ?_); refine l_p txs rfl rfl ?_) | ((with_reducible refine g_pk ?_); refine l_p txs rfl rfl ?_))))
    refine end1 rfl rfl ?_
    exact ⟨rfl, H.B⟩
end Go.Proofs.YtnimaenhijlcmaaDoor.K.Rec
