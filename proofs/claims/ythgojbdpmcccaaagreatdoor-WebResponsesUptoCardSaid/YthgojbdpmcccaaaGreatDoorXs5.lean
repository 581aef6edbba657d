/- Joined texts of mine, 5: Rd, Rf, Rg, Rh, Ri, Rj, Rk, Rl, Rm, Rn. -/
import Derived.Test.YthgojbdpmcccaaaGreatDoorXs4
section
namespace Go.Proofs.YthgojbdpmcccaaaGreatDoor.K.Ref
open Go.RowKit Go.Proofs.YthgojbdpmcccaaaGreatDoor.Q Go.Proofs.YthgojbdpmcccaaaGreatDoor.Wb Go.Proofs.YthgojbdpmcccaaaGreatDoorW.PrintWords Go.Proofs.YthgojbdpmcccaaaGreatDoor.K
set_option linter.unusedVariables false
set_option linter.unusedSimpArgs false
abbrev rowG (v : Value) (l : List Fld) : RowD := ⟨v, 145, 2, l.length, fldC l⟩
theorem info_g : (Tryz.prog.info? 145).map (fun i => (i.zero, i.size, i.bytes)) = some (some (.agg #[.string ⟨#[]⟩, .string ⟨#[]⟩]), 2, 32) := by kernel_rfl
theorem built_g2 (a b : ByteArray) : Tryz.prog.built 145 [(0, .string a), (1, .string b)] = some #[.string a, .string b] := by kernel_rfl
theorem vals_take {l : List Fld} {n : L} {i : Nat} {x : Fld} (hx : l[i]? = some x) : vals (l.take (i + 1)) n = vals (l.take i) n ++ (if lowS x.1 = n then [x.2] else []) := by
  have hi : i < l.length := (List.getElem?_eq_some_iff.1 hx).1
  rw [List.take_succ_eq_append_getElem hi, (List.getElem?_eq_some_iff.1 hx).2, vals_app]
  congr 1
  by_cases h : lowS x.1 = n
  · simp [vals, h]
  · simp [vals, h]
theorem vals_le (l : List Fld) (n : L) : (vals l n).length ≤ l.length := by unfold vals; exact List.length_filterMap_le _ _
set_option maxHeartbeats 4000000 in
theorem rall_c {w : World} {B : Option Addr} {c : Nat} {l : List Fld} (h : Rd w B (fldC l)) (hb : BytesF l) (hl : l.length ≤ 100000000) (t : ByteArray) :
    Calls Tryz.prog 141 #[.slice B l.length c, .string t] w fun e w' => ∃ A1 c1, e = .returned (.slice A1 (vals l (bl t)).length c1) ∧ Hp w w' [] [rowT (.slice A1 (vals l (bl t)).length c1) (vals l (bl t))] := by
  refine enter (args := [.slice B l.length c, .string t]) Tryz.func141 rfl Tryz.ntmps141 rfl ?_
  have H := (Hp.nil w).nilRow 9 1
  repeat' (first | (with_reducible first | refine p_tn ?_ | refine wp_seq ?_ | refine wp_block ?_ | refine w_reg ?_ | refine l_nil ?_) | ((with_reducible refine g_on ?_); ((with_reducible refine g_as ?_); refine l_p txs rfl rfl ?_)))
  refine w_loop (σ := Nat × Option Addr × Nat) (S := fun s => [(0, .slice B l.length c), (1, .string t), (5, .slice s.2.1 (vals (l.take s.1) (bl t)).length s.2.2), (6, .int .i64 (s.1 : Int))])
    (J := fun s w' => Hp w w' [] [rowT (.slice s.2.1 (vals (l.take s.1) (bl t)).length s.2.2) (vals (l.take s.1) (bl t))] ∧ s.1 ≤ l.length) (μ := fun s => l.length - s.1) (0, none, 0) ⟨rfl, rfl, rfl, rfl, trivial⟩ ⟨H, by omega⟩ ?_
  rintro ⟨i, A2, c2⟩ f w_ ⟨H, hi⟩
  simp only at H hi ⊢
  repeat' (first | (with_reducible first | refine wp_seq ?_ | refine w_reg ?_) | ((with_reducible refine g_on ?_); (first | ((with_reducible refine g_mv ?_); refine l_p txs rfl rfl ?_) | ((with_reducible refine g_cl ?_); refine l_p txs rfl rfl ?_))))
  (with_reducible refine is_l ?_); refine l_t txs rfl rfl (fun hlt => ?_) (fun hge => ?_)
  · obtain ⟨x, hx⟩ : ∃ x, l[i]? = some x := ⟨_, List.getElem?_eq_getElem (by omega)⟩
    obtain ⟨a1, rfl⟩ := rd_some h (i := i) (by omega)
    obtain ⟨bx1, bx2, lx1, lx2⟩ := hb x (List.mem_of_getElem? hx)
    have zx1 := sizeS' bx1
    have hvt := vals_take (n := bl t) hx
    have hvl := vals_le (l.take i) (bl t)
    rw [List.length_take_of_le (by omega)] at hvl
    have hc1 := fld_part h hx 0 _ rfl
    have hc2 := fld_part h hx 1 _ rfl
    repeat' (first | (with_reducible first | refine p_tn ?_ | refine wp_seq ?_ | refine wp_block ?_ | refine w_reg ?_) | (with_reducible (refine is_if ?_; (refine w_ift rfl ?_))) | (with_reducible first | refine wp_skip ?_ | refine l_nil ?_) | ((with_reducible refine g_on ?_); (first | ((with_reducible refine g_mv ?_); refine l_p txs rfl rfl ?_) | ((with_reducible refine g_ia ?_); refine l_ia txs rfl rfl (by first | omega | assumption | decide) (by first | omega | assumption | decide) ?_))))
    (with_reducible refine is_l ?_); refine h_fg flds rfl rfl ?_
    (with_reducible refine is_l ?_); refine l_ld txs rfl rfl (by rw [Int.toNat_natCast]; exact H.old hc1) ?_
    skip
    have hlow := rsmall_c (strOfNums x.1) w_ (by omega)
    rw [blS bx1] at hlow
    (with_reducible refine is_l ?_); refine l_callv rfl rfl (by kernel_rfl) hlow (fun w_ K => ?_)
    have H := H.call K
    repeat' ((with_reducible refine g_on ?_); ((with_reducible refine g_mv ?_); refine l_p txs rfl rfl ?_))
    have e1 := blS (bytes_low bx1)
    (with_reducible refine is_l ?_); refine l_t txs rfl rfl (fun h1 => ?_) (fun h1 => ?_)
    · rw [e1] at h1
      rw [if_pos h1] at hvt
      repeat' (first | (with_reducible first | refine p_tn ?_ | refine w_reg ?_) | (with_reducible (refine is_if ?_; (refine w_ift rfl ?_))) | (with_reducible refine l_nil ?_) | ((with_reducible refine g_on ?_); (first | ((with_reducible refine g_mv ?_); refine l_p txs rfl rfl ?_) | ((with_reducible refine g_ia ?_); refine l_ia txs rfl rfl (by first | omega | assumption | decide) (by first | omega | assumption | decide) ?_))))
      (with_reducible refine is_l ?_); refine h_fg flds rfl rfl ?_
      (with_reducible refine is_l ?_); refine l_ld txs rfl rfl (by rw [Int.toNat_natCast]; exact H.old hc2) ?_
      skip
      (with_reducible refine is_l ?_); refine h_bs H info_str3 Tryz.underlying22 (by decide) (by decide) rfl rfl (fill_s _) (fun g_ w_ H => ?_)
      (with_reducible refine is_l ?_); refine h_app H 0 rfl info_str3 Tryz.underlying22 rfl rfl rfl rfl (H.cellRd 0 rfl) rfl rfl (by show ((vals (l.take i) (bl t)).length + 1) * 16 ≤ _; omega) (fun v w_ hv H => ?_)
      obtain ⟨A', c', rfl⟩ := hv
      repeat' (first | (with_reducible first | refine p_tn ?_ | refine p_bn ?_ | refine w_reg ?_ | refine l_nil ?_) | ((with_reducible refine g_on ?_); (first | ((with_reducible refine g_mv ?_); refine l_p txs rfl rfl ?_) | ((with_reducible refine g_as ?_); refine l_p txs rfl rfl ?_) | ((with_reducible refine g_bi ?_); (refine l_a txs rfl rfl (by first | exact in_i64 (by omega) (by omega) | exact in_u8 (by omega) (by omega) | exact in_u64 (by omega) (by omega) | exact in_i32 (by omega) (by omega)) ?_)))))
      have H := H.pick [] [0] (by decide) (by decide) rfl rfl
      have hlen : (vals (l.take (i + 1)) (bl t)).length = (vals (l.take i) (bl t)).length + 1 := by rw [hvt]; simp
      refine ⟨(i + 1, A', c'), _, rfl, ⟨rfl, rfl, ?_, rfl, trivial⟩, ⟨?_, by show i + 1 ≤ _; omega⟩, by show _ - (i + 1) < _ - i; omega⟩
      · show Value.slice A' ((vals (l.take i) (bl t)).length + 1) c' = Value.slice A' (vals (l.take (i + 1)) (bl t)).length c'
        rw [hlen]
      · show Hp w _ [] [rowT (.slice A' (vals (l.take (i + 1)) (bl t)).length c') (vals (l.take (i + 1)) (bl t))]
        unfold rowT
        rw [hlen, hvt, strC_snoc]
        exact H
    · rw [e1] at h1
      rw [if_neg h1, List.append_nil] at hvt
      repeat' (first | (with_reducible first | refine p_tn ?_ | refine p_bn ?_ | refine w_reg ?_) | (with_reducible (refine is_if ?_; (refine w_iff rfl ?_))) | (with_reducible first | refine wp_skip ?_ | refine l_nil ?_) | ((with_reducible refine g_on ?_); (first | ((with_reducible refine g_mv ?_); refine l_p txs rfl rfl ?_) | ((with_reducible refine g_as ?_); refine l_p txs rfl rfl ?_) | ((with_reducible refine g_bi ?_); (refine l_a txs rfl rfl (by first | exact in_i64 (by omega) (by omega) | exact in_u8 (by omega) (by omega) | exact in_u64 (by omega) (by omega) | exact in_i32 (by omega) (by omega)) ?_)))))
      refine ⟨(i + 1, A2, c2), _, rfl, ⟨rfl, rfl, ?_, rfl, trivial⟩, ⟨?_, by show i + 1 ≤ _; omega⟩, by show _ - (i + 1) < _ - i; omega⟩
      · show Value.slice A2 (vals (l.take i) (bl t)).length c2 = Value.slice A2 (vals (l.take (i + 1)) (bl t)).length c2
        rw [hvt]
      · show Hp w _ [] [rowT (.slice A2 (vals (l.take (i + 1)) (bl t)).length c2) (vals (l.take (i + 1)) (bl t))]
        rw [hvt]
        exact H
  · have hall : l.take i = l := List.take_of_length_le (by omega)
    simp only [hall] at H ⊢
    repeat' (first | (with_reducible first | refine p_tn ?_ | refine p_tx ?_ | refine x_hit ?_ | refine wp_seq ?_ | refine w_reg ?_) | (with_reducible (refine is_if ?_; (refine w_iff rfl ?_))) | (with_reducible first | refine wp_exit ?_ | refine wp_ret ?_ | refine l_nil ?_) | ((with_reducible refine g_on ?_); (first | ((with_reducible refine g_mv ?_); refine l_p txs rfl rfl ?_) | ((with_reducible refine g_as ?_); refine l_p txs rfl rfl ?_))))
    refine end1 rfl rfl ?_
    exact ⟨A2, c2, rfl, H⟩
theorem splitC_ne : ∀ (c : Int) (s : L), splitC c s ≠ []
  | c, [] => by simp [splitC]
  | c, x :: r => by
    rw [splitC]
    split
    · simp
    · split <;> simp
/-- A list of texts of the call's own: where it lies, its cells. -/
theorem rowT_at {w0 w : World} {l : List Ent} {r : List RowD} (H : Hp w0 w l r) (k : Nat) {A : Option Addr} {c : Nat} {x : List L} (hk : r[k]? = some (rowT (.slice A x.length c) x)) : Rd w A (strC x) := by
  obtain ⟨A', c', e, _, hrd, _⟩ := H.rd k hk
  simp only [Value.slice.injEq] at e
  rw [e.1]
  exact hrd
theorem rdT_some {w : World} {A : Option Addr} {x : List L} {y : L} {i : Nat} (h : Rd w A (strC x)) (hy : x[i]? = some y) : ∃ a, A = some a := by
  have hc := strC_at hy
  cases A with
  | none =>
    have h1 : strC x = [] := h.1 rfl
    rw [h1] at hc
    simp at hc
  | some a => exact ⟨a, rfl⟩
theorem rdT_cell {w : World} {a : Addr} {x : List L} {y : L} {i : Nat} (h : Rd w (some a) (strC x)) (hy : x[i]? = some y) : w.cell? (a.add (i * 1)) = some (.string (strOfNums y)) := h.2 a rfl _ _ (strC_at hy)
theorem built_g0 : Tryz.prog.built 145 [] = some #[.string ⟨#[]⟩, .string ⟨#[]⟩] := by kernel_rfl
def FlR (w : World) (s : ByteArray) (e : Ending) (w' : World) : Prop := ∃ a b : ByteArray, e = .returned (.tuple #[.agg #[.string a, .string b], .bool (fieldS (bl s)).isSome]) ∧ (∀ f, fieldS (bl s) = some f → a = strOfNums f.1 ∧ b = strOfNums f.2) ∧ Below w.heap.size w w'
set_option maxRecDepth 100000 in
set_option maxHeartbeats 8000000 in
theorem rfieldLine_c (s : ByteArray) (w : World) (hs : s.size ≤ 100000000) : Calls Tryz.prog 170 #[.string s] w (FlR w s) := by
  refine enter (args := [.string s]) Tryz.func170 rfl Tryz.ntmps170 rfl ?_
  have hbl := bl_length s
  have H := Hp.nil w
  repeat' (with_reducible first | refine wp_seq ?_ | refine w_reg ?_)
  (with_reducible refine is_l ?_); refine h_alloc recs H rfl rfl (fun gC w_ H => ?_)
  repeat' (first | (with_reducible first | refine p_tn ?_ | refine wp_seq ?_ | refine w_reg ?_ | refine l_nil ?_) | ((with_reducible refine g_on ?_); (first | ((with_reducible refine g_mv ?_); refine l_p txs rfl rfl ?_) | ((with_reducible refine g_as ?_); refine l_p txs rfl rfl ?_))))
  (with_reducible refine is_l ?_); refine l_call rfl rfl (by kernel_rfl) (pieces_c s 58 _ hs) (fun e w_ hR => ?_)
  obtain ⟨A1, c1, rfl, K⟩ := hR
  refine ⟨_, rfl, ?_⟩
  have H := H.join K
  repeat' (first | (with_reducible first | refine p_tn ?_ | refine wp_seq ?_ | refine w_reg ?_ | refine l_nil ?_) | ((with_reducible refine g_on ?_); (first | ((with_reducible refine g_mv ?_); refine l_p txs rfl rfl ?_) | ((with_reducible refine g_as ?_); refine l_p txs rfl rfl ?_) | ((with_reducible refine g_cl ?_); refine l_p txs rfl rfl ?_))))
  cases hc : cutC 58 (bl s) with
  | none =>
    have hsp : splitC 58 (bl s) = [bl s] := splitC_none (cutC_none hc)
    have hf : fieldS (bl s) = none := by unfold fieldS; rw [hc]
    rw [hsp] at H ⊢
    (with_reducible refine is_l ?_); refine l_t txs rfl rfl (fun _ => ?_) (fun hh => absurd (show (((1 : Nat) : Int)) < 2 by decide) hh)
    repeat' (first | (with_reducible first | refine p_tn ?_ | refine wp_seq ?_ | refine w_reg ?_) | (with_reducible (refine is_if ?_; (refine w_ift rfl ?_))) | (with_reducible refine l_nil ?_) | ((with_reducible refine g_on ?_); (first | ((with_reducible refine g_mv ?_); refine l_p txs rfl rfl ?_) | ((with_reducible refine g_pk ?_); refine l_p txs rfl rfl ?_))) | ((with_reducible refine g_if ?_); (refine l_off rfl ?_)))
    (with_reducible refine is_l ?_); refine h_bld rfl rfl built_g0 ?_
    repeat' (first | (with_reducible first | refine p_tn ?_ | refine p_tr ?_ | refine wp_ret ?_ | refine l_nil ?_) | ((with_reducible refine g_on ?_); (first | ((with_reducible refine g_as ?_); refine l_p txs rfl rfl ?_) | ((with_reducible refine g_st ?_); (refine h_stR recs H 0 rfl rfl rfl rfl rfl rfl rfl rfl rfl (fun w_ H => ?_))))))
    refine end_ct recs H 0 rfl rfl rfl rfl rfl rfl ?_
    exact ⟨⟨#[]⟩, ⟨#[]⟩, by rw [hf]; rfl, (by intro f h; rw [hf] at h; cases h), H.B⟩
  | some z =>
    obtain ⟨n, v⟩ := z
    obtain ⟨hb, hno⟩ := cutC_some hc
    have hsp : splitC 58 (bl s) = n :: splitC 58 v := by rw [hb, splitC_cut _ hno]
    have hbn : Bytes n := fun x hx => bl_bytes s x (by rw [hb]; simp [hx])
    have hbv : Bytes v := fun x hx => bl_bytes s x (by rw [hb]; simp [hx])
    have zn := sizeS' hbn
    have hlen : n.length + 1 + v.length = s.size := by rw [← hbl, hb]; simp; omega
    have hl2 : 0 < (splitC 58 v).length := List.length_pos_iff.2 (splitC_ne 58 v)
    have hf : fieldS (bl s) = if tokS n = true ∧ v.all valB = true then some (n, trimS v) else none := by unfold fieldS; rw [hc]
    rw [hsp] at H ⊢
    obtain ⟨a, ha⟩ := rdT_some (rowT_at H 0 rfl) (y := n) (i := 0) rfl
    subst ha
    have hll : (n :: splitC 58 v).length = (splitC 58 v).length + 1 := rfl
    (with_reducible refine is_l ?_); refine l_t txs rfl rfl (fun hh => absurd hh (by omega)) (fun _ => ?_)
    repeat' (first | ((with_reducible refine g_on ?_); ((with_reducible refine g_mv ?_); refine l_p txs rfl rfl ?_)) | ((with_reducible refine g_if ?_); (first | ((with_reducible refine g_mv ?_); refine l_p txs rfl rfl ?_) | ((with_reducible refine g_ia ?_); refine l_ia txs rfl rfl (by first | omega | assumption | decide) (by first | omega | assumption | decide) ?_))))
    (with_reducible refine is_l ?_); refine l_ld txs rfl rfl (rdT_cell (rowT_at H 0 rfl) (y := n) (i := 0) rfl) ?_
    skip
    have hto := rtoken_c (strOfNums n) w_ (by omega)
    rw [blS hbn] at hto
    (with_reducible refine is_l ?_); refine l_callv rfl rfl (by kernel_rfl) hto (fun w_ K => ?_)
    have H := H.call K
    cases ht : tokS n
    · have hf : fieldS (bl s) = none := by rw [hf, if_neg (by rw [ht]; simp)]
      repeat' (first | (with_reducible first | refine p_tn ?_ | refine wp_seq ?_ | refine w_reg ?_) | (with_reducible (refine is_if ?_; (refine w_ift rfl ?_))) | (with_reducible refine l_nil ?_) | ((with_reducible refine g_on ?_); ((with_reducible refine g_pk ?_); refine l_p txs rfl rfl ?_)) | ((with_reducible refine g_if ?_); ((with_reducible refine g_un ?_); (refine l_p txs rfl rfl ?_))))
      (with_reducible refine is_l ?_); refine h_bld rfl rfl built_g0 ?_
      repeat' (first | (with_reducible first | refine p_tn ?_ | refine p_tr ?_ | refine wp_ret ?_ | refine l_nil ?_) | ((with_reducible refine g_on ?_); (first | ((with_reducible refine g_as ?_); refine l_p txs rfl rfl ?_) | ((with_reducible refine g_st ?_); (refine h_stR recs H 0 rfl rfl rfl rfl rfl rfl rfl rfl rfl (fun w_ H => ?_))))))
      refine end_ct recs H 0 rfl rfl rfl rfl rfl rfl ?_
      exact ⟨⟨#[]⟩, ⟨#[]⟩, by rw [hf]; rfl, (by intro f h; rw [hf] at h; cases h), H.B⟩
    · have hf : (fieldS (bl s)).isSome = v.all valB ∧ ∀ f, fieldS (bl s) = some f → strOfNums n = strOfNums f.1 ∧ strOfNums (trimS v) = strOfNums f.2 := by
        rw [hf, ht]
        cases v.all valB
        · exact ⟨rfl, fun f h => by cases h⟩
        · exact ⟨rfl, fun f h => by simp at h; rw [← h]; exact ⟨rfl, rfl⟩⟩
      repeat' (first | (with_reducible first | refine p_tn ?_ | refine wp_seq ?_ | refine w_reg ?_) | (with_reducible (refine is_if ?_; (refine w_iff rfl ?_))) | (with_reducible first | refine wp_skip ?_ | refine l_nil ?_) | ((with_reducible refine g_on ?_); (first | ((with_reducible refine g_mv ?_); refine l_p txs rfl rfl ?_) | ((with_reducible refine g_pk ?_); refine l_p txs rfl rfl ?_) | ((with_reducible refine g_ia ?_); refine l_ia txs rfl rfl (by first | omega | assumption | decide) (by first | omega | assumption | decide) ?_))) | ((with_reducible refine g_if ?_); ((with_reducible refine g_un ?_); (refine l_p txs rfl rfl ?_))))
      (with_reducible refine is_l ?_); refine l_ld txs rfl rfl (rdT_cell (rowT_at H 0 rfl) (y := n) (i := 0) rfl) ?_
      repeat' (first | (with_reducible first | refine p_tn ?_ | refine wp_seq ?_ | refine l_nil ?_) | ((with_reducible refine g_on ?_); (first | ((with_reducible refine g_as ?_); refine l_p txs rfl rfl ?_) | ((with_reducible refine g_cl ?_); refine l_p txs rfl rfl ?_) | ((with_reducible refine g_sl ?_); refine l_sl txs rfl rfl (by first | omega | assumption | decide) (by first | omega | assumption | decide) (by first | omega | assumption | decide) ?_) | ((with_reducible refine g_bi ?_); (refine l_a txs rfl rfl (by first | exact in_i64 (by omega) (by omega) | exact in_u8 (by omega) (by omega) | exact in_u64 (by omega) (by omega) | exact in_i32 (by omega) (by omega)) ?_)))))
      have hev : Value.string (s.extract (((strOfNums n).size : Int) + 1).toNat ((s.size : Int)).toNat) = .string (strOfNums v) := by
        rw [bl_ext, hb, zn]
        congr 2
        rw [show ((n.length : Int) + 1).toNat = n.length + 1 by omega, Int.toNat_natCast, show n ++ 58 :: v = (n ++ [58]) ++ v by simp, List.drop_left' (by simp), List.take_of_length_le (by omega)]
      rw [hev]
      have htr := fun w1 => rtrim_c (strOfNums v) w1 (by rw [sizeS' hbv]; omega)
      rw [blS hbv] at htr
      have hva := fun w1 => rvalued_c (strOfNums v) w1 (by rw [sizeS' hbv]; omega)
      rw [blS hbv] at hva
      have HS := H.pick [] [0] (by decide) (by decide) rfl rfl
      refine d_start (fun w_ => Hp w w_ _ _) #[false, false, false, false, false, false, false, false, false, false] (by kernel_rfl) rfl rfl HS.drew ?_
      have H := H.drew
      have HS := HS.drew
      first | (refine d_pure (i := 0) #[true, false, false, false, false, false, false, false, false, false] rfl (by kernel_rfl) (fun _ _ _ h => h) rfl (fun w_ => evP_run (o := ⟨_, _, _, _, _, _⟩) txs rfl) ?_)
      first | (refine d_pure (i := 1) #[true, true, false, false, false, false, false, false, false, false] rfl (by kernel_rfl) (fun _ _ _ h => h) rfl (fun w_ => evIA_run (o := ⟨_, _, _, _, _, _⟩) txs rfl (by omega) (by omega)) ?_)
      first | (refine d_take (i := 2) #[true, true, true, false, false, false, false, false, false, false] rfl (by kernel_rfl) (fun _ _ _ h => h) rfl (fun w_ K => evL_run (o := ⟨_, _, _, _, _, _⟩) txs rfl (rdT_cell (rowT_at K 0 rfl) (y := n) (i := 0) rfl)) HS ?_)
      first | (refine d_pure (i := 3) #[true, true, true, true, false, false, false, false, false, false] rfl (by kernel_rfl) (fun _ _ _ h => h) rfl (fun w_ => evP_run (o := ⟨_, _, _, _, _, _⟩) txs rfl) ?_)
      first | (refine d_pure (i := 6) #[true, true, true, true, false, false, true, false, false, false] rfl (by kernel_rfl) (fun _ _ _ h => h) rfl (fun w_ => evP_run (o := ⟨_, _, _, _, _, _⟩) txs rfl) ?_)
      refine d_one (i := 4) #[true, true, true, true, true, false, true, false, false, false] rfl (by kernel_rfl) rfl ?_
      refine l_callv rfl rfl (by kernel_rfl) (htr _) (fun w_ K => ?_); have H := H.call K
      refine l_nil ?_
      have HS := H.pick [] [0] (by decide) (by decide) rfl rfl
      refine ⟨rfl, HS, ?_⟩
      first | (refine d_pure (i := 5) #[true, true, true, true, true, true, true, false, false, false] rfl (by kernel_rfl) (fun _ _ _ h => h) rfl (fun w_ => evBld_run (o := ⟨_, _, _, _, _, _⟩) rfl (built_g2 _ _)) ?_)
      refine d_one (i := 7) #[true, true, true, true, true, true, true, true, false, false] rfl (by kernel_rfl) rfl ?_
      refine l_callv rfl rfl (by kernel_rfl) (hva _) (fun w_ K => ?_); have H := H.call K
      refine l_nil ?_
      have HS := H.pick [] [0] (by decide) (by decide) rfl rfl
      refine ⟨rfl, HS, ?_⟩
      refine d_one (i := 8) #[true, true, true, true, true, true, true, true, true, false] rfl (by kernel_rfl) rfl ?_
      refine g_on ?_; ((with_reducible refine g_st ?_); (refine h_stR recs H 0 rfl rfl rfl rfl rfl rfl rfl rfl rfl (fun w_ H => ?_)))
      refine l_nil ?_
      have HS := H.pick [] [0] (by decide) (by decide) rfl rfl
      refine ⟨rfl, HS, ?_⟩
      first | (refine d_pure (i := 9) #[true, true, true, true, true, true, true, true, true, true] rfl (by kernel_rfl) (fun _ _ _ h => h) rfl (fun w_ => evP_run (o := ⟨_, _, _, _, _, _⟩) txs rfl) ?_)
      refine d_done rfl ?_
      repeat' (with_reducible first | refine p_tn ?_ | refine wp_ret ?_)
      refine end_ct recs H 0 rfl rfl rfl rfl rfl rfl ?_
      exact ⟨strOfNums n, strOfNums (trimS v), by rw [hf.1], hf.2, H.B⟩
/-- What fields tells: the list, or the first error. -/
def FsT (w : World) (ls : List L) (e : Ending) (w' : World) : Prop := match fieldsE ls with
  | .error k => ∃ A n c, e = .returned (.tuple #[.slice A n c, .int .i64 (k : Int)]) ∧ Below w.heap.size w w'
  | .ok l => ∃ A c, e = .returned (.tuple #[.slice A l.length c, .int .i64 0]) ∧ Hp w w' [] [rowG (.slice A l.length c) l]
theorem fieldsS_snoc (a : List L) (x : L) : fieldsS (a ++ [x]) = match fieldsS a with | none => none | some l => match fieldS x with | none => none | some f => some (l ++ [f]) := by
  rw [fieldsS_app]
  cases fieldsS a with
  | none => rfl
  | some l =>
    simp only [fieldsS]
    cases fieldS x <;> rfl
theorem fieldsS_stop {a b : List L} (h : fieldsS a = none) : fieldsS (a ++ b) = none := by rw [fieldsS_app, h]
set_option maxRecDepth 100000 in
set_option maxHeartbeats 8000000 in
theorem rfields_c {w : World} {B : Option Addr} {c : Nat} {ls : List L} (hR : Rd w B (strC ls)) (hb : BytesL ls) : Calls Tryz.prog 127 #[.slice B ls.length c] w (FsT w ls) := by
  refine enter (args := [.slice B ls.length c]) Tryz.func127 rfl Tryz.ntmps127 rfl ?_
  have H := (Hp.nil w).nilRow 145 2
  repeat' (first | (with_reducible first | refine p_tn ?_ | refine wp_seq ?_ | refine w_reg ?_ | refine l_nil ?_) | ((with_reducible refine g_on ?_); (first | ((with_reducible refine g_mv ?_); refine l_p txs rfl rfl ?_) | ((with_reducible refine g_as ?_); refine l_p txs rfl rfl ?_) | ((with_reducible refine g_cl ?_); refine l_p txs rfl rfl ?_))))
  (with_reducible refine is_l ?_); refine l_t txs rfl rfl (fun h64 => ?_) (fun h64 => ?_)
  · have he : fieldsE ls = .error 2 := by unfold fieldsE; rw [if_pos (by omega)]
    repeat' (first | (with_reducible first | refine p_tn ?_ | refine p_tr ?_ | refine wp_seq ?_ | refine w_reg ?_) | (with_reducible (refine is_if ?_; (refine w_ift rfl ?_))) | (with_reducible first | refine wp_ret ?_ | refine l_nil ?_) | ((with_reducible refine g_on ?_); (first | ((with_reducible refine g_mv ?_); refine l_p txs rfl rfl ?_) | ((with_reducible refine g_as ?_); refine l_p txs rfl rfl ?_))))
    refine end2 rfl rfl rfl ?_
    unfold FsT
    rw [he]
    exact ⟨none, 0, 0, rfl, H.B⟩
  have hE : fieldsE ls = match fieldsS ls with | none => .error 143 | some l => .ok l := by unfold fieldsE; rw [if_neg (by omega)]; cases fieldsS ls <;> rfl
  repeat' (first | (with_reducible first | refine p_tn ?_ | refine wp_seq ?_ | refine wp_block ?_ | refine w_reg ?_) | (with_reducible (refine is_if ?_; (refine w_iff rfl ?_))) | (with_reducible first | refine wp_skip ?_ | refine l_nil ?_) | ((with_reducible refine g_on ?_); ((with_reducible refine g_as ?_); refine l_p txs rfl rfl ?_)))
  refine w_loop (σ := Nat × List Fld × Option Addr × Nat) (S := fun s => [(0, .slice B ls.length c), (4, .slice s.2.2.1 s.2.1.length s.2.2.2), (5, .int .i64 (s.1 : Int))])
    (J := fun s w' => Hp w w' [] [rowG (.slice s.2.2.1 s.2.1.length s.2.2.2) s.2.1] ∧ s.1 ≤ ls.length ∧ s.2.1.length ≤ s.1 ∧ fieldsS (ls.take s.1) = some s.2.1) (μ := fun s => ls.length - s.1) (0, [], none, 0) ⟨rfl, rfl, rfl, trivial⟩ ⟨H, by omega, Nat.le_refl _, rfl⟩ ?_
  rintro ⟨i, acc, A2, c2⟩ f w_ ⟨H, hi, hai, hD⟩
  simp only at H hi hai hD ⊢
  repeat' (first | (with_reducible first | refine wp_seq ?_ | refine w_reg ?_) | ((with_reducible refine g_on ?_); (first | ((with_reducible refine g_mv ?_); refine l_p txs rfl rfl ?_) | ((with_reducible refine g_cl ?_); refine l_p txs rfl rfl ?_))))
  (with_reducible refine is_l ?_); refine l_t txs rfl rfl (fun hlt => ?_) (fun hge => ?_)
  · obtain ⟨x, hx⟩ : ∃ x, ls[i]? = some x := ⟨_, List.getElem?_eq_getElem (by omega)⟩
    have hil : i < ls.length := by omega
    obtain ⟨hbx, hlx⟩ := hb x (List.mem_of_getElem? hx)
    have zx := sizeS' hbx
    obtain ⟨a1, rfl⟩ := rdT_some hR hx
    have hcell := rdT_cell hR hx
    have htk : ls.take (i + 1) = ls.take i ++ [x] := by rw [List.take_succ_eq_append_getElem hil, (List.getElem?_eq_some_iff.1 hx).2]
    have hspl : ls = ls.take (i + 1) ++ ls.drop (i + 1) := (List.take_append_drop _ _).symm
    have hsn := fieldsS_snoc (ls.take i) x
    rw [← htk, hD] at hsn
    simp only at hsn
    repeat' (first | (with_reducible first | refine p_tn ?_ | refine wp_seq ?_ | refine wp_block ?_ | refine w_reg ?_) | (with_reducible (refine is_if ?_; (refine w_ift rfl ?_))) | (with_reducible first | refine wp_skip ?_ | refine l_nil ?_) | ((with_reducible refine g_on ?_); (first | ((with_reducible refine g_mv ?_); refine l_p txs rfl rfl ?_) | ((with_reducible refine g_ia ?_); refine l_ia txs rfl rfl (by first | omega | assumption | decide) (by first | omega | assumption | decide) ?_))))
    (with_reducible refine is_l ?_); refine l_ld txs rfl rfl (by rw [Int.toNat_natCast]; exact H.old hcell) ?_
    skip
    (with_reducible refine is_l ?_); refine l_call rfl rfl (by kernel_rfl) (rfieldLine_c (strOfNums x) _ (by omega)) (fun e w_ hR => ?_)
    obtain ⟨u, v, rfl, hfv, K⟩ := hR
    refine ⟨_, rfl, ?_⟩
    rw [blS hbx] at hfv ⊢
    have H := H.call K
    cases hf : fieldS x with
    | none =>
      rw [hf] at hsn
      have hn : fieldsS ls = none := by rw [hspl]; exact fieldsS_stop hsn
      repeat' (first | (with_reducible first | refine p_tn ?_ | refine p_tr ?_ | refine p_br ?_ | refine wp_seq ?_ | refine w_reg ?_) | (with_reducible (refine is_if ?_; (refine w_ift rfl ?_))) | (with_reducible first | refine wp_ret ?_ | refine l_nil ?_) | ((with_reducible refine g_on ?_); (first | ((with_reducible refine g_mv ?_); refine l_p txs rfl rfl ?_) | ((with_reducible refine g_as ?_); refine l_p txs rfl rfl ?_) | ((with_reducible refine g_ex ?_); refine l_p txs rfl rfl ?_) | ((with_reducible refine g_st ?_); (refine h_stR recs H 0 rfl rfl rfl rfl rfl rfl rfl rfl rfl (fun w_ H => ?_))) | ((with_reducible refine g_al ?_); refine h_alloc recs H rfl rfl (fun g_ w_ H => ?_)) | ((with_reducible refine g_un ?_); (refine l_p txs rfl rfl ?_)))))
      refine end2 rfl rfl rfl ?_
      unfold FsT
      rw [hE, hn]
      exact ⟨_, _, _, rfl, H.B⟩
    | some g =>
      rw [hf] at hsn
      obtain ⟨rfl, rfl⟩ := hfv g hf
      repeat' (first | (with_reducible first | refine p_tn ?_ | refine wp_seq ?_ | refine w_reg ?_) | (with_reducible (refine is_if ?_; (refine w_iff rfl ?_))) | (with_reducible first | refine wp_skip ?_ | refine l_nil ?_) | ((with_reducible refine g_on ?_); (first | ((with_reducible refine g_mv ?_); refine l_p txs rfl rfl ?_) | ((with_reducible refine g_as ?_); refine l_p txs rfl rfl ?_) | ((with_reducible refine g_ex ?_); refine l_p txs rfl rfl ?_) | ((with_reducible refine g_ld ?_); (refine h_ldR recs H 0 rfl rfl rfl rfl rfl ?_)) | ((with_reducible refine g_st ?_); (refine h_stR recs H 0 rfl rfl rfl rfl rfl rfl rfl rfl rfl (fun w_ H => ?_))) | ((with_reducible refine g_al ?_); refine h_alloc recs H rfl rfl (fun g_ w_ H => ?_)) | ((with_reducible refine g_un ?_); (refine l_p txs rfl rfl ?_)))))
      (with_reducible refine is_l ?_); refine h_bs H info_g Tryz.underlying84 (by decide) (by decide) rfl rfl (fill_f _ _) (fun g_ w_ H => ?_)
      (with_reducible refine is_l ?_); refine h_app H 0 rfl info_g Tryz.underlying84 rfl rfl rfl rfl (H.cellRd 0 rfl) rfl rfl (by show (acc.length + 1) * 32 ≤ _; omega) (fun v w_ hv H => ?_)
      obtain ⟨A', c', rfl⟩ := hv
      repeat' (first | (with_reducible first | refine p_tn ?_ | refine p_bn ?_ | refine w_reg ?_ | refine l_nil ?_) | ((with_reducible refine g_on ?_); (first | ((with_reducible refine g_mv ?_); refine l_p txs rfl rfl ?_) | ((with_reducible refine g_as ?_); refine l_p txs rfl rfl ?_) | ((with_reducible refine g_bi ?_); (refine l_a txs rfl rfl (by first | exact in_i64 (by omega) (by omega) | exact in_u8 (by omega) (by omega) | exact in_u64 (by omega) (by omega) | exact in_i32 (by omega) (by omega)) ?_)))))
      have H := H.pick [] [0] (by decide) (by decide) rfl rfl
      have e1 : (acc ++ [g]).length = acc.length + 1 := by simp
      have e2 : fldC (acc ++ [g]) = fldC acc ++ [.string (strOfNums g.1), .string (strOfNums g.2)] := fldC_snoc acc g.1 g.2
      refine ⟨(i + 1, acc ++ [g], A', c'), _, rfl, ⟨rfl, ?_, rfl, trivial⟩, ⟨?_, by show i + 1 ≤ _; omega, by show (acc ++ [g]).length ≤ i + 1; omega, hsn⟩, by show _ - (i + 1) < _ - i; omega⟩
      · show Value.slice A' (acc.length + 1) c' = Value.slice A' (acc ++ [g]).length c'
        rw [e1]
      · show Hp w _ [] [rowG (.slice A' (acc ++ [g]).length c') (acc ++ [g])]
        unfold rowG
        rw [e1, e2]
        exact H
  · have hall : ls.take i = ls := List.take_of_length_le (by omega)
    rw [hall] at hD
    repeat' (first | (with_reducible first | refine p_tn ?_ | refine p_tx ?_ | refine x_hit ?_ | refine wp_seq ?_ | refine w_reg ?_) | (with_reducible (refine is_if ?_; (refine w_iff rfl ?_))) | (with_reducible first | refine wp_exit ?_ | refine wp_ret ?_ | refine l_nil ?_) | ((with_reducible refine g_on ?_); (first | ((with_reducible refine g_mv ?_); refine l_p txs rfl rfl ?_) | ((with_reducible refine g_as ?_); refine l_p txs rfl rfl ?_))))
    refine end2 rfl rfl rfl ?_
    unfold FsT
    rw [hE, hD]
    exact ⟨A2, c2, rfl, H⟩
end Go.Proofs.YthgojbdpmcccaaaGreatDoor.K.Ref
end
section
namespace Go.Proofs.YthgojbdpmcccaaaGreatDoor.K.Ref
open Go.RowKit Go.Proofs.YthgojbdpmcccaaaGreatDoor.Q Go.Proofs.YthgojbdpmcccaaaGreatDoor.Wb Go.Proofs.YthgojbdpmcccaaaGreatDoorW.PrintWords Go.Proofs.YthgojbdpmcccaaaGreatDoor.K
set_option linter.unusedVariables false
set_option linter.unusedSimpArgs false
def lenV (l : List Fld) (minor : Int) : Value := match frameS l minor with
  | .error k => .tuple #[.int .i64 0, .int .i64 (k : Int)]
  | .ok .none => .tuple #[.int .i64 (-1), .int .i64 0]
  | .ok .chunks => .tuple #[.int .i64 (-2), .int .i64 0]
  | .ok (.len n) => .tuple #[.int .i64 (n : Int), .int .i64 0]
theorem lenV_err {l : List Fld} {minor : Int} {k : Nat} (h : frameS l minor = .error k) : lenV l minor = .tuple #[.int .i64 0, .int .i64 (k : Int)] := by unfold lenV; rw [h]
theorem frame_c1 {l : List Fld} {minor : Int} {c : L} {r : List L} (h : vals l nCode = c :: r) : frameS l minor = if minor = 0 ∨ r ≠ [] ∨ lowS c ≠ wChunked ∨ vals l nLen ≠ [] then .error 143 else .ok .chunks := by
  unfold frameS
  rw [h]
  cases r with
  | nil =>
    simp only
    by_cases hc : minor = 0 ∨ lowS c ≠ wChunked ∨ vals l nLen ≠ []
    · rw [if_pos hc, if_pos]
      rcases hc with a | a | a
      · exact .inl a
      · exact .inr (.inr (.inl a))
      · exact .inr (.inr (.inr a))
    · rw [if_neg hc, if_neg]
      rintro (a | a | a | a)
      · exact hc (.inl a)
      · exact a rfl
      · exact hc (.inr (.inl a))
      · exact hc (.inr (.inr a))
  | cons d r => simp only; rw [if_pos (.inr (.inl (by simp)))]
theorem frame_n1 {l : List Fld} {minor : Int} (h : vals l nCode = []) (h2 : vals l nLen = []) : frameS l minor = .ok .none := by unfold frameS; rw [h]; simp only; rw [h2]
theorem frame_n2 {l : List Fld} {minor : Int} {s t : L} {r : List L} (h : vals l nCode = []) (h2 : vals l nLen = s :: t :: r) : frameS l minor = .error 143 := by unfold frameS; rw [h]; simp only; rw [h2]
theorem frame_n3 {l : List Fld} {minor : Int} {s : L} (h : vals l nCode = []) (h2 : vals l nLen = [s]) : frameS l minor = match numS s with | none => .error 143 | some n => if 1048576 < n then .error 145 else .ok (.len n) := by unfold frameS; rw [h]; simp only; rw [h2]; rfl
theorem numV_ge : ∀ (l : L) (n : Nat), n ≤ numV n l
  | [], n => Nat.le_refl _
  | c :: r, n => by
    rw [numV]
    have := numV_ge r (10 * n + (c - 48).toNat)
    omega
theorem numV_take {l : L} {i : Nat} {x : Int} (h : l[i]? = some x) : numV 0 (l.take (i + 1)) = 10 * numV 0 (l.take i) + (x - 48).toNat := by
  have hi : i < l.length := (List.getElem?_eq_some_iff.1 h).1
  rw [List.take_succ_eq_append_getElem hi, (List.getElem?_eq_some_iff.1 h).2, numV_app]
  rfl
set_option maxRecDepth 100000 in
set_option maxHeartbeats 8000000 in
theorem rlength_c {w : World} {B : Option Addr} {c : Nat} {l : List Fld} (h : Rd w B (fldC l)) (hb : BytesF l) (hl : l.length ≤ 100000000) (minor : Int) :
    Calls Tryz.prog 128 #[.slice B l.length c, .int .i64 minor] w fun e w' => e = .returned (lenV l minor) ∧ Below w.heap.size w w' := by
  refine enter (args := [.slice B l.length c, .int .i64 minor]) Tryz.func128 rfl Tryz.ntmps128 rfl ?_
  have H := Hp.nil w
  repeat' (first | (with_reducible first | refine p_tn ?_ | refine wp_seq ?_ | refine w_reg ?_ | refine l_nil ?_) | ((with_reducible refine g_on ?_); (first | ((with_reducible refine g_mv ?_); refine l_p txs rfl rfl ?_) | ((with_reducible refine g_as ?_); refine l_p txs rfl rfl ?_))))
  (with_reducible refine is_l ?_); refine l_call rfl rfl (by kernel_rfl) (rall_c (h.below H.B) hb hl _) (fun e w_ hR => ?_)
  obtain ⟨A1, c1, rfl, K⟩ := hR
  refine ⟨_, rfl, ?_⟩
  have e0 : bl (⟨#[116, 114, 97, 110, 115, 102, 101, 114, 45, 101, 110, 99, 111, 100, 105, 110, 103]⟩ : ByteArray) = nCode := rfl
  rw [e0] at K ⊢
  have H := H.join K
  repeat' (first | (with_reducible first | refine p_tn ?_ | refine wp_seq ?_ | refine w_reg ?_ | refine l_nil ?_) | ((with_reducible refine g_on ?_); (first | ((with_reducible refine g_mv ?_); refine l_p txs rfl rfl ?_) | ((with_reducible refine g_as ?_); refine l_p txs rfl rfl ?_))))
  (with_reducible refine is_l ?_); refine l_call rfl rfl (by kernel_rfl) (rall_c (h.below H.B) hb hl _) (fun e w_ hR => ?_)
  obtain ⟨A2, c2, rfl, K⟩ := hR
  refine ⟨_, rfl, ?_⟩
  have e1 : bl (⟨#[99, 111, 110, 116, 101, 110, 116, 45, 108, 101, 110, 103, 116, 104]⟩ : ByteArray) = nLen := rfl
  rw [e1] at K ⊢
  have H := H.join K
  have hmem : ∀ n, ∀ v ∈ vals l n, Bytes v ∧ v.length ≤ 100000000 := fun n v hv => by
    obtain ⟨f, hf, hv⟩ := List.mem_filterMap.1 hv
    have := hb f hf
    split at hv
    · injection hv with hv; subst hv; exact ⟨this.2.1, this.2.2.2⟩
    · cases hv
  repeat' (first | (with_reducible first | refine p_tn ?_ | refine wp_seq ?_ | refine w_reg ?_ | refine l_nil ?_) | ((with_reducible refine g_on ?_); (first | ((with_reducible refine g_mv ?_); refine l_p txs rfl rfl ?_) | ((with_reducible refine g_as ?_); refine l_p txs rfl rfl ?_) | ((with_reducible refine g_cl ?_); refine l_p txs rfl rfl ?_))))
  cases hC : vals l nCode with
  | cons x r =>
    have hfr := frame_c1 (minor := minor) hC
    obtain ⟨hbx, hlx⟩ := hmem nCode x (by rw [hC]; simp)
    have zx := sizeS' hbx
    rw [hC] at H
    obtain ⟨a, ha⟩ := rdT_some (rowT_at H 1 rfl) (y := x) (i := 0) rfl
    subst ha
    have hll : (x :: r).length = r.length + 1 := rfl
    (with_reducible refine is_l ?_); refine l_t txs rfl rfl (fun _ => ?_) (fun hh => absurd (by omega) hh)
    repeat' (first | (with_reducible first | refine p_tn ?_ | refine wp_seq ?_ | refine w_reg ?_) | (with_reducible (refine is_if ?_; (refine w_ift rfl ?_))) | (with_reducible refine l_nil ?_) | ((with_reducible refine g_on ?_); ((with_reducible refine g_mv ?_); refine l_p txs rfl rfl ?_)))
    (with_reducible refine is_l ?_); refine l_t txs rfl rfl (fun h1 => ?_) (fun h1 => ?_)
    · rw [if_pos (.inl h1)] at hfr
      repeat' (first | (with_reducible first | refine p_tn ?_ | refine p_tr ?_ | refine wp_seq ?_ | refine w_reg ?_) | (with_reducible (refine is_if ?_; (refine w_ift rfl ?_))) | (with_reducible first | refine wp_ret ?_ | refine l_nil ?_) | ((with_reducible refine g_on ?_); (first | ((with_reducible refine g_mv ?_); refine l_p txs rfl rfl ?_) | ((with_reducible refine g_as ?_); refine l_p txs rfl rfl ?_) | ((with_reducible refine g_pk ?_); refine l_p txs rfl rfl ?_))) | ((with_reducible refine g_if ?_); (refine l_off rfl ?_)))
      refine end2 rfl rfl rfl ?_
      exact ⟨by rw [lenV_err hfr]; rfl, H.B⟩
    repeat' (first | ((with_reducible refine g_on ?_); ((with_reducible refine g_mv ?_); refine l_p txs rfl rfl ?_)) | ((with_reducible refine g_if ?_); (first | ((with_reducible refine g_mv ?_); refine l_p txs rfl rfl ?_) | ((with_reducible refine g_cl ?_); refine l_p txs rfl rfl ?_))))
    (with_reducible refine is_l ?_); refine l_t txs rfl rfl (fun h2 => ?_) (fun h2 => ?_)
    · rw [if_pos (.inr (.inl (by intro e; have : r.length = 0 := (by rw [e]; rfl); omega)))] at hfr
      repeat' (first | (with_reducible first | refine p_tn ?_ | refine p_tr ?_ | refine wp_seq ?_ | refine w_reg ?_) | (with_reducible (refine is_if ?_; (refine w_ift rfl ?_))) | (with_reducible first | refine wp_ret ?_ | refine l_nil ?_) | ((with_reducible refine g_on ?_); (first | ((with_reducible refine g_mv ?_); refine l_p txs rfl rfl ?_) | ((with_reducible refine g_as ?_); refine l_p txs rfl rfl ?_) | ((with_reducible refine g_pk ?_); refine l_p txs rfl rfl ?_))) | ((with_reducible refine g_if ?_); (refine l_off rfl ?_)))
      refine end2 rfl rfl rfl ?_
      exact ⟨by rw [lenV_err hfr]; rfl, H.B⟩
    have hr0 : r = [] := List.length_eq_zero_iff.1 (by omega)
    repeat' (first | ((with_reducible refine g_on ?_); (first | ((with_reducible refine g_mv ?_); refine l_p txs rfl rfl ?_) | ((with_reducible refine g_pk ?_); refine l_p txs rfl rfl ?_))) | ((with_reducible refine g_if ?_); (first | ((with_reducible refine g_mv ?_); refine l_p txs rfl rfl ?_) | ((with_reducible refine g_ia ?_); refine l_ia txs rfl rfl (by first | omega | assumption | decide) (by first | omega | assumption | decide) ?_))))
    (with_reducible refine is_l ?_); refine l_ld txs rfl rfl (rdT_cell (rowT_at H 1 rfl) (y := x) (i := 0) rfl) ?_
    skip
    have hsm := rsmall_c (strOfNums x) w_ (by omega)
    rw [blS hbx] at hsm
    (with_reducible refine is_l ?_); refine l_callv rfl rfl (by kernel_rfl) hsm (fun w_ K => ?_)
    have H := H.call K
    have e2 := blS (bytes_low hbx)
    have e3 : bl (⟨#[99, 104, 117, 110, 107, 101, 100]⟩ : ByteArray) = wChunked := rfl
    skip
    (with_reducible refine is_l ?_); refine l_t txs rfl rfl (fun h3 => ?_) (fun h3 => ?_)
    · rw [e2, e3] at h3
      rw [if_pos (.inr (.inr (.inl h3)))] at hfr
      repeat' (first | (with_reducible first | refine p_tn ?_ | refine p_tr ?_ | refine wp_seq ?_ | refine w_reg ?_) | (with_reducible (refine is_if ?_; (refine w_ift rfl ?_))) | (with_reducible first | refine wp_ret ?_ | refine l_nil ?_) | ((with_reducible refine g_on ?_); (first | ((with_reducible refine g_mv ?_); refine l_p txs rfl rfl ?_) | ((with_reducible refine g_as ?_); refine l_p txs rfl rfl ?_) | ((with_reducible refine g_pk ?_); refine l_p txs rfl rfl ?_))) | ((with_reducible refine g_if ?_); (refine l_off rfl ?_)))
      refine end2 rfl rfl rfl ?_
      exact ⟨by rw [lenV_err hfr]; rfl, H.B⟩
    rw [e2, e3] at h3
    repeat' (first | ((with_reducible refine g_on ?_); (first | ((with_reducible refine g_mv ?_); refine l_p txs rfl rfl ?_) | ((with_reducible refine g_pk ?_); refine l_p txs rfl rfl ?_))) | ((with_reducible refine g_if ?_); (first | ((with_reducible refine g_mv ?_); refine l_p txs rfl rfl ?_) | ((with_reducible refine g_cl ?_); refine l_p txs rfl rfl ?_))))
    (with_reducible refine is_l ?_); refine l_t txs rfl rfl (fun h4 => ?_) (fun h4 => ?_)
    · rw [if_pos (.inr (.inr (.inr (by intro e; rw [e] at h4; simp at h4))))] at hfr
      repeat' (first | (with_reducible first | refine p_tn ?_ | refine p_tr ?_ | refine wp_seq ?_ | refine w_reg ?_) | (with_reducible (refine is_if ?_; (refine w_ift rfl ?_))) | (with_reducible first | refine wp_ret ?_ | refine l_nil ?_) | ((with_reducible refine g_on ?_); (first | ((with_reducible refine g_as ?_); refine l_p txs rfl rfl ?_) | ((with_reducible refine g_pk ?_); refine l_p txs rfl rfl ?_))))
      refine end2 rfl rfl rfl ?_
      exact ⟨by rw [lenV_err hfr]; rfl, H.B⟩
    · have hT0 : vals l nLen = [] := List.length_eq_zero_iff.1 (by omega)
      rw [if_neg (fun h => h.elim h1 fun h => h.elim (fun a => a hr0) fun h => h.elim h3 fun a => a hT0)] at hfr
      repeat' (first | (with_reducible first | refine p_tn ?_ | refine p_tr ?_ | refine wp_seq ?_ | refine w_reg ?_) | (with_reducible (refine is_if ?_; (refine w_iff rfl ?_))) | (with_reducible first | refine wp_skip ?_ | refine wp_ret ?_ | refine l_nil ?_) | ((with_reducible refine g_on ?_); (first | ((with_reducible refine g_as ?_); refine l_p txs rfl rfl ?_) | ((with_reducible refine g_pk ?_); refine l_p txs rfl rfl ?_))))
      refine end2 rfl rfl rfl ?_
      exact ⟨by unfold lenV; rw [hfr], H.B⟩
  | nil =>
    rw [hC] at H
    (with_reducible refine is_l ?_); refine l_t txs rfl rfl (fun hh => absurd hh (by decide)) (fun _ => ?_)
    repeat' (first | (with_reducible first | refine p_tn ?_ | refine wp_seq ?_ | refine w_reg ?_) | (with_reducible (refine is_if ?_; (refine w_iff rfl ?_))) | (with_reducible first | refine wp_skip ?_ | refine l_nil ?_) | ((with_reducible refine g_on ?_); (first | ((with_reducible refine g_mv ?_); refine l_p txs rfl rfl ?_) | ((with_reducible refine g_cl ?_); refine l_p txs rfl rfl ?_))))
    match hT : vals l nLen with
    | [] =>
      (with_reducible refine is_l ?_); refine l_t txs rfl rfl (fun _ => ?_) (fun hh => absurd rfl hh)
      repeat' (first | (with_reducible first | refine p_tn ?_ | refine p_tr ?_ | refine wp_seq ?_ | refine w_reg ?_) | (with_reducible (refine is_if ?_; (refine w_ift rfl ?_))) | (with_reducible first | refine wp_ret ?_ | refine l_nil ?_) | ((with_reducible refine g_on ?_); ((with_reducible refine g_as ?_); refine l_p txs rfl rfl ?_)))
      refine end2 rfl rfl rfl ?_
      exact ⟨by unfold lenV; rw [frame_n1 hC hT], H.B⟩
    | s :: t :: r =>
      have hll : (s :: t :: r).length = r.length + 2 := rfl
      (with_reducible refine is_l ?_); refine l_t txs rfl rfl (fun hh => absurd hh (by omega)) (fun _ => ?_)
      repeat' (first | (with_reducible first | refine p_tn ?_ | refine wp_seq ?_ | refine w_reg ?_) | (with_reducible (refine is_if ?_; (refine w_iff rfl ?_))) | (with_reducible first | refine wp_skip ?_ | refine l_nil ?_) | ((with_reducible refine g_on ?_); (first | ((with_reducible refine g_mv ?_); refine l_p txs rfl rfl ?_) | ((with_reducible refine g_cl ?_); refine l_p txs rfl rfl ?_))))
      (with_reducible refine is_l ?_); refine l_t txs rfl rfl (fun _ => ?_) (fun hh => absurd (by omega) hh)
      repeat' (first | (with_reducible first | refine p_tn ?_ | refine p_tr ?_ | refine wp_seq ?_ | refine w_reg ?_) | (with_reducible (refine is_if ?_; (refine w_ift rfl ?_))) | (with_reducible first | refine wp_ret ?_ | refine l_nil ?_) | ((with_reducible refine g_on ?_); ((with_reducible refine g_as ?_); refine l_p txs rfl rfl ?_)))
      refine end2 rfl rfl rfl ?_
      exact ⟨by rw [lenV_err (frame_n2 hC hT)]; rfl, H.B⟩
    | [s] =>
      have hfr := frame_n3 (minor := minor) hC hT
      obtain ⟨hbs, hls⟩ := hmem nLen s (by rw [hT]; simp)
      have zs := sizeS' hbs
      rw [hT] at H
      obtain ⟨a, ha⟩ := rdT_some (rowT_at H 0 rfl) (y := s) (i := 0) rfl
      subst ha
      (with_reducible refine is_l ?_); refine l_t txs rfl rfl (fun hh => absurd hh (show ¬ (((1 : Nat) : Int) = 0) by decide)) (fun _ => ?_)
      repeat' (first | (with_reducible first | refine p_tn ?_ | refine wp_seq ?_ | refine w_reg ?_) | (with_reducible (refine is_if ?_; (refine w_iff rfl ?_))) | (with_reducible first | refine wp_skip ?_ | refine l_nil ?_) | ((with_reducible refine g_on ?_); (first | ((with_reducible refine g_mv ?_); refine l_p txs rfl rfl ?_) | ((with_reducible refine g_cl ?_); refine l_p txs rfl rfl ?_))))
      (with_reducible refine is_l ?_); refine l_t txs rfl rfl (fun hh => absurd hh (show ¬ ((1 : Int) < ((1 : Nat) : Int)) by decide)) (fun _ => ?_)
      repeat' (first | (with_reducible first | refine p_tn ?_ | refine wp_seq ?_ | refine w_reg ?_) | (with_reducible (refine is_if ?_; (refine w_iff rfl ?_))) | (with_reducible first | refine wp_skip ?_ | refine l_nil ?_) | ((with_reducible refine g_on ?_); (first | ((with_reducible refine g_mv ?_); refine l_p txs rfl rfl ?_) | ((with_reducible refine g_ia ?_); refine l_ia txs rfl rfl (by first | omega | assumption | decide) (by first | omega | assumption | decide) ?_))))
      (with_reducible refine is_l ?_); refine l_ld txs rfl rfl (rdT_cell (rowT_at H 0 rfl) (y := s) (i := 0) rfl) ?_
      repeat' (first | (with_reducible first | refine p_tn ?_ | refine wp_seq ?_ | refine wp_block ?_ | refine w_reg ?_ | refine l_nil ?_) | ((with_reducible refine g_on ?_); ((with_reducible refine g_as ?_); refine l_p txs rfl rfl ?_)))
      refine w_loop (σ := Nat) (S := fun i => [(8, .string (strOfNums s)), (9, .int .i64 (i : Int))]) (J := fun i w' => Hp w w' [] [] ∧ i ≤ s.length ∧ s.all digB = (s.drop i).all digB) (μ := fun i => s.length - i) 0 ⟨rfl, rfl, trivial⟩ ⟨H.pick [] [] (by decide) (by decide) rfl rfl, Nat.zero_le _, rfl⟩ ?_
      rintro i f w_ ⟨H, hi, hD⟩
      repeat' (first | (with_reducible first | refine wp_seq ?_ | refine w_reg ?_) | ((with_reducible refine g_on ?_); (first | ((with_reducible refine g_mv ?_); refine l_p txs rfl rfl ?_) | ((with_reducible refine g_cl ?_); refine l_p txs rfl rfl ?_))))
      (with_reducible refine is_l ?_); refine l_t txs rfl rfl (fun hlt => ?_) (fun hge => ?_)
      · rw [dropA (by omega), List.all_cons] at hD
        repeat' (first | (with_reducible first | refine p_tn ?_ | refine wp_seq ?_ | refine wp_block ?_ | refine w_reg ?_) | (with_reducible (refine is_if ?_; (refine w_ift rfl ?_))) | (with_reducible first | refine wp_skip ?_ | refine l_nil ?_) | ((with_reducible refine g_on ?_); (first | ((with_reducible refine g_mv ?_); refine l_p txs rfl rfl ?_) | ((with_reducible refine g_ix ?_); refine l_ix txs rfl rfl (by first | omega | assumption | decide) (by first | omega | assumption | decide) ?_))))
        (with_reducible refine is_l ?_); refine l_callv rfl rfl (by kernel_rfl) (rdigit_c _ _) (fun w_ K => ?_)
        have H := H.call K
        rw [blS hbs]
        cases hd : digB (at_ s (i : Int))
        · rw [hd, Bool.false_and] at hD
          have hnum : numS s = none := by unfold numS; rw [if_pos (.inr (.inl hD))]
          rw [hnum] at hfr
          repeat' (first | (with_reducible first | refine p_tn ?_ | refine p_tr ?_ | refine p_br ?_ | refine wp_seq ?_ | refine w_reg ?_) | (with_reducible (refine is_if ?_; (refine w_ift rfl ?_))) | (with_reducible first | refine wp_ret ?_ | refine l_nil ?_) | ((with_reducible refine g_on ?_); (first | ((with_reducible refine g_as ?_); refine l_p txs rfl rfl ?_) | ((with_reducible refine g_un ?_); (refine l_p txs rfl rfl ?_)))))
          refine end2 rfl rfl rfl ?_
          exact ⟨by rw [lenV_err hfr]; rfl, H.B⟩
        · rw [hd, Bool.true_and] at hD
          repeat' (first | (with_reducible first | refine p_tn ?_ | refine p_bn ?_ | refine w_reg ?_) | (with_reducible (refine is_if ?_; (refine w_iff rfl ?_))) | (with_reducible first | refine wp_skip ?_ | refine l_nil ?_) | ((with_reducible refine g_on ?_); (first | ((with_reducible refine g_mv ?_); refine l_p txs rfl rfl ?_) | ((with_reducible refine g_as ?_); refine l_p txs rfl rfl ?_) | ((with_reducible refine g_un ?_); (refine l_p txs rfl rfl ?_)) | ((with_reducible refine g_bi ?_); (refine l_a txs rfl rfl (by first | exact in_i64 (by omega) (by omega) | exact in_u8 (by omega) (by omega) | exact in_u64 (by omega) (by omega) | exact in_i32 (by omega) (by omega)) ?_)))))
          exact ⟨i + 1, _, rfl, ⟨rfl, rfl, trivial⟩, ⟨H, by omega, hD⟩, by omega⟩
      have hall : s.drop i = [] := List.drop_eq_nil_of_le (by omega)
      rw [hall] at hD
      have hdig : s.all digB = true := hD
      repeat' (first | (with_reducible first | refine p_tn ?_ | refine p_tx ?_ | refine x_hit ?_ | refine wp_seq ?_ | refine w_reg ?_) | (with_reducible (refine is_if ?_; (refine w_iff rfl ?_))) | (with_reducible first | refine wp_exit ?_ | refine l_nil ?_) | ((with_reducible refine g_on ?_); ((with_reducible refine g_mv ?_); refine l_p txs rfl rfl ?_)))
      (with_reducible refine is_l ?_); refine l_t txs rfl rfl (fun h5 => ?_) (fun h5 => ?_)
      · have hs0 : s = [] := by rw [blS hbs] at h5; exact h5
        have hnum : numS s = none := by unfold numS; rw [if_pos (.inl hs0)]
        rw [hnum] at hfr
        repeat' (first | (with_reducible first | refine p_tn ?_ | refine p_tr ?_ | refine wp_seq ?_ | refine w_reg ?_) | (with_reducible (refine is_if ?_; (refine w_ift rfl ?_))) | (with_reducible first | refine wp_ret ?_ | refine l_nil ?_) | ((with_reducible refine g_on ?_); (first | ((with_reducible refine g_mv ?_); refine l_p txs rfl rfl ?_) | ((with_reducible refine g_as ?_); refine l_p txs rfl rfl ?_) | ((with_reducible refine g_pk ?_); refine l_p txs rfl rfl ?_))) | ((with_reducible refine g_if ?_); (refine l_off rfl ?_)))
        refine end2 rfl rfl rfl ?_
        exact ⟨by rw [lenV_err hfr]; rfl, H.B⟩
      have hs0 : s ≠ [] := fun e => h5 (by rw [blS hbs, e]; rfl)
      have hhd : s.head? = some (at_ s 0) := by cases s with
        | nil => exact absurd rfl hs0
        | cons y r => rfl
      have hnum : ¬ (1 < s.length ∧ s.head? = some 48) → numS s = some (numV 0 s) := fun hh => by
        unfold numS
        rw [if_neg]
        rintro (a | a | a)
        · exact hs0 a
        · rw [hdig] at a; cases a
        · exact hh a
      repeat' (first | ((with_reducible refine g_on ?_); ((with_reducible refine g_mv ?_); refine l_p txs rfl rfl ?_)) | ((with_reducible refine g_if ?_); (first | ((with_reducible refine g_mv ?_); refine l_p txs rfl rfl ?_) | ((with_reducible refine g_cl ?_); refine l_p txs rfl rfl ?_))))
      (with_reducible refine is_l ?_); refine l_t txs rfl rfl (fun h6 => ?_) (fun h6 => ?_)
      · repeat' ((with_reducible refine g_if ?_); (first | ((with_reducible refine g_mv ?_); refine l_p txs rfl rfl ?_) | ((with_reducible refine g_ix ?_); refine l_ix txs rfl rfl (by first | omega | assumption | decide) (by first | omega | assumption | decide) ?_)))
        rw [blS hbs]
        skip
        (with_reducible refine is_l ?_); refine l_t txs rfl rfl (fun h7 => ?_) (fun h7 => ?_)
        · have hnn : numS s = none := by unfold numS; rw [if_pos (.inr (.inr ⟨by omega, by rw [hhd, h7]⟩))]
          rw [hnn] at hfr
          repeat' (first | (with_reducible first | refine p_tn ?_ | refine p_tr ?_ | refine wp_seq ?_ | refine w_reg ?_) | (with_reducible (refine is_if ?_; (refine w_ift rfl ?_))) | (with_reducible first | refine wp_ret ?_ | refine l_nil ?_) | ((with_reducible refine g_on ?_); (first | ((with_reducible refine g_as ?_); refine l_p txs rfl rfl ?_) | ((with_reducible refine g_pk ?_); refine l_p txs rfl rfl ?_))) | ((with_reducible refine g_if ?_); ((with_reducible refine g_pk ?_); refine l_p txs rfl rfl ?_)))
          refine end2 rfl rfl rfl ?_
          exact ⟨by rw [lenV_err hfr]; rfl, H.B⟩
        · rw [hnum (fun hh => h7 (by have h8 := hh.2; rw [hhd] at h8; injection h8))] at hfr
          simp only at hfr
          repeat' (first | (with_reducible first | refine p_tn ?_ | refine wp_seq ?_ | refine wp_block ?_ | refine w_reg ?_) | (with_reducible (refine is_if ?_; (refine w_iff rfl ?_))) | (with_reducible first | refine wp_skip ?_ | refine l_nil ?_) | ((with_reducible refine g_on ?_); (first | ((with_reducible refine g_as ?_); refine l_p txs rfl rfl ?_) | ((with_reducible refine g_pk ?_); refine l_p txs rfl rfl ?_))) | ((with_reducible refine g_if ?_); ((with_reducible refine g_pk ?_); refine l_p txs rfl rfl ?_)))
          refine w_loop (σ := Nat × Nat) (S := fun t => [(8, .string (strOfNums s)), (10, .int .i64 (t.2 : Int)), (11, .int .i64 (t.1 : Int))]) (J := fun t w' => Hp w w' [] [] ∧ t.1 ≤ s.length ∧ t.2 = numV 0 (s.take t.1) ∧ t.2 ≤ 1048576) (μ := fun t => s.length - t.1) (0, 0) ⟨rfl, rfl, rfl, trivial⟩ ⟨H, Nat.zero_le _, rfl, by decide⟩ ?_
          rintro ⟨j, n⟩ f w_ ⟨H, hj, hn, hn2⟩
          simp only at H hj hn hn2 ⊢
          repeat' (first | (with_reducible first | refine wp_seq ?_ | refine w_reg ?_) | ((with_reducible refine g_on ?_); (first | ((with_reducible refine g_mv ?_); refine l_p txs rfl rfl ?_) | ((with_reducible refine g_cl ?_); refine l_p txs rfl rfl ?_))))
          (with_reducible refine is_l ?_); refine l_t txs rfl rfl (fun hlt => ?_) (fun hge => ?_)
          · obtain ⟨x, hx⟩ : ∃ x, s[j]? = some x := ⟨_, List.getElem?_eq_getElem (by omega)⟩
            have hxd := List.all_eq_true.1 hdig x (List.mem_of_getElem? hx)
            have hx48 : 48 ≤ x ∧ x ≤ 57 := by unfold digB at hxd; simp at hxd; exact hxd
            have hat : at_ (bl (strOfNums s)) (j : Int) = x := by rw [blS hbs]; exact at_of hx
            have hb1 : 48 ≤ at_ (bl (strOfNums s)) (j : Int) ∧ at_ (bl (strOfNums s)) (j : Int) ≤ 57 := by rw [hat]; exact hx48
            have hnt := numV_take hx
            rw [← hn] at hnt
            obtain ⟨n', hn'⟩ : ∃ n', n' = 10 * n + (x - 48).toNat := ⟨_, rfl⟩
            rw [← hn'] at hnt
            have hval : 10 * (n : Int) + (at_ (bl (strOfNums s)) (j : Int) - 48) = (n' : Int) := by rw [hat]; omega
            repeat' (first | (with_reducible first | refine p_tn ?_ | refine wp_seq ?_ | refine wp_block ?_ | refine w_reg ?_) | (with_reducible (refine is_if ?_; (refine w_ift rfl ?_))) | (with_reducible first | refine wp_skip ?_ | refine l_nil ?_) | ((with_reducible refine g_on ?_); (first | ((with_reducible refine g_mv ?_); refine l_p txs rfl rfl ?_) | ((with_reducible refine g_as ?_); refine l_p txs rfl rfl ?_) | ((with_reducible refine g_ix ?_); refine l_ix txs rfl rfl (by first | omega | assumption | decide) (by first | omega | assumption | decide) ?_) | ((with_reducible refine g_cv ?_); (refine l_a txs rfl rfl (by first | exact in_i64 (by omega) (by omega) | exact in_u8 (by omega) (by omega) | exact in_u64 (by omega) (by omega) | exact in_i32 (by omega) (by omega)) ?_)) | ((with_reducible refine g_bi ?_); (refine l_a txs rfl rfl (by first | exact in_i64 (by omega) (by omega) | exact in_u8 (by omega) (by omega) | exact in_u64 (by omega) (by omega) | exact in_i32 (by omega) (by omega)) ?_)))))
            rw [hval]
            skip
            (with_reducible refine is_l ?_); refine l_t txs rfl rfl (fun hbig => ?_) (fun hsm => ?_)
            · have hge2 : n' ≤ numV 0 s := by
                have h1 := numV_app (s.take (j + 1)) (s.drop (j + 1)) 0
                rw [List.take_append_drop, hnt] at h1
                rw [h1]
                exact numV_ge _ _
              rw [if_pos (by omega)] at hfr
              repeat' (first | (with_reducible first | refine p_tn ?_ | refine p_tr ?_ | refine p_br ?_ | refine wp_seq ?_ | refine w_reg ?_) | (with_reducible (refine is_if ?_; (refine w_ift rfl ?_))) | (with_reducible first | refine wp_ret ?_ | refine l_nil ?_) | ((with_reducible refine g_on ?_); ((with_reducible refine g_as ?_); refine l_p txs rfl rfl ?_)))
              refine end2 rfl rfl rfl ?_
              exact ⟨by rw [lenV_err hfr]; rfl, H.B⟩
            · repeat' (first | (with_reducible first | refine p_tn ?_ | refine p_bn ?_ | refine w_reg ?_) | (with_reducible (refine is_if ?_; (refine w_iff rfl ?_))) | (with_reducible first | refine wp_skip ?_ | refine l_nil ?_) | ((with_reducible refine g_on ?_); (first | ((with_reducible refine g_mv ?_); refine l_p txs rfl rfl ?_) | ((with_reducible refine g_as ?_); refine l_p txs rfl rfl ?_) | ((with_reducible refine g_bi ?_); (refine l_a txs rfl rfl (by first | exact in_i64 (by omega) (by omega) | exact in_u8 (by omega) (by omega) | exact in_u64 (by omega) (by omega) | exact in_i32 (by omega) (by omega)) ?_)))))
              exact ⟨(j + 1, n'), _, rfl, ⟨rfl, rfl, rfl, trivial⟩, ⟨H, by show j + 1 ≤ _; omega, hnt.symm, by show n' ≤ _; omega⟩, by show _ - (j + 1) < _ - j; omega⟩
          · have hall2 : s.take j = s := List.take_of_length_le (by omega)
            rw [hall2] at hn
            rw [if_neg (by omega)] at hfr
            repeat' (first | (with_reducible first | refine p_tn ?_ | refine p_tx ?_ | refine x_hit ?_ | refine wp_seq ?_ | refine w_reg ?_) | (with_reducible (refine is_if ?_; (refine w_iff rfl ?_))) | (with_reducible first | refine wp_exit ?_ | refine wp_ret ?_ | refine l_nil ?_) | ((with_reducible refine g_on ?_); (first | ((with_reducible refine g_mv ?_); refine l_p txs rfl rfl ?_) | ((with_reducible refine g_as ?_); refine l_p txs rfl rfl ?_))))
            refine end2 rfl rfl rfl ?_
            exact ⟨by unfold lenV; rw [hfr, hn], H.B⟩
      · rw [hnum (fun hh => h6 (by have := hh.1; omega))] at hfr
        simp only at hfr
        repeat' (first | (with_reducible first | refine p_tn ?_ | refine wp_seq ?_ | refine wp_block ?_ | refine w_reg ?_) | (with_reducible (refine is_if ?_; (refine w_iff rfl ?_))) | (with_reducible first | refine wp_skip ?_ | refine l_nil ?_) | ((with_reducible refine g_on ?_); (first | ((with_reducible refine g_as ?_); refine l_p txs rfl rfl ?_) | ((with_reducible refine g_pk ?_); refine l_p txs rfl rfl ?_))) | ((with_reducible refine g_if ?_); (first | (refine l_off rfl ?_) | ((with_reducible refine g_mv ?_); refine l_p txs rfl rfl ?_) | ((with_reducible refine g_pk ?_); refine l_p txs rfl rfl ?_))))
        refine w_loop (σ := Nat × Nat) (S := fun t => [(8, .string (strOfNums s)), (10, .int .i64 (t.2 : Int)), (11, .int .i64 (t.1 : Int))]) (J := fun t w' => Hp w w' [] [] ∧ t.1 ≤ s.length ∧ t.2 = numV 0 (s.take t.1) ∧ t.2 ≤ 1048576) (μ := fun t => s.length - t.1) (0, 0) ⟨rfl, rfl, rfl, trivial⟩ ⟨H, Nat.zero_le _, rfl, by decide⟩ ?_
        rintro ⟨j, n⟩ f w_ ⟨H, hj, hn, hn2⟩
        simp only at H hj hn hn2 ⊢
        repeat' (first | (with_reducible first | refine wp_seq ?_ | refine w_reg ?_) | ((with_reducible refine g_on ?_); (first | ((with_reducible refine g_mv ?_); refine l_p txs rfl rfl ?_) | ((with_reducible refine g_cl ?_); refine l_p txs rfl rfl ?_))))
        (with_reducible refine is_l ?_); refine l_t txs rfl rfl (fun hlt => ?_) (fun hge => ?_)
        · obtain ⟨x, hx⟩ : ∃ x, s[j]? = some x := ⟨_, List.getElem?_eq_getElem (by omega)⟩
          have hxd := List.all_eq_true.1 hdig x (List.mem_of_getElem? hx)
          have hx48 : 48 ≤ x ∧ x ≤ 57 := by unfold digB at hxd; simp at hxd; exact hxd
          have hat : at_ (bl (strOfNums s)) (j : Int) = x := by rw [blS hbs]; exact at_of hx
          have hb1 : 48 ≤ at_ (bl (strOfNums s)) (j : Int) ∧ at_ (bl (strOfNums s)) (j : Int) ≤ 57 := by rw [hat]; exact hx48
          have hnt := numV_take hx
          rw [← hn] at hnt
          obtain ⟨n', hn'⟩ : ∃ n', n' = 10 * n + (x - 48).toNat := ⟨_, rfl⟩
          rw [← hn'] at hnt
          have hval : 10 * (n : Int) + (at_ (bl (strOfNums s)) (j : Int) - 48) = (n' : Int) := by rw [hat]; omega
          repeat' (first | (with_reducible first | refine p_tn ?_ | refine wp_seq ?_ | refine wp_block ?_ | refine w_reg ?_) | (with_reducible (refine is_if ?_; (refine w_ift rfl ?_))) | (with_reducible first | refine wp_skip ?_ | refine l_nil ?_) | ((with_reducible refine g_on ?_); (first | ((with_reducible refine g_mv ?_); refine l_p txs rfl rfl ?_) | ((with_reducible refine g_as ?_); refine l_p txs rfl rfl ?_) | ((with_reducible refine g_ix ?_); refine l_ix txs rfl rfl (by first | omega | assumption | decide) (by first | omega | assumption | decide) ?_) | ((with_reducible refine g_cv ?_); (refine l_a txs rfl rfl (by first | exact in_i64 (by omega) (by omega) | exact in_u8 (by omega) (by omega) | exact in_u64 (by omega) (by omega) | exact in_i32 (by omega) (by omega)) ?_)) | ((with_reducible refine g_bi ?_); (refine l_a txs rfl rfl (by first | exact in_i64 (by omega) (by omega) | exact in_u8 (by omega) (by omega) | exact in_u64 (by omega) (by omega) | exact in_i32 (by omega) (by omega)) ?_)))))
          rw [hval]
          skip
          (with_reducible refine is_l ?_); refine l_t txs rfl rfl (fun hbig => ?_) (fun hsm => ?_)
          · have hge2 : n' ≤ numV 0 s := by
              have h1 := numV_app (s.take (j + 1)) (s.drop (j + 1)) 0
              rw [List.take_append_drop, hnt] at h1
              rw [h1]
              exact numV_ge _ _
            rw [if_pos (by omega)] at hfr
            repeat' (first | (with_reducible first | refine p_tn ?_ | refine p_tr ?_ | refine p_br ?_ | refine wp_seq ?_ | refine w_reg ?_) | (with_reducible (refine is_if ?_; (refine w_ift rfl ?_))) | (with_reducible first | refine wp_ret ?_ | refine l_nil ?_) | ((with_reducible refine g_on ?_); ((with_reducible refine g_as ?_); refine l_p txs rfl rfl ?_)))
            refine end2 rfl rfl rfl ?_
            exact ⟨by rw [lenV_err hfr]; rfl, H.B⟩
          · repeat' (first | (with_reducible first | refine p_tn ?_ | refine p_bn ?_ | refine w_reg ?_) | (with_reducible (refine is_if ?_; (refine w_iff rfl ?_))) | (with_reducible first | refine wp_skip ?_ | refine l_nil ?_) | ((with_reducible refine g_on ?_); (first | ((with_reducible refine g_mv ?_); refine l_p txs rfl rfl ?_) | ((with_reducible refine g_as ?_); refine l_p txs rfl rfl ?_) | ((with_reducible refine g_bi ?_); (refine l_a txs rfl rfl (by first | exact in_i64 (by omega) (by omega) | exact in_u8 (by omega) (by omega) | exact in_u64 (by omega) (by omega) | exact in_i32 (by omega) (by omega)) ?_)))))
            exact ⟨(j + 1, n'), _, rfl, ⟨rfl, rfl, rfl, trivial⟩, ⟨H, by show j + 1 ≤ _; omega, hnt.symm, by show n' ≤ _; omega⟩, by show _ - (j + 1) < _ - j; omega⟩
        · have hall2 : s.take j = s := List.take_of_length_le (by omega)
          rw [hall2] at hn
          rw [if_neg (by omega)] at hfr
          repeat' (first | (with_reducible first | refine p_tn ?_ | refine p_tx ?_ | refine x_hit ?_ | refine wp_seq ?_ | refine w_reg ?_) | (with_reducible (refine is_if ?_; (refine w_iff rfl ?_))) | (with_reducible first | refine wp_exit ?_ | refine wp_ret ?_ | refine l_nil ?_) | ((with_reducible refine g_on ?_); (first | ((with_reducible refine g_mv ?_); refine l_p txs rfl rfl ?_) | ((with_reducible refine g_as ?_); refine l_p txs rfl rfl ?_))))
          refine end2 rfl rfl rfl ?_
          exact ⟨by unfold lenV; rw [hfr, hn], H.B⟩
end Go.Proofs.YthgojbdpmcccaaaGreatDoor.K.Ref
end
section
namespace Go.Proofs.YthgojbdpmcccaaaGreatDoor.K.Ref
open Go.RowKit Go.Proofs.YthgojbdpmcccaaaGreatDoor.Q Go.Proofs.YthgojbdpmcccaaaGreatDoor.Wb Go.Proofs.YthgojbdpmcccaaaGreatDoorW.PrintWords Go.Proofs.YthgojbdpmcccaaaGreatDoor.K
set_option linter.unusedVariables false
set_option linter.unusedSimpArgs false
def hexI (c : Int) : Int := match hexV c with | some n => (n : Int) | none => -1
set_option maxHeartbeats 2000000 in
theorem rhex_c (c : Int) (hc : 0 ≤ c ∧ c ≤ 255) (w : World) : Calls Tryz.prog 143 #[.int .u8 c] w fun e w' => e = .returned (.int .i64 (hexI c)) ∧ Below w.heap.size w w' := by
  refine enter (args := [.int .u8 c]) Tryz.func143 rfl Tryz.ntmps143 rfl ?_
  have H := Hp.nil w
  repeat' (first | (with_reducible first | refine p_tn ?_ | refine wp_seq ?_ | refine wp_block ?_ | refine w_reg ?_ | refine l_nil ?_) | ((with_reducible refine g_on ?_); (first | ((with_reducible refine g_mv ?_); refine l_p txs rfl rfl ?_) | ((with_reducible refine g_as ?_); refine l_p txs rfl rfl ?_))))
  (with_reducible refine is_l ?_); refine l_callv rfl rfl (by kernel_rfl) (rdigit_c c _) (fun w_ K => ?_)
  have H := H.call K
  cases hd : digB c
  · have hn : ¬ (48 ≤ c ∧ c ≤ 57) := by unfold digB at hd; simp at hd; omega
    repeat' (first | (with_reducible first | refine p_tn ?_ | refine wp_seq ?_ | refine w_reg ?_) | (with_reducible (refine is_if ?_; (refine w_iff rfl ?_))) | (with_reducible refine l_nil ?_) | ((with_reducible refine g_on ?_); (first | ((with_reducible refine g_mv ?_); refine l_p txs rfl rfl ?_) | ((with_reducible refine g_as ?_); refine l_p txs rfl rfl ?_))))
    (with_reducible refine is_l ?_); refine l_t txs rfl rfl (fun h1 => ?_) (fun h1 => ?_)
    · repeat' (first | ((with_reducible refine g_on ?_); ((with_reducible refine g_mv ?_); refine l_p txs rfl rfl ?_)) | ((with_reducible refine g_if ?_); ((with_reducible refine g_mv ?_); refine l_p txs rfl rfl ?_)))
      (with_reducible refine is_l ?_); refine l_t txs rfl rfl (fun h2 => ?_) (fun h2 => ?_)
      · repeat' (first | (with_reducible first | refine p_tn ?_ | refine p_tr ?_ | refine p_br ?_ | refine wp_seq ?_ | refine w_reg ?_) | (with_reducible (refine is_if ?_; (refine w_ift rfl ?_))) | (with_reducible first | refine wp_ret ?_ | refine l_nil ?_) | ((with_reducible refine g_on ?_); (first | ((with_reducible refine g_mv ?_); refine l_p txs rfl rfl ?_) | ((with_reducible refine g_as ?_); refine l_p txs rfl rfl ?_) | ((with_reducible refine g_pk ?_); refine l_p txs rfl rfl ?_) | ((with_reducible refine g_cv ?_); (refine l_a txs rfl rfl (by first | exact in_i64 (by omega) (by omega) | exact in_u8 (by omega) (by omega) | exact in_u64 (by omega) (by omega) | exact in_i32 (by omega) (by omega)) ?_)) | ((with_reducible refine g_bi ?_); (refine l_a txs rfl rfl (by first | exact in_i64 (by omega) (by omega) | exact in_u8 (by omega) (by omega) | exact in_u64 (by omega) (by omega) | exact in_i32 (by omega) (by omega)) ?_)))))
        refine end1 rfl rfl ?_
        refine ⟨?_, H.B⟩
        have : hexI c = c - 97 + 10 := by unfold hexI hexV; rw [if_neg hn, if_pos ⟨h1, h2⟩]; simp only; omega
        rw [this]
      · repeat' (first | (with_reducible first | refine p_tn ?_ | refine wp_seq ?_ | refine w_reg ?_) | (with_reducible (refine is_if ?_; (refine w_iff rfl ?_))) | (with_reducible refine l_nil ?_) | ((with_reducible refine g_on ?_); (first | ((with_reducible refine g_mv ?_); refine l_p txs rfl rfl ?_) | ((with_reducible refine g_as ?_); refine l_p txs rfl rfl ?_) | ((with_reducible refine g_pk ?_); refine l_p txs rfl rfl ?_))))
        (with_reducible refine is_l ?_); refine l_t txs rfl rfl (fun h3 => ?_) (fun h3 => ?_)
        · repeat' (first | ((with_reducible refine g_on ?_); ((with_reducible refine g_mv ?_); refine l_p txs rfl rfl ?_)) | ((with_reducible refine g_if ?_); ((with_reducible refine g_mv ?_); refine l_p txs rfl rfl ?_)))
          (with_reducible refine is_l ?_); refine l_t txs rfl rfl (fun h4 => absurd h4 (by omega)) (fun h4 => ?_)
          repeat' (first | (with_reducible first | refine p_tn ?_ | refine p_bn ?_ | refine wp_seq ?_ | refine w_reg ?_) | (with_reducible (refine is_if ?_; (refine w_iff rfl ?_))) | (with_reducible first | refine wp_skip ?_ | refine wp_ret ?_ | refine l_nil ?_) | ((with_reducible refine g_on ?_); (first | ((with_reducible refine g_as ?_); refine l_p txs rfl rfl ?_) | ((with_reducible refine g_pk ?_); refine l_p txs rfl rfl ?_))))
          refine end1 rfl rfl ?_
          refine ⟨?_, H.B⟩
          have : hexI c = -1 := by unfold hexI hexV; rw [if_neg hn, if_neg (by omega), if_neg (by omega)]
          rw [this]
        · exact absurd h3 (by omega)
    · repeat' (first | (with_reducible first | refine p_tn ?_ | refine wp_seq ?_ | refine w_reg ?_) | (with_reducible (refine is_if ?_; (refine w_iff rfl ?_))) | (with_reducible refine l_nil ?_) | ((with_reducible refine g_on ?_); (first | ((with_reducible refine g_mv ?_); refine l_p txs rfl rfl ?_) | ((with_reducible refine g_as ?_); refine l_p txs rfl rfl ?_) | ((with_reducible refine g_pk ?_); refine l_p txs rfl rfl ?_))) | ((with_reducible refine g_if ?_); (refine l_off rfl ?_)))
      (with_reducible refine is_l ?_); refine l_t txs rfl rfl (fun h3 => ?_) (fun h3 => ?_)
      · repeat' (first | ((with_reducible refine g_on ?_); ((with_reducible refine g_mv ?_); refine l_p txs rfl rfl ?_)) | ((with_reducible refine g_if ?_); ((with_reducible refine g_mv ?_); refine l_p txs rfl rfl ?_)))
        (with_reducible refine is_l ?_); refine l_t txs rfl rfl (fun h4 => ?_) (fun h4 => ?_)
        · repeat' (first | (with_reducible first | refine p_tn ?_ | refine p_tr ?_ | refine p_br ?_ | refine wp_seq ?_ | refine w_reg ?_) | (with_reducible (refine is_if ?_; (refine w_ift rfl ?_))) | (with_reducible first | refine wp_ret ?_ | refine l_nil ?_) | ((with_reducible refine g_on ?_); (first | ((with_reducible refine g_mv ?_); refine l_p txs rfl rfl ?_) | ((with_reducible refine g_as ?_); refine l_p txs rfl rfl ?_) | ((with_reducible refine g_pk ?_); refine l_p txs rfl rfl ?_) | ((with_reducible refine g_cv ?_); (refine l_a txs rfl rfl (by first | exact in_i64 (by omega) (by omega) | exact in_u8 (by omega) (by omega) | exact in_u64 (by omega) (by omega) | exact in_i32 (by omega) (by omega)) ?_)) | ((with_reducible refine g_bi ?_); (refine l_a txs rfl rfl (by first | exact in_i64 (by omega) (by omega) | exact in_u8 (by omega) (by omega) | exact in_u64 (by omega) (by omega) | exact in_i32 (by omega) (by omega)) ?_)))))
          refine end1 rfl rfl ?_
          refine ⟨?_, H.B⟩
          have : hexI c = c - 65 + 10 := by unfold hexI hexV; rw [if_neg hn, if_neg (by omega), if_pos ⟨h3, h4⟩]; simp only; omega
          rw [this]
        · repeat' (first | (with_reducible first | refine p_tn ?_ | refine p_bn ?_ | refine wp_seq ?_ | refine w_reg ?_) | (with_reducible (refine is_if ?_; (refine w_iff rfl ?_))) | (with_reducible first | refine wp_skip ?_ | refine wp_ret ?_ | refine l_nil ?_) | ((with_reducible refine g_on ?_); (first | ((with_reducible refine g_as ?_); refine l_p txs rfl rfl ?_) | ((with_reducible refine g_pk ?_); refine l_p txs rfl rfl ?_))))
          refine end1 rfl rfl ?_
          refine ⟨?_, H.B⟩
          have : hexI c = -1 := by unfold hexI hexV; rw [if_neg hn, if_neg (by omega), if_neg (by omega)]
          rw [this]
      · repeat' (first | (with_reducible first | refine p_tn ?_ | refine p_bn ?_ | refine wp_seq ?_ | refine w_reg ?_) | (with_reducible (refine is_if ?_; (refine w_iff rfl ?_))) | (with_reducible first | refine wp_skip ?_ | refine wp_ret ?_ | refine l_nil ?_) | ((with_reducible refine g_on ?_); (first | ((with_reducible refine g_mv ?_); refine l_p txs rfl rfl ?_) | ((with_reducible refine g_as ?_); refine l_p txs rfl rfl ?_) | ((with_reducible refine g_pk ?_); refine l_p txs rfl rfl ?_))) | ((with_reducible refine g_if ?_); (refine l_off rfl ?_)))
        refine end1 rfl rfl ?_
        refine ⟨?_, H.B⟩
        have : hexI c = -1 := by unfold hexI hexV; rw [if_neg hn, if_neg (by omega), if_neg (by omega)]
        rw [this]
  · have hn : 48 ≤ c ∧ c ≤ 57 := by unfold digB at hd; simp at hd; omega
    repeat' (first | (with_reducible first | refine p_tn ?_ | refine p_tr ?_ | refine p_br ?_ | refine wp_seq ?_ | refine w_reg ?_) | (with_reducible (refine is_if ?_; (refine w_ift rfl ?_))) | (with_reducible first | refine wp_ret ?_ | refine l_nil ?_) | ((with_reducible refine g_on ?_); (first | ((with_reducible refine g_mv ?_); refine l_p txs rfl rfl ?_) | ((with_reducible refine g_as ?_); refine l_p txs rfl rfl ?_) | ((with_reducible refine g_cv ?_); (refine l_a txs rfl rfl (by first | exact in_i64 (by omega) (by omega) | exact in_u8 (by omega) (by omega) | exact in_u64 (by omega) (by omega) | exact in_i32 (by omega) (by omega)) ?_)) | ((with_reducible refine g_bi ?_); (refine l_a txs rfl rfl (by first | exact in_i64 (by omega) (by omega) | exact in_u8 (by omega) (by omega) | exact in_u64 (by omega) (by omega) | exact in_i32 (by omega) (by omega)) ?_)))))
    refine end1 rfl rfl ?_
    refine ⟨?_, H.B⟩
    have : hexI c = c - 48 := by unfold hexI hexV; rw [if_pos hn]; simp only; omega
    rw [this]
end Go.Proofs.YthgojbdpmcccaaaGreatDoor.K.Ref
end
section
namespace Go.Proofs.YthgojbdpmcccaaaGreatDoor.K.Ref
open Go.RowKit Go.Proofs.YthgojbdpmcccaaaGreatDoor.Q Go.Proofs.YthgojbdpmcccaaaGreatDoor.Wb Go.Proofs.YthgojbdpmcccaaaGreatDoorW.PrintWords Go.Proofs.YthgojbdpmcccaaaGreatDoor.K
set_option linter.unusedVariables false
set_option linter.unusedSimpArgs false
def endI (s : ByteArray) (k : Nat) : Int := match endS ((bl s).drop k) with
  | .ok r => ((s.size - r.length : Nat) : Int)
  | .error e => if e = 140 then -2 else -1
theorem end_a {x : Int} {t : L} (h : ¬ x = 10) (h2 : ¬ x = 13) : endS (x :: t) = .error 146 := by
  unfold endS
  split <;> first | rfl | (exfalso; simp_all)
theorem end_b {y : Int} {r : L} (h : ¬ y = 10) : endS (13 :: y :: r) = .error 146 := by
  unfold endS
  split <;> first | rfl | (exfalso; simp_all)
set_option maxHeartbeats 4000000 in
theorem rend_c (s : ByteArray) (k : Nat) (w : World) (hs : s.size ≤ 2000000000000) (hk : k ≤ s.size) : Calls Tryz.prog 134 #[.string s, .int .i64 (k : Int)] w fun e w' => e = .returned (.int .i64 (endI s k)) ∧ Below w.heap.size w w' := by
  refine enter (args := [.string s, .int .i64 (k : Int)]) Tryz.func134 rfl Tryz.ntmps134 rfl ?_
  have hbl := bl_length s
  have H := Hp.nil w
  repeat' (first | (with_reducible first | refine p_tn ?_ | refine wp_seq ?_ | refine wp_block ?_ | refine w_reg ?_ | refine l_nil ?_) | ((with_reducible refine g_on ?_); (first | ((with_reducible refine g_mv ?_); refine l_p txs rfl rfl ?_) | ((with_reducible refine g_as ?_); refine l_p txs rfl rfl ?_) | ((with_reducible refine g_sl ?_); refine l_sl txs rfl rfl (by first | omega | assumption | decide) (by first | omega | assumption | decide) (by first | omega | assumption | decide) ?_))))
  obtain ⟨u, hu0⟩ : ∃ u, u = s.extract (((k : Nat) : Int)).toNat ((s.size : Int)).toNat := ⟨_, rfl⟩
  rw [← hu0]
  obtain ⟨d, hd⟩ : ∃ d, d = (bl s).drop k := ⟨_, rfl⟩
  have hu : bl u = d := by rw [hu0, Int.toNat_natCast, Int.toNat_natCast, blE, hd, List.take_of_length_le (by rw [List.length_drop]; omega)]
  have zu : u.size = d.length := by rw [← bl_length, hu]
  have hdl : d.length = s.size - k := by rw [hd, List.length_drop]; omega
  have hI : endI s k = match endS d with | .ok r => ((s.size - r.length : Nat) : Int) | .error e => if e = 140 then -2 else -1 := by unfold endI; rw [hd]
  have b0 : bl (⟨#[]⟩ : ByteArray) = [] := rfl
  have b1 : bl (⟨#[13]⟩ : ByteArray) = [13] := rfl
  skip
  (with_reducible refine is_l ?_); refine l_t txs rfl rfl (fun e0 => ?_) (fun e0 => ?_)
  · rw [hu, b0] at e0
    repeat' (first | (with_reducible first | refine p_tn ?_ | refine p_tr ?_ | refine p_br ?_ | refine wp_seq ?_ | refine w_reg ?_) | (with_reducible (refine is_if ?_; (refine w_ift rfl ?_))) | (with_reducible first | refine wp_ret ?_ | refine l_nil ?_) | ((with_reducible refine g_on ?_); (first | ((with_reducible refine g_mv ?_); refine l_p txs rfl rfl ?_) | ((with_reducible refine g_as ?_); refine l_p txs rfl rfl ?_) | ((with_reducible refine g_pk ?_); refine l_p txs rfl rfl ?_))) | ((with_reducible refine g_if ?_); (refine l_off rfl ?_)))
    refine end1 rfl rfl ?_
    exact ⟨by rw [hI, e0]; rfl, H.B⟩
  rw [hu, b0] at e0
  repeat' (first | ((with_reducible refine g_on ?_); ((with_reducible refine g_mv ?_); refine l_p txs rfl rfl ?_)) | ((with_reducible refine g_if ?_); ((with_reducible refine g_mv ?_); refine l_p txs rfl rfl ?_)))
  (with_reducible refine is_l ?_); refine l_t txs rfl rfl (fun e1 => ?_) (fun e1 => ?_)
  · rw [hu, b1] at e1
    repeat' (first | (with_reducible first | refine p_tn ?_ | refine p_tr ?_ | refine p_br ?_ | refine wp_seq ?_ | refine w_reg ?_) | (with_reducible (refine is_if ?_; (refine w_ift rfl ?_))) | (with_reducible first | refine wp_ret ?_ | refine l_nil ?_) | ((with_reducible refine g_on ?_); (first | ((with_reducible refine g_as ?_); refine l_p txs rfl rfl ?_) | ((with_reducible refine g_pk ?_); refine l_p txs rfl rfl ?_))))
    refine end1 rfl rfl ?_
    exact ⟨by rw [hI, e1]; rfl, H.B⟩
  rw [hu, b1] at e1
  cases hx : d with
  | nil => exact absurd hx e0
  | cons x t =>
    rw [hx] at hu zu hdl hI e1
    have hpos : 0 < u.size := by rw [zu]; simp
    have hat : at_ (bl u) 0 = x := by rw [hu]; rfl
    simp only [List.length_cons] at hdl zu
    repeat' (first | (with_reducible first | refine p_tn ?_ | refine wp_seq ?_ | refine w_reg ?_) | (with_reducible (refine is_if ?_; (refine w_iff rfl ?_))) | (with_reducible refine l_nil ?_) | ((with_reducible refine g_on ?_); (first | ((with_reducible refine g_mv ?_); refine l_p txs rfl rfl ?_) | ((with_reducible refine g_as ?_); refine l_p txs rfl rfl ?_) | ((with_reducible refine g_pk ?_); refine l_p txs rfl rfl ?_) | ((with_reducible refine g_ix ?_); refine l_ix txs rfl rfl (by first | omega | assumption | decide) (by first | omega | assumption | decide) ?_))))
    rw [hat]
    skip
    (with_reducible refine is_l ?_); refine l_t txs rfl rfl (fun e2 => ?_) (fun e2 => ?_)
    · have hr : endI s k = (k : Int) + 1 := by rw [hI, e2]; show ((s.size - t.length : Nat) : Int) = _; omega
      repeat' (first | (with_reducible first | refine p_tn ?_ | refine p_tr ?_ | refine p_br ?_ | refine wp_seq ?_ | refine w_reg ?_) | (with_reducible (refine is_if ?_; (refine w_ift rfl ?_))) | (with_reducible first | refine wp_ret ?_ | refine l_nil ?_) | ((with_reducible refine g_on ?_); (first | ((with_reducible refine g_mv ?_); refine l_p txs rfl rfl ?_) | ((with_reducible refine g_as ?_); refine l_p txs rfl rfl ?_) | ((with_reducible refine g_bi ?_); (refine l_a txs rfl rfl (by first | exact in_i64 (by omega) (by omega) | exact in_u8 (by omega) (by omega) | exact in_u64 (by omega) (by omega) | exact in_i32 (by omega) (by omega)) ?_)))))
      refine end1 rfl rfl ?_
      exact ⟨by rw [hr], H.B⟩
    repeat' (first | (with_reducible first | refine p_tn ?_ | refine wp_seq ?_ | refine w_reg ?_) | (with_reducible (refine is_if ?_; (refine w_iff rfl ?_))) | (with_reducible refine l_nil ?_) | ((with_reducible refine g_on ?_); (first | ((with_reducible refine g_mv ?_); refine l_p txs rfl rfl ?_) | ((with_reducible refine g_as ?_); refine l_p txs rfl rfl ?_) | ((with_reducible refine g_ix ?_); refine l_ix txs rfl rfl (by first | omega | assumption | decide) (by first | omega | assumption | decide) ?_))))
    rw [hat]
    skip
    (with_reducible refine is_l ?_); refine l_t txs rfl rfl (fun e3 => ?_) (fun e3 => ?_)
    · cases ht : t with
      | nil => exact absurd (by rw [e3, ht]) e1
      | cons y r =>
        rw [ht] at hu zu hdl hI
        simp only [List.length_cons] at hdl zu
        have hpos1 : 1 < u.size := by omega
        have hat1 : at_ (bl u) 1 = y := by rw [hu]; rfl
        repeat' (first | ((with_reducible refine g_on ?_); ((with_reducible refine g_mv ?_); refine l_p txs rfl rfl ?_)) | ((with_reducible refine g_if ?_); (first | ((with_reducible refine g_mv ?_); refine l_p txs rfl rfl ?_) | ((with_reducible refine g_ix ?_); refine l_ix txs rfl rfl (by first | omega | assumption | decide) (by first | omega | assumption | decide) ?_))))
        rw [hat1]
        skip
        (with_reducible refine is_l ?_); refine l_t txs rfl rfl (fun e4 => ?_) (fun e4 => ?_)
        · have hr : endI s k = (k : Int) + 2 := by rw [hI, e3, e4]; show ((s.size - r.length : Nat) : Int) = _; omega
          repeat' (first | (with_reducible first | refine p_tn ?_ | refine p_tr ?_ | refine p_br ?_ | refine wp_seq ?_ | refine w_reg ?_) | (with_reducible (refine is_if ?_; (refine w_ift rfl ?_))) | (with_reducible first | refine wp_ret ?_ | refine l_nil ?_) | ((with_reducible refine g_on ?_); (first | ((with_reducible refine g_mv ?_); refine l_p txs rfl rfl ?_) | ((with_reducible refine g_as ?_); refine l_p txs rfl rfl ?_) | ((with_reducible refine g_pk ?_); refine l_p txs rfl rfl ?_) | ((with_reducible refine g_bi ?_); (refine l_a txs rfl rfl (by first | exact in_i64 (by omega) (by omega) | exact in_u8 (by omega) (by omega) | exact in_u64 (by omega) (by omega) | exact in_i32 (by omega) (by omega)) ?_)))))
          refine end1 rfl rfl ?_
          exact ⟨by rw [hr], H.B⟩
        · have hr : endI s k = -1 := by
            rw [hI, e3]
            rw [end_b e4]
            rfl
          repeat' (first | (with_reducible first | refine p_tn ?_ | refine p_bn ?_ | refine wp_seq ?_ | refine w_reg ?_) | (with_reducible (refine is_if ?_; (refine w_iff rfl ?_))) | (with_reducible first | refine wp_skip ?_ | refine wp_ret ?_ | refine l_nil ?_) | ((with_reducible refine g_on ?_); (first | ((with_reducible refine g_as ?_); refine l_p txs rfl rfl ?_) | ((with_reducible refine g_pk ?_); refine l_p txs rfl rfl ?_))))
          refine end1 rfl rfl ?_
          exact ⟨by rw [hr], H.B⟩
    · have hr : endI s k = -1 := by
        rw [hI]
        rw [end_a e2 e3]
        rfl
      repeat' (first | (with_reducible first | refine p_tn ?_ | refine p_bn ?_ | refine wp_seq ?_ | refine w_reg ?_) | (with_reducible (refine is_if ?_; (refine w_iff rfl ?_))) | (with_reducible first | refine wp_skip ?_ | refine wp_ret ?_ | refine l_nil ?_) | ((with_reducible refine g_on ?_); (first | ((with_reducible refine g_mv ?_); refine l_p txs rfl rfl ?_) | ((with_reducible refine g_as ?_); refine l_p txs rfl rfl ?_) | ((with_reducible refine g_pk ?_); refine l_p txs rfl rfl ?_))) | ((with_reducible refine g_if ?_); (refine l_off rfl ?_)))
      refine end1 rfl rfl ?_
      exact ⟨by rw [hr], H.B⟩
theorem split_first (c : Int) (s : L) : (splitC c s)[0]? = some (aheadC c s) := by
  unfold aheadC
  cases h : cutC c s with
  | none => rw [splitC_none (cutC_none h)]; rfl
  | some z =>
    obtain ⟨a, b⟩ := z
    obtain ⟨h1, h2⟩ := cutC_some h
    rw [h1, splitC_cut _ h2]
    rfl
theorem split_all (c : Int) (s : L) (p : Int → Bool) (hp : p c = true) : s.all p = ((aheadC c s).all p && (behindC c s).all p) := by
  unfold aheadC behindC
  cases h : cutC c s with
  | none => simp
  | some z =>
    obtain ⟨a, b⟩ := z
    obtain ⟨h1, h2⟩ := cutC_some h
    simp only
    rw [h1, List.all_append, List.all_cons, hp, Bool.true_and]
theorem hexV_val {c : Int} {d : Nat} (h : hexV c = some d) : valB c = true ∧ d ≤ 15 := by
  unfold hexV at h
  unfold valB
  repeat' split at h
  all_goals first | (injection h with h; exact ⟨by simp; omega, by omega⟩) | cases h
theorem hexN_val : ∀ (l : L) (n m : Nat), hexN n l = some m → l.all valB = true
  | [], _, _, _ => rfl
  | c :: r, n, m, h => by
    rw [hexN] at h
    cases hc : hexV c with
    | none => rw [hc] at h; cases h
    | some d =>
      rw [hc] at h
      rw [List.all_cons, (hexV_val hc).1, hexN_val r _ _ h]
      rfl
def sizI (s : ByteArray) : Int := match sizeS (bl s) with | some n => (n : Int) | none => -1
theorem sizI_none {s : ByteArray} (h : sizeS (bl s) = none) : sizI s = -1 := by unfold sizI; rw [h]
set_option maxHeartbeats 8000000 in
theorem rchunkLine_c (s : ByteArray) (w : World) (hs : s.size ≤ 2000000000000) : Calls Tryz.prog 133 #[.string s] w fun e w' => e = .returned (.int .i64 (sizI s)) ∧ Below w.heap.size w w' := by
  refine enter (args := [.string s]) Tryz.func133 rfl Tryz.ntmps133 rfl ?_
  have hbl := bl_length s
  have H := Hp.nil w
  repeat' (first | (with_reducible first | refine p_tn ?_ | refine wp_seq ?_ | refine w_reg ?_ | refine l_nil ?_) | ((with_reducible refine g_on ?_); (first | ((with_reducible refine g_mv ?_); refine l_p txs rfl rfl ?_) | ((with_reducible refine g_as ?_); refine l_p txs rfl rfl ?_) | ((with_reducible refine g_cl ?_); refine l_p txs rfl rfl ?_))))
  (with_reducible refine is_l ?_); refine l_t txs rfl rfl (fun h1 => ?_) (fun h1 => ?_)
  · have hz : sizeS (bl s) = none := by unfold sizeS; rw [if_pos (by omega)]
    repeat' (first | (with_reducible first | refine p_tn ?_ | refine p_tr ?_ | refine wp_seq ?_ | refine w_reg ?_) | (with_reducible (refine is_if ?_; (refine w_ift rfl ?_))) | (with_reducible first | refine wp_ret ?_ | refine l_nil ?_) | ((with_reducible refine g_on ?_); ((with_reducible refine g_as ?_); refine l_p txs rfl rfl ?_)))
    refine end1 rfl rfl ?_
    exact ⟨by rw [sizI_none hz], H.B⟩
  have hsz : sizeS (bl s) = if aheadC 59 (bl s) = [] ∨ 8 < (aheadC 59 (bl s)).length ∨ (behindC 59 (bl s)).all valB = false then none else hexN 0 (aheadC 59 (bl s)) := by unfold sizeS; rw [if_neg (by omega)]
  have hfst := split_first 59 (bl s)
  have hall := split_all 59 (bl s) valB (by decide)
  obtain ⟨a, ha⟩ : ∃ a, a = aheadC 59 (bl s) := ⟨_, rfl⟩
  rw [← ha] at hsz hfst hall
  have hba : Bytes a := fun x hx => bl_bytes s x (by
    rw [ha] at hx
    unfold aheadC at hx
    cases hc : cutC 59 (bl s) with
    | none => rw [hc] at hx; exact hx
    | some z => rw [hc] at hx; rw [(cutC_some hc).1]; simp only at hx; simp [hx])
  have za := sizeS' hba
  repeat' (first | (with_reducible first | refine p_tn ?_ | refine wp_seq ?_ | refine w_reg ?_) | (with_reducible (refine is_if ?_; (refine w_iff rfl ?_))) | (with_reducible first | refine wp_skip ?_ | refine l_nil ?_) | ((with_reducible refine g_on ?_); ((with_reducible refine g_mv ?_); refine l_p txs rfl rfl ?_)))
  (with_reducible refine is_l ?_); refine l_call rfl rfl (by kernel_rfl) (pieces_c s 59 _ (by omega)) (fun e w_ hR => ?_)
  obtain ⟨A1, c1, rfl, K⟩ := hR
  refine ⟨_, rfl, ?_⟩
  have H := H.join K
  obtain ⟨ad, had⟩ := rdT_some (rowT_at H 0 rfl) hfst
  subst had
  have hcell := rdT_cell (rowT_at H 0 rfl) hfst
  have hlpos : 0 < (splitC 59 (bl s)).length := (List.getElem?_eq_some_iff.1 hfst).1
  repeat' (first | (with_reducible first | refine p_tn ?_ | refine wp_seq ?_ | refine w_reg ?_ | refine l_nil ?_) | ((with_reducible refine g_on ?_); (first | ((with_reducible refine g_mv ?_); refine l_p txs rfl rfl ?_) | ((with_reducible refine g_as ?_); refine l_p txs rfl rfl ?_) | ((with_reducible refine g_ia ?_); refine l_ia txs rfl rfl (by first | omega | assumption | decide) (by first | omega | assumption | decide) ?_))))
  (with_reducible refine is_l ?_); refine l_ld txs rfl rfl hcell ?_
  repeat' (first | (with_reducible first | refine p_tn ?_ | refine wp_seq ?_ | refine w_reg ?_ | refine l_nil ?_) | ((with_reducible refine g_on ?_); (first | ((with_reducible refine g_mv ?_); refine l_p txs rfl rfl ?_) | ((with_reducible refine g_as ?_); refine l_p txs rfl rfl ?_))))
  (with_reducible refine is_l ?_); refine l_t txs rfl rfl (fun h2 => ?_) (fun h2 => ?_)
  · have ha0 : a = [] := by rw [blS hba] at h2; exact h2
    rw [if_pos (.inl ha0)] at hsz
    repeat' (first | (with_reducible first | refine p_tn ?_ | refine p_tr ?_ | refine wp_seq ?_ | refine w_reg ?_) | (with_reducible (refine is_if ?_; (refine w_ift rfl ?_))) | (with_reducible first | refine wp_ret ?_ | refine l_nil ?_) | ((with_reducible refine g_on ?_); (first | ((with_reducible refine g_mv ?_); refine l_p txs rfl rfl ?_) | ((with_reducible refine g_as ?_); refine l_p txs rfl rfl ?_) | ((with_reducible refine g_pk ?_); refine l_p txs rfl rfl ?_))) | ((with_reducible refine g_if ?_); (refine l_off rfl ?_)))
    refine end1 rfl rfl ?_
    exact ⟨by rw [sizI_none hsz], H.B⟩
  have ha0 : a ≠ [] := fun e => h2 (by rw [blS hba, e]; rfl)
  repeat' (first | ((with_reducible refine g_on ?_); ((with_reducible refine g_mv ?_); refine l_p txs rfl rfl ?_)) | ((with_reducible refine g_if ?_); (first | ((with_reducible refine g_mv ?_); refine l_p txs rfl rfl ?_) | ((with_reducible refine g_cl ?_); refine l_p txs rfl rfl ?_))))
  (with_reducible refine is_l ?_); refine l_t txs rfl rfl (fun h3 => ?_) (fun h3 => ?_)
  · rw [if_pos (.inr (.inl (by omega)))] at hsz
    repeat' (first | (with_reducible first | refine p_tn ?_ | refine p_tr ?_ | refine wp_seq ?_ | refine w_reg ?_) | (with_reducible (refine is_if ?_; (refine w_ift rfl ?_))) | (with_reducible first | refine wp_ret ?_ | refine l_nil ?_) | ((with_reducible refine g_on ?_); (first | ((with_reducible refine g_mv ?_); refine l_p txs rfl rfl ?_) | ((with_reducible refine g_as ?_); refine l_p txs rfl rfl ?_) | ((with_reducible refine g_pk ?_); refine l_p txs rfl rfl ?_))) | ((with_reducible refine g_if ?_); (refine l_off rfl ?_)))
    refine end1 rfl rfl ?_
    exact ⟨by rw [sizI_none hsz], H.B⟩
  repeat' (first | ((with_reducible refine g_on ?_); (first | ((with_reducible refine g_mv ?_); refine l_p txs rfl rfl ?_) | ((with_reducible refine g_pk ?_); refine l_p txs rfl rfl ?_))) | ((with_reducible refine g_if ?_); ((with_reducible refine g_mv ?_); refine l_p txs rfl rfl ?_)))
  (with_reducible refine is_l ?_); refine l_callv rfl rfl (by kernel_rfl) (rvalued_c s _ hs) (fun w_ K => ?_)
  have H := H.call K
  cases hv : (bl s).all valB
  · have hz : sizeS (bl s) = none := by
      rw [hsz]
      split
      · rfl
      · rename_i hno
        cases hh : hexN 0 a with
        | none => rfl
        | some m =>
          have h4 := hexN_val a 0 m hh
          rw [hv, h4, Bool.true_and] at hall
          exact absurd (.inr (.inr hall.symm)) hno
    repeat' (first | (with_reducible first | refine p_tn ?_ | refine p_tr ?_ | refine wp_seq ?_ | refine w_reg ?_) | (with_reducible (refine is_if ?_; (refine w_ift rfl ?_))) | (with_reducible first | refine wp_ret ?_ | refine l_nil ?_) | ((with_reducible refine g_on ?_); (first | ((with_reducible refine g_as ?_); refine l_p txs rfl rfl ?_) | ((with_reducible refine g_pk ?_); refine l_p txs rfl rfl ?_))) | ((with_reducible refine g_if ?_); ((with_reducible refine g_un ?_); (refine l_p txs rfl rfl ?_))))
    refine end1 rfl rfl ?_
    exact ⟨by rw [sizI_none hz], H.B⟩
  have hbe : (behindC 59 (bl s)).all valB = true := by
    rw [hv] at hall
    cases hq : (behindC 59 (bl s)).all valB
    · rw [hq, Bool.and_false] at hall; cases hall
    · rfl
  rw [if_neg (fun q => q.elim ha0 fun q => q.elim (fun q => by omega) fun q => by rw [hbe] at q; cases q)] at hsz
  repeat' (first | (with_reducible first | refine p_tn ?_ | refine wp_seq ?_ | refine wp_block ?_ | refine w_reg ?_) | (with_reducible (refine is_if ?_; (refine w_iff rfl ?_))) | (with_reducible first | refine wp_skip ?_ | refine l_nil ?_) | ((with_reducible refine g_on ?_); (first | ((with_reducible refine g_as ?_); refine l_p txs rfl rfl ?_) | ((with_reducible refine g_pk ?_); refine l_p txs rfl rfl ?_))) | ((with_reducible refine g_if ?_); ((with_reducible refine g_un ?_); (refine l_p txs rfl rfl ?_))))
  refine w_loop (σ := Nat × Nat) (S := fun t => [(4, .string (strOfNums a)), (5, .int .i64 (t.2 : Int)), (6, .int .i64 (t.1 : Int))]) (J := fun t w' => Hp w w' [] [] ∧ t.1 ≤ a.length ∧ t.2 < 16 ^ t.1 ∧ hexN 0 a = hexN t.2 (a.drop t.1)) (μ := fun t => a.length - t.1) (0, 0) ⟨rfl, rfl, rfl, trivial⟩ ⟨H.pick [] [] (by decide) (by decide) rfl rfl, Nat.zero_le _, by decide, rfl⟩ ?_
  rintro ⟨i, n⟩ f w_ ⟨H, hi, hn, hD⟩
  simp only at H hi hn hD ⊢
  have hp16 := pow16 i (by omega)
  repeat' (first | (with_reducible first | refine wp_seq ?_ | refine w_reg ?_) | ((with_reducible refine g_on ?_); (first | ((with_reducible refine g_mv ?_); refine l_p txs rfl rfl ?_) | ((with_reducible refine g_cl ?_); refine l_p txs rfl rfl ?_))))
  (with_reducible refine is_l ?_); refine l_t txs rfl rfl (fun hlt => ?_) (fun hge => ?_)
  · obtain ⟨x, hx⟩ : ∃ x, a[i]? = some x := ⟨_, List.getElem?_eq_getElem (by omega)⟩
    have hxb := hba x (List.mem_of_getElem? hx)
    have hat : at_ (bl (strOfNums a)) (i : Int) = x := by rw [blS hba]; exact at_of hx
    have hdr := dropA (l := a) (i := i) (by omega)
    rw [at_of hx] at hdr
    rw [hdr, hexN] at hD
    repeat' (first | (with_reducible first | refine p_tn ?_ | refine wp_seq ?_ | refine wp_block ?_ | refine w_reg ?_) | (with_reducible (refine is_if ?_; (refine w_ift rfl ?_))) | (with_reducible first | refine wp_skip ?_ | refine l_nil ?_) | ((with_reducible refine g_on ?_); (first | ((with_reducible refine g_mv ?_); refine l_p txs rfl rfl ?_) | ((with_reducible refine g_ix ?_); refine l_ix txs rfl rfl (by first | omega | assumption | decide) (by first | omega | assumption | decide) ?_))))
    rw [hat]
    (with_reducible refine is_l ?_); refine l_callv rfl rfl (by kernel_rfl) (rhex_c x hxb _) (fun w_ K => ?_)
    have H := H.call K
    cases hh : hexV x with
    | none =>
      rw [hh] at hD
      have hm : hexI x = -1 := by unfold hexI; rw [hh]
      rw [hm]
      skip
      (with_reducible refine is_l ?_); refine l_t txs rfl rfl (fun _ => ?_) (fun hq => absurd (by decide) hq)
      rw [hD] at hsz
      repeat' (first | (with_reducible first | refine p_tn ?_ | refine p_tr ?_ | refine p_br ?_ | refine wp_seq ?_ | refine w_reg ?_) | (with_reducible (refine is_if ?_; (refine w_ift rfl ?_))) | (with_reducible first | refine wp_ret ?_ | refine l_nil ?_) | ((with_reducible refine g_on ?_); ((with_reducible refine g_as ?_); refine l_p txs rfl rfl ?_)))
      refine end1 rfl rfl ?_
      exact ⟨by rw [sizI_none hsz], H.B⟩
    | some dv =>
      rw [hh] at hD
      simp only at hD
      have hd15 := (hexV_val hh).2
      have hm : hexI x = (dv : Int) := by unfold hexI; rw [hh]
      rw [hm]
      skip
      (with_reducible refine is_l ?_); refine l_t txs rfl rfl (fun hq => absurd hq (by omega)) (fun _ => ?_)
      repeat' (first | (with_reducible first | refine p_tn ?_ | refine w_reg ?_) | (with_reducible (refine is_if ?_; (refine w_iff rfl ?_))) | (with_reducible first | refine wp_skip ?_ | refine l_nil ?_) | ((with_reducible refine g_on ?_); (first | ((with_reducible refine g_mv ?_); refine l_p txs rfl rfl ?_) | ((with_reducible refine g_ix ?_); refine l_ix txs rfl rfl (by first | omega | assumption | decide) (by first | omega | assumption | decide) ?_) | ((with_reducible refine g_bi ?_); (refine l_a txs rfl rfl (by first | exact in_i64 (by omega) (by omega) | exact in_u8 (by omega) (by omega) | exact in_u64 (by omega) (by omega) | exact in_i32 (by omega) (by omega)) ?_)))))
      rw [hat]
      (with_reducible refine is_l ?_); refine l_callv rfl rfl (by kernel_rfl) (rhex_c x hxb _) (fun w_ K => ?_)
      have H := H.call K
      rw [hm]
      repeat' (first | (with_reducible first | refine p_tn ?_ | refine p_bn ?_ | refine w_reg ?_ | refine l_nil ?_) | ((with_reducible refine g_on ?_); (first | ((with_reducible refine g_mv ?_); refine l_p txs rfl rfl ?_) | ((with_reducible refine g_as ?_); refine l_p txs rfl rfl ?_) | ((with_reducible refine g_bi ?_); (refine l_a txs rfl rfl (by first | exact in_i64 (by omega) (by omega) | exact in_u8 (by omega) (by omega) | exact in_u64 (by omega) (by omega) | exact in_i32 (by omega) (by omega)) ?_)))))
      have hval : 16 * (n : Int) + (dv : Int) = ((16 * n + dv : Nat) : Int) := by omega
      rw [hval]
      have hpw : 16 ^ (i + 1) = 16 ^ i * 16 := Nat.pow_succ ..
      exact ⟨(i + 1, 16 * n + dv), _, rfl, ⟨rfl, rfl, rfl, trivial⟩, ⟨H, by show i + 1 ≤ _; omega, by show 16 * n + dv < 16 ^ (i + 1); omega, hD⟩, by show _ - (i + 1) < _ - i; omega⟩
  · have hnil : a.drop i = [] := List.drop_eq_nil_of_le (by omega)
    rw [hnil] at hD
    rw [hD] at hsz
    have hm : sizI s = (n : Int) := by unfold sizI; rw [hsz]; rfl
    repeat' (first | (with_reducible first | refine p_tn ?_ | refine p_tx ?_ | refine x_hit ?_ | refine wp_seq ?_ | refine w_reg ?_) | (with_reducible (refine is_if ?_; (refine w_iff rfl ?_))) | (with_reducible first | refine wp_exit ?_ | refine wp_ret ?_ | refine l_nil ?_) | ((with_reducible refine g_on ?_); (first | ((with_reducible refine g_mv ?_); refine l_p txs rfl rfl ?_) | ((with_reducible refine g_as ?_); refine l_p txs rfl rfl ?_))))
    refine end1 rfl rfl ?_
    exact ⟨by rw [hm], H.B⟩
end Go.Proofs.YthgojbdpmcccaaaGreatDoor.K.Ref
end
section
namespace Go.Proofs.YthgojbdpmcccaaaGreatDoor.K.Ref
open Go.RowKit Go.Proofs.YthgojbdpmcccaaaGreatDoor.Q Go.Proofs.YthgojbdpmcccaaaGreatDoor.Wb Go.Proofs.YthgojbdpmcccaaaGreatDoorW.PrintWords Go.Proofs.YthgojbdpmcccaaaGreatDoor.K
set_option linter.unusedVariables false
set_option linter.unusedSimpArgs false
def outUn (b : L) : L × Nat × Nat := match unchunkS b with | .ok (x, n) => (x, n, 0) | .error k => ([], 0, k)
def UcR (w : World) (b : L) (e : Ending) (w' : World) : Prop := ∃ A c, e = .returned (.tuple #[.slice A (outUn b).1.length c, .int .i64 ((outUn b).2.1 : Int), .int .i64 ((outUn b).2.2 : Int)]) ∧ Hp w w' [] [rowB (.slice A (outUn b).1.length c) (outUn b).1]
theorem endS_err {b : L} {e : Nat} (h : endS b = .error e) : e = 140 ∨ e = 146 := by
  unfold endS at h
  split at h <;> first | (cases h; done) | (injection h with h; omega)
theorem un_err {b : L} {k : Nat} (h : unchS (b.length + 1) [] b = .error k) : outUn b = ([], 0, k) := by unfold outUn unchunkS; rw [h]
theorem un_ok {b x r : L} (h : unchS (b.length + 1) [] b = .ok (x, r)) : outUn b = (x, b.length - r.length, 0) := by unfold outUn unchunkS; rw [h]
set_option maxRecDepth 100000 in
set_option maxHeartbeats 8000000 in
theorem rUnchunk_c {w : World} {B : Option Addr} {c : Nat} {b : L} (h : ReadsInt w .u8 B b.length b) (hb : Bytes b) (hs : b.length ≤ 1000000000000) :
    Calls Tryz.prog 73 #[.slice B b.length c] w (UcR w b) := by
  refine enter (args := [.slice B b.length c]) Tryz.func73 rfl Tryz.ntmps73 rfl ?_
  have hbs := blS hb
  have zb := sizeS' hb
  have H := (Hp.nil w).nilRow 5 1
  repeat' (first | (with_reducible first | refine p_tn ?_ | refine wp_seq ?_ | refine w_reg ?_ | refine l_nil ?_) | ((with_reducible refine g_on ?_); (first | ((with_reducible refine g_mv ?_); refine l_p txs rfl rfl ?_) | ((with_reducible refine g_as ?_); refine l_p txs rfl rfl ?_))))
  (with_reducible refine is_l ?_); refine l_text rfl rfl Tryz.underlying23 Tryz.underlying5 Tryz.underlying9 (h.below H.B) ?_
  repeat' (first | (with_reducible first | refine p_tn ?_ | refine wp_seq ?_ | refine wp_block ?_ | refine w_reg ?_ | refine l_nil ?_) | ((with_reducible refine g_on ?_); ((with_reducible refine g_as ?_); refine l_p txs rfl rfl ?_)))
  refine w_loop (σ := Nat × L × Option Addr × Nat) (S := fun t => [(5, .string (strOfNums b)), (6, .slice t.2.2.1 t.2.1.length t.2.2.2), (7, .int .i64 (t.1 : Int))])
    (J := fun t w' => Hp w w' [] [rowB (.slice t.2.2.1 t.2.1.length t.2.2.2) t.2.1] ∧ t.1 ≤ b.length ∧ t.2.1.length ≤ 1048576 ∧ ∃ f, (b.drop t.1).length < f ∧ unchS (b.length + 1) [] b = unchS f t.2.1 (b.drop t.1)) (μ := fun t => b.length - t.1) (0, [], none, 0) ⟨rfl, rfl, rfl, trivial⟩ ⟨H, Nat.zero_le _, Nat.zero_le _, b.length + 1, by simp, rfl⟩ ?_
  rintro ⟨k, acc, A2, c2⟩ f w_ ⟨H, hk, hac, g, hg, hD⟩
  simp only at H hk hac hg hD ⊢
  obtain ⟨g', rfl⟩ : ∃ m, g = m + 1 := ⟨g - 1, by omega⟩
  rw [unchS_succ g' acc (b.drop k)] at hD
  have hln := rline_c (strOfNums b) k w_ (by omega) (by omega)
  unfold lineV2 at hln
  rw [hbs] at hln
  have hdl := List.length_drop (i := k) (l := b)
  repeat' (first | (with_reducible first | refine wp_seq ?_ | refine wp_block ?_ | refine w_reg ?_) | ((with_reducible refine g_on ?_); ((with_reducible refine g_mv ?_); refine l_p txs rfl rfl ?_)))
  cases hl : lineS (b.drop k) with
  | none =>
    rw [hl] at hln hD
    simp only at hD
    (with_reducible refine is_l ?_); refine l_callv rfl rfl (by kernel_rfl) hln (fun w_ K => ?_)
    have H := H.call K
    repeat' (first | (with_reducible first | refine p_tn ?_ | refine wp_seq ?_ | refine w_reg ?_ | refine l_nil ?_) | ((with_reducible refine g_on ?_); (first | ((with_reducible refine g_mv ?_); refine l_p txs rfl rfl ?_) | ((with_reducible refine g_as ?_); refine l_p txs rfl rfl ?_) | ((with_reducible refine g_ex ?_); refine l_p txs rfl rfl ?_))))
    (with_reducible refine is_l ?_); refine l_t txs rfl rfl (fun _ => ?_) (fun hh => absurd (by decide) hh)
    repeat' (first | (with_reducible first | refine p_tn ?_ | refine wp_seq ?_ | refine w_reg ?_) | (with_reducible (refine is_if ?_; (refine w_ift rfl ?_))) | (with_reducible refine l_nil ?_) | ((with_reducible refine g_on ?_); (first | ((with_reducible refine g_mv ?_); refine l_p txs rfl rfl ?_) | ((with_reducible refine g_cl ?_); refine l_p txs rfl rfl ?_) | ((with_reducible refine g_bi ?_); (refine l_a txs rfl rfl (by first | exact in_i64 (by omega) (by omega) | exact in_u8 (by omega) (by omega) | exact in_u64 (by omega) (by omega) | exact in_i32 (by omega) (by omega)) ?_)))))
    (with_reducible refine is_l ?_); refine l_t txs rfl rfl (fun h2 => ?_) (fun h2 => ?_)
    · rw [if_pos (by omega)] at hD
      have hres := hD
      repeat' (first | (with_reducible first | refine p_tn ?_ | refine p_tr ?_ | refine p_br ?_ | refine wp_seq ?_ | refine w_reg ?_) | (with_reducible (refine is_if ?_; (refine w_ift rfl ?_))) | (with_reducible first | refine wp_ret ?_ | refine l_nil ?_) | ((with_reducible refine g_on ?_); ((with_reducible refine g_as ?_); refine l_p txs rfl rfl ?_)))
      refine end3 rfl rfl rfl rfl ?_
      have ho := un_err hres
      exact ⟨none, 0, by rw [ho]; rfl, by rw [ho]; exact (H.nilRow 5 1).pick [] [0] (by decide) (by decide) rfl rfl⟩
    · rw [if_neg (by omega)] at hD
      have hres := hD
      repeat' (first | (with_reducible first | refine p_tn ?_ | refine p_tr ?_ | refine p_br ?_ | refine wp_seq ?_ | refine w_reg ?_) | (with_reducible (refine is_if ?_; (refine w_iff rfl ?_))) | (with_reducible first | refine wp_skip ?_ | refine wp_ret ?_ | refine l_nil ?_) | ((with_reducible refine g_on ?_); ((with_reducible refine g_as ?_); refine l_p txs rfl rfl ?_)))
      refine end3 rfl rfl rfl rfl ?_
      have ho := un_err hres
      exact ⟨none, 0, by rw [ho]; rfl, by rw [ho]; exact (H.nilRow 5 1).pick [] [0] (by decide) (by decide) rfl rfl⟩
  | some z =>
    obtain ⟨x, r⟩ := z
    rw [hl] at hln hD
    simp only at hD
    have hxb := line_bytes (fun y hy => hb y (List.mem_of_mem_drop hy)) hl
    have hnx := line_next hl
    have hbx := blS hxb.1
    have zx := sizeS' hxb.1
    (with_reducible refine is_l ?_); refine l_callv rfl rfl (by kernel_rfl) hln (fun w_ K => ?_)
    have H := H.call K
    rw [zb]
    repeat' (first | (with_reducible first | refine p_tn ?_ | refine wp_seq ?_ | refine w_reg ?_ | refine l_nil ?_) | ((with_reducible refine g_on ?_); (first | ((with_reducible refine g_mv ?_); refine l_p txs rfl rfl ?_) | ((with_reducible refine g_as ?_); refine l_p txs rfl rfl ?_) | ((with_reducible refine g_ex ?_); refine l_p txs rfl rfl ?_))))
    (with_reducible refine is_l ?_); refine l_t txs rfl rfl (fun hh => absurd hh (by omega)) (fun _ => ?_)
    repeat' (first | (with_reducible first | refine p_tn ?_ | refine wp_seq ?_ | refine w_reg ?_) | (with_reducible (refine is_if ?_; (refine w_iff rfl ?_))) | (with_reducible first | refine wp_skip ?_ | refine l_nil ?_) | ((with_reducible refine g_on ?_); ((with_reducible refine g_mv ?_); refine l_p txs rfl rfl ?_)))
    have hcl := rchunkLine_c (strOfNums x) w_ (by omega)
    cases hn : sizeS x with
    | none =>
      rw [hn] at hD
      have hm : sizI (strOfNums x) = -1 := by unfold sizI; rw [hbx, hn]
      rw [hm] at hcl
      have hres := hD
      (with_reducible refine is_l ?_); refine l_callv rfl rfl (by kernel_rfl) hcl (fun w_ K => ?_)
      have H := H.call K
      repeat' (first | (with_reducible first | refine p_tn ?_ | refine wp_seq ?_ | refine w_reg ?_ | refine l_nil ?_) | ((with_reducible refine g_on ?_); (first | ((with_reducible refine g_mv ?_); refine l_p txs rfl rfl ?_) | ((with_reducible refine g_as ?_); refine l_p txs rfl rfl ?_))))
      (with_reducible refine is_l ?_); refine l_t txs rfl rfl (fun _ => ?_) (fun hh => absurd (by decide) hh)
      repeat' (first | (with_reducible first | refine p_tn ?_ | refine p_tr ?_ | refine p_br ?_ | refine wp_seq ?_ | refine w_reg ?_) | (with_reducible (refine is_if ?_; (refine w_ift rfl ?_))) | (with_reducible first | refine wp_ret ?_ | refine l_nil ?_) | ((with_reducible refine g_on ?_); ((with_reducible refine g_as ?_); refine l_p txs rfl rfl ?_)))
      refine end3 rfl rfl rfl rfl ?_
      have ho := un_err hres
      exact ⟨none, 0, by rw [ho]; rfl, by rw [ho]; exact (H.nilRow 5 1).pick [] [0] (by decide) (by decide) rfl rfl⟩
    | some n =>
      rw [hn] at hD
      simp only at hD
      have hm : sizI (strOfNums x) = (n : Int) := by unfold sizI; rw [hbx, hn]
      rw [hm] at hcl
      have hn32 := size_lt hn
      (with_reducible refine is_l ?_); refine l_callv rfl rfl (by kernel_rfl) hcl (fun w_ K => ?_)
      have H := H.call K
      repeat' (first | (with_reducible first | refine p_tn ?_ | refine wp_seq ?_ | refine w_reg ?_ | refine l_nil ?_) | ((with_reducible refine g_on ?_); (first | ((with_reducible refine g_mv ?_); refine l_p txs rfl rfl ?_) | ((with_reducible refine g_as ?_); refine l_p txs rfl rfl ?_))))
      (with_reducible refine is_l ?_); refine l_t txs rfl rfl (fun hh => absurd hh (by omega)) (fun _ => ?_)
      repeat' (first | (with_reducible first | refine p_tn ?_ | refine wp_seq ?_ | refine w_reg ?_) | (with_reducible (refine is_if ?_; (refine w_iff rfl ?_))) | (with_reducible first | refine wp_skip ?_ | refine l_nil ?_) | ((with_reducible refine g_on ?_); (first | ((with_reducible refine g_mv ?_); refine l_p txs rfl rfl ?_) | ((with_reducible refine g_cl ?_); refine l_p txs rfl rfl ?_) | ((with_reducible refine g_bi ?_); (refine l_a txs rfl rfl (by first | exact in_i64 (by omega) (by omega) | exact in_u8 (by omega) (by omega) | exact in_u64 (by omega) (by omega) | exact in_i32 (by omega) (by omega)) ?_)))))
      (with_reducible refine is_l ?_); refine l_t txs rfl rfl (fun h3 => ?_) (fun h3 => ?_)
      · rw [if_pos (by omega)] at hD
        have hres := hD
        repeat' (first | (with_reducible first | refine p_tn ?_ | refine p_tr ?_ | refine p_br ?_ | refine wp_seq ?_ | refine w_reg ?_) | (with_reducible (refine is_if ?_; (refine w_ift rfl ?_))) | (with_reducible first | refine wp_ret ?_ | refine l_nil ?_) | ((with_reducible refine g_on ?_); ((with_reducible refine g_as ?_); refine l_p txs rfl rfl ?_)))
        refine end3 rfl rfl rfl rfl ?_
        have ho := un_err hres
        exact ⟨none, 0, by rw [ho]; rfl, by rw [ho]; exact (H.nilRow 5 1).pick [] [0] (by decide) (by decide) rfl rfl⟩
      rw [if_neg (by omega)] at hD
      repeat' (first | (with_reducible first | refine p_tn ?_ | refine wp_seq ?_ | refine w_reg ?_) | (with_reducible (refine is_if ?_; (refine w_iff rfl ?_))) | (with_reducible first | refine wp_skip ?_ | refine l_nil ?_) | ((with_reducible refine g_on ?_); (first | ((with_reducible refine g_mv ?_); refine l_p txs rfl rfl ?_) | ((with_reducible refine g_cl ?_); refine l_p txs rfl rfl ?_) | ((with_reducible refine g_bi ?_); (refine l_a txs rfl rfl (by first | exact in_i64 (by omega) (by omega) | exact in_u8 (by omega) (by omega) | exact in_u64 (by omega) (by omega) | exact in_i32 (by omega) (by omega)) ?_)))))
      (with_reducible refine is_l ?_); refine l_t txs rfl rfl (fun h4 => ?_) (fun h4 => ?_)
      · rw [if_pos (by omega)] at hD
        have hres := hD
        repeat' (first | (with_reducible first | refine p_tn ?_ | refine p_tr ?_ | refine p_br ?_ | refine wp_seq ?_ | refine w_reg ?_) | (with_reducible (refine is_if ?_; (refine w_ift rfl ?_))) | (with_reducible first | refine wp_ret ?_ | refine l_nil ?_) | ((with_reducible refine g_on ?_); ((with_reducible refine g_as ?_); refine l_p txs rfl rfl ?_)))
        refine end3 rfl rfl rfl rfl ?_
        have ho := un_err hres
        exact ⟨none, 0, by rw [ho]; rfl, by rw [ho]; exact (H.nilRow 5 1).pick [] [0] (by decide) (by decide) rfl rfl⟩
      rw [if_neg (by omega)] at hD
      have hnr : n ≤ r.length := by omega
      repeat' (first | (with_reducible first | refine p_tn ?_ | refine wp_seq ?_ | refine w_reg ?_) | (with_reducible (refine is_if ?_; (refine w_iff rfl ?_))) | (with_reducible first | refine wp_skip ?_ | refine l_nil ?_) | ((with_reducible refine g_on ?_); (first | ((with_reducible refine g_mv ?_); refine l_p txs rfl rfl ?_) | ((with_reducible refine g_sl ?_); refine l_sl txs rfl rfl (by first | omega | assumption | decide) (by first | omega | assumption | decide) (by first | omega | assumption | decide) ?_) | ((with_reducible refine g_bi ?_); (refine l_a txs rfl rfl (by first | exact in_i64 (by omega) (by omega) | exact in_u8 (by omega) (by omega) | exact in_u64 (by omega) (by omega) | exact in_i32 (by omega) (by omega)) ?_)))))
      have hkn : ((b.length - r.length : Nat) : Int) + (n : Int) = ((b.length - r.length + n : Nat) : Int) := by omega
      rw [hkn]
      have hext : bl ((strOfNums b).extract (((b.length - r.length : Nat) : Int)).toNat (((b.length - r.length + n : Nat) : Int)).toNat) = r.take n := by rw [Int.toNat_natCast, Int.toNat_natCast, blE, hbs, ← hnx.1, show b.length - r.length + n - (b.length - r.length) = n by omega]
      have hes : ((strOfNums b).extract (((b.length - r.length : Nat) : Int)).toNat (((b.length - r.length + n : Nat) : Int)).toNat).size = n := by rw [← bl_length, hext, List.length_take]; omega
      have htk : (r.take n).length = n := by rw [List.length_take]; omega
      have hacl : (acc ++ r.take n).length = acc.length + n := by rw [List.length_append, htk]
      (with_reducible refine is_l ?_); refine h_appS H 0 info_u8 Tryz.underlying23 Tryz.underlying9 rfl rfl rfl (by rw [hes]; omega) (fun v w_ hv H => ?_)
      obtain ⟨D, dd, rfl⟩ := hv
      have H := H.pick [] [0] (by decide) (by decide) rfl rfl
      rw [hext] at H ⊢
      repeat' (first | (with_reducible first | refine p_tn ?_ | refine wp_seq ?_ | refine w_reg ?_ | refine l_nil ?_) | ((with_reducible refine g_on ?_); (first | ((with_reducible refine g_mv ?_); refine l_p txs rfl rfl ?_) | ((with_reducible refine g_as ?_); refine l_p txs rfl rfl ?_) | ((with_reducible refine g_bi ?_); (refine l_a txs rfl rfl (by first | exact in_i64 (by omega) (by omega) | exact in_u8 (by omega) (by omega) | exact in_u64 (by omega) (by omega) | exact in_i32 (by omega) (by omega)) ?_)))))
      rw [hkn]
      have hen := rend_c (strOfNums b) (b.length - r.length + n) w_ (by omega) (by omega)
      have hdn : b.drop (b.length - r.length + n) = r.drop n := by rw [← List.drop_drop, ← hnx.1]
      cases he : endS (r.drop n) with
      | error e =>
        rw [he] at hD
        simp only at hD
        have hres := hD
        have hmI : endI (strOfNums b) (b.length - r.length + n) = if e = 140 then -2 else -1 := by unfold endI; rw [hbs, hdn, he]
        rcases endS_err he with e1 | e1
        · rw [hmI, if_pos e1] at hen
          subst e1
          (with_reducible refine is_l ?_); refine l_callv rfl rfl (by kernel_rfl) hen (fun w_ K => ?_)
          have H := H.call K
          repeat' (first | (with_reducible first | refine p_tn ?_ | refine wp_seq ?_ | refine w_reg ?_ | refine l_nil ?_) | ((with_reducible refine g_on ?_); (first | ((with_reducible refine g_mv ?_); refine l_p txs rfl rfl ?_) | ((with_reducible refine g_as ?_); refine l_p txs rfl rfl ?_))))
          (with_reducible refine is_l ?_); refine l_t txs rfl rfl (fun _ => ?_) (fun hh => absurd rfl hh)
          repeat' (first | (with_reducible first | refine p_tn ?_ | refine p_tr ?_ | refine p_br ?_ | refine wp_seq ?_ | refine w_reg ?_) | (with_reducible (refine is_if ?_; (refine w_ift rfl ?_))) | (with_reducible first | refine wp_ret ?_ | refine l_nil ?_) | ((with_reducible refine g_on ?_); ((with_reducible refine g_as ?_); refine l_p txs rfl rfl ?_)))
          refine end3 rfl rfl rfl rfl ?_
          have ho := un_err hres
          exact ⟨none, 0, by rw [ho]; rfl, by rw [ho]; exact (H.nilRow 5 1).pick [] [0] (by decide) (by decide) rfl rfl⟩
        · rw [hmI, if_neg (by omega)] at hen
          subst e1
          (with_reducible refine is_l ?_); refine l_callv rfl rfl (by kernel_rfl) hen (fun w_ K => ?_)
          have H := H.call K
          repeat' (first | (with_reducible first | refine p_tn ?_ | refine wp_seq ?_ | refine w_reg ?_ | refine l_nil ?_) | ((with_reducible refine g_on ?_); (first | ((with_reducible refine g_mv ?_); refine l_p txs rfl rfl ?_) | ((with_reducible refine g_as ?_); refine l_p txs rfl rfl ?_))))
          (with_reducible refine is_l ?_); refine l_t txs rfl rfl (fun hh => absurd hh (by decide)) (fun _ => ?_)
          repeat' (first | (with_reducible first | refine p_tn ?_ | refine wp_seq ?_ | refine w_reg ?_) | (with_reducible (refine is_if ?_; (refine w_iff rfl ?_))) | (with_reducible first | refine wp_skip ?_ | refine l_nil ?_) | ((with_reducible refine g_on ?_); ((with_reducible refine g_mv ?_); refine l_p txs rfl rfl ?_)))
          (with_reducible refine is_l ?_); refine l_t txs rfl rfl (fun _ => ?_) (fun hh => absurd (by decide) hh)
          repeat' (first | (with_reducible first | refine p_tn ?_ | refine p_tr ?_ | refine p_br ?_ | refine wp_seq ?_ | refine w_reg ?_) | (with_reducible (refine is_if ?_; (refine w_ift rfl ?_))) | (with_reducible first | refine wp_ret ?_ | refine l_nil ?_) | ((with_reducible refine g_on ?_); ((with_reducible refine g_as ?_); refine l_p txs rfl rfl ?_)))
          refine end3 rfl rfl rfl rfl ?_
          have ho := un_err hres
          exact ⟨none, 0, by rw [ho]; rfl, by rw [ho]; exact (H.nilRow 5 1).pick [] [0] (by decide) (by decide) rfl rfl⟩
      | ok r2 =>
        rw [he] at hD
        simp only at hD
        have hmI : endI (strOfNums b) (b.length - r.length + n) = ((b.length - r2.length : Nat) : Int) := by unfold endI; rw [hbs, hdn, he, zb]
        rw [hmI] at hen
        obtain ⟨hr2, p, hp⟩ := (endS_app [] he).2
        rw [List.length_drop] at hr2
        have hsuf : b.drop (b.length - r2.length) = r2 := by
          have h1 : b.drop (b.length - r.length + n) = p ++ r2 := by rw [hdn, hp]
          have h2 := congrArg List.length h1
          rw [List.length_drop, List.length_append] at h2
          rw [show b.length - r2.length = (b.length - r.length + n) + p.length by omega, ← List.drop_drop, h1, List.drop_left]
        (with_reducible refine is_l ?_); refine l_callv rfl rfl (by kernel_rfl) hen (fun w_ K => ?_)
        have H := H.call K
        repeat' (first | (with_reducible first | refine p_tn ?_ | refine wp_seq ?_ | refine w_reg ?_ | refine l_nil ?_) | ((with_reducible refine g_on ?_); (first | ((with_reducible refine g_mv ?_); refine l_p txs rfl rfl ?_) | ((with_reducible refine g_as ?_); refine l_p txs rfl rfl ?_))))
        (with_reducible refine is_l ?_); refine l_t txs rfl rfl (fun hh => absurd hh (by omega)) (fun _ => ?_)
        repeat' (first | (with_reducible first | refine p_tn ?_ | refine wp_seq ?_ | refine w_reg ?_) | (with_reducible (refine is_if ?_; (refine w_iff rfl ?_))) | (with_reducible first | refine wp_skip ?_ | refine l_nil ?_) | ((with_reducible refine g_on ?_); ((with_reducible refine g_mv ?_); refine l_p txs rfl rfl ?_)))
        (with_reducible refine is_l ?_); refine l_t txs rfl rfl (fun hh => absurd hh (by omega)) (fun _ => ?_)
        repeat' (first | (with_reducible first | refine p_tn ?_ | refine wp_seq ?_ | refine w_reg ?_) | (with_reducible (refine is_if ?_; (refine w_iff rfl ?_))) | (with_reducible first | refine wp_skip ?_ | refine l_nil ?_) | ((with_reducible refine g_on ?_); ((with_reducible refine g_mv ?_); refine l_p txs rfl rfl ?_)))
        (with_reducible refine is_l ?_); refine l_t txs rfl rfl (fun h5 => ?_) (fun h5 => ?_)
        · rw [if_pos (by omega)] at hD
          have hn0 : n = 0 := by omega
          have ho := un_ok hD
          have ha0 : acc ++ r.take n = acc := by rw [hn0]; simp
          rw [ha0] at H ⊢
          repeat' (first | (with_reducible first | refine p_tn ?_ | refine p_tr ?_ | refine p_br ?_ | refine wp_seq ?_ | refine w_reg ?_) | (with_reducible (refine is_if ?_; (refine w_ift rfl ?_))) | (with_reducible first | refine wp_ret ?_ | refine l_nil ?_) | ((with_reducible refine g_on ?_); (first | ((with_reducible refine g_mv ?_); refine l_p txs rfl rfl ?_) | ((with_reducible refine g_as ?_); refine l_p txs rfl rfl ?_))))
          refine end3 rfl rfl rfl rfl ?_
          exact ⟨D, dd, by rw [ho]; rfl, by rw [ho]; exact H⟩
        · rw [if_neg (by omega)] at hD
          repeat' (first | (with_reducible first | refine p_tn ?_ | refine p_bn ?_) | (with_reducible (refine is_if ?_; (refine w_iff rfl ?_))) | (with_reducible first | refine wp_skip ?_ | refine l_nil ?_))
          exact ⟨(b.length - r2.length, acc ++ r.take n, D, dd), _, rfl, ⟨rfl, rfl, rfl, trivial⟩, ⟨H, by show b.length - r2.length ≤ _; omega, by show (acc ++ r.take n).length ≤ _; rw [hacl]; omega, g', by show (b.drop (b.length - r2.length)).length < _; rw [hsuf]; omega, by show _ = unchS g' (acc ++ r.take n) (b.drop (b.length - r2.length)); rw [hsuf]; exact hD⟩, by show b.length - (b.length - r2.length) < b.length - k; omega⟩
end Go.Proofs.YthgojbdpmcccaaaGreatDoor.K.Ref
end
section
namespace Go.Proofs.YthgojbdpmcccaaaGreatDoor.K.Ref
open Go.RowKit Go.Proofs.YthgojbdpmcccaaaGreatDoor.Q Go.Proofs.YthgojbdpmcccaaaGreatDoor.Wb Go.Proofs.YthgojbdpmcccaaaGreatDoorW.PrintWords Go.Proofs.YthgojbdpmcccaaaGreatDoor.K
set_option linter.unusedVariables false
set_option linter.unusedSimpArgs false
def verI (s : L) : Int × Int := match versS s with | some p => p | none => (-1, -1)
theorem verI_none {s : L} (h : versS s = none) : verI s = (-1, -1) := by unfold verI; rw [h]
theorem verI_some {s : L} {p : Int × Int} (h : versS s = some p) : verI s = p := by unfold verI; rw [h]
set_option maxHeartbeats 4000000 in
theorem rversion_c (s : ByteArray) (w : World) : Calls Tryz.prog 126 #[.string s] w fun e w' => e = .returned (.tuple #[.int .i64 (verI (bl s)).1, .int .i64 (verI (bl s)).2]) ∧ Below w.heap.size w w' := by
  have hlen := bl_length s
  refine enter (args := [.string s]) Tryz.func126 rfl Tryz.ntmps126 rfl ?_
  have H := Hp.nil w
  repeat' (first | (with_reducible first | refine p_tn ?_ | refine wp_seq ?_ | refine w_reg ?_ | refine l_nil ?_) | ((with_reducible refine g_on ?_); (first | ((with_reducible refine g_mv ?_); refine l_p txs rfl rfl ?_) | ((with_reducible refine g_as ?_); refine l_p txs rfl rfl ?_) | ((with_reducible refine g_cl ?_); refine l_p txs rfl rfl ?_))))
  (with_reducible refine is_l ?_); refine l_t txs rfl rfl (fun h => ?_) (fun h => ?_)
  · have hn : versS (bl s) = none := by
      unfold versS
      split
      · rename_i x y heq
        rw [heq] at hlen
        simp at hlen
        omega
      · rfl
    repeat' (first | (with_reducible first | refine p_tn ?_ | refine p_tr ?_ | refine wp_seq ?_ | refine w_reg ?_) | (with_reducible (refine is_if ?_; (refine w_ift rfl ?_))) | (with_reducible first | refine wp_ret ?_ | refine l_nil ?_) | ((with_reducible refine g_on ?_); (first | ((with_reducible refine g_mv ?_); refine l_p txs rfl rfl ?_) | ((with_reducible refine g_as ?_); refine l_p txs rfl rfl ?_) | ((with_reducible refine g_pk ?_); refine l_p txs rfl rfl ?_))) | ((with_reducible refine g_if ?_); (refine l_off rfl ?_)))
    refine end2 rfl rfl rfl ?_
    exact ⟨by rw [verI_none hn], H.B⟩
  have h8 : s.size = 8 := by omega
  obtain ⟨a, b, c, d, e, g, i, j, hb⟩ := eight (l := bl s) (by omega)
  have a5 : at_ (bl s) 5 = g := by rw [hb]; rfl
  have a6 : at_ (bl s) 6 = i := by rw [hb]; rfl
  have a7 : at_ (bl s) 7 = j := by rw [hb]; rfl
  have hx : bl (s.extract (0 : Int).toNat (5 : Int).toNat) = [a, b, c, d, e] := by rw [blE, hb]; rfl
  have hy : bl ⟨#[72, 84, 84, 80, 47]⟩ = [72, 84, 84, 80, 47] := rfl
  repeat' (first | ((with_reducible refine g_on ?_); ((with_reducible refine g_mv ?_); refine l_p txs rfl rfl ?_)) | ((with_reducible refine g_if ?_); (first | ((with_reducible refine g_mv ?_); refine l_p txs rfl rfl ?_) | ((with_reducible refine g_sl ?_); refine l_sl txs rfl rfl (by first | omega | assumption | decide) (by first | omega | assumption | decide) (by first | omega | assumption | decide) ?_))))
  (with_reducible refine is_l ?_); refine l_t txs rfl rfl (fun h1 => ?_) (fun h1 => ?_)
  · have hn : versS (bl s) = none := by
      rw [hb]
      exact vers_none (fun hh => h1 (by rw [hx, hy]; exact hh.1))
    repeat' (first | (with_reducible first | refine p_tn ?_ | refine p_tr ?_ | refine wp_seq ?_ | refine w_reg ?_) | (with_reducible (refine is_if ?_; (refine w_ift rfl ?_))) | (with_reducible first | refine wp_ret ?_ | refine l_nil ?_) | ((with_reducible refine g_on ?_); (first | ((with_reducible refine g_mv ?_); refine l_p txs rfl rfl ?_) | ((with_reducible refine g_as ?_); refine l_p txs rfl rfl ?_) | ((with_reducible refine g_pk ?_); refine l_p txs rfl rfl ?_))) | ((with_reducible refine g_if ?_); (refine l_off rfl ?_)))
    refine end2 rfl rfl rfl ?_
    exact ⟨by rw [verI_none hn], H.B⟩
  have h1' : [a, b, c, d, e] = [72, 84, 84, 80, 47] := by
    have := Classical.not_not.1 h1
    rw [hx, hy] at this
    exact this
  repeat' (first | ((with_reducible refine g_on ?_); (first | ((with_reducible refine g_mv ?_); refine l_p txs rfl rfl ?_) | ((with_reducible refine g_pk ?_); refine l_p txs rfl rfl ?_))) | ((with_reducible refine g_if ?_); (first | ((with_reducible refine g_mv ?_); refine l_p txs rfl rfl ?_) | ((with_reducible refine g_ix ?_); refine l_ix txs rfl rfl (by first | omega | assumption | decide) (by first | omega | assumption | decide) ?_))))
  rw [a5]
  (with_reducible refine is_l ?_); refine l_callv rfl rfl (by kernel_rfl) (rdigit_c g _) (fun w_ K => ?_)
  have H := H.call K
  cases hg : digB g
  · have hn : versS (bl s) = none := by
      rw [hb]
      exact vers_none (fun hh => by rw [hg] at hh; exact absurd hh.2.1 (by simp))
    repeat' (first | (with_reducible first | refine p_tn ?_ | refine p_tr ?_ | refine wp_seq ?_ | refine w_reg ?_) | (with_reducible (refine is_if ?_; (refine w_ift rfl ?_))) | (with_reducible first | refine wp_ret ?_ | refine l_nil ?_) | ((with_reducible refine g_on ?_); (first | ((with_reducible refine g_mv ?_); refine l_p txs rfl rfl ?_) | ((with_reducible refine g_as ?_); refine l_p txs rfl rfl ?_) | ((with_reducible refine g_pk ?_); refine l_p txs rfl rfl ?_))) | ((with_reducible refine g_if ?_); (first | (refine l_off rfl ?_) | ((with_reducible refine g_un ?_); (refine l_p txs rfl rfl ?_)))))
    refine end2 rfl rfl rfl ?_
    exact ⟨by rw [verI_none hn], H.B⟩
  repeat' (first | ((with_reducible refine g_on ?_); (first | ((with_reducible refine g_mv ?_); refine l_p txs rfl rfl ?_) | ((with_reducible refine g_pk ?_); refine l_p txs rfl rfl ?_))) | ((with_reducible refine g_if ?_); (first | ((with_reducible refine g_mv ?_); refine l_p txs rfl rfl ?_) | ((with_reducible refine g_un ?_); (refine l_p txs rfl rfl ?_)) | ((with_reducible refine g_ix ?_); refine l_ix txs rfl rfl (by first | omega | assumption | decide) (by first | omega | assumption | decide) ?_))))
  rw [a6]
  (with_reducible refine is_l ?_); refine l_t txs rfl rfl (fun h2 => ?_) (fun h2 => ?_)
  · have hn : versS (bl s) = none := by
      rw [hb]
      exact vers_none (fun hh => h2 hh.2.2.1)
    repeat' (first | (with_reducible first | refine p_tn ?_ | refine p_tr ?_ | refine wp_seq ?_ | refine w_reg ?_) | (with_reducible (refine is_if ?_; (refine w_ift rfl ?_))) | (with_reducible first | refine wp_ret ?_ | refine l_nil ?_) | ((with_reducible refine g_on ?_); (first | ((with_reducible refine g_mv ?_); refine l_p txs rfl rfl ?_) | ((with_reducible refine g_as ?_); refine l_p txs rfl rfl ?_) | ((with_reducible refine g_pk ?_); refine l_p txs rfl rfl ?_))) | ((with_reducible refine g_if ?_); (refine l_off rfl ?_)))
    refine end2 rfl rfl rfl ?_
    exact ⟨by rw [verI_none hn], H.B⟩
  repeat' (first | ((with_reducible refine g_on ?_); (first | ((with_reducible refine g_mv ?_); refine l_p txs rfl rfl ?_) | ((with_reducible refine g_pk ?_); refine l_p txs rfl rfl ?_))) | ((with_reducible refine g_if ?_); (first | ((with_reducible refine g_mv ?_); refine l_p txs rfl rfl ?_) | ((with_reducible refine g_ix ?_); refine l_ix txs rfl rfl (by first | omega | assumption | decide) (by first | omega | assumption | decide) ?_))))
  rw [a7]
  (with_reducible refine is_l ?_); refine l_callv rfl rfl (by kernel_rfl) (rdigit_c j _) (fun w_ K => ?_)
  have H := H.call K
  cases hj : digB j
  · have hn : versS (bl s) = none := by
      rw [hb]
      exact vers_none (fun hh => by rw [hj] at hh; exact absurd hh.2.2.2 (by simp))
    repeat' (first | (with_reducible first | refine p_tn ?_ | refine p_tr ?_ | refine wp_seq ?_ | refine w_reg ?_) | (with_reducible (refine is_if ?_; (refine w_ift rfl ?_))) | (with_reducible first | refine wp_ret ?_ | refine l_nil ?_) | ((with_reducible refine g_on ?_); (first | ((with_reducible refine g_as ?_); refine l_p txs rfl rfl ?_) | ((with_reducible refine g_pk ?_); refine l_p txs rfl rfl ?_))) | ((with_reducible refine g_if ?_); ((with_reducible refine g_un ?_); (refine l_p txs rfl rfl ?_))))
    refine end2 rfl rfl rfl ?_
    exact ⟨by rw [verI_none hn], H.B⟩
  have hv : versS (bl s) = some (g - 48, j - 48) := by
    have h2' := Classical.not_not.1 h2
    simp only [List.cons.injEq, and_true] at h1'
    obtain ⟨rfl, rfl, rfl, rfl, rfl⟩ := h1'
    rw [hb, h2']
    simp [versS, hg, hj]
  have rg : 48 ≤ at_ (bl s) 5 ∧ at_ (bl s) 5 ≤ 57 := by rw [a5]; unfold digB at hg; simpa using hg
  have rj : 48 ≤ at_ (bl s) 7 ∧ at_ (bl s) 7 ≤ 57 := by rw [a7]; unfold digB at hj; simpa using hj
  repeat' (first | (with_reducible first | refine p_tn ?_ | refine wp_seq ?_) | (with_reducible (refine is_if ?_; (refine w_iff rfl ?_))) | (with_reducible first | refine wp_skip ?_ | refine l_nil ?_) | ((with_reducible refine g_on ?_); ((with_reducible refine g_pk ?_); refine l_p txs rfl rfl ?_)) | ((with_reducible refine g_if ?_); ((with_reducible refine g_un ?_); (refine l_p txs rfl rfl ?_))))
  have HS := H.pick [] [] (by decide) (by decide) rfl rfl
  refine d_start (fun w_ => Hp w w_ _ _) #[false, false, false, false, false, false, false, false, false, false] (by kernel_rfl) rfl rfl HS.drew ?_
  have H := H.drew
  have HS := HS.drew
  first | (refine d_pure (i := 0) #[true, false, false, false, false, false, false, false, false, false] rfl (by kernel_rfl) (fun _ _ _ h => h) rfl (fun w_ => evP_run (o := ⟨_, _, _, _, _, _⟩) txs rfl) ?_)
  first | (refine d_pure (i := 1) #[true, true, false, false, false, false, false, false, false, false] rfl (by kernel_rfl) (fun _ _ _ h => h) rfl (fun w_ => evI_run (o := ⟨_, _, _, _, _, _⟩) txs rfl (by omega) (by omega)) ?_)
  first | (refine d_pure (i := 2) #[true, true, true, false, false, false, false, false, false, false] rfl (by kernel_rfl) (fun _ _ _ h => h) rfl (fun w_ => evP_run (o := ⟨_, _, _, _, _, _⟩) txs rfl) ?_) | (refine d_pure (i := 2) #[true, true, true, false, false, false, false, false, false, false] rfl (by kernel_rfl) (fun _ _ _ h => h) rfl (fun w_ => (evA_run (o := ⟨_, _, _, _, _, _⟩) txs rfl).trans (by rw [wrap_in (by first | exact in_i64 (by omega) (by omega) | exact in_u8 (by omega) (by omega) | exact in_u64 (by omega) (by omega) | exact in_i32 (by omega) (by omega))])) ?_)
  first | (refine d_pure (i := 3) #[true, true, true, true, false, false, false, false, false, false] rfl (by kernel_rfl) (fun _ _ _ h => h) rfl (fun w_ => evP_run (o := ⟨_, _, _, _, _, _⟩) txs rfl) ?_) | (refine d_pure (i := 3) #[true, true, true, true, false, false, false, false, false, false] rfl (by kernel_rfl) (fun _ _ _ h => h) rfl (fun w_ => (evA_run (o := ⟨_, _, _, _, _, _⟩) txs rfl).trans (by rw [wrap_in (by first | exact in_i64 (by omega) (by omega) | exact in_u8 (by omega) (by omega) | exact in_u64 (by omega) (by omega) | exact in_i32 (by omega) (by omega))])) ?_)
  first | (refine d_pure (i := 4) #[true, true, true, true, true, false, false, false, false, false] rfl (by kernel_rfl) (fun _ _ _ h => h) rfl (fun w_ => evP_run (o := ⟨_, _, _, _, _, _⟩) txs rfl) ?_)
  first | (refine d_pure (i := 5) #[true, true, true, true, true, true, false, false, false, false] rfl (by kernel_rfl) (fun _ _ _ h => h) rfl (fun w_ => evI_run (o := ⟨_, _, _, _, _, _⟩) txs rfl (by omega) (by omega)) ?_)
  first | (refine d_pure (i := 6) #[true, true, true, true, true, true, true, false, false, false] rfl (by kernel_rfl) (fun _ _ _ h => h) rfl (fun w_ => evP_run (o := ⟨_, _, _, _, _, _⟩) txs rfl) ?_) | (refine d_pure (i := 6) #[true, true, true, true, true, true, true, false, false, false] rfl (by kernel_rfl) (fun _ _ _ h => h) rfl (fun w_ => (evA_run (o := ⟨_, _, _, _, _, _⟩) txs rfl).trans (by rw [wrap_in (by first | exact in_i64 (by omega) (by omega) | exact in_u8 (by omega) (by omega) | exact in_u64 (by omega) (by omega) | exact in_i32 (by omega) (by omega))])) ?_)
  first | (refine d_pure (i := 7) #[true, true, true, true, true, true, true, true, false, false] rfl (by kernel_rfl) (fun _ _ _ h => h) rfl (fun w_ => evP_run (o := ⟨_, _, _, _, _, _⟩) txs rfl) ?_) | (refine d_pure (i := 7) #[true, true, true, true, true, true, true, true, false, false] rfl (by kernel_rfl) (fun _ _ _ h => h) rfl (fun w_ => (evA_run (o := ⟨_, _, _, _, _, _⟩) txs rfl).trans (by rw [wrap_in (by first | exact in_i64 (by omega) (by omega) | exact in_u8 (by omega) (by omega) | exact in_u64 (by omega) (by omega) | exact in_i32 (by omega) (by omega))])) ?_)
  first | (refine d_pure (i := 8) #[true, true, true, true, true, true, true, true, true, false] rfl (by kernel_rfl) (fun _ _ _ h => h) rfl (fun w_ => evP_run (o := ⟨_, _, _, _, _, _⟩) txs rfl) ?_)
  first | (refine d_pure (i := 9) #[true, true, true, true, true, true, true, true, true, true] rfl (by kernel_rfl) (fun _ _ _ h => h) rfl (fun w_ => evP_run (o := ⟨_, _, _, _, _, _⟩) txs rfl) ?_)
  refine d_done rfl ?_
  repeat' (with_reducible first | refine p_tn ?_ | refine wp_ret ?_)
  refine end2 rfl rfl rfl ?_
  exact ⟨by rw [verI_some hv, a5, a7], H.B⟩
/-- A text's bytes, in a block of their own: what it is for readers. -/
theorem h_tob {n : Nat} {ops : Array Oper} {Q : Exit → Act → World → Prop} {rest : List Oper} {f : Fr} {w0 w : World} {l : List Ent} {r : List RowD} (H : Hp w0 w l r) {d : Option Nat} {tt : TypeId} {ps : String} {af : Array Edge} {gd : Option (Nat × Bool)} {x : Operand} {s : ByteArray}
    (hw : want n ops f ⟨d, .convert 9 23 x, tt, ps, af, gd⟩ = true) (hx : nf (X n f x) = some (.string s)) (hs : s.size ≤ 1000000000)
    (h : ∀ g c w', Hp w0 w' l r → ReadsInt w' .u8 (some ⟨g, 0, none⟩) (bl s).length (bl s) → (bl s).length ≤ c → w0.heap.size ≤ g → WL Tryz.prog ops Q rest (act n (put f d (.slice (some ⟨g, 0, none⟩) (bl s).length c))) w') : WL Tryz.prog ops Q (⟨d, .convert 9 23 x, tt, ps, af, gd⟩ :: rest) (act n f) w := by
  have hlen := bl_length s
  have hge := grownCap_ge w s.size 0 5
  refine l_cvb Tryz.underlying9 Tryz.underlying23 Tryz.underlying5 hw hx ?_
  have K : Below w.heap.size w (Lib.bytesWorld w 5 s) := bytes_below (Below.refl _ w) (Nat.le_refl _) _ s
  have hr : ReadsInt (Lib.bytesWorld w 5 s) .u8 (some ⟨w.heap.size, 0, none⟩) (bl s).length (bl s) := by
    refine reads_of_rd ⟨fun e => (by cases e), fun ad e i v hv => ?_⟩ (by omega)
    cases e
    have hi : i < s.size := by have := (List.getElem?_eq_some_iff.1 hv).1; simp [nums] at this; omega
    rw [add_lit, Nat.zero_add, Lib.bytesWorld_cell w 5 s i hi, ← hv]
    have h2 : i < s.data.toList.length := by simpa using hi
    simp [nums, bl, List.getD_eq_getElem?_getD, List.getElem?_eq_getElem h2]
  have h3 := h _ _ _ (H.call K) hr (show _ ≤ grownCap w s.size 0 5 by omega) H.B.size
  rw [hlen] at h3
  exact h3
def frI : Wb.Frame → Int
  | .none => 0
  | .chunks => -2
  | .len n => (n : Int)
/-- What body ends in. -/
def BoR (w : World) (rest : L) (fr : Wb.Frame) (e : Ending) (w' : World) : Prop := match bodyS rest fr with
  | .error k => ∃ (A : Option Addr) (m c : Nat) (n : Int), e = .returned (.tuple #[.slice A m c, .int .i64 n, .int .i64 (k : Int)]) ∧ Below w.heap.size w w'
  | .ok (b, k) => ∃ A c, e = .returned (.tuple #[.slice A b.length c, .int .i64 (k : Int), .int .i64 0]) ∧ Below w.heap.size w w' ∧ ReadsInt w' .u8 A b.length b ∧ ∀ ad, A = some ad → w.heap.size ≤ ad.block
theorem bo_err {w w' : World} {rest : L} {fr : Wb.Frame} {k : Nat} (h : bodyS rest fr = .error k) (A : Option Addr) (m c : Nat) (n : Int) (K : Below w.heap.size w w') : BoR w rest fr (.returned (.tuple #[.slice A m c, .int .i64 n, .int .i64 (k : Int)])) w' := by unfold BoR; rw [h]; exact ⟨A, m, c, n, rfl, K⟩
theorem bo_ok {w w' : World} {rest b : L} {fr : Wb.Frame} {k : Nat} (h : bodyS rest fr = .ok (b, k)) {A : Option Addr} {c : Nat} (K : Below w.heap.size w w') (hR : ReadsInt w' .u8 A b.length b) (hA : ∀ ad, A = some ad → w.heap.size ≤ ad.block) : BoR w rest fr (.returned (.tuple #[.slice A b.length c, .int .i64 (k : Int), .int .i64 0])) w' := by unfold BoR; rw [h]; exact ⟨A, c, rfl, K, hR, hA⟩
set_option maxHeartbeats 8000000 in
theorem rbody_c (s : ByteArray) (w : World) (hs : s.size ≤ 100000000) (fr : Wb.Frame) (hfr : frI fr ≤ 9000000000000000000) : Calls Tryz.prog 129 #[.string s, .int .i64 (frI fr)] w (BoR w (bl s) fr) := by
  have hlen := bl_length s
  refine enter (args := [.string s, .int .i64 (frI fr)]) Tryz.func129 rfl Tryz.ntmps129 rfl ?_
  have H := Hp.nil w
  by_cases hch : fr = .chunks
  · subst hch
    have hI : frI .chunks = -2 := rfl
    rw [hI]
    repeat' (first | (with_reducible first | refine p_tn ?_ | refine wp_seq ?_ | refine w_reg ?_ | refine l_nil ?_) | ((with_reducible refine g_on ?_); (first | ((with_reducible refine g_mv ?_); refine l_p txs rfl rfl ?_) | ((with_reducible refine g_as ?_); refine l_p txs rfl rfl ?_))))
    (with_reducible refine is_l ?_); refine l_t txs rfl rfl (fun _ => ?_) (fun hh => absurd rfl hh)
    repeat' (first | (with_reducible first | refine p_tn ?_ | refine wp_seq ?_ | refine w_reg ?_) | (with_reducible (refine is_if ?_; (refine w_ift rfl ?_))) | (with_reducible refine l_nil ?_) | ((with_reducible refine g_on ?_); ((with_reducible refine g_mv ?_); refine l_p txs rfl rfl ?_)))
    (with_reducible refine is_l ?_); refine h_tob H rfl rfl (by omega) (fun g c w_ H hR hc hg => ?_)
    skip
    (with_reducible refine is_l ?_); refine l_call rfl rfl (by kernel_rfl) (rUnchunk_c hR (bl_bytes s) (by omega)) (fun e w_ hR => ?_)
    obtain ⟨A1, c1, rfl, K⟩ := hR
    refine ⟨_, rfl, ?_⟩
    have H := H.join K
    have hrd := (rowB_rd H 0 rfl).1
    repeat' (first | (with_reducible first | refine p_tn ?_ | refine wp_seq ?_ | refine w_reg ?_ | refine l_nil ?_) | ((with_reducible refine g_on ?_); (first | ((with_reducible refine g_mv ?_); refine l_p txs rfl rfl ?_) | ((with_reducible refine g_as ?_); refine l_p txs rfl rfl ?_) | ((with_reducible refine g_ex ?_); refine l_p txs rfl rfl ?_))))
    cases hu : unchunkS (bl s) with
    | error k =>
      have ho : outUn (bl s) = ([], 0, k) := by unfold outUn; rw [hu]
      rw [ho]
      rcases un_errs hu with rfl | rfl | rfl
      · have hbo : bodyS (bl s) .chunks = .error 145 := by simp only [bodyS, hu]; rfl
        (with_reducible refine is_l ?_); refine l_t txs rfl rfl (fun _ => ?_) (fun hh => absurd rfl hh)
        repeat' (first | (with_reducible first | refine p_tn ?_ | refine p_tr ?_ | refine wp_seq ?_ | refine w_reg ?_) | (with_reducible (refine is_if ?_; (refine w_ift rfl ?_))) | (with_reducible first | refine wp_ret ?_ | refine l_nil ?_) | ((with_reducible refine g_on ?_); (first | ((with_reducible refine g_mv ?_); refine l_p txs rfl rfl ?_) | ((with_reducible refine g_as ?_); refine l_p txs rfl rfl ?_))))
        refine end3 rfl rfl rfl rfl ?_
        exact bo_err hbo _ _ _ _ H.B
      · have hbo : bodyS (bl s) .chunks = .error 140 := by simp only [bodyS, hu]; rfl
        (with_reducible refine is_l ?_); refine l_t txs rfl rfl (fun hh => absurd hh (by decide)) (fun _ => ?_)
        repeat' (first | (with_reducible first | refine p_tn ?_ | refine p_tr ?_ | refine wp_seq ?_ | refine w_reg ?_) | (with_reducible (refine is_if ?_; (refine w_iff rfl ?_))) | (with_reducible first | refine wp_skip ?_ | refine wp_ret ?_ | refine l_nil ?_) | ((with_reducible refine g_on ?_); (first | ((with_reducible refine g_mv ?_); refine l_p txs rfl rfl ?_) | ((with_reducible refine g_as ?_); refine l_p txs rfl rfl ?_))))
        refine end3 rfl rfl rfl rfl ?_
        exact bo_err hbo _ _ _ _ H.B
      · have hbo : bodyS (bl s) .chunks = .error 146 := by simp only [bodyS, hu]; rfl
        (with_reducible refine is_l ?_); refine l_t txs rfl rfl (fun hh => absurd hh (by decide)) (fun _ => ?_)
        repeat' (first | (with_reducible first | refine p_tn ?_ | refine p_tr ?_ | refine wp_seq ?_ | refine w_reg ?_) | (with_reducible (refine is_if ?_; (refine w_iff rfl ?_))) | (with_reducible first | refine wp_skip ?_ | refine wp_ret ?_ | refine l_nil ?_) | ((with_reducible refine g_on ?_); (first | ((with_reducible refine g_mv ?_); refine l_p txs rfl rfl ?_) | ((with_reducible refine g_as ?_); refine l_p txs rfl rfl ?_))))
        refine end3 rfl rfl rfl rfl ?_
        exact bo_err hbo _ _ _ _ H.B
    | ok z =>
      obtain ⟨b, n⟩ := z
      have ho : outUn (bl s) = (b, n, 0) := by unfold outUn; rw [hu]
      have hbo : bodyS (bl s) .chunks = .ok (b, n) := by simp only [bodyS, hu]
      rw [ho] at hrd ⊢
      (with_reducible refine is_l ?_); refine l_t txs rfl rfl (fun hh => absurd hh (show ¬ ((0 : Nat) : Int) = 2 by decide)) (fun _ => ?_)
      repeat' (first | (with_reducible first | refine p_tn ?_ | refine p_tr ?_ | refine wp_seq ?_ | refine w_reg ?_) | (with_reducible (refine is_if ?_; (refine w_iff rfl ?_))) | (with_reducible first | refine wp_skip ?_ | refine wp_ret ?_ | refine l_nil ?_) | ((with_reducible refine g_on ?_); (first | ((with_reducible refine g_mv ?_); refine l_p txs rfl rfl ?_) | ((with_reducible refine g_as ?_); refine l_p txs rfl rfl ?_))))
      refine end3 rfl rfl rfl rfl ?_
      exact bo_ok hbo H.B hrd (fun ad e => by subst e; exact own_base (H.row 0 _ rfl) _ rfl)
  · obtain ⟨n, hn, hb1⟩ : ∃ n : Nat, frI fr = (n : Int) ∧ bodyS (bl s) fr = if (bl s).length < n then .error 140 else .ok ((bl s).take n, n) := by
      cases fr with
      | none => exact ⟨0, rfl, by simp [bodyS]⟩
      | chunks => exact absurd rfl hch
      | len n => exact ⟨n, rfl, rfl⟩
    rw [hn] at hfr ⊢
    repeat' (first | (with_reducible first | refine p_tn ?_ | refine wp_seq ?_ | refine w_reg ?_ | refine l_nil ?_) | ((with_reducible refine g_on ?_); (first | ((with_reducible refine g_mv ?_); refine l_p txs rfl rfl ?_) | ((with_reducible refine g_as ?_); refine l_p txs rfl rfl ?_))))
    (with_reducible refine is_l ?_); refine l_t txs rfl rfl (fun hh => absurd hh (by omega)) (fun _ => ?_)
    repeat' (first | (with_reducible first | refine p_tn ?_ | refine wp_seq ?_ | refine w_reg ?_) | (with_reducible (refine is_if ?_; (refine w_iff rfl ?_))) | (with_reducible first | refine wp_skip ?_ | refine l_nil ?_) | ((with_reducible refine g_on ?_); (first | ((with_reducible refine g_mv ?_); refine l_p txs rfl rfl ?_) | ((with_reducible refine g_cl ?_); refine l_p txs rfl rfl ?_))))
    (with_reducible refine is_l ?_); refine l_t txs rfl rfl (fun h1 => ?_) (fun h1 => ?_)
    · rw [if_pos (by omega)] at hb1
      repeat' (first | (with_reducible first | refine p_tn ?_ | refine p_tr ?_ | refine wp_seq ?_ | refine w_reg ?_) | (with_reducible (refine is_if ?_; (refine w_ift rfl ?_))) | (with_reducible first | refine wp_ret ?_ | refine l_nil ?_) | ((with_reducible refine g_on ?_); ((with_reducible refine g_as ?_); refine l_p txs rfl rfl ?_)))
      refine end3 rfl rfl rfl rfl ?_
      exact bo_err hb1 _ _ _ _ H.B
    · rw [if_neg (by omega)] at hb1
      repeat' (first | (with_reducible first | refine p_tn ?_ | refine wp_seq ?_ | refine w_reg ?_) | (with_reducible (refine is_if ?_; (refine w_iff rfl ?_))) | (with_reducible first | refine wp_skip ?_ | refine l_nil ?_) | ((with_reducible refine g_on ?_); (first | ((with_reducible refine g_mv ?_); refine l_p txs rfl rfl ?_) | ((with_reducible refine g_sl ?_); refine l_sl txs rfl rfl (by first | omega | assumption | decide) (by first | omega | assumption | decide) (by first | omega | assumption | decide) ?_))))
      have hx : bl (s.extract (0 : Int).toNat (n : Int).toNat) = (bl s).take n := by rw [blE, Int.toNat_natCast]; simp
      have hxl : (s.extract (0 : Int).toNat (n : Int).toNat).size ≤ s.size := by rw [← bl_length, hx, ← hlen]; simp; omega
      (with_reducible refine is_l ?_); refine h_tob H rfl rfl (by omega) (fun g c w_ H hR hc hg => ?_)
      rw [hx] at hR ⊢
      repeat' (first | (with_reducible first | refine p_tn ?_ | refine wp_ret ?_ | refine l_nil ?_) | ((with_reducible refine g_on ?_); (first | ((with_reducible refine g_mv ?_); refine l_p txs rfl rfl ?_) | ((with_reducible refine g_as ?_); refine l_p txs rfl rfl ?_))))
      refine end3 rfl rfl rfl rfl ?_
      exact bo_ok hb1 H.B hR (fun ad e => by cases e; exact hg)
end Go.Proofs.YthgojbdpmcccaaaGreatDoor.K.Ref
end
section
namespace Go.Proofs.YthgojbdpmcccaaaGreatDoor.K.Ref
open Go.RowKit Go.Proofs.YthgojbdpmcccaaaGreatDoor.Q Go.Proofs.YthgojbdpmcccaaaGreatDoor.Wb Go.Proofs.YthgojbdpmcccaaaGreatDoorW.PrintWords Go.Proofs.YthgojbdpmcccaaaGreatDoor.K
set_option linter.unusedVariables false
set_option linter.unusedSimpArgs false
def wOf (v : L) : List L := (splitC 44 v).map fun w => lowS (trimS w)
theorem closes_eq (l : List Fld) (minor : Int) : closesS l minor = (((vals l nConn).flatMap wOf).contains wClose || (minor != 1 && !((vals l nConn).flatMap wOf).contains wKeep)) := rfl
theorem has_app (a b : List L) (c : L) : (a ++ b).contains c = (a.contains c || b.contains c) := by
  induction a with
  | nil => simp
  | cons x r ih => simp only [List.cons_append, List.contains_cons, ih, Bool.or_assoc]
theorem has_one (a q : L) : ([a] : List L).contains q = decide (a = q) := by
  by_cases h : a = q
  · subst h; simp
  · have h2 : ¬ q = a := fun e => h e.symm
    simp [h, h2]
theorem map_take {α β : Type} (g : α → β) {l : List α} {j : Nat} {y : α} (h : l[j]? = some y) : (l.map g).take (j + 1) = (l.map g).take j ++ [g y] := by
  have hj : j < l.length := (List.getElem?_eq_some_iff.1 h).1
  have e : l[j] = y := (List.getElem?_eq_some_iff.1 h).2
  rw [List.take_succ_eq_append_getElem (by simpa using hj)]
  simp [e]
set_option maxRecDepth 100000 in
set_option maxHeartbeats 8000000 in
theorem rcloses_c {w : World} {B : Option Addr} {c : Nat} {l : List Fld} (h : Rd w B (fldC l)) (hb : BytesF l) (hl : l.length ≤ 100000000) (minor : Int) (hm : minor = 0 ∨ minor = 1) :
    Calls Tryz.prog 130 #[.slice B l.length c, .int .i64 minor] w fun e w' => e = .returned (.bool (closesS l minor)) ∧ Below w.heap.size w w' := by
  refine enter (args := [.slice B l.length c, .int .i64 minor]) Tryz.func130 rfl Tryz.ntmps130 rfl ?_
  have H := Hp.nil w
  repeat' (first | (with_reducible first | refine p_tn ?_ | refine wp_seq ?_ | refine w_reg ?_ | refine l_nil ?_) | ((with_reducible refine g_on ?_); (first | ((with_reducible refine g_mv ?_); refine l_p txs rfl rfl ?_) | ((with_reducible refine g_as ?_); refine l_p txs rfl rfl ?_))))
  (with_reducible refine is_l ?_); refine l_call rfl rfl (by kernel_rfl) (rall_c (h.below H.B) hb hl _) (fun e w_ hR => ?_)
  obtain ⟨A1, c1, rfl, K⟩ := hR
  refine ⟨_, rfl, ?_⟩
  have e0 : bl (⟨#[99, 111, 110, 110, 101, 99, 116, 105, 111, 110]⟩ : ByteArray) = nConn := rfl
  rw [e0] at K ⊢
  have H := H.join K
  have hmem : ∀ v ∈ vals l nConn, Bytes v ∧ v.length ≤ 100000000 := fun v hv => by
    obtain ⟨f, hf, hv⟩ := List.mem_filterMap.1 hv
    have := hb f hf
    split at hv
    · injection hv with hv; subst hv; exact ⟨this.2.1, this.2.2.2⟩
    · cases hv
  have hvl := vals_le l nConn
  have hce := closes_eq l minor
  generalize vals l nConn = vs at hmem hvl hce H ⊢
  repeat' (first | (with_reducible first | refine p_tn ?_ | refine wp_seq ?_ | refine wp_block ?_ | refine w_reg ?_ | refine l_nil ?_) | ((with_reducible refine g_on ?_); ((with_reducible refine g_as ?_); refine l_p txs rfl rfl ?_)))
  refine w_loop (σ := Nat × Bool × Bool) (S := fun t => [(1, .int .i64 minor), (5, .bool t.2.1), (6, .bool t.2.2), (7, .slice A1 vs.length c1), (8, .int .i64 (t.1 : Int))])
    (J := fun t w' => Hp w w' [] [rowT (.slice A1 vs.length c1) vs] ∧ t.1 ≤ vs.length ∧ t.2.1 = ((vs.take t.1).flatMap wOf).contains wClose ∧ t.2.2 = ((vs.take t.1).flatMap wOf).contains wKeep) (μ := fun t => vs.length - t.1) (0, false, false) ⟨rfl, rfl, rfl, rfl, rfl, trivial⟩ ⟨H.pick [] [0] (by decide) (by decide) rfl rfl, Nat.zero_le _, rfl, rfl⟩ ?_
  rintro ⟨i, sh, kp⟩ f w_ ⟨H, hi, hsh, hkp⟩
  simp only at H hi hsh hkp ⊢
  repeat' (first | (with_reducible first | refine wp_seq ?_ | refine w_reg ?_) | ((with_reducible refine g_on ?_); (first | ((with_reducible refine g_mv ?_); refine l_p txs rfl rfl ?_) | ((with_reducible refine g_cl ?_); refine l_p txs rfl rfl ?_))))
  (with_reducible refine is_l ?_); refine l_t txs rfl rfl (fun hlt => ?_) (fun hge => ?_)
  · obtain ⟨x, hx⟩ : ∃ x, vs[i]? = some x := ⟨_, List.getElem?_eq_getElem (by omega)⟩
    obtain ⟨hbx, hlx⟩ := hmem x (List.mem_of_getElem? hx)
    have zx := sizeS' hbx
    have hrT := rowT_at H 0 rfl
    obtain ⟨a1, ha1⟩ := rdT_some hrT hx
    subst ha1
    have hcell := rdT_cell hrT hx
    have htk : (vs.take (i + 1)).flatMap wOf = (vs.take i).flatMap wOf ++ wOf x := by rw [List.take_succ_eq_append_getElem (by omega), (List.getElem?_eq_some_iff.1 hx).2]; simp
    generalize (vs.take i).flatMap wOf = W at hsh hkp htk
    repeat' (first | (with_reducible first | refine p_tn ?_ | refine wp_seq ?_ | refine wp_block ?_ | refine w_reg ?_) | (with_reducible (refine is_if ?_; (refine w_ift rfl ?_))) | (with_reducible first | refine wp_skip ?_ | refine l_nil ?_) | ((with_reducible refine g_on ?_); (first | ((with_reducible refine g_mv ?_); refine l_p txs rfl rfl ?_) | ((with_reducible refine g_ia ?_); refine l_ia txs rfl rfl (by first | omega | assumption | decide) (by first | omega | assumption | decide) ?_))))
    (with_reducible refine is_l ?_); refine l_ld txs rfl rfl (by rw [Int.toNat_natCast]; exact hcell) ?_
    skip
    (with_reducible refine is_l ?_); refine l_call rfl rfl (by kernel_rfl) (pieces_c (strOfNums x) 44 _ (by omega)) (fun e w_ hR => ?_)
    obtain ⟨A2, c2, rfl, K⟩ := hR
    refine ⟨_, rfl, ?_⟩
    rw [blS hbx] at K ⊢
    have H := H.join K
    have hps : wOf x = (splitC 44 x).map fun w => lowS (trimS w) := rfl
    have hpm := split_mem 44 x
    have hpl := split_len 44 x
    generalize splitC 44 x = ps at hps hpm hpl H ⊢
    repeat' (first | (with_reducible first | refine p_tn ?_ | refine wp_seq ?_ | refine wp_block ?_ | refine w_reg ?_ | refine l_nil ?_) | ((with_reducible refine g_on ?_); ((with_reducible refine g_as ?_); refine l_p txs rfl rfl ?_)))
    refine w_loop (σ := Nat × Bool × Bool) (S := fun t => [(1, .int .i64 minor), (5, .bool t.2.1), (6, .bool t.2.2), (7, .slice (some a1) vs.length c1), (8, .int .i64 (i : Int)), (9, .slice A2 ps.length c2), (10, .int .i64 (t.1 : Int))])
      (J := fun t w' => Hp w w' [] [rowT (.slice A2 ps.length c2) ps, rowT (.slice (some a1) vs.length c1) vs] ∧ t.1 ≤ ps.length ∧ t.2.1 = (W ++ (wOf x).take t.1).contains wClose ∧ t.2.2 = (W ++ (wOf x).take t.1).contains wKeep) (μ := fun t => ps.length - t.1) (0, sh, kp) ⟨rfl, rfl, rfl, rfl, rfl, rfl, rfl, trivial⟩ ⟨H.pick [] [0, 1] (by decide) (by decide) rfl rfl, Nat.zero_le _, by simpa using hsh, by simpa using hkp⟩ ?_
    clear hsh hkp sh kp
    rintro ⟨j, sh, kp⟩ f w_ ⟨H, hj, hsh, hkp⟩
    simp only at H hj hsh hkp ⊢
    repeat' (first | (with_reducible first | refine wp_seq ?_ | refine w_reg ?_) | ((with_reducible refine g_on ?_); (first | ((with_reducible refine g_mv ?_); refine l_p txs rfl rfl ?_) | ((with_reducible refine g_cl ?_); refine l_p txs rfl rfl ?_))))
    (with_reducible refine is_l ?_); refine l_t txs rfl rfl (fun hlt2 => ?_) (fun hge2 => ?_)
    · obtain ⟨y, hy⟩ : ∃ y, ps[j]? = some y := ⟨_, List.getElem?_eq_getElem (by omega)⟩
      obtain ⟨hy1, hy2⟩ := hpm y (List.mem_of_getElem? hy)
      have hby : Bytes y := fun z hz => hbx z (hy1 z hz)
      have zy := sizeS' hby
      have hbt := bytes_trim hby
      have zt := sizeS' hbt
      have htl := trim_len y
      have hrT := rowT_at H 0 rfl
      obtain ⟨a2, ha2⟩ := rdT_some hrT hy
      subst ha2
      have hcell := rdT_cell hrT hy
      have hst : ∀ q : L, (W ++ (wOf x).take (j + 1)).contains q = ((W ++ (wOf x).take j).contains q || decide (lowS (trimS y) = q)) := fun q => by
        rw [hps, map_take _ hy, ← List.append_assoc, has_app, has_one]
      repeat' (first | (with_reducible first | refine p_tn ?_ | refine wp_seq ?_ | refine wp_block ?_ | refine w_reg ?_) | (with_reducible (refine is_if ?_; (refine w_ift rfl ?_))) | (with_reducible first | refine wp_skip ?_ | refine l_nil ?_) | ((with_reducible refine g_on ?_); (first | ((with_reducible refine g_mv ?_); refine l_p txs rfl rfl ?_) | ((with_reducible refine g_ia ?_); refine l_ia txs rfl rfl (by first | omega | assumption | decide) (by first | omega | assumption | decide) ?_))))
      (with_reducible refine is_l ?_); refine l_ld txs rfl rfl (by rw [Int.toNat_natCast]; exact hcell) ?_
      skip
      have htr := rtrim_c (strOfNums y) w_ (by omega)
      rw [blS hby] at htr
      (with_reducible refine is_l ?_); refine l_callv rfl rfl (by kernel_rfl) htr (fun w_ K => ?_)
      have H := H.call K
      skip
      have hlo := rsmall_c (strOfNums (trimS y)) w_ (by omega)
      rw [blS hbt] at hlo
      (with_reducible refine is_l ?_); refine l_callv rfl rfl (by kernel_rfl) hlo (fun w_ K => ?_)
      have H := H.call K
      have e1 := blS (bytes_low hbt)
      have e2 : bl (⟨#[99, 108, 111, 115, 101]⟩ : ByteArray) = wClose := rfl
      have e3 : bl (⟨#[107, 101, 101, 112, 45, 97, 108, 105, 118, 101]⟩ : ByteArray) = wKeep := rfl
      cases sh
      · repeat' (first | (with_reducible first | refine p_tn ?_ | refine wp_seq ?_ | refine w_reg ?_ | refine l_nil ?_) | ((with_reducible refine g_on ?_); (first | ((with_reducible refine g_mv ?_); refine l_p txs rfl rfl ?_) | ((with_reducible refine g_as ?_); refine l_p txs rfl rfl ?_))) | ((with_reducible refine g_if ?_); ((with_reducible refine g_mv ?_); refine l_p txs rfl rfl ?_)))
        (with_reducible refine is_l ?_); refine l_t txs rfl rfl (fun hclo => ?_) (fun hclo => ?_)
        · rw [e1, e2] at hclo
          cases kp
          · repeat' (first | (with_reducible first | refine p_tn ?_ | refine w_reg ?_ | refine l_nil ?_) | ((with_reducible refine g_on ?_); (first | ((with_reducible refine g_mv ?_); refine l_p txs rfl rfl ?_) | ((with_reducible refine g_as ?_); refine l_p txs rfl rfl ?_) | ((with_reducible refine g_pk ?_); refine l_p txs rfl rfl ?_))) | ((with_reducible refine g_if ?_); ((with_reducible refine g_mv ?_); refine l_p txs rfl rfl ?_)))
            (with_reducible refine is_l ?_); refine l_t txs rfl rfl (fun h2 => ?_) (fun h2 => ?_)
            · rw [e1, e3] at h2
              repeat' (first | (with_reducible first | refine p_tn ?_ | refine p_bn ?_ | refine w_reg ?_ | refine l_nil ?_) | ((with_reducible refine g_on ?_); (first | ((with_reducible refine g_mv ?_); refine l_p txs rfl rfl ?_) | ((with_reducible refine g_as ?_); refine l_p txs rfl rfl ?_) | ((with_reducible refine g_pk ?_); refine l_p txs rfl rfl ?_) | ((with_reducible refine g_bi ?_); (refine l_a txs rfl rfl (by first | exact in_i64 (by omega) (by omega) | exact in_u8 (by omega) (by omega) | exact in_u64 (by omega) (by omega) | exact in_i32 (by omega) (by omega)) ?_)))))
              exact ⟨(j + 1, true, true), _, rfl, ⟨rfl, rfl, rfl, rfl, rfl, rfl, rfl, trivial⟩, ⟨H, by show j + 1 ≤ _; omega, by rw [hst, ← hsh]; simp [hclo], by rw [hst, ← hkp]; simp [h2]⟩, by show _ - (j + 1) < _ - j; omega⟩
            · rw [e1, e3] at h2
              repeat' (first | (with_reducible first | refine p_tn ?_ | refine p_bn ?_ | refine w_reg ?_ | refine l_nil ?_) | ((with_reducible refine g_on ?_); (first | ((with_reducible refine g_mv ?_); refine l_p txs rfl rfl ?_) | ((with_reducible refine g_as ?_); refine l_p txs rfl rfl ?_) | ((with_reducible refine g_pk ?_); refine l_p txs rfl rfl ?_) | ((with_reducible refine g_bi ?_); (refine l_a txs rfl rfl (by first | exact in_i64 (by omega) (by omega) | exact in_u8 (by omega) (by omega) | exact in_u64 (by omega) (by omega) | exact in_i32 (by omega) (by omega)) ?_)))))
              exact ⟨(j + 1, true, false), _, rfl, ⟨rfl, rfl, rfl, rfl, rfl, rfl, rfl, trivial⟩, ⟨H, by show j + 1 ≤ _; omega, by rw [hst, ← hsh]; simp [hclo], by rw [hst, ← hkp]; simp [h2]⟩, by show _ - (j + 1) < _ - j; omega⟩
          · repeat' (first | (with_reducible first | refine p_tn ?_ | refine p_bn ?_ | refine w_reg ?_ | refine l_nil ?_) | ((with_reducible refine g_on ?_); (first | ((with_reducible refine g_mv ?_); refine l_p txs rfl rfl ?_) | ((with_reducible refine g_as ?_); refine l_p txs rfl rfl ?_) | ((with_reducible refine g_pk ?_); refine l_p txs rfl rfl ?_) | ((with_reducible refine g_bi ?_); (refine l_a txs rfl rfl (by first | exact in_i64 (by omega) (by omega) | exact in_u8 (by omega) (by omega) | exact in_u64 (by omega) (by omega) | exact in_i32 (by omega) (by omega)) ?_)))) | ((with_reducible refine g_if ?_); (refine l_off rfl ?_)))
            exact ⟨(j + 1, true, true), _, rfl, ⟨rfl, rfl, rfl, rfl, rfl, rfl, rfl, trivial⟩, ⟨H, by show j + 1 ≤ _; omega, by rw [hst, ← hsh]; simp [hclo], by rw [hst, ← hkp]; simp⟩, by show _ - (j + 1) < _ - j; omega⟩
        · rw [e1, e2] at hclo
          cases kp
          · repeat' (first | (with_reducible first | refine p_tn ?_ | refine w_reg ?_ | refine l_nil ?_) | ((with_reducible refine g_on ?_); (first | ((with_reducible refine g_mv ?_); refine l_p txs rfl rfl ?_) | ((with_reducible refine g_as ?_); refine l_p txs rfl rfl ?_) | ((with_reducible refine g_pk ?_); refine l_p txs rfl rfl ?_))) | ((with_reducible refine g_if ?_); ((with_reducible refine g_mv ?_); refine l_p txs rfl rfl ?_)))
            (with_reducible refine is_l ?_); refine l_t txs rfl rfl (fun h2 => ?_) (fun h2 => ?_)
            · rw [e1, e3] at h2
              repeat' (first | (with_reducible first | refine p_tn ?_ | refine p_bn ?_ | refine w_reg ?_ | refine l_nil ?_) | ((with_reducible refine g_on ?_); (first | ((with_reducible refine g_mv ?_); refine l_p txs rfl rfl ?_) | ((with_reducible refine g_as ?_); refine l_p txs rfl rfl ?_) | ((with_reducible refine g_pk ?_); refine l_p txs rfl rfl ?_) | ((with_reducible refine g_bi ?_); (refine l_a txs rfl rfl (by first | exact in_i64 (by omega) (by omega) | exact in_u8 (by omega) (by omega) | exact in_u64 (by omega) (by omega) | exact in_i32 (by omega) (by omega)) ?_)))))
              exact ⟨(j + 1, false, true), _, rfl, ⟨rfl, rfl, rfl, rfl, rfl, rfl, rfl, trivial⟩, ⟨H, by show j + 1 ≤ _; omega, by rw [hst, ← hsh]; simp [hclo], by rw [hst, ← hkp]; simp [h2]⟩, by show _ - (j + 1) < _ - j; omega⟩
            · rw [e1, e3] at h2
              repeat' (first | (with_reducible first | refine p_tn ?_ | refine p_bn ?_ | refine w_reg ?_ | refine l_nil ?_) | ((with_reducible refine g_on ?_); (first | ((with_reducible refine g_mv ?_); refine l_p txs rfl rfl ?_) | ((with_reducible refine g_as ?_); refine l_p txs rfl rfl ?_) | ((with_reducible refine g_pk ?_); refine l_p txs rfl rfl ?_) | ((with_reducible refine g_bi ?_); (refine l_a txs rfl rfl (by first | exact in_i64 (by omega) (by omega) | exact in_u8 (by omega) (by omega) | exact in_u64 (by omega) (by omega) | exact in_i32 (by omega) (by omega)) ?_)))))
              exact ⟨(j + 1, false, false), _, rfl, ⟨rfl, rfl, rfl, rfl, rfl, rfl, rfl, trivial⟩, ⟨H, by show j + 1 ≤ _; omega, by rw [hst, ← hsh]; simp [hclo], by rw [hst, ← hkp]; simp [h2]⟩, by show _ - (j + 1) < _ - j; omega⟩
          · repeat' (first | (with_reducible first | refine p_tn ?_ | refine p_bn ?_ | refine w_reg ?_ | refine l_nil ?_) | ((with_reducible refine g_on ?_); (first | ((with_reducible refine g_mv ?_); refine l_p txs rfl rfl ?_) | ((with_reducible refine g_as ?_); refine l_p txs rfl rfl ?_) | ((with_reducible refine g_pk ?_); refine l_p txs rfl rfl ?_) | ((with_reducible refine g_bi ?_); (refine l_a txs rfl rfl (by first | exact in_i64 (by omega) (by omega) | exact in_u8 (by omega) (by omega) | exact in_u64 (by omega) (by omega) | exact in_i32 (by omega) (by omega)) ?_)))) | ((with_reducible refine g_if ?_); (refine l_off rfl ?_)))
            exact ⟨(j + 1, false, true), _, rfl, ⟨rfl, rfl, rfl, rfl, rfl, rfl, rfl, trivial⟩, ⟨H, by show j + 1 ≤ _; omega, by rw [hst, ← hsh]; simp [hclo], by rw [hst, ← hkp]; simp⟩, by show _ - (j + 1) < _ - j; omega⟩
      · have hclo := trivial
        cases kp
        · repeat' (first | (with_reducible first | refine p_tn ?_ | refine wp_seq ?_ | refine w_reg ?_ | refine l_nil ?_) | ((with_reducible refine g_on ?_); (first | ((with_reducible refine g_mv ?_); refine l_p txs rfl rfl ?_) | ((with_reducible refine g_as ?_); refine l_p txs rfl rfl ?_) | ((with_reducible refine g_pk ?_); refine l_p txs rfl rfl ?_))) | ((with_reducible refine g_if ?_); (first | (refine l_off rfl ?_) | ((with_reducible refine g_mv ?_); refine l_p txs rfl rfl ?_))))
          (with_reducible refine is_l ?_); refine l_t txs rfl rfl (fun h2 => ?_) (fun h2 => ?_)
          · rw [e1, e3] at h2
            repeat' (first | (with_reducible first | refine p_tn ?_ | refine p_bn ?_ | refine w_reg ?_ | refine l_nil ?_) | ((with_reducible refine g_on ?_); (first | ((with_reducible refine g_mv ?_); refine l_p txs rfl rfl ?_) | ((with_reducible refine g_as ?_); refine l_p txs rfl rfl ?_) | ((with_reducible refine g_pk ?_); refine l_p txs rfl rfl ?_) | ((with_reducible refine g_bi ?_); (refine l_a txs rfl rfl (by first | exact in_i64 (by omega) (by omega) | exact in_u8 (by omega) (by omega) | exact in_u64 (by omega) (by omega) | exact in_i32 (by omega) (by omega)) ?_)))))
            exact ⟨(j + 1, true, true), _, rfl, ⟨rfl, rfl, rfl, rfl, rfl, rfl, rfl, trivial⟩, ⟨H, by show j + 1 ≤ _; omega, by rw [hst, ← hsh]; simp [hclo], by rw [hst, ← hkp]; simp [h2]⟩, by show _ - (j + 1) < _ - j; omega⟩
          · rw [e1, e3] at h2
            repeat' (first | (with_reducible first | refine p_tn ?_ | refine p_bn ?_ | refine w_reg ?_ | refine l_nil ?_) | ((with_reducible refine g_on ?_); (first | ((with_reducible refine g_mv ?_); refine l_p txs rfl rfl ?_) | ((with_reducible refine g_as ?_); refine l_p txs rfl rfl ?_) | ((with_reducible refine g_pk ?_); refine l_p txs rfl rfl ?_) | ((with_reducible refine g_bi ?_); (refine l_a txs rfl rfl (by first | exact in_i64 (by omega) (by omega) | exact in_u8 (by omega) (by omega) | exact in_u64 (by omega) (by omega) | exact in_i32 (by omega) (by omega)) ?_)))))
            exact ⟨(j + 1, true, false), _, rfl, ⟨rfl, rfl, rfl, rfl, rfl, rfl, rfl, trivial⟩, ⟨H, by show j + 1 ≤ _; omega, by rw [hst, ← hsh]; simp [hclo], by rw [hst, ← hkp]; simp [h2]⟩, by show _ - (j + 1) < _ - j; omega⟩
        · repeat' (first | (with_reducible first | refine p_tn ?_ | refine p_bn ?_ | refine wp_seq ?_ | refine w_reg ?_ | refine l_nil ?_) | ((with_reducible refine g_on ?_); (first | ((with_reducible refine g_mv ?_); refine l_p txs rfl rfl ?_) | ((with_reducible refine g_as ?_); refine l_p txs rfl rfl ?_) | ((with_reducible refine g_pk ?_); refine l_p txs rfl rfl ?_) | ((with_reducible refine g_bi ?_); (refine l_a txs rfl rfl (by first | exact in_i64 (by omega) (by omega) | exact in_u8 (by omega) (by omega) | exact in_u64 (by omega) (by omega) | exact in_i32 (by omega) (by omega)) ?_)))) | ((with_reducible refine g_if ?_); (refine l_off rfl ?_)))
          exact ⟨(j + 1, true, true), _, rfl, ⟨rfl, rfl, rfl, rfl, rfl, rfl, rfl, trivial⟩, ⟨H, by show j + 1 ≤ _; omega, by rw [hst, ← hsh]; simp [hclo], by rw [hst, ← hkp]; simp⟩, by show _ - (j + 1) < _ - j; omega⟩
    · have hall : (wOf x).take j = wOf x := List.take_of_length_le (by rw [hps, List.length_map]; omega)
      rw [hall, ← htk] at hsh hkp
      repeat' (first | (with_reducible first | refine p_tn ?_ | refine p_tx ?_ | refine p_bn ?_ | refine x_hit ?_ | refine w_reg ?_) | (with_reducible (refine is_if ?_; (refine w_iff rfl ?_))) | (with_reducible first | refine wp_exit ?_ | refine l_nil ?_) | ((with_reducible refine g_on ?_); (first | ((with_reducible refine g_mv ?_); refine l_p txs rfl rfl ?_) | ((with_reducible refine g_as ?_); refine l_p txs rfl rfl ?_) | ((with_reducible refine g_bi ?_); (refine l_a txs rfl rfl (by first | exact in_i64 (by omega) (by omega) | exact in_u8 (by omega) (by omega) | exact in_u64 (by omega) (by omega) | exact in_i32 (by omega) (by omega)) ?_)))))
      exact ⟨(i + 1, sh, kp), _, rfl, ⟨rfl, rfl, rfl, rfl, rfl, trivial⟩, ⟨H.pick [] [1] (by decide) (by decide) rfl rfl, by show i + 1 ≤ _; omega, hsh, hkp⟩, by show _ - (i + 1) < _ - i; omega⟩
  · have hall : vs.take i = vs := List.take_of_length_le (by omega)
    rw [hall] at hsh hkp
    rw [← hsh, ← hkp] at hce
    cases sh
    · repeat' (first | (with_reducible first | refine p_tn ?_ | refine p_tx ?_ | refine x_hit ?_ | refine wp_seq ?_ | refine w_reg ?_) | (with_reducible (refine is_if ?_; (refine w_iff rfl ?_))) | (with_reducible first | refine wp_exit ?_ | refine l_nil ?_) | ((with_reducible refine g_on ?_); ((with_reducible refine g_mv ?_); refine l_p txs rfl rfl ?_)) | ((with_reducible refine g_if ?_); ((with_reducible refine g_mv ?_); refine l_p txs rfl rfl ?_)))
      (with_reducible refine is_l ?_); refine l_t txs rfl rfl (fun h0 => ?_) (fun h0 => ?_)
      · cases kp
        all_goals
          repeat' (first | (with_reducible first | refine p_tn ?_ | refine wp_ret ?_ | refine l_nil ?_) | ((with_reducible refine g_on ?_); (first | ((with_reducible refine g_as ?_); refine l_p txs rfl rfl ?_) | ((with_reducible refine g_pk ?_); refine l_p txs rfl rfl ?_))) | ((with_reducible refine g_if ?_); (first | ((with_reducible refine g_mv ?_); refine l_p txs rfl rfl ?_) | ((with_reducible refine g_pk ?_); refine l_p txs rfl rfl ?_) | ((with_reducible refine g_un ?_); (refine l_p txs rfl rfl ?_)))))
          refine end1 rfl rfl ?_
          exact ⟨by rw [hce, h0]; rfl, H.B⟩
      · have h1 : minor = 1 := by omega
        repeat' (first | (with_reducible first | refine p_tn ?_ | refine wp_ret ?_ | refine l_nil ?_) | ((with_reducible refine g_on ?_); (first | ((with_reducible refine g_as ?_); refine l_p txs rfl rfl ?_) | ((with_reducible refine g_pk ?_); refine l_p txs rfl rfl ?_))) | ((with_reducible refine g_if ?_); (first | (refine l_off rfl ?_) | ((with_reducible refine g_mv ?_); refine l_p txs rfl rfl ?_) | ((with_reducible refine g_pk ?_); refine l_p txs rfl rfl ?_))))
        refine end1 rfl rfl ?_
        exact ⟨by rw [hce, h1]; rfl, H.B⟩
    · repeat' (first | (with_reducible first | refine p_tn ?_ | refine p_tx ?_ | refine x_hit ?_ | refine wp_seq ?_ | refine w_reg ?_) | (with_reducible (refine is_if ?_; (refine w_iff rfl ?_))) | (with_reducible first | refine wp_exit ?_ | refine wp_ret ?_ | refine l_nil ?_) | ((with_reducible refine g_on ?_); (first | ((with_reducible refine g_mv ?_); refine l_p txs rfl rfl ?_) | ((with_reducible refine g_as ?_); refine l_p txs rfl rfl ?_) | ((with_reducible refine g_pk ?_); refine l_p txs rfl rfl ?_))) | ((with_reducible refine g_if ?_); (refine l_off rfl ?_)))
      refine end1 rfl rfl ?_
      exact ⟨by rw [hce]; rfl, H.B⟩
end Go.Proofs.YthgojbdpmcccaaaGreatDoor.K.Ref
end
section
namespace Go.Proofs.YthgojbdpmcccaaaGreatDoor.K.Ref
open Go.RowKit Go.Proofs.YthgojbdpmcccaaaGreatDoor.Q Go.Proofs.YthgojbdpmcccaaaGreatDoor.Wb Go.Proofs.YthgojbdpmcccaaaGreatDoorW.PrintWords Go.Proofs.YthgojbdpmcccaaaGreatDoor.K
set_option linter.unusedVariables false
set_option linter.unusedSimpArgs false
theorem rowG_at {w0 w : World} {l : List Ent} {r : List RowD} (H : Hp w0 w l r) (k : Nat) {A : Option Addr} {c : Nat} {x : List Fld} (hk : r[k]? = some (rowG (.slice A x.length c) x)) : Rd w A (fldC x) := by
  obtain ⟨A', c', e, _, hrd, _⟩ := H.rd k hk
  simp only [Value.slice.injEq] at e
  rw [e.1]
  exact hrd
theorem vers_rng {s : L} {a b : Int} (h : versS s = some (a, b)) : (0 ≤ a ∧ a ≤ 9) ∧ 0 ≤ b ∧ b ≤ 9 := by
  unfold versS at h
  split at h
  · split at h
    · rename_i hd
      simp only [Option.some.injEq, Prod.mk.injEq] at h
      obtain ⟨h1, h2⟩ := hd
      unfold digB at h1 h2
      simp at h1 h2
      omega
    · cases h
  · cases h
theorem frI_le {l : List Fld} {minor : Int} {fr : Wb.Frame} (h : frameS l minor = .ok fr) : frI fr ≤ 1048576 := by
  cases fr with
  | none => decide
  | chunks => decide
  | len n =>
    show (n : Int) ≤ _
    unfold frameS at h
    split at h
    · split at h
      · cases h
      · split at h
        · cases h
        · split at h
          · cases h
          · injection h with h; injection h with h; omega
      · cases h
    · split at h <;> cases h
    · cases h
def frN : Wb.Frame → Int
  | .none => -1
  | .chunks => -2
  | .len n => (n : Int)
theorem lenV_ok {l : List Fld} {minor : Int} {fr : Wb.Frame} (h : frameS l minor = .ok fr) : lenV l minor = .tuple #[.int .i64 (frN fr), .int .i64 0] := by unfold lenV; rw [h]; cases fr <;> rfl
theorem frN_none {fr : Wb.Frame} (h : frN fr = -1) : fr = .none := by cases fr with
  | none => rfl
  | chunks => cases h
  | len n => exact absurd h (by show ¬ (n : Int) = -1; omega)
theorem frN_some {fr : Wb.Frame} (h : ¬ frN fr = -1) : frN fr = frI fr := by cases fr with
  | none => exact absurd rfl h
  | chunks => rfl
  | len n => rfl
theorem addr_blk (ad : Addr) (j : Nat) : (ad.add j).block = ad.block := by unfold Addr.add; split <;> rfl
theorem reads_other {w w' : World} {k : IntKind} {A : Option Addr} {n g : Nat} {xs : List Int} (h : ReadsInt w k A n xs) (hg : w.grownBy w' (some g)) (hA : ∀ ad, A = some ad → ad.block ≠ g) : ReadsInt w' k A n xs := by
  refine ⟨h.1, h.2.1, fun h0 => ?_⟩
  obtain ⟨ad, h1, h2⟩ := h.2.2 h0
  refine ⟨ad, h1, fun j hj => ?_⟩
  have h3 := h2 j hj
  have hne := hA ad h1
  have hlt : (ad.add j).block < w.heap.size := by
    rcases Nat.lt_or_ge (ad.add j).block w.heap.size with h4 | h4
    · exact h4
    · exfalso
      have : w.heap[(ad.add j).block]? = none := Array.getElem?_eq_none h4
      simp [World.cell?, this] at h3
  have h5 := hg.block _ hlt (fun e => hne (by rw [← Option.some.inj e]; exact (addr_blk ad j).symm))
  unfold World.cell? at h3 ⊢
  rw [h5]
  exact h3
theorem h_stRg {rt : Nat → Option (List Value)} {n : Nat} {ops : Array Oper} {Q : Exit → Act → World → Prop} {rest : List Oper} {f : Fr} {w0 w : World} {l l' : List Ent} {r : List RowD} {tt : TypeId} {ps : String} {af : Array Edge} {gd : Option (Nat × Bool)} {op : Op} {P : Program} (hrt : Recs P rt) (H : Hp w0 w l r) (k : Nat) {g : Nat} {t t2 : TypeId} {cs cs' zs : List Value} {a : Array Value} (hw : want n ops f ⟨none, op, tt, ps, af, gd⟩ = true) (he : evSt n f op = some (t, g, 0, .agg a)) (hz : rt t = some zs) (hk : l[k]? = some (g, t2, cs)) (hs : cs.length = zs.length) (hc : nfL a.toList some = some cs') (hs2 : cs'.length = zs.length) (h1 : cs'.all (·.oneCell') = true)
    (hl : nfL (l.set k (g, t2, cs')) some = some l') (h : ∀ w', Hp w0 w' l' r → w.grownBy w' (some g) → WL P ops Q rest (act n f) w') : WL P ops Q (⟨none, op, tt, ps, af, gd⟩ :: rest) (act n f) w := by
  have e1 := nfL_some hc
  have e2 := nfL_some hl
  subst e1 e2
  unfold evSt at he
  split at he
  · rename_i t0 x y
    split at he
    · rename_i g0 i0 v0 hx hy
      simp only [Option.some.injEq, Prod.mk.injEq] at he
      obtain ⟨rfl, rfl, rfl, rfl⟩ := he
      have hy := nf_eq hy
      have hb := H.get k hk
      obtain ⟨_, h3⟩ := hrt _ _ hz
      have hsz : (P.info? t0).map (·.size) = some a.toList.length := by
        obtain ⟨i0, hi, h4⟩ := Option.map_eq_some_iff.1 h3
        simp only [Prod.mk.injEq] at h4
        rw [hi, hs2, ← h4.2]; rfl
      have hr := run_store_run (P := P) (o := 0) t0 (.agg a) a.toList hb (by simp [Value.cells]) hsz (by rw [List.size_toArray]; omega) (fun q hq => List.all_eq_true.1 h1 q hq)
      have hh := heap_setCells (fr := (0, 0)) a.toList 0 w cs hb (by omega)
      have e3 : cs.take 0 ++ a.toList ++ cs.drop (0 + a.toList.length) = a.toList := by
        rw [List.drop_eq_nil_of_le (by omega)]; simp
      rw [e3] at hh
      refine h_skip hw ?_ (h _ (H.upd k hk (grown_setCells a.toList 0 w) hh) (grown_setCells a.toList 0 w))
      unfold execOp
      simp [hx, ← hy, hr]
    · cases he
  · cases he
theorem rbody_code {rest : L} {fr : Wb.Frame} {k : Nat} (h : bodyS rest fr = .error k) : k ≠ 0 := by
  cases fr with
  | none => simp only [bodyS] at h; cases h
  | chunks =>
    simp only [bodyS] at h
    cases hu : unchunkS rest with
    | error e =>
      rw [hu] at h
      simp only [Except.error.injEq] at h
      have := un_errs hu
      split at h <;> omega
    | ok z => rw [hu] at h; cases h
  | len n =>
    simp only [bodyS] at h
    split at h
    · injection h with h; omega
    · cases h
end Go.Proofs.YthgojbdpmcccaaaGreatDoor.K.Ref
end
section
namespace Go.Proofs.YthgojbdpmcccaaaGreatDoor.K.Ref
open Go.RowKit Go.Proofs.YthgojbdpmcccaaaGreatDoor.Q Go.Proofs.YthgojbdpmcccaaaGreatDoor.Wb Go.Proofs.YthgojbdpmcccaaaGreatDoorW.PrintWords Go.Proofs.YthgojbdpmcccaaaGreatDoor.K
set_option linter.unusedVariables false
set_option linter.unusedSimpArgs false
section
variable {P : Program} {ty : Nat → Option Ty} {n : Nat} {f : Fr} {w : World} {o : Oper}
theorem evT_no (hty : Tys P ty) {p : Prop} (h : evT ty n f o.op = some p) (hp : ¬ p) : (execOp (X n f) o).run P w = .ok (.value (.bool false)) w := by
  obtain ⟨t, hr, ht⟩ := evT_run (w := w) hty h
  cases t with
  | true => exact absurd (ht.1 rfl) hp
  | false => exact hr
theorem evT_yes (hty : Tys P ty) {p : Prop} (h : evT ty n f o.op = some p) (hp : p) : (execOp (X n f) o).run P w = .ok (.value (.bool true)) w := by
  obtain ⟨t, hr, ht⟩ := evT_run (w := w) hty h
  cases t with
  | true => exact hr
  | false => exact absurd (ht.2 hp) (by simp)
end
theorem rbare_c (st : Int) (w : World) : Calls Tryz.prog 120 #[.int .i64 st] w fun e w' => e = .returned (.bool (bareS st)) ∧ Below w.heap.size w w' := by
  refine enter (args := [.int .i64 st]) Tryz.func120 rfl Tryz.ntmps120 rfl ?_
  have H := Hp.nil w
  repeat' (first | (with_reducible first | refine p_tn ?_ | refine wp_seq ?_ | refine w_reg ?_ | refine wp_ret ?_ | refine l_nil ?_) | (with_reducible (refine is_l ?_; (first | (refine l_off rfl ?_) | (refine l_p tys rfl rfl ?_) | (refine l_t tys rfl rfl (fun _ => ?_) (fun _ => ?_))))))
  all_goals
    refine end1 rfl rfl ?_
    refine ⟨?_, H.B⟩
    congr 2
    unfold bareS
    simp
    try omega
/-- What statusLine reads: major, minor, status. -/
def statL (s : L) : Option (Int × Int × Int) := match s.drop 8 with
  | 32 :: a :: b :: c :: reason =>
    if digB a = true ∧ digB b = true ∧ digB c = true ∧ (reason = [] ∨ reason.head? = some 32) ∧ reason.all valB = true then
      match versS (s.take 8) with
      | none => none
      | some (x, y) => some (x, y, 100 * (a - 48) + 10 * (b - 48) + (c - 48))
    else none
  | _ => none
theorem stat_l (s : L) : statS s = match statL s with
    | none => .error 141
    | some (x, y, code) => if x = 1 ∧ y ≤ 1 then (if 100 ≤ code ∧ code ≤ 599 then .ok (code, y) else .error 149) else .error 142 := by
  unfold statS statL
  generalize s.drop 8 = d
  split
  · rename_i a b c r
    by_cases hc : digB a = true ∧ digB b = true ∧ digB c = true ∧ (r = [] ∨ r.head? = some 32) ∧ r.all valB = true
    · simp only [if_pos hc]
      cases versS (s.take 8) with
      | none => rfl
      | some p => obtain ⟨x, y⟩ := p; rfl
    · simp only [if_neg hc]
  · rename_i h
    split
    · rename_i h2
      split at h2
      · exact absurd rfl (h _ _ _ _)
      · rfl
    · rename_i h2
      split at h2
      · exact absurd rfl (h _ _ _ _)
      · cases h2
theorem statL_rng {s : L} {x y z : Int} (h : statL s = some (x, y, z)) : (0 ≤ x ∧ x ≤ 9) ∧ (0 ≤ y ∧ y ≤ 9) ∧ 0 ≤ z ∧ z ≤ 999 := by
  unfold statL at h
  split at h
  · rename_i a b c r _
    split at h
    · rename_i hc
      split at h
      · cases h
      · rename_i x' y' hv
        have := vers_rng hv
        simp only [Option.some.injEq, Prod.mk.injEq] at h
        obtain ⟨h1, h2, h3, _⟩ := hc
        unfold digB at h1 h2 h3
        simp at h1 h2 h3
        omega
    · cases h
  · cases h
/-- What statusLine ends in. -/
def SlR (w : World) (s : L) (e : Ending) (w' : World) : Prop := Below w.heap.size w w' ∧ match statL s with
  | none => ∃ x y z : Int, e = .returned (.tuple #[.int .i64 x, .int .i64 y, .int .i64 z, .bool false])
  | some (x, y, z) => e = .returned (.tuple #[.int .i64 x, .int .i64 y, .int .i64 z, .bool true])
theorem sl_none {w w' : World} {s : L} (h : statL s = none) (x y z : Int) (K : Below w.heap.size w w') : SlR w s (.returned (.tuple #[.int .i64 x, .int .i64 y, .int .i64 z, .bool false])) w' := by unfold SlR; rw [h]; exact ⟨K, x, y, z, rfl⟩
theorem sl_some {w w' : World} {s : L} {x y z : Int} (h : statL s = some (x, y, z)) (K : Below w.heap.size w w') : SlR w s (.returned (.tuple #[.int .i64 x, .int .i64 y, .int .i64 z, .bool true])) w' := by unfold SlR; rw [h]; exact ⟨K, rfl⟩
set_option maxRecDepth 100000 in
set_option maxHeartbeats 8000000 in
theorem rstatusLine_c {w : World} (t : ByteArray) (ht : t.size ≤ 100000000) :
    Calls Tryz.prog 131 #[.string t] w (SlR w (bl t)) := by
  have hlen := bl_length t
  refine enter (args := [.string t]) Tryz.func131 rfl Tryz.ntmps131 rfl ?_
  have H := Hp.nil w
  repeat' (first | (with_reducible first | refine p_tn ?_ | refine wp_seq ?_ | refine w_reg ?_ | refine l_nil ?_) | ((with_reducible refine g_on ?_); (first | ((with_reducible refine g_mv ?_); refine l_p txs rfl rfl ?_) | ((with_reducible refine g_as ?_); refine l_p txs rfl rfl ?_) | ((with_reducible refine g_cl ?_); refine l_p txs rfl rfl ?_))))
  (with_reducible refine is_l ?_); refine l_t txs rfl rfl (fun h1 => ?_) (fun h1 => ?_)
  · have hs : statL (bl t) = none := by
      unfold statL
      split
      · rename_i a b c r e
        have := congrArg List.length e
        simp only [List.length_drop, List.length_cons] at this
        omega
      · rfl
    repeat' (first | (with_reducible first | refine p_tn ?_ | refine p_tr ?_ | refine wp_seq ?_ | refine w_reg ?_) | (with_reducible (refine is_if ?_; (refine w_ift rfl ?_))) | (with_reducible first | refine wp_ret ?_ | refine l_nil ?_) | ((with_reducible refine g_on ?_); (first | ((with_reducible refine g_mv ?_); refine l_p txs rfl rfl ?_) | ((with_reducible refine g_as ?_); refine l_p txs rfl rfl ?_) | ((with_reducible refine g_pk ?_); refine l_p txs rfl rfl ?_))) | ((with_reducible refine g_if ?_); (refine l_off rfl ?_)))
    refine end4 rfl rfl rfl rfl rfl ?_
    exact sl_none hs _ _ _ H.B
  obtain ⟨p0, p1, p2, p3, p4, p5, p6, p7, x, a, b, c, r, hl⟩ := twelve (l := bl t) (by omega)
  have a8 : at_ (bl t) 8 = x := by rw [hl]; rfl
  have a9 : at_ (bl t) 9 = a := by rw [hl]; rfl
  have a10 : at_ (bl t) 10 = b := by rw [hl]; rfl
  have a11 : at_ (bl t) 11 = c := by rw [hl]; rfl
  have x2 : bl (t.extract 0 8) = [p0, p1, p2, p3, p4, p5, p6, p7] := by rw [blE, hl]; rfl
  have x3 : bl (t.extract 12 t.size) = r := by
    rw [blE, hl]
    have : r.length = t.size - 12 := by rw [← hlen, hl]; simp
    rw [← this]
    simp
  have hraw : statL (bl t) = if x = 32 then (if digB a = true ∧ digB b = true ∧ digB c = true ∧ (r = [] ∨ r.head? = some 32) ∧ r.all valB = true then
      match versS [p0, p1, p2, p3, p4, p5, p6, p7] with
      | none => none
      | some (x, y) => some (x, y, 100 * (a - 48) + 10 * (b - 48) + (c - 48))
    else none) else none := by
    unfold statL
    rw [hl]
    by_cases hx : x = 32
    · subst hx; rfl
    · rw [if_neg hx]
      show (match x :: a :: b :: c :: r with | 32 :: a :: b :: c :: reason => _ | _ => none) = none
      split
      · rename_i e; simp only [List.cons.injEq] at e; exact absurd e.1 hx
      · rfl
  have n3 : (t.extract 12 t.size).size = r.length := by rw [← bl_length, x3]
  have hr12 : r.length + 12 = t.size := by rw [← hlen, hl]; simp
  repeat' (first | ((with_reducible refine g_on ?_); ((with_reducible refine g_mv ?_); refine l_p txs rfl rfl ?_)) | ((with_reducible refine g_if ?_); (first | ((with_reducible refine g_mv ?_); refine l_p txs rfl rfl ?_) | ((with_reducible refine g_ix ?_); refine l_ix txs rfl rfl (by first | omega | assumption | decide) (by first | omega | assumption | decide) ?_))))
  (with_reducible refine is_l ?_); refine l_t txs rfl rfl (fun h2 => ?_) (fun h2 => ?_)
  · have hs : statL (bl t) = none := by rw [hraw, if_neg]; rw [← a8]; exact h2
    repeat' (first | (with_reducible first | refine p_tn ?_ | refine p_tr ?_ | refine wp_seq ?_ | refine w_reg ?_) | (with_reducible (refine is_if ?_; (refine w_ift rfl ?_))) | (with_reducible first | refine wp_ret ?_ | refine l_nil ?_) | ((with_reducible refine g_on ?_); (first | ((with_reducible refine g_mv ?_); refine l_p txs rfl rfl ?_) | ((with_reducible refine g_as ?_); refine l_p txs rfl rfl ?_) | ((with_reducible refine g_pk ?_); refine l_p txs rfl rfl ?_))) | ((with_reducible refine g_if ?_); (refine l_off rfl ?_)))
    refine end4 rfl rfl rfl rfl rfl ?_
    exact sl_none hs _ _ _ H.B
  have hx : x = 32 := by rw [← a8]; exact Classical.byContradiction h2
  rw [if_pos hx] at hraw
  repeat' (first | ((with_reducible refine g_on ?_); (first | ((with_reducible refine g_mv ?_); refine l_p txs rfl rfl ?_) | ((with_reducible refine g_pk ?_); refine l_p txs rfl rfl ?_))) | ((with_reducible refine g_if ?_); (first | ((with_reducible refine g_mv ?_); refine l_p txs rfl rfl ?_) | ((with_reducible refine g_ix ?_); refine l_ix txs rfl rfl (by first | omega | assumption | decide) (by first | omega | assumption | decide) ?_))))
  rw [a9]
  (with_reducible refine is_l ?_); refine l_callv rfl rfl (by kernel_rfl) (rdigit_c a _) (fun w_ K => ?_)
  have H := H.call K
  cases hda : digB a
  · have hs : statL (bl t) = none := by
      rw [hraw, if_neg]
      rintro ⟨d1, _⟩
      rw [hda] at d1; cases d1
    repeat' (first | (with_reducible first | refine p_tn ?_ | refine p_tr ?_ | refine wp_seq ?_ | refine w_reg ?_) | (with_reducible (refine is_if ?_; (refine w_ift rfl ?_))) | (with_reducible first | refine wp_ret ?_ | refine l_nil ?_) | ((with_reducible refine g_on ?_); (first | ((with_reducible refine g_mv ?_); refine l_p txs rfl rfl ?_) | ((with_reducible refine g_as ?_); refine l_p txs rfl rfl ?_) | ((with_reducible refine g_pk ?_); refine l_p txs rfl rfl ?_))) | ((with_reducible refine g_if ?_); (first | (refine l_off rfl ?_) | ((with_reducible refine g_un ?_); (refine l_p txs rfl rfl ?_)))))
    refine end4 rfl rfl rfl rfl rfl ?_
    exact sl_none hs _ _ _ H.B
  repeat' (first | ((with_reducible refine g_on ?_); (first | ((with_reducible refine g_mv ?_); refine l_p txs rfl rfl ?_) | ((with_reducible refine g_pk ?_); refine l_p txs rfl rfl ?_))) | ((with_reducible refine g_if ?_); (first | ((with_reducible refine g_mv ?_); refine l_p txs rfl rfl ?_) | ((with_reducible refine g_un ?_); (refine l_p txs rfl rfl ?_)) | ((with_reducible refine g_ix ?_); refine l_ix txs rfl rfl (by first | omega | assumption | decide) (by first | omega | assumption | decide) ?_))))
  rw [a10]
  (with_reducible refine is_l ?_); refine l_callv rfl rfl (by kernel_rfl) (rdigit_c b _) (fun w_ K => ?_)
  have H := H.call K
  cases hdb : digB b
  · have hs : statL (bl t) = none := by
      rw [hraw, if_neg]
      rintro ⟨_, d1, _⟩
      rw [hdb] at d1; cases d1
    repeat' (first | (with_reducible first | refine p_tn ?_ | refine p_tr ?_ | refine wp_seq ?_ | refine w_reg ?_) | (with_reducible (refine is_if ?_; (refine w_ift rfl ?_))) | (with_reducible first | refine wp_ret ?_ | refine l_nil ?_) | ((with_reducible refine g_on ?_); (first | ((with_reducible refine g_mv ?_); refine l_p txs rfl rfl ?_) | ((with_reducible refine g_as ?_); refine l_p txs rfl rfl ?_) | ((with_reducible refine g_pk ?_); refine l_p txs rfl rfl ?_))) | ((with_reducible refine g_if ?_); (first | (refine l_off rfl ?_) | ((with_reducible refine g_un ?_); (refine l_p txs rfl rfl ?_)))))
    refine end4 rfl rfl rfl rfl rfl ?_
    exact sl_none hs _ _ _ H.B
  repeat' (first | ((with_reducible refine g_on ?_); (first | ((with_reducible refine g_mv ?_); refine l_p txs rfl rfl ?_) | ((with_reducible refine g_pk ?_); refine l_p txs rfl rfl ?_))) | ((with_reducible refine g_if ?_); (first | ((with_reducible refine g_mv ?_); refine l_p txs rfl rfl ?_) | ((with_reducible refine g_un ?_); (refine l_p txs rfl rfl ?_)) | ((with_reducible refine g_ix ?_); refine l_ix txs rfl rfl (by first | omega | assumption | decide) (by first | omega | assumption | decide) ?_))))
  rw [a11]
  (with_reducible refine is_l ?_); refine l_callv rfl rfl (by kernel_rfl) (rdigit_c c _) (fun w_ K => ?_)
  have H := H.call K
  cases hdc : digB c
  · have hs : statL (bl t) = none := by
      rw [hraw, if_neg]
      rintro ⟨_, _, d1, _⟩
      rw [hdc] at d1; cases d1
    repeat' (first | (with_reducible first | refine p_tn ?_ | refine p_tr ?_ | refine wp_seq ?_ | refine w_reg ?_) | (with_reducible (refine is_if ?_; (refine w_ift rfl ?_))) | (with_reducible first | refine wp_ret ?_ | refine l_nil ?_) | ((with_reducible refine g_on ?_); (first | ((with_reducible refine g_as ?_); refine l_p txs rfl rfl ?_) | ((with_reducible refine g_pk ?_); refine l_p txs rfl rfl ?_))) | ((with_reducible refine g_if ?_); ((with_reducible refine g_un ?_); (refine l_p txs rfl rfl ?_))))
    refine end4 rfl rfl rfl rfl rfl ?_
    exact sl_none hs _ _ _ H.B
  have ra : 48 ≤ at_ (bl t) 9 ∧ at_ (bl t) 9 ≤ 57 := by rw [a9]; have := hda; unfold digB at this; simpa using this
  have rb : 48 ≤ at_ (bl t) 10 ∧ at_ (bl t) 10 ≤ 57 := by rw [a10]; have := hdb; unfold digB at this; simpa using this
  have rc : 48 ≤ at_ (bl t) 11 ∧ at_ (bl t) 11 ≤ 57 := by rw [a11]; have := hdc; unfold digB at this; simpa using this
  repeat' (first | (with_reducible first | refine p_tn ?_ | refine wp_seq ?_ | refine w_reg ?_) | (with_reducible (refine is_if ?_; (refine w_iff rfl ?_))) | (with_reducible first | refine wp_skip ?_ | refine l_nil ?_) | ((with_reducible refine g_on ?_); (first | ((with_reducible refine g_mv ?_); refine l_p txs rfl rfl ?_) | ((with_reducible refine g_pk ?_); refine l_p txs rfl rfl ?_) | ((with_reducible refine g_cl ?_); refine l_p txs rfl rfl ?_))) | ((with_reducible refine g_if ?_); ((with_reducible refine g_un ?_); (refine l_p txs rfl rfl ?_))))
  (with_reducible refine is_l ?_); refine l_t txs rfl rfl (fun h3 => ?_) (fun h3 => ?_)
  · have h3' : ¬ r = [] := fun e => by rw [e] at hr12; simp at hr12; omega
    have hr0 : at_ (bl t) 12 = r.head h3' := by
      rw [hl]
      cases r with
      | nil => exact absurd rfl h3'
      | cons z zs => rfl
    repeat' (first | ((with_reducible refine g_on ?_); ((with_reducible refine g_mv ?_); refine l_p txs rfl rfl ?_)) | ((with_reducible refine g_if ?_); (first | ((with_reducible refine g_mv ?_); refine l_p txs rfl rfl ?_) | ((with_reducible refine g_ix ?_); refine l_ix txs rfl rfl (by first | omega | assumption | decide) (by first | omega | assumption | decide) ?_))))
    (with_reducible refine is_l ?_); refine l_t txs rfl rfl (fun h4 => ?_) (fun h4 => ?_)
    · have hs : statL (bl t) = none := by
        rw [hraw, if_neg]
        rintro ⟨_, _, _, hh | hh, _⟩
        · exact h3' hh
        · rw [List.head?_eq_some_head h3'] at hh
          rw [hr0] at h4
          exact h4 (Option.some.inj hh)
      repeat' (first | (with_reducible first | refine p_tn ?_ | refine p_tr ?_ | refine wp_seq ?_ | refine w_reg ?_) | (with_reducible (refine is_if ?_; (refine w_ift rfl ?_))) | (with_reducible first | refine wp_ret ?_ | refine l_nil ?_) | ((with_reducible refine g_on ?_); (first | ((with_reducible refine g_as ?_); refine l_p txs rfl rfl ?_) | ((with_reducible refine g_pk ?_); refine l_p txs rfl rfl ?_))) | ((with_reducible refine g_if ?_); (first | (refine l_off rfl ?_) | ((with_reducible refine g_mv ?_); refine l_p txs rfl rfl ?_) | ((with_reducible refine g_pk ?_); refine l_p txs rfl rfl ?_))))
      refine end4 rfl rfl rfl rfl rfl ?_
      exact sl_none hs _ _ _ H.B
    have hh : r.head? = some 32 := by
      rw [hr0] at h4
      rw [List.head?_eq_some_head h3']
      exact congrArg some (Classical.byContradiction h4)
    repeat' ((with_reducible refine g_if ?_); (first | ((with_reducible refine g_mv ?_); refine l_p txs rfl rfl ?_) | ((with_reducible refine g_sl ?_); refine l_sl txs rfl rfl (by first | omega | assumption | decide) (by first | omega | assumption | decide) (by first | omega | assumption | decide) ?_)))
    have hva := rvalued_c (t.extract (12 : Int).toNat ((t.size : Int)).toNat) w_ (by have n3' : (t.extract (12 : Int).toNat ((t.size : Int)).toNat).size = r.length := n3; omega)
    rw [show bl (t.extract (12 : Int).toNat ((t.size : Int)).toNat) = r from x3] at hva
    (with_reducible refine is_l ?_); refine l_callv rfl rfl (by kernel_rfl) hva (fun w_ K => ?_)
    have H := H.call K
    cases hvl : r.all valB
    · have hs : statL (bl t) = none := by
        rw [hraw, if_neg]
        rintro ⟨_, _, _, _, hh⟩
        rw [hvl] at hh
        cases hh
      repeat' (first | (with_reducible first | refine p_tn ?_ | refine p_tr ?_ | refine wp_seq ?_ | refine w_reg ?_) | (with_reducible (refine is_if ?_; (refine w_ift rfl ?_))) | (with_reducible first | refine wp_ret ?_ | refine l_nil ?_) | ((with_reducible refine g_on ?_); (first | ((with_reducible refine g_as ?_); refine l_p txs rfl rfl ?_) | ((with_reducible refine g_pk ?_); refine l_p txs rfl rfl ?_))) | ((with_reducible refine g_if ?_); (first | ((with_reducible refine g_pk ?_); refine l_p txs rfl rfl ?_) | ((with_reducible refine g_un ?_); (refine l_p txs rfl rfl ?_)))))
      refine end4 rfl rfl rfl rfl rfl ?_
      exact sl_none hs _ _ _ H.B
    have hgood : digB a = true ∧ digB b = true ∧ digB c = true ∧ (r = [] ∨ r.head? = some 32) ∧ r.all valB = true := ⟨hda, hdb, hdc, .inr hh, hvl⟩
    repeat' (first | (with_reducible first | refine p_tn ?_ | refine wp_seq ?_ | refine w_reg ?_) | (with_reducible (refine is_if ?_; (refine w_iff rfl ?_))) | (with_reducible first | refine wp_skip ?_ | refine l_nil ?_) | ((with_reducible refine g_on ?_); (first | ((with_reducible refine g_mv ?_); refine l_p txs rfl rfl ?_) | ((with_reducible refine g_pk ?_); refine l_p txs rfl rfl ?_) | ((with_reducible refine g_sl ?_); refine l_sl txs rfl rfl (by first | omega | assumption | decide) (by first | omega | assumption | decide) (by first | omega | assumption | decide) ?_))) | ((with_reducible refine g_if ?_); (first | ((with_reducible refine g_pk ?_); refine l_p txs rfl rfl ?_) | ((with_reducible refine g_un ?_); (refine l_p txs rfl rfl ?_)))))
    have hver := rversion_c (t.extract (0 : Int).toNat (8 : Int).toNat) w_
    rw [show bl (t.extract (0 : Int).toNat (8 : Int).toNat) = [p0, p1, p2, p3, p4, p5, p6, p7] from x2] at hver
    cases hvs : versS [p0, p1, p2, p3, p4, p5, p6, p7] with
    | none =>
      have hs : statL (bl t) = none := by rw [hraw, hvs]; simp
      rw [verI_none hvs] at hver
      (with_reducible refine is_l ?_); refine l_callv rfl rfl (by kernel_rfl) hver (fun w_ K => ?_)
      have H := H.call K
      repeat' (first | (with_reducible first | refine p_tn ?_ | refine wp_seq ?_ | refine l_nil ?_) | ((with_reducible refine g_on ?_); (first | ((with_reducible refine g_mv ?_); refine l_p txs rfl rfl ?_) | ((with_reducible refine g_as ?_); refine l_p txs rfl rfl ?_) | ((with_reducible refine g_ex ?_); refine l_p txs rfl rfl ?_))))
      have HS := H.pick [] [] (by decide) (by decide) rfl rfl
      refine d_start (fun w_ => Hp w w_ _ _) #[false, false, false, false, false, false, false, false, false, false, false, false, false, false, false, false, false, false, false, false, false, false, false, false] (by kernel_rfl) rfl rfl HS.drew ?_
      have H := H.drew
      have HS := HS.drew
      first | (refine d_pure (i := 0) #[true, false, false, false, false, false, false, false, false, false, false, false, false, false, false, false, false, false, false, false, false, false, false, false] rfl (by kernel_rfl) (fun _ _ _ h => h) rfl (fun w_ => evP_run (o := ⟨_, _, _, _, _, _⟩) txs rfl) ?_)
      first | (refine d_pure (i := 1) #[true, true, false, false, false, false, false, false, false, false, false, false, false, false, false, false, false, false, false, false, false, false, false, false] rfl (by kernel_rfl) (fun _ _ _ h => h) rfl (fun w_ => evP_run (o := ⟨_, _, _, _, _, _⟩) txs rfl) ?_)
      first | (refine d_pure (i := 2) #[true, true, true, false, false, false, false, false, false, false, false, false, false, false, false, false, false, false, false, false, false, false, false, false] rfl (by kernel_rfl) (fun _ _ _ h => h) rfl (fun w_ => evP_run (o := ⟨_, _, _, _, _, _⟩) txs rfl) ?_)
      first | (refine d_pure (i := 3) #[true, true, true, true, false, false, false, false, false, false, false, false, false, false, false, false, false, false, false, false, false, false, false, false] rfl (by kernel_rfl) (fun _ _ _ h => h) rfl (fun w_ => evI_run (o := ⟨_, _, _, _, _, _⟩) txs rfl (by omega) (by omega)) ?_)
      first | (refine d_pure (i := 4) #[true, true, true, true, true, false, false, false, false, false, false, false, false, false, false, false, false, false, false, false, false, false, false, false] rfl (by kernel_rfl) (fun _ _ _ h => h) rfl (fun w_ => evP_run (o := ⟨_, _, _, _, _, _⟩) txs rfl) ?_) | (refine d_pure (i := 4) #[true, true, true, true, true, false, false, false, false, false, false, false, false, false, false, false, false, false, false, false, false, false, false, false] rfl (by kernel_rfl) (fun _ _ _ h => h) rfl (fun w_ => (evA_run (o := ⟨_, _, _, _, _, _⟩) txs rfl).trans (by rw [wrap_in (by first | exact in_i64 (by omega) (by omega) | exact in_u8 (by omega) (by omega) | exact in_u64 (by omega) (by omega) | exact in_i32 (by omega) (by omega))])) ?_)
      first | (refine d_pure (i := 5) #[true, true, true, true, true, true, false, false, false, false, false, false, false, false, false, false, false, false, false, false, false, false, false, false] rfl (by kernel_rfl) (fun _ _ _ h => h) rfl (fun w_ => evP_run (o := ⟨_, _, _, _, _, _⟩) txs rfl) ?_) | (refine d_pure (i := 5) #[true, true, true, true, true, true, false, false, false, false, false, false, false, false, false, false, false, false, false, false, false, false, false, false] rfl (by kernel_rfl) (fun _ _ _ h => h) rfl (fun w_ => (evA_run (o := ⟨_, _, _, _, _, _⟩) txs rfl).trans (by rw [wrap_in (by first | exact in_i64 (by omega) (by omega) | exact in_u8 (by omega) (by omega) | exact in_u64 (by omega) (by omega) | exact in_i32 (by omega) (by omega))])) ?_)
      first | (refine d_pure (i := 6) #[true, true, true, true, true, true, true, false, false, false, false, false, false, false, false, false, false, false, false, false, false, false, false, false] rfl (by kernel_rfl) (fun _ _ _ h => h) rfl (fun w_ => evP_run (o := ⟨_, _, _, _, _, _⟩) txs rfl) ?_) | (refine d_pure (i := 6) #[true, true, true, true, true, true, true, false, false, false, false, false, false, false, false, false, false, false, false, false, false, false, false, false] rfl (by kernel_rfl) (fun _ _ _ h => h) rfl (fun w_ => (evA_run (o := ⟨_, _, _, _, _, _⟩) txs rfl).trans (by rw [wrap_in (by first | exact in_i64 (by omega) (by omega) | exact in_u8 (by omega) (by omega) | exact in_u64 (by omega) (by omega) | exact in_i32 (by omega) (by omega))])) ?_)
      first | (refine d_pure (i := 7) #[true, true, true, true, true, true, true, true, false, false, false, false, false, false, false, false, false, false, false, false, false, false, false, false] rfl (by kernel_rfl) (fun _ _ _ h => h) rfl (fun w_ => evP_run (o := ⟨_, _, _, _, _, _⟩) txs rfl) ?_)
      first | (refine d_pure (i := 8) #[true, true, true, true, true, true, true, true, true, false, false, false, false, false, false, false, false, false, false, false, false, false, false, false] rfl (by kernel_rfl) (fun _ _ _ h => h) rfl (fun w_ => evI_run (o := ⟨_, _, _, _, _, _⟩) txs rfl (by omega) (by omega)) ?_)
      first | (refine d_pure (i := 9) #[true, true, true, true, true, true, true, true, true, true, false, false, false, false, false, false, false, false, false, false, false, false, false, false] rfl (by kernel_rfl) (fun _ _ _ h => h) rfl (fun w_ => evP_run (o := ⟨_, _, _, _, _, _⟩) txs rfl) ?_) | (refine d_pure (i := 9) #[true, true, true, true, true, true, true, true, true, true, false, false, false, false, false, false, false, false, false, false, false, false, false, false] rfl (by kernel_rfl) (fun _ _ _ h => h) rfl (fun w_ => (evA_run (o := ⟨_, _, _, _, _, _⟩) txs rfl).trans (by rw [wrap_in (by first | exact in_i64 (by omega) (by omega) | exact in_u8 (by omega) (by omega) | exact in_u64 (by omega) (by omega) | exact in_i32 (by omega) (by omega))])) ?_)
      first | (refine d_pure (i := 10) #[true, true, true, true, true, true, true, true, true, true, true, false, false, false, false, false, false, false, false, false, false, false, false, false] rfl (by kernel_rfl) (fun _ _ _ h => h) rfl (fun w_ => evP_run (o := ⟨_, _, _, _, _, _⟩) txs rfl) ?_) | (refine d_pure (i := 10) #[true, true, true, true, true, true, true, true, true, true, true, false, false, false, false, false, false, false, false, false, false, false, false, false] rfl (by kernel_rfl) (fun _ _ _ h => h) rfl (fun w_ => (evA_run (o := ⟨_, _, _, _, _, _⟩) txs rfl).trans (by rw [wrap_in (by first | exact in_i64 (by omega) (by omega) | exact in_u8 (by omega) (by omega) | exact in_u64 (by omega) (by omega) | exact in_i32 (by omega) (by omega))])) ?_)
      first | (refine d_pure (i := 11) #[true, true, true, true, true, true, true, true, true, true, true, true, false, false, false, false, false, false, false, false, false, false, false, false] rfl (by kernel_rfl) (fun _ _ _ h => h) rfl (fun w_ => evP_run (o := ⟨_, _, _, _, _, _⟩) txs rfl) ?_) | (refine d_pure (i := 11) #[true, true, true, true, true, true, true, true, true, true, true, true, false, false, false, false, false, false, false, false, false, false, false, false] rfl (by kernel_rfl) (fun _ _ _ h => h) rfl (fun w_ => (evA_run (o := ⟨_, _, _, _, _, _⟩) txs rfl).trans (by rw [wrap_in (by first | exact in_i64 (by omega) (by omega) | exact in_u8 (by omega) (by omega) | exact in_u64 (by omega) (by omega) | exact in_i32 (by omega) (by omega))])) ?_)
      first | (refine d_pure (i := 12) #[true, true, true, true, true, true, true, true, true, true, true, true, true, false, false, false, false, false, false, false, false, false, false, false] rfl (by kernel_rfl) (fun _ _ _ h => h) rfl (fun w_ => evP_run (o := ⟨_, _, _, _, _, _⟩) txs rfl) ?_) | (refine d_pure (i := 12) #[true, true, true, true, true, true, true, true, true, true, true, true, true, false, false, false, false, false, false, false, false, false, false, false] rfl (by kernel_rfl) (fun _ _ _ h => h) rfl (fun w_ => (evA_run (o := ⟨_, _, _, _, _, _⟩) txs rfl).trans (by rw [wrap_in (by first | exact in_i64 (by omega) (by omega) | exact in_u8 (by omega) (by omega) | exact in_u64 (by omega) (by omega) | exact in_i32 (by omega) (by omega))])) ?_)
      first | (refine d_pure (i := 13) #[true, true, true, true, true, true, true, true, true, true, true, true, true, true, false, false, false, false, false, false, false, false, false, false] rfl (by kernel_rfl) (fun _ _ _ h => h) rfl (fun w_ => evP_run (o := ⟨_, _, _, _, _, _⟩) txs rfl) ?_)
      first | (refine d_pure (i := 14) #[true, true, true, true, true, true, true, true, true, true, true, true, true, true, true, false, false, false, false, false, false, false, false, false] rfl (by kernel_rfl) (fun _ _ _ h => h) rfl (fun w_ => evI_run (o := ⟨_, _, _, _, _, _⟩) txs rfl (by omega) (by omega)) ?_)
      first | (refine d_pure (i := 15) #[true, true, true, true, true, true, true, true, true, true, true, true, true, true, true, true, false, false, false, false, false, false, false, false] rfl (by kernel_rfl) (fun _ _ _ h => h) rfl (fun w_ => evP_run (o := ⟨_, _, _, _, _, _⟩) txs rfl) ?_) | (refine d_pure (i := 15) #[true, true, true, true, true, true, true, true, true, true, true, true, true, true, true, true, false, false, false, false, false, false, false, false] rfl (by kernel_rfl) (fun _ _ _ h => h) rfl (fun w_ => (evA_run (o := ⟨_, _, _, _, _, _⟩) txs rfl).trans (by rw [wrap_in (by first | exact in_i64 (by omega) (by omega) | exact in_u8 (by omega) (by omega) | exact in_u64 (by omega) (by omega) | exact in_i32 (by omega) (by omega))])) ?_)
      first | (refine d_pure (i := 16) #[true, true, true, true, true, true, true, true, true, true, true, true, true, true, true, true, true, false, false, false, false, false, false, false] rfl (by kernel_rfl) (fun _ _ _ h => h) rfl (fun w_ => evP_run (o := ⟨_, _, _, _, _, _⟩) txs rfl) ?_) | (refine d_pure (i := 16) #[true, true, true, true, true, true, true, true, true, true, true, true, true, true, true, true, true, false, false, false, false, false, false, false] rfl (by kernel_rfl) (fun _ _ _ h => h) rfl (fun w_ => (evA_run (o := ⟨_, _, _, _, _, _⟩) txs rfl).trans (by rw [wrap_in (by first | exact in_i64 (by omega) (by omega) | exact in_u8 (by omega) (by omega) | exact in_u64 (by omega) (by omega) | exact in_i32 (by omega) (by omega))])) ?_)
      first | (refine d_pure (i := 17) #[true, true, true, true, true, true, true, true, true, true, true, true, true, true, true, true, true, true, false, false, false, false, false, false] rfl (by kernel_rfl) (fun _ _ _ h => h) rfl (fun w_ => evP_run (o := ⟨_, _, _, _, _, _⟩) txs rfl) ?_) | (refine d_pure (i := 17) #[true, true, true, true, true, true, true, true, true, true, true, true, true, true, true, true, true, true, false, false, false, false, false, false] rfl (by kernel_rfl) (fun _ _ _ h => h) rfl (fun w_ => (evA_run (o := ⟨_, _, _, _, _, _⟩) txs rfl).trans (by rw [wrap_in (by first | exact in_i64 (by omega) (by omega) | exact in_u8 (by omega) (by omega) | exact in_u64 (by omega) (by omega) | exact in_i32 (by omega) (by omega))])) ?_)
      first | (refine d_pure (i := 18) #[true, true, true, true, true, true, true, true, true, true, true, true, true, true, true, true, true, true, true, false, false, false, false, false] rfl (by kernel_rfl) (fun _ _ _ h => h) rfl (fun w_ => evP_run (o := ⟨_, _, _, _, _, _⟩) txs rfl) ?_)
      first | (refine d_pure (i := 19) #[true, true, true, true, true, true, true, true, true, true, true, true, true, true, true, true, true, true, true, true, false, false, false, false] rfl (by kernel_rfl) (fun _ _ _ h => h) rfl (fun w_ => evT_no (o := ⟨_, _, _, _, _, _⟩) txs rfl (fun h => absurd h (by decide))) ?_)
      first | (refine d_pure (i := 20) #[true, true, true, true, true, true, true, true, true, true, true, true, true, true, true, true, true, true, true, true, true, false, false, false] rfl (by kernel_rfl) (fun _ _ _ h => h) rfl (fun w_ => evP_run (o := ⟨_, _, _, _, _, _⟩) txs rfl) ?_)
      first | (refine d_pure (i := 21) #[true, true, true, true, true, true, true, true, true, true, true, true, true, true, true, true, true, true, true, true, true, true, false, false] rfl (by kernel_rfl) (fun _ _ _ h => h) rfl (fun w_ => evP_run (o := ⟨_, _, _, _, _, _⟩) txs rfl) ?_)
      first | (refine d_pure (i := 22) #[true, true, true, true, true, true, true, true, true, true, true, true, true, true, true, true, true, true, true, true, true, true, true, false] rfl (by kernel_rfl) (fun _ _ _ h => h) rfl (fun w_ => evP_run (o := ⟨_, _, _, _, _, _⟩) txs rfl) ?_)
      first | (refine d_pure (i := 23) #[true, true, true, true, true, true, true, true, true, true, true, true, true, true, true, true, true, true, true, true, true, true, true, true] rfl (by kernel_rfl) (fun _ _ _ h => h) rfl (fun w_ => evP_run (o := ⟨_, _, _, _, _, _⟩) txs rfl) ?_)
      refine d_done rfl ?_
      repeat' (with_reducible first | refine p_tn ?_ | refine wp_ret ?_)
      refine end4 rfl rfl rfl rfl rfl ?_
      exact sl_none hs _ _ _ H.B
    | some p =>
      obtain ⟨va, y⟩ := p
      have hvr := vers_rng hvs
      rw [verI_some hvs] at hver
      rw [hvs] at hraw
      simp only [if_pos hgood] at hraw
      (with_reducible refine is_l ?_); refine l_callv rfl rfl (by kernel_rfl) hver (fun w_ K => ?_)
      have H := H.call K
      repeat' (first | (with_reducible first | refine p_tn ?_ | refine wp_seq ?_ | refine l_nil ?_) | ((with_reducible refine g_on ?_); (first | ((with_reducible refine g_mv ?_); refine l_p txs rfl rfl ?_) | ((with_reducible refine g_as ?_); refine l_p txs rfl rfl ?_) | ((with_reducible refine g_ex ?_); refine l_p txs rfl rfl ?_))))
      have HS := H.pick [] [] (by decide) (by decide) rfl rfl
      refine d_start (fun w_ => Hp w w_ _ _) #[false, false, false, false, false, false, false, false, false, false, false, false, false, false, false, false, false, false, false, false, false, false, false, false] (by kernel_rfl) rfl rfl HS.drew ?_
      have H := H.drew
      have HS := HS.drew
      first | (refine d_pure (i := 0) #[true, false, false, false, false, false, false, false, false, false, false, false, false, false, false, false, false, false, false, false, false, false, false, false] rfl (by kernel_rfl) (fun _ _ _ h => h) rfl (fun w_ => evP_run (o := ⟨_, _, _, _, _, _⟩) txs rfl) ?_)
      first | (refine d_pure (i := 1) #[true, true, false, false, false, false, false, false, false, false, false, false, false, false, false, false, false, false, false, false, false, false, false, false] rfl (by kernel_rfl) (fun _ _ _ h => h) rfl (fun w_ => evP_run (o := ⟨_, _, _, _, _, _⟩) txs rfl) ?_)
      first | (refine d_pure (i := 2) #[true, true, true, false, false, false, false, false, false, false, false, false, false, false, false, false, false, false, false, false, false, false, false, false] rfl (by kernel_rfl) (fun _ _ _ h => h) rfl (fun w_ => evP_run (o := ⟨_, _, _, _, _, _⟩) txs rfl) ?_)
      first | (refine d_pure (i := 3) #[true, true, true, true, false, false, false, false, false, false, false, false, false, false, false, false, false, false, false, false, false, false, false, false] rfl (by kernel_rfl) (fun _ _ _ h => h) rfl (fun w_ => evI_run (o := ⟨_, _, _, _, _, _⟩) txs rfl (by omega) (by omega)) ?_)
      first | (refine d_pure (i := 4) #[true, true, true, true, true, false, false, false, false, false, false, false, false, false, false, false, false, false, false, false, false, false, false, false] rfl (by kernel_rfl) (fun _ _ _ h => h) rfl (fun w_ => evP_run (o := ⟨_, _, _, _, _, _⟩) txs rfl) ?_) | (refine d_pure (i := 4) #[true, true, true, true, true, false, false, false, false, false, false, false, false, false, false, false, false, false, false, false, false, false, false, false] rfl (by kernel_rfl) (fun _ _ _ h => h) rfl (fun w_ => (evA_run (o := ⟨_, _, _, _, _, _⟩) txs rfl).trans (by rw [wrap_in (by first | exact in_i64 (by omega) (by omega) | exact in_u8 (by omega) (by omega) | exact in_u64 (by omega) (by omega) | exact in_i32 (by omega) (by omega))])) ?_)
      first | (refine d_pure (i := 5) #[true, true, true, true, true, true, false, false, false, false, false, false, false, false, false, false, false, false, false, false, false, false, false, false] rfl (by kernel_rfl) (fun _ _ _ h => h) rfl (fun w_ => evP_run (o := ⟨_, _, _, _, _, _⟩) txs rfl) ?_) | (refine d_pure (i := 5) #[true, true, true, true, true, true, false, false, false, false, false, false, false, false, false, false, false, false, false, false, false, false, false, false] rfl (by kernel_rfl) (fun _ _ _ h => h) rfl (fun w_ => (evA_run (o := ⟨_, _, _, _, _, _⟩) txs rfl).trans (by rw [wrap_in (by first | exact in_i64 (by omega) (by omega) | exact in_u8 (by omega) (by omega) | exact in_u64 (by omega) (by omega) | exact in_i32 (by omega) (by omega))])) ?_)
      first | (refine d_pure (i := 6) #[true, true, true, true, true, true, true, false, false, false, false, false, false, false, false, false, false, false, false, false, false, false, false, false] rfl (by kernel_rfl) (fun _ _ _ h => h) rfl (fun w_ => evP_run (o := ⟨_, _, _, _, _, _⟩) txs rfl) ?_) | (refine d_pure (i := 6) #[true, true, true, true, true, true, true, false, false, false, false, false, false, false, false, false, false, false, false, false, false, false, false, false] rfl (by kernel_rfl) (fun _ _ _ h => h) rfl (fun w_ => (evA_run (o := ⟨_, _, _, _, _, _⟩) txs rfl).trans (by rw [wrap_in (by first | exact in_i64 (by omega) (by omega) | exact in_u8 (by omega) (by omega) | exact in_u64 (by omega) (by omega) | exact in_i32 (by omega) (by omega))])) ?_)
      first | (refine d_pure (i := 7) #[true, true, true, true, true, true, true, true, false, false, false, false, false, false, false, false, false, false, false, false, false, false, false, false] rfl (by kernel_rfl) (fun _ _ _ h => h) rfl (fun w_ => evP_run (o := ⟨_, _, _, _, _, _⟩) txs rfl) ?_)
      first | (refine d_pure (i := 8) #[true, true, true, true, true, true, true, true, true, false, false, false, false, false, false, false, false, false, false, false, false, false, false, false] rfl (by kernel_rfl) (fun _ _ _ h => h) rfl (fun w_ => evI_run (o := ⟨_, _, _, _, _, _⟩) txs rfl (by omega) (by omega)) ?_)
      first | (refine d_pure (i := 9) #[true, true, true, true, true, true, true, true, true, true, false, false, false, false, false, false, false, false, false, false, false, false, false, false] rfl (by kernel_rfl) (fun _ _ _ h => h) rfl (fun w_ => evP_run (o := ⟨_, _, _, _, _, _⟩) txs rfl) ?_) | (refine d_pure (i := 9) #[true, true, true, true, true, true, true, true, true, true, false, false, false, false, false, false, false, false, false, false, false, false, false, false] rfl (by kernel_rfl) (fun _ _ _ h => h) rfl (fun w_ => (evA_run (o := ⟨_, _, _, _, _, _⟩) txs rfl).trans (by rw [wrap_in (by first | exact in_i64 (by omega) (by omega) | exact in_u8 (by omega) (by omega) | exact in_u64 (by omega) (by omega) | exact in_i32 (by omega) (by omega))])) ?_)
      first | (refine d_pure (i := 10) #[true, true, true, true, true, true, true, true, true, true, true, false, false, false, false, false, false, false, false, false, false, false, false, false] rfl (by kernel_rfl) (fun _ _ _ h => h) rfl (fun w_ => evP_run (o := ⟨_, _, _, _, _, _⟩) txs rfl) ?_) | (refine d_pure (i := 10) #[true, true, true, true, true, true, true, true, true, true, true, false, false, false, false, false, false, false, false, false, false, false, false, false] rfl (by kernel_rfl) (fun _ _ _ h => h) rfl (fun w_ => (evA_run (o := ⟨_, _, _, _, _, _⟩) txs rfl).trans (by rw [wrap_in (by first | exact in_i64 (by omega) (by omega) | exact in_u8 (by omega) (by omega) | exact in_u64 (by omega) (by omega) | exact in_i32 (by omega) (by omega))])) ?_)
      first | (refine d_pure (i := 11) #[true, true, true, true, true, true, true, true, true, true, true, true, false, false, false, false, false, false, false, false, false, false, false, false] rfl (by kernel_rfl) (fun _ _ _ h => h) rfl (fun w_ => evP_run (o := ⟨_, _, _, _, _, _⟩) txs rfl) ?_) | (refine d_pure (i := 11) #[true, true, true, true, true, true, true, true, true, true, true, true, false, false, false, false, false, false, false, false, false, false, false, false] rfl (by kernel_rfl) (fun _ _ _ h => h) rfl (fun w_ => (evA_run (o := ⟨_, _, _, _, _, _⟩) txs rfl).trans (by rw [wrap_in (by first | exact in_i64 (by omega) (by omega) | exact in_u8 (by omega) (by omega) | exact in_u64 (by omega) (by omega) | exact in_i32 (by omega) (by omega))])) ?_)
      first | (refine d_pure (i := 12) #[true, true, true, true, true, true, true, true, true, true, true, true, true, false, false, false, false, false, false, false, false, false, false, false] rfl (by kernel_rfl) (fun _ _ _ h => h) rfl (fun w_ => evP_run (o := ⟨_, _, _, _, _, _⟩) txs rfl) ?_) | (refine d_pure (i := 12) #[true, true, true, true, true, true, true, true, true, true, true, true, true, false, false, false, false, false, false, false, false, false, false, false] rfl (by kernel_rfl) (fun _ _ _ h => h) rfl (fun w_ => (evA_run (o := ⟨_, _, _, _, _, _⟩) txs rfl).trans (by rw [wrap_in (by first | exact in_i64 (by omega) (by omega) | exact in_u8 (by omega) (by omega) | exact in_u64 (by omega) (by omega) | exact in_i32 (by omega) (by omega))])) ?_)
      first | (refine d_pure (i := 13) #[true, true, true, true, true, true, true, true, true, true, true, true, true, true, false, false, false, false, false, false, false, false, false, false] rfl (by kernel_rfl) (fun _ _ _ h => h) rfl (fun w_ => evP_run (o := ⟨_, _, _, _, _, _⟩) txs rfl) ?_)
      first | (refine d_pure (i := 14) #[true, true, true, true, true, true, true, true, true, true, true, true, true, true, true, false, false, false, false, false, false, false, false, false] rfl (by kernel_rfl) (fun _ _ _ h => h) rfl (fun w_ => evI_run (o := ⟨_, _, _, _, _, _⟩) txs rfl (by omega) (by omega)) ?_)
      first | (refine d_pure (i := 15) #[true, true, true, true, true, true, true, true, true, true, true, true, true, true, true, true, false, false, false, false, false, false, false, false] rfl (by kernel_rfl) (fun _ _ _ h => h) rfl (fun w_ => evP_run (o := ⟨_, _, _, _, _, _⟩) txs rfl) ?_) | (refine d_pure (i := 15) #[true, true, true, true, true, true, true, true, true, true, true, true, true, true, true, true, false, false, false, false, false, false, false, false] rfl (by kernel_rfl) (fun _ _ _ h => h) rfl (fun w_ => (evA_run (o := ⟨_, _, _, _, _, _⟩) txs rfl).trans (by rw [wrap_in (by first | exact in_i64 (by omega) (by omega) | exact in_u8 (by omega) (by omega) | exact in_u64 (by omega) (by omega) | exact in_i32 (by omega) (by omega))])) ?_)
      first | (refine d_pure (i := 16) #[true, true, true, true, true, true, true, true, true, true, true, true, true, true, true, true, true, false, false, false, false, false, false, false] rfl (by kernel_rfl) (fun _ _ _ h => h) rfl (fun w_ => evP_run (o := ⟨_, _, _, _, _, _⟩) txs rfl) ?_) | (refine d_pure (i := 16) #[true, true, true, true, true, true, true, true, true, true, true, true, true, true, true, true, true, false, false, false, false, false, false, false] rfl (by kernel_rfl) (fun _ _ _ h => h) rfl (fun w_ => (evA_run (o := ⟨_, _, _, _, _, _⟩) txs rfl).trans (by rw [wrap_in (by first | exact in_i64 (by omega) (by omega) | exact in_u8 (by omega) (by omega) | exact in_u64 (by omega) (by omega) | exact in_i32 (by omega) (by omega))])) ?_)
      first | (refine d_pure (i := 17) #[true, true, true, true, true, true, true, true, true, true, true, true, true, true, true, true, true, true, false, false, false, false, false, false] rfl (by kernel_rfl) (fun _ _ _ h => h) rfl (fun w_ => evP_run (o := ⟨_, _, _, _, _, _⟩) txs rfl) ?_) | (refine d_pure (i := 17) #[true, true, true, true, true, true, true, true, true, true, true, true, true, true, true, true, true, true, false, false, false, false, false, false] rfl (by kernel_rfl) (fun _ _ _ h => h) rfl (fun w_ => (evA_run (o := ⟨_, _, _, _, _, _⟩) txs rfl).trans (by rw [wrap_in (by first | exact in_i64 (by omega) (by omega) | exact in_u8 (by omega) (by omega) | exact in_u64 (by omega) (by omega) | exact in_i32 (by omega) (by omega))])) ?_)
      first | (refine d_pure (i := 18) #[true, true, true, true, true, true, true, true, true, true, true, true, true, true, true, true, true, true, true, false, false, false, false, false] rfl (by kernel_rfl) (fun _ _ _ h => h) rfl (fun w_ => evP_run (o := ⟨_, _, _, _, _, _⟩) txs rfl) ?_)
      first | (refine d_pure (i := 19) #[true, true, true, true, true, true, true, true, true, true, true, true, true, true, true, true, true, true, true, true, false, false, false, false] rfl (by kernel_rfl) (fun _ _ _ h => h) rfl (fun w_ => evT_yes (o := ⟨_, _, _, _, _, _⟩) txs rfl hvr.1.1) ?_)
      first | (refine d_pure (i := 20) #[true, true, true, true, true, true, true, true, true, true, true, true, true, true, true, true, true, true, true, true, true, false, false, false] rfl (by kernel_rfl) (fun _ _ _ h => h) rfl (fun w_ => evP_run (o := ⟨_, _, _, _, _, _⟩) txs rfl) ?_)
      first | (refine d_pure (i := 21) #[true, true, true, true, true, true, true, true, true, true, true, true, true, true, true, true, true, true, true, true, true, true, false, false] rfl (by kernel_rfl) (fun _ _ _ h => h) rfl (fun w_ => evP_run (o := ⟨_, _, _, _, _, _⟩) txs rfl) ?_)
      first | (refine d_pure (i := 22) #[true, true, true, true, true, true, true, true, true, true, true, true, true, true, true, true, true, true, true, true, true, true, true, false] rfl (by kernel_rfl) (fun _ _ _ h => h) rfl (fun w_ => evP_run (o := ⟨_, _, _, _, _, _⟩) txs rfl) ?_)
      first | (refine d_pure (i := 23) #[true, true, true, true, true, true, true, true, true, true, true, true, true, true, true, true, true, true, true, true, true, true, true, true] rfl (by kernel_rfl) (fun _ _ _ h => h) rfl (fun w_ => evP_run (o := ⟨_, _, _, _, _, _⟩) txs rfl) ?_)
      refine d_done rfl ?_
      repeat' (with_reducible first | refine p_tn ?_ | refine wp_ret ?_)
      refine end4 rfl rfl rfl rfl rfl ?_
      rw [a9, a10, a11]
      exact sl_some hraw H.B
  · have hr0 : r = [] := List.eq_nil_of_length_eq_zero (by omega)
    have hgood : digB a = true ∧ digB b = true ∧ digB c = true ∧ (r = [] ∨ r.head? = some 32) ∧ r.all valB = true := ⟨hda, hdb, hdc, .inl hr0, by rw [hr0]; rfl⟩
    repeat' (first | (with_reducible first | refine p_tn ?_ | refine wp_seq ?_ | refine w_reg ?_) | (with_reducible (refine is_if ?_; (refine w_iff rfl ?_))) | (with_reducible first | refine wp_skip ?_ | refine l_nil ?_) | ((with_reducible refine g_on ?_); (first | ((with_reducible refine g_mv ?_); refine l_p txs rfl rfl ?_) | ((with_reducible refine g_pk ?_); refine l_p txs rfl rfl ?_) | ((with_reducible refine g_sl ?_); refine l_sl txs rfl rfl (by first | omega | assumption | decide) (by first | omega | assumption | decide) (by first | omega | assumption | decide) ?_))) | ((with_reducible refine g_if ?_); (refine l_off rfl ?_)))
    have hver := rversion_c (t.extract (0 : Int).toNat (8 : Int).toNat) w_
    rw [show bl (t.extract (0 : Int).toNat (8 : Int).toNat) = [p0, p1, p2, p3, p4, p5, p6, p7] from x2] at hver
    cases hvs : versS [p0, p1, p2, p3, p4, p5, p6, p7] with
    | none =>
      have hs : statL (bl t) = none := by rw [hraw, hvs]; simp
      rw [verI_none hvs] at hver
      (with_reducible refine is_l ?_); refine l_callv rfl rfl (by kernel_rfl) hver (fun w_ K => ?_)
      have H := H.call K
      repeat' (first | (with_reducible first | refine p_tn ?_ | refine wp_seq ?_ | refine l_nil ?_) | ((with_reducible refine g_on ?_); (first | ((with_reducible refine g_mv ?_); refine l_p txs rfl rfl ?_) | ((with_reducible refine g_as ?_); refine l_p txs rfl rfl ?_) | ((with_reducible refine g_ex ?_); refine l_p txs rfl rfl ?_))))
      have HS := H.pick [] [] (by decide) (by decide) rfl rfl
      refine d_start (fun w_ => Hp w w_ _ _) #[false, false, false, false, false, false, false, false, false, false, false, false, false, false, false, false, false, false, false, false, false, false, false, false] (by kernel_rfl) rfl rfl HS.drew ?_
      have H := H.drew
      have HS := HS.drew
      first | (refine d_pure (i := 0) #[true, false, false, false, false, false, false, false, false, false, false, false, false, false, false, false, false, false, false, false, false, false, false, false] rfl (by kernel_rfl) (fun _ _ _ h => h) rfl (fun w_ => evP_run (o := ⟨_, _, _, _, _, _⟩) txs rfl) ?_)
      first | (refine d_pure (i := 1) #[true, true, false, false, false, false, false, false, false, false, false, false, false, false, false, false, false, false, false, false, false, false, false, false] rfl (by kernel_rfl) (fun _ _ _ h => h) rfl (fun w_ => evP_run (o := ⟨_, _, _, _, _, _⟩) txs rfl) ?_)
      first | (refine d_pure (i := 2) #[true, true, true, false, false, false, false, false, false, false, false, false, false, false, false, false, false, false, false, false, false, false, false, false] rfl (by kernel_rfl) (fun _ _ _ h => h) rfl (fun w_ => evP_run (o := ⟨_, _, _, _, _, _⟩) txs rfl) ?_)
      first | (refine d_pure (i := 3) #[true, true, true, true, false, false, false, false, false, false, false, false, false, false, false, false, false, false, false, false, false, false, false, false] rfl (by kernel_rfl) (fun _ _ _ h => h) rfl (fun w_ => evI_run (o := ⟨_, _, _, _, _, _⟩) txs rfl (by omega) (by omega)) ?_)
      first | (refine d_pure (i := 4) #[true, true, true, true, true, false, false, false, false, false, false, false, false, false, false, false, false, false, false, false, false, false, false, false] rfl (by kernel_rfl) (fun _ _ _ h => h) rfl (fun w_ => evP_run (o := ⟨_, _, _, _, _, _⟩) txs rfl) ?_) | (refine d_pure (i := 4) #[true, true, true, true, true, false, false, false, false, false, false, false, false, false, false, false, false, false, false, false, false, false, false, false] rfl (by kernel_rfl) (fun _ _ _ h => h) rfl (fun w_ => (evA_run (o := ⟨_, _, _, _, _, _⟩) txs rfl).trans (by rw [wrap_in (by first | exact in_i64 (by omega) (by omega) | exact in_u8 (by omega) (by omega) | exact in_u64 (by omega) (by omega) | exact in_i32 (by omega) (by omega))])) ?_)
      first | (refine d_pure (i := 5) #[true, true, true, true, true, true, false, false, false, false, false, false, false, false, false, false, false, false, false, false, false, false, false, false] rfl (by kernel_rfl) (fun _ _ _ h => h) rfl (fun w_ => evP_run (o := ⟨_, _, _, _, _, _⟩) txs rfl) ?_) | (refine d_pure (i := 5) #[true, true, true, true, true, true, false, false, false, false, false, false, false, false, false, false, false, false, false, false, false, false, false, false] rfl (by kernel_rfl) (fun _ _ _ h => h) rfl (fun w_ => (evA_run (o := ⟨_, _, _, _, _, _⟩) txs rfl).trans (by rw [wrap_in (by first | exact in_i64 (by omega) (by omega) | exact in_u8 (by omega) (by omega) | exact in_u64 (by omega) (by omega) | exact in_i32 (by omega) (by omega))])) ?_)
      first | (refine d_pure (i := 6) #[true, true, true, true, true, true, true, false, false, false, false, false, false, false, false, false, false, false, false, false, false, false, false, false] rfl (by kernel_rfl) (fun _ _ _ h => h) rfl (fun w_ => evP_run (o := ⟨_, _, _, _, _, _⟩) txs rfl) ?_) | (refine d_pure (i := 6) #[true, true, true, true, true, true, true, false, false, false, false, false, false, false, false, false, false, false, false, false, false, false, false, false] rfl (by kernel_rfl) (fun _ _ _ h => h) rfl (fun w_ => (evA_run (o := ⟨_, _, _, _, _, _⟩) txs rfl).trans (by rw [wrap_in (by first | exact in_i64 (by omega) (by omega) | exact in_u8 (by omega) (by omega) | exact in_u64 (by omega) (by omega) | exact in_i32 (by omega) (by omega))])) ?_)
      first | (refine d_pure (i := 7) #[true, true, true, true, true, true, true, true, false, false, false, false, false, false, false, false, false, false, false, false, false, false, false, false] rfl (by kernel_rfl) (fun _ _ _ h => h) rfl (fun w_ => evP_run (o := ⟨_, _, _, _, _, _⟩) txs rfl) ?_)
      first | (refine d_pure (i := 8) #[true, true, true, true, true, true, true, true, true, false, false, false, false, false, false, false, false, false, false, false, false, false, false, false] rfl (by kernel_rfl) (fun _ _ _ h => h) rfl (fun w_ => evI_run (o := ⟨_, _, _, _, _, _⟩) txs rfl (by omega) (by omega)) ?_)
      first | (refine d_pure (i := 9) #[true, true, true, true, true, true, true, true, true, true, false, false, false, false, false, false, false, false, false, false, false, false, false, false] rfl (by kernel_rfl) (fun _ _ _ h => h) rfl (fun w_ => evP_run (o := ⟨_, _, _, _, _, _⟩) txs rfl) ?_) | (refine d_pure (i := 9) #[true, true, true, true, true, true, true, true, true, true, false, false, false, false, false, false, false, false, false, false, false, false, false, false] rfl (by kernel_rfl) (fun _ _ _ h => h) rfl (fun w_ => (evA_run (o := ⟨_, _, _, _, _, _⟩) txs rfl).trans (by rw [wrap_in (by first | exact in_i64 (by omega) (by omega) | exact in_u8 (by omega) (by omega) | exact in_u64 (by omega) (by omega) | exact in_i32 (by omega) (by omega))])) ?_)
      first | (refine d_pure (i := 10) #[true, true, true, true, true, true, true, true, true, true, true, false, false, false, false, false, false, false, false, false, false, false, false, false] rfl (by kernel_rfl) (fun _ _ _ h => h) rfl (fun w_ => evP_run (o := ⟨_, _, _, _, _, _⟩) txs rfl) ?_) | (refine d_pure (i := 10) #[true, true, true, true, true, true, true, true, true, true, true, false, false, false, false, false, false, false, false, false, false, false, false, false] rfl (by kernel_rfl) (fun _ _ _ h => h) rfl (fun w_ => (evA_run (o := ⟨_, _, _, _, _, _⟩) txs rfl).trans (by rw [wrap_in (by first | exact in_i64 (by omega) (by omega) | exact in_u8 (by omega) (by omega) | exact in_u64 (by omega) (by omega) | exact in_i32 (by omega) (by omega))])) ?_)
      first | (refine d_pure (i := 11) #[true, true, true, true, true, true, true, true, true, true, true, true, false, false, false, false, false, false, false, false, false, false, false, false] rfl (by kernel_rfl) (fun _ _ _ h => h) rfl (fun w_ => evP_run (o := ⟨_, _, _, _, _, _⟩) txs rfl) ?_) | (refine d_pure (i := 11) #[true, true, true, true, true, true, true, true, true, true, true, true, false, false, false, false, false, false, false, false, false, false, false, false] rfl (by kernel_rfl) (fun _ _ _ h => h) rfl (fun w_ => (evA_run (o := ⟨_, _, _, _, _, _⟩) txs rfl).trans (by rw [wrap_in (by first | exact in_i64 (by omega) (by omega) | exact in_u8 (by omega) (by omega) | exact in_u64 (by omega) (by omega) | exact in_i32 (by omega) (by omega))])) ?_)
      first | (refine d_pure (i := 12) #[true, true, true, true, true, true, true, true, true, true, true, true, true, false, false, false, false, false, false, false, false, false, false, false] rfl (by kernel_rfl) (fun _ _ _ h => h) rfl (fun w_ => evP_run (o := ⟨_, _, _, _, _, _⟩) txs rfl) ?_) | (refine d_pure (i := 12) #[true, true, true, true, true, true, true, true, true, true, true, true, true, false, false, false, false, false, false, false, false, false, false, false] rfl (by kernel_rfl) (fun _ _ _ h => h) rfl (fun w_ => (evA_run (o := ⟨_, _, _, _, _, _⟩) txs rfl).trans (by rw [wrap_in (by first | exact in_i64 (by omega) (by omega) | exact in_u8 (by omega) (by omega) | exact in_u64 (by omega) (by omega) | exact in_i32 (by omega) (by omega))])) ?_)
      first | (refine d_pure (i := 13) #[true, true, true, true, true, true, true, true, true, true, true, true, true, true, false, false, false, false, false, false, false, false, false, false] rfl (by kernel_rfl) (fun _ _ _ h => h) rfl (fun w_ => evP_run (o := ⟨_, _, _, _, _, _⟩) txs rfl) ?_)
      first | (refine d_pure (i := 14) #[true, true, true, true, true, true, true, true, true, true, true, true, true, true, true, false, false, false, false, false, false, false, false, false] rfl (by kernel_rfl) (fun _ _ _ h => h) rfl (fun w_ => evI_run (o := ⟨_, _, _, _, _, _⟩) txs rfl (by omega) (by omega)) ?_)
      first | (refine d_pure (i := 15) #[true, true, true, true, true, true, true, true, true, true, true, true, true, true, true, true, false, false, false, false, false, false, false, false] rfl (by kernel_rfl) (fun _ _ _ h => h) rfl (fun w_ => evP_run (o := ⟨_, _, _, _, _, _⟩) txs rfl) ?_) | (refine d_pure (i := 15) #[true, true, true, true, true, true, true, true, true, true, true, true, true, true, true, true, false, false, false, false, false, false, false, false] rfl (by kernel_rfl) (fun _ _ _ h => h) rfl (fun w_ => (evA_run (o := ⟨_, _, _, _, _, _⟩) txs rfl).trans (by rw [wrap_in (by first | exact in_i64 (by omega) (by omega) | exact in_u8 (by omega) (by omega) | exact in_u64 (by omega) (by omega) | exact in_i32 (by omega) (by omega))])) ?_)
      first | (refine d_pure (i := 16) #[true, true, true, true, true, true, true, true, true, true, true, true, true, true, true, true, true, false, false, false, false, false, false, false] rfl (by kernel_rfl) (fun _ _ _ h => h) rfl (fun w_ => evP_run (o := ⟨_, _, _, _, _, _⟩) txs rfl) ?_) | (refine d_pure (i := 16) #[true, true, true, true, true, true, true, true, true, true, true, true, true, true, true, true, true, false, false, false, false, false, false, false] rfl (by kernel_rfl) (fun _ _ _ h => h) rfl (fun w_ => (evA_run (o := ⟨_, _, _, _, _, _⟩) txs rfl).trans (by rw [wrap_in (by first | exact in_i64 (by omega) (by omega) | exact in_u8 (by omega) (by omega) | exact in_u64 (by omega) (by omega) | exact in_i32 (by omega) (by omega))])) ?_)
      first | (refine d_pure (i := 17) #[true, true, true, true, true, true, true, true, true, true, true, true, true, true, true, true, true, true, false, false, false, false, false, false] rfl (by kernel_rfl) (fun _ _ _ h => h) rfl (fun w_ => evP_run (o := ⟨_, _, _, _, _, _⟩) txs rfl) ?_) | (refine d_pure (i := 17) #[true, true, true, true, true, true, true, true, true, true, true, true, true, true, true, true, true, true, false, false, false, false, false, false] rfl (by kernel_rfl) (fun _ _ _ h => h) rfl (fun w_ => (evA_run (o := ⟨_, _, _, _, _, _⟩) txs rfl).trans (by rw [wrap_in (by first | exact in_i64 (by omega) (by omega) | exact in_u8 (by omega) (by omega) | exact in_u64 (by omega) (by omega) | exact in_i32 (by omega) (by omega))])) ?_)
      first | (refine d_pure (i := 18) #[true, true, true, true, true, true, true, true, true, true, true, true, true, true, true, true, true, true, true, false, false, false, false, false] rfl (by kernel_rfl) (fun _ _ _ h => h) rfl (fun w_ => evP_run (o := ⟨_, _, _, _, _, _⟩) txs rfl) ?_)
      first | (refine d_pure (i := 19) #[true, true, true, true, true, true, true, true, true, true, true, true, true, true, true, true, true, true, true, true, false, false, false, false] rfl (by kernel_rfl) (fun _ _ _ h => h) rfl (fun w_ => evT_no (o := ⟨_, _, _, _, _, _⟩) txs rfl (fun h => absurd h (by decide))) ?_)
      first | (refine d_pure (i := 20) #[true, true, true, true, true, true, true, true, true, true, true, true, true, true, true, true, true, true, true, true, true, false, false, false] rfl (by kernel_rfl) (fun _ _ _ h => h) rfl (fun w_ => evP_run (o := ⟨_, _, _, _, _, _⟩) txs rfl) ?_)
      first | (refine d_pure (i := 21) #[true, true, true, true, true, true, true, true, true, true, true, true, true, true, true, true, true, true, true, true, true, true, false, false] rfl (by kernel_rfl) (fun _ _ _ h => h) rfl (fun w_ => evP_run (o := ⟨_, _, _, _, _, _⟩) txs rfl) ?_)
      first | (refine d_pure (i := 22) #[true, true, true, true, true, true, true, true, true, true, true, true, true, true, true, true, true, true, true, true, true, true, true, false] rfl (by kernel_rfl) (fun _ _ _ h => h) rfl (fun w_ => evP_run (o := ⟨_, _, _, _, _, _⟩) txs rfl) ?_)
      first | (refine d_pure (i := 23) #[true, true, true, true, true, true, true, true, true, true, true, true, true, true, true, true, true, true, true, true, true, true, true, true] rfl (by kernel_rfl) (fun _ _ _ h => h) rfl (fun w_ => evP_run (o := ⟨_, _, _, _, _, _⟩) txs rfl) ?_)
      refine d_done rfl ?_
      repeat' (with_reducible first | refine p_tn ?_ | refine wp_ret ?_)
      refine end4 rfl rfl rfl rfl rfl ?_
      exact sl_none hs _ _ _ H.B
    | some p =>
      obtain ⟨va, y⟩ := p
      have hvr := vers_rng hvs
      rw [verI_some hvs] at hver
      rw [hvs] at hraw
      simp only [if_pos hgood] at hraw
      (with_reducible refine is_l ?_); refine l_callv rfl rfl (by kernel_rfl) hver (fun w_ K => ?_)
      have H := H.call K
      repeat' (first | (with_reducible first | refine p_tn ?_ | refine wp_seq ?_ | refine l_nil ?_) | ((with_reducible refine g_on ?_); (first | ((with_reducible refine g_mv ?_); refine l_p txs rfl rfl ?_) | ((with_reducible refine g_as ?_); refine l_p txs rfl rfl ?_) | ((with_reducible refine g_ex ?_); refine l_p txs rfl rfl ?_))))
      have HS := H.pick [] [] (by decide) (by decide) rfl rfl
      refine d_start (fun w_ => Hp w w_ _ _) #[false, false, false, false, false, false, false, false, false, false, false, false, false, false, false, false, false, false, false, false, false, false, false, false] (by kernel_rfl) rfl rfl HS.drew ?_
      have H := H.drew
      have HS := HS.drew
      first | (refine d_pure (i := 0) #[true, false, false, false, false, false, false, false, false, false, false, false, false, false, false, false, false, false, false, false, false, false, false, false] rfl (by kernel_rfl) (fun _ _ _ h => h) rfl (fun w_ => evP_run (o := ⟨_, _, _, _, _, _⟩) txs rfl) ?_)
      first | (refine d_pure (i := 1) #[true, true, false, false, false, false, false, false, false, false, false, false, false, false, false, false, false, false, false, false, false, false, false, false] rfl (by kernel_rfl) (fun _ _ _ h => h) rfl (fun w_ => evP_run (o := ⟨_, _, _, _, _, _⟩) txs rfl) ?_)
      first | (refine d_pure (i := 2) #[true, true, true, false, false, false, false, false, false, false, false, false, false, false, false, false, false, false, false, false, false, false, false, false] rfl (by kernel_rfl) (fun _ _ _ h => h) rfl (fun w_ => evP_run (o := ⟨_, _, _, _, _, _⟩) txs rfl) ?_)
      first | (refine d_pure (i := 3) #[true, true, true, true, false, false, false, false, false, false, false, false, false, false, false, false, false, false, false, false, false, false, false, false] rfl (by kernel_rfl) (fun _ _ _ h => h) rfl (fun w_ => evI_run (o := ⟨_, _, _, _, _, _⟩) txs rfl (by omega) (by omega)) ?_)
      first | (refine d_pure (i := 4) #[true, true, true, true, true, false, false, false, false, false, false, false, false, false, false, false, false, false, false, false, false, false, false, false] rfl (by kernel_rfl) (fun _ _ _ h => h) rfl (fun w_ => evP_run (o := ⟨_, _, _, _, _, _⟩) txs rfl) ?_) | (refine d_pure (i := 4) #[true, true, true, true, true, false, false, false, false, false, false, false, false, false, false, false, false, false, false, false, false, false, false, false] rfl (by kernel_rfl) (fun _ _ _ h => h) rfl (fun w_ => (evA_run (o := ⟨_, _, _, _, _, _⟩) txs rfl).trans (by rw [wrap_in (by first | exact in_i64 (by omega) (by omega) | exact in_u8 (by omega) (by omega) | exact in_u64 (by omega) (by omega) | exact in_i32 (by omega) (by omega))])) ?_)
      first | (refine d_pure (i := 5) #[true, true, true, true, true, true, false, false, false, false, false, false, false, false, false, false, false, false, false, false, false, false, false, false] rfl (by kernel_rfl) (fun _ _ _ h => h) rfl (fun w_ => evP_run (o := ⟨_, _, _, _, _, _⟩) txs rfl) ?_) | (refine d_pure (i := 5) #[true, true, true, true, true, true, false, false, false, false, false, false, false, false, false, false, false, false, false, false, false, false, false, false] rfl (by kernel_rfl) (fun _ _ _ h => h) rfl (fun w_ => (evA_run (o := ⟨_, _, _, _, _, _⟩) txs rfl).trans (by rw [wrap_in (by first | exact in_i64 (by omega) (by omega) | exact in_u8 (by omega) (by omega) | exact in_u64 (by omega) (by omega) | exact in_i32 (by omega) (by omega))])) ?_)
      first | (refine d_pure (i := 6) #[true, true, true, true, true, true, true, false, false, false, false, false, false, false, false, false, false, false, false, false, false, false, false, false] rfl (by kernel_rfl) (fun _ _ _ h => h) rfl (fun w_ => evP_run (o := ⟨_, _, _, _, _, _⟩) txs rfl) ?_) | (refine d_pure (i := 6) #[true, true, true, true, true, true, true, false, false, false, false, false, false, false, false, false, false, false, false, false, false, false, false, false] rfl (by kernel_rfl) (fun _ _ _ h => h) rfl (fun w_ => (evA_run (o := ⟨_, _, _, _, _, _⟩) txs rfl).trans (by rw [wrap_in (by first | exact in_i64 (by omega) (by omega) | exact in_u8 (by omega) (by omega) | exact in_u64 (by omega) (by omega) | exact in_i32 (by omega) (by omega))])) ?_)
      first | (refine d_pure (i := 7) #[true, true, true, true, true, true, true, true, false, false, false, false, false, false, false, false, false, false, false, false, false, false, false, false] rfl (by kernel_rfl) (fun _ _ _ h => h) rfl (fun w_ => evP_run (o := ⟨_, _, _, _, _, _⟩) txs rfl) ?_)
      first | (refine d_pure (i := 8) #[true, true, true, true, true, true, true, true, true, false, false, false, false, false, false, false, false, false, false, false, false, false, false, false] rfl (by kernel_rfl) (fun _ _ _ h => h) rfl (fun w_ => evI_run (o := ⟨_, _, _, _, _, _⟩) txs rfl (by omega) (by omega)) ?_)
      first | (refine d_pure (i := 9) #[true, true, true, true, true, true, true, true, true, true, false, false, false, false, false, false, false, false, false, false, false, false, false, false] rfl (by kernel_rfl) (fun _ _ _ h => h) rfl (fun w_ => evP_run (o := ⟨_, _, _, _, _, _⟩) txs rfl) ?_) | (refine d_pure (i := 9) #[true, true, true, true, true, true, true, true, true, true, false, false, false, false, false, false, false, false, false, false, false, false, false, false] rfl (by kernel_rfl) (fun _ _ _ h => h) rfl (fun w_ => (evA_run (o := ⟨_, _, _, _, _, _⟩) txs rfl).trans (by rw [wrap_in (by first | exact in_i64 (by omega) (by omega) | exact in_u8 (by omega) (by omega) | exact in_u64 (by omega) (by omega) | exact in_i32 (by omega) (by omega))])) ?_)
      first | (refine d_pure (i := 10) #[true, true, true, true, true, true, true, true, true, true, true, false, false, false, false, false, false, false, false, false, false, false, false, false] rfl (by kernel_rfl) (fun _ _ _ h => h) rfl (fun w_ => evP_run (o := ⟨_, _, _, _, _, _⟩) txs rfl) ?_) | (refine d_pure (i := 10) #[true, true, true, true, true, true, true, true, true, true, true, false, false, false, false, false, false, false, false, false, false, false, false, false] rfl (by kernel_rfl) (fun _ _ _ h => h) rfl (fun w_ => (evA_run (o := ⟨_, _, _, _, _, _⟩) txs rfl).trans (by rw [wrap_in (by first | exact in_i64 (by omega) (by omega) | exact in_u8 (by omega) (by omega) | exact in_u64 (by omega) (by omega) | exact in_i32 (by omega) (by omega))])) ?_)
      first | (refine d_pure (i := 11) #[true, true, true, true, true, true, true, true, true, true, true, true, false, false, false, false, false, false, false, false, false, false, false, false] rfl (by kernel_rfl) (fun _ _ _ h => h) rfl (fun w_ => evP_run (o := ⟨_, _, _, _, _, _⟩) txs rfl) ?_) | (refine d_pure (i := 11) #[true, true, true, true, true, true, true, true, true, true, true, true, false, false, false, false, false, false, false, false, false, false, false, false] rfl (by kernel_rfl) (fun _ _ _ h => h) rfl (fun w_ => (evA_run (o := ⟨_, _, _, _, _, _⟩) txs rfl).trans (by rw [wrap_in (by first | exact in_i64 (by omega) (by omega) | exact in_u8 (by omega) (by omega) | exact in_u64 (by omega) (by omega) | exact in_i32 (by omega) (by omega))])) ?_)
      first | (refine d_pure (i := 12) #[true, true, true, true, true, true, true, true, true, true, true, true, true, false, false, false, false, false, false, false, false, false, false, false] rfl (by kernel_rfl) (fun _ _ _ h => h) rfl (fun w_ => evP_run (o := ⟨_, _, _, _, _, _⟩) txs rfl) ?_) | (refine d_pure (i := 12) #[true, true, true, true, true, true, true, true, true, true, true, true, true, false, false, false, false, false, false, false, false, false, false, false] rfl (by kernel_rfl) (fun _ _ _ h => h) rfl (fun w_ => (evA_run (o := ⟨_, _, _, _, _, _⟩) txs rfl).trans (by rw [wrap_in (by first | exact in_i64 (by omega) (by omega) | exact in_u8 (by omega) (by omega) | exact in_u64 (by omega) (by omega) | exact in_i32 (by omega) (by omega))])) ?_)
      first | (refine d_pure (i := 13) #[true, true, true, true, true, true, true, true, true, true, true, true, true, true, false, false, false, false, false, false, false, false, false, false] rfl (by kernel_rfl) (fun _ _ _ h => h) rfl (fun w_ => evP_run (o := ⟨_, _, _, _, _, _⟩) txs rfl) ?_)
      first | (refine d_pure (i := 14) #[true, true, true, true, true, true, true, true, true, true, true, true, true, true, true, false, false, false, false, false, false, false, false, false] rfl (by kernel_rfl) (fun _ _ _ h => h) rfl (fun w_ => evI_run (o := ⟨_, _, _, _, _, _⟩) txs rfl (by omega) (by omega)) ?_)
      first | (refine d_pure (i := 15) #[true, true, true, true, true, true, true, true, true, true, true, true, true, true, true, true, false, false, false, false, false, false, false, false] rfl (by kernel_rfl) (fun _ _ _ h => h) rfl (fun w_ => evP_run (o := ⟨_, _, _, _, _, _⟩) txs rfl) ?_) | (refine d_pure (i := 15) #[true, true, true, true, true, true, true, true, true, true, true, true, true, true, true, true, false, false, false, false, false, false, false, false] rfl (by kernel_rfl) (fun _ _ _ h => h) rfl (fun w_ => (evA_run (o := ⟨_, _, _, _, _, _⟩) txs rfl).trans (by rw [wrap_in (by first | exact in_i64 (by omega) (by omega) | exact in_u8 (by omega) (by omega) | exact in_u64 (by omega) (by omega) | exact in_i32 (by omega) (by omega))])) ?_)
      first | (refine d_pure (i := 16) #[true, true, true, true, true, true, true, true, true, true, true, true, true, true, true, true, true, false, false, false, false, false, false, false] rfl (by kernel_rfl) (fun _ _ _ h => h) rfl (fun w_ => evP_run (o := ⟨_, _, _, _, _, _⟩) txs rfl) ?_) | (refine d_pure (i := 16) #[true, true, true, true, true, true, true, true, true, true, true, true, true, true, true, true, true, false, false, false, false, false, false, false] rfl (by kernel_rfl) (fun _ _ _ h => h) rfl (fun w_ => (evA_run (o := ⟨_, _, _, _, _, _⟩) txs rfl).trans (by rw [wrap_in (by first | exact in_i64 (by omega) (by omega) | exact in_u8 (by omega) (by omega) | exact in_u64 (by omega) (by omega) | exact in_i32 (by omega) (by omega))])) ?_)
      first | (refine d_pure (i := 17) #[true, true, true, true, true, true, true, true, true, true, true, true, true, true, true, true, true, true, false, false, false, false, false, false] rfl (by kernel_rfl) (fun _ _ _ h => h) rfl (fun w_ => evP_run (o := ⟨_, _, _, _, _, _⟩) txs rfl) ?_) | (refine d_pure (i := 17) #[true, true, true, true, true, true, true, true, true, true, true, true, true, true, true, true, true, true, false, false, false, false, false, false] rfl (by kernel_rfl) (fun _ _ _ h => h) rfl (fun w_ => (evA_run (o := ⟨_, _, _, _, _, _⟩) txs rfl).trans (by rw [wrap_in (by first | exact in_i64 (by omega) (by omega) | exact in_u8 (by omega) (by omega) | exact in_u64 (by omega) (by omega) | exact in_i32 (by omega) (by omega))])) ?_)
      first | (refine d_pure (i := 18) #[true, true, true, true, true, true, true, true, true, true, true, true, true, true, true, true, true, true, true, false, false, false, false, false] rfl (by kernel_rfl) (fun _ _ _ h => h) rfl (fun w_ => evP_run (o := ⟨_, _, _, _, _, _⟩) txs rfl) ?_)
      first | (refine d_pure (i := 19) #[true, true, true, true, true, true, true, true, true, true, true, true, true, true, true, true, true, true, true, true, false, false, false, false] rfl (by kernel_rfl) (fun _ _ _ h => h) rfl (fun w_ => evT_yes (o := ⟨_, _, _, _, _, _⟩) txs rfl hvr.1.1) ?_)
      first | (refine d_pure (i := 20) #[true, true, true, true, true, true, true, true, true, true, true, true, true, true, true, true, true, true, true, true, true, false, false, false] rfl (by kernel_rfl) (fun _ _ _ h => h) rfl (fun w_ => evP_run (o := ⟨_, _, _, _, _, _⟩) txs rfl) ?_)
      first | (refine d_pure (i := 21) #[true, true, true, true, true, true, true, true, true, true, true, true, true, true, true, true, true, true, true, true, true, true, false, false] rfl (by kernel_rfl) (fun _ _ _ h => h) rfl (fun w_ => evP_run (o := ⟨_, _, _, _, _, _⟩) txs rfl) ?_)
      first | (refine d_pure (i := 22) #[true, true, true, true, true, true, true, true, true, true, true, true, true, true, true, true, true, true, true, true, true, true, true, false] rfl (by kernel_rfl) (fun _ _ _ h => h) rfl (fun w_ => evP_run (o := ⟨_, _, _, _, _, _⟩) txs rfl) ?_)
      first | (refine d_pure (i := 23) #[true, true, true, true, true, true, true, true, true, true, true, true, true, true, true, true, true, true, true, true, true, true, true, true] rfl (by kernel_rfl) (fun _ _ _ h => h) rfl (fun w_ => evP_run (o := ⟨_, _, _, _, _, _⟩) txs rfl) ?_)
      refine d_done rfl ?_
      repeat' (with_reducible first | refine p_tn ?_ | refine wp_ret ?_)
      refine end4 rfl rfl rfl rfl rfl ?_
      rw [a9, a10, a11]
      exact sl_some hraw H.B
end Go.Proofs.YthgojbdpmcccaaaGreatDoor.K.Ref
end
section
namespace Go.Proofs.YthgojbdpmcccaaaGreatDoor.K.Ref
open Go.RowKit Go.Proofs.YthgojbdpmcccaaaGreatDoor.Q Go.Proofs.YthgojbdpmcccaaaGreatDoor.Wb Go.Proofs.YthgojbdpmcccaaaGreatDoorW.PrintWords Go.Proofs.YthgojbdpmcccaaaGreatDoor.K
set_option linter.unusedVariables false
set_option linter.unusedSimpArgs false
theorem h_stg {ty : Nat → Option Ty} {n : Nat} {ops : Array Oper} {Q : Exit → Act → World → Prop} {rest : List Oper} {f : Fr} {w0 w : World} {l l' : List Ent} {r : List RowD} {tt : TypeId} {ps : String} {af : Array Edge} {gd : Option (Nat × Bool)} {op : Op} {P : Program} (hty : Tys P ty) (ones : Ones P ty) (H : Hp w0 w l r) (k : Nat) {g i : Nat} {t t2 : TypeId} {τ : Ty} {cs cs' : List Value} {v : Value} (hw : want n ops f ⟨none, op, tt, ps, af, gd⟩ = true) (he : evSt n f op = some (t, g, i, v)) (ht : ty t = some τ) (hk : l[k]? = some (g, t2, cs)) (hi : Nat.blt i cs.length = true) (h1 : v.oneCell' = true) (hv : v.cells = #[v]) (hc : nfL (cs.set i v) some = some cs')
    (hl : nfL (l.set k (g, t2, cs')) some = some l') (h : ∀ w', Hp w0 w' l' r → w.grownBy w' (some g) → WL P ops Q rest (act n f) w') : WL P ops Q (⟨none, op, tt, ps, af, gd⟩ :: rest) (act n f) w := by
  have e1 := nfL_some hc
  have e2 := nfL_some hl
  subst e1 e2
  have hil : i < cs.length := by simpa [Nat.blt_eq] using hi
  unfold evSt at he
  split at he
  · rename_i t0 x y
    split at he
    · rename_i g0 i0 v0 hx hy
      simp only [Option.some.injEq, Prod.mk.injEq] at he
      obtain ⟨rfl, rfl, rfl, rfl⟩ := he
      have hy := nf_eq hy
      have hb := H.get k hk
      have hr := run_store_run (P := P) (o := i0) t0 v0 [v0] hb (by rw [hv]) (ones _ _ ht) (by simp; omega) (by simpa using h1)
      have hh := heap_setCells (fr := (0, 0)) [v0] i0 w cs hb (by simp; omega)
      have e3 : cs.take i0 ++ [v0] ++ cs.drop (i0 + [v0].length) = cs.set i0 v0 := by
        rw [List.set_eq_take_append_cons_drop, if_pos hil]; simp
      rw [e3] at hh
      refine h_skip hw ?_ (h _ (H.upd k hk (grown_setCells [v0] i0 w) hh) (grown_setCells [v0] i0 w))
      unfold execOp
      simp [hx, ← hy, hr]
    · cases he
  · cases he
theorem built_zS : Tryz.prog.built 120 [] = some zRes := by kernel_rfl
theorem built_rs (a b : Int) (A : Option Addr) (n c : Nat) (z : Bool) : Tryz.prog.built 120 [(0, .int .i64 a), (1, .int .i64 b), (2, .slice A n c), (4, .bool z)] = some #[.int .i64 a, .int .i64 b, .slice A n c, .slice none 0 0, .bool z] := by kernel_rfl
/-- What the reference's ParseResponse ends in. -/
def RsR (w : World) (b : L) (e : Ending) (w' : World) : Prop := match parseResS b with
  | .error k => e = .returned (.tuple #[.agg zRes, .int .i64 0, .int .i64 (k : Int)]) ∧ Below w.heap.size w w'
  | .ok (r, n) => ∃ Bf cf Bb cb, e = .returned (.tuple #[.agg (resA r Bf cf Bb cb), .int .i64 (n : Int), .int .i64 0]) ∧ Below w.heap.size w w' ∧ Rd w' Bf (fldC r.fields) ∧ ReadsInt w' .u8 Bb r.body.length r.body
theorem rsR_err {w w' : World} {b : L} {k : Nat} (h : parseResS b = .error k) (K : Below w.heap.size w w') : RsR w b (.returned (.tuple #[.agg zRes, .int .i64 0, .int .i64 (k : Int)])) w' := by unfold RsR; rw [h]; exact ⟨rfl, K⟩
set_option maxRecDepth 100000 in
set_option maxHeartbeats 8000000 in
theorem rParseResponse_c {w : World} {B : Option Addr} {c : Nat} {b : L} (h : ReadsInt w .u8 B b.length b) (hb : Bytes b) (hs : b.length ≤ 100000000) :
    Calls Tryz.prog 71 #[.slice B b.length c] w (RsR w b) := by
  refine enter (args := [.slice B b.length c]) Tryz.func71 rfl Tryz.ntmps71 rfl ?_
  have hbs := blS hb
  have zb := sizeS' hb
  have H := Hp.nil w
  repeat' (first | (with_reducible first | refine p_tn ?_ | refine wp_seq ?_ | refine w_reg ?_ | refine l_nil ?_) | ((with_reducible refine g_on ?_); (first | ((with_reducible refine g_mv ?_); refine l_p txs rfl rfl ?_) | ((with_reducible refine g_as ?_); refine l_p txs rfl rfl ?_) | ((with_reducible refine g_al ?_); refine h_alloc recs H rfl rfl (fun g_ w_ H => ?_)))))
  (with_reducible refine is_l ?_); refine l_text rfl rfl Tryz.underlying23 Tryz.underlying5 Tryz.underlying9 (h.below H.B) ?_
  repeat' (first | (with_reducible first | refine p_tn ?_ | refine wp_seq ?_ | refine w_reg ?_ | refine l_nil ?_) | ((with_reducible refine g_on ?_); (first | ((with_reducible refine g_mv ?_); refine l_p txs rfl rfl ?_) | ((with_reducible refine g_as ?_); refine l_p txs rfl rfl ?_))))
  (with_reducible refine is_l ?_); refine l_call rfl rfl (by kernel_rfl) (cutHead_c (strOfNums b) 141 _ (by omega)) (fun e w_ hR => ?_)
  unfold CtR at hR
  rw [hbs, zb] at hR
  cases hcut : cutS 141 b with
  | error k =>
    rw [hcut] at hR
    obtain ⟨A1, n1, c1, rfl, K⟩ := hR
    refine ⟨_, rfl, ?_⟩
    have H := H.call K
    have hres := ps_head hcut
    have hk0 := cut_code (by decide) hcut
    repeat' (first | (with_reducible first | refine p_tn ?_ | refine wp_seq ?_ | refine w_reg ?_ | refine l_nil ?_) | ((with_reducible refine g_on ?_); (first | ((with_reducible refine g_mv ?_); refine l_p txs rfl rfl ?_) | ((with_reducible refine g_as ?_); refine l_p txs rfl rfl ?_) | ((with_reducible refine g_ex ?_); refine l_p txs rfl rfl ?_))))
    (with_reducible refine is_l ?_); refine l_t txs rfl rfl (fun _ => ?_) (fun hh => absurd (by omega) hh)
    repeat' (first | (with_reducible first | refine p_tn ?_ | refine wp_seq ?_ | refine w_reg ?_) | (with_reducible (refine is_if ?_; (refine w_ift rfl ?_))) | (with_reducible refine l_nil ?_))
    (with_reducible refine is_l ?_); refine h_bld rfl rfl built_zS ?_
    repeat' (first | (with_reducible first | refine p_tn ?_ | refine p_tr ?_ | refine wp_ret ?_ | refine l_nil ?_) | ((with_reducible refine g_on ?_); (first | ((with_reducible refine g_mv ?_); refine l_p txs rfl rfl ?_) | ((with_reducible refine g_as ?_); refine l_p txs rfl rfl ?_) | ((with_reducible refine g_st ?_); (refine h_stR recs H 0 rfl rfl rfl rfl rfl rfl rfl rfl rfl (fun w_ H => ?_))))))
    refine end_ctt recs H 0 rfl rfl rfl rfl rfl rfl rfl ?_
    exact rsR_err hres H.B
  | ok z =>
    obtain ⟨first, ls, rest⟩ := z
    rw [hcut] at hR
    obtain ⟨A1, c1, rfl, K⟩ := hR
    refine ⟨_, rfl, ?_⟩
    obtain ⟨hb1, hl1, hb2, hb3, hl3⟩ := cut_bytes hb (by omega) hcut
    obtain ⟨_, pre, hpre⟩ := cutS_rest hcut
    have hrest : b.drop (b.length - rest.length) = rest := by
      have h2 := congrArg List.length hpre
      rw [List.length_append] at h2
      rw [hpre, List.length_append, Nat.add_sub_cancel, List.drop_left]
    have z1 := sizeS' hb1
    have H := H.join K
    repeat' (first | (with_reducible first | refine p_tn ?_ | refine wp_seq ?_ | refine w_reg ?_ | refine l_nil ?_) | ((with_reducible refine g_on ?_); (first | ((with_reducible refine g_mv ?_); refine l_p txs rfl rfl ?_) | ((with_reducible refine g_as ?_); refine l_p txs rfl rfl ?_) | ((with_reducible refine g_ex ?_); refine l_p txs rfl rfl ?_))))
    (with_reducible refine is_l ?_); refine l_t txs rfl rfl (fun hh => absurd rfl hh) (fun _ => ?_)
    repeat' (first | (with_reducible first | refine p_tn ?_ | refine wp_seq ?_ | refine w_reg ?_) | (with_reducible (refine is_if ?_; (refine w_iff rfl ?_))) | (with_reducible first | refine wp_skip ?_ | refine l_nil ?_) | ((with_reducible refine g_on ?_); ((with_reducible refine g_mv ?_); refine l_p txs rfl rfl ?_)))
    (with_reducible refine is_l ?_); refine l_call rfl rfl (by kernel_rfl) (rstatusLine_c (strOfNums first) (by omega)) (fun e w_ hR => ?_)
    unfold SlR at hR
    rw [blS hb1] at hR
    obtain ⟨K, hR⟩ := hR
    have hsl := stat_l first
    cases hst : statL first with
    | none =>
      rw [hst] at hR hsl
      obtain ⟨x, y, z, rfl⟩ := hR
      refine ⟨_, rfl, ?_⟩
      have hres := ps_stat hcut hsl
      have H := H.call K
      repeat' (first | (with_reducible first | refine p_tn ?_ | refine wp_seq ?_ | refine wp_block ?_ | refine w_reg ?_) | (with_reducible (refine is_if ?_; (refine w_ift rfl ?_))) | (with_reducible refine l_nil ?_) | ((with_reducible refine g_on ?_); (first | ((with_reducible refine g_mv ?_); refine l_p txs rfl rfl ?_) | ((with_reducible refine g_as ?_); refine l_p txs rfl rfl ?_) | ((with_reducible refine g_ex ?_); refine l_p txs rfl rfl ?_) | ((with_reducible refine g_un ?_); (refine l_p txs rfl rfl ?_)))))
      (with_reducible refine is_l ?_); refine h_bld rfl rfl built_zS ?_
      repeat' (first | (with_reducible first | refine p_tn ?_ | refine p_tr ?_ | refine p_br ?_ | refine wp_ret ?_ | refine l_nil ?_) | ((with_reducible refine g_on ?_); (first | ((with_reducible refine g_as ?_); refine l_p txs rfl rfl ?_) | ((with_reducible refine g_st ?_); (refine h_stR recs H 0 rfl rfl rfl rfl rfl rfl rfl rfl rfl (fun w_ H => ?_))))))
      refine end_ctt recs H 0 rfl rfl rfl rfl rfl rfl rfl ?_
      exact rsR_err hres H.B
    | some q =>
      obtain ⟨major, minor, st⟩ := q
      have hrng := statL_rng hst
      rw [hst] at hR hsl
      simp only at hR hsl
      subst hR
      refine ⟨_, rfl, ?_⟩
      have H := H.call K
      repeat' (first | (with_reducible first | refine p_tn ?_ | refine wp_seq ?_ | refine wp_block ?_ | refine w_reg ?_) | (with_reducible (refine is_if ?_; (refine w_iff rfl ?_))) | (with_reducible refine l_nil ?_) | ((with_reducible refine g_on ?_); (first | ((with_reducible refine g_mv ?_); refine l_p txs rfl rfl ?_) | ((with_reducible refine g_as ?_); refine l_p txs rfl rfl ?_) | ((with_reducible refine g_ex ?_); refine l_p txs rfl rfl ?_) | ((with_reducible refine g_un ?_); (refine l_p txs rfl rfl ?_)))))
      (with_reducible refine is_l ?_); refine l_t txs rfl rfl (fun h1 => ?_) (fun h1 => ?_)
      · rw [if_neg (fun a => h1 a.1)] at hsl
        have hres := ps_stat hcut hsl
        repeat' (first | (with_reducible first | refine p_tn ?_ | refine wp_seq ?_ | refine w_reg ?_) | (with_reducible (refine is_if ?_; (refine w_ift rfl ?_))) | (with_reducible refine l_nil ?_) | ((with_reducible refine g_on ?_); (first | ((with_reducible refine g_mv ?_); refine l_p txs rfl rfl ?_) | ((with_reducible refine g_as ?_); refine l_p txs rfl rfl ?_) | ((with_reducible refine g_pk ?_); refine l_p txs rfl rfl ?_))) | ((with_reducible refine g_if ?_); (refine l_off rfl ?_)))
        (with_reducible refine is_l ?_); refine h_bld rfl rfl built_zS ?_
        repeat' (first | (with_reducible first | refine p_tn ?_ | refine p_tr ?_ | refine p_br ?_ | refine wp_ret ?_ | refine l_nil ?_) | ((with_reducible refine g_on ?_); (first | ((with_reducible refine g_as ?_); refine l_p txs rfl rfl ?_) | ((with_reducible refine g_st ?_); (refine h_stR recs H 0 rfl rfl rfl rfl rfl rfl rfl rfl rfl (fun w_ H => ?_))))))
        refine end_ctt recs H 0 rfl rfl rfl rfl rfl rfl rfl ?_
        exact rsR_err hres H.B
      repeat' (first | ((with_reducible refine g_on ?_); ((with_reducible refine g_mv ?_); refine l_p txs rfl rfl ?_)) | ((with_reducible refine g_if ?_); ((with_reducible refine g_mv ?_); refine l_p txs rfl rfl ?_)))
      (with_reducible refine is_l ?_); refine l_t txs rfl rfl (fun h2 => ?_) (fun h2 => ?_)
      · rw [if_neg (fun a => by omega)] at hsl
        have hres := ps_stat hcut hsl
        repeat' (first | (with_reducible first | refine p_tn ?_ | refine wp_seq ?_ | refine w_reg ?_) | (with_reducible (refine is_if ?_; (refine w_ift rfl ?_))) | (with_reducible refine l_nil ?_) | ((with_reducible refine g_on ?_); (first | ((with_reducible refine g_as ?_); refine l_p txs rfl rfl ?_) | ((with_reducible refine g_pk ?_); refine l_p txs rfl rfl ?_))))
        (with_reducible refine is_l ?_); refine h_bld rfl rfl built_zS ?_
        repeat' (first | (with_reducible first | refine p_tn ?_ | refine p_tr ?_ | refine p_br ?_ | refine wp_ret ?_ | refine l_nil ?_) | ((with_reducible refine g_on ?_); (first | ((with_reducible refine g_as ?_); refine l_p txs rfl rfl ?_) | ((with_reducible refine g_st ?_); (refine h_stR recs H 0 rfl rfl rfl rfl rfl rfl rfl rfl rfl (fun w_ H => ?_))))))
        refine end_ctt recs H 0 rfl rfl rfl rfl rfl rfl rfl ?_
        exact rsR_err hres H.B
      rw [if_pos (by constructor <;> omega)] at hsl
      repeat' (first | (with_reducible first | refine p_tn ?_ | refine wp_seq ?_ | refine w_reg ?_) | (with_reducible (refine is_if ?_; (refine w_iff rfl ?_))) | (with_reducible refine l_nil ?_) | ((with_reducible refine g_on ?_); (first | ((with_reducible refine g_mv ?_); refine l_p txs rfl rfl ?_) | ((with_reducible refine g_as ?_); refine l_p txs rfl rfl ?_) | ((with_reducible refine g_pk ?_); refine l_p txs rfl rfl ?_))))
      (with_reducible refine is_l ?_); refine l_t txs rfl rfl (fun h3 => ?_) (fun h3 => ?_)
      · rw [if_neg (fun a => by omega)] at hsl
        have hres := ps_stat hcut hsl
        repeat' (first | (with_reducible first | refine p_tn ?_ | refine wp_seq ?_ | refine w_reg ?_) | (with_reducible (refine is_if ?_; (refine w_ift rfl ?_))) | (with_reducible refine l_nil ?_) | ((with_reducible refine g_on ?_); (first | ((with_reducible refine g_mv ?_); refine l_p txs rfl rfl ?_) | ((with_reducible refine g_as ?_); refine l_p txs rfl rfl ?_) | ((with_reducible refine g_pk ?_); refine l_p txs rfl rfl ?_))) | ((with_reducible refine g_if ?_); (refine l_off rfl ?_)))
        (with_reducible refine is_l ?_); refine h_bld rfl rfl built_zS ?_
        repeat' (first | (with_reducible first | refine p_tn ?_ | refine p_tr ?_ | refine p_br ?_ | refine wp_ret ?_ | refine l_nil ?_) | ((with_reducible refine g_on ?_); (first | ((with_reducible refine g_as ?_); refine l_p txs rfl rfl ?_) | ((with_reducible refine g_st ?_); (refine h_stR recs H 0 rfl rfl rfl rfl rfl rfl rfl rfl rfl (fun w_ H => ?_))))))
        refine end_ctt recs H 0 rfl rfl rfl rfl rfl rfl rfl ?_
        exact rsR_err hres H.B
      repeat' (first | ((with_reducible refine g_on ?_); ((with_reducible refine g_mv ?_); refine l_p txs rfl rfl ?_)) | ((with_reducible refine g_if ?_); ((with_reducible refine g_mv ?_); refine l_p txs rfl rfl ?_)))
      (with_reducible refine is_l ?_); refine l_t txs rfl rfl (fun h4 => ?_) (fun h4 => ?_)
      · rw [if_neg (fun a => by omega)] at hsl
        have hres := ps_stat hcut hsl
        repeat' (first | (with_reducible first | refine p_tn ?_ | refine wp_seq ?_ | refine w_reg ?_) | (with_reducible (refine is_if ?_; (refine w_ift rfl ?_))) | (with_reducible refine l_nil ?_) | ((with_reducible refine g_on ?_); (first | ((with_reducible refine g_as ?_); refine l_p txs rfl rfl ?_) | ((with_reducible refine g_pk ?_); refine l_p txs rfl rfl ?_))))
        (with_reducible refine is_l ?_); refine h_bld rfl rfl built_zS ?_
        repeat' (first | (with_reducible first | refine p_tn ?_ | refine p_tr ?_ | refine p_br ?_ | refine wp_ret ?_ | refine l_nil ?_) | ((with_reducible refine g_on ?_); (first | ((with_reducible refine g_as ?_); refine l_p txs rfl rfl ?_) | ((with_reducible refine g_st ?_); (refine h_stR recs H 0 rfl rfl rfl rfl rfl rfl rfl rfl rfl (fun w_ H => ?_))))))
        refine end_ctt recs H 0 rfl rfl rfl rfl rfl rfl rfl ?_
        exact rsR_err hres H.B
      rw [if_pos (by constructor <;> omega)] at hsl
      repeat' (first | (with_reducible first | refine p_tn ?_ | refine p_bn ?_ | refine wp_seq ?_ | refine w_reg ?_) | (with_reducible (refine is_if ?_; (refine w_iff rfl ?_))) | (with_reducible first | refine wp_skip ?_ | refine l_nil ?_) | ((with_reducible refine g_on ?_); (first | ((with_reducible refine g_mv ?_); refine l_p txs rfl rfl ?_) | ((with_reducible refine g_as ?_); refine l_p txs rfl rfl ?_) | ((with_reducible refine g_pk ?_); refine l_p txs rfl rfl ?_))))
      (with_reducible refine is_l ?_); refine l_call rfl rfl (by kernel_rfl) (rfields_c (rowT_at H 0 rfl) hb2) (fun e w_ hR => ?_)
      unfold FsT at hR
      cases hfe : fieldsE ls with
      | error k =>
        rw [hfe] at hR
        obtain ⟨A3, n3, c3, rfl, K⟩ := hR
        refine ⟨_, rfl, ?_⟩
        have hres := ps_fields hcut hsl hfe
        have H := H.call K
        have hke : k = 2 ∨ k = 143 := by
          unfold fieldsE at hfe
          split at hfe
          · simp only [Except.error.injEq] at hfe; omega
          · split at hfe
            · simp only [Except.error.injEq] at hfe; omega
            · cases hfe
        repeat' (first | (with_reducible first | refine p_tn ?_ | refine wp_seq ?_ | refine w_reg ?_ | refine l_nil ?_) | ((with_reducible refine g_on ?_); (first | ((with_reducible refine g_mv ?_); refine l_p txs rfl rfl ?_) | ((with_reducible refine g_as ?_); refine l_p txs rfl rfl ?_) | ((with_reducible refine g_ex ?_); refine l_p txs rfl rfl ?_))))
        (with_reducible refine is_l ?_); refine l_t txs rfl rfl (fun _ => ?_) (fun hh => absurd (by omega) hh)
        repeat' (first | (with_reducible first | refine p_tn ?_ | refine wp_seq ?_ | refine w_reg ?_) | (with_reducible (refine is_if ?_; (refine w_ift rfl ?_))) | (with_reducible refine l_nil ?_))
        (with_reducible refine is_l ?_); refine h_bld rfl rfl built_zS ?_
        repeat' (first | (with_reducible first | refine p_tn ?_ | refine p_tr ?_ | refine wp_ret ?_ | refine l_nil ?_) | ((with_reducible refine g_on ?_); (first | ((with_reducible refine g_mv ?_); refine l_p txs rfl rfl ?_) | ((with_reducible refine g_as ?_); refine l_p txs rfl rfl ?_) | ((with_reducible refine g_st ?_); (refine h_stR recs H 0 rfl rfl rfl rfl rfl rfl rfl rfl rfl (fun w_ H => ?_))))))
        refine end_ctt recs H 0 rfl rfl rfl rfl rfl rfl rfl ?_
        exact rsR_err hres H.B
      | ok l =>
        rw [hfe] at hR
        obtain ⟨A3, c3, rfl, K⟩ := hR
        refine ⟨_, rfl, ?_⟩
        obtain ⟨hbl, hll⟩ := fieldsE_bytes hb2 hfe
        have H := H.join K
        repeat' (first | (with_reducible first | refine p_tn ?_ | refine wp_seq ?_ | refine w_reg ?_ | refine l_nil ?_) | ((with_reducible refine g_on ?_); (first | ((with_reducible refine g_mv ?_); refine l_p txs rfl rfl ?_) | ((with_reducible refine g_as ?_); refine l_p txs rfl rfl ?_) | ((with_reducible refine g_ex ?_); refine l_p txs rfl rfl ?_))))
        (with_reducible refine is_l ?_); refine l_t txs rfl rfl (fun hh => absurd rfl hh) (fun _ => ?_)
        repeat' (first | (with_reducible first | refine p_tn ?_ | refine wp_seq ?_ | refine w_reg ?_) | (with_reducible (refine is_if ?_; (refine w_iff rfl ?_))) | (with_reducible first | refine wp_skip ?_ | refine l_nil ?_) | ((with_reducible refine g_on ?_); ((with_reducible refine g_mv ?_); refine l_p txs rfl rfl ?_)))
        (with_reducible refine is_l ?_); refine l_callv rfl rfl (by kernel_rfl) (rcloses_c (c := c3) (rowG_at H 0 rfl) hbl (by omega) minor (by omega)) (fun w_ K => ?_)
        have H := H.call K
        skip
        (with_reducible refine is_l ?_); refine h_bld rfl rfl (built_rs _ _ _ _ _ _) ?_
        repeat' (first | (with_reducible first | refine p_tn ?_ | refine wp_seq ?_ | refine w_reg ?_ | refine l_nil ?_) | ((with_reducible refine g_on ?_); (first | ((with_reducible refine g_mv ?_); refine l_p txs rfl rfl ?_) | ((with_reducible refine g_st ?_); (refine h_stR recs H 0 rfl rfl rfl rfl rfl rfl rfl rfl rfl (fun w_ H => ?_))) | ((with_reducible refine g_al ?_); refine h_alloc recs H rfl rfl (fun g_ w_ H => ?_)))))
        (with_reducible refine is_l ?_); refine l_callv rfl rfl (by kernel_rfl) (rbare_c st _) (fun w_ K => ?_)
        have H := H.call K
        cases hba : bareS st
        rotate_left
        · have hres := ps_bare hcut hsl hfe hba
          repeat' (first | (with_reducible first | refine p_tn ?_ | refine p_tr ?_ | refine wp_seq ?_ | refine w_reg ?_) | (with_reducible (refine is_if ?_; (refine w_ift rfl ?_))) | (with_reducible first | refine wp_ret ?_ | refine l_nil ?_) | ((with_reducible refine g_on ?_); (first | ((with_reducible refine g_mv ?_); refine l_p txs rfl rfl ?_) | ((with_reducible refine g_as ?_); refine l_p txs rfl rfl ?_) | ((with_reducible refine g_ld ?_); (refine h_ldR recs H 0 rfl rfl rfl rfl rfl ?_)) | ((with_reducible refine g_st ?_); (refine h_stR recs H 1 rfl rfl rfl rfl rfl rfl rfl rfl rfl (fun w_ H => ?_))))))
          refine end_ctt recs H 1 rfl rfl rfl rfl rfl rfl rfl ?_
          unfold RsR
          rw [hres]
          exact ⟨A3, c3, none, 0, rfl, H.B, rowG_at H 0 rfl, ⟨rfl, Nat.zero_le _, fun h0 => absurd h0 (Nat.lt_irrefl 0)⟩⟩
        repeat' (first | (with_reducible first | refine p_tn ?_ | refine wp_seq ?_ | refine w_reg ?_) | (with_reducible (refine is_if ?_; (refine w_iff rfl ?_))) | (with_reducible first | refine wp_skip ?_ | refine l_nil ?_) | ((with_reducible refine g_on ?_); ((with_reducible refine g_mv ?_); refine l_p txs rfl rfl ?_)))
        have hlen := rlength_c (c := c3) (rowG_at H 0 rfl) hbl (by omega) minor
        cases hfs : frameS l minor with
        | error k =>
          rw [lenV_err hfs] at hlen
          have hres := ps_frame hcut hsl hfe hba hfs
          have hk0 := frame_code hfs
          (with_reducible refine is_l ?_); refine l_callv rfl rfl (by kernel_rfl) hlen (fun w_ K => ?_)
          have H := H.call K
          repeat' (first | (with_reducible first | refine p_tn ?_ | refine wp_seq ?_ | refine w_reg ?_ | refine l_nil ?_) | ((with_reducible refine g_on ?_); (first | ((with_reducible refine g_mv ?_); refine l_p txs rfl rfl ?_) | ((with_reducible refine g_as ?_); refine l_p txs rfl rfl ?_) | ((with_reducible refine g_ex ?_); refine l_p txs rfl rfl ?_))))
          (with_reducible refine is_l ?_); refine l_t txs rfl rfl (fun _ => ?_) (fun hh => absurd (by omega) hh)
          repeat' (first | (with_reducible first | refine p_tn ?_ | refine wp_seq ?_ | refine w_reg ?_) | (with_reducible (refine is_if ?_; (refine w_ift rfl ?_))) | (with_reducible refine l_nil ?_))
          (with_reducible refine is_l ?_); refine h_bld rfl rfl built_zS ?_
          repeat' (first | (with_reducible first | refine p_tn ?_ | refine p_tr ?_ | refine wp_ret ?_ | refine l_nil ?_) | ((with_reducible refine g_on ?_); (first | ((with_reducible refine g_mv ?_); refine l_p txs rfl rfl ?_) | ((with_reducible refine g_as ?_); refine l_p txs rfl rfl ?_) | ((with_reducible refine g_st ?_); (refine h_stR recs H 1 rfl rfl rfl rfl rfl rfl rfl rfl rfl (fun w_ H => ?_))))))
          refine end_ctt recs H 1 rfl rfl rfl rfl rfl rfl rfl ?_
          exact rsR_err hres H.B
        | ok fr =>
          rw [lenV_ok hfs] at hlen
          have hfi := frI_le hfs
          (with_reducible refine is_l ?_); refine l_callv rfl rfl (by kernel_rfl) hlen (fun w_ K => ?_)
          have H := H.call K
          repeat' (first | (with_reducible first | refine p_tn ?_ | refine wp_seq ?_ | refine w_reg ?_ | refine l_nil ?_) | ((with_reducible refine g_on ?_); (first | ((with_reducible refine g_mv ?_); refine l_p txs rfl rfl ?_) | ((with_reducible refine g_as ?_); refine l_p txs rfl rfl ?_) | ((with_reducible refine g_ex ?_); refine l_p txs rfl rfl ?_))))
          (with_reducible refine is_l ?_); refine l_t txs rfl rfl (fun hh => absurd rfl hh) (fun _ => ?_)
          repeat' (first | (with_reducible first | refine p_tn ?_ | refine wp_seq ?_ | refine w_reg ?_) | (with_reducible (refine is_if ?_; (refine w_iff rfl ?_))) | (with_reducible first | refine wp_skip ?_ | refine l_nil ?_) | ((with_reducible refine g_on ?_); ((with_reducible refine g_mv ?_); refine l_p txs rfl rfl ?_)))
          (with_reducible refine is_l ?_); refine l_t txs rfl rfl (fun h5 => ?_) (fun h5 => ?_)
          · have := frN_none h5
            subst this
            repeat' (first | (with_reducible first | refine p_tn ?_ | refine wp_seq ?_ | refine w_reg ?_) | (with_reducible (refine is_if ?_; (refine w_ift rfl ?_))) | (with_reducible refine l_nil ?_) | ((with_reducible refine g_on ?_); (first | ((with_reducible refine g_mv ?_); refine l_p txs rfl rfl ?_) | ((with_reducible refine g_as ?_); refine l_p txs rfl rfl ?_) | ((with_reducible refine g_fa ?_); refine h_fa flds rfl rfl ?_) | ((with_reducible refine g_st ?_); (refine h_st txs ones H 0 rfl rfl rfl rfl rfl rfl rfl rfl rfl (fun w_ H => ?_))) | ((with_reducible refine g_cl ?_); refine l_p txs rfl rfl ?_) | ((with_reducible refine g_bi ?_); (refine l_a txs rfl rfl (by first | exact in_i64 (by omega) (by omega) | exact in_u8 (by omega) (by omega) | exact in_u64 (by omega) (by omega) | exact in_i32 (by omega) (by omega)) ?_)))))
            have e5 : (((strOfNums b).size : Int) - ((b.length - rest.length : Nat) : Int)) = frI (.len rest.length) := by show _ = (rest.length : Int); omega
            rw [e5]
            (with_reducible refine is_l ?_); refine l_t txs rfl rfl (fun h6 => ?_) (fun h6 => ?_)
            · have h6 : (1048576 : Int) < (rest.length : Int) := h6
              have hres := ps_long hcut hsl hfe hba hfs (by omega)
              repeat' (first | (with_reducible first | refine p_tn ?_ | refine wp_seq ?_ | refine w_reg ?_) | (with_reducible (refine is_if ?_; (refine w_ift rfl ?_))) | (with_reducible refine l_nil ?_))
              (with_reducible refine is_l ?_); refine h_bld rfl rfl built_zS ?_
              repeat' (first | (with_reducible first | refine p_tn ?_ | refine p_tr ?_ | refine wp_ret ?_ | refine l_nil ?_) | ((with_reducible refine g_on ?_); (first | ((with_reducible refine g_as ?_); refine l_p txs rfl rfl ?_) | ((with_reducible refine g_st ?_); (refine h_stR recs H 1 rfl rfl rfl rfl rfl rfl rfl rfl rfl (fun w_ H => ?_))))))
              refine end_ctt recs H 1 rfl rfl rfl rfl rfl rfl rfl ?_
              exact rsR_err hres H.B
            have h6 : ¬ (1048576 : Int) < (rest.length : Int) := h6
            obtain ⟨gr, hgr⟩ : ∃ g : Wb.Frame, g = .len rest.length := ⟨_, rfl⟩
            rw [← hgr]
            have hgi : frI gr ≤ 1048576 := by rw [hgr]; show (rest.length : Int) ≤ _; omega
            have hb0 : bodyS rest gr = .ok (rest, rest.length) := by rw [hgr]; simp [bodyS]
            have herr : ∀ k, bodyS rest gr = .error k → parseResS b = .error k := fun k e => by rw [hb0] at e; cases e
            have hok : ∀ bd k, bodyS rest gr = .ok (bd, k) → parseResS b = .ok (⟨st, minor, l, bd, true⟩, b.length - rest.length + k) := fun bd k e => by
              rw [hb0] at e
              injection e with e
              obtain ⟨rfl, rfl⟩ := Prod.mk.inj e
              exact ps_none hcut hsl hfe hba hfs (by omega)
            repeat' (first | (with_reducible first | refine p_tn ?_ | refine wp_seq ?_ | refine w_reg ?_) | (with_reducible (refine is_if ?_; (refine w_iff rfl ?_))) | (with_reducible first | refine wp_skip ?_ | refine l_nil ?_) | ((with_reducible refine g_on ?_); (first | ((with_reducible refine g_mv ?_); refine l_p txs rfl rfl ?_) | ((with_reducible refine g_sl ?_); refine l_sl txs rfl rfl (by first | omega | assumption | decide) (by first | omega | assumption | decide) (by first | omega | assumption | decide) ?_))))
            have hx : bl ((strOfNums b).extract (((b.length - rest.length : Nat) : Int)).toNat (((strOfNums b).size : Int)).toNat) = rest := by
              rw [blE, hbs, Int.toNat_natCast, Int.toNat_natCast, zb, hrest, List.take_of_length_le (by omega)]
            have hxs : ((strOfNums b).extract (((b.length - rest.length : Nat) : Int)).toNat (((strOfNums b).size : Int)).toNat).size = rest.length := by rw [← bl_length, hx]
            (with_reducible refine is_l ?_); refine l_call rfl rfl (by kernel_rfl) (rbody_c _ _ (by omega) gr (Int.le_trans hgi (by decide))) (fun e w_ hR => ?_)
            unfold BoR at hR
            rw [hx] at hR
            cases hbo : bodyS rest gr with
            | error k =>
              rw [hbo] at hR
              obtain ⟨A7, m7, c7, n7, rfl, K⟩ := hR
              refine ⟨_, rfl, ?_⟩
              have hres := herr k hbo
              have hk0 := rbody_code hbo
              have H := H.call K
              repeat' (first | (with_reducible first | refine p_tn ?_ | refine wp_seq ?_ | refine w_reg ?_ | refine l_nil ?_) | ((with_reducible refine g_on ?_); (first | ((with_reducible refine g_mv ?_); refine l_p txs rfl rfl ?_) | ((with_reducible refine g_as ?_); refine l_p txs rfl rfl ?_) | ((with_reducible refine g_ex ?_); refine l_p txs rfl rfl ?_))))
              (with_reducible refine is_l ?_); refine l_t txs rfl rfl (fun _ => ?_) (fun hh => absurd (by omega) hh)
              repeat' (first | (with_reducible first | refine p_tn ?_ | refine wp_seq ?_ | refine w_reg ?_) | (with_reducible (refine is_if ?_; (refine w_ift rfl ?_))) | (with_reducible refine l_nil ?_))
              (with_reducible refine is_l ?_); refine h_bld rfl rfl built_zS ?_
              repeat' (first | (with_reducible first | refine p_tn ?_ | refine p_tr ?_ | refine wp_ret ?_ | refine l_nil ?_) | ((with_reducible refine g_on ?_); (first | ((with_reducible refine g_mv ?_); refine l_p txs rfl rfl ?_) | ((with_reducible refine g_as ?_); refine l_p txs rfl rfl ?_) | ((with_reducible refine g_st ?_); (refine h_stR recs H 1 rfl rfl rfl rfl rfl rfl rfl rfl rfl (fun w_ H => ?_))))))
              refine end_ctt recs H 1 rfl rfl rfl rfl rfl rfl rfl ?_
              exact rsR_err hres H.B
            | ok z =>
              obtain ⟨bd, k⟩ := z
              rw [hbo] at hR
              obtain ⟨Bb, cb, rfl, K, hBd, hBk⟩ := hR
              refine ⟨_, rfl, ?_⟩
              have hres := hok bd k hbo
              have hkl := bodyS_le hbo
              have hgl := H.lt (i := 0) rfl
              have hgl1 := H.lt (i := 1) rfl
              have H := H.call K
              repeat' (first | (with_reducible first | refine p_tn ?_ | refine wp_seq ?_ | refine w_reg ?_ | refine l_nil ?_) | ((with_reducible refine g_on ?_); (first | ((with_reducible refine g_mv ?_); refine l_p txs rfl rfl ?_) | ((with_reducible refine g_as ?_); refine l_p txs rfl rfl ?_) | ((with_reducible refine g_ex ?_); refine l_p txs rfl rfl ?_))))
              (with_reducible refine is_l ?_); refine l_t txs rfl rfl (fun hh => absurd rfl hh) (fun _ => ?_)
              with_reducible refine l_nil ?_
              repeat' (first | (with_reducible first | refine p_tn ?_ | refine wp_seq ?_ | refine w_reg ?_) | (with_reducible (refine is_if ?_; (refine w_iff rfl ?_))) | (with_reducible refine wp_skip ?_))
              (with_reducible refine g_on ?_); ((with_reducible refine g_mv ?_); refine l_p txs rfl rfl ?_)
              (with_reducible refine g_on ?_); ((with_reducible refine g_fa ?_); refine h_fa flds rfl rfl ?_)
              (with_reducible refine is_l ?_); refine h_stg txs ones H 0 rfl rfl rfl rfl rfl rfl rfl rfl rfl (fun w_ H hg1 => ?_)
              have hBd := reads_other hBd hg1 (fun ad e => by have := hBk ad e; omega)
              with_reducible refine l_nil ?_
              repeat' (with_reducible first | refine p_tn ?_ | refine wp_seq ?_ | refine w_reg ?_)
              (with_reducible refine is_l ?_); refine h_ldR recs H 0 rfl rfl rfl rfl rfl ?_
              (with_reducible refine g_on ?_); ((with_reducible refine g_mv ?_); refine l_p txs rfl rfl ?_)
              (with_reducible refine g_on ?_); ((with_reducible refine g_mv ?_); refine l_p txs rfl rfl ?_)
              (with_reducible refine g_on ?_); ((with_reducible refine g_bi ?_); (refine l_a txs rfl rfl (by first | exact in_i64 (by omega) (by omega) | exact in_u8 (by omega) (by omega) | exact in_u64 (by omega) (by omega) | exact in_i32 (by omega) (by omega)) ?_))
              (with_reducible refine is_l ?_); refine h_stRg recs H 1 rfl rfl rfl rfl rfl rfl rfl rfl rfl (fun w_ H hg2 => ?_)
              have hBd := reads_other hBd hg2 (fun ad e => by have := hBk ad e; omega)
              repeat' (first | (with_reducible first | refine p_tn ?_ | refine wp_ret ?_ | refine l_nil ?_) | ((with_reducible refine g_on ?_); ((with_reducible refine g_as ?_); refine l_p txs rfl rfl ?_)))
              refine end_ctt recs H 1 rfl rfl rfl rfl rfl rfl rfl ?_
              have e : (((b.length - rest.length : Nat) : Int) + (k : Int)) = ((b.length - rest.length + k : Nat) : Int) := by omega
              rw [e]
              unfold RsR
              rw [hres]
              exact ⟨A3, c3, Bb, cb, rfl, H.B, rowG_at H 0 rfl, hBd⟩
          · rw [frN_some h5]
            have hfn : fr ≠ .none := fun e => h5 (by rw [e]; rfl)
            obtain ⟨gr, hgr⟩ : ∃ g : Wb.Frame, g = fr := ⟨_, rfl⟩
            rw [← hgr] at hfs hfn hfi ⊢
            have hgi := hfi
            have herr : ∀ k, bodyS rest gr = .error k → parseResS b = .error k := fun k e => ps_body hcut hsl hfe hba hfs hfn e
            have hok : ∀ bd k, bodyS rest gr = .ok (bd, k) → parseResS b = .ok (⟨st, minor, l, bd, closesS l minor⟩, b.length - rest.length + k) := fun bd k e => ps_ok hcut hsl hfe hba hfs hfn e
            repeat' (first | (with_reducible first | refine p_tn ?_ | refine wp_seq ?_ | refine w_reg ?_) | (with_reducible (refine is_if ?_; (refine w_iff rfl ?_))) | (with_reducible first | refine wp_skip ?_ | refine l_nil ?_) | ((with_reducible refine g_on ?_); (first | ((with_reducible refine g_mv ?_); refine l_p txs rfl rfl ?_) | ((with_reducible refine g_sl ?_); refine l_sl txs rfl rfl (by first | omega | assumption | decide) (by first | omega | assumption | decide) (by first | omega | assumption | decide) ?_))))
            have hx : bl ((strOfNums b).extract (((b.length - rest.length : Nat) : Int)).toNat (((strOfNums b).size : Int)).toNat) = rest := by
              rw [blE, hbs, Int.toNat_natCast, Int.toNat_natCast, zb, hrest, List.take_of_length_le (by omega)]
            have hxs : ((strOfNums b).extract (((b.length - rest.length : Nat) : Int)).toNat (((strOfNums b).size : Int)).toNat).size = rest.length := by rw [← bl_length, hx]
            (with_reducible refine is_l ?_); refine l_call rfl rfl (by kernel_rfl) (rbody_c _ _ (by omega) gr (Int.le_trans hgi (by decide))) (fun e w_ hR => ?_)
            unfold BoR at hR
            rw [hx] at hR
            cases hbo : bodyS rest gr with
            | error k =>
              rw [hbo] at hR
              obtain ⟨A7, m7, c7, n7, rfl, K⟩ := hR
              refine ⟨_, rfl, ?_⟩
              have hres := herr k hbo
              have hk0 := rbody_code hbo
              have H := H.call K
              repeat' (first | (with_reducible first | refine p_tn ?_ | refine wp_seq ?_ | refine w_reg ?_ | refine l_nil ?_) | ((with_reducible refine g_on ?_); (first | ((with_reducible refine g_mv ?_); refine l_p txs rfl rfl ?_) | ((with_reducible refine g_as ?_); refine l_p txs rfl rfl ?_) | ((with_reducible refine g_ex ?_); refine l_p txs rfl rfl ?_))))
              (with_reducible refine is_l ?_); refine l_t txs rfl rfl (fun _ => ?_) (fun hh => absurd (by omega) hh)
              repeat' (first | (with_reducible first | refine p_tn ?_ | refine wp_seq ?_ | refine w_reg ?_) | (with_reducible (refine is_if ?_; (refine w_ift rfl ?_))) | (with_reducible refine l_nil ?_))
              (with_reducible refine is_l ?_); refine h_bld rfl rfl built_zS ?_
              repeat' (first | (with_reducible first | refine p_tn ?_ | refine p_tr ?_ | refine wp_ret ?_ | refine l_nil ?_) | ((with_reducible refine g_on ?_); (first | ((with_reducible refine g_mv ?_); refine l_p txs rfl rfl ?_) | ((with_reducible refine g_as ?_); refine l_p txs rfl rfl ?_) | ((with_reducible refine g_st ?_); (refine h_stR recs H 1 rfl rfl rfl rfl rfl rfl rfl rfl rfl (fun w_ H => ?_))))))
              refine end_ctt recs H 1 rfl rfl rfl rfl rfl rfl rfl ?_
              exact rsR_err hres H.B
            | ok z =>
              obtain ⟨bd, k⟩ := z
              rw [hbo] at hR
              obtain ⟨Bb, cb, rfl, K, hBd, hBk⟩ := hR
              refine ⟨_, rfl, ?_⟩
              have hres := hok bd k hbo
              have hkl := bodyS_le hbo
              have hgl := H.lt (i := 0) rfl
              have hgl1 := H.lt (i := 1) rfl
              have H := H.call K
              repeat' (first | (with_reducible first | refine p_tn ?_ | refine wp_seq ?_ | refine w_reg ?_ | refine l_nil ?_) | ((with_reducible refine g_on ?_); (first | ((with_reducible refine g_mv ?_); refine l_p txs rfl rfl ?_) | ((with_reducible refine g_as ?_); refine l_p txs rfl rfl ?_) | ((with_reducible refine g_ex ?_); refine l_p txs rfl rfl ?_))))
              (with_reducible refine is_l ?_); refine l_t txs rfl rfl (fun hh => absurd rfl hh) (fun _ => ?_)
              with_reducible refine l_nil ?_
              repeat' (first | (with_reducible first | refine p_tn ?_ | refine wp_seq ?_ | refine w_reg ?_) | (with_reducible (refine is_if ?_; (refine w_iff rfl ?_))) | (with_reducible refine wp_skip ?_))
              (with_reducible refine g_on ?_); ((with_reducible refine g_mv ?_); refine l_p txs rfl rfl ?_)
              (with_reducible refine g_on ?_); ((with_reducible refine g_fa ?_); refine h_fa flds rfl rfl ?_)
              (with_reducible refine is_l ?_); refine h_stg txs ones H 0 rfl rfl rfl rfl rfl rfl rfl rfl rfl (fun w_ H hg1 => ?_)
              have hBd := reads_other hBd hg1 (fun ad e => by have := hBk ad e; omega)
              with_reducible refine l_nil ?_
              repeat' (with_reducible first | refine p_tn ?_ | refine wp_seq ?_ | refine w_reg ?_)
              (with_reducible refine is_l ?_); refine h_ldR recs H 0 rfl rfl rfl rfl rfl ?_
              (with_reducible refine g_on ?_); ((with_reducible refine g_mv ?_); refine l_p txs rfl rfl ?_)
              (with_reducible refine g_on ?_); ((with_reducible refine g_mv ?_); refine l_p txs rfl rfl ?_)
              (with_reducible refine g_on ?_); ((with_reducible refine g_bi ?_); (refine l_a txs rfl rfl (by first | exact in_i64 (by omega) (by omega) | exact in_u8 (by omega) (by omega) | exact in_u64 (by omega) (by omega) | exact in_i32 (by omega) (by omega)) ?_))
              (with_reducible refine is_l ?_); refine h_stRg recs H 1 rfl rfl rfl rfl rfl rfl rfl rfl rfl (fun w_ H hg2 => ?_)
              have hBd := reads_other hBd hg2 (fun ad e => by have := hBk ad e; omega)
              repeat' (first | (with_reducible first | refine p_tn ?_ | refine wp_ret ?_ | refine l_nil ?_) | ((with_reducible refine g_on ?_); ((with_reducible refine g_as ?_); refine l_p txs rfl rfl ?_)))
              refine end_ctt recs H 1 rfl rfl rfl rfl rfl rfl rfl ?_
              have e : (((b.length - rest.length : Nat) : Int) + (k : Int)) = ((b.length - rest.length + k : Nat) : Int) := by omega
              rw [e]
              unfold RsR
              rw [hres]
              exact ⟨A3, c3, Bb, cb, rfl, H.B, rowG_at H 0 rfl, hBd⟩
end Go.Proofs.YthgojbdpmcccaaaGreatDoor.K.Ref
end
