/- The major of a path. -/
import Derived.Test.YtnimaenhijlcmaaGreatDoorVk
namespace Go.Proofs.YtnimaenhijlcmaaGreatDoor.K
open Go.RowKit Go.Proofs.YtnimaenhijlcmaaGreatDoor.Q Go.Proofs.YtnimaenhijlcmaaGreatDoor.Mb Go.Proofs.YtnimaenhijlcmaaGreatDoorW.PrintWords
set_option linter.unusedVariables false
set_option linter.unusedSimpArgs false

theorem trimSuf_c (t p : ByteArray) (w : World) (ht : t.size ≤ 100000000) : Calls Tryz.prog 84 #[.string t, .string p] w fun e w' => e = .returned (.string (strOfNums ((endCut (bl t) (bl p)).getD (bl t)))) ∧ w' = w := by
  refine (Tryz.strings_TrimSuffix t p w (by omega)).mono fun e w' ⟨h1, h2⟩ => ⟨?_, h2⟩
  rw [h1]
  have hs := suf_cut t.data.toList p.data.toList
  have hs : endCut (bl t) (bl p) = _ := hs
  rw [hs]
  unfold Lib.trimSuffix Lib.hasSuffix
  by_cases h : p.data.toList.isSuffixOf t.data.toList = true
  · rw [if_pos h, if_pos h]
    have : strOfNums ((t.data.toList.take (t.data.toList.length - p.data.toList.length)).map fun b => (b.toNat : Int)) = ⟨(t.data.toList.take (t.data.toList.length - p.data.toList.length)).toArray⟩ := by
      refine bl_inj ?_
      rw [blS (fun x hx => by obtain ⟨b, _, rfl⟩ := List.mem_map.1 hx; have := b.toNat_lt; omega)]
      rfl
    simp only [Option.getD_some]
    rw [this]
  · rw [if_neg h, if_neg h]
    simp only [Option.getD_none]
    rw [strS]
theorem hasSuf_c (s p : ByteArray) (w : World) (hs : s.size ≤ 100000000) : Calls Tryz.prog 55 #[.string s, .string p] w fun e w' => e = .returned (.bool (endCut (bl s) (bl p)).isSome) ∧ w' = w := by
  refine (Tryz.strings_HasSuffix s p w (by omega)).mono fun e w' ⟨h1, h2⟩ => ⟨?_, h2⟩
  rw [h1]
  have hs := suf_cut s.data.toList p.data.toList
  have hs : endCut (bl s) (bl p) = _ := hs
  rw [hs]
  unfold Lib.hasSuffix
  by_cases h : p.data.toList.isSuffixOf s.data.toList = true
  · rw [if_pos h, h]; rfl
  · rw [if_neg h, Bool.eq_false_iff.2 h]; rfl
theorem cut_two (b : L) : (endCut b [46, 118]).isSome = decide (b.drop (b.length - 2) = [46, 118]) := by
  unfold endCut
  have hl : ([46, 118] : L).length = 2 := rfl
  rw [hl]
  by_cases h : b.drop (b.length - 2) = [46, 118]
  · have h2 : 2 ≤ b.length := by
      have := congrArg List.length h
      rw [List.length_drop, hl] at this
      omega
    rw [if_pos ⟨h2, h⟩, decide_eq_true h]; rfl
  · rw [if_neg (fun e => h e.2), decide_eq_false h]; rfl
def vdB (c : Int) : Bool := digB c || decide (c = 46)
def majL (n : Nat) (z : L) : L × Bool :=
  if n = 1 ∨ z.length < 2 ∨ z.head? ≠ some 118 ∨ (z.tail.all vdB) = false then ([], true)
  else (z.tail, numB z.tail && decide (z.tail ≠ [48]) && decide (z.tail ≠ [49]))
def majG (z : L) : L × Bool := (digTail z, decide ((digBare z).drop ((digBare z).length - 2) = [46, 118]) && numB (digTail z))
theorem majE_eq (x : L) (r : List L) (z : L) (hz : (x :: r).getLastD [] = z) : majorE (x :: r) = if x = gopkg then majG ((endCut z unstable).getD z) else majL (x :: r).length z := by
  unfold majorE majG majL
  rw [hz]
  rfl
set_option maxRecDepth 100000 in
set_option maxHeartbeats 8000000 in
theorem majorOf_c {w : World} {mx : Int} (hM : w.cell? ⟨0, 0, none⟩ = some (.int .i64 mx)) (t : ByteArray) (ht : t.size ≤ 100000000) :
    Calls Tryz.prog 110 #[.string t] w fun e w' => e = .returned (.tuple #[.string (strOfNums (majorS (bl t)).1), .bool (majorS (bl t)).2]) ∧ Below w.heap.size w w' := by
  have hlen := bl_length t
  have hbt := bl_bytes t
  have e47 : ((47 : UInt8).toNat : Int) = 47 := rfl
  refine enter (args := [.string t]) Tryz.func110 rfl Tryz.ntmps110 rfl ?_
  have H := Hp.nil w
  repeat' (first | (with_reducible first | refine p_tn ?_ | refine wp_seq ?_ | refine w_reg ?_ | refine l_nil ?_) | ((with_reducible refine g_on ?_); (first | ((with_reducible refine g_mv ?_); refine l_p txs rfl rfl ?_) | ((with_reducible refine g_as ?_); refine l_p txs rfl rfl ?_))))
  have hsp := split_c t 47 (by omega) w mx hM
  rw [e47] at hsp
  (with_reducible refine is_l ?_); refine l_call rfl rfl (by kernel_rfl) hsp (fun e w_ hR => ?_)
  obtain ⟨gN, rfl, K⟩ := hR
  refine ⟨_, rfl, ?_⟩
  have hne := splitC_ne (c := 47) (bl t)
  have hsm := split_mem 47 (bl t)
  have hsl := split_len 47 (bl t)
  have hV : majorS (bl t) = majorE (splitC 47 (bl t)) := rfl
  generalize splitC 47 (bl t) = N at K hne hsm hsl hV ⊢
  have hNl : (strC N).length = N.length := List.length_map _
  have H := (H.join K).entRow (by rw [hNl]; simp only [maxLen]; omega)
  rw [hNl] at H
  have H : Hp w w_ [] [rowT (.slice (some ⟨gN, 0, none⟩) N.length N.length) N] := H
  have hpos := List.length_pos_iff.2 hne
  obtain ⟨z, hz⟩ : ∃ z, N[N.length - 1]? = some z := ⟨_, List.getElem?_eq_getElem (by omega)⟩
  obtain ⟨x, hx⟩ : ∃ x, N[0]? = some x := ⟨_, List.getElem?_eq_getElem (by omega)⟩
  have hV : majorS (bl t) = if x = gopkg then majG ((endCut z unstable).getD z) else majL N.length z := by
    rw [hV]
    cases N with
    | nil => exact absurd rfl hne
    | cons x' r =>
      simp only [List.getElem?_cons_zero, Option.some.injEq] at hx
      subst hx
      exact majE_eq _ _ _ (by rw [List.getLastD_eq_getLast?, List.getLast?_eq_getElem?, hz]; rfl)
  obtain ⟨mz1, mz2⟩ := hsm z (List.mem_of_getElem? hz)
  obtain ⟨mx1, mx2⟩ := hsm x (List.mem_of_getElem? hx)
  have bz : Bytes z := fun y hy => hbt y (mz1 y hy)
  have bx : Bytes x := fun y hy => hbt y (mx1 y hy)
  have zz := sizeS' bz
  have zx := sizeS' bx
  have hcz := rdT_cell (rowT_at H 0 rfl) hz
  have hcx := rdT_cell (rowT_at H 0 rfl) hx
  repeat' (first | (with_reducible first | refine p_tn ?_ | refine wp_seq ?_ | refine w_reg ?_ | refine l_nil ?_) | ((with_reducible refine g_on ?_); (first | ((with_reducible refine g_mv ?_); refine l_p txs rfl rfl ?_) | ((with_reducible refine g_as ?_); refine l_p txs rfl rfl ?_) | ((with_reducible refine g_cl ?_); refine l_p txs rfl rfl ?_) | ((with_reducible refine g_ia ?_); refine l_ia txs rfl rfl (by first | omega | assumption | decide) (by first | omega | assumption | decide) ?_) | ((with_reducible refine g_bi ?_); (refine l_a txs rfl rfl (by first | exact in_i64 (by omega) (by omega) | exact in_u8 (by omega) (by omega) | exact in_u64 (by omega) (by omega) | exact in_i32 (by omega) (by omega)) ?_)))))
  (with_reducible refine is_l ?_); refine l_ld txs rfl rfl (by rw [show ((N.length : Int) - 1).toNat = N.length - 1 by omega]; exact hcz) ?_
  repeat' (first | (with_reducible first | refine p_tn ?_ | refine wp_seq ?_ | refine w_reg ?_ | refine l_nil ?_) | ((with_reducible refine g_on ?_); (first | ((with_reducible refine g_mv ?_); refine l_p txs rfl rfl ?_) | ((with_reducible refine g_as ?_); refine l_p txs rfl rfl ?_) | ((with_reducible refine g_ia ?_); refine l_ia txs rfl rfl (by first | omega | assumption | decide) (by first | omega | assumption | decide) ?_))))
  (with_reducible refine is_l ?_); refine l_ld txs rfl rfl hcx ?_
  skip
  (with_reducible refine is_l ?_); refine l_t txs rfl rfl (fun hg => ?_) (fun hg => ?_)
  · rw [blS bx] at hg
    have hg : x = gopkg := hg
    rw [if_pos hg] at hV
    repeat' (first | (with_reducible first | refine p_tn ?_ | refine wp_seq ?_ | refine w_reg ?_) | (with_reducible (refine is_if ?_; (refine w_ift rfl ?_))) | (with_reducible refine l_nil ?_) | ((with_reducible refine g_on ?_); ((with_reducible refine g_mv ?_); refine l_p txs rfl rfl ?_)))
    have hts := fun w1 => trimSuf_c (strOfNums z) ⟨#[45, 117, 110, 115, 116, 97, 98, 108, 101]⟩ w1 (by omega)
    rw [blS bz, show bl (⟨#[45, 117, 110, 115, 116, 97, 98, 108, 101]⟩ : ByteArray) = unstable from rfl] at hts
    (with_reducible refine is_l ?_); refine l_callp rfl rfl (by kernel_rfl) (hts _) ?_
    obtain ⟨hs1, hs2⟩ := endCut_sub (r := z) (e := unstable)
    generalize (endCut z unstable).getD z = s at hs1 hs2 hV ⊢
    have bs : Bytes s := fun y hy => bz y (hs1 y hy)
    have zs := sizeS' bs
    have htr := trimDig_c (strOfNums s) w_ (by omega)
    rw [blS bs] at htr
    repeat' (first | (with_reducible first | refine p_tn ?_ | refine wp_seq ?_ | refine w_reg ?_ | refine l_nil ?_) | ((with_reducible refine g_on ?_); (first | ((with_reducible refine g_mv ?_); refine l_p txs rfl rfl ?_) | ((with_reducible refine g_as ?_); refine l_p txs rfl rfl ?_))))
    (with_reducible refine is_l ?_); refine l_callv rfl rfl (by kernel_rfl) htr (fun w_ K => ?_)
    have H := H.call K
    have hb := bare_tail s
    unfold majG at hV
    generalize digBare s = B at hb hV ⊢
    generalize digTail s = T at hb hV ⊢
    have bB : Bytes B := fun y hy => bs y (by rw [← hb]; exact List.mem_append_left _ hy)
    have bT : Bytes T := fun y hy => bs y (by rw [← hb]; exact List.mem_append_right _ hy)
    have zB := sizeS' bB
    have zT := sizeS' bT
    have hll : s.length = B.length + T.length := by rw [← hb, List.length_append]
    have hx : (strOfNums s).extract ((strOfNums B).size : Int).toNat ((strOfNums s).size : Int).toNat = strOfNums T := by
      refine bl_inj ?_
      rw [blE, blS bs, blS bT, zB, zs, Int.toNat_natCast, Int.toNat_natCast, ← hb, List.drop_left, List.take_of_length_le (by simp)]
    repeat' (first | (with_reducible first | refine p_tn ?_ | refine wp_seq ?_ | refine w_reg ?_ | refine l_nil ?_) | ((with_reducible refine g_on ?_); (first | ((with_reducible refine g_mv ?_); refine l_p txs rfl rfl ?_) | ((with_reducible refine g_as ?_); refine l_p txs rfl rfl ?_) | ((with_reducible refine g_cl ?_); refine l_p txs rfl rfl ?_) | ((with_reducible refine g_sl ?_); refine l_sl txs rfl rfl (by first | omega | assumption | decide) (by first | omega | assumption | decide) (by first | omega | assumption | decide) ?_))))
    rw [hx]
    have hsu := fun w1 => hasSuf_c (strOfNums B) ⟨#[46, 118]⟩ w1 (by omega)
    rw [blS bB, show bl (⟨#[46, 118]⟩ : ByteArray) = [46, 118] from rfl, cut_two] at hsu
    (with_reducible refine is_l ?_); refine l_callp rfl rfl (by kernel_rfl) (hsu _) ?_
    cases h2 : decide (B.drop (B.length - 2) = [46, 118])
    · have hn : majorS (bl t) = (T, false) := by rw [hV, h2]; rfl
      repeat' (first | (with_reducible first | refine p_tn ?_ | refine p_tr ?_ | refine wp_ret ?_ | refine l_nil ?_) | ((with_reducible refine g_on ?_); (first | ((with_reducible refine g_mv ?_); refine l_p txs rfl rfl ?_) | ((with_reducible refine g_as ?_); refine l_p txs rfl rfl ?_) | ((with_reducible refine g_pk ?_); refine l_p txs rfl rfl ?_))) | ((with_reducible refine g_if ?_); (refine l_off rfl ?_)))
      refine end2 rfl rfl rfl ?_
      exact ⟨by rw [hn]; first | done | rfl, H.B⟩
    · repeat' (first | ((with_reducible refine g_on ?_); ((with_reducible refine g_mv ?_); refine l_p txs rfl rfl ?_)) | ((with_reducible refine g_if ?_); ((with_reducible refine g_mv ?_); refine l_p txs rfl rfl ?_)))
      have hnu := isNumber_c (strOfNums T) w_ (by omega)
      rw [blS bT] at hnu
      (with_reducible refine is_l ?_); refine l_callv rfl rfl (by kernel_rfl) hnu (fun w_ K => ?_)
      have H := H.call K
      have hn : majorS (bl t) = (T, numB T) := by rw [hV, h2]; rfl
      repeat' (first | (with_reducible first | refine p_tn ?_ | refine p_tr ?_ | refine wp_ret ?_ | refine l_nil ?_) | ((with_reducible refine g_on ?_); (first | ((with_reducible refine g_as ?_); refine l_p txs rfl rfl ?_) | ((with_reducible refine g_pk ?_); refine l_p txs rfl rfl ?_))))
      refine end2 rfl rfl rfl ?_
      exact ⟨by rw [hn]; first | done | rfl, H.B⟩
  rw [blS bx] at hg
  have hg : ¬ x = gopkg := hg
  rw [if_neg hg] at hV
  repeat' (first | (with_reducible first | refine p_tn ?_ | refine wp_seq ?_ | refine w_reg ?_) | (with_reducible (refine is_if ?_; (refine w_iff rfl ?_))) | (with_reducible first | refine wp_skip ?_ | refine l_nil ?_) | ((with_reducible refine g_on ?_); (first | ((with_reducible refine g_mv ?_); refine l_p txs rfl rfl ?_) | ((with_reducible refine g_cl ?_); refine l_p txs rfl rfl ?_))))
  (with_reducible refine is_l ?_); refine l_t txs rfl rfl (fun h1 => ?_) (fun h1 => ?_)
  · have hq : N.length = 1 ∨ z.length < 2 ∨ z.head? ≠ some 118 ∨ (z.tail.all vdB) = false := .inl (by omega)
    have hn : majorS (bl t) = ([], true) := by rw [hV]; unfold majL; rw [if_pos hq]
    repeat' (first | (with_reducible first | refine p_tn ?_ | refine p_tr ?_ | refine wp_seq ?_ | refine w_reg ?_) | (with_reducible (refine is_if ?_; (refine w_ift rfl ?_))) | (with_reducible first | refine wp_ret ?_ | refine l_nil ?_) | ((with_reducible refine g_on ?_); (first | ((with_reducible refine g_mv ?_); refine l_p txs rfl rfl ?_) | ((with_reducible refine g_as ?_); refine l_p txs rfl rfl ?_) | ((with_reducible refine g_pk ?_); refine l_p txs rfl rfl ?_))) | ((with_reducible refine g_if ?_); (refine l_off rfl ?_)))
    refine end2 rfl rfl rfl ?_
    exact ⟨by rw [hn]; first | done | rfl, H.B⟩
  repeat' (first | ((with_reducible refine g_on ?_); ((with_reducible refine g_mv ?_); refine l_p txs rfl rfl ?_)) | ((with_reducible refine g_if ?_); (first | ((with_reducible refine g_mv ?_); refine l_p txs rfl rfl ?_) | ((with_reducible refine g_cl ?_); refine l_p txs rfl rfl ?_))))
  (with_reducible refine is_l ?_); refine l_t txs rfl rfl (fun h2 => ?_) (fun h2 => ?_)
  · have hq : N.length = 1 ∨ z.length < 2 ∨ z.head? ≠ some 118 ∨ (z.tail.all vdB) = false := .inr (.inl (by omega))
    have hn : majorS (bl t) = ([], true) := by rw [hV]; unfold majL; rw [if_pos hq]
    repeat' (first | (with_reducible first | refine p_tn ?_ | refine p_tr ?_ | refine wp_seq ?_ | refine w_reg ?_) | (with_reducible (refine is_if ?_; (refine w_ift rfl ?_))) | (with_reducible first | refine wp_ret ?_ | refine l_nil ?_) | ((with_reducible refine g_on ?_); (first | ((with_reducible refine g_mv ?_); refine l_p txs rfl rfl ?_) | ((with_reducible refine g_as ?_); refine l_p txs rfl rfl ?_) | ((with_reducible refine g_pk ?_); refine l_p txs rfl rfl ?_))) | ((with_reducible refine g_if ?_); (refine l_off rfl ?_)))
    refine end2 rfl rfl rfl ?_
    exact ⟨by rw [hn]; first | done | rfl, H.B⟩
  have hz2 : 2 ≤ z.length := by omega
  have hzn : z ≠ [] := fun e => by rw [e] at hz2; exact absurd hz2 (by decide)
  have hhd := head_at hzn
  repeat' (first | ((with_reducible refine g_on ?_); (first | ((with_reducible refine g_mv ?_); refine l_p txs rfl rfl ?_) | ((with_reducible refine g_pk ?_); refine l_p txs rfl rfl ?_))) | ((with_reducible refine g_if ?_); (first | ((with_reducible refine g_mv ?_); refine l_p txs rfl rfl ?_) | ((with_reducible refine g_ix ?_); refine l_ix txs rfl rfl (by first | omega | assumption | decide) (by first | omega | assumption | decide) ?_))))
  (with_reducible refine is_l ?_); refine l_t txs rfl rfl (fun h3 => ?_) (fun h3 => ?_)
  · rw [blS bz] at h3
    have hq : N.length = 1 ∨ z.length < 2 ∨ z.head? ≠ some 118 ∨ (z.tail.all vdB) = false := .inr (.inr (.inl (by rw [hhd]; exact fun e => h3 (Option.some.inj e))))
    have hn : majorS (bl t) = ([], true) := by rw [hV]; unfold majL; rw [if_pos hq]
    repeat' (first | (with_reducible first | refine p_tn ?_ | refine p_tr ?_ | refine wp_seq ?_ | refine w_reg ?_) | (with_reducible (refine is_if ?_; (refine w_ift rfl ?_))) | (with_reducible first | refine wp_ret ?_ | refine l_nil ?_) | ((with_reducible refine g_on ?_); (first | ((with_reducible refine g_as ?_); refine l_p txs rfl rfl ?_) | ((with_reducible refine g_pk ?_); refine l_p txs rfl rfl ?_))))
    refine end2 rfl rfl rfl ?_
    exact ⟨by rw [hn]; first | done | rfl, H.B⟩
  rw [blS bz] at h3
  have h3 : z.head? = some 118 := by rw [hhd, Classical.not_not.1 h3]
  repeat' (first | (with_reducible first | refine p_tn ?_ | refine wp_seq ?_ | refine w_reg ?_) | (with_reducible (refine is_if ?_; (refine w_iff rfl ?_))) | (with_reducible first | refine wp_skip ?_ | refine l_nil ?_) | ((with_reducible refine g_on ?_); (first | ((with_reducible refine g_mv ?_); refine l_p txs rfl rfl ?_) | ((with_reducible refine g_pk ?_); refine l_p txs rfl rfl ?_) | ((with_reducible refine g_sl ?_); refine l_sl txs rfl rfl (by first | omega | assumption | decide) (by first | omega | assumption | decide) (by first | omega | assumption | decide) ?_))))
  have hu : bl ((strOfNums z).extract (1 : Int).toNat ((strOfNums z).size : Int).toNat) = z.tail := by
    rw [blE, blS bz, zz, Int.toNat_natCast]
    show (z.drop 1).take (z.length - 1) = _
    rw [List.take_of_length_le (by rw [List.length_drop]; omega), List.drop_one]
  have hus : ((strOfNums z).extract (1 : Int).toNat ((strOfNums z).size : Int).toNat).size = z.length - 1 := by rw [← bl_length, hu, List.length_tail]
  obtain ⟨u, hu0⟩ : ∃ u, u = (strOfNums z).extract (1 : Int).toNat ((strOfNums z).size : Int).toNat := ⟨_, rfl⟩
  rw [← hu0] at hu hus ⊢
  have hul := bl_length u
  have H := H.pick [] [] (by decide) (by decide) rfl rfl
  have hV : (bl u).all vdB = false ∧ majorS (bl t) = ([], true) ∨ (bl u).all vdB = true ∧ majorS (bl t) = (bl u, numB (bl u) && decide (bl u ≠ [48]) && decide (bl u ≠ [49])) := by
    rw [hV]
    unfold majL
    rw [← hu]
    cases hv : (bl u).all vdB
    · exact .inl ⟨rfl, if_pos (.inr (.inr (.inr rfl)))⟩
    · exact .inr ⟨rfl, if_neg (by rintro (h | h | h | h) <;> first | omega | exact h h3 | cases h)⟩
  have hNo : ∀ {b : Int} {p : Nat}, (bl u)[p]? = some b → vdB b = false → majorS (bl t) = ([], true) := fun hb hv => by
    rcases hV with h | h
    · exact h.2
    · rw [not_all hb hv] at h; cases h.1
  (with_reducible refine is_l ?_); refine l_range H Tryz.underlying9 rfl rfl (fun g w_ H hk hg => ?_)
  repeat' (with_reducible first | refine p_tn ?_ | refine wp_block ?_ | refine l_nil ?_)
  refine w_loop (σ := Nat) (S := fun s => [(5, .string (strOfNums z)), (53, .pointer (some ⟨g, 0, none⟩))]) (J := fun s w' => Hp w w' [] [] ∧ w'.heap[g]? = some (.stringIter u s) ∧ ((bl u).take s).all vdB = true) (μ := fun s => u.size - s) 0 ⟨rfl, rfl, trivial⟩ ⟨H, hk, by simp⟩ ?_
  clear hk H
  rintro p f w_ ⟨H, hk, ha⟩
  repeat' (with_reducible first | refine wp_seq ?_ | refine w_reg ?_)
  by_cases hp : p < u.size
  · obtain ⟨b, hb, hbb⟩ := dec_byte u p hp
    (with_reducible refine is_l ?_); refine l_nextV H hk hg hp rfl rfl (fun w_ H hk => ?_)
    rcases hbb with ⟨k1, k2, k3⟩ | ⟨k1, k2⟩
    · rw [k3] at hk
      rw [k2]
      repeat' (first | (with_reducible first | refine p_tn ?_ | refine wp_seq ?_ | refine wp_block ?_ | refine w_reg ?_) | (with_reducible (refine is_if ?_; (refine w_ift rfl ?_))) | (with_reducible first | refine wp_skip ?_ | refine l_nil ?_) | ((with_reducible refine g_on ?_); (first | ((with_reducible refine g_mv ?_); refine l_p txs rfl rfl ?_) | ((with_reducible refine g_as ?_); refine l_p txs rfl rfl ?_) | ((with_reducible refine g_ex ?_); refine l_p txs rfl rfl ?_))))
      (with_reducible refine is_l ?_); refine l_callp rfl rfl (by kernel_rfl) (isDigit_c b _) ?_
      cases hd : digB b
      · repeat' (first | ((with_reducible refine g_on ?_); (first | ((with_reducible refine g_mv ?_); refine l_p txs rfl rfl ?_) | ((with_reducible refine g_un ?_); (refine l_p txs rfl rfl ?_)))) | ((with_reducible refine g_if ?_); ((with_reducible refine g_mv ?_); refine l_p txs rfl rfl ?_)))
        (with_reducible refine is_l ?_); refine l_t txs rfl rfl (fun h4 => ?_) (fun h4 => ?_)
        · have hn := hNo hb (by unfold vdB; rw [hd, decide_eq_false h4]; rfl)
          repeat' (first | (with_reducible first | refine p_tn ?_ | refine p_tr ?_ | refine p_br ?_ | refine wp_seq ?_ | refine w_reg ?_) | (with_reducible (refine is_if ?_; (refine w_ift rfl ?_))) | (with_reducible first | refine wp_ret ?_ | refine l_nil ?_) | ((with_reducible refine g_on ?_); (first | ((with_reducible refine g_as ?_); refine l_p txs rfl rfl ?_) | ((with_reducible refine g_pk ?_); refine l_p txs rfl rfl ?_))))
          refine end2 rfl rfl rfl ?_
          exact ⟨by rw [hn]; first | done | rfl, H.B⟩
        · have hv : vdB b = true := by unfold vdB; rw [decide_eq_true (Classical.not_not.1 h4)]; simp
          repeat' (first | (with_reducible first | refine p_tn ?_ | refine p_bn ?_) | (with_reducible (refine is_if ?_; (refine w_iff rfl ?_))) | (with_reducible first | refine wp_skip ?_ | refine l_nil ?_) | ((with_reducible refine g_on ?_); ((with_reducible refine g_pk ?_); refine l_p txs rfl rfl ?_)))
          exact ⟨p + 1, _, rfl, ⟨rfl, rfl, trivial⟩, ⟨H, hk, take_all hb hv ha⟩, by omega⟩
      · have hv : vdB b = true := by unfold vdB; rw [hd]; rfl
        repeat' (first | (with_reducible first | refine p_tn ?_ | refine p_bn ?_) | (with_reducible (refine is_if ?_; (refine w_iff rfl ?_))) | (with_reducible first | refine wp_skip ?_ | refine l_nil ?_) | ((with_reducible refine g_on ?_); (first | ((with_reducible refine g_mv ?_); refine l_p txs rfl rfl ?_) | ((with_reducible refine g_pk ?_); refine l_p txs rfl rfl ?_) | ((with_reducible refine g_un ?_); (refine l_p txs rfl rfl ?_)))) | ((with_reducible refine g_if ?_); (refine l_off rfl ?_)))
        exact ⟨p + 1, _, rfl, ⟨rfl, rfl, trivial⟩, ⟨H, hk, take_all hb hv ha⟩, by omega⟩
    · have hn := hNo hb (by unfold vdB digB; simp; omega)
      generalize ((Utf8.decode u p).1 : Int) = q at k2 ⊢
      repeat' (first | (with_reducible first | refine p_tn ?_ | refine wp_seq ?_ | refine wp_block ?_ | refine w_reg ?_) | (with_reducible (refine is_if ?_; (refine w_ift rfl ?_))) | (with_reducible first | refine wp_skip ?_ | refine l_nil ?_) | ((with_reducible refine g_on ?_); (first | ((with_reducible refine g_mv ?_); refine l_p txs rfl rfl ?_) | ((with_reducible refine g_as ?_); refine l_p txs rfl rfl ?_) | ((with_reducible refine g_ex ?_); refine l_p txs rfl rfl ?_))))
      have hd2 := fun w1 => isDigit_c q w1
      rw [show digB q = false by unfold digB; simp; omega] at hd2
      (with_reducible refine is_l ?_); refine l_callp rfl rfl (by kernel_rfl) (hd2 _) ?_
      repeat' (first | ((with_reducible refine g_on ?_); (first | ((with_reducible refine g_mv ?_); refine l_p txs rfl rfl ?_) | ((with_reducible refine g_un ?_); (refine l_p txs rfl rfl ?_)))) | ((with_reducible refine g_if ?_); ((with_reducible refine g_mv ?_); refine l_p txs rfl rfl ?_)))
      (with_reducible refine is_l ?_); refine l_t txs rfl rfl (fun h4 => ?_) (fun h4 => absurd h4 (by omega))
      repeat' (first | (with_reducible first | refine p_tn ?_ | refine p_tr ?_ | refine p_br ?_ | refine wp_seq ?_ | refine w_reg ?_) | (with_reducible (refine is_if ?_; (refine w_ift rfl ?_))) | (with_reducible first | refine wp_ret ?_ | refine l_nil ?_) | ((with_reducible refine g_on ?_); (first | ((with_reducible refine g_as ?_); refine l_p txs rfl rfl ?_) | ((with_reducible refine g_pk ?_); refine l_p txs rfl rfl ?_))))
      refine end2 rfl rfl rfl ?_
      exact ⟨by rw [hn]; first | done | rfl, H.B⟩
  · have hall : (bl u).all vdB = true := by rw [← List.take_of_length_le (l := bl u) (i := p) (by omega)]; exact ha
    have hV : majorS (bl t) = (bl u, numB (bl u) && decide (bl u ≠ [48]) && decide (bl u ≠ [49])) := by
      rcases hV with h | h
      · rw [hall] at h; cases h.1
      · exact h.2
    (with_reducible refine is_l ?_); refine l_nextE hk hp rfl rfl ?_
    repeat' (first | (with_reducible first | refine p_tn ?_ | refine p_tx ?_ | refine x_hit ?_ | refine wp_seq ?_ | refine w_reg ?_) | (with_reducible (refine is_if ?_; (refine w_iff rfl ?_))) | (with_reducible first | refine wp_exit ?_ | refine l_nil ?_) | ((with_reducible refine g_on ?_); (first | ((with_reducible refine g_mv ?_); refine l_p txs rfl rfl ?_) | ((with_reducible refine g_as ?_); refine l_p txs rfl rfl ?_) | ((with_reducible refine g_ex ?_); refine l_p txs rfl rfl ?_) | ((with_reducible refine g_sl ?_); refine l_sl txs rfl rfl (by first | omega | assumption | decide) (by first | omega | assumption | decide) (by first | omega | assumption | decide) ?_))))
    rw [← hu0]
    (with_reducible refine is_l ?_); refine l_callv rfl rfl (by kernel_rfl) (isNumber_c u _ (by omega)) (fun w_ K => ?_)
    have H := H.call K
    cases hnb : numB (bl u)
    · have hn : majorS (bl t) = (bl u, false) := by rw [hV, hnb]; rfl
      repeat' (first | (with_reducible first | refine p_tn ?_ | refine wp_ret ?_ | refine l_nil ?_) | ((with_reducible refine g_on ?_); (first | ((with_reducible refine g_mv ?_); refine l_p txs rfl rfl ?_) | ((with_reducible refine g_as ?_); refine l_p txs rfl rfl ?_) | ((with_reducible refine g_pk ?_); refine l_p txs rfl rfl ?_))) | ((with_reducible refine g_if ?_); (refine l_off rfl ?_)))
      refine end2 rfl rfl rfl ?_
      exact ⟨by rw [hn, strS], H.B⟩
    repeat' (first | ((with_reducible refine g_on ?_); ((with_reducible refine g_mv ?_); refine l_p txs rfl rfl ?_)) | ((with_reducible refine g_if ?_); ((with_reducible refine g_mv ?_); refine l_p txs rfl rfl ?_)))
    (with_reducible refine is_l ?_); refine l_t txs rfl rfl (fun h5 => ?_) (fun h5 => ?_)
    rotate_left
    · have h5 : bl u = [48] := Classical.not_not.1 h5
      have hn : majorS (bl t) = (bl u, false) := by rw [hV, h5]; rfl
      repeat' (first | (with_reducible first | refine p_tn ?_ | refine wp_ret ?_ | refine l_nil ?_) | ((with_reducible refine g_on ?_); (first | ((with_reducible refine g_mv ?_); refine l_p txs rfl rfl ?_) | ((with_reducible refine g_as ?_); refine l_p txs rfl rfl ?_) | ((with_reducible refine g_pk ?_); refine l_p txs rfl rfl ?_))) | ((with_reducible refine g_if ?_); (refine l_off rfl ?_)))
      refine end2 rfl rfl rfl ?_
      exact ⟨by rw [hn, strS], H.B⟩
    have h5 : bl u ≠ [48] := h5
    repeat' (first | ((with_reducible refine g_on ?_); (first | ((with_reducible refine g_mv ?_); refine l_p txs rfl rfl ?_) | ((with_reducible refine g_pk ?_); refine l_p txs rfl rfl ?_))) | ((with_reducible refine g_if ?_); ((with_reducible refine g_mv ?_); refine l_p txs rfl rfl ?_)))
    (with_reducible refine is_l ?_); refine l_t txs rfl rfl (fun h6 => ?_) (fun h6 => ?_)
    rotate_left
    · have h6 : bl u = [49] := Classical.not_not.1 h6
      have hn : majorS (bl t) = (bl u, false) := by rw [hV, h6]; rfl
      repeat' (first | (with_reducible first | refine p_tn ?_ | refine wp_ret ?_ | refine l_nil ?_) | ((with_reducible refine g_on ?_); (first | ((with_reducible refine g_as ?_); refine l_p txs rfl rfl ?_) | ((with_reducible refine g_pk ?_); refine l_p txs rfl rfl ?_))))
      refine end2 rfl rfl rfl ?_
      exact ⟨by rw [hn, strS], H.B⟩
    have h6 : bl u ≠ [49] := h6
    have hn : majorS (bl t) = (bl u, true) := by rw [hV, hnb, decide_eq_true h5, decide_eq_true h6]; rfl
    repeat' (first | (with_reducible first | refine p_tn ?_ | refine wp_ret ?_ | refine l_nil ?_) | ((with_reducible refine g_on ?_); (first | ((with_reducible refine g_as ?_); refine l_p txs rfl rfl ?_) | ((with_reducible refine g_pk ?_); refine l_p txs rfl rfl ?_))))
    refine end2 rfl rfl rfl ?_
    exact ⟨by rw [hn, strS], H.B⟩
end Go.Proofs.YtnimaenhijlcmaaGreatDoor.K
