/- Elements of a path. -/
import Derived.Test.YtnimaenhijlcmaaGreatDoorVj
namespace Go.Proofs.YtnimaenhijlcmaaGreatDoor.K
open Go.RowKit Go.Proofs.YtnimaenhijlcmaaGreatDoor.Q Go.Proofs.YtnimaenhijlcmaaGreatDoor.Mb Go.Proofs.YtnimaenhijlcmaaGreatDoorW.PrintWords
set_option linter.unusedVariables false
set_option linter.unusedSimpArgs false

theorem low_byte (x : UInt8) : ((Lib.lowerB x).toNat : Int) = lowB (x.toNat : Int) := by
  have h : ∀ i : Fin 256, ((Lib.lowerB (UInt8.ofNat i.val)).toNat : Int) = lowB (i.val : Int) := by decide +kernel
  have h2 := h ⟨x.toNat, x.toNat_lt⟩
  simpa using h2
theorem low_text (s : ByteArray) : (⟨(Lib.toLowerA s.data.toList).toArray⟩ : ByteArray) = strOfNums (lowS (bl s)) := by
  have hb : bl (⟨(Lib.toLowerA s.data.toList).toArray⟩ : ByteArray) = lowS (bl s) := by
    unfold bl Lib.toLowerA lowS
    simp only [List.toList_toArray, List.map_map]
    exact List.map_congr_left fun x _ => low_byte x
  rw [← hb, strS]
theorem toLower_c (t : ByteArray) (w : World) (ht : t.size ≤ 100000000) (ha : ∀ x ∈ bl t, x < 128) : Calls Tryz.prog 140 #[.string t] w fun e w' => e = .returned (.string (strOfNums (lowS (bl t)))) ∧ Below w.heap.size w w' := by
  refine (Tryz.strings_ToLower_ascii t w (by omega) (fun j b h => ?_)).mono fun e w' ⟨h1, h2⟩ => ⟨by rw [h1, low_text], h2⟩
  have := ha (b.toNat : Int) (List.mem_map_of_mem (List.mem_of_getElem? h))
  omega
theorem suf_one (s : ByteArray) (c : UInt8) (w : World) (hs : s.size ≤ 100000000) : Calls Tryz.prog 55 #[.string s, .string ⟨#[c]⟩] w fun e w' => e = .returned (.bool (decide ((bl s).getLast? = some (c.toNat : Int)))) ∧ w' = w := by
  refine (Tryz.strings_HasSuffix s ⟨#[c]⟩ w (by omega)).mono fun e w' ⟨h1, h2⟩ => ⟨?_, h2⟩
  rw [h1]
  congr 2
  unfold Lib.hasSuffix bl
  have hd : (⟨#[c]⟩ : ByteArray).data.toList = [c] := rfl
  rw [hd]
  rcases List.eq_nil_or_concat s.data.toList with h | ⟨u, x, h⟩
  · rw [h]; rfl
  · rw [h, List.concat_eq_append, List.map_append, List.map_cons, List.map_nil, List.getLast?_append]
    simp only [List.getLast?_singleton, Option.or_some, Option.some.injEq]
    have h3 : [c].isSuffixOf (u ++ [x]) = (c == x) := by
      unfold List.isSuffixOf
      rw [List.reverse_append]
      simp [List.isPrefixOf]
    rw [h3]
    by_cases h4 : c = x
    · subst h4; simp
    · have h5 : ¬ (x.toNat : Int) = (c.toNat : Int) := fun e => h4 (UInt8.toNat_inj.1 (by omega))
      have h6 : (c == x) = false := beq_eq_false_iff_ne.2 h4
      rw [h6]
      exact (decide_eq_false (by simpa using h5)).symm
def deB : List ByteArray := devices.map strOfNums
def deC : Array Value := (deB.map Value.string).toArray
theorem de_at : ∀ k, k < 22 → deC[k]? = some (.string (deB.getD k ⟨#[]⟩)) ∧ devices.drop k = bl (deB.getD k ⟨#[]⟩) :: devices.drop (k + 1)
  | 0, _ => ⟨rfl, rfl⟩
  | 1, _ => ⟨rfl, rfl⟩
  | 2, _ => ⟨rfl, rfl⟩
  | 3, _ => ⟨rfl, rfl⟩
  | 4, _ => ⟨rfl, rfl⟩
  | 5, _ => ⟨rfl, rfl⟩
  | 6, _ => ⟨rfl, rfl⟩
  | 7, _ => ⟨rfl, rfl⟩
  | 8, _ => ⟨rfl, rfl⟩
  | 9, _ => ⟨rfl, rfl⟩
  | 10, _ => ⟨rfl, rfl⟩
  | 11, _ => ⟨rfl, rfl⟩
  | 12, _ => ⟨rfl, rfl⟩
  | 13, _ => ⟨rfl, rfl⟩
  | 14, _ => ⟨rfl, rfl⟩
  | 15, _ => ⟨rfl, rfl⟩
  | 16, _ => ⟨rfl, rfl⟩
  | 17, _ => ⟨rfl, rfl⟩
  | 18, _ => ⟨rfl, rfl⟩
  | 19, _ => ⟨rfl, rfl⟩
  | 20, _ => ⟨rfl, rfl⟩
  | 21, _ => ⟨rfl, rfl⟩
  | k + 22, h => absurd h (by omega)
theorem info_deA : (Tryz.prog.info? 138).map (·.size) = some deC.size := by kernel_rfl
theorem bare_tail (s : L) : digBare s ++ digTail s = s := by
  unfold digBare digTail
  rw [← List.reverse_append, List.takeWhile_append_dropWhile, List.reverse_reverse]
theorem tail_nil (s : L) : digTail s = [] ↔ digBare s = s := by
  have h := bare_tail s
  constructor
  · intro e; rw [e, List.append_nil] at h; exact h
  · intro e; rw [e] at h; simpa using h
theorem last_at {l : L} (h : l ≠ []) : l.getLast? = some (at_ l ((l.length : Int) - 1)) := by
  have hp := List.length_pos_iff.2 h
  unfold at_
  rw [List.getLast?_eq_getElem?, show ((l.length : Int) - 1).toNat = l.length - 1 by omega, List.getD_eq_getElem?_getD, List.getElem?_eq_getElem (by omega)]
  rfl
theorem head_at {l : L} (h : l ≠ []) : l.head? = some (at_ l 0) := by
  unfold at_
  cases l with
  | nil => exact absurd rfl h
  | cons x r => rfl
theorem ahead_sub (c : Int) (s : L) : (∀ y ∈ aheadC c s, y ∈ s) ∧ (aheadC c s).length ≤ s.length := by
  unfold aheadC
  cases h : cutC c s with
  | none => exact ⟨fun y hy => hy, Nat.le_refl _⟩
  | some p =>
    obtain ⟨a, b⟩ := p
    have h2 := (cutC_some h).1
    refine ⟨fun y hy => by rw [h2]; exact List.mem_append_left _ hy, by rw [h2]; simp⟩
set_option maxRecDepth 100000 in
set_option maxHeartbeats 8000000 in
theorem isElement_c {w : World} {mx : Int} (hM : w.cell? ⟨0, 0, none⟩ = some (.int .i64 mx)) {t2 : TypeId} {fr : Nat × Nat} (hD : w.heap[2]? = some (.cells deC t2 fr)) (t : ByteArray) (ht : t.size ≤ 100000000) (hP : (bl t).all pathB = true) :
    Calls Tryz.prog 108 #[.string t] w fun e w' => e = .returned (.bool (elemB (bl t))) ∧ Below w.heap.size w w' := by
  have hDb : ∀ w1, Below w.heap.size w w1 → w1.heap[2]? = some (.cells deC t2 fr) := fun w1 K => (K.block _ (blk_lt hD)).trans hD
  obtain ⟨i0, hi0, hs0⟩ := Option.map_eq_some_iff.1 info_str1
  have hlen := bl_length t
  have hbt := bl_bytes t
  refine enter (args := [.string t]) Tryz.func108 rfl Tryz.ntmps108 rfl ?_
  have H := Hp.nil w
  repeat' (first | (with_reducible first | refine p_tn ?_ | refine wp_seq ?_ | refine w_reg ?_ | refine l_nil ?_) | (with_reducible (refine is_l ?_; (refine l_p tys rfl rfl ?_))))
  (with_reducible refine is_l ?_); refine l_t tys rfl rfl (fun h1 => ?_) (fun h1 => ?_)
  · have h1 : bl t = [] := h1
    have hn : elemB (bl t) = false := by rw [h1]; rfl
    repeat' (first | (with_reducible first | refine p_tn ?_ | refine p_tr ?_ | refine wp_seq ?_ | refine w_reg ?_) | (with_reducible (refine is_if ?_; (refine w_ift rfl ?_))) | (with_reducible first | refine wp_ret ?_ | refine l_nil ?_) | (with_reducible (refine is_l ?_; (first | (refine l_off rfl ?_) | (refine l_p tys rfl rfl ?_)))))
    refine end1 rfl rfl ?_
    exact ⟨by rw [hn], H.B⟩
  have h1 : bl t ≠ [] := h1
  have hpos : 0 < t.size := by rw [← hlen]; exact List.length_pos_iff.2 h1
  have hhd := head_at h1
  have hlast := last_at h1
  rw [hlen] at hlast
  repeat' (with_reducible (refine is_l ?_; (first | (refine l_p tys rfl rfl ?_) | (refine l_ix tys rfl rfl (by first | omega | assumption | decide) (by first | omega | assumption | decide) ?_))))
  (with_reducible refine is_l ?_); refine l_t tys rfl rfl (fun h2 => ?_) (fun h2 => ?_)
  · have hn : elemB (bl t) = false := by unfold elemB; rw [hhd, h2]; simp
    repeat' (first | (with_reducible first | refine p_tn ?_ | refine p_tr ?_ | refine wp_seq ?_ | refine w_reg ?_) | (with_reducible (refine is_if ?_; (refine w_ift rfl ?_))) | (with_reducible first | refine wp_ret ?_ | refine l_nil ?_) | (with_reducible (refine is_l ?_; (first | (refine l_off rfl ?_) | (refine l_p tys rfl rfl ?_)))))
    refine end1 rfl rfl ?_
    exact ⟨by rw [hn], H.B⟩
  repeat' (with_reducible (refine is_l ?_; (first | (refine l_p tys rfl rfl ?_) | (refine l_a tys rfl rfl (by first | exact in_i64 (by omega) (by omega) | exact in_u8 (by omega) (by omega) | exact in_u64 (by omega) (by omega) | exact in_i32 (by omega) (by omega)) ?_) | (refine l_ix tys rfl rfl (by first | omega | assumption | decide) (by first | omega | assumption | decide) ?_))))
  (with_reducible refine is_l ?_); refine l_t tys rfl rfl (fun h3 => ?_) (fun h3 => ?_)
  · have hn : elemB (bl t) = false := by unfold elemB; rw [hlast, h3]; simp
    repeat' (first | (with_reducible first | refine p_tn ?_ | refine p_tr ?_ | refine wp_seq ?_ | refine w_reg ?_) | (with_reducible (refine is_if ?_; (refine w_ift rfl ?_))) | (with_reducible first | refine wp_ret ?_ | refine l_nil ?_) | (with_reducible (refine is_l ?_; (refine l_p tys rfl rfl ?_))))
    refine end1 rfl rfl ?_
    exact ⟨by rw [hn], H.B⟩
  have hE : elemB (bl t) = (!(devices.contains (lowS (aheadC 46 (bl t)))) && (decide (digTail (aheadC 46 (bl t)) = []) || decide ((digBare (aheadC 46 (bl t))).getLast? ≠ some 126))) := by
    unfold elemB
    rw [hhd, hlast, decide_eq_true (show some (at_ (bl t) 0) ≠ some 46 from fun e => h2 (Option.some.inj e)), decide_eq_true (show some (at_ (bl t) ((t.size : Int) - 1)) ≠ some 46 from fun e => h3 (Option.some.inj e))]
    have : (bl t).isEmpty = false := by cases hb : bl t with | nil => exact absurd hb h1 | cons x r => rfl
    rw [this]
    simp
  obtain ⟨sm1, sm2⟩ := ahead_sub 46 (bl t)
  repeat' (first | (with_reducible first | refine p_tn ?_ | refine wp_seq ?_ | refine w_reg ?_) | (with_reducible (refine is_if ?_; (refine w_iff rfl ?_))) | (with_reducible first | refine wp_skip ?_ | refine l_nil ?_) | (with_reducible (refine is_l ?_; (refine l_p tys rfl rfl ?_))))
  have hcu := cutb_c t 46 (by omega) w mx hM
  rw [show ((46 : UInt8).toNat : Int) = 46 from rfl] at hcu
  (with_reducible refine is_l ?_); refine l_callv rfl rfl (by kernel_rfl) hcu (fun w_ K => ?_)
  have H := H.call K
  generalize aheadC 46 (bl t) = s at hE sm1 sm2 ⊢
  have bs : Bytes s := fun y hy => hbt y (sm1 y hy)
  have zs := sizeS' bs
  repeat' (first | (with_reducible first | refine p_tn ?_ | refine wp_seq ?_ | refine w_reg ?_ | refine l_nil ?_) | (with_reducible (refine is_l ?_; (refine l_p tys rfl rfl ?_))))
  have hlo := toLower_c (strOfNums s) w_ (by omega) (by rw [blS bs]; exact fun x hx => path_small (List.all_eq_true.1 hP x (sm1 x hx)))
  rw [blS bs] at hlo
  (with_reducible refine is_l ?_); refine l_callv rfl rfl (by kernel_rfl) hlo (fun w_ K => ?_)
  have H := H.call K
  have bls : Bytes (lowS s) := fun y hy => by
    obtain ⟨x, hx, rfl⟩ := List.mem_map.1 hy
    have := bs x hx
    unfold lowB
    split <;> omega
  have eL := blS bls
  repeat' (first | (with_reducible first | refine p_tn ?_ | refine wp_seq ?_ | refine w_reg ?_ | refine l_nil ?_) | (with_reducible (refine is_l ?_; (refine l_p tys rfl rfl ?_))))
  (with_reducible refine is_l ?_); refine l_load_row rfl rfl (hDb _ H.B) Tryz.underlying138 info_deA ?_
  repeat' (first | (with_reducible first | refine p_tn ?_ | refine wp_block ?_ | refine l_nil ?_) | (with_reducible (refine is_l ?_; (refine l_p tys rfl rfl ?_))))
  refine w_loop (σ := Nat) (S := fun k => [(3, .string (strOfNums s)), (6, .string (strOfNums (lowS s))), (33, .agg deC), (34, .int .i64 (k : Int))]) (J := fun k w' => Hp w w' [] [] ∧ k ≤ 22 ∧ devices.contains (lowS s) = (devices.drop k).contains (lowS s)) (μ := fun k => 22 - k) 0 ⟨rfl, rfl, rfl, rfl, trivial⟩ ⟨H, by omega, rfl⟩ ?_
  clear H
  rintro k f w_ ⟨H, hk, hl⟩
  repeat' (with_reducible first | refine wp_seq ?_ | refine w_reg ?_)
  (with_reducible refine is_l ?_); refine l_t tys rfl rfl (fun hlt => ?_) (fun hge => ?_)
  · have hk' : k < 22 := by omega
    obtain ⟨q1, q2⟩ := de_at k hk'
    rw [q2, List.contains_cons] at hl
    repeat' (first | (with_reducible first | refine p_tn ?_ | refine wp_seq ?_ | refine wp_block ?_ | refine w_reg ?_) | (with_reducible (refine is_if ?_; (refine w_ift rfl ?_))) | (with_reducible first | refine wp_skip ?_ | refine l_nil ?_))
    (with_reducible refine is_l ?_); refine l_idx_text rfl rfl rfl Tryz.underlying138 Tryz.underlying9 hi0 hs0 hk' q1 ?_
    repeat' (first | (with_reducible first | refine p_tn ?_ | refine wp_seq ?_ | refine w_reg ?_ | refine l_nil ?_) | (with_reducible (refine is_l ?_; (refine l_p tys rfl rfl ?_))))
    (with_reducible refine is_l ?_); refine l_t tys rfl rfl (fun hh => ?_) (fun hnn => ?_)
    · have hn : elemB (bl t) = false := by rw [hE, hl, ← hh, eL]; simp
      repeat' (first | (with_reducible first | refine p_tn ?_ | refine p_tr ?_ | refine p_br ?_ | refine wp_seq ?_ | refine w_reg ?_) | (with_reducible (refine is_if ?_; (refine w_ift rfl ?_))) | (with_reducible first | refine wp_ret ?_ | refine l_nil ?_) | (with_reducible (refine is_l ?_; (refine l_p tys rfl rfl ?_))))
      refine end1 rfl rfl ?_
      exact ⟨by rw [hn], H.B⟩
    · rw [eL] at hnn
      repeat' (first | (with_reducible first | refine p_tn ?_ | refine p_bn ?_ | refine w_reg ?_) | (with_reducible (refine is_if ?_; (refine w_iff rfl ?_))) | (with_reducible first | refine wp_skip ?_ | refine l_nil ?_) | (with_reducible (refine is_l ?_; (first | (refine l_p tys rfl rfl ?_) | (refine l_a tys rfl rfl (by first | exact in_i64 (by omega) (by omega) | exact in_u8 (by omega) (by omega) | exact in_u64 (by omega) (by omega) | exact in_i32 (by omega) (by omega)) ?_)))))
      exact ⟨k + 1, _, rfl, ⟨rfl, rfl, rfl, rfl, trivial⟩, ⟨H, by omega, by rw [hl, beq_eq_false_iff_ne.2 hnn]; simp⟩, by omega⟩
  · have hnil : devices.drop k = [] := List.drop_eq_nil_of_le (by show 22 ≤ k; omega)
    rw [hnil] at hl
    rw [hl] at hE
    repeat' (first | (with_reducible first | refine p_tn ?_ | refine p_tx ?_ | refine x_hit ?_ | refine wp_seq ?_ | refine w_reg ?_) | (with_reducible (refine is_if ?_; (refine w_iff rfl ?_))) | (with_reducible first | refine wp_exit ?_ | refine l_nil ?_) | (with_reducible (refine is_l ?_; (refine l_p tys rfl rfl ?_))))
    have htr := trimDig_c (strOfNums s) w_ (by omega)
    rw [blS bs] at htr
    (with_reducible refine is_l ?_); refine l_callv rfl rfl (by kernel_rfl) htr (fun w_ K => ?_)
    have H := H.call K
    have bd : Bytes (digBare s) := fun y hy => bs y (by rw [← bare_tail s]; exact List.mem_append_left _ hy)
    have zd := sizeS' bd
    have hdl : (digBare s).length ≤ s.length := by
      have := congrArg List.length (bare_tail s)
      rw [List.length_append] at this
      omega
    repeat' (first | (with_reducible first | refine p_tn ?_ | refine wp_seq ?_ | refine w_reg ?_ | refine l_nil ?_) | (with_reducible (refine is_l ?_; (refine l_p tys rfl rfl ?_))))
    (with_reducible refine is_l ?_); refine l_t tys rfl rfl (fun e1 => ?_) (fun e1 => ?_)
    · rw [blS bs, blS bd] at e1
      have hn : elemB (bl t) = true := by rw [hE, decide_eq_true ((tail_nil s).2 e1)]; simp
      repeat' (first | (with_reducible first | refine p_tn ?_ | refine wp_ret ?_ | refine l_nil ?_) | (with_reducible (refine is_l ?_; (first | (refine l_off rfl ?_) | (refine l_p tys rfl rfl ?_)))))
      refine end1 rfl rfl ?_
      exact ⟨by rw [hn], H.B⟩
    · rw [blS bs, blS bd] at e1
      have hsu := fun w1 => suf_one (strOfNums (digBare s)) 126 w1 (by omega)
      rw [blS bd, show ((126 : UInt8).toNat : Int) = 126 from rfl] at hsu
      repeat' (with_reducible (refine is_l ?_; (refine l_p tys rfl rfl ?_)))
      by_cases hg : (digBare s).getLast? = some 126
      · rw [decide_eq_true hg] at hsu
        have hn : elemB (bl t) = false := by rw [hE, decide_eq_false (fun e => e1 ((tail_nil s).1 e)), hg]; simp
        (with_reducible refine is_l ?_); refine l_callp rfl rfl (by kernel_rfl) (hsu _) ?_
        repeat' (first | (with_reducible first | refine p_tn ?_ | refine wp_ret ?_ | refine l_nil ?_) | (with_reducible (refine is_l ?_; (refine l_p tys rfl rfl ?_))))
        refine end1 rfl rfl ?_
        exact ⟨by rw [hn]; rfl, H.B⟩
      · rw [decide_eq_false hg] at hsu
        have hn : elemB (bl t) = true := by rw [hE, decide_eq_true (show (digBare s).getLast? ≠ some 126 from hg)]; simp
        (with_reducible refine is_l ?_); refine l_callp rfl rfl (by kernel_rfl) (hsu _) ?_
        repeat' (first | (with_reducible first | refine p_tn ?_ | refine wp_ret ?_ | refine l_nil ?_) | (with_reducible (refine is_l ?_; (refine l_p tys rfl rfl ?_))))
        refine end1 rfl rfl ?_
        exact ⟨by rw [hn]; rfl, H.B⟩
end Go.Proofs.YtnimaenhijlcmaaGreatDoor.K
