/- The reference's numbers, words, pre-releases: their order. -/
import Derived.Test.YtnimaenhijlcmaaGreatDoorCb
namespace Go.Proofs.YtnimaenhijlcmaaGreatDoor.K.Ref
open Go.RowKit Go.Proofs.YtnimaenhijlcmaaGreatDoor.Q Go.Proofs.YtnimaenhijlcmaaGreatDoor.K Go.Proofs.YtnimaenhijlcmaaGreatDoor.Mb Go.Proofs.YtnimaenhijlcmaaGreatDoorW.PrintWords
set_option linter.unusedVariables false
set_option linter.unusedSimpArgs false

set_option maxHeartbeats 4000000 in
theorem numbers_c (a b : ByteArray) (w : World) (ha : a.size ≤ 100000000) (hb : b.size ≤ 100000000) : Calls Tryz.prog 79 #[.string a, .string b] w fun e w' => e = .returned (.int .i64 (cmpN (bl a) (bl b))) ∧ Below w.heap.size w w' := by
  have hla := bl_length a
  have hlb := bl_length b
  refine enter (args := [.string a, .string b]) Tryz.func79 rfl Tryz.ntmps79 rfl ?_
  have H := Hp.nil w
  have hV : cmpN (bl a) (bl b) = if (bl a).length < (bl b).length then -1 else if (bl b).length < (bl a).length then 1 else cmpB (bl a) (bl b) := rfl
  repeat' (first | (with_reducible first | refine p_tn ?_ | refine wp_seq ?_ | refine w_reg ?_ | refine l_nil ?_) | ((with_reducible refine g_on ?_); (first | ((with_reducible refine g_mv ?_); refine l_p txs rfl rfl ?_) | ((with_reducible refine g_as ?_); refine l_p txs rfl rfl ?_) | ((with_reducible refine g_cl ?_); refine l_p txs rfl rfl ?_))))
  (with_reducible refine is_l ?_); refine l_t txs rfl rfl (fun h1 => ?_) (fun h1 => ?_)
  · repeat' (first | (with_reducible first | refine p_tn ?_ | refine wp_seq ?_ | refine w_reg ?_) | (with_reducible (refine is_if ?_; (refine w_ift rfl ?_))) | (with_reducible refine l_nil ?_) | ((with_reducible refine g_on ?_); (first | ((with_reducible refine g_mv ?_); refine l_p txs rfl rfl ?_) | ((with_reducible refine g_cl ?_); refine l_p txs rfl rfl ?_))))
    (with_reducible refine is_l ?_); refine l_t txs rfl rfl (fun h2 => ?_) (fun h2 => ?_)
    · have hn : cmpN (bl a) (bl b) = -1 := by rw [hV, if_pos (by omega)]
      repeat' (first | (with_reducible first | refine p_tn ?_ | refine p_tr ?_ | refine wp_seq ?_ | refine w_reg ?_) | (with_reducible (refine is_if ?_; (refine w_ift rfl ?_))) | (with_reducible first | refine wp_ret ?_ | refine l_nil ?_) | ((with_reducible refine g_on ?_); ((with_reducible refine g_as ?_); refine l_p txs rfl rfl ?_)))
      refine end1 rfl rfl ?_
      exact ⟨by rw [hn], H.B⟩
    · have hn : cmpN (bl a) (bl b) = 1 := by rw [hV, if_neg (by omega), if_pos (by omega)]
      repeat' (first | (with_reducible first | refine p_tn ?_ | refine p_tr ?_ | refine wp_seq ?_ | refine w_reg ?_) | (with_reducible (refine is_if ?_; (refine w_iff rfl ?_))) | (with_reducible first | refine wp_skip ?_ | refine wp_ret ?_ | refine l_nil ?_) | ((with_reducible refine g_on ?_); ((with_reducible refine g_as ?_); refine l_p txs rfl rfl ?_)))
      refine end1 rfl rfl ?_
      exact ⟨by rw [hn], H.B⟩
  · have hn : cmpN (bl a) (bl b) = cmpB (bl a) (bl b) := by rw [hV, if_neg (by omega), if_neg (by omega)]
    repeat' (first | (with_reducible first | refine p_tn ?_ | refine wp_seq ?_ | refine w_reg ?_) | (with_reducible (refine is_if ?_; (refine w_iff rfl ?_))) | (with_reducible first | refine wp_skip ?_ | refine l_nil ?_) | ((with_reducible refine g_on ?_); ((with_reducible refine g_mv ?_); refine l_p txs rfl rfl ?_)))
    (with_reducible refine is_l ?_); refine l_callv rfl rfl (by kernel_rfl) (bytes_c a b _ ha hb) (fun w_ K => ?_)
    have H := H.call K
    repeat' (first | (with_reducible first | refine p_tn ?_ | refine wp_ret ?_ | refine l_nil ?_) | ((with_reducible refine g_on ?_); ((with_reducible refine g_as ?_); refine l_p txs rfl rfl ?_)))
    refine end1 rfl rfl ?_
    exact ⟨by rw [hn], H.B⟩
set_option maxHeartbeats 4000000 in
theorem digs_num {s : L} (hs : wordB s = true) : digsB s = numB s := by
  rw [wordB_digs] at hs
  rw [numB_digs]
  cases hd : digsB s
  · rfl
  · rw [hd] at hs
    simp only [Bool.and_eq_true, Bool.not_true, Bool.false_or] at hs
    have h2 := hs.2.2
    rw [numB_digs, hd] at h2
    exact h2.symm
set_option maxHeartbeats 4000000 in
theorem words_c (a b : ByteArray) (w : World) (ha : a.size ≤ 100000000) (hb : b.size ≤ 100000000) (wa : wordB (bl a) = true) (wb : wordB (bl b) = true) : Calls Tryz.prog 123 #[.string a, .string b] w fun e w' => e = .returned (.int .i64 (cmpW (bl a) (bl b))) ∧ Below w.heap.size w w' := by
  refine enter (args := [.string a, .string b]) Tryz.func123 rfl Tryz.ntmps123 rfl ?_
  have H := Hp.nil w
  have hV : cmpW (bl a) (bl b) = if digsB (bl a) then (if digsB (bl b) then cmpN (bl a) (bl b) else -1) else if digsB (bl b) then 1 else cmpB (bl a) (bl b) := by
    rw [digs_num wa, digs_num wb]
    rfl
  repeat' (first | (with_reducible first | refine p_tn ?_ | refine wp_seq ?_ | refine w_reg ?_ | refine l_nil ?_) | ((with_reducible refine g_on ?_); (first | ((with_reducible refine g_mv ?_); refine l_p txs rfl rfl ?_) | ((with_reducible refine g_as ?_); refine l_p txs rfl rfl ?_))))
  (with_reducible refine is_l ?_); refine l_callp rfl rfl (by kernel_rfl) (digits_c a _ ha) ?_
  repeat' (first | (with_reducible first | refine p_tn ?_ | refine wp_seq ?_ | refine w_reg ?_ | refine l_nil ?_) | ((with_reducible refine g_on ?_); (first | ((with_reducible refine g_mv ?_); refine l_p txs rfl rfl ?_) | ((with_reducible refine g_as ?_); refine l_p txs rfl rfl ?_))))
  (with_reducible refine is_l ?_); refine l_callp rfl rfl (by kernel_rfl) (digits_c b _ hb) ?_
  cases hx : digsB (bl a)
  · cases hy : digsB (bl b)
    · have hn : cmpW (bl a) (bl b) = cmpB (bl a) (bl b) := by rw [hV, hx, hy]; rfl
      repeat' (first | (with_reducible first | refine p_tn ?_ | refine p_bn ?_ | refine wp_seq ?_ | refine wp_block ?_ | refine w_reg ?_) | (with_reducible (refine is_if ?_; (refine w_iff rfl ?_))) | (with_reducible first | refine wp_skip ?_ | refine l_nil ?_) | ((with_reducible refine g_on ?_); (first | ((with_reducible refine g_mv ?_); refine l_p txs rfl rfl ?_) | ((with_reducible refine g_as ?_); refine l_p txs rfl rfl ?_) | ((with_reducible refine g_pk ?_); refine l_p txs rfl rfl ?_))) | ((with_reducible refine g_if ?_); (refine l_off rfl ?_)))
      (with_reducible refine is_l ?_); refine l_callv rfl rfl (by kernel_rfl) (bytes_c a b _ ha hb) (fun w_ K => ?_)
      have H := H.call K
      repeat' (first | (with_reducible first | refine p_tn ?_ | refine wp_ret ?_ | refine l_nil ?_) | ((with_reducible refine g_on ?_); ((with_reducible refine g_as ?_); refine l_p txs rfl rfl ?_)))
      refine end1 rfl rfl ?_
      exact ⟨by rw [hn], H.B⟩
    · have hn : cmpW (bl a) (bl b) = 1 := by rw [hV, hx, hy]; rfl
      repeat' (first | (with_reducible first | refine p_tn ?_ | refine p_tr ?_ | refine p_br ?_ | refine wp_seq ?_ | refine wp_block ?_ | refine w_reg ?_) | (with_reducible (refine is_if ?_; (first | (refine w_ift rfl ?_) | (refine w_iff rfl ?_)))) | (with_reducible first | refine wp_ret ?_ | refine l_nil ?_) | ((with_reducible refine g_on ?_); (first | ((with_reducible refine g_mv ?_); refine l_p txs rfl rfl ?_) | ((with_reducible refine g_as ?_); refine l_p txs rfl rfl ?_) | ((with_reducible refine g_pk ?_); refine l_p txs rfl rfl ?_))) | ((with_reducible refine g_if ?_); (refine l_off rfl ?_)))
      refine end1 rfl rfl ?_
      exact ⟨by rw [hn], H.B⟩
  · cases hy : digsB (bl b)
    · have hn : cmpW (bl a) (bl b) = -1 := by rw [hV, hx, hy]; rfl
      repeat' (first | (with_reducible first | refine p_tn ?_ | refine p_tr ?_ | refine p_br ?_ | refine wp_seq ?_ | refine wp_block ?_ | refine w_reg ?_) | (with_reducible (refine is_if ?_; (first | (refine w_ift rfl ?_) | (refine w_iff rfl ?_)))) | (with_reducible first | refine wp_ret ?_ | refine l_nil ?_) | ((with_reducible refine g_on ?_); (first | ((with_reducible refine g_mv ?_); refine l_p txs rfl rfl ?_) | ((with_reducible refine g_as ?_); refine l_p txs rfl rfl ?_) | ((with_reducible refine g_pk ?_); refine l_p txs rfl rfl ?_))) | ((with_reducible refine g_if ?_); ((with_reducible refine g_mv ?_); refine l_p txs rfl rfl ?_)))
      refine end1 rfl rfl ?_
      exact ⟨by rw [hn], H.B⟩
    · have hn : cmpW (bl a) (bl b) = cmpN (bl a) (bl b) := by rw [hV, hx, hy]; rfl
      repeat' (first | (with_reducible first | refine p_tn ?_ | refine wp_seq ?_ | refine wp_block ?_ | refine w_reg ?_) | (with_reducible (refine is_if ?_; (refine w_ift rfl ?_))) | (with_reducible refine l_nil ?_) | ((with_reducible refine g_on ?_); (first | ((with_reducible refine g_mv ?_); refine l_p txs rfl rfl ?_) | ((with_reducible refine g_as ?_); refine l_p txs rfl rfl ?_) | ((with_reducible refine g_pk ?_); refine l_p txs rfl rfl ?_))) | ((with_reducible refine g_if ?_); ((with_reducible refine g_mv ?_); refine l_p txs rfl rfl ?_)))
      (with_reducible refine is_l ?_); refine l_callv rfl rfl (by kernel_rfl) (numbers_c a b _ ha hb) (fun w_ K => ?_)
      have H := H.call K
      repeat' (first | (with_reducible first | refine p_tn ?_ | refine p_tr ?_ | refine p_br ?_ | refine wp_ret ?_ | refine l_nil ?_) | ((with_reducible refine g_on ?_); ((with_reducible refine g_as ?_); refine l_p txs rfl rfl ?_)))
      refine end1 rfl rfl ?_
      exact ⟨by rw [hn], H.B⟩
theorem cmpL_short (a b : List L) (i : Nat) (h : a.drop i = [] ∨ b.drop i = []) : cmpL (a.drop i) (b.drop i) = if (a.drop i).length < (b.drop i).length then -1 else if (b.drop i).length < (a.drop i).length then 1 else 0 := by
  generalize a.drop i = x at h ⊢
  generalize b.drop i = y at h ⊢
  cases x <;> cases y <;> simp_all [cmpL]
/-- A list of words that reads at a place. -/
structure WordsAt (w : World) (A : Option Addr) (l : List L) : Prop where
  rd : Rd w A (strC l)
  ok : ∀ x ∈ l, wordB x = true ∧ Bytes x ∧ x.length ≤ 100000000
theorem WordsAt.below {w w' : World} {A : Option Addr} {l : List L} (h : WordsAt w A l) (hb : Below w.heap.size w w') : WordsAt w' A l := ⟨h.rd.below hb, h.ok⟩
theorem WordsAt.some {w : World} {A : Option Addr} {l : List L} (h : WordsAt w A l) (hl : 0 < l.length) : ∃ ad, A = some ad := by
  cases A with
  | some ad => exact ⟨ad, rfl⟩
  | none =>
    have := h.rd.1 rfl
    cases l with
    | nil => exact absurd hl (by simp)
    | cons x r => simp [strC] at this
theorem word_cell {w : World} {ad : Addr} {l : List L} {i : Nat} {x : L} (h : WordsAt w (some ad) l) (hx : l[i]? = some x) : w.cell? (ad.add (Int.toNat (i : Int) * 1)) = some (.string (strOfNums x)) := by
  rw [Int.toNat_natCast, Nat.mul_one]
  exact h.rd.2 ad rfl i _ (by unfold strC; rw [List.getElem?_map, hx]; rfl)
set_option maxHeartbeats 8000000 in
theorem releases_c {w : World} {A B : Option Addr} {cA cB : Nat} {p q : List L} (hp : WordsAt w A p) (hq : WordsAt w B q) (lp : p.length ≤ 100000000) (lq : q.length ≤ 100000000) : Calls Tryz.prog 80 #[.slice A p.length cA, .slice B q.length cB] w fun e w' => e = .returned (.int .i64 (cmpP p q)) ∧ Below w.heap.size w w' := by
  refine enter (args := [.slice A p.length cA, .slice B q.length cB]) Tryz.func80 rfl Tryz.ntmps80 rfl ?_
  have H := Hp.nil w
  have hPP : cmpP p q = if p.length = 0 ∨ q.length = 0 then (if p.length = 0 ∧ q.length = 0 then 0 else if p.length = 0 then 1 else -1) else cmpL p q := by
    unfold Mb.cmpP
    simp only [List.length_eq_zero_iff]
  repeat' (first | (with_reducible first | refine p_tn ?_ | refine wp_seq ?_ | refine w_reg ?_ | refine l_nil ?_) | ((with_reducible refine g_on ?_); (first | ((with_reducible refine g_mv ?_); refine l_p txs rfl rfl ?_) | ((with_reducible refine g_as ?_); refine l_p txs rfl rfl ?_) | ((with_reducible refine g_cl ?_); refine l_p txs rfl rfl ?_))))
  (with_reducible refine is_l ?_); refine l_t txs rfl rfl (fun h1 => ?_) (fun h1 => ?_)
  · have h1 : p.length = 0 := by omega
    repeat' (first | (with_reducible first | refine p_tn ?_ | refine wp_seq ?_ | refine wp_block ?_ | refine w_reg ?_) | (with_reducible (refine is_if ?_; (refine w_ift rfl ?_))) | (with_reducible refine l_nil ?_) | ((with_reducible refine g_on ?_); (first | ((with_reducible refine g_mv ?_); refine l_p txs rfl rfl ?_) | ((with_reducible refine g_pk ?_); refine l_p txs rfl rfl ?_) | ((with_reducible refine g_cl ?_); refine l_p txs rfl rfl ?_))) | ((with_reducible refine g_if ?_); (refine l_off rfl ?_)))
    (with_reducible refine is_l ?_); refine l_t txs rfl rfl (fun h => absurd h (by omega)) (fun _ => ?_)
    repeat' (first | (with_reducible first | refine p_tn ?_ | refine wp_seq ?_ | refine w_reg ?_) | (with_reducible (refine is_if ?_; (refine w_iff rfl ?_))) | (with_reducible refine l_nil ?_) | ((with_reducible refine g_on ?_); (first | ((with_reducible refine g_mv ?_); refine l_p txs rfl rfl ?_) | ((with_reducible refine g_as ?_); refine l_p txs rfl rfl ?_) | ((with_reducible refine g_cl ?_); refine l_p txs rfl rfl ?_))))
    (with_reducible refine is_l ?_); refine l_t txs rfl rfl (fun h2 => ?_) (fun h2 => ?_)
    · have hn : cmpP p q = 1 := by rw [hPP, if_pos (.inl h1), if_neg (by omega), if_pos h1]
      repeat' (first | (with_reducible first | refine p_tn ?_ | refine p_tr ?_ | refine p_br ?_ | refine wp_seq ?_ | refine w_reg ?_) | (with_reducible (refine is_if ?_; (refine w_ift rfl ?_))) | (with_reducible first | refine wp_ret ?_ | refine l_nil ?_) | ((with_reducible refine g_on ?_); ((with_reducible refine g_as ?_); refine l_p txs rfl rfl ?_)))
      refine end1 rfl rfl ?_
      exact ⟨by rw [hn], H.B⟩
    · have hn : cmpP p q = 0 := by rw [hPP, if_pos (.inl h1), if_pos (by omega)]
      repeat' (first | (with_reducible first | refine p_tn ?_ | refine p_tr ?_ | refine p_bn ?_ | refine wp_seq ?_ | refine w_reg ?_) | (with_reducible (refine is_if ?_; (refine w_iff rfl ?_))) | (with_reducible first | refine wp_skip ?_ | refine wp_ret ?_ | refine l_nil ?_) | ((with_reducible refine g_on ?_); ((with_reducible refine g_as ?_); refine l_p txs rfl rfl ?_)))
      refine end1 rfl rfl ?_
      exact ⟨by rw [hn], H.B⟩
  repeat' (first | ((with_reducible refine g_on ?_); ((with_reducible refine g_mv ?_); refine l_p txs rfl rfl ?_)) | ((with_reducible refine g_if ?_); (first | ((with_reducible refine g_mv ?_); refine l_p txs rfl rfl ?_) | ((with_reducible refine g_cl ?_); refine l_p txs rfl rfl ?_))))
  (with_reducible refine is_l ?_); refine l_t txs rfl rfl (fun h2 => ?_) (fun h2 => ?_)
  · repeat' (first | (with_reducible first | refine p_tn ?_ | refine wp_seq ?_ | refine wp_block ?_ | refine w_reg ?_) | (with_reducible (refine is_if ?_; (refine w_ift rfl ?_))) | (with_reducible refine l_nil ?_) | ((with_reducible refine g_on ?_); (first | ((with_reducible refine g_mv ?_); refine l_p txs rfl rfl ?_) | ((with_reducible refine g_pk ?_); refine l_p txs rfl rfl ?_) | ((with_reducible refine g_cl ?_); refine l_p txs rfl rfl ?_))))
    (with_reducible refine is_l ?_); refine l_t txs rfl rfl (fun _ => ?_) (fun h => absurd (by omega) h)
    have hn : cmpP p q = -1 := by rw [hPP, if_pos (.inr (by omega)), if_neg (by omega), if_neg (by omega)]
    repeat' (first | (with_reducible first | refine p_tn ?_ | refine p_tr ?_ | refine p_br ?_ | refine wp_seq ?_ | refine w_reg ?_) | (with_reducible (refine is_if ?_; (refine w_ift rfl ?_))) | (with_reducible first | refine wp_ret ?_ | refine l_nil ?_) | ((with_reducible refine g_on ?_); ((with_reducible refine g_as ?_); refine l_p txs rfl rfl ?_)))
    refine end1 rfl rfl ?_
    exact ⟨by rw [hn], H.B⟩
  have hP : cmpP p q = cmpL p q := by rw [hPP, if_neg (by omega)]
  obtain ⟨ad, rfl⟩ := hp.some (by omega)
  obtain ⟨bd, rfl⟩ := hq.some (by omega)
  repeat' (first | (with_reducible first | refine p_tn ?_ | refine wp_seq ?_ | refine wp_block ?_ | refine w_reg ?_) | (with_reducible (refine is_if ?_; (refine w_iff rfl ?_))) | (with_reducible first | refine wp_skip ?_ | refine l_nil ?_) | ((with_reducible refine g_on ?_); (first | ((with_reducible refine g_as ?_); refine l_p txs rfl rfl ?_) | ((with_reducible refine g_pk ?_); refine l_p txs rfl rfl ?_))))
  refine w_loop (σ := Nat) (S := fun s => [(0, .slice (some ad) p.length cA), (1, .slice (some bd) q.length cB), (5, .int .i64 (s : Int))]) (J := fun s w' => Hp w w' [] [] ∧ s ≤ p.length ∧ s ≤ q.length ∧ cmpL p q = cmpL (p.drop s) (q.drop s)) (μ := fun s => p.length - s) 0 ⟨rfl, rfl, rfl, trivial⟩ ⟨H, by omega, by omega, rfl⟩ ?_
  clear H
  rintro i f w_ ⟨H, hi, hj, hV⟩
  repeat' (first | (with_reducible first | refine wp_seq ?_ | refine w_reg ?_) | ((with_reducible refine g_on ?_); (first | ((with_reducible refine g_mv ?_); refine l_p txs rfl rfl ?_) | ((with_reducible refine g_cl ?_); refine l_p txs rfl rfl ?_))))
  (with_reducible refine is_l ?_); refine l_t txs rfl rfl (fun h1 => ?_) (fun h1 => ?_)
  · repeat' (first | ((with_reducible refine g_on ?_); ((with_reducible refine g_mv ?_); refine l_p txs rfl rfl ?_)) | ((with_reducible refine g_if ?_); (first | ((with_reducible refine g_mv ?_); refine l_p txs rfl rfl ?_) | ((with_reducible refine g_cl ?_); refine l_p txs rfl rfl ?_))))
    (with_reducible refine is_l ?_); refine l_t txs rfl rfl (fun h2 => ?_) (fun h2 => ?_)
    · obtain ⟨x, hx⟩ : ∃ x, p[i]? = some x := ⟨_, List.getElem?_eq_getElem (by omega)⟩
      obtain ⟨y, hy⟩ : ∃ y, q[i]? = some y := ⟨_, List.getElem?_eq_getElem (by omega)⟩
      obtain ⟨x1, x2, x3⟩ := hp.ok x (List.mem_of_getElem? hx)
      obtain ⟨y1, y2, y3⟩ := hq.ok y (List.mem_of_getElem? hy)
      have zx : (strOfNums x).size ≤ 100000000 := by rw [← bl_length, blS x2]; omega
      have zy : (strOfNums y).size ≤ 100000000 := by rw [← bl_length, blS y2]; omega
      have dp : p.drop i = x :: p.drop (i + 1) := by
        obtain ⟨h1, h2⟩ := List.getElem?_eq_some_iff.1 hx
        rw [List.drop_eq_getElem_cons h1, h2]
      have dq : q.drop i = y :: q.drop (i + 1) := by
        obtain ⟨h1, h2⟩ := List.getElem?_eq_some_iff.1 hy
        rw [List.drop_eq_getElem_cons h1, h2]
      rw [dp, dq] at hV
      have hV : cmpL p q = if cmpW x y ≠ 0 then cmpW x y else cmpL (p.drop (i + 1)) (q.drop (i + 1)) := hV
      have hc := fun w1 => words_c (strOfNums x) (strOfNums y) w1 zx zy (by rw [blS x2]; exact x1) (by rw [blS y2]; exact y1)
      rw [blS x2, blS y2] at hc
      generalize cmpW x y = j at hV hc
      repeat' (first | (with_reducible first | refine p_tn ?_ | refine wp_seq ?_ | refine wp_block ?_) | (with_reducible (refine is_if ?_; (refine w_ift rfl ?_))) | (with_reducible first | refine wp_skip ?_ | refine l_nil ?_) | ((with_reducible refine g_on ?_); ((with_reducible refine g_pk ?_); refine l_p txs rfl rfl ?_)))
      refine w_draw (C := fun w' => Hp w w' [] []) (by kernel_rfl) (by kernel_rfl) H.drew ?_
      repeat' (first | (with_reducible refine q_nil ?_) | ((with_reducible refine is_q ?_); first | (refine q_off rfl ?_) | (refine q_p txs rfl rfl ?_)))
      refine q_ia txs rfl rfl (by omega) (by omega) ?_
      refine q_ld txs rfl rfl (fun w' K => word_cell (hp.below K.B) hx) ?_
      repeat' (first | (with_reducible refine q_nil ?_) | ((with_reducible refine is_q ?_); first | (refine q_off rfl ?_) | (refine q_p txs rfl rfl ?_)))
      refine q_ia txs rfl rfl (by omega) (by omega) ?_
      refine q_ld txs rfl rfl (fun w' K => word_cell (hq.below K.B) hy) ?_
      refine q_call rfl rfl (by kernel_rfl) (fun w1 K => (hc w1).mono fun e w2 h => ⟨h.1, K.call h.2⟩) ?_
      repeat' (first | (with_reducible refine q_nil ?_) | ((with_reducible refine is_q ?_); first | (refine q_off rfl ?_) | (refine q_p txs rfl rfl ?_)))
      clear H
      intro w_ H
      repeat' (first | (with_reducible first | refine p_tn ?_ | refine wp_seq ?_ | refine w_reg ?_) | ((with_reducible refine g_on ?_); ((with_reducible refine g_mv ?_); refine l_p txs rfl rfl ?_)))
      (with_reducible refine is_l ?_); refine l_t txs rfl rfl (fun h3 => ?_) (fun h3 => ?_)
      · have hn : cmpP p q = j := by rw [hP, hV, if_pos h3]
        repeat' (first | (with_reducible first | refine p_tn ?_ | refine p_tr ?_ | refine p_br ?_ | refine wp_seq ?_ | refine w_reg ?_) | (with_reducible (refine is_if ?_; (refine w_ift rfl ?_))) | (with_reducible first | refine wp_ret ?_ | refine l_nil ?_) | ((with_reducible refine g_on ?_); (first | ((with_reducible refine g_mv ?_); refine l_p txs rfl rfl ?_) | ((with_reducible refine g_as ?_); refine l_p txs rfl rfl ?_))))
        refine end1 rfl rfl ?_
        exact ⟨by rw [hn], H.B⟩
      · repeat' (first | (with_reducible first | refine p_tn ?_ | refine p_bn ?_ | refine w_reg ?_) | (with_reducible (refine is_if ?_; (refine w_iff rfl ?_))) | (with_reducible first | refine wp_skip ?_ | refine l_nil ?_) | ((with_reducible refine g_on ?_); (first | ((with_reducible refine g_mv ?_); refine l_p txs rfl rfl ?_) | ((with_reducible refine g_as ?_); refine l_p txs rfl rfl ?_) | ((with_reducible refine g_bi ?_); (refine l_a txs rfl rfl (by first | exact in_i64 (by omega) (by omega) | exact in_u8 (by omega) (by omega) | exact in_u64 (by omega) (by omega) | exact in_i32 (by omega) (by omega)) ?_)))))
        exact ⟨i + 1, _, rfl, ⟨rfl, rfl, rfl, trivial⟩, ⟨H, by omega, by omega, by rw [hV, if_neg h3]⟩, by omega⟩
    · have hend : p.drop i = [] ∨ q.drop i = [] := .inr (List.drop_eq_nil_of_le (by omega))
      have hsh := cmpL_short p q i hend
      simp only [List.length_drop] at hsh
      rw [hsh] at hV
      repeat' (first | (with_reducible first | refine p_tn ?_ | refine p_tx ?_ | refine x_hit ?_ | refine wp_seq ?_ | refine wp_block ?_ | refine w_reg ?_) | (with_reducible (refine is_if ?_; (refine w_iff rfl ?_))) | (with_reducible first | refine wp_exit ?_ | refine l_nil ?_) | ((with_reducible refine g_on ?_); (first | ((with_reducible refine g_mv ?_); refine l_p txs rfl rfl ?_) | ((with_reducible refine g_pk ?_); refine l_p txs rfl rfl ?_) | ((with_reducible refine g_cl ?_); refine l_p txs rfl rfl ?_))))
      (with_reducible refine is_l ?_); refine l_t txs rfl rfl (fun h3 => ?_) (fun h3 => ?_)
      · have hn : cmpP p q = -1 := by rw [hP, hV, if_pos (by omega)]
        repeat' (first | (with_reducible first | refine p_tn ?_ | refine p_tr ?_ | refine p_br ?_ | refine wp_seq ?_ | refine w_reg ?_) | (with_reducible (refine is_if ?_; (refine w_ift rfl ?_))) | (with_reducible first | refine wp_ret ?_ | refine l_nil ?_) | ((with_reducible refine g_on ?_); ((with_reducible refine g_as ?_); refine l_p txs rfl rfl ?_)))
        refine end1 rfl rfl ?_
        exact ⟨by rw [hn], H.B⟩
      repeat' (first | (with_reducible first | refine p_tn ?_ | refine wp_seq ?_ | refine w_reg ?_) | (with_reducible (refine is_if ?_; (refine w_iff rfl ?_))) | (with_reducible refine l_nil ?_) | ((with_reducible refine g_on ?_); (first | ((with_reducible refine g_mv ?_); refine l_p txs rfl rfl ?_) | ((with_reducible refine g_as ?_); refine l_p txs rfl rfl ?_) | ((with_reducible refine g_cl ?_); refine l_p txs rfl rfl ?_))))
      (with_reducible refine is_l ?_); refine l_t txs rfl rfl (fun h4 => ?_) (fun h4 => ?_)
      · have hn : cmpP p q = 1 := by rw [hP, hV, if_neg (by omega), if_pos (by omega)]
        repeat' (first | (with_reducible first | refine p_tn ?_ | refine p_tr ?_ | refine p_br ?_ | refine wp_seq ?_ | refine w_reg ?_) | (with_reducible (refine is_if ?_; (refine w_ift rfl ?_))) | (with_reducible first | refine wp_ret ?_ | refine l_nil ?_) | ((with_reducible refine g_on ?_); ((with_reducible refine g_as ?_); refine l_p txs rfl rfl ?_)))
        refine end1 rfl rfl ?_
        exact ⟨by rw [hn], H.B⟩
      have hn : cmpP p q = 0 := by rw [hP, hV, if_neg (by omega), if_neg (by omega)]
      repeat' (first | (with_reducible first | refine p_tn ?_ | refine p_bn ?_ | refine wp_seq ?_ | refine w_reg ?_) | (with_reducible (refine is_if ?_; (refine w_iff rfl ?_))) | (with_reducible first | refine wp_skip ?_ | refine wp_ret ?_ | refine l_nil ?_) | ((with_reducible refine g_on ?_); ((with_reducible refine g_as ?_); refine l_p txs rfl rfl ?_)))
      refine end1 rfl rfl ?_
      exact ⟨by rw [hn], H.B⟩
  · have hend : p.drop i = [] ∨ q.drop i = [] := .inl (List.drop_eq_nil_of_le (by omega))
    have hsh := cmpL_short p q i hend
    simp only [List.length_drop] at hsh
    rw [hsh] at hV
    repeat' (first | (with_reducible first | refine p_tn ?_ | refine p_tx ?_ | refine x_hit ?_ | refine wp_seq ?_ | refine wp_block ?_ | refine w_reg ?_) | (with_reducible (refine is_if ?_; (refine w_iff rfl ?_))) | (with_reducible first | refine wp_exit ?_ | refine l_nil ?_) | ((with_reducible refine g_on ?_); (first | ((with_reducible refine g_mv ?_); refine l_p txs rfl rfl ?_) | ((with_reducible refine g_pk ?_); refine l_p txs rfl rfl ?_) | ((with_reducible refine g_cl ?_); refine l_p txs rfl rfl ?_))) | ((with_reducible refine g_if ?_); (refine l_off rfl ?_)))
    (with_reducible refine is_l ?_); refine l_t txs rfl rfl (fun h3 => ?_) (fun h3 => ?_)
    · have hn : cmpP p q = -1 := by rw [hP, hV, if_pos (by omega)]
      repeat' (first | (with_reducible first | refine p_tn ?_ | refine p_tr ?_ | refine p_br ?_ | refine wp_seq ?_ | refine w_reg ?_) | (with_reducible (refine is_if ?_; (refine w_ift rfl ?_))) | (with_reducible first | refine wp_ret ?_ | refine l_nil ?_) | ((with_reducible refine g_on ?_); ((with_reducible refine g_as ?_); refine l_p txs rfl rfl ?_)))
      refine end1 rfl rfl ?_
      exact ⟨by rw [hn], H.B⟩
    repeat' (first | (with_reducible first | refine p_tn ?_ | refine wp_seq ?_ | refine w_reg ?_) | (with_reducible (refine is_if ?_; (refine w_iff rfl ?_))) | (with_reducible refine l_nil ?_) | ((with_reducible refine g_on ?_); (first | ((with_reducible refine g_mv ?_); refine l_p txs rfl rfl ?_) | ((with_reducible refine g_as ?_); refine l_p txs rfl rfl ?_) | ((with_reducible refine g_cl ?_); refine l_p txs rfl rfl ?_))))
    (with_reducible refine is_l ?_); refine l_t txs rfl rfl (fun h4 => ?_) (fun h4 => ?_)
    · have hn : cmpP p q = 1 := by rw [hP, hV, if_neg (by omega), if_pos (by omega)]
      repeat' (first | (with_reducible first | refine p_tn ?_ | refine p_tr ?_ | refine p_br ?_ | refine wp_seq ?_ | refine w_reg ?_) | (with_reducible (refine is_if ?_; (refine w_ift rfl ?_))) | (with_reducible first | refine wp_ret ?_ | refine l_nil ?_) | ((with_reducible refine g_on ?_); ((with_reducible refine g_as ?_); refine l_p txs rfl rfl ?_)))
      refine end1 rfl rfl ?_
      exact ⟨by rw [hn], H.B⟩
    have hn : cmpP p q = 0 := by rw [hP, hV, if_neg (by omega), if_neg (by omega)]
    repeat' (first | (with_reducible first | refine p_tn ?_ | refine p_bn ?_ | refine wp_seq ?_ | refine w_reg ?_) | (with_reducible (refine is_if ?_; (refine w_iff rfl ?_))) | (with_reducible first | refine wp_skip ?_ | refine wp_ret ?_ | refine l_nil ?_) | ((with_reducible refine g_on ?_); ((with_reducible refine g_as ?_); refine l_p txs rfl rfl ?_)))
    refine end1 rfl rfl ?_
    exact ⟨by rw [hn], H.B⟩
end Go.Proofs.YtnimaenhijlcmaaGreatDoor.K.Ref
