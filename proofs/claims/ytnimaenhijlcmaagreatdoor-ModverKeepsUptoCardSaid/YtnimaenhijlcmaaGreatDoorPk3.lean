/- Joined texts of mine, 3: Cc, Cd, Ce, Vp, Vq, Vr, M64, MRec, Vs, Vu, MRef, Fa, Fb, Fc, MBit. -/
import Derived.Shelf.Strings.BuilderK
import Derived.Shelf.Strings.BuilderRune
import Derived.Laws.MakeOwn
import Derived.Laws.BitsLemmas
import Derived.Test.YtnimaenhijlcmaaGreatDoorPk2
section
namespace Go.Proofs.YtnimaenhijlcmaaGreatDoor.K.Ref
open Go.RowKit Go.Proofs.YtnimaenhijlcmaaGreatDoor.Q Go.Proofs.YtnimaenhijlcmaaGreatDoor.K Go.Proofs.YtnimaenhijlcmaaGreatDoor.Mb Go.Proofs.YtnimaenhijlcmaaGreatDoorW.PrintWords
set_option linter.unusedVariables false
set_option linter.unusedSimpArgs false
set_option maxHeartbeats 4000000 in
theorem numbers_c (a b : ByteArray) (w : World) (ha : a.size ≤ 100000000) (hb : b.size ≤ 100000000) : Calls Tryz.prog 79 #[.string a, .string b] w fun e w' => e = .returned (.int .i64 (cmpN (bl a) (bl b))) ∧ Below w.heap.size w w' := by
  have hla := bl_length a
  have hlb := bl_length b
  refine enter (args := [.string a, .string b]) Tryz.func79 rfl Tryz.ntmps79 rfl ?_
  have H := Hp.nil w
  have hV : cmpN (bl a) (bl b) = if (bl a).length < (bl b).length then -1 else if (bl b).length < (bl a).length then 1 else cmpB (bl a) (bl b) := rfl
  repeat' (first | (with_reducible first | refine p_tn ?_ | refine wp_seq ?_ | refine w_reg ?_ | refine l_nil ?_) | ((with_reducible refine g_on ?_); (first | ((with_reducible refine g_mv ?_); refine l_p txs rfl rfl ?_) | ((with_reducible refine g_as ?_); refine l_p txs rfl rfl ?_) | ((with_reducible refine g_cl ?_); refine l_p txs rfl rfl ?_))))
  (with_reducible refine is_l ?_); refine l_t txs rfl rfl (fun h1 => ?_) (fun h1 => ?_)
  · repeat' (first | (with_reducible first | refine p_tn ?_ | refine wp_seq ?_ | refine w_reg ?_) | (with_reducible (refine is_if ?_; (refine w_ift rfl ?_))) | (with_reducible refine l_nil ?_) | ((with_reducible refine g_on ?_); (first | ((with_reducible refine g_mv ?_); refine l_p txs rfl rfl ?_) | ((with_reducible refine g_cl ?_); refine l_p txs rfl rfl ?_))))
    (with_reducible refine is_l ?_); refine l_t txs rfl rfl (fun h2 => ?_) (fun h2 => ?_)
    · have hn : cmpN (bl a) (bl b) = -1 := by rw [hV, if_pos (by omega)]
      repeat' (first | (with_reducible first | refine p_tn ?_ | refine p_tr ?_ | refine wp_seq ?_ | refine w_reg ?_) | (with_reducible (refine is_if ?_; (refine w_ift rfl ?_))) | (with_reducible first | refine wp_ret ?_ | refine l_nil ?_) | ((with_reducible refine g_on ?_); ((with_reducible refine g_as ?_); refine l_p txs rfl rfl ?_)))
      refine end1 rfl rfl ?_
      exact ⟨by rw [hn], H.B⟩
    · have hn : cmpN (bl a) (bl b) = 1 := by rw [hV, if_neg (by omega), if_pos (by omega)]
      repeat' (first | (with_reducible first | refine p_tn ?_ | refine p_tr ?_ | refine wp_seq ?_ | refine w_reg ?_) | (with_reducible (refine is_if ?_; (refine w_iff rfl ?_))) | (with_reducible first | refine wp_skip ?_ | refine wp_ret ?_ | refine l_nil ?_) | ((with_reducible refine g_on ?_); ((with_reducible refine g_as ?_); refine l_p txs rfl rfl ?_)))
      refine end1 rfl rfl ?_
      exact ⟨by rw [hn], H.B⟩
  · have hn : cmpN (bl a) (bl b) = cmpB (bl a) (bl b) := by rw [hV, if_neg (by omega), if_neg (by omega)]
    repeat' (first | (with_reducible first | refine p_tn ?_ | refine wp_seq ?_ | refine w_reg ?_) | (with_reducible (refine is_if ?_; (refine w_iff rfl ?_))) | (with_reducible first | refine wp_skip ?_ | refine l_nil ?_) | ((with_reducible refine g_on ?_); ((with_reducible refine g_mv ?_); refine l_p txs rfl rfl ?_)))
    (with_reducible refine is_l ?_); refine l_callv rfl rfl (by kernel_rfl) (bytes_c a b _ ha hb) (fun w_ K => ?_)
    have H := H.call K
    repeat' (first | (with_reducible first | refine p_tn ?_ | refine wp_ret ?_ | refine l_nil ?_) | ((with_reducible refine g_on ?_); ((with_reducible refine g_as ?_); refine l_p txs rfl rfl ?_)))
    refine end1 rfl rfl ?_
    exact ⟨by rw [hn], H.B⟩
set_option maxHeartbeats 4000000 in
theorem digs_num {s : L} (hs : wordB s = true) : digsB s = numB s := by
  rw [wordB_digs] at hs
  rw [numB_digs]
  cases hd : digsB s
  · rfl
  · rw [hd] at hs
    simp only [Bool.and_eq_true, Bool.not_true, Bool.false_or] at hs
    have h2 := hs.2.2
    rw [numB_digs, hd] at h2
    exact h2.symm
set_option maxHeartbeats 4000000 in
theorem words_c (a b : ByteArray) (w : World) (ha : a.size ≤ 100000000) (hb : b.size ≤ 100000000) (wa : wordB (bl a) = true) (wb : wordB (bl b) = true) : Calls Tryz.prog 123 #[.string a, .string b] w fun e w' => e = .returned (.int .i64 (cmpW (bl a) (bl b))) ∧ Below w.heap.size w w' := by
  refine enter (args := [.string a, .string b]) Tryz.func123 rfl Tryz.ntmps123 rfl ?_
  have H := Hp.nil w
  have hV : cmpW (bl a) (bl b) = if digsB (bl a) then (if digsB (bl b) then cmpN (bl a) (bl b) else -1) else if digsB (bl b) then 1 else cmpB (bl a) (bl b) := by
    rw [digs_num wa, digs_num wb]
    rfl
  repeat' (first | (with_reducible first | refine p_tn ?_ | refine wp_seq ?_ | refine w_reg ?_ | refine l_nil ?_) | ((with_reducible refine g_on ?_); (first | ((with_reducible refine g_mv ?_); refine l_p txs rfl rfl ?_) | ((with_reducible refine g_as ?_); refine l_p txs rfl rfl ?_))))
  (with_reducible refine is_l ?_); refine l_callp rfl rfl (by kernel_rfl) (digits_c a _ ha) ?_
  repeat' (first | (with_reducible first | refine p_tn ?_ | refine wp_seq ?_ | refine w_reg ?_ | refine l_nil ?_) | ((with_reducible refine g_on ?_); (first | ((with_reducible refine g_mv ?_); refine l_p txs rfl rfl ?_) | ((with_reducible refine g_as ?_); refine l_p txs rfl rfl ?_))))
  (with_reducible refine is_l ?_); refine l_callp rfl rfl (by kernel_rfl) (digits_c b _ hb) ?_
  cases hx : digsB (bl a)
  · cases hy : digsB (bl b)
    · have hn : cmpW (bl a) (bl b) = cmpB (bl a) (bl b) := by rw [hV, hx, hy]; rfl
      repeat' (first | (with_reducible first | refine p_tn ?_ | refine p_bn ?_ | refine wp_seq ?_ | refine wp_block ?_ | refine w_reg ?_) | (with_reducible (refine is_if ?_; (refine w_iff rfl ?_))) | (with_reducible first | refine wp_skip ?_ | refine l_nil ?_) | ((with_reducible refine g_on ?_); (first | ((with_reducible refine g_mv ?_); refine l_p txs rfl rfl ?_) | ((with_reducible refine g_as ?_); refine l_p txs rfl rfl ?_) | ((with_reducible refine g_pk ?_); refine l_p txs rfl rfl ?_))) | ((with_reducible refine g_if ?_); (refine l_off rfl ?_)))
      (with_reducible refine is_l ?_); refine l_callv rfl rfl (by kernel_rfl) (bytes_c a b _ ha hb) (fun w_ K => ?_)
      have H := H.call K
      repeat' (first | (with_reducible first | refine p_tn ?_ | refine wp_ret ?_ | refine l_nil ?_) | ((with_reducible refine g_on ?_); ((with_reducible refine g_as ?_); refine l_p txs rfl rfl ?_)))
      refine end1 rfl rfl ?_
      exact ⟨by rw [hn], H.B⟩
    · have hn : cmpW (bl a) (bl b) = 1 := by rw [hV, hx, hy]; rfl
      repeat' (first | (with_reducible first | refine p_tn ?_ | refine p_tr ?_ | refine p_br ?_ | refine wp_seq ?_ | refine wp_block ?_ | refine w_reg ?_) | (with_reducible (refine is_if ?_; (first | (refine w_ift rfl ?_) | (refine w_iff rfl ?_)))) | (with_reducible first | refine wp_ret ?_ | refine l_nil ?_) | ((with_reducible refine g_on ?_); (first | ((with_reducible refine g_mv ?_); refine l_p txs rfl rfl ?_) | ((with_reducible refine g_as ?_); refine l_p txs rfl rfl ?_) | ((with_reducible refine g_pk ?_); refine l_p txs rfl rfl ?_))) | ((with_reducible refine g_if ?_); (refine l_off rfl ?_)))
      refine end1 rfl rfl ?_
      exact ⟨by rw [hn], H.B⟩
  · cases hy : digsB (bl b)
    · have hn : cmpW (bl a) (bl b) = -1 := by rw [hV, hx, hy]; rfl
      repeat' (first | (with_reducible first | refine p_tn ?_ | refine p_tr ?_ | refine p_br ?_ | refine wp_seq ?_ | refine wp_block ?_ | refine w_reg ?_) | (with_reducible (refine is_if ?_; (first | (refine w_ift rfl ?_) | (refine w_iff rfl ?_)))) | (with_reducible first | refine wp_ret ?_ | refine l_nil ?_) | ((with_reducible refine g_on ?_); (first | ((with_reducible refine g_mv ?_); refine l_p txs rfl rfl ?_) | ((with_reducible refine g_as ?_); refine l_p txs rfl rfl ?_) | ((with_reducible refine g_pk ?_); refine l_p txs rfl rfl ?_))) | ((with_reducible refine g_if ?_); ((with_reducible refine g_mv ?_); refine l_p txs rfl rfl ?_)))
      refine end1 rfl rfl ?_
      exact ⟨by rw [hn], H.B⟩
    · have hn : cmpW (bl a) (bl b) = cmpN (bl a) (bl b) := by rw [hV, hx, hy]; rfl
      repeat' (first | (with_reducible first | refine p_tn ?_ | refine wp_seq ?_ | refine wp_block ?_ | refine w_reg ?_) | (with_reducible (refine is_if ?_; (refine w_ift rfl ?_))) | (with_reducible refine l_nil ?_) | ((with_reducible refine g_on ?_); (first | ((with_reducible refine g_mv ?_); refine l_p txs rfl rfl ?_) | ((with_reducible refine g_as ?_); refine l_p txs rfl rfl ?_) | ((with_reducible refine g_pk ?_); refine l_p txs rfl rfl ?_))) | ((with_reducible refine g_if ?_); ((with_reducible refine g_mv ?_); refine l_p txs rfl rfl ?_)))
      (with_reducible refine is_l ?_); refine l_callv rfl rfl (by kernel_rfl) (numbers_c a b _ ha hb) (fun w_ K => ?_)
      have H := H.call K
      repeat' (first | (with_reducible first | refine p_tn ?_ | refine p_tr ?_ | refine p_br ?_ | refine wp_ret ?_ | refine l_nil ?_) | ((with_reducible refine g_on ?_); ((with_reducible refine g_as ?_); refine l_p txs rfl rfl ?_)))
      refine end1 rfl rfl ?_
      exact ⟨by rw [hn], H.B⟩
theorem cmpL_short (a b : List L) (i : Nat) (h : a.drop i = [] ∨ b.drop i = []) : cmpL (a.drop i) (b.drop i) = if (a.drop i).length < (b.drop i).length then -1 else if (b.drop i).length < (a.drop i).length then 1 else 0 := by
  generalize a.drop i = x at h ⊢
  generalize b.drop i = y at h ⊢
  cases x <;> cases y <;> simp_all [cmpL]
structure WordsAt (w : World) (A : Option Addr) (l : List L) : Prop where
  rd : Rd w A (strC l)
  ok : ∀ x ∈ l, wordB x = true ∧ Bytes x ∧ x.length ≤ 100000000
theorem WordsAt.below {w w' : World} {A : Option Addr} {l : List L} (h : WordsAt w A l) (hb : Below w.heap.size w w') : WordsAt w' A l := ⟨h.rd.below hb, h.ok⟩
theorem WordsAt.some {w : World} {A : Option Addr} {l : List L} (h : WordsAt w A l) (hl : 0 < l.length) : ∃ ad, A = some ad := by
  cases A with
  | some ad => exact ⟨ad, rfl⟩
  | none =>
    have := h.rd.1 rfl
    cases l with
    | nil => exact absurd hl (by simp)
    | cons x r => simp [strC] at this
theorem word_cell {w : World} {ad : Addr} {l : List L} {i : Nat} {x : L} (h : WordsAt w (some ad) l) (hx : l[i]? = some x) : w.cell? (ad.add (Int.toNat (i : Int) * 1)) = some (.string (strOfNums x)) := by
  rw [Int.toNat_natCast, Nat.mul_one]
  exact h.rd.2 ad rfl i _ (by unfold strC; rw [List.getElem?_map, hx]; rfl)
set_option maxHeartbeats 8000000 in
theorem releases_c {w : World} {A B : Option Addr} {cA cB : Nat} {p q : List L} (hp : WordsAt w A p) (hq : WordsAt w B q) (lp : p.length ≤ 100000000) (lq : q.length ≤ 100000000) : Calls Tryz.prog 80 #[.slice A p.length cA, .slice B q.length cB] w fun e w' => e = .returned (.int .i64 (cmpP p q)) ∧ Below w.heap.size w w' := by
  refine enter (args := [.slice A p.length cA, .slice B q.length cB]) Tryz.func80 rfl Tryz.ntmps80 rfl ?_
  have H := Hp.nil w
  have hPP : cmpP p q = if p.length = 0 ∨ q.length = 0 then (if p.length = 0 ∧ q.length = 0 then 0 else if p.length = 0 then 1 else -1) else cmpL p q := by
    unfold Mb.cmpP
    simp only [List.length_eq_zero_iff]
  repeat' (first | (with_reducible first | refine p_tn ?_ | refine wp_seq ?_ | refine w_reg ?_ | refine l_nil ?_) | ((with_reducible refine g_on ?_); (first | ((with_reducible refine g_mv ?_); refine l_p txs rfl rfl ?_) | ((with_reducible refine g_as ?_); refine l_p txs rfl rfl ?_) | ((with_reducible refine g_cl ?_); refine l_p txs rfl rfl ?_))))
  (with_reducible refine is_l ?_); refine l_t txs rfl rfl (fun h1 => ?_) (fun h1 => ?_)
  · have h1 : p.length = 0 := by omega
    repeat' (first | (with_reducible first | refine p_tn ?_ | refine wp_seq ?_ | refine wp_block ?_ | refine w_reg ?_) | (with_reducible (refine is_if ?_; (refine w_ift rfl ?_))) | (with_reducible refine l_nil ?_) | ((with_reducible refine g_on ?_); (first | ((with_reducible refine g_mv ?_); refine l_p txs rfl rfl ?_) | ((with_reducible refine g_pk ?_); refine l_p txs rfl rfl ?_) | ((with_reducible refine g_cl ?_); refine l_p txs rfl rfl ?_))) | ((with_reducible refine g_if ?_); (refine l_off rfl ?_)))
    (with_reducible refine is_l ?_); refine l_t txs rfl rfl (fun h => absurd h (by omega)) (fun _ => ?_)
    repeat' (first | (with_reducible first | refine p_tn ?_ | refine wp_seq ?_ | refine w_reg ?_) | (with_reducible (refine is_if ?_; (refine w_iff rfl ?_))) | (with_reducible refine l_nil ?_) | ((with_reducible refine g_on ?_); (first | ((with_reducible refine g_mv ?_); refine l_p txs rfl rfl ?_) | ((with_reducible refine g_as ?_); refine l_p txs rfl rfl ?_) | ((with_reducible refine g_cl ?_); refine l_p txs rfl rfl ?_))))
    (with_reducible refine is_l ?_); refine l_t txs rfl rfl (fun h2 => ?_) (fun h2 => ?_)
    · have hn : cmpP p q = 1 := by rw [hPP, if_pos (.inl h1), if_neg (by omega), if_pos h1]
      repeat' (first | (with_reducible first | refine p_tn ?_ | refine p_tr ?_ | refine p_br ?_ | refine wp_seq ?_ | refine w_reg ?_) | (with_reducible (refine is_if ?_; (refine w_ift rfl ?_))) | (with_reducible first | refine wp_ret ?_ | refine l_nil ?_) | ((with_reducible refine g_on ?_); ((with_reducible refine g_as ?_); refine l_p txs rfl rfl ?_)))
      refine end1 rfl rfl ?_
      exact ⟨by rw [hn], H.B⟩
    · have hn : cmpP p q = 0 := by rw [hPP, if_pos (.inl h1), if_pos (by omega)]
      repeat' (first | (with_reducible first | refine p_tn ?_ | refine p_tr ?_ | refine p_bn ?_ | refine wp_seq ?_ | refine w_reg ?_) | (with_reducible (refine is_if ?_; (refine w_iff rfl ?_))) | (with_reducible first | refine wp_skip ?_ | refine wp_ret ?_ | refine l_nil ?_) | ((with_reducible refine g_on ?_); ((with_reducible refine g_as ?_); refine l_p txs rfl rfl ?_)))
      refine end1 rfl rfl ?_
      exact ⟨by rw [hn], H.B⟩
  repeat' (first | ((with_reducible refine g_on ?_); ((with_reducible refine g_mv ?_); refine l_p txs rfl rfl ?_)) | ((with_reducible refine g_if ?_); (first | ((with_reducible refine g_mv ?_); refine l_p txs rfl rfl ?_) | ((with_reducible refine g_cl ?_); refine l_p txs rfl rfl ?_))))
  (with_reducible refine is_l ?_); refine l_t txs rfl rfl (fun h2 => ?_) (fun h2 => ?_)
  · repeat' (first | (with_reducible first | refine p_tn ?_ | refine wp_seq ?_ | refine wp_block ?_ | refine w_reg ?_) | (with_reducible (refine is_if ?_; (refine w_ift rfl ?_))) | (with_reducible refine l_nil ?_) | ((with_reducible refine g_on ?_); (first | ((with_reducible refine g_mv ?_); refine l_p txs rfl rfl ?_) | ((with_reducible refine g_pk ?_); refine l_p txs rfl rfl ?_) | ((with_reducible refine g_cl ?_); refine l_p txs rfl rfl ?_))))
    (with_reducible refine is_l ?_); refine l_t txs rfl rfl (fun _ => ?_) (fun h => absurd (by omega) h)
    have hn : cmpP p q = -1 := by rw [hPP, if_pos (.inr (by omega)), if_neg (by omega), if_neg (by omega)]
    repeat' (first | (with_reducible first | refine p_tn ?_ | refine p_tr ?_ | refine p_br ?_ | refine wp_seq ?_ | refine w_reg ?_) | (with_reducible (refine is_if ?_; (refine w_ift rfl ?_))) | (with_reducible first | refine wp_ret ?_ | refine l_nil ?_) | ((with_reducible refine g_on ?_); ((with_reducible refine g_as ?_); refine l_p txs rfl rfl ?_)))
    refine end1 rfl rfl ?_
    exact ⟨by rw [hn], H.B⟩
  have hP : cmpP p q = cmpL p q := by rw [hPP, if_neg (by omega)]
  obtain ⟨ad, rfl⟩ := hp.some (by omega)
  obtain ⟨bd, rfl⟩ := hq.some (by omega)
  repeat' (first | (with_reducible first | refine p_tn ?_ | refine wp_seq ?_ | refine wp_block ?_ | refine w_reg ?_) | (with_reducible (refine is_if ?_; (refine w_iff rfl ?_))) | (with_reducible first | refine wp_skip ?_ | refine l_nil ?_) | ((with_reducible refine g_on ?_); (first | ((with_reducible refine g_as ?_); refine l_p txs rfl rfl ?_) | ((with_reducible refine g_pk ?_); refine l_p txs rfl rfl ?_))))
  refine w_loop (σ := Nat) (S := fun s => [(0, .slice (some ad) p.length cA), (1, .slice (some bd) q.length cB), (5, .int .i64 (s : Int))]) (J := fun s w' => Hp w w' [] [] ∧ s ≤ p.length ∧ s ≤ q.length ∧ cmpL p q = cmpL (p.drop s) (q.drop s)) (μ := fun s => p.length - s) 0 ⟨rfl, rfl, rfl, trivial⟩ ⟨H, by omega, by omega, rfl⟩ ?_
  clear H
  rintro i f w_ ⟨H, hi, hj, hV⟩
  repeat' (first | (with_reducible first | refine wp_seq ?_ | refine w_reg ?_) | ((with_reducible refine g_on ?_); (first | ((with_reducible refine g_mv ?_); refine l_p txs rfl rfl ?_) | ((with_reducible refine g_cl ?_); refine l_p txs rfl rfl ?_))))
  (with_reducible refine is_l ?_); refine l_t txs rfl rfl (fun h1 => ?_) (fun h1 => ?_)
  · repeat' (first | ((with_reducible refine g_on ?_); ((with_reducible refine g_mv ?_); refine l_p txs rfl rfl ?_)) | ((with_reducible refine g_if ?_); (first | ((with_reducible refine g_mv ?_); refine l_p txs rfl rfl ?_) | ((with_reducible refine g_cl ?_); refine l_p txs rfl rfl ?_))))
    (with_reducible refine is_l ?_); refine l_t txs rfl rfl (fun h2 => ?_) (fun h2 => ?_)
    · obtain ⟨x, hx⟩ : ∃ x, p[i]? = some x := ⟨_, List.getElem?_eq_getElem (by omega)⟩
      obtain ⟨y, hy⟩ : ∃ y, q[i]? = some y := ⟨_, List.getElem?_eq_getElem (by omega)⟩
      obtain ⟨x1, x2, x3⟩ := hp.ok x (List.mem_of_getElem? hx)
      obtain ⟨y1, y2, y3⟩ := hq.ok y (List.mem_of_getElem? hy)
      have zx : (strOfNums x).size ≤ 100000000 := by rw [← bl_length, blS x2]; omega
      have zy : (strOfNums y).size ≤ 100000000 := by rw [← bl_length, blS y2]; omega
      have dp : p.drop i = x :: p.drop (i + 1) := by
        obtain ⟨h1, h2⟩ := List.getElem?_eq_some_iff.1 hx
        rw [List.drop_eq_getElem_cons h1, h2]
      have dq : q.drop i = y :: q.drop (i + 1) := by
        obtain ⟨h1, h2⟩ := List.getElem?_eq_some_iff.1 hy
        rw [List.drop_eq_getElem_cons h1, h2]
      rw [dp, dq] at hV
      have hV : cmpL p q = if cmpW x y ≠ 0 then cmpW x y else cmpL (p.drop (i + 1)) (q.drop (i + 1)) := hV
      have hc := fun w1 => words_c (strOfNums x) (strOfNums y) w1 zx zy (by rw [blS x2]; exact x1) (by rw [blS y2]; exact y1)
      rw [blS x2, blS y2] at hc
      generalize cmpW x y = j at hV hc
      repeat' (first | (with_reducible first | refine p_tn ?_ | refine wp_seq ?_ | refine wp_block ?_) | (with_reducible (refine is_if ?_; (refine w_ift rfl ?_))) | (with_reducible first | refine wp_skip ?_ | refine l_nil ?_) | ((with_reducible refine g_on ?_); ((with_reducible refine g_pk ?_); refine l_p txs rfl rfl ?_)))
      refine w_draw (C := fun w' => Hp w w' [] []) (by kernel_rfl) (by kernel_rfl) H.drew ?_
      repeat' (first | (with_reducible refine q_nil ?_) | ((with_reducible refine is_q ?_); first | (refine q_off rfl ?_) | (refine q_p txs rfl rfl ?_)))
      refine q_ia txs rfl rfl (by omega) (by omega) ?_
      refine q_ld txs rfl rfl (fun w' K => word_cell (hp.below K.B) hx) ?_
      repeat' (first | (with_reducible refine q_nil ?_) | ((with_reducible refine is_q ?_); first | (refine q_off rfl ?_) | (refine q_p txs rfl rfl ?_)))
      refine q_ia txs rfl rfl (by omega) (by omega) ?_
      refine q_ld txs rfl rfl (fun w' K => word_cell (hq.below K.B) hy) ?_
      refine q_call rfl rfl (by kernel_rfl) (fun w1 K => (hc w1).mono fun e w2 h => ⟨h.1, K.call h.2⟩) ?_
      repeat' (first | (with_reducible refine q_nil ?_) | ((with_reducible refine is_q ?_); first | (refine q_off rfl ?_) | (refine q_p txs rfl rfl ?_)))
      clear H
      intro w_ H
      repeat' (first | (with_reducible first | refine p_tn ?_ | refine wp_seq ?_ | refine w_reg ?_) | ((with_reducible refine g_on ?_); ((with_reducible refine g_mv ?_); refine l_p txs rfl rfl ?_)))
      (with_reducible refine is_l ?_); refine l_t txs rfl rfl (fun h3 => ?_) (fun h3 => ?_)
      · have hn : cmpP p q = j := by rw [hP, hV, if_pos h3]
        repeat' (first | (with_reducible first | refine p_tn ?_ | refine p_tr ?_ | refine p_br ?_ | refine wp_seq ?_ | refine w_reg ?_) | (with_reducible (refine is_if ?_; (refine w_ift rfl ?_))) | (with_reducible first | refine wp_ret ?_ | refine l_nil ?_) | ((with_reducible refine g_on ?_); (first | ((with_reducible refine g_mv ?_); refine l_p txs rfl rfl ?_) | ((with_reducible refine g_as ?_); refine l_p txs rfl rfl ?_))))
        refine end1 rfl rfl ?_
        exact ⟨by rw [hn], H.B⟩
      · repeat' (first | (with_reducible first | refine p_tn ?_ | refine p_bn ?_ | refine w_reg ?_) | (with_reducible (refine is_if ?_; (refine w_iff rfl ?_))) | (with_reducible first | refine wp_skip ?_ | refine l_nil ?_) | ((with_reducible refine g_on ?_); (first | ((with_reducible refine g_mv ?_); refine l_p txs rfl rfl ?_) | ((with_reducible refine g_as ?_); refine l_p txs rfl rfl ?_) | ((with_reducible refine g_bi ?_); (refine l_a txs rfl rfl (by first | exact in_i64 (by omega) (by omega) | exact in_u8 (by omega) (by omega) | exact in_u64 (by omega) (by omega) | exact in_i32 (by omega) (by omega)) ?_)))))
        exact ⟨i + 1, _, rfl, ⟨rfl, rfl, rfl, trivial⟩, ⟨H, by omega, by omega, by rw [hV, if_neg h3]⟩, by omega⟩
    · have hend : p.drop i = [] ∨ q.drop i = [] := .inr (List.drop_eq_nil_of_le (by omega))
      have hsh := cmpL_short p q i hend
      simp only [List.length_drop] at hsh
      rw [hsh] at hV
      repeat' (first | (with_reducible first | refine p_tn ?_ | refine p_tx ?_ | refine x_hit ?_ | refine wp_seq ?_ | refine wp_block ?_ | refine w_reg ?_) | (with_reducible (refine is_if ?_; (refine w_iff rfl ?_))) | (with_reducible first | refine wp_exit ?_ | refine l_nil ?_) | ((with_reducible refine g_on ?_); (first | ((with_reducible refine g_mv ?_); refine l_p txs rfl rfl ?_) | ((with_reducible refine g_pk ?_); refine l_p txs rfl rfl ?_) | ((with_reducible refine g_cl ?_); refine l_p txs rfl rfl ?_))))
      (with_reducible refine is_l ?_); refine l_t txs rfl rfl (fun h3 => ?_) (fun h3 => ?_)
      · have hn : cmpP p q = -1 := by rw [hP, hV, if_pos (by omega)]
        repeat' (first | (with_reducible first | refine p_tn ?_ | refine p_tr ?_ | refine p_br ?_ | refine wp_seq ?_ | refine w_reg ?_) | (with_reducible (refine is_if ?_; (refine w_ift rfl ?_))) | (with_reducible first | refine wp_ret ?_ | refine l_nil ?_) | ((with_reducible refine g_on ?_); ((with_reducible refine g_as ?_); refine l_p txs rfl rfl ?_)))
        refine end1 rfl rfl ?_
        exact ⟨by rw [hn], H.B⟩
      repeat' (first | (with_reducible first | refine p_tn ?_ | refine wp_seq ?_ | refine w_reg ?_) | (with_reducible (refine is_if ?_; (refine w_iff rfl ?_))) | (with_reducible refine l_nil ?_) | ((with_reducible refine g_on ?_); (first | ((with_reducible refine g_mv ?_); refine l_p txs rfl rfl ?_) | ((with_reducible refine g_as ?_); refine l_p txs rfl rfl ?_) | ((with_reducible refine g_cl ?_); refine l_p txs rfl rfl ?_))))
      (with_reducible refine is_l ?_); refine l_t txs rfl rfl (fun h4 => ?_) (fun h4 => ?_)
      · have hn : cmpP p q = 1 := by rw [hP, hV, if_neg (by omega), if_pos (by omega)]
        repeat' (first | (with_reducible first | refine p_tn ?_ | refine p_tr ?_ | refine p_br ?_ | refine wp_seq ?_ | refine w_reg ?_) | (with_reducible (refine is_if ?_; (refine w_ift rfl ?_))) | (with_reducible first | refine wp_ret ?_ | refine l_nil ?_) | ((with_reducible refine g_on ?_); ((with_reducible refine g_as ?_); refine l_p txs rfl rfl ?_)))
        refine end1 rfl rfl ?_
        exact ⟨by rw [hn], H.B⟩
      have hn : cmpP p q = 0 := by rw [hP, hV, if_neg (by omega), if_neg (by omega)]
      repeat' (first | (with_reducible first | refine p_tn ?_ | refine p_bn ?_ | refine wp_seq ?_ | refine w_reg ?_) | (with_reducible (refine is_if ?_; (refine w_iff rfl ?_))) | (with_reducible first | refine wp_skip ?_ | refine wp_ret ?_ | refine l_nil ?_) | ((with_reducible refine g_on ?_); ((with_reducible refine g_as ?_); refine l_p txs rfl rfl ?_)))
      refine end1 rfl rfl ?_
      exact ⟨by rw [hn], H.B⟩
  · have hend : p.drop i = [] ∨ q.drop i = [] := .inl (List.drop_eq_nil_of_le (by omega))
    have hsh := cmpL_short p q i hend
    simp only [List.length_drop] at hsh
    rw [hsh] at hV
    repeat' (first | (with_reducible first | refine p_tn ?_ | refine p_tx ?_ | refine x_hit ?_ | refine wp_seq ?_ | refine wp_block ?_ | refine w_reg ?_) | (with_reducible (refine is_if ?_; (refine w_iff rfl ?_))) | (with_reducible first | refine wp_exit ?_ | refine l_nil ?_) | ((with_reducible refine g_on ?_); (first | ((with_reducible refine g_mv ?_); refine l_p txs rfl rfl ?_) | ((with_reducible refine g_pk ?_); refine l_p txs rfl rfl ?_) | ((with_reducible refine g_cl ?_); refine l_p txs rfl rfl ?_))) | ((with_reducible refine g_if ?_); (refine l_off rfl ?_)))
    (with_reducible refine is_l ?_); refine l_t txs rfl rfl (fun h3 => ?_) (fun h3 => ?_)
    · have hn : cmpP p q = -1 := by rw [hP, hV, if_pos (by omega)]
      repeat' (first | (with_reducible first | refine p_tn ?_ | refine p_tr ?_ | refine p_br ?_ | refine wp_seq ?_ | refine w_reg ?_) | (with_reducible (refine is_if ?_; (refine w_ift rfl ?_))) | (with_reducible first | refine wp_ret ?_ | refine l_nil ?_) | ((with_reducible refine g_on ?_); ((with_reducible refine g_as ?_); refine l_p txs rfl rfl ?_)))
      refine end1 rfl rfl ?_
      exact ⟨by rw [hn], H.B⟩
    repeat' (first | (with_reducible first | refine p_tn ?_ | refine wp_seq ?_ | refine w_reg ?_) | (with_reducible (refine is_if ?_; (refine w_iff rfl ?_))) | (with_reducible refine l_nil ?_) | ((with_reducible refine g_on ?_); (first | ((with_reducible refine g_mv ?_); refine l_p txs rfl rfl ?_) | ((with_reducible refine g_as ?_); refine l_p txs rfl rfl ?_) | ((with_reducible refine g_cl ?_); refine l_p txs rfl rfl ?_))))
    (with_reducible refine is_l ?_); refine l_t txs rfl rfl (fun h4 => ?_) (fun h4 => ?_)
    · have hn : cmpP p q = 1 := by rw [hP, hV, if_neg (by omega), if_pos (by omega)]
      repeat' (first | (with_reducible first | refine p_tn ?_ | refine p_tr ?_ | refine p_br ?_ | refine wp_seq ?_ | refine w_reg ?_) | (with_reducible (refine is_if ?_; (refine w_ift rfl ?_))) | (with_reducible first | refine wp_ret ?_ | refine l_nil ?_) | ((with_reducible refine g_on ?_); ((with_reducible refine g_as ?_); refine l_p txs rfl rfl ?_)))
      refine end1 rfl rfl ?_
      exact ⟨by rw [hn], H.B⟩
    have hn : cmpP p q = 0 := by rw [hP, hV, if_neg (by omega), if_neg (by omega)]
    repeat' (first | (with_reducible first | refine p_tn ?_ | refine p_bn ?_ | refine wp_seq ?_ | refine w_reg ?_) | (with_reducible (refine is_if ?_; (refine w_iff rfl ?_))) | (with_reducible first | refine wp_skip ?_ | refine wp_ret ?_ | refine l_nil ?_) | ((with_reducible refine g_on ?_); ((with_reducible refine g_as ?_); refine l_p txs rfl rfl ?_)))
    refine end1 rfl rfl ?_
    exact ⟨by rw [hn], H.B⟩
end Go.Proofs.YtnimaenhijlcmaaGreatDoor.K.Ref
end
section
namespace Go.Proofs.YtnimaenhijlcmaaGreatDoor.K.Ref
open Go.RowKit Go.Proofs.YtnimaenhijlcmaaGreatDoor.Q Go.Proofs.YtnimaenhijlcmaaGreatDoor.K Go.Proofs.YtnimaenhijlcmaaGreatDoor.Mb Go.Proofs.YtnimaenhijlcmaaGreatDoorW.PrintWords
set_option linter.unusedVariables false
set_option linter.unusedSimpArgs false
def rt : Nat → Option (List Value)
  | 102 => some zV
  | t => K.rt t
theorem recOkP : RecOk Tryz.prog 102 zV := ⟨⟨_, Tryz.underlying102, rfl⟩, by kernel_rfl⟩
theorem recs : Recs Tryz.prog rt := by
  intro t zs h
  unfold rt at h
  split at h
  · cases h; exact recOkP
  · exact K.recs t zs h
def fo : Nat → Nat → Option Nat
  | 102, 0 => some 0
  | 102, 1 => some 3
  | 102, 2 => some 4
  | t, k => K.fo t k
theorem fldP0 : fldB Tryz.prog 102 0 = some 0 := by kernel_rfl
theorem fldP1 : fldB Tryz.prog 102 1 = some 3 := by kernel_rfl
theorem fldP2 : fldB Tryz.prog 102 2 = some 4 := by kernel_rfl
theorem flds : Flds Tryz.prog fo := by
  intro t k o h
  unfold fo at h
  split at h
  · cases h; exact fldP0
  · cases h; exact fldP1
  · cases h; exact fldP2
  · exact K.flds t k o h
section
variable {P : Program} {n : Nat} {Q : Exit → Act → World → Prop} {f : Fr} {w : World}
theorem w_cut {σ : Type} (S : σ → List (Nat × Value)) (J : σ → World → Prop) {x z : Code}
    (h1 : x.wp P (Exit.then (fun a' w' => ∃ s f', a' = act n f' ∧ Slots f' (S s) ∧ J s w') Q) (act n f) w)
    (h2 : ∀ s f w', J s w' → z.wp P Q (act n (over f (S s))) w') : (Code.seq x z).wp P Q (act n f) w := by
  refine wp_seq (wp_mono h1 ?_)
  intro e a' w' hq
  cases e with
  | normal =>
    obtain ⟨s, f', rfl, k2, k3⟩ := hq
    have := h2 s f' w' k3
    rw [over_eq k2] at this
    exact this
  | exit id => exact hq
  | goto l => exact hq
  | ret => exact hq
  | panic ch => exact hq
  | outgrown => exact hq
end
abbrev eP (g : Nat) (x y z : ByteArray) (A : Option Addr) (n c : Nat) (b : Bool) : Ent := (g, 102, [.string x, .string y, .string z, .slice A n c, .bool b])
set_option maxRecDepth 100000 in
set_option maxHeartbeats 16000000 in
theorem Split_c (t : ByteArray) (w : World) : Calls Tryz.prog 70 #[.string t] w (PaR w (bl t)) := by
  have hlen := bl_length t
  have hbt := bl_bytes t
  refine enter (args := [.string t]) Tryz.func70 rfl Tryz.ntmps70 rfl ?_
  have H := Hp.nil w
  repeat' (with_reducible first | refine wp_seq ?_ | refine w_reg ?_)
  (with_reducible refine is_l ?_); refine h_alloc recs H rfl rfl (fun g2 w_ H => ?_)
  refine g_on ?_; ((with_reducible refine g_as ?_); refine l_p txs rfl rfl ?_)
  with_reducible refine l_nil ?_
  repeat' (with_reducible first | refine p_tn ?_ | refine wp_seq ?_ | refine w_reg ?_)
  (with_reducible refine is_l ?_); refine h_alloc recs H rfl rfl (fun g4 w_ H => ?_)
  repeat' (first | (with_reducible first | refine p_tn ?_ | refine wp_seq ?_ | refine w_reg ?_ | refine l_nil ?_) | ((with_reducible refine g_on ?_); (first | ((with_reducible refine g_mv ?_); refine l_p txs rfl rfl ?_) | ((with_reducible refine g_cl ?_); refine l_p txs rfl rfl ?_))))
  (with_reducible refine is_l ?_); refine l_t txs rfl rfl (fun h1 => ?_) (fun h1 => ?_)
  · have hres : parseV (bl t) = none := by unfold parseV; rw [if_pos (by omega)]
    repeat' (first | (with_reducible first | refine p_tn ?_ | refine p_tr ?_ | refine wp_seq ?_ | refine w_reg ?_) | (with_reducible (refine is_if ?_; (refine w_ift rfl ?_))) | (with_reducible first | refine wp_ret ?_ | refine l_nil ?_) | ((with_reducible refine g_on ?_); (first | ((with_reducible refine g_mv ?_); refine l_p txs rfl rfl ?_) | ((with_reducible refine g_as ?_); refine l_p txs rfl rfl ?_) | ((with_reducible refine g_pk ?_); refine l_p txs rfl rfl ?_) | ((with_reducible refine g_ld ?_); (refine h_ldR recs H 0 rfl rfl rfl rfl rfl ?_)) | ((with_reducible refine g_st ?_); (refine h_stR recs H 1 rfl rfl rfl rfl rfl rfl rfl rfl rfl (fun w_ H => ?_))))) | ((with_reducible refine g_if ?_); (refine l_off rfl ?_)))
    refine end_ct recs H 1 rfl rfl rfl rfl rfl rfl ?_
    exact pa_none hres _ _ _ _ _ _ _ H.B
  have ht : t.size ≤ 128 := by omega
  repeat' (first | ((with_reducible refine g_on ?_); ((with_reducible refine g_mv ?_); refine l_p txs rfl rfl ?_)) | ((with_reducible refine g_if ?_); ((with_reducible refine g_mv ?_); refine l_p txs rfl rfl ?_)))
  (with_reducible refine is_l ?_); refine l_t txs rfl rfl (fun h2 => ?_) (fun h2 => ?_)
  · have h2 : bl t = [] := h2
    have hres := parseV_o (s := bl t) (by rw [h2]; simp)
    repeat' (first | (with_reducible first | refine p_tn ?_ | refine p_tr ?_ | refine wp_seq ?_ | refine w_reg ?_) | (with_reducible (refine is_if ?_; (refine w_ift rfl ?_))) | (with_reducible first | refine wp_ret ?_ | refine l_nil ?_) | ((with_reducible refine g_on ?_); (first | ((with_reducible refine g_mv ?_); refine l_p txs rfl rfl ?_) | ((with_reducible refine g_as ?_); refine l_p txs rfl rfl ?_) | ((with_reducible refine g_pk ?_); refine l_p txs rfl rfl ?_) | ((with_reducible refine g_ld ?_); (refine h_ldR recs H 0 rfl rfl rfl rfl rfl ?_)) | ((with_reducible refine g_st ?_); (refine h_stR recs H 1 rfl rfl rfl rfl rfl rfl rfl rfl rfl (fun w_ H => ?_))))) | ((with_reducible refine g_if ?_); (refine l_off rfl ?_)))
    refine end_ct recs H 1 rfl rfl rfl rfl rfl rfl ?_
    exact pa_none hres _ _ _ _ _ _ _ H.B
  have h2 : ¬ bl t = [] := h2
  have hpos : 0 < t.size := by rw [← hlen]; exact List.length_pos_iff.2 h2
  have hh := head_at h2
  repeat' (first | ((with_reducible refine g_on ?_); (first | ((with_reducible refine g_mv ?_); refine l_p txs rfl rfl ?_) | ((with_reducible refine g_pk ?_); refine l_p txs rfl rfl ?_))) | ((with_reducible refine g_if ?_); (first | ((with_reducible refine g_mv ?_); refine l_p txs rfl rfl ?_) | ((with_reducible refine g_ix ?_); refine l_ix txs rfl rfl (by first | omega | assumption | decide) (by first | omega | assumption | decide) ?_))))
  (with_reducible refine is_l ?_); refine l_t txs rfl rfl (fun h3 => ?_) (fun h3 => ?_)
  · have hres := parseV_o (s := bl t) (by rw [hh]; intro e; injection e with e; exact h3 e)
    repeat' (first | (with_reducible first | refine p_tn ?_ | refine p_tr ?_ | refine wp_seq ?_ | refine w_reg ?_) | (with_reducible (refine is_if ?_; (refine w_ift rfl ?_))) | (with_reducible first | refine wp_ret ?_ | refine l_nil ?_) | ((with_reducible refine g_on ?_); (first | ((with_reducible refine g_as ?_); refine l_p txs rfl rfl ?_) | ((with_reducible refine g_pk ?_); refine l_p txs rfl rfl ?_) | ((with_reducible refine g_ld ?_); (refine h_ldR recs H 0 rfl rfl rfl rfl rfl ?_)) | ((with_reducible refine g_st ?_); (refine h_stR recs H 1 rfl rfl rfl rfl rfl rfl rfl rfl rfl (fun w_ H => ?_))))))
    refine end_ct recs H 1 rfl rfl rfl rfl rfl rfl ?_
    exact pa_none hres _ _ _ _ _ _ _ H.B
  have h3 : at_ (bl t) 0 = 118 := Classical.not_not.1 h3
  rw [h3] at hh
  obtain ⟨r, hr⟩ : ∃ r, bl t = 118 :: r := by
    cases hb : bl t with
    | nil => rw [hb] at hh; cases hh
    | cons x r => rw [hb] at hh; injection hh with hh; subst hh; exact ⟨r, rfl⟩
  have hV := parseV_v (by omega) hr
  have hrl : r.length + 1 = t.size := by rw [← hlen, hr]; rfl
  repeat' (first | (with_reducible refine l_nil ?_) | ((with_reducible refine g_on ?_); ((with_reducible refine g_pk ?_); refine l_p txs rfl rfl ?_)))
  repeat' (first | (first | (with_reducible refine p_tn ?_) | (with_reducible refine p_tx ?_) | (with_reducible refine p_tr ?_) | (with_reducible refine p_bn ?_) | (with_reducible refine p_br ?_) | (with_reducible refine x_hit ?_) | (with_reducible refine x_miss rfl ?_) | (with_reducible refine wp_seq ?_) | (with_reducible refine wp_block ?_) | (with_reducible refine w_reg ?_) | (with_reducible (refine is_if ?_; first | refine w_ift rfl ?_ | refine w_iff rfl ?_)) | ((with_reducible refine is_if ?_); first | refine w_ift rfl ?_ | refine w_iff rfl ?_) | (with_reducible refine wp_skip ?_) | (with_reducible refine wp_exit ?_) | (with_reducible refine wp_ret ?_)) | (with_reducible refine p_sn ?_) | (with_reducible refine p_sr ?_) | (with_reducible refine p_sx ?_) | (with_reducible refine wp_scope_straight ?_) | (with_reducible refine wp_label ?_))
  repeat' (first | (with_reducible refine l_nil ?_) | ((with_reducible refine g_on ?_); (first | ((with_reducible refine g_mv ?_); refine l_p txs rfl rfl ?_) | ((with_reducible refine g_as ?_); refine l_p txs rfl rfl ?_) | ((with_reducible refine g_sl ?_); refine l_sl txs rfl rfl (by first | omega | assumption | decide) (by first | omega | assumption | decide) (by first | omega | assumption | decide) ?_))))
  with_reducible refine p_tn ?_
  have hx : bl (t.extract (1 : Int).toNat ((t.size : Int)).toNat) = r := by
    rw [blE, hr, Int.toNat_natCast]
    show (r.take (t.size - 1)) = r
    exact List.take_of_length_le (by omega)
  generalize t.extract (1 : Int).toNat ((t.size : Int)).toNat = u at hx ⊢
  have hus : u.size = r.length := by rw [← bl_length, hx]
  have z13 : (⟨#[43, 105, 110, 99, 111, 109, 112, 97, 116, 105, 98, 108, 101]⟩ : ByteArray).size = 13 := rfl
  have hen := fun w1 => ends_c u ⟨#[43, 105, 110, 99, 111, 109, 112, 97, 116, 105, 98, 108, 101]⟩ w1 (by omega) (by omega)
  rw [hx, show bl (⟨#[43, 105, 110, 99, 111, 109, 112, 97, 116, 105, 98, 108, 101]⟩ : ByteArray) = incompat from rfl] at hen
  obtain ⟨hs1, hs2⟩ := endCut_sub (r := r) (e := incompat)
  obtain ⟨body, hbody⟩ : ∃ b, b = (endCut r incompat).getD r := ⟨_, rfl⟩
  obtain ⟨odd, hodd⟩ : ∃ b, b = (endCut r incompat).isSome := ⟨_, rfl⟩
  rw [← hbody] at hs1 hs2 hV
  rw [← hodd] at hV
  have bbo : Bytes body := fun y hy => hbt y (by rw [hr]; exact List.mem_cons_of_mem _ (hs1 y hy))
  have zbo := sizeS' bbo
  refine w_cut (σ := Unit) (S := fun _ => [(0, .string (strOfNums body)), (2, .pointer (some ⟨g2, 0, none⟩)), (4, .pointer (some ⟨g4, 0, none⟩))]) (J := fun _ w' => Hp w w' [eP g4 ⟨#[]⟩ ⟨#[]⟩ ⟨#[]⟩ none 0 0 odd, (g2, 102, zV)] []) ?_ ?_
  · repeat' (first | (with_reducible first | refine wp_seq ?_ | refine w_reg ?_) | ((with_reducible refine g_on ?_); ((with_reducible refine g_mv ?_); refine l_p txs rfl rfl ?_)))
    (with_reducible refine is_l ?_); refine l_callp rfl rfl (by kernel_rfl) (hen _) ?_
    cases he : endCut r incompat with
    | none =>
      rw [he] at hbody hodd
      have hbody : body = r := hbody
      have hodd : odd = false := hodd
      subst hbody hodd
      rw [show (none : Option L).isSome = false from rfl]
      repeat' (first | (with_reducible refine p_tn ?_) | (with_reducible (refine is_if ?_; (refine w_iff rfl ?_))) | (with_reducible first | refine wp_skip ?_ | refine l_nil ?_))
      exact ⟨(), _, rfl, ⟨by show Value.string u = _; rw [← hx, strS], rfl, rfl, trivial⟩, H⟩
    | some b =>
      rw [he] at hbody hodd
      have hbody : body = b := hbody
      have hodd : odd = true := hodd
      subst hbody hodd
      have hrb := endCut_some he
      have hrl2 : r.length = body.length + 13 := by rw [hrb, List.length_append]; rfl
      rw [show (some body).isSome = true from rfl]
      repeat' (first | (with_reducible first | refine p_tn ?_ | refine wp_seq ?_ | refine w_reg ?_) | (with_reducible (refine is_if ?_; (refine w_ift rfl ?_))) | (with_reducible refine l_nil ?_) | ((with_reducible refine g_on ?_); (first | ((with_reducible refine g_mv ?_); refine l_p txs rfl rfl ?_) | ((with_reducible refine g_as ?_); refine l_p txs rfl rfl ?_) | ((with_reducible refine g_fa ?_); refine h_fa flds rfl rfl ?_) | ((with_reducible refine g_st ?_); (refine h_st txs ones H 0 rfl rfl rfl rfl rfl rfl rfl rfl rfl (fun w_ H => ?_))) | ((with_reducible refine g_cl ?_); refine l_p txs rfl rfl ?_) | ((with_reducible refine g_sl ?_); refine l_sl txs rfl rfl (by first | omega | assumption | decide) (by first | omega | assumption | decide) (by first | omega | assumption | decide) ?_) | ((with_reducible refine g_bi ?_); (refine l_a txs rfl rfl (by first | exact in_i64 (by omega) (by omega) | exact in_u8 (by omega) (by omega) | exact in_u64 (by omega) (by omega) | exact in_i32 (by omega) (by omega)) ?_)))))
      refine ⟨(), _, rfl, ⟨?_, rfl, rfl, trivial⟩, H⟩
      show Value.string (u.extract (0 : Int).toNat ((u.size : Int) - 13).toNat) = .string (strOfNums body)
      congr 1
      refine bl_inj ?_
      rw [blE, hx, blS bbo, hrb]
      show (List.drop 0 (body ++ incompat)).take (((u.size : Int) - 13).toNat - 0) = body
      rw [List.drop_zero, show ((u.size : Int) - 13).toNat - 0 = body.length by omega, List.take_left]
  clear H
  rintro ⟨⟩ f w_ H
  repeat' (first | (with_reducible first | refine wp_seq ?_ | refine w_reg ?_) | ((with_reducible refine g_on ?_); ((with_reducible refine g_mv ?_); refine l_p txs rfl rfl ?_)))
  have hah := ahead_c (strOfNums body) 45 w_ (by omega)
  rw [blS bbo] at hah
  (with_reducible refine is_l ?_); refine l_callv rfl rfl (by kernel_rfl) hah (fun w_ K => ?_)
  have H := H.call K
  repeat' (first | (with_reducible refine l_nil ?_) | ((with_reducible refine g_on ?_); ((with_reducible refine g_as ?_); refine l_p txs rfl rfl ?_)))
  with_reducible refine p_tn ?_
  obtain ⟨core, hcore⟩ : ∃ b, b = aheadC 45 body := ⟨_, rfl⟩
  obtain ⟨ws, hws⟩ : ∃ b, b = wordsOf (cutC 45 body) := ⟨_, rfl⟩
  rw [← hcore] at hV ⊢
  rw [← hws] at hV
  have hco : (cutC 45 body = none ∧ core = body ∧ ws = []) ∨ ∃ pre, body = core ++ 45 :: pre ∧ ws = splitC 46 pre := by
    cases hc : cutC 45 body with
    | none =>
      refine .inl ⟨rfl, ?_, by rw [hws, hc]; rfl⟩
      rw [hcore]; unfold aheadC; rw [hc]
    | some pr =>
      obtain ⟨a, pre⟩ := pr
      refine .inr ⟨pre, ?_, by rw [hws, hc]; rfl⟩
      have : core = a := by rw [hcore]; unfold aheadC; rw [hc]
      rw [this]
      exact (cutC_some hc).1
  have bco : Bytes core := by
    rcases hco with ⟨_, h, _⟩ | ⟨pre, h, _⟩
    · rw [h]; exact bbo
    · exact fun y hy => bbo y (by rw [h]; exact List.mem_append_left _ hy)
  have zco := sizeS' bco
  have lco : core.length ≤ body.length := by
    rcases hco with ⟨_, h, _⟩ | ⟨pre, h, _⟩
    · rw [h]; exact Nat.le_refl _
    · rw [h, List.length_append]; omega
  clear hcore hws
  refine w_cut (σ := Option Addr × Nat) (S := fun _ => [(2, .pointer (some ⟨g2, 0, none⟩)), (4, .pointer (some ⟨g4, 0, none⟩)), (5, .string (strOfNums core))]) (J := fun s w' => Hp w w' [eP g4 ⟨#[]⟩ ⟨#[]⟩ ⟨#[]⟩ s.1 ws.length s.2 odd, (g2, 102, zV)] [rowT (.slice s.1 ws.length s.2) ws] ∧ ws.all wordB = true) ?_ ?_
  · repeat' (first | (with_reducible first | refine wp_seq ?_ | refine w_reg ?_) | ((with_reducible refine g_on ?_); (first | ((with_reducible refine g_mv ?_); refine l_p txs rfl rfl ?_) | ((with_reducible refine g_cl ?_); refine l_p txs rfl rfl ?_))))
    rcases hco with ⟨hc, rfl, rfl⟩ | ⟨pre, hbp, rfl⟩
    · (with_reducible refine is_l ?_); refine l_t txs rfl rfl (fun h => absurd h (by omega)) (fun _ => ?_)
      repeat' (first | (with_reducible refine p_tn ?_) | (with_reducible (refine is_if ?_; (refine w_iff rfl ?_))) | (with_reducible first | refine wp_skip ?_ | refine l_nil ?_))
      exact ⟨(none, 0), _, rfl, ⟨rfl, rfl, rfl, trivial⟩, ⟨H.nilRow 9 1, rfl⟩⟩
    · have bpr : Bytes pre := fun y hy => bbo y (by rw [hbp]; exact List.mem_append_right _ (List.mem_cons_of_mem _ hy))
      have hll : body.length = core.length + pre.length + 1 := by rw [hbp]; simp; omega
      have zpr := sizeS' bpr
      (with_reducible refine is_l ?_); refine l_t txs rfl rfl (fun _ => ?_) (fun h => absurd (by omega) h)
      repeat' (first | (with_reducible first | refine p_tn ?_ | refine wp_seq ?_ | refine w_reg ?_) | (with_reducible (refine is_if ?_; (refine w_ift rfl ?_))) | (with_reducible refine l_nil ?_) | ((with_reducible refine g_on ?_); (first | ((with_reducible refine g_mv ?_); refine l_p txs rfl rfl ?_) | ((with_reducible refine g_cl ?_); refine l_p txs rfl rfl ?_) | ((with_reducible refine g_sl ?_); refine l_sl txs rfl rfl (by first | omega | assumption | decide) (by first | omega | assumption | decide) (by first | omega | assumption | decide) ?_) | ((with_reducible refine g_bi ?_); (refine l_a txs rfl rfl (by first | exact in_i64 (by omega) (by omega) | exact in_u8 (by omega) (by omega) | exact in_u64 (by omega) (by omega) | exact in_i32 (by omega) (by omega)) ?_)))))
      have hx2 : bl ((strOfNums body).extract (((strOfNums core).size : Int) + 1).toNat ((strOfNums body).size : Int).toNat) = pre := by
        rw [blE, blS bbo, hbp]
        have e1 : (((strOfNums core).size : Int) + 1).toNat = core.length + 1 := by omega
        rw [e1, List.drop_append, List.drop_of_length_le (by omega), List.nil_append, show core.length + 1 - core.length = 1 by omega]
        show (List.drop 1 (45 :: pre)).take _ = pre
        exact List.take_of_length_le (by show pre.length ≤ _; rw [← hbp]; omega)
      generalize (strOfNums body).extract (((strOfNums core).size : Int) + 1).toNat ((strOfNums body).size : Int).toNat = v at hx2 ⊢
      have zv : v.size = pre.length := by rw [← bl_length, hx2]
      have hpi := pieces_c v 46 w_ (by omega)
      rw [hx2] at hpi
      (with_reducible refine is_l ?_); refine l_call rfl rfl (by kernel_rfl) hpi (fun e w_ hR => ?_)
      have hsm := split_mem 46 pre
      have hsl := split_len 46 pre
      have hne := splitC_ne (c := 46) pre
      generalize splitC 46 pre = W at hR hsm hsl hne hV ⊢
      obtain ⟨A1, c1, rfl, K⟩ := hR
      refine ⟨_, rfl, ?_⟩
      have hWl := List.length_pos_iff.2 hne
      obtain ⟨A3, c3, e3, _, hRd, hAn⟩ := K.rd 0 rfl
      cases e3
      obtain ⟨ad, rfl⟩ : ∃ ad, A1 = some ad := by
        cases A1 with
        | some ad => exact ⟨ad, rfl⟩
        | none => exact absurd (hAn rfl).2 (by show W.length ≠ 0; omega)
      have H := H.join K
      repeat' (first | (with_reducible first | refine p_tn ?_ | refine wp_seq ?_ | refine wp_block ?_ | refine w_reg ?_ | refine l_nil ?_) | ((with_reducible refine g_on ?_); (first | ((with_reducible refine g_as ?_); refine l_p txs rfl rfl ?_) | ((with_reducible refine g_fa ?_); refine h_fa flds rfl rfl ?_) | ((with_reducible refine g_st ?_); (refine h_st txs ones H 0 rfl rfl rfl rfl rfl rfl rfl rfl rfl (fun w_ H => ?_))))))
      refine w_loop (σ := Nat) (S := fun s => [(2, .pointer (some ⟨g2, 0, none⟩)), (4, .pointer (some ⟨g4, 0, none⟩)), (5, .string (strOfNums core)), (6, .int .i64 (s : Int))])
        (J := fun s w' => Hp w w' [eP g4 ⟨#[]⟩ ⟨#[]⟩ ⟨#[]⟩ (some ad) W.length c1 odd, (g2, 102, zV)] [rowT (.slice (some ad) W.length c1) W] ∧ s ≤ W.length ∧ (W.take s).all wordB = true) (μ := fun s => W.length - s) 0 ⟨rfl, rfl, rfl, rfl, trivial⟩ ⟨H, Nat.zero_le _, rfl⟩ ?_
      clear H
      rintro i f w_ ⟨H, hi, ha⟩
      repeat' (first | (with_reducible first | refine wp_seq ?_ | refine w_reg ?_) | ((with_reducible refine g_on ?_); (first | ((with_reducible refine g_mv ?_); refine l_p txs rfl rfl ?_) | ((with_reducible refine g_fa ?_); refine h_fa flds rfl rfl ?_) | ((with_reducible refine g_ld ?_); (refine h_ld txs H 0 rfl rfl rfl rfl ?_)) | ((with_reducible refine g_cl ?_); refine l_p txs rfl rfl ?_))))
      (with_reducible refine is_l ?_); refine l_t txs rfl rfl (fun hlt => ?_) (fun hge => ?_)
      · obtain ⟨y, hy⟩ : ∃ y, W[i]? = some y := ⟨_, List.getElem?_eq_getElem (by omega)⟩
        obtain ⟨m1, m2⟩ := hsm y (List.mem_of_getElem? hy)
        have by' : Bytes y := fun z hz => bpr z (m1 z hz)
        have zy := sizeS' by'
        have hcell := rdT_cell (rowT_at H 0 rfl) hy
        repeat' (first | (with_reducible first | refine p_tn ?_ | refine wp_seq ?_ | refine wp_block ?_ | refine w_reg ?_) | (with_reducible (refine is_if ?_; (refine w_ift rfl ?_))) | (with_reducible first | refine wp_skip ?_ | refine l_nil ?_) | ((with_reducible refine g_on ?_); (first | ((with_reducible refine g_mv ?_); refine l_p txs rfl rfl ?_) | ((with_reducible refine g_fa ?_); refine h_fa flds rfl rfl ?_) | ((with_reducible refine g_ld ?_); (refine h_ld txs H 0 rfl rfl rfl rfl ?_)) | ((with_reducible refine g_ia ?_); refine l_ia txs rfl rfl (by first | omega | assumption | decide) (by first | omega | assumption | decide) ?_))))
        (with_reducible refine is_l ?_); refine l_ld txs rfl rfl (by rw [Int.toNat_natCast]; exact hcell) ?_
        skip
        have hw := word_c (strOfNums y) w_ (by omega)
        rw [blS by'] at hw
        (with_reducible refine is_l ?_); refine l_callp rfl rfl (by kernel_rfl) hw ?_
        cases hwb : wordB y
        · have hWa : W.all wordB = false := by
            rw [List.all_eq_false]
            exact ⟨y, List.mem_of_getElem? hy, by rw [hwb]; simp⟩
          have hres : parseV (bl t) = none := by rw [hV, if_pos hWa]
          repeat' (first | (with_reducible first | refine p_tn ?_ | refine p_tr ?_ | refine p_br ?_ | refine wp_seq ?_ | refine w_reg ?_) | (with_reducible (refine is_if ?_; (refine w_ift rfl ?_))) | (with_reducible first | refine wp_ret ?_ | refine l_nil ?_) | ((with_reducible refine g_on ?_); (first | ((with_reducible refine g_as ?_); refine l_p txs rfl rfl ?_) | ((with_reducible refine g_ld ?_); (refine h_ldR recs H 0 rfl rfl rfl rfl rfl ?_)) | ((with_reducible refine g_st ?_); (refine h_stR recs H 1 rfl rfl rfl rfl rfl rfl rfl rfl rfl (fun w_ H => ?_))) | ((with_reducible refine g_un ?_); (refine l_p txs rfl rfl ?_)))))
          refine end_ct recs H 1 rfl rfl rfl rfl rfl rfl ?_
          exact pa_none hres _ _ _ _ _ _ _ H.B
        · repeat' (first | (with_reducible first | refine p_tn ?_ | refine p_bn ?_ | refine w_reg ?_) | (with_reducible (refine is_if ?_; (refine w_iff rfl ?_))) | (with_reducible first | refine wp_skip ?_ | refine l_nil ?_) | ((with_reducible refine g_on ?_); (first | ((with_reducible refine g_mv ?_); refine l_p txs rfl rfl ?_) | ((with_reducible refine g_as ?_); refine l_p txs rfl rfl ?_) | ((with_reducible refine g_un ?_); (refine l_p txs rfl rfl ?_)) | ((with_reducible refine g_bi ?_); (refine l_a txs rfl rfl (by first | exact in_i64 (by omega) (by omega) | exact in_u8 (by omega) (by omega) | exact in_u64 (by omega) (by omega) | exact in_i32 (by omega) (by omega)) ?_)))))
          refine ⟨i + 1, _, rfl, ⟨rfl, rfl, rfl, rfl, trivial⟩, ⟨H, by omega, ?_⟩, by omega⟩
          rw [List.take_succ_eq_append_getElem (by omega), List.all_append, ha, (List.getElem?_eq_some_iff.1 hy).2]
          simp [hwb]
      · have hWa : W.all wordB = true := by rw [← List.take_of_length_le (l := W) (i := i) (by omega)]; exact ha
        repeat' (first | (with_reducible first | refine p_tn ?_ | refine p_tx ?_ | refine x_hit ?_) | (with_reducible (refine is_if ?_; (refine w_iff rfl ?_))) | (with_reducible first | refine wp_exit ?_ | refine l_nil ?_))
        exact ⟨(some ad, c1), _, rfl, ⟨rfl, rfl, rfl, trivial⟩, ⟨H, hWa⟩⟩
  clear H
  rintro ⟨A, c⟩ f w_ ⟨H, hwa⟩
  simp only at H
  have hV : parseV (bl t) = tailV (splitC 46 core) ws odd := by rw [hV, if_neg (by rw [hwa]; simp)]
  repeat' (first | (with_reducible first | refine wp_seq ?_ | refine w_reg ?_) | ((with_reducible refine g_on ?_); ((with_reducible refine g_mv ?_); refine l_p txs rfl rfl ?_)))
  have hpi := pieces_c (strOfNums core) 46 w_ (by omega)
  rw [blS bco] at hpi
  (with_reducible refine is_l ?_); refine l_call rfl rfl (by kernel_rfl) hpi (fun e w_ hR => ?_)
  have hsm := split_mem 46 core
  have hsl := split_len 46 core
  have hne := splitC_ne (c := 46) core
  generalize splitC 46 core = N at hR hsm hsl hne hV ⊢
  obtain ⟨A1, c1, rfl, K⟩ := hR
  refine ⟨_, rfl, ?_⟩
  have hNl := List.length_pos_iff.2 hne
  obtain ⟨A3, c3, e3, _, hRd, hAn⟩ := K.rd 0 rfl
  cases e3
  obtain ⟨ad, rfl⟩ : ∃ ad, A1 = some ad := by
    cases A1 with
    | some ad => exact ⟨ad, rfl⟩
    | none => exact absurd (hAn rfl).2 (by show N.length ≠ 0; omega)
  have H := H.join K
  have H : Hp w w_ _ [rowT (.slice (some ad) N.length c1) N, rowT (.slice A ws.length c) ws] := H
  clear hRd hAn
  repeat' (first | (with_reducible first | refine p_tn ?_ | refine wp_seq ?_ | refine w_reg ?_ | refine l_nil ?_) | ((with_reducible refine g_on ?_); (first | ((with_reducible refine g_mv ?_); refine l_p txs rfl rfl ?_) | ((with_reducible refine g_as ?_); refine l_p txs rfl rfl ?_) | ((with_reducible refine g_cl ?_); refine l_p txs rfl rfl ?_))))
  (with_reducible refine is_l ?_); refine l_t txs rfl rfl (fun hne => ?_) (fun heq => ?_)
  · have hres : parseV (bl t) = none := by
      rw [hV]
      unfold tailV
      split
      · exact absurd (by simp) hne
      · rfl
    repeat' (first | (with_reducible first | refine p_tn ?_ | refine p_tr ?_ | refine wp_seq ?_ | refine w_reg ?_) | (with_reducible (refine is_if ?_; (refine w_ift rfl ?_))) | (with_reducible first | refine wp_ret ?_ | refine l_nil ?_) | ((with_reducible refine g_on ?_); (first | ((with_reducible refine g_as ?_); refine l_p txs rfl rfl ?_) | ((with_reducible refine g_ld ?_); (refine h_ldR recs H 0 rfl rfl rfl rfl rfl ?_)) | ((with_reducible refine g_st ?_); (refine h_stR recs H 1 rfl rfl rfl rfl rfl rfl rfl rfl rfl (fun w_ H => ?_))))))
    refine end_ct recs H 1 rfl rfl rfl rfl rfl rfl ?_
    exact pa_none hres _ _ _ _ _ _ _ H.B
  obtain ⟨a, b, d, hN⟩ : ∃ a b d, N = [a, b, d] := by
    match N, heq with
    | [a, b, d], _ => exact ⟨a, b, d, rfl⟩
    | [], h1 => exact absurd (by simp) h1
    | [_], h1 => exact absurd (by simp) h1
    | [_, _], h1 => exact absurd (by simp) h1
    | _ :: _ :: _ :: _ :: _, h1 => exact absurd (by simp; omega) h1
  subst hN
  obtain ⟨ma1, ma2⟩ := hsm a (by simp)
  obtain ⟨mb1, mb2⟩ := hsm b (by simp)
  obtain ⟨md1, md2⟩ := hsm d (by simp)
  have ba : Bytes a := fun y hy => bco y (ma1 y hy)
  have bb : Bytes b := fun y hy => bco y (mb1 y hy)
  have bd : Bytes d := fun y hy => bco y (md1 y hy)
  have za := sizeS' ba
  have zb := sizeS' bb
  have zd := sizeS' bd
  have hl3 : [a, b, d].length = 3 := rfl
  repeat' (first | (with_reducible first | refine p_tn ?_ | refine wp_seq ?_ | refine wp_block ?_ | refine w_reg ?_) | (with_reducible (refine is_if ?_; (refine w_iff rfl ?_))) | (with_reducible first | refine wp_skip ?_ | refine l_nil ?_) | ((with_reducible refine g_on ?_); ((with_reducible refine g_as ?_); refine l_p txs rfl rfl ?_)))
  refine w_loop (σ := Nat) (S := fun s => [(2, .pointer (some ⟨g2, 0, none⟩)), (4, .pointer (some ⟨g4, 0, none⟩)), (7, .slice (some ad) [a, b, d].length c1), (8, .int .i64 (s : Int))])
    (J := fun s w' => Hp w w' [eP g4 (if 1 ≤ s then strOfNums a else ⟨#[]⟩) (if 2 ≤ s then strOfNums b else ⟨#[]⟩) (if 3 ≤ s then strOfNums d else ⟨#[]⟩) A ws.length c odd, (g2, 102, zV)] [rowT (.slice (some ad) [a, b, d].length c1) [a, b, d], rowT (.slice A ws.length c) ws] ∧ s ≤ 3 ∧ (1 ≤ s → numB a = true) ∧ (2 ≤ s → numB b = true) ∧ (3 ≤ s → numB d = true)) (μ := fun s => 3 - s) 0 ⟨rfl, rfl, rfl, rfl, trivial⟩ ⟨H, by omega, fun h => by omega, fun h => by omega, fun h => by omega⟩ ?_
  clear H
  rintro s f w_ ⟨H, hs, k1, k2, k3⟩
  by_cases hs3 : s = 3
  · subst hs3
    have k1 := k1 (by omega)
    have k2 := k2 (by omega)
    have k3 := k3 (by omega)
    have H : Hp w w_ [eP g4 (strOfNums a) (strOfNums b) (strOfNums d) A ws.length c odd, (g2, 102, zV)] [rowT (.slice (some ad) [a, b, d].length c1) [a, b, d], rowT (.slice A ws.length c) ws] := H
    have hV2 : parseV (bl t) = if (!odd || (decide (a ≠ [48]) && decide (a ≠ [49]))) then some ⟨a, b, d, ws, odd⟩ else none := by
      rw [hV]
      unfold tailV
      simp only [k1, k2, k3, Bool.true_and]
    have e48 : bl (⟨#[48]⟩ : ByteArray) = [48] := rfl
    have e49 : bl (⟨#[49]⟩ : ByteArray) = [49] := rfl
    repeat' (first | (with_reducible first | refine wp_seq ?_ | refine w_reg ?_) | ((with_reducible refine g_on ?_); ((with_reducible refine g_mv ?_); refine l_p txs rfl rfl ?_)))
    (with_reducible refine is_l ?_); refine l_t txs rfl rfl (fun hh => absurd hh (by omega)) (fun _ => ?_)
    have fin : ∀ q : Bool, q = (!odd || (decide (a ≠ [48]) && decide (a ≠ [49]))) → ∀ w', Hp w w' [eP g4 (strOfNums a) (strOfNums b) (strOfNums d) A ws.length c odd, eP g2 (strOfNums a) (strOfNums b) (strOfNums d) A ws.length c odd] [rowT (.slice (some ad) [a, b, d].length c1) [a, b, d], rowT (.slice A ws.length c) ws] → PaR w (bl t) (.returned (.tuple #[.agg #[.string (strOfNums a), .string (strOfNums b), .string (strOfNums d), .slice A ws.length c, .bool odd], .bool q])) w' := fun q hq w' H => by
      rw [← hq] at hV2
      cases q
      · rw [if_neg (by simp)] at hV2
        exact pa_none hV2 _ _ _ _ _ _ _ H.B
      · rw [if_pos rfl] at hV2
        exact pa_some hV2 A c (H.pick [] [1] (by decide) (by decide) rfl rfl)
    have hq : (odd = false) ∨ (odd = true ∧ a = [48]) ∨ (odd = true ∧ a ≠ [48] ∧ a = [49]) ∨ (odd = true ∧ a ≠ [48] ∧ a ≠ [49]) := by
      cases odd
      · exact .inl rfl
      · by_cases h1 : a = [48]
        · exact .inr (.inl ⟨rfl, h1⟩)
        · by_cases h2 : a = [49]
          · exact .inr (.inr (.inl ⟨rfl, h1, h2⟩))
          · exact .inr (.inr (.inr ⟨rfl, h1, h2⟩))
    clear hodd
    rcases hq with rfl | ⟨rfl, hA⟩ | ⟨rfl, hA, hB⟩ | ⟨rfl, hA, hB⟩
    all_goals
      repeat' (first | (with_reducible first | refine p_tn ?_ | refine p_tx ?_ | refine x_hit ?_ | refine wp_seq ?_) | (with_reducible (refine is_if ?_; (refine w_iff rfl ?_))) | (with_reducible first | refine wp_exit ?_ | refine l_nil ?_))
      have HS := H.pick [0] [0, 1] (by decide) (by decide) rfl rfl
      refine d_start (fun w_ => HpS _ w w_ _ _) #[false, false, false, false, false, false, false, false, false, false, false, false, false, false, false, false, false, false] (by kernel_rfl) rfl rfl HS.drew ?_
      have H := H.drew
      have HS := HS.drew
      first | (refine d_take (i := 0) #[true, false, false, false, false, false, false, false, false, false, false, false, false, false, false, false, false, false] rfl (by kernel_rfl) (fun _ _ _ h => h) rfl (fun w_ K => evLR_run (o := ⟨_, _, _, _, _, _⟩) recs rfl rfl (K.range 0 rfl) rfl) HS ?_)
      first | (refine d_pure (i := 1) #[true, true, false, false, false, false, false, false, false, false, false, false, false, false, false, false, false, false] rfl (by kernel_rfl) (fun _ _ _ h => h) rfl (fun w_ => evF_run (o := ⟨_, _, _, _, _, _⟩) flds rfl) ?_) | (refine d_pure (i := 1) #[true, true, false, false, false, false, false, false, false, false, false, false, false, false, false, false, false, false] rfl (by kernel_rfl) (fun _ _ _ h => h) rfl (fun w_ => evG_run (o := ⟨_, _, _, _, _, _⟩) flds rfl) ?_)
      first | (refine d_take (i := 2) #[true, true, true, false, false, false, false, false, false, false, false, false, false, false, false, false, false, false] rfl (by kernel_rfl) (fun _ _ _ h => h) rfl (fun w_ K => evL_run (o := ⟨_, _, _, _, _, _⟩) txs rfl (K.cellAt 0 rfl rfl)) HS ?_)
      first | (refine d_pure (i := 3) #[true, true, true, true, false, false, false, false, false, false, false, false, false, false, false, false, false, false] rfl (by kernel_rfl) (fun _ _ _ h => h) rfl (fun w_ => evP_run (o := ⟨_, _, _, _, _, _⟩) txs rfl) ?_)
      first | (refine d_pure (i := 4) #[true, true, true, true, true, false, false, false, false, false, false, false, false, false, false, false, false, false] rfl (by kernel_rfl) (fun _ _ _ h => h) rfl (fun w_ => evP_run (o := ⟨_, _, _, _, _, _⟩) txs rfl) ?_)
      first | (refine d_off (i := 5) #[true, true, true, true, true, true, false, false, false, false, false, false, false, false, false, false, false, false] rfl (by kernel_rfl) (fun _ _ _ h => h) rfl ?_) | (first | (refine d_pure (i := 5) #[true, true, true, true, true, true, false, false, false, false, false, false, false, false, false, false, false, false] rfl (by kernel_rfl) (fun _ _ _ h => h) rfl (fun w_ => evF_run (o := ⟨_, _, _, _, _, _⟩) flds rfl) ?_) | (refine d_pure (i := 5) #[true, true, true, true, true, true, false, false, false, false, false, false, false, false, false, false, false, false] rfl (by kernel_rfl) (fun _ _ _ h => h) rfl (fun w_ => evG_run (o := ⟨_, _, _, _, _, _⟩) flds rfl) ?_))
      first | (refine d_off (i := 6) #[true, true, true, true, true, true, true, false, false, false, false, false, false, false, false, false, false, false] rfl (by kernel_rfl) (fun _ _ _ h => h) rfl ?_) | (first | (refine d_pure (i := 6) #[true, true, true, true, true, true, true, false, false, false, false, false, false, false, false, false, false, false] rfl (by kernel_rfl) (fun _ _ _ h => h) rfl (fun w_ => evIaa_run (o := ⟨_, _, _, _, _, _⟩) Tryz.underlying87 info_str1 rfl rfl rfl (by decide) (by decide)) ?_))
      first | (refine d_off (i := 7) #[true, true, true, true, true, true, true, true, false, false, false, false, false, false, false, false, false, false] rfl (by kernel_rfl) (fun _ _ _ h => h) rfl ?_) | (first | (refine d_take (i := 7) #[true, true, true, true, true, true, true, true, false, false, false, false, false, false, false, false, false, false] rfl (by kernel_rfl) (fun _ _ _ h => h) rfl (fun w_ K => evL_run (o := ⟨_, _, _, _, _, _⟩) txs rfl (K.cellAt 0 rfl rfl)) HS ?_))
      first | (refine d_off (i := 8) #[true, true, true, true, true, true, true, true, true, false, false, false, false, false, false, false, false, false] rfl (by kernel_rfl) (fun _ _ _ h => h) rfl ?_) | (first | (refine d_pure (i := 8) #[true, true, true, true, true, true, true, true, true, false, false, false, false, false, false, false, false, false] rfl (by kernel_rfl) (fun _ _ _ h => h) rfl (fun w_ => (by first | exact evT_yes (o := ⟨_, _, _, _, _, _⟩) txs rfl (by rw [blS ba, e48]; exact hA) | exact evT_no (o := ⟨_, _, _, _, _, _⟩) txs rfl (by rw [blS ba, e48, hA]; exact fun h => h rfl))) ?_))
      first | (refine d_off (i := 9) #[true, true, true, true, true, true, true, true, true, true, false, false, false, false, false, false, false, false] rfl (by kernel_rfl) (fun _ _ _ h => h) rfl ?_) | (first | (refine d_pure (i := 9) #[true, true, true, true, true, true, true, true, true, true, false, false, false, false, false, false, false, false] rfl (by kernel_rfl) (fun _ _ _ h => h) rfl (fun w_ => evP_run (o := ⟨_, _, _, _, _, _⟩) txs rfl) ?_))
      first | (refine d_off (i := 10) #[true, true, true, true, true, true, true, true, true, true, true, false, false, false, false, false, false, false] rfl (by kernel_rfl) (fun _ _ _ h => h) rfl ?_) | (first | (refine d_pure (i := 10) #[true, true, true, true, true, true, true, true, true, true, true, false, false, false, false, false, false, false] rfl (by kernel_rfl) (fun _ _ _ h => h) rfl (fun w_ => evF_run (o := ⟨_, _, _, _, _, _⟩) flds rfl) ?_) | (refine d_pure (i := 10) #[true, true, true, true, true, true, true, true, true, true, true, false, false, false, false, false, false, false] rfl (by kernel_rfl) (fun _ _ _ h => h) rfl (fun w_ => evG_run (o := ⟨_, _, _, _, _, _⟩) flds rfl) ?_))
      first | (refine d_off (i := 11) #[true, true, true, true, true, true, true, true, true, true, true, true, false, false, false, false, false, false] rfl (by kernel_rfl) (fun _ _ _ h => h) rfl ?_) | (first | (refine d_pure (i := 11) #[true, true, true, true, true, true, true, true, true, true, true, true, false, false, false, false, false, false] rfl (by kernel_rfl) (fun _ _ _ h => h) rfl (fun w_ => evIaa_run (o := ⟨_, _, _, _, _, _⟩) Tryz.underlying87 info_str1 rfl rfl rfl (by decide) (by decide)) ?_))
      first | (refine d_off (i := 12) #[true, true, true, true, true, true, true, true, true, true, true, true, true, false, false, false, false, false] rfl (by kernel_rfl) (fun _ _ _ h => h) rfl ?_) | (first | (refine d_take (i := 12) #[true, true, true, true, true, true, true, true, true, true, true, true, true, false, false, false, false, false] rfl (by kernel_rfl) (fun _ _ _ h => h) rfl (fun w_ K => evL_run (o := ⟨_, _, _, _, _, _⟩) txs rfl (K.cellAt 0 rfl rfl)) HS ?_))
      first | (refine d_off (i := 13) #[true, true, true, true, true, true, true, true, true, true, true, true, true, true, false, false, false, false] rfl (by kernel_rfl) (fun _ _ _ h => h) rfl ?_) | (first | (refine d_pure (i := 13) #[true, true, true, true, true, true, true, true, true, true, true, true, true, true, false, false, false, false] rfl (by kernel_rfl) (fun _ _ _ h => h) rfl (fun w_ => (by first | exact evT_yes (o := ⟨_, _, _, _, _, _⟩) txs rfl (by rw [blS ba, e49]; exact hB) | exact evT_no (o := ⟨_, _, _, _, _, _⟩) txs rfl (by rw [blS ba, e49, hB]; exact fun h => h rfl))) ?_))
      first | (refine d_off (i := 14) #[true, true, true, true, true, true, true, true, true, true, true, true, true, true, true, false, false, false] rfl (by kernel_rfl) (fun _ _ _ h => h) rfl ?_) | (first | (refine d_pure (i := 14) #[true, true, true, true, true, true, true, true, true, true, true, true, true, true, true, false, false, false] rfl (by kernel_rfl) (fun _ _ _ h => h) rfl (fun w_ => evP_run (o := ⟨_, _, _, _, _, _⟩) txs rfl) ?_))
      first | (refine d_pure (i := 15) #[true, true, true, true, true, true, true, true, true, true, true, true, true, true, true, true, false, false] rfl (by kernel_rfl) (fun _ _ _ h => h) rfl (fun w_ => evP_run (o := ⟨_, _, _, _, _, _⟩) txs rfl) ?_)
      refine d_one (i := 16) #[true, true, true, true, true, true, true, true, true, true, true, true, true, true, true, true, true, false] rfl (by kernel_rfl) rfl ?_
      refine g_on ?_; ((with_reducible refine g_st ?_); (refine h_stR recs H 1 rfl rfl rfl rfl rfl rfl rfl rfl rfl (fun w_ H => ?_)))
      refine l_nil ?_
      have HS := H.pick [0] [0, 1] (by decide) (by decide) rfl rfl
      refine ⟨rfl, HS, ?_⟩
      first | (refine d_pure (i := 17) #[true, true, true, true, true, true, true, true, true, true, true, true, true, true, true, true, true, true] rfl (by kernel_rfl) (fun _ _ _ h => h) rfl (fun w_ => evP_run (o := ⟨_, _, _, _, _, _⟩) txs rfl) ?_)
      refine d_done rfl ?_
      repeat' (with_reducible first | refine p_tn ?_ | refine wp_ret ?_)
      refine end_ct recs H 1 rfl rfl rfl rfl rfl rfl ?_
      refine fin _ ?_ _ H
      first
      | rfl
      | (rw [hA]; rfl)
      | (rw [hB]; rfl)
      | (rw [decide_eq_true hA, decide_eq_true hB]; rfl)
  · have h012 : s = 0 ∨ s = 1 ∨ s = 2 := by omega
    rcases h012 with rfl | rfl | rfl
    have ny := fun w1 => number_c (strOfNums a) w1
    rw [blS ba] at ny
    have hcell := rdT_cell (rowT_at H 0 rfl) (y := a) (i := 0) rfl
    obtain ⟨y, hy⟩ : ∃ y, y = a := ⟨_, rfl⟩
    rw [← hy] at ny hcell
    rotate_left
    have ny := fun w1 => number_c (strOfNums b) w1
    rw [blS bb] at ny
    have hcell := rdT_cell (rowT_at H 0 rfl) (y := b) (i := 1) rfl
    obtain ⟨y, hy⟩ : ∃ y, y = b := ⟨_, rfl⟩
    rw [← hy] at ny hcell
    rotate_left
    have ny := fun w1 => number_c (strOfNums d) w1
    rw [blS bd] at ny
    have hcell := rdT_cell (rowT_at H 0 rfl) (y := d) (i := 2) rfl
    obtain ⟨y, hy⟩ : ∃ y, y = d := ⟨_, rfl⟩
    rw [← hy] at ny hcell
    rotate_left
    all_goals
      repeat' (first | (with_reducible first | refine wp_seq ?_ | refine w_reg ?_) | ((with_reducible refine g_on ?_); ((with_reducible refine g_mv ?_); refine l_p txs rfl rfl ?_)))
      (with_reducible refine is_l ?_); refine l_t txs rfl rfl (fun _ => ?_) (fun hh => absurd (by omega) hh)
      repeat' (first | (with_reducible first | refine p_tn ?_ | refine wp_seq ?_ | refine wp_block ?_ | refine w_reg ?_) | (with_reducible (refine is_if ?_; (refine w_ift rfl ?_))) | (with_reducible first | refine wp_skip ?_ | refine l_nil ?_) | ((with_reducible refine g_on ?_); (first | ((with_reducible refine g_mv ?_); refine l_p txs rfl rfl ?_) | ((with_reducible refine g_ia ?_); refine l_ia txs rfl rfl (by first | omega | assumption | decide) (by first | omega | assumption | decide) ?_))))
      (with_reducible refine is_l ?_); refine l_ld txs rfl rfl hcell ?_
      skip
      (with_reducible refine is_l ?_); refine l_callp rfl rfl (by kernel_rfl) (ny _ (by rw [hy]; omega)) ?_
      cases hnb : numB y
      · have hres : parseV (bl t) = none := by
          rw [hV]
          unfold tailV
          rw [hy] at hnb
          simp [hnb]
        repeat' (first | (with_reducible first | refine p_tn ?_ | refine p_tr ?_ | refine p_br ?_ | refine wp_seq ?_ | refine w_reg ?_) | (with_reducible (refine is_if ?_; (refine w_ift rfl ?_))) | (with_reducible first | refine wp_ret ?_ | refine l_nil ?_) | ((with_reducible refine g_on ?_); (first | ((with_reducible refine g_as ?_); refine l_p txs rfl rfl ?_) | ((with_reducible refine g_ld ?_); (refine h_ldR recs H 0 rfl rfl rfl rfl rfl ?_)) | ((with_reducible refine g_st ?_); (refine h_stR recs H 1 rfl rfl rfl rfl rfl rfl rfl rfl rfl (fun w_ H => ?_))) | ((with_reducible refine g_un ?_); (refine l_p txs rfl rfl ?_)))))
        refine end_ct recs H 1 rfl rfl rfl rfl rfl rfl ?_
        exact pa_none hres _ _ _ _ _ _ _ H.B
      · repeat' (first | (with_reducible first | refine p_tn ?_ | refine w_reg ?_) | (with_reducible (refine is_if ?_; (refine w_iff rfl ?_))) | (with_reducible first | refine wp_skip ?_ | refine l_nil ?_) | ((with_reducible refine g_on ?_); (first | ((with_reducible refine g_mv ?_); refine l_p txs rfl rfl ?_) | ((with_reducible refine g_un ?_); (refine l_p txs rfl rfl ?_)) | ((with_reducible refine g_ia ?_); refine l_ia txs rfl rfl (by first | omega | assumption | decide) (by first | omega | assumption | decide) ?_))))
        (with_reducible refine is_l ?_); refine l_ld txs rfl rfl hcell ?_
        repeat' ((with_reducible refine g_on ?_); ((with_reducible refine g_fa ?_); refine h_fa flds rfl rfl ?_))
        (with_reducible refine is_l ?_); refine l_iaa Tryz.underlying87 info_str1 rfl rfl rfl (by decide) (by decide) ?_
        repeat' (first | (with_reducible first | refine p_tn ?_ | refine p_bn ?_ | refine w_reg ?_ | refine l_nil ?_) | ((with_reducible refine g_on ?_); (first | ((with_reducible refine g_mv ?_); refine l_p txs rfl rfl ?_) | ((with_reducible refine g_as ?_); refine l_p txs rfl rfl ?_) | ((with_reducible refine g_st ?_); (refine h_st txs ones H 0 rfl rfl rfl rfl rfl rfl rfl rfl rfl (fun w_ H => ?_))) | ((with_reducible refine g_bi ?_); (refine l_a txs rfl rfl (by first | exact in_i64 (by omega) (by omega) | exact in_u8 (by omega) (by omega) | exact in_u64 (by omega) (by omega) | exact in_i32 (by omega) (by omega)) ?_)))))
        subst hy
        exact ⟨_ + 1, _, rfl, ⟨rfl, rfl, rfl, rfl, trivial⟩, ⟨H.pick [0, 1] [0, 1] (by decide) (by decide) rfl rfl, by decide, fun _ => by first | exact hnb | exact k1 (by decide), fun h => by first | exact hnb | exact k2 (by decide) | omega, fun h => by first | exact hnb | omega⟩, by decide⟩
end Go.Proofs.YtnimaenhijlcmaaGreatDoor.K.Ref
end
section
namespace Go.Proofs.YtnimaenhijlcmaaGreatDoor.K.Ref
open Go.RowKit Go.Proofs.YtnimaenhijlcmaaGreatDoor.Q Go.Proofs.YtnimaenhijlcmaaGreatDoor.K Go.Proofs.YtnimaenhijlcmaaGreatDoor.Mb Go.Proofs.YtnimaenhijlcmaaGreatDoorW.PrintWords
set_option linter.unusedVariables false
set_option linter.unusedSimpArgs false
def lexN : List L → List L → Int → Int
  | x :: a, y :: b, k => if cmpN x y ≠ 0 then cmpN x y else lexN a b k
  | _, _, k => k
theorem words_at {w w' : World} {s : L} {v : Ver} {l : List Ent} {r : List RowD} {A : Option Addr} {c : Nat} (hs : parseV s = some v) (H : Hp w w' l r) (k : Nat) (hk : r[k]? = some (rowT (.slice A v.words.length c) v.words)) : WordsAt w' A v.words := by
  obtain ⟨pre, _, _, _, _, _, hall, _, _⟩ := parseV_text hs
  have hin := ver_in hs
  exact ⟨rowT_at H k hk, fun x hx => ⟨hall x hx, (hin.words x hx).1, (hin.words x hx).2⟩⟩
set_option maxRecDepth 100000 in
set_option maxHeartbeats 16000000 in
theorem Compare_r (a b : ByteArray) (w : World) : Calls Tryz.prog 45 #[.string a, .string b] w fun e w' => e = .returned (.int .i64 (compareS (bl a) (bl b))) ∧ Below w.heap.size w w' := by
  refine enter (args := [.string a, .string b]) Tryz.func45 rfl Tryz.ntmps45 rfl ?_
  have H := Hp.nil w
  have hV : compareS (bl a) (bl b) = (match parseV (bl a), parseV (bl b) with
    | some v, some w => cmpV v w
    | some _, none => 1
    | none, some _ => -1
    | none, none => 0) := rfl
  repeat' (first | (with_reducible first | refine p_tn ?_ | refine wp_seq ?_ | refine w_reg ?_ | refine l_nil ?_) | ((with_reducible refine g_on ?_); (first | ((with_reducible refine g_mv ?_); refine l_p txs rfl rfl ?_) | ((with_reducible refine g_as ?_); refine l_p txs rfl rfl ?_))))
  (with_reducible refine is_l ?_); refine l_call rfl rfl (by kernel_rfl) (Split_c a w) (fun e w_ hR => ?_)
  unfold PaR at hR
  cases hp : parseV (bl a) with
  | none =>
    rw [hp] at hR hV
    obtain ⟨x, y, z, A, n, c, bo, rfl, K⟩ := hR
    refine ⟨_, rfl, ?_⟩
    have H := H.call K
    repeat' (first | (with_reducible first | refine p_tn ?_ | refine wp_seq ?_ | refine w_reg ?_ | refine l_nil ?_) | ((with_reducible refine g_on ?_); (first | ((with_reducible refine g_mv ?_); refine l_p txs rfl rfl ?_) | ((with_reducible refine g_as ?_); refine l_p txs rfl rfl ?_) | ((with_reducible refine g_ex ?_); refine l_p txs rfl rfl ?_) | ((with_reducible refine g_st ?_); (refine h_stR recs H 0 rfl rfl rfl rfl rfl rfl rfl rfl rfl (fun w_ H => ?_))) | ((with_reducible refine g_al ?_); refine h_alloc recs H rfl rfl (fun g_ w_ H => ?_)))))
    (with_reducible refine is_l ?_); refine l_call rfl rfl (by kernel_rfl) (Split_c b _) (fun e w_ hR => ?_)
    unfold PaR at hR
    cases hq : parseV (bl b) with
    | none =>
      rw [hq] at hR hV
      obtain ⟨x, y, z, A, n, c, bo, rfl, K⟩ := hR
      refine ⟨_, rfl, ?_⟩
      have H := H.call K
      have hn : compareS (bl a) (bl b) = 0 := hV
      repeat' (first | (with_reducible first | refine p_tn ?_ | refine p_tr ?_ | refine p_bn ?_ | refine wp_seq ?_ | refine wp_block ?_ | refine w_reg ?_) | (with_reducible (refine is_if ?_; (first | (refine w_ift rfl ?_) | (refine w_iff rfl ?_)))) | (with_reducible first | refine wp_skip ?_ | refine wp_ret ?_ | refine l_nil ?_) | ((with_reducible refine g_on ?_); (first | ((with_reducible refine g_mv ?_); refine l_p txs rfl rfl ?_) | ((with_reducible refine g_as ?_); refine l_p txs rfl rfl ?_) | ((with_reducible refine g_ex ?_); refine l_p txs rfl rfl ?_) | ((with_reducible refine g_pk ?_); refine l_p txs rfl rfl ?_) | ((with_reducible refine g_st ?_); (refine h_stR recs H 0 rfl rfl rfl rfl rfl rfl rfl rfl rfl (fun w_ H => ?_))) | ((with_reducible refine g_al ?_); refine h_alloc recs H rfl rfl (fun g_ w_ H => ?_)) | ((with_reducible refine g_un ?_); (refine l_p txs rfl rfl ?_)))) | ((with_reducible refine g_if ?_); (refine l_off rfl ?_)))
      refine end1 rfl rfl ?_
      exact ⟨by rw [hn], H.B⟩
    | some u =>
      rw [hq] at hR hV
      obtain ⟨A2, c2, rfl, K⟩ := hR
      refine ⟨_, rfl, ?_⟩
      have H := H.call K.B
      have hn : compareS (bl a) (bl b) = -1 := hV
      repeat' (first | (with_reducible first | refine p_tn ?_ | refine p_tr ?_ | refine p_br ?_ | refine wp_seq ?_ | refine wp_block ?_ | refine w_reg ?_) | (with_reducible (refine is_if ?_; (refine w_ift rfl ?_))) | (with_reducible first | refine wp_ret ?_ | refine l_nil ?_) | ((with_reducible refine g_on ?_); (first | ((with_reducible refine g_mv ?_); refine l_p txs rfl rfl ?_) | ((with_reducible refine g_as ?_); refine l_p txs rfl rfl ?_) | ((with_reducible refine g_ex ?_); refine l_p txs rfl rfl ?_) | ((with_reducible refine g_pk ?_); refine l_p txs rfl rfl ?_) | ((with_reducible refine g_st ?_); (refine h_stR recs H 0 rfl rfl rfl rfl rfl rfl rfl rfl rfl (fun w_ H => ?_))) | ((with_reducible refine g_al ?_); refine h_alloc recs H rfl rfl (fun g_ w_ H => ?_)) | ((with_reducible refine g_un ?_); (refine l_p txs rfl rfl ?_)))) | ((with_reducible refine g_if ?_); (refine l_off rfl ?_)))
      refine end1 rfl rfl ?_
      exact ⟨by rw [hn], H.B⟩
  | some v =>
    rw [hp] at hR hV
    obtain ⟨A1, c1, rfl, K⟩ := hR
    refine ⟨_, rfl, ?_⟩
    have H := H.join K
    repeat' (first | (with_reducible first | refine p_tn ?_ | refine wp_seq ?_ | refine w_reg ?_ | refine l_nil ?_) | ((with_reducible refine g_on ?_); (first | ((with_reducible refine g_mv ?_); refine l_p txs rfl rfl ?_) | ((with_reducible refine g_as ?_); refine l_p txs rfl rfl ?_) | ((with_reducible refine g_ex ?_); refine l_p txs rfl rfl ?_) | ((with_reducible refine g_st ?_); (refine h_stR recs H 0 rfl rfl rfl rfl rfl rfl rfl rfl rfl (fun w_ H => ?_))) | ((with_reducible refine g_al ?_); refine h_alloc recs H rfl rfl (fun g_ w_ H => ?_)))))
    obtain ⟨gV, rfl⟩ : ∃ x, x = g_ := ⟨_, rfl⟩
    (with_reducible refine is_l ?_); refine l_call rfl rfl (by kernel_rfl) (Split_c b _) (fun e w_ hR => ?_)
    unfold PaR at hR
    cases hq : parseV (bl b) with
    | none =>
      rw [hq] at hR hV
      obtain ⟨x, y, z, A, n, c, bo, rfl, K⟩ := hR
      refine ⟨_, rfl, ?_⟩
      have H := H.call K
      have hn : compareS (bl a) (bl b) = 1 := hV
      repeat' (first | (with_reducible first | refine p_tn ?_ | refine p_tr ?_ | refine p_br ?_ | refine wp_seq ?_ | refine wp_block ?_ | refine w_reg ?_) | (with_reducible (refine is_if ?_; (first | (refine w_ift rfl ?_) | (refine w_iff rfl ?_)))) | (with_reducible first | refine wp_ret ?_ | refine l_nil ?_) | ((with_reducible refine g_on ?_); (first | ((with_reducible refine g_mv ?_); refine l_p txs rfl rfl ?_) | ((with_reducible refine g_as ?_); refine l_p txs rfl rfl ?_) | ((with_reducible refine g_ex ?_); refine l_p txs rfl rfl ?_) | ((with_reducible refine g_pk ?_); refine l_p txs rfl rfl ?_) | ((with_reducible refine g_st ?_); (refine h_stR recs H 0 rfl rfl rfl rfl rfl rfl rfl rfl rfl (fun w_ H => ?_))) | ((with_reducible refine g_al ?_); refine h_alloc recs H rfl rfl (fun g_ w_ H => ?_)) | ((with_reducible refine g_un ?_); (refine l_p txs rfl rfl ?_)))) | ((with_reducible refine g_if ?_); (first | ((with_reducible refine g_mv ?_); refine l_p txs rfl rfl ?_) | ((with_reducible refine g_un ?_); (refine l_p txs rfl rfl ?_)))))
      refine end1 rfl rfl ?_
      exact ⟨by rw [hn], H.B⟩
    | some u =>
      rw [hq] at hR hV
      obtain ⟨A2, c2, rfl, K⟩ := hR
      refine ⟨_, rfl, ?_⟩
      have H := H.join K
      have hV : compareS (bl a) (bl b) = lexN [v.a, v.b, v.c] [u.a, u.b, u.c] (Mb.cmpP v.words u.words) := hV
      have iv := ver_in hp
      have iu := ver_in hq
      have hN := fun (x y : L) (bx : Bytes x ∧ x.length ≤ 100000000) (by' : Bytes y ∧ y.length ≤ 100000000) (w1 : World) => numbers_c (strOfNums x) (strOfNums y) w1 (by rw [sizeS' bx.1]; exact bx.2) (by rw [sizeS' by'.1]; exact by'.2)
      repeat' (first | (with_reducible first | refine p_tn ?_ | refine wp_seq ?_ | refine wp_block ?_ | refine w_reg ?_) | (with_reducible (refine is_if ?_; (refine w_iff rfl ?_))) | (with_reducible first | refine wp_skip ?_ | refine l_nil ?_) | ((with_reducible refine g_on ?_); (first | ((with_reducible refine g_mv ?_); refine l_p txs rfl rfl ?_) | ((with_reducible refine g_as ?_); refine l_p txs rfl rfl ?_) | ((with_reducible refine g_ex ?_); refine l_p txs rfl rfl ?_) | ((with_reducible refine g_pk ?_); refine l_p txs rfl rfl ?_) | ((with_reducible refine g_st ?_); (refine h_stR recs H 0 rfl rfl rfl rfl rfl rfl rfl rfl rfl (fun w_ H => ?_))) | ((with_reducible refine g_al ?_); refine h_alloc recs H rfl rfl (fun g_ w_ H => ?_)) | ((with_reducible refine g_un ?_); (refine l_p txs rfl rfl ?_)))) | ((with_reducible refine g_if ?_); (first | ((with_reducible refine g_mv ?_); refine l_p txs rfl rfl ?_) | ((with_reducible refine g_un ?_); (refine l_p txs rfl rfl ?_)))))
      obtain ⟨gU, rfl⟩ : ∃ x, x = g_ := ⟨_, rfl⟩
      have H : Hp w w_ [_, eP gV (strOfNums v.a) (strOfNums v.b) (strOfNums v.c) A1 v.words.length c1 v.odd] [rowT (.slice A2 u.words.length c2) u.words, rowT (.slice A1 v.words.length c1) v.words] := H
      refine w_loop (σ := Nat) (S := fun s => [(5, .pointer (some ⟨gV, 0, none⟩)), (7, .pointer (some ⟨gU, 0, none⟩)), (9, .int .i64 (s : Int))]) (J := fun s w' => Hp w w' [eP gU (strOfNums u.a) (strOfNums u.b) (strOfNums u.c) A2 u.words.length c2 u.odd, eP gV (strOfNums v.a) (strOfNums v.b) (strOfNums v.c) A1 v.words.length c1 v.odd] [rowT (.slice A2 u.words.length c2) u.words, rowT (.slice A1 v.words.length c1) v.words] ∧ s ≤ 3 ∧ compareS (bl a) (bl b) = lexN ([v.a, v.b, v.c].drop s) ([u.a, u.b, u.c].drop s) (Mb.cmpP v.words u.words)) (μ := fun s => 3 - s) 0 ⟨rfl, rfl, rfl, trivial⟩ ⟨H, by omega, hV⟩ ?_
      clear H hV
      rintro i f w_ ⟨H, hi, hV⟩
      repeat' (first | (with_reducible first | refine wp_seq ?_ | refine w_reg ?_) | ((with_reducible refine g_on ?_); ((with_reducible refine g_mv ?_); refine l_p txs rfl rfl ?_)))
      (with_reducible refine is_l ?_); refine l_t txs rfl rfl (fun hlt => ?_) (fun hge => ?_)
      · have hc := hN v.a u.a iv.a iu.a
        rw [blS iv.a.1, blS iu.a.1] at hc
        have hc2 := hN v.b u.b iv.b iu.b
        rw [blS iv.b.1, blS iu.b.1] at hc2
        have hc3 := hN v.c u.c iv.c iu.c
        rw [blS iv.c.1, blS iu.c.1] at hc3
        rcases (by omega : i = 0 ∨ i = 1 ∨ i = 2) with rfl | rfl | rfl
        · have hV2 : compareS (bl a) (bl b) = if cmpN v.a u.a ≠ 0 then cmpN v.a u.a else lexN [v.b, v.c] [u.b, u.c] (Mb.cmpP v.words u.words) := hV
          generalize cmpN v.a u.a = j at hc hV2
          repeat' (first | (with_reducible first | refine p_tn ?_ | refine wp_seq ?_ | refine wp_block ?_) | (with_reducible (refine is_if ?_; (refine w_ift rfl ?_))) | (with_reducible first | refine wp_skip ?_ | refine l_nil ?_))
          refine w_draw (C := fun w' => Hp w w' [eP gU (strOfNums u.a) (strOfNums u.b) (strOfNums u.c) A2 u.words.length c2 u.odd, eP gV (strOfNums v.a) (strOfNums v.b) (strOfNums v.c) A1 v.words.length c1 v.odd] [rowT (.slice A2 u.words.length c2) u.words, rowT (.slice A1 v.words.length c1) v.words]) (by kernel_rfl) (by kernel_rfl) H.drew ?_
          repeat' (first | (with_reducible refine q_nil ?_) | ((with_reducible refine is_q ?_); first | (refine q_off rfl ?_) | (refine q_p txs rfl rfl ?_) | (refine q_val rfl (fun w' K => evF_run (o := ⟨_, _, _, _, _, _⟩) flds rfl) ?_)))
          refine q_val rfl (fun w' K => evIaa_run (o := ⟨_, _, _, _, _, _⟩) Tryz.underlying87 info_str1 rfl rfl rfl (by omega) (by omega)) ?_
          refine q_ld txs rfl rfl (fun w' K => K.cellAt 1 rfl rfl) ?_
          repeat' (first | (with_reducible refine q_nil ?_) | ((with_reducible refine is_q ?_); first | (refine q_off rfl ?_) | (refine q_p txs rfl rfl ?_) | (refine q_val rfl (fun w' K => evF_run (o := ⟨_, _, _, _, _, _⟩) flds rfl) ?_)))
          refine q_val rfl (fun w' K => evIaa_run (o := ⟨_, _, _, _, _, _⟩) Tryz.underlying87 info_str1 rfl rfl rfl (by omega) (by omega)) ?_
          refine q_ld txs rfl rfl (fun w' K => K.cellAt 0 rfl rfl) ?_
          refine q_call rfl rfl (by kernel_rfl) (fun w1 K => (hc w1).mono fun e w2 h => ⟨h.1, K.call h.2⟩) ?_
          repeat' (first | (with_reducible refine q_nil ?_) | ((with_reducible refine is_q ?_); first | (refine q_off rfl ?_) | (refine q_p txs rfl rfl ?_) | (refine q_val rfl (fun w' K => evF_run (o := ⟨_, _, _, _, _, _⟩) flds rfl) ?_)))
          clear H
          intro w_ H
          repeat' (first | (with_reducible first | refine p_tn ?_ | refine wp_seq ?_ | refine w_reg ?_) | ((with_reducible refine g_on ?_); ((with_reducible refine g_mv ?_); refine l_p txs rfl rfl ?_)))
          (with_reducible refine is_l ?_); refine l_t txs rfl rfl (fun h3 => ?_) (fun h3 => ?_)
          · have hn : compareS (bl a) (bl b) = j := by rw [hV2, if_pos h3]
            repeat' (first | (with_reducible first | refine p_tn ?_ | refine p_tr ?_ | refine p_br ?_ | refine wp_seq ?_ | refine w_reg ?_) | (with_reducible (refine is_if ?_; (refine w_ift rfl ?_))) | (with_reducible first | refine wp_ret ?_ | refine l_nil ?_) | ((with_reducible refine g_on ?_); (first | ((with_reducible refine g_mv ?_); refine l_p txs rfl rfl ?_) | ((with_reducible refine g_as ?_); refine l_p txs rfl rfl ?_))))
            refine end1 rfl rfl ?_
            exact ⟨by rw [hn], H.B⟩
          · repeat' (first | (with_reducible first | refine p_tn ?_ | refine p_bn ?_ | refine w_reg ?_) | (with_reducible (refine is_if ?_; (refine w_iff rfl ?_))) | (with_reducible first | refine wp_skip ?_ | refine l_nil ?_) | ((with_reducible refine g_on ?_); (first | ((with_reducible refine g_mv ?_); refine l_p txs rfl rfl ?_) | ((with_reducible refine g_as ?_); refine l_p txs rfl rfl ?_) | ((with_reducible refine g_bi ?_); (refine l_a txs rfl rfl (by first | exact in_i64 (by omega) (by omega) | exact in_u8 (by omega) (by omega) | exact in_u64 (by omega) (by omega) | exact in_i32 (by omega) (by omega)) ?_)))))
            exact ⟨_ + 1, _, rfl, ⟨rfl, rfl, rfl, trivial⟩, ⟨H, by omega, by rw [hV2, if_neg h3]; rfl⟩, by omega⟩
        · have hV2 : compareS (bl a) (bl b) = if cmpN v.b u.b ≠ 0 then cmpN v.b u.b else lexN [v.c] [u.c] (Mb.cmpP v.words u.words) := hV
          have hc := hc2
          generalize cmpN v.b u.b = j at hc hV2
          repeat' (first | (with_reducible first | refine p_tn ?_ | refine wp_seq ?_ | refine wp_block ?_) | (with_reducible (refine is_if ?_; (refine w_ift rfl ?_))) | (with_reducible first | refine wp_skip ?_ | refine l_nil ?_))
          refine w_draw (C := fun w' => Hp w w' [eP gU (strOfNums u.a) (strOfNums u.b) (strOfNums u.c) A2 u.words.length c2 u.odd, eP gV (strOfNums v.a) (strOfNums v.b) (strOfNums v.c) A1 v.words.length c1 v.odd] [rowT (.slice A2 u.words.length c2) u.words, rowT (.slice A1 v.words.length c1) v.words]) (by kernel_rfl) (by kernel_rfl) H.drew ?_
          repeat' (first | (with_reducible refine q_nil ?_) | ((with_reducible refine is_q ?_); first | (refine q_off rfl ?_) | (refine q_p txs rfl rfl ?_) | (refine q_val rfl (fun w' K => evF_run (o := ⟨_, _, _, _, _, _⟩) flds rfl) ?_)))
          refine q_val rfl (fun w' K => evIaa_run (o := ⟨_, _, _, _, _, _⟩) Tryz.underlying87 info_str1 rfl rfl rfl (by omega) (by omega)) ?_
          refine q_ld txs rfl rfl (fun w' K => K.cellAt 1 rfl rfl) ?_
          repeat' (first | (with_reducible refine q_nil ?_) | ((with_reducible refine is_q ?_); first | (refine q_off rfl ?_) | (refine q_p txs rfl rfl ?_) | (refine q_val rfl (fun w' K => evF_run (o := ⟨_, _, _, _, _, _⟩) flds rfl) ?_)))
          refine q_val rfl (fun w' K => evIaa_run (o := ⟨_, _, _, _, _, _⟩) Tryz.underlying87 info_str1 rfl rfl rfl (by omega) (by omega)) ?_
          refine q_ld txs rfl rfl (fun w' K => K.cellAt 0 rfl rfl) ?_
          refine q_call rfl rfl (by kernel_rfl) (fun w1 K => (hc w1).mono fun e w2 h => ⟨h.1, K.call h.2⟩) ?_
          repeat' (first | (with_reducible refine q_nil ?_) | ((with_reducible refine is_q ?_); first | (refine q_off rfl ?_) | (refine q_p txs rfl rfl ?_) | (refine q_val rfl (fun w' K => evF_run (o := ⟨_, _, _, _, _, _⟩) flds rfl) ?_)))
          clear H
          intro w_ H
          repeat' (first | (with_reducible first | refine p_tn ?_ | refine wp_seq ?_ | refine w_reg ?_) | ((with_reducible refine g_on ?_); ((with_reducible refine g_mv ?_); refine l_p txs rfl rfl ?_)))
          (with_reducible refine is_l ?_); refine l_t txs rfl rfl (fun h3 => ?_) (fun h3 => ?_)
          · have hn : compareS (bl a) (bl b) = j := by rw [hV2, if_pos h3]
            repeat' (first | (with_reducible first | refine p_tn ?_ | refine p_tr ?_ | refine p_br ?_ | refine wp_seq ?_ | refine w_reg ?_) | (with_reducible (refine is_if ?_; (refine w_ift rfl ?_))) | (with_reducible first | refine wp_ret ?_ | refine l_nil ?_) | ((with_reducible refine g_on ?_); (first | ((with_reducible refine g_mv ?_); refine l_p txs rfl rfl ?_) | ((with_reducible refine g_as ?_); refine l_p txs rfl rfl ?_))))
            refine end1 rfl rfl ?_
            exact ⟨by rw [hn], H.B⟩
          · repeat' (first | (with_reducible first | refine p_tn ?_ | refine p_bn ?_ | refine w_reg ?_) | (with_reducible (refine is_if ?_; (refine w_iff rfl ?_))) | (with_reducible first | refine wp_skip ?_ | refine l_nil ?_) | ((with_reducible refine g_on ?_); (first | ((with_reducible refine g_mv ?_); refine l_p txs rfl rfl ?_) | ((with_reducible refine g_as ?_); refine l_p txs rfl rfl ?_) | ((with_reducible refine g_bi ?_); (refine l_a txs rfl rfl (by first | exact in_i64 (by omega) (by omega) | exact in_u8 (by omega) (by omega) | exact in_u64 (by omega) (by omega) | exact in_i32 (by omega) (by omega)) ?_)))))
            exact ⟨_ + 1, _, rfl, ⟨rfl, rfl, rfl, trivial⟩, ⟨H, by omega, by rw [hV2, if_neg h3]; rfl⟩, by omega⟩
        · have hV2 : compareS (bl a) (bl b) = if cmpN v.c u.c ≠ 0 then cmpN v.c u.c else lexN [] [] (Mb.cmpP v.words u.words) := hV
          have hc := hc3
          generalize cmpN v.c u.c = j at hc hV2
          repeat' (first | (with_reducible first | refine p_tn ?_ | refine wp_seq ?_ | refine wp_block ?_) | (with_reducible (refine is_if ?_; (refine w_ift rfl ?_))) | (with_reducible first | refine wp_skip ?_ | refine l_nil ?_))
          refine w_draw (C := fun w' => Hp w w' [eP gU (strOfNums u.a) (strOfNums u.b) (strOfNums u.c) A2 u.words.length c2 u.odd, eP gV (strOfNums v.a) (strOfNums v.b) (strOfNums v.c) A1 v.words.length c1 v.odd] [rowT (.slice A2 u.words.length c2) u.words, rowT (.slice A1 v.words.length c1) v.words]) (by kernel_rfl) (by kernel_rfl) H.drew ?_
          repeat' (first | (with_reducible refine q_nil ?_) | ((with_reducible refine is_q ?_); first | (refine q_off rfl ?_) | (refine q_p txs rfl rfl ?_) | (refine q_val rfl (fun w' K => evF_run (o := ⟨_, _, _, _, _, _⟩) flds rfl) ?_)))
          refine q_val rfl (fun w' K => evIaa_run (o := ⟨_, _, _, _, _, _⟩) Tryz.underlying87 info_str1 rfl rfl rfl (by omega) (by omega)) ?_
          refine q_ld txs rfl rfl (fun w' K => K.cellAt 1 rfl rfl) ?_
          repeat' (first | (with_reducible refine q_nil ?_) | ((with_reducible refine is_q ?_); first | (refine q_off rfl ?_) | (refine q_p txs rfl rfl ?_) | (refine q_val rfl (fun w' K => evF_run (o := ⟨_, _, _, _, _, _⟩) flds rfl) ?_)))
          refine q_val rfl (fun w' K => evIaa_run (o := ⟨_, _, _, _, _, _⟩) Tryz.underlying87 info_str1 rfl rfl rfl (by omega) (by omega)) ?_
          refine q_ld txs rfl rfl (fun w' K => K.cellAt 0 rfl rfl) ?_
          refine q_call rfl rfl (by kernel_rfl) (fun w1 K => (hc w1).mono fun e w2 h => ⟨h.1, K.call h.2⟩) ?_
          repeat' (first | (with_reducible refine q_nil ?_) | ((with_reducible refine is_q ?_); first | (refine q_off rfl ?_) | (refine q_p txs rfl rfl ?_) | (refine q_val rfl (fun w' K => evF_run (o := ⟨_, _, _, _, _, _⟩) flds rfl) ?_)))
          clear H
          intro w_ H
          repeat' (first | (with_reducible first | refine p_tn ?_ | refine wp_seq ?_ | refine w_reg ?_) | ((with_reducible refine g_on ?_); ((with_reducible refine g_mv ?_); refine l_p txs rfl rfl ?_)))
          (with_reducible refine is_l ?_); refine l_t txs rfl rfl (fun h3 => ?_) (fun h3 => ?_)
          · have hn : compareS (bl a) (bl b) = j := by rw [hV2, if_pos h3]
            repeat' (first | (with_reducible first | refine p_tn ?_ | refine p_tr ?_ | refine p_br ?_ | refine wp_seq ?_ | refine w_reg ?_) | (with_reducible (refine is_if ?_; (refine w_ift rfl ?_))) | (with_reducible first | refine wp_ret ?_ | refine l_nil ?_) | ((with_reducible refine g_on ?_); (first | ((with_reducible refine g_mv ?_); refine l_p txs rfl rfl ?_) | ((with_reducible refine g_as ?_); refine l_p txs rfl rfl ?_))))
            refine end1 rfl rfl ?_
            exact ⟨by rw [hn], H.B⟩
          · repeat' (first | (with_reducible first | refine p_tn ?_ | refine p_bn ?_ | refine w_reg ?_) | (with_reducible (refine is_if ?_; (refine w_iff rfl ?_))) | (with_reducible first | refine wp_skip ?_ | refine l_nil ?_) | ((with_reducible refine g_on ?_); (first | ((with_reducible refine g_mv ?_); refine l_p txs rfl rfl ?_) | ((with_reducible refine g_as ?_); refine l_p txs rfl rfl ?_) | ((with_reducible refine g_bi ?_); (refine l_a txs rfl rfl (by first | exact in_i64 (by omega) (by omega) | exact in_u8 (by omega) (by omega) | exact in_u64 (by omega) (by omega) | exact in_i32 (by omega) (by omega)) ?_)))))
            exact ⟨_ + 1, _, rfl, ⟨rfl, rfl, rfl, trivial⟩, ⟨H, by omega, by rw [hV2, if_neg h3]; rfl⟩, by omega⟩
      · obtain rfl : i = 3 := by omega
        have hn : compareS (bl a) (bl b) = Mb.cmpP v.words u.words := hV
        repeat' (first | (with_reducible first | refine p_tn ?_ | refine p_tx ?_ | refine x_hit ?_ | refine wp_seq ?_ | refine w_reg ?_) | (with_reducible (refine is_if ?_; (refine w_iff rfl ?_))) | (with_reducible first | refine wp_exit ?_ | refine l_nil ?_) | ((with_reducible refine g_on ?_); (first | ((with_reducible refine g_fa ?_); refine h_fa flds rfl rfl ?_) | ((with_reducible refine g_ld ?_); (first | (refine h_ld txs H 0 rfl rfl rfl rfl ?_) | (refine h_ld txs H 1 rfl rfl rfl rfl ?_))))))
        (with_reducible refine is_l ?_); refine l_callv rfl rfl (by kernel_rfl) (releases_c (words_at hp H 1 rfl) (words_at hq H 0 rfl) iv.len iu.len) (fun w_ K => ?_)
        have H := H.call K
        repeat' (first | (with_reducible first | refine p_tn ?_ | refine wp_ret ?_ | refine l_nil ?_) | ((with_reducible refine g_on ?_); ((with_reducible refine g_as ?_); refine l_p txs rfl rfl ?_)))
        refine end1 rfl rfl ?_
        exact ⟨by rw [hn], H.B⟩
end Go.Proofs.YtnimaenhijlcmaaGreatDoor.K.Ref
end
section
namespace Go.Proofs.YtnimaenhijlcmaaGreatDoor.K
open Go.RowKit Go.Proofs.YtnimaenhijlcmaaGreatDoor.Q Go.Proofs.YtnimaenhijlcmaaGreatDoor.Mb Go.Proofs.YtnimaenhijlcmaaGreatDoorW.PrintWords
set_option linter.unusedVariables false
set_option linter.unusedSimpArgs false
abbrev IsB (B b : Nat) (x : L) (w : World) : Prop := Lib.IsBuilderF 142 5 B b (nums .u8 x) w
structure Bd (w0 : World) (b g : Nat) (t : ByteArray) (p : Nat) (x : L) (w : World) : Prop where
  bel : Below w0.heap.size w0 w
  isb : IsB w0.heap.size b x w
  it : w.heap[g]? = some (.stringIter t p)
  ne : g ≠ b
  ge : w0.heap.size ≤ g
theorem nums_snoc (x : L) (c : Int) : nums .u8 (x ++ [c]) = nums .u8 x ++ [.int .u8 c] := by simp [nums]
section
variable {P : Program} {n : Nat} {f : Fr} {w w0 : World} {ops : Array Oper} {Q : Exit → Act → World → Prop} {rest : List Oper} {d : Option Nat} {tt : TypeId} {ps : String} {af : Array Edge} {gd : Option (Nat × Bool)}
end
end Go.Proofs.YtnimaenhijlcmaaGreatDoor.K
end
section
namespace Go.Proofs.YtnimaenhijlcmaaGreatDoor.K
open Go.RowKit Go.Proofs.YtnimaenhijlcmaaGreatDoor.Q Go.Proofs.YtnimaenhijlcmaaGreatDoor.Mb Go.Proofs.YtnimaenhijlcmaaGreatDoorW.PrintWords
set_option linter.unusedVariables false
set_option linter.unusedSimpArgs false
abbrev rowB (v : Value) (b : L) : RowD := ⟨v, 5, 1, b.length, nums .u8 b⟩
theorem rowB_rd {w0 w : World} {l : List Ent} {r : List RowD} (H : Hp w0 w l r) (k : Nat) {F : Option Addr} {f : Nat} {x : L} (hk : r[k]? = some (rowB (.slice F x.length f) x)) : ReadsInt w .u8 F x.length x ∧ x.length ≤ f ∧ (F = none → f = 0 ∧ x.length = 0) := by
  obtain ⟨A0, c0, he, hle, hr, hn⟩ := H.rd k hk
  cases he
  obtain ⟨A3, c3, e3, _, R3⟩ := own_reads_of_le (enc := Value.int .u8) (d := (0 : Int)) (xs := x) (H.row k _ hk)
  cases e3
  exact ⟨readsInt_of.2 R3, hle, hn⟩
theorem h_mk0 {P : Program} {n : Nat} {f : Fr} {w w0 : World} {ops : Array Oper} {Q : Exit → Act → World → Prop} {rest : List Oper} {d : Option Nat} {tt : TypeId} {ps : String} {af : Array Edge} {gd : Option (Nat × Bool)} {l : List Ent} {r : List RowD} (H : Hp w0 w l r) {t e : TypeId} {x y : Operand} {z : Value} {by_ : Nat} {c : Nat} {c' : Int} (hinfo : (P.info? e).map (fun i => (i.zero, i.size, i.bytes)) = some (some z, 1, by_)) (hu : P.underlying t = some (.slice e))
    (hw : want n ops f ⟨d, .makeSlice t y x, tt, ps, af, gd⟩ = true) (hy : nf (X n f y) = some (.int .i64 0)) (hx : nf (X n f x) = some (.int .i64 c')) (hc : c' = (c : Int)) (hb : by_ * c ≤ 281474976710656) (hm : c ≤ maxLen)
    (h : ∀ g w', Hp w0 w' l (⟨.slice (some ⟨g, 0, none⟩) 0 c, e, 1, 0, []⟩ :: r) → WL P ops Q rest (act n (put f d (.slice (some ⟨g, 0, none⟩) 0 c))) w') : WL P ops Q (⟨d, .makeSlice t y x, tt, ps, af, gd⟩ :: rest) (act n f) w := by
  subst hc
  obtain ⟨i0, hi, hz⟩ := Option.map_eq_some_iff.1 hinfo
  simp only [Prod.mk.injEq] at hz
  obtain ⟨hz0, hz1, hz2⟩ := hz
  have hx' := nf_eq hx
  have hy' := nf_eq hy
  obtain ⟨w', hr, ho, hg⟩ := run_make_own (P := P) w w0.heap.size t e i0 z 1 hu hi hz0 hz1 .i64 .i64 c (by rw [hz2]; exact hb) hm H.B.size
  have H1 : Hp w0 w' l (⟨.slice (some ⟨w.heap.size, 0, none⟩) 0 c, e, 1, 0, []⟩ :: r) := (H.nilRow e 1).put 0 rfl hg ho (.inr ⟨_, rfl, Nat.le_refl _⟩)
  refine h_valw hw ?_ (h _ w' H1)
  unfold execOp
  simp [← hx', ← hy', hr]
theorem low_take {l : L} {i : Nat} {x : Int} (h : l[i]? = some x) : lowS (l.take (i + 1)) = lowS (l.take i) ++ [lowB x] := by
  have hi : i < l.length := (List.getElem?_eq_some_iff.1 h).1
  have hx : l[i] = x := (List.getElem?_eq_some_iff.1 h).2
  unfold lowS
  rw [List.take_succ_eq_append_getElem hi, hx, List.map_append]
  rfl
end Go.Proofs.YtnimaenhijlcmaaGreatDoor.K
end
section
namespace Go.Proofs.YtnimaenhijlcmaaGreatDoor.K
open Go.RowKit Go.Proofs.YtnimaenhijlcmaaGreatDoor.Q Go.Proofs.YtnimaenhijlcmaaGreatDoor.Mb Go.Proofs.YtnimaenhijlcmaaGreatDoorW.PrintWords
set_option linter.unusedVariables false
set_option linter.unusedSimpArgs false
theorem count_split (t : ByteArray) (c : UInt8) : Lib.countB t ⟨#[c]⟩ + 1 = (splitC (c.toNat : Int) (bl t)).length := by
  rw [← split_eq c _ t rfl, List.length_map, Lib.splitB_all ⟨#[c]⟩ (Nat.le_refl 1) _ _ _ rfl]
theorem split_one {c : Int} {v : L} : (splitC c v).length = 1 ↔ c ∉ v := by
  constructor
  · intro h hc
    cases hk : cutC c v with
    | none => exact cutC_none hk hc
    | some p =>
      obtain ⟨a, b⟩ := p
      obtain ⟨rfl, hn⟩ := cutC_some hk
      rw [splitC_cut _ hn, List.length_cons] at h
      have := List.length_pos_iff.2 (splitC_ne (c := c) b)
      omega
  · intro h; rw [splitC_none h]; rfl
theorem key_split (s : L) : (keyS s).isSome = decide ((splitC 64 s).length = 2) := by
  unfold keyS
  cases hk : cutC 64 s with
  | none =>
    rw [splitC_none (cutC_none hk)]; rfl
  | some p =>
    obtain ⟨a, b⟩ := p
    obtain ⟨rfl, hn⟩ := cutC_some hk
    rw [splitC_cut _ hn, List.length_cons]
    simp only
    by_cases hb : (64 : Int) ∈ b
    · rw [if_pos (by simpa using hb), decide_eq_false (fun h => (split_one.1 (by omega)) hb)]; rfl
    · rw [if_neg (by simpa using hb), decide_eq_true (by rw [split_one.2 hb])]; rfl
def parK (s : L) : ByteArray × ByteArray × Int := match keyS s with
  | none => (⟨#[]⟩, ⟨#[]⟩, 113)
  | some (p, v) => if checkS p v = 0 then (strOfNums p, strOfNums v, 0) else (⟨#[]⟩, ⟨#[]⟩, (checkS p v : Int))
set_option maxHeartbeats 4000000 in
theorem ParseKey_c {w : World} (hL : Lay w) (t : ByteArray) (ht : t.size ≤ 100000000) :
    Calls Tryz.prog 15 #[.string t] w fun e w' => e = .returned (.tuple #[.string (parK (bl t)).1, .string (parK (bl t)).2.1, .int .i64 (parK (bl t)).2.2]) ∧ Below w.heap.size w w' := by
  obtain ⟨mx, hM⟩ := hL.mxs
  have e64 : ((64 : UInt8).toNat : Int) = 64 := rfl
  refine enter (args := [.string t]) Tryz.func15 rfl Tryz.ntmps15 rfl ?_
  have H := Hp.nil w
  have hks := key_split (bl t)
  have hcs := count_split t 64
  rw [e64] at hcs
  repeat' (first | (with_reducible first | refine p_tn ?_ | refine wp_seq ?_ | refine w_reg ?_ | refine l_nil ?_) | ((with_reducible refine g_on ?_); (first | ((with_reducible refine g_mv ?_); refine l_p txs rfl rfl ?_) | ((with_reducible refine g_as ?_); refine l_p txs rfl rfl ?_))))
  (with_reducible refine is_l ?_); refine l_callp rfl rfl (by kernel_rfl) (Tryz.strings_Count_any t ⟨#[64]⟩ mx w (by omega) hM (by decide)) ?_
  skip
  generalize Lib.countB t ⟨#[64]⟩ = k at hcs ⊢
  (with_reducible refine is_l ?_); refine l_t txs rfl rfl (fun h1 => ?_) (fun h1 => ?_)
  · have hno : keyS (bl t) = none := by
      cases hk : keyS (bl t) with
      | none => rfl
      | some p => rw [hk] at hks; exact absurd (of_decide_eq_true hks.symm) (by omega)
    have hn : parK (bl t) = (⟨#[]⟩, ⟨#[]⟩, 113) := by unfold parK; rw [hno]
    repeat' (first | (with_reducible first | refine p_tn ?_ | refine p_tr ?_ | refine wp_seq ?_ | refine w_reg ?_) | (with_reducible (refine is_if ?_; (refine w_ift rfl ?_))) | (with_reducible first | refine wp_ret ?_ | refine l_nil ?_) | ((with_reducible refine g_on ?_); ((with_reducible refine g_as ?_); refine l_p txs rfl rfl ?_)))
    refine end3 rfl rfl rfl rfl ?_
    exact ⟨by rw [hn]; first | done | rfl, H.B⟩
  obtain ⟨⟨p, v⟩, hk⟩ : ∃ q, keyS (bl t) = some q := by
    cases hk : keyS (bl t) with
    | some p => exact ⟨p, rfl⟩
    | none => rw [hk] at hks; exact absurd (of_decide_eq_false hks.symm) (by omega)
  obtain ⟨hpv, hn1, hn2⟩ := keyS_some hk
  have hcut : cutC 64 (bl t) = some (p, v) := by rw [hpv, cutC_mk _ hn1]
  have bp : Bytes p := fun y hy => bl_bytes t y (by rw [hpv]; exact List.mem_append_left _ hy)
  have bv : Bytes v := fun y hy => bl_bytes t y (by rw [hpv]; exact List.mem_append_right _ (List.mem_cons_of_mem _ hy))
  repeat' (first | (with_reducible first | refine p_tn ?_ | refine wp_seq ?_ | refine w_reg ?_) | (with_reducible (refine is_if ?_; (refine w_iff rfl ?_))) | (with_reducible first | refine wp_skip ?_ | refine l_nil ?_) | ((with_reducible refine g_on ?_); ((with_reducible refine g_mv ?_); refine l_p txs rfl rfl ?_)))
  have hcu := cutb_c t 64 (by omega) w mx hM
  rw [e64] at hcu
  unfold aheadC behindC at hcu
  rw [hcut] at hcu
  (with_reducible refine is_l ?_); refine l_callv rfl rfl (by kernel_rfl) hcu (fun w_ K => ?_)
  have H := H.call K
  repeat' (first | (with_reducible first | refine p_tn ?_ | refine wp_seq ?_ | refine w_reg ?_ | refine l_nil ?_) | ((with_reducible refine g_on ?_); (first | ((with_reducible refine g_mv ?_); refine l_p txs rfl rfl ?_) | ((with_reducible refine g_as ?_); refine l_p txs rfl rfl ?_) | ((with_reducible refine g_ex ?_); refine l_p txs rfl rfl ?_))))
  have hch := check_c (hL.below H.B) (strOfNums p) (strOfNums v)
  rw [blS bp, blS bv] at hch
  have hK : parK (bl t) = if checkS p v = 0 then (strOfNums p, strOfNums v, 0) else (⟨#[]⟩, ⟨#[]⟩, (checkS p v : Int)) := by unfold parK; rw [hk]
  generalize checkS p v = j at hch hK
  (with_reducible refine is_l ?_); refine l_callv rfl rfl (by kernel_rfl) hch (fun w_ K => ?_)
  have H := H.call K
  repeat' (first | (with_reducible first | refine p_tn ?_ | refine wp_seq ?_ | refine w_reg ?_ | refine l_nil ?_) | ((with_reducible refine g_on ?_); (first | ((with_reducible refine g_mv ?_); refine l_p txs rfl rfl ?_) | ((with_reducible refine g_as ?_); refine l_p txs rfl rfl ?_))))
  (with_reducible refine is_l ?_); refine l_t txs rfl rfl (fun h2 => ?_) (fun h2 => ?_)
  · have hn : parK (bl t) = (⟨#[]⟩, ⟨#[]⟩, (j : Int)) := by rw [hK, if_neg (by omega)]
    repeat' (first | (with_reducible first | refine p_tn ?_ | refine p_tr ?_ | refine wp_seq ?_ | refine w_reg ?_) | (with_reducible (refine is_if ?_; (refine w_ift rfl ?_))) | (with_reducible first | refine wp_ret ?_ | refine l_nil ?_) | ((with_reducible refine g_on ?_); (first | ((with_reducible refine g_mv ?_); refine l_p txs rfl rfl ?_) | ((with_reducible refine g_as ?_); refine l_p txs rfl rfl ?_))))
    refine end3 rfl rfl rfl rfl ?_
    exact ⟨by rw [hn]; first | done | rfl, H.B⟩
  · have hn : parK (bl t) = (strOfNums p, strOfNums v, 0) := by rw [hK, if_pos (by omega)]
    repeat' (first | (with_reducible first | refine p_tn ?_ | refine wp_seq ?_ | refine w_reg ?_) | (with_reducible (refine is_if ?_; (refine w_iff rfl ?_))) | (with_reducible first | refine wp_skip ?_ | refine wp_ret ?_ | refine l_nil ?_) | ((with_reducible refine g_on ?_); (first | ((with_reducible refine g_mv ?_); refine l_p txs rfl rfl ?_) | ((with_reducible refine g_as ?_); refine l_p txs rfl rfl ?_))))
    refine end3 rfl rfl rfl rfl ?_
    exact ⟨by rw [hn]; first | done | rfl, H.B⟩
end Go.Proofs.YtnimaenhijlcmaaGreatDoor.K
end
section
namespace Go.Proofs.YtnimaenhijlcmaaGreatDoor.Mb
set_option linter.unusedVariables false
set_option linter.unusedSimpArgs false
def Byt (l : L) : Prop := ∀ x ∈ l, 0 ≤ x ∧ x ≤ 255
theorem Byt.nil : Byt [] := fun x h => by cases h
theorem Byt.mk {a : Int} {l : L} (h0 : 0 ≤ a) (h1 : a ≤ 255) (h : Byt l) : Byt (a :: l) := fun x hx => by
  rcases List.mem_cons.1 hx with rfl | hx
  · exact ⟨h0, h1⟩
  · exact h x hx
def lt (x : Int) : Int := if x < 26 then x + 65 else if x < 52 then x + 71 else if x < 62 then x - 4 else if x = 62 then 43 else 47
def val (c : Int) : Int := if 65 ≤ c ∧ c ≤ 90 then c - 65 else if 97 ≤ c ∧ c ≤ 122 then c - 97 + 26 else if 48 ≤ c ∧ c ≤ 57 then c - 48 + 52 else if c = 43 then 62 else if c = 47 then 63 else -1
def enc64 : L → L
  | [] => []
  | [a] => [lt (a / 4), lt (a % 4 * 16), 61, 61]
  | [a, b] => [lt (a / 4), lt (a % 4 * 16 + b / 16), lt (b % 16 * 4), 61]
  | a :: b :: c :: r => lt (a / 4) :: lt (a % 4 * 16 + b / 16) :: lt (b % 16 * 4 + c / 64) :: lt (c % 64) :: enc64 r
theorem lt_at {x : Int} (h0 : 0 ≤ x) (h1 : x < 64) : 0 ≤ lt x ∧ lt x ≤ 255 ∧ val (lt x) = x := by
  unfold lt val
  (repeat' split) <;> omega
theorem enc64_length : ∀ l : L, (enc64 l).length = (l.length + 2) / 3 * 4
  | [] => rfl
  | [_] => by simp [enc64]
  | [_, _] => by simp [enc64]
  | a :: b :: c :: r => by simp only [enc64, List.length_cons, enc64_length r]; omega
theorem enc64_bytes : ∀ {l : L}, Byt l → Byt (enc64 l)
  | [], _ => Byt.nil
  | [a], h => by
    have ha := h a (by simp)
    have h1 := lt_at (x := a / 4) (by omega) (by omega)
    have h2 := lt_at (x := a % 4 * 16) (by omega) (by omega)
    exact Byt.mk h1.1 h1.2.1 (Byt.mk h2.1 h2.2.1 (Byt.mk (by omega) (by omega) (Byt.mk (by omega) (by omega) Byt.nil)))
  | [a, b], h => by
    have ha := h a (by simp)
    have hb := h b (by simp)
    have h1 := lt_at (x := a / 4) (by omega) (by omega)
    have h2 := lt_at (x := a % 4 * 16 + b / 16) (by omega) (by omega)
    have h3 := lt_at (x := b % 16 * 4) (by omega) (by omega)
    exact Byt.mk h1.1 h1.2.1 (Byt.mk h2.1 h2.2.1 (Byt.mk h3.1 h3.2.1 (Byt.mk (by omega) (by omega) Byt.nil)))
  | a :: b :: c :: r, h => by
    have ha := h a (by simp)
    have hb := h b (by simp)
    have hc := h c (by simp)
    have h1 := lt_at (x := a / 4) (by omega) (by omega)
    have h2 := lt_at (x := a % 4 * 16 + b / 16) (by omega) (by omega)
    have h3 := lt_at (x := b % 16 * 4 + c / 64) (by omega) (by omega)
    have h4 := lt_at (x := c % 64) (by omega) (by omega)
    exact Byt.mk h1.1 h1.2.1 (Byt.mk h2.1 h2.2.1 (Byt.mk h3.1 h3.2.1 (Byt.mk h4.1 h4.2.1 (enc64_bytes (fun x hx => h x (by simp [hx]))))))
def pads (n : Nat) : L := if n % 3 = 1 then [61, 61] else if n % 3 = 2 then [61] else []
end Go.Proofs.YtnimaenhijlcmaaGreatDoor.Mb
end
section
namespace Go.Proofs.YtnimaenhijlcmaaGreatDoor.Mb
set_option linter.unusedVariables false
set_option linter.unusedSimpArgs false
def h1S : L := [104, 49, 58]
def modS : L := [47, 103, 111, 46, 109, 111, 100]
def sumS (h : L) : L := h1S ++ enc64 h
theorem sum_length {h : L} (hl : h.length = 32) : (sumS h).length = 47 := by
  unfold sumS h1S
  rw [List.length_append, enc64_length, hl]
  rfl
def line1 (p v a : L) : L := p ++ 32 :: (v ++ 32 :: sumS a)
def recS (p v a b : L) : L := line1 p v a ++ 10 :: (line1 p (v ++ modS) b ++ [10])
def wordsS (s : L) : Option (L × L × L) := match splitC 32 s with
  | [x, y, z] => if x = [] ∨ y = [] ∨ z = [] then none else some (x, y, z)
  | _ => none
inductive Rec : Type
  | no (e : Nat)
  | is (p v a b : L)
deriving DecidableEq
end Go.Proofs.YtnimaenhijlcmaaGreatDoor.Mb
end
section
namespace Go.Proofs.YtnimaenhijlcmaaGreatDoor.K
open Go.RowKit Go.Proofs.YtnimaenhijlcmaaGreatDoor.Q Go.Proofs.YtnimaenhijlcmaaGreatDoor.Mb Go.Proofs.YtnimaenhijlcmaaGreatDoorW.PrintWords
set_option linter.unusedVariables false
set_option linter.unusedSimpArgs false
section
variable {P : Program} {n : Nat} {ops : Array Oper} {Q : Exit → Act → World → Prop} {rest : List Oper} {f : Fr} {w w0 : World} {d : Option Nat} {op : Op} {tt : TypeId} {ps : String} {af : Array Edge} {gd : Option (Nat × Bool)} {l l' : List Ent} {r : List RowD}
theorem bii_run {b : BinOp} {t t2 : TypeId} {x y : Operand} {k1 k2 : IntKind} {a c : Int} {z : Value} (hx : nf (X n f x) = some (.int k1 a)) (hy : nf (X n f y) = some (.int k2 c))
    (hr : (binOp b t (.int k1 a) (.int k2 c)).run P w = .ok z w) : (execOp (X n f) ⟨d, .binOp b t x y t2, tt, ps, af, gd⟩).run P w = .ok (.value z) w := by
  have hx' := nf_eq hx
  have hy' := nf_eq hy
  have hge : (eqGuard b t x y (.int k1 a) (.int k2 c)).run P w = .ok () w := by
    unfold eqGuard
    cases b <;> rfl
  unfold execOp
  simp [← hx', ← hy', hge, hr]
theorem l_bii {b : BinOp} {t t2 : TypeId} {x y : Operand} {k1 k2 : IntKind} {a c : Int} {z : Value} (hw : want n ops f ⟨d, .binOp b t x y t2, tt, ps, af, gd⟩ = true) (hx : nf (X n f x) = some (.int k1 a)) (hy : nf (X n f y) = some (.int k2 c))
    (hr : (binOp b t (.int k1 a) (.int k2 c)).run P w = .ok z w) (h : WL P ops Q rest (act n (put f d z)) w) : WL P ops Q (⟨d, .binOp b t x y t2, tt, ps, af, gd⟩ :: rest) (act n f) w :=
  l_val hw (bii_run hx hy hr) h
theorem q_bii {C : World → Prop} {K : Act → Prop} {b : BinOp} {t t2 : TypeId} {x y : Operand} {k1 k2 : IntKind} {a c : Int} {z : Value} (hw : want n ops f ⟨d, .binOp b t x y t2, tt, ps, af, gd⟩ = true) (hx : nf (X n f x) = some (.int k1 a)) (hy : nf (X n f y) = some (.int k2 c))
    (hr : ∀ w, (binOp b t (.int k1 a) (.int k2 c)).run P w = .ok z w) (h : WQ P ops C K rest (act n (put f d z))) : WQ P ops C K (⟨d, .binOp b t x y t2, tt, ps, af, gd⟩ :: rest) (act n f) :=
  q_val hw (fun w _ => bii_run hx hy (hr w)) h
end
section
variable (t : TypeId) (w : World)
theorem orI {x y z : Int} (i : Nat) (hi : i ≤ 62) (h0 : 0 ≤ x) (hx : x % 2 ^ i = 0) (h1 : x < 2 ^ 62) (h2 : 0 ≤ y) (h3 : y < 2 ^ i) (hz : z = x + y) : (binOp .or t (.int .i64 x) (.int .i64 y)).run Tryz.prog w = .ok (.int .i64 z) w := by
  have h : Go.bits .or .i64 x y = x + y := bits_join .i64 62 (by decide) (fun n h0 h1 => by rw [IntKind.wrap_i64]; omega) i x y h0 hx h1 h2 h3 (by
    have : (2 : Int) ^ i ≤ 2 ^ 62 := by exact_mod_cast Nat.pow_le_pow_right (by omega) hi
    omega)
  rw [binOp_or, hz, ← h]
  rfl
theorem andI (i : Nat) (hi : i ≤ 62) {x m z : Int} (hm : m = 2 ^ i - 1) (h0 : 0 ≤ x) (h1 : x < 2 ^ 62) (hz : z = x % 2 ^ i) : (binOp .and t (.int .i64 x) (.int .i64 m)).run Tryz.prog w = .ok (.int .i64 z) w := by
  have h : Go.bits .and .i64 x (2 ^ i - 1) = x % 2 ^ i := bits_mask .i64 62 (by decide) (fun n h0 h1 => by rw [IntKind.wrap_i64]; omega) i hi x h0 h1
  rw [binOp_and, hz, ← h, hm]
  rfl
theorem shlI {k : IntKind} (s : Nat) (hs : s ≤ 62) {x z : Int} (hz : z = x * 2 ^ s) (h0 : 0 ≤ z) (h1 : z < 2 ^ 62) : (binOp .shl t (.int .i64 x) (.int k (s : Int))).run Tryz.prog w = .ok (.int .i64 z) w := by
  have h2 : IntKind.i64.wrap z = z := by rw [IntKind.wrap_i64]; omega
  have h3 : ¬ ((s : Int) < 0) := by omega
  have h4 : min s IntKind.i64.bits = s := Nat.min_eq_left (by show s ≤ 64; omega)
  rw [binOp_shl]
  simp only [Op.shift]
  rw [if_neg h3, Int.toNat_natCast, h4, ← hz, h2]
  rfl
theorem shrI {k : IntKind} (s : Nat) (hs : s ≤ 62) {x z : Int} (h0 : 0 ≤ x) (hz : z = x / 2 ^ s) : (binOp .shr t (.int .i64 x) (.int k (s : Int))).run Tryz.prog w = .ok (.int .i64 z) w := by
  have h3 : ¬ ((s : Int) < 0) := by omega
  have h4 : min s IntKind.i64.bits = s := Nat.min_eq_left (by show s ≤ 64; omega)
  rw [binOp_shr]
  simp only [Op.shift]
  rw [if_neg h3, Int.toNat_natCast, h4, Int.fdiv_eq_ediv_of_nonneg _ (by exact_mod_cast Nat.zero_le _), ← hz]
  rfl
theorem quoI (k m : Nat) (hk : k ≤ 1000000000) (hm : 0 < m) : (binOp .quo 3 (.int .i64 (k : Int)) (.int .i64 (m : Int))).run Tryz.prog w = .ok (.int .i64 ((k / m : Nat) : Int)) w := by
  rw [binOp_quo]
  have hle : k / m ≤ k := Nat.div_le_self _ _
  have h1 : (k : Int).tdiv (m : Int) = ((k / m : Nat) : Int) := by rw [Int.tdiv_eq_ediv_of_nonneg (by omega)]; rfl
  generalize k / m = q at hle h1 ⊢
  have h2 : IntKind.i64.wrap (q : Int) = (q : Int) := by rw [IntKind.wrap_i64]; omega
  have h3 : ¬ m = 0 := by omega
  simp [Op.intDiv, h1, h2, h3]
theorem quoZ {a z : Int} (m : Nat) (h0 : 0 ≤ a) (ha : a ≤ 1000000000) (hm : 0 < m) (hz : z = a / m) : (binOp .quo 3 (.int .i64 a) (.int .i64 (m : Int))).run Tryz.prog w = .ok (.int .i64 z) w := by
  obtain ⟨k, rfl⟩ := Int.eq_ofNat_of_zero_le h0
  rw [quoI w k m (by omega) hm, hz]
  rfl
end
abbrev letB : ByteArray := ⟨#[65, 66, 67, 68, 69, 70, 71, 72, 73, 74, 75, 76, 77, 78, 79, 80, 81, 82, 83, 84, 85, 86, 87, 88, 89, 90, 97, 98, 99, 100, 101, 102, 103, 104, 105, 106, 107, 108, 109, 110, 111, 112, 113, 114, 115, 116, 117, 118, 119, 120, 121, 122, 48, 49, 50, 51, 52, 53, 54, 55, 56, 57, 43, 47]⟩
theorem let_all : ∀ i : Fin 64, at_ (bl letB) (i.val : Int) = lt (i.val : Int) := by decide +kernel
theorem let_at {x : Int} (h0 : 0 ≤ x) (h1 : x < 64) : at_ (bl letB) x = lt x := by
  obtain ⟨n, rfl⟩ := Int.eq_ofNat_of_zero_le h0
  exact let_all ⟨n, by omega⟩
section
variable {P : Program} {ty : Nat → Option Ty} {n : Nat} {f : Fr} {w : World} {d : Option Nat} {tt : TypeId} {ps : String} {af : Array Edge} {gd : Option (Nat × Bool)}
theorem let_run (hty : Tys P ty) {t : TypeId} {y : Operand} {x : Int} (he : evI n f ty (.index t (.const (.string letB)) y) = some (letB, x)) (h0 : 0 ≤ x) (h1 : x < 64) : (execOp (X n f) ⟨d, .index t (.const (.string letB)) y, tt, ps, af, gd⟩).run P w = .ok (.value (.int .u8 (lt x))) w := by
  have := evI_run (P := P) (w := w) (o := ⟨d, .index t (.const (.string letB)) y, tt, ps, af, gd⟩) hty he h0 h1
  rw [let_at h0 h1] at this
  exact this
end
end Go.Proofs.YtnimaenhijlcmaaGreatDoor.K
end
section
namespace Go.Proofs.YtnimaenhijlcmaaGreatDoor.K
open Go.RowKit Go.Proofs.YtnimaenhijlcmaaGreatDoor.Q Go.Proofs.YtnimaenhijlcmaaGreatDoor.Mb Go.Proofs.YtnimaenhijlcmaaGreatDoorW.PrintWords
set_option linter.unusedVariables false
set_option linter.unusedSimpArgs false
theorem fill4 (a b c d : Int) : Instr.fill (fun i => some (i * 1, 1)) ((Array.range (4 * 1)).map ((Value.int .u8 0).cells[· % (Value.int .u8 0).cells.size]!)) [(0, .int .u8 a), (1, .int .u8 b), (2, .int .u8 c), (3, .int .u8 d)] = some (nums .u8 [a, b, c, d]).toArray := by kernel_rfl
theorem nums_app (x y : L) : nums .u8 (x ++ y) = nums .u8 x ++ nums .u8 y := by simp [nums]
set_option maxRecDepth 100000 in
set_option maxHeartbeats 8000000 in
theorem enc_c {w : World} {g j c : Nat} (x : L) (hb : Bytes x) (hl : x.length ≤ 1000) (hc : x.length ≤ c) (hR : ∀ i v, (nums .u8 x)[i]? = some v → w.cell? ⟨g, j + i, none⟩ = some v) :
    Calls Tryz.prog 48 #[.slice (some ⟨g, j, none⟩) x.length c] w fun e w' => e = .returned (.string (strOfNums (enc64 x))) ∧ Below w.heap.size w w' := by
  refine enter (args := [.slice (some ⟨g, j, none⟩) x.length c]) Tryz.func48 rfl Tryz.ntmps48 rfl ?_
  have H := Hp.nil w
  repeat' (first | (with_reducible first | refine p_tn ?_ | refine wp_seq ?_ | refine w_reg ?_ | refine l_nil ?_) | ((with_reducible refine g_on ?_); (first | ((with_reducible refine g_mv ?_); refine l_p txs rfl rfl ?_) | ((with_reducible refine g_as ?_); refine l_p txs rfl rfl ?_) | ((with_reducible refine g_cl ?_); refine l_p txs rfl rfl ?_) | ((with_reducible refine g_bi ?_); (refine l_a txs rfl rfl (by first | exact in_i64 (by omega) (by omega) | exact in_u8 (by omega) (by omega) | exact in_u64 (by omega) (by omega) | exact in_i32 (by omega) (by omega)) ?_)))))
  (with_reducible refine is_l ?_); refine l_bii rfl rfl rfl (quoZ _ 3 (by omega) (by omega) (by decide) rfl) ?_
  repeat' ((with_reducible refine g_on ?_); ((with_reducible refine g_bi ?_); (refine l_a txs rfl rfl (by first | exact in_i64 (by omega) (by omega) | exact in_u8 (by omega) (by omega) | exact in_u64 (by omega) (by omega) | exact in_i32 (by omega) (by omega)) ?_)))
  (with_reducible refine is_l ?_); refine h_mk0 (c := (x.length + 2) / 3 * 4) H info_u8 Tryz.underlying34 rfl rfl rfl (by omega) (by omega) (by simp only [maxLen]; omega) (fun gm w_ H => ?_)
  repeat' (first | (with_reducible first | refine p_tn ?_ | refine wp_seq ?_ | refine wp_block ?_ | refine l_nil ?_) | ((with_reducible refine g_on ?_); ((with_reducible refine g_as ?_); refine l_p txs rfl rfl ?_)))
  refine w_loop (σ := L × Nat × Nat × L × Option Addr × Nat) (S := fun s => [(0, .slice (some ⟨g, s.2.1, none⟩) s.1.length s.2.2.1), (3, .slice s.2.2.2.2.1 s.2.2.2.1.length s.2.2.2.2.2)])
    (J := fun s w' => Hp w w' [] [rowB (.slice s.2.2.2.2.1 s.2.2.2.1.length s.2.2.2.2.2) s.2.2.2.1] ∧ enc64 x = s.2.2.2.1 ++ enc64 s.1 ∧ (∀ i v, (nums .u8 s.1)[i]? = some v → w.cell? ⟨g, s.2.1 + i, none⟩ = some v) ∧ s.1.length ≤ s.2.2.1 ∧ Bytes s.1 ∧ s.2.2.2.1.length + 2 * s.1.length ≤ 2000) (μ := fun s => s.1.length) (x, j, c, [], some ⟨gm, 0, none⟩, (x.length + 2) / 3 * 4) ⟨rfl, rfl, trivial⟩ ⟨H, rfl, hR, hc, hb, by show 0 + 2 * x.length ≤ 2000; omega⟩ ?_
  clear H
  rintro ⟨r, jj, cc, acc, A2, c2⟩ f w_ ⟨H, hE, hC, hcc, hbr, hal⟩
  simp only at H hE hC hcc hbr hal ⊢
  repeat' (first | (with_reducible first | refine wp_seq ?_ | refine w_reg ?_) | ((with_reducible refine g_on ?_); (first | ((with_reducible refine g_mv ?_); refine l_p txs rfl rfl ?_) | ((with_reducible refine g_cl ?_); refine l_p txs rfl rfl ?_))))
  (with_reducible refine is_l ?_); refine l_t txs rfl rfl (fun h3 => ?_) (fun h3 => ?_)
  · obtain ⟨a, b, d, r', rfl⟩ : ∃ a b d r', r = a :: b :: d :: r' := by
      match r, h3 with
      | a :: b :: d :: r', _ => exact ⟨a, b, d, r', rfl⟩
      | [_, _], h => exact absurd h (by simp)
      | [_], h => exact absurd h (by simp)
      | [], h => exact absurd h (by simp)
    have c0 := hC 0 _ rfl
    have c1 := hC 1 _ rfl
    have c2' := hC 2 _ rfl
    have ha := hbr a (by simp)
    have hbb := hbr b (by simp)
    have hd := hbr d (by simp)
    repeat' (first | (with_reducible first | refine p_tn ?_ | refine wp_seq ?_ | refine wp_block ?_) | (with_reducible (refine is_if ?_; (refine w_ift rfl ?_))) | (with_reducible first | refine wp_skip ?_ | refine l_nil ?_))
    refine w_draw (C := fun w' => Hp w w' [] [rowB (.slice A2 acc.length c2) acc]) (by kernel_rfl) (by kernel_rfl) H.drew ?_
    repeat' (first | (with_reducible refine q_nil ?_) | ((with_reducible refine is_q ?_); first | (refine q_off rfl ?_) | (refine q_p txs rfl rfl ?_) | (refine q_a txs rfl rfl (by first | exact in_i64 (by omega) (by omega) | exact in_u8 (by omega) (by omega) | exact in_u64 (by omega) (by omega) | exact in_i32 (by omega) (by omega)) ?_)))
    refine q_ia txs rfl rfl (by omega) (by omega) ?_
    refine q_ld txs rfl rfl (fun w' K => K.old c0) ?_
    repeat' (first | (with_reducible refine q_nil ?_) | ((with_reducible refine is_q ?_); first | (refine q_off rfl ?_) | (refine q_p txs rfl rfl ?_) | (refine q_a txs rfl rfl (by first | exact in_i64 (by omega) (by omega) | exact in_u8 (by omega) (by omega) | exact in_u64 (by omega) (by omega) | exact in_i32 (by omega) (by omega)) ?_)))
    refine q_bii (z := .int .i64 (a * 65536)) rfl rfl rfl (fun w => shlI _ w 16 (by decide) rfl (by omega) (by omega)) ?_
    repeat' (first | (with_reducible refine q_nil ?_) | ((with_reducible refine is_q ?_); first | (refine q_off rfl ?_) | (refine q_p txs rfl rfl ?_) | (refine q_a txs rfl rfl (by first | exact in_i64 (by omega) (by omega) | exact in_u8 (by omega) (by omega) | exact in_u64 (by omega) (by omega) | exact in_i32 (by omega) (by omega)) ?_)))
    refine q_ia txs rfl rfl (by omega) (by omega) ?_
    refine q_ld txs rfl rfl (fun w' K => K.old c1) ?_
    repeat' (first | (with_reducible refine q_nil ?_) | ((with_reducible refine is_q ?_); first | (refine q_off rfl ?_) | (refine q_p txs rfl rfl ?_) | (refine q_a txs rfl rfl (by first | exact in_i64 (by omega) (by omega) | exact in_u8 (by omega) (by omega) | exact in_u64 (by omega) (by omega) | exact in_i32 (by omega) (by omega)) ?_)))
    refine q_bii (z := .int .i64 (b * 256)) rfl rfl rfl (fun w => shlI _ w 8 (by decide) rfl (by omega) (by omega)) ?_
    repeat' (first | (with_reducible refine q_nil ?_) | ((with_reducible refine is_q ?_); first | (refine q_off rfl ?_) | (refine q_p txs rfl rfl ?_) | (refine q_a txs rfl rfl (by first | exact in_i64 (by omega) (by omega) | exact in_u8 (by omega) (by omega) | exact in_u64 (by omega) (by omega) | exact in_i32 (by omega) (by omega)) ?_)))
    refine q_bii (z := .int .i64 (a * 65536 + b * 256)) rfl rfl rfl (fun w => orI _ w 16 (by decide) (by omega) (by omega) (by omega) (by omega) (by omega) rfl) ?_
    repeat' (first | (with_reducible refine q_nil ?_) | ((with_reducible refine is_q ?_); first | (refine q_off rfl ?_) | (refine q_p txs rfl rfl ?_) | (refine q_a txs rfl rfl (by first | exact in_i64 (by omega) (by omega) | exact in_u8 (by omega) (by omega) | exact in_u64 (by omega) (by omega) | exact in_i32 (by omega) (by omega)) ?_)))
    refine q_ia txs rfl rfl (by omega) (by omega) ?_
    refine q_ld txs rfl rfl (fun w' K => K.old c2') ?_
    repeat' (first | (with_reducible refine q_nil ?_) | ((with_reducible refine is_q ?_); first | (refine q_off rfl ?_) | (refine q_p txs rfl rfl ?_) | (refine q_a txs rfl rfl (by first | exact in_i64 (by omega) (by omega) | exact in_u8 (by omega) (by omega) | exact in_u64 (by omega) (by omega) | exact in_i32 (by omega) (by omega)) ?_)))
    refine q_bii (z := .int .i64 (a * 65536 + b * 256 + d)) rfl rfl rfl (fun w => orI _ w 8 (by decide) (by omega) (by omega) (by omega) (by omega) (by omega) rfl) ?_
    repeat' (first | (with_reducible refine q_nil ?_) | ((with_reducible refine is_q ?_); first | (refine q_off rfl ?_) | (refine q_p txs rfl rfl ?_) | (refine q_a txs rfl rfl (by first | exact in_i64 (by omega) (by omega) | exact in_u8 (by omega) (by omega) | exact in_u64 (by omega) (by omega) | exact in_i32 (by omega) (by omega)) ?_)))
    clear H
    intro w_ H
    repeat' (with_reducible first | refine p_tn ?_ | refine wp_seq ?_)
    generalize hN : a * 65536 + b * 256 + d = N
    have HS := H.pick [] [] (by decide) (by decide) rfl rfl
    refine d_start (fun w_ => HpS _ w w_ _ _) #[false, false, false, false, false, false, false, false, false, false, false, false, false, false, false, false, false, false] (by kernel_rfl) rfl rfl HS.drew ?_
    have H := H.drew
    have HS := HS.drew
    first | (refine d_pure (i := 0) #[true, false, false, false, false, false, false, false, false, false, false, false, false, false, false, false, false, false] rfl (by kernel_rfl) (fun _ _ _ h => h) rfl (fun w_ => evP_run (o := ⟨_, _, _, _, _, _⟩) txs rfl) ?_)
    first | (refine d_pure (i := 1) #[true, true, false, false, false, false, false, false, false, false, false, false, false, false, false, false, false, false] rfl (by kernel_rfl) (fun _ _ _ h => h) rfl (fun w_ => evP_run (o := ⟨_, _, _, _, _, _⟩) txs rfl) ?_)
    first | (refine d_pure (i := 2) #[true, true, true, false, false, false, false, false, false, false, false, false, false, false, false, false, false, false] rfl (by kernel_rfl) (fun _ _ _ h => h) rfl (fun w_ => bii_run rfl rfl (shrI _ w_ 18 (by decide) (by omega) (z := a / 4) (by omega))) ?_)
    first | (refine d_pure (i := 3) #[true, true, true, true, false, false, false, false, false, false, false, false, false, false, false, false, false, false] rfl (by kernel_rfl) (fun _ _ _ h => h) rfl (fun w_ => let_run txs rfl (by omega) (by omega)) ?_)
    first | (refine d_pure (i := 4) #[true, true, true, true, true, false, false, false, false, false, false, false, false, false, false, false, false, false] rfl (by kernel_rfl) (fun _ _ _ h => h) rfl (fun w_ => evP_run (o := ⟨_, _, _, _, _, _⟩) txs rfl) ?_)
    first | (refine d_pure (i := 5) #[true, true, true, true, true, true, false, false, false, false, false, false, false, false, false, false, false, false] rfl (by kernel_rfl) (fun _ _ _ h => h) rfl (fun w_ => bii_run rfl rfl (shrI _ w_ 12 (by decide) (by omega) (z := N / 4096) rfl)) ?_)
    first | (refine d_pure (i := 6) #[true, true, true, true, true, true, true, false, false, false, false, false, false, false, false, false, false, false] rfl (by kernel_rfl) (fun _ _ _ h => h) rfl (fun w_ => bii_run rfl rfl (andI _ w_ 6 (by decide) rfl (by omega) (by omega) (z := a % 4 * 16 + b / 16) (by omega))) ?_)
    first | (refine d_pure (i := 7) #[true, true, true, true, true, true, true, true, false, false, false, false, false, false, false, false, false, false] rfl (by kernel_rfl) (fun _ _ _ h => h) rfl (fun w_ => let_run txs rfl (by omega) (by omega)) ?_)
    first | (refine d_pure (i := 8) #[true, true, true, true, true, true, true, true, true, false, false, false, false, false, false, false, false, false] rfl (by kernel_rfl) (fun _ _ _ h => h) rfl (fun w_ => evP_run (o := ⟨_, _, _, _, _, _⟩) txs rfl) ?_)
    first | (refine d_pure (i := 9) #[true, true, true, true, true, true, true, true, true, true, false, false, false, false, false, false, false, false] rfl (by kernel_rfl) (fun _ _ _ h => h) rfl (fun w_ => bii_run rfl rfl (shrI _ w_ 6 (by decide) (by omega) (z := N / 64) rfl)) ?_)
    first | (refine d_pure (i := 10) #[true, true, true, true, true, true, true, true, true, true, true, false, false, false, false, false, false, false] rfl (by kernel_rfl) (fun _ _ _ h => h) rfl (fun w_ => bii_run rfl rfl (andI _ w_ 6 (by decide) rfl (by omega) (by omega) (z := b % 16 * 4 + d / 64) (by omega))) ?_)
    first | (refine d_pure (i := 11) #[true, true, true, true, true, true, true, true, true, true, true, true, false, false, false, false, false, false] rfl (by kernel_rfl) (fun _ _ _ h => h) rfl (fun w_ => let_run txs rfl (by omega) (by omega)) ?_)
    first | (refine d_pure (i := 12) #[true, true, true, true, true, true, true, true, true, true, true, true, true, false, false, false, false, false] rfl (by kernel_rfl) (fun _ _ _ h => h) rfl (fun w_ => evP_run (o := ⟨_, _, _, _, _, _⟩) txs rfl) ?_)
    first | (refine d_pure (i := 13) #[true, true, true, true, true, true, true, true, true, true, true, true, true, true, false, false, false, false] rfl (by kernel_rfl) (fun _ _ _ h => h) rfl (fun w_ => bii_run rfl rfl (andI _ w_ 6 (by decide) rfl (by omega) (by omega) (z := d % 64) (by omega))) ?_)
    first | (refine d_pure (i := 14) #[true, true, true, true, true, true, true, true, true, true, true, true, true, true, true, false, false, false] rfl (by kernel_rfl) (fun _ _ _ h => h) rfl (fun w_ => let_run txs rfl (by omega) (by omega)) ?_)
    refine d_one (i := 15) #[true, true, true, true, true, true, true, true, true, true, true, true, true, true, true, true, false, false] rfl (by kernel_rfl) rfl ?_
    refine h_bsn H info_u8 Tryz.underlying34 (by decide) (by decide) rfl (fill4 _ _ _ _) (fun g_ w_ H => ?_)
    refine l_nil ?_
    have HS := H.pick [] [] (by decide) (by decide) rfl rfl
    refine ⟨rfl, HS, ?_⟩
    refine d_one (i := 16) #[true, true, true, true, true, true, true, true, true, true, true, true, true, true, true, true, true, false] rfl (by kernel_rfl) rfl ?_
    (refine h_app H 0 rfl info_u8 Tryz.underlying34 rfl rfl rfl rfl (H.cellRd 0 rfl) rfl rfl (by show (acc.length + 4) * 1 ≤ _; omega) (fun v w_ hv H => ?_)); obtain ⟨A', c', rfl⟩ := hv
    refine l_nil ?_
    have HS := H.pick [] [] (by decide) (by decide) rfl rfl
    refine ⟨rfl, HS, ?_⟩
    first | (refine d_pure (i := 17) #[true, true, true, true, true, true, true, true, true, true, true, true, true, true, true, true, true, true] rfl (by kernel_rfl) (fun _ _ _ h => h) rfl (fun w_ => evP_run (o := ⟨_, _, _, _, _, _⟩) txs rfl) ?_)
    refine d_done rfl ?_
    have H := H.pick [] [0] (by decide) (by decide) rfl rfl
    repeat' (with_reducible first | refine p_tn ?_ | refine w_reg ?_)
    (with_reducible refine is_l ?_); refine l_p txs rfl rfl ?_
    (with_reducible refine is_l ?_); refine l_cutN txs 3 (r'.length + 3) rfl rfl (by omega) (by simp only [List.length_cons] at hcc; omega) ?_
    repeat' (first | (with_reducible first | refine p_tn ?_ | refine p_bn ?_ | refine l_nil ?_) | ((with_reducible refine g_on ?_); ((with_reducible refine g_as ?_); refine l_p txs rfl rfl ?_)))
    have hlen : (a :: b :: d :: r').length = r'.length + 3 := rfl
    obtain ⟨j2, hj2, hC2⟩ : ∃ j2, cutA (some ⟨g, jj, none⟩) cc 3 1 = some ⟨g, j2, none⟩ ∧ ∀ i v, (nums .u8 r')[i]? = some v → w.cell? ⟨g, j2 + i, none⟩ = some v := by
      by_cases hz : cc = 3
      · refine ⟨jj, by unfold cutA; rw [if_pos hz], fun i v hv => ?_⟩
        have : r' = [] := List.length_eq_zero_iff.1 (by omega)
        rw [this] at hv
        cases hv
      · refine ⟨jj + 3, by unfold cutA; rw [if_neg hz]; rfl, fun i v hv => ?_⟩
        have := hC (i + 3) v (by simpa [nums] using hv)
        rw [← this]
        congr 2
        omega
    refine ⟨(r', j2, cc - 3, acc ++ [lt (a / 4), lt (a % 4 * 16 + b / 16), lt (b % 16 * 4 + d / 64), lt (d % 64)], A', c'), _, rfl, ⟨?_, ?_, trivial⟩, ⟨?_, ?_, hC2, ?_, fun y hy => hbr y (by simp [hy]), ?_⟩, ?_⟩
    · show Value.slice (cutA (some ⟨g, jj, none⟩) cc 3 1) (r'.length + 3 - 3) (cc - 3) = Value.slice (some ⟨g, j2, none⟩) r'.length (cc - 3)
      rw [hj2]
      rfl
    · show Value.slice A' (acc.length + 4) c' = Value.slice A' (acc ++ [_, _, _, _]).length c'
      rw [List.length_append]
      rfl
    · show Hp w w_ [] [rowB (.slice A' (acc ++ [_, _, _, _]).length c') (acc ++ [_, _, _, _])]
      unfold rowB
      rw [List.length_append, nums_app]
      exact H
    · show enc64 x = (acc ++ [_, _, _, _]) ++ enc64 r'
      rw [hE, List.append_assoc]
      rfl
    · show r'.length ≤ cc - 3
      omega
    · show (acc ++ [_, _, _, _]).length + 2 * r'.length ≤ 2000
      rw [List.length_append]
      show acc.length + 4 + _ ≤ _
      omega
    · show r'.length < (a :: b :: d :: r').length
      omega
  · repeat' (first | (with_reducible first | refine p_tn ?_ | refine p_tx ?_ | refine x_hit ?_ | refine wp_seq ?_ | refine wp_block ?_ | refine w_reg ?_) | (with_reducible (refine is_if ?_; (refine w_iff rfl ?_))) | (with_reducible first | refine wp_exit ?_ | refine l_nil ?_) | ((with_reducible refine g_on ?_); (first | ((with_reducible refine g_mv ?_); refine l_p txs rfl rfl ?_) | ((with_reducible refine g_cl ?_); refine l_p txs rfl rfl ?_))))
    (with_reducible refine is_l ?_); refine l_t txs rfl rfl (fun h1 => ?_) (fun h1 => ?_)
    · obtain ⟨a, rfl⟩ : ∃ a, r = [a] := List.length_eq_one_iff.1 (by omega)
      have c0 := hC 0 _ rfl
      have ha := hbr a (by simp)
      repeat' (first | (with_reducible first | refine p_tn ?_ | refine wp_seq ?_ | refine w_reg ?_) | (with_reducible (refine is_if ?_; (refine w_ift rfl ?_))) | (with_reducible refine l_nil ?_) | ((with_reducible refine g_on ?_); (first | ((with_reducible refine g_mv ?_); refine l_p txs rfl rfl ?_) | ((with_reducible refine g_as ?_); refine l_p txs rfl rfl ?_) | ((with_reducible refine g_ia ?_); refine l_ia txs rfl rfl (by first | omega | assumption | decide) (by first | omega | assumption | decide) ?_))))
      (with_reducible refine is_l ?_); refine l_ld txs rfl rfl (H.old c0) ?_
      repeat' ((with_reducible refine g_on ?_); ((with_reducible refine g_cv ?_); (refine l_a txs rfl rfl (by first | exact in_i64 (by omega) (by omega) | exact in_u8 (by omega) (by omega) | exact in_u64 (by omega) (by omega) | exact in_i32 (by omega) (by omega)) ?_)))
      (with_reducible refine is_l ?_); refine l_bii (z := .int .i64 (a * 65536)) rfl rfl rfl (shlI _ _ 16 (by decide) (x := a) (z := a * 65536) rfl (by omega) (by omega)) ?_
      repeat' (first | (with_reducible first | refine p_tn ?_ | refine l_nil ?_) | ((with_reducible refine g_on ?_); ((with_reducible refine g_as ?_); refine l_p txs rfl rfl ?_)))
      generalize hN : a * 65536 = N
      have HS := H.pick [] [] (by decide) (by decide) rfl rfl
      refine d_start (fun w_ => HpS _ w w_ _ _) #[false, false, false, false, false, false, false, false, false, false, false] (by kernel_rfl) rfl rfl HS.drew ?_
      have H := H.drew
      have HS := HS.drew
      first | (refine d_pure (i := 0) #[true, false, false, false, false, false, false, false, false, false, false] rfl (by kernel_rfl) (fun _ _ _ h => h) rfl (fun w_ => evP_run (o := ⟨_, _, _, _, _, _⟩) txs rfl) ?_)
      first | (refine d_pure (i := 1) #[true, true, false, false, false, false, false, false, false, false, false] rfl (by kernel_rfl) (fun _ _ _ h => h) rfl (fun w_ => evP_run (o := ⟨_, _, _, _, _, _⟩) txs rfl) ?_)
      first | (refine d_pure (i := 2) #[true, true, true, false, false, false, false, false, false, false, false] rfl (by kernel_rfl) (fun _ _ _ h => h) rfl (fun w_ => bii_run rfl rfl (shrI _ w_ 18 (by decide) (by omega) (z := a / 4) (by omega))) ?_)
      first | (refine d_pure (i := 3) #[true, true, true, true, false, false, false, false, false, false, false] rfl (by kernel_rfl) (fun _ _ _ h => h) rfl (fun w_ => let_run txs rfl (by omega) (by omega)) ?_)
      first | (refine d_pure (i := 4) #[true, true, true, true, true, false, false, false, false, false, false] rfl (by kernel_rfl) (fun _ _ _ h => h) rfl (fun w_ => evP_run (o := ⟨_, _, _, _, _, _⟩) txs rfl) ?_)
      first | (refine d_pure (i := 5) #[true, true, true, true, true, true, false, false, false, false, false] rfl (by kernel_rfl) (fun _ _ _ h => h) rfl (fun w_ => bii_run rfl rfl (shrI _ w_ 12 (by decide) (by omega) (z := N / 4096) rfl)) ?_)
      first | (refine d_pure (i := 6) #[true, true, true, true, true, true, true, false, false, false, false] rfl (by kernel_rfl) (fun _ _ _ h => h) rfl (fun w_ => bii_run rfl rfl (andI _ w_ 6 (by decide) rfl (by omega) (by omega) (z := a % 4 * 16) (by omega))) ?_)
      first | (refine d_pure (i := 7) #[true, true, true, true, true, true, true, true, false, false, false] rfl (by kernel_rfl) (fun _ _ _ h => h) rfl (fun w_ => let_run txs rfl (by omega) (by omega)) ?_)
      refine d_one (i := 8) #[true, true, true, true, true, true, true, true, true, false, false] rfl (by kernel_rfl) rfl ?_
      refine h_bsn H info_u8 Tryz.underlying34 (by decide) (by decide) rfl (fill4 _ _ _ _) (fun g_ w_ H => ?_)
      refine l_nil ?_
      have HS := H.pick [] [] (by decide) (by decide) rfl rfl
      refine ⟨rfl, HS, ?_⟩
      refine d_one (i := 9) #[true, true, true, true, true, true, true, true, true, true, false] rfl (by kernel_rfl) rfl ?_
      (refine h_app H 0 rfl info_u8 Tryz.underlying34 rfl rfl rfl rfl (H.cellRd 0 rfl) rfl rfl (by show (acc.length + 4) * 1 ≤ _; omega) (fun v w_ hv H => ?_)); obtain ⟨A', c', rfl⟩ := hv
      refine l_nil ?_
      have HS := H.pick [] [] (by decide) (by decide) rfl rfl
      refine ⟨rfl, HS, ?_⟩
      first | (refine d_pure (i := 10) #[true, true, true, true, true, true, true, true, true, true, true] rfl (by kernel_rfl) (fun _ _ _ h => h) rfl (fun w_ => evP_run (o := ⟨_, _, _, _, _, _⟩) txs rfl) ?_)
      refine d_done rfl ?_
      have H := H.pick [] [0] (by decide) (by decide) rfl rfl
      have H : ∃ acc', enc64 x = acc' ∧ Hp w w_ [] [rowB (.slice A' acc'.length c') acc'] := by
        refine ⟨_, hE, ?_⟩
        unfold rowB
        rw [List.length_append, nums_app]
        exact H
      obtain ⟨acc', hE', H⟩ := H
      have hl4 : acc'.length = acc.length + 4 := by
        rw [← hE', hE, List.length_append]
        rfl
      have hsl : Value.slice A' (acc.length + 4) c' = Value.slice A' acc'.length c' := by rw [hl4]
      repeat' (with_reducible first | refine p_tn ?_ | refine p_bn ?_ | refine wp_seq ?_ | refine w_reg ?_)
      rw [show (rowB (.slice A2 acc.length c2) acc).n = acc.length from rfl, hsl]
      repeat' ((with_reducible refine g_on ?_); ((with_reducible refine g_mv ?_); refine l_p txs rfl rfl ?_))
      (with_reducible refine is_l ?_); refine l_text rfl rfl Tryz.underlying34 Tryz.underlying5 Tryz.underlying9 (rowB_rd H 0 (F := A') (f := c') (x := acc') rfl).1 ?_
      repeat' (first | (with_reducible first | refine p_tn ?_ | refine wp_ret ?_ | refine l_nil ?_) | ((with_reducible refine g_on ?_); ((with_reducible refine g_as ?_); refine l_p txs rfl rfl ?_)))
      refine end1 rfl rfl ?_
      exact ⟨by rw [hE'], H.B⟩
    · repeat' (first | (with_reducible first | refine p_tn ?_ | refine wp_seq ?_ | refine w_reg ?_) | (with_reducible (refine is_if ?_; (refine w_iff rfl ?_))) | (with_reducible refine l_nil ?_) | ((with_reducible refine g_on ?_); ((with_reducible refine g_as ?_); refine l_p txs rfl rfl ?_)))
      (with_reducible refine is_l ?_); refine l_t txs rfl rfl (fun h2 => ?_) (fun h2 => ?_)
      · obtain ⟨a, b, rfl⟩ : ∃ a b, r = [a, b] := by
          match r, h2 with
          | [a, b], _ => exact ⟨a, b, rfl⟩
          | [], h => exact absurd h (by simp)
          | [_], h => exact absurd h (by simp)
          | _ :: _ :: _ :: _, h => simp only [List.length_cons] at h; omega
        have c0 := hC 0 _ rfl
        have c1 := hC 1 _ rfl
        have ha := hbr a (by simp)
        have hbb := hbr b (by simp)
        repeat' (first | (with_reducible first | refine p_tn ?_ | refine wp_seq ?_) | (with_reducible (refine is_if ?_; (refine w_ift rfl ?_))) | (with_reducible refine l_nil ?_) | ((with_reducible refine g_on ?_); ((with_reducible refine g_as ?_); refine l_p txs rfl rfl ?_)))
        refine w_draw (C := fun w' => Hp w w' [] [rowB (.slice A2 acc.length c2) acc]) (by kernel_rfl) (by kernel_rfl) H.drew ?_
        repeat' (first | (with_reducible refine q_nil ?_) | ((with_reducible refine is_q ?_); first | (refine q_off rfl ?_) | (refine q_p txs rfl rfl ?_) | (refine q_a txs rfl rfl (by first | exact in_i64 (by omega) (by omega) | exact in_u8 (by omega) (by omega) | exact in_u64 (by omega) (by omega) | exact in_i32 (by omega) (by omega)) ?_)))
        refine q_ia txs rfl rfl (by omega) (by omega) ?_
        refine q_ld txs rfl rfl (fun w' K => K.old c0) ?_
        repeat' (first | (with_reducible refine q_nil ?_) | ((with_reducible refine is_q ?_); first | (refine q_off rfl ?_) | (refine q_p txs rfl rfl ?_) | (refine q_a txs rfl rfl (by first | exact in_i64 (by omega) (by omega) | exact in_u8 (by omega) (by omega) | exact in_u64 (by omega) (by omega) | exact in_i32 (by omega) (by omega)) ?_)))
        refine q_bii (z := .int .i64 (a * 65536)) rfl rfl rfl (fun w => shlI _ w 16 (by decide) rfl (by omega) (by omega)) ?_
        repeat' (first | (with_reducible refine q_nil ?_) | ((with_reducible refine is_q ?_); first | (refine q_off rfl ?_) | (refine q_p txs rfl rfl ?_) | (refine q_a txs rfl rfl (by first | exact in_i64 (by omega) (by omega) | exact in_u8 (by omega) (by omega) | exact in_u64 (by omega) (by omega) | exact in_i32 (by omega) (by omega)) ?_)))
        refine q_ia txs rfl rfl (by omega) (by omega) ?_
        refine q_ld txs rfl rfl (fun w' K => K.old c1) ?_
        repeat' (first | (with_reducible refine q_nil ?_) | ((with_reducible refine is_q ?_); first | (refine q_off rfl ?_) | (refine q_p txs rfl rfl ?_) | (refine q_a txs rfl rfl (by first | exact in_i64 (by omega) (by omega) | exact in_u8 (by omega) (by omega) | exact in_u64 (by omega) (by omega) | exact in_i32 (by omega) (by omega)) ?_)))
        refine q_bii (z := .int .i64 (b * 256)) rfl rfl rfl (fun w => shlI _ w 8 (by decide) rfl (by omega) (by omega)) ?_
        repeat' (first | (with_reducible refine q_nil ?_) | ((with_reducible refine is_q ?_); first | (refine q_off rfl ?_) | (refine q_p txs rfl rfl ?_) | (refine q_a txs rfl rfl (by first | exact in_i64 (by omega) (by omega) | exact in_u8 (by omega) (by omega) | exact in_u64 (by omega) (by omega) | exact in_i32 (by omega) (by omega)) ?_)))
        refine q_bii (z := .int .i64 (a * 65536 + b * 256)) rfl rfl rfl (fun w => orI _ w 16 (by decide) (by omega) (by omega) (by omega) (by omega) (by omega) rfl) ?_
        repeat' (first | (with_reducible refine q_nil ?_) | ((with_reducible refine is_q ?_); first | (refine q_off rfl ?_) | (refine q_p txs rfl rfl ?_) | (refine q_a txs rfl rfl (by first | exact in_i64 (by omega) (by omega) | exact in_u8 (by omega) (by omega) | exact in_u64 (by omega) (by omega) | exact in_i32 (by omega) (by omega)) ?_)))
        clear H
        intro w_ H
        repeat' (with_reducible refine p_tn ?_)
        generalize hN : a * 65536 + b * 256 = N
        have HS := H.pick [] [] (by decide) (by decide) rfl rfl
        refine d_start (fun w_ => HpS _ w w_ _ _) #[false, false, false, false, false, false, false, false, false, false, false, false, false, false, false] (by kernel_rfl) rfl rfl HS.drew ?_
        have H := H.drew
        have HS := HS.drew
        first | (refine d_pure (i := 0) #[true, false, false, false, false, false, false, false, false, false, false, false, false, false, false] rfl (by kernel_rfl) (fun _ _ _ h => h) rfl (fun w_ => evP_run (o := ⟨_, _, _, _, _, _⟩) txs rfl) ?_)
        first | (refine d_pure (i := 1) #[true, true, false, false, false, false, false, false, false, false, false, false, false, false, false] rfl (by kernel_rfl) (fun _ _ _ h => h) rfl (fun w_ => evP_run (o := ⟨_, _, _, _, _, _⟩) txs rfl) ?_)
        first | (refine d_pure (i := 2) #[true, true, true, false, false, false, false, false, false, false, false, false, false, false, false] rfl (by kernel_rfl) (fun _ _ _ h => h) rfl (fun w_ => bii_run rfl rfl (shrI _ w_ 18 (by decide) (by omega) (z := a / 4) (by omega))) ?_)
        first | (refine d_pure (i := 3) #[true, true, true, true, false, false, false, false, false, false, false, false, false, false, false] rfl (by kernel_rfl) (fun _ _ _ h => h) rfl (fun w_ => let_run txs rfl (by omega) (by omega)) ?_)
        first | (refine d_pure (i := 4) #[true, true, true, true, true, false, false, false, false, false, false, false, false, false, false] rfl (by kernel_rfl) (fun _ _ _ h => h) rfl (fun w_ => evP_run (o := ⟨_, _, _, _, _, _⟩) txs rfl) ?_)
        first | (refine d_pure (i := 5) #[true, true, true, true, true, true, false, false, false, false, false, false, false, false, false] rfl (by kernel_rfl) (fun _ _ _ h => h) rfl (fun w_ => bii_run rfl rfl (shrI _ w_ 12 (by decide) (by omega) (z := N / 4096) rfl)) ?_)
        first | (refine d_pure (i := 6) #[true, true, true, true, true, true, true, false, false, false, false, false, false, false, false] rfl (by kernel_rfl) (fun _ _ _ h => h) rfl (fun w_ => bii_run rfl rfl (andI _ w_ 6 (by decide) rfl (by omega) (by omega) (z := a % 4 * 16 + b / 16) (by omega))) ?_)
        first | (refine d_pure (i := 7) #[true, true, true, true, true, true, true, true, false, false, false, false, false, false, false] rfl (by kernel_rfl) (fun _ _ _ h => h) rfl (fun w_ => let_run txs rfl (by omega) (by omega)) ?_)
        first | (refine d_pure (i := 8) #[true, true, true, true, true, true, true, true, true, false, false, false, false, false, false] rfl (by kernel_rfl) (fun _ _ _ h => h) rfl (fun w_ => evP_run (o := ⟨_, _, _, _, _, _⟩) txs rfl) ?_)
        first | (refine d_pure (i := 9) #[true, true, true, true, true, true, true, true, true, true, false, false, false, false, false] rfl (by kernel_rfl) (fun _ _ _ h => h) rfl (fun w_ => bii_run rfl rfl (shrI _ w_ 6 (by decide) (by omega) (z := N / 64) rfl)) ?_)
        first | (refine d_pure (i := 10) #[true, true, true, true, true, true, true, true, true, true, true, false, false, false, false] rfl (by kernel_rfl) (fun _ _ _ h => h) rfl (fun w_ => bii_run rfl rfl (andI _ w_ 6 (by decide) rfl (by omega) (by omega) (z := b % 16 * 4) (by omega))) ?_)
        first | (refine d_pure (i := 11) #[true, true, true, true, true, true, true, true, true, true, true, true, false, false, false] rfl (by kernel_rfl) (fun _ _ _ h => h) rfl (fun w_ => let_run txs rfl (by omega) (by omega)) ?_)
        refine d_one (i := 12) #[true, true, true, true, true, true, true, true, true, true, true, true, true, false, false] rfl (by kernel_rfl) rfl ?_
        refine h_bsn H info_u8 Tryz.underlying34 (by decide) (by decide) rfl (fill4 _ _ _ _) (fun g_ w_ H => ?_)
        refine l_nil ?_
        have HS := H.pick [] [] (by decide) (by decide) rfl rfl
        refine ⟨rfl, HS, ?_⟩
        refine d_one (i := 13) #[true, true, true, true, true, true, true, true, true, true, true, true, true, true, false] rfl (by kernel_rfl) rfl ?_
        (refine h_app H 0 rfl info_u8 Tryz.underlying34 rfl rfl rfl rfl (H.cellRd 0 rfl) rfl rfl (by show (acc.length + 4) * 1 ≤ _; omega) (fun v w_ hv H => ?_)); obtain ⟨A', c', rfl⟩ := hv
        refine l_nil ?_
        have HS := H.pick [] [] (by decide) (by decide) rfl rfl
        refine ⟨rfl, HS, ?_⟩
        first | (refine d_pure (i := 14) #[true, true, true, true, true, true, true, true, true, true, true, true, true, true, true] rfl (by kernel_rfl) (fun _ _ _ h => h) rfl (fun w_ => evP_run (o := ⟨_, _, _, _, _, _⟩) txs rfl) ?_)
        refine d_done rfl ?_
        have H := H.pick [] [0] (by decide) (by decide) rfl rfl
        have H : ∃ acc', enc64 x = acc' ∧ Hp w w_ [] [rowB (.slice A' acc'.length c') acc'] := by
          refine ⟨_, hE, ?_⟩
          unfold rowB
          rw [List.length_append, nums_app]
          exact H
        obtain ⟨acc', hE', H⟩ := H
        have hl4 : acc'.length = acc.length + 4 := by
          rw [← hE', hE, List.length_append]
          rfl
        have hsl : Value.slice A' (acc.length + 4) c' = Value.slice A' acc'.length c' := by rw [hl4]
        repeat' (with_reducible first | refine p_tn ?_ | refine p_bn ?_ | refine wp_seq ?_ | refine w_reg ?_)
        rw [show (rowB (.slice A2 acc.length c2) acc).n = acc.length from rfl, hsl]
        repeat' ((with_reducible refine g_on ?_); ((with_reducible refine g_mv ?_); refine l_p txs rfl rfl ?_))
        (with_reducible refine is_l ?_); refine l_text rfl rfl Tryz.underlying34 Tryz.underlying5 Tryz.underlying9 (rowB_rd H 0 (F := A') (f := c') (x := acc') rfl).1 ?_
        repeat' (first | (with_reducible first | refine p_tn ?_ | refine wp_ret ?_ | refine l_nil ?_) | ((with_reducible refine g_on ?_); ((with_reducible refine g_as ?_); refine l_p txs rfl rfl ?_)))
        refine end1 rfl rfl ?_
        exact ⟨by rw [hE'], H.B⟩
      · obtain rfl : r = [] := List.length_eq_zero_iff.1 (by omega)
        repeat' (first | (with_reducible first | refine p_tn ?_ | refine p_bn ?_ | refine wp_seq ?_ | refine w_reg ?_) | (with_reducible (refine is_if ?_; (refine w_iff rfl ?_))) | (with_reducible first | refine wp_skip ?_ | refine l_nil ?_) | ((with_reducible refine g_on ?_); (first | ((with_reducible refine g_mv ?_); refine l_p txs rfl rfl ?_) | ((with_reducible refine g_as ?_); refine l_p txs rfl rfl ?_))))
        (with_reducible refine is_l ?_); refine l_text rfl rfl Tryz.underlying34 Tryz.underlying5 Tryz.underlying9 (rowB_rd H 0 (F := A2) (f := c2) (x := acc) rfl).1 ?_
        repeat' (first | (with_reducible first | refine p_tn ?_ | refine wp_ret ?_ | refine l_nil ?_) | ((with_reducible refine g_on ?_); ((with_reducible refine g_as ?_); refine l_p txs rfl rfl ?_)))
        refine end1 rfl rfl ?_
        exact ⟨by rw [hE]; simp [enc64], H.B⟩
end Go.Proofs.YtnimaenhijlcmaaGreatDoor.K
end
section
namespace Go.Proofs.YtnimaenhijlcmaaGreatDoor.Mb
set_option linter.unusedVariables false
set_option linter.unusedSimpArgs false
def digB1 (s : L) : Bool := s.all digB && !s.isEmpty
def elC (c : Int) : Bool := smlB c || capB c || digB c || decide (c = 45) || decide (c = 46) || decide (c = 95) || decide (c = 126)
def tildeB (p : L) : Bool := decide ((splitC 126 p).length < 2) || !digB1 ((splitC 126 p).getLastD [])
def relemB (s : L) : Bool := !s.isEmpty && decide (s.head? ≠ some 46) && decide (s.getLast? ≠ some 46) && s.all elC && !(devices.contains (lowS (aheadC 46 s))) && tildeB (aheadC 46 s)
theorem bare_app (p : L) : digBare p ++ digTail p = p := by
  unfold digBare digTail
  rw [← List.reverse_append, List.takeWhile_append_dropWhile, List.reverse_reverse]
theorem tail_dig (p : L) : (digTail p).all digB = true := by
  unfold digTail
  rw [List.all_reverse]
  exact List.all_takeWhile
theorem tail_of {x q : L} {c : Int} (hq : q.all digB = true) (hc : digB c = false) : digTail (x ++ c :: q) = q ∧ digBare (x ++ c :: q) = x ++ [c] := by
  have h : (x ++ c :: q).reverse = q.reverse ++ c :: x.reverse := by simp
  have hr : q.reverse.all digB = true := by rw [List.all_reverse]; exact hq
  unfold digTail digBare
  rw [h]
  constructor
  · rw [List.takeWhile_append_of_pos (fun a ha => List.all_eq_true.1 hr a ha), List.takeWhile_cons_of_neg (by rw [hc]; simp)]
    simp
  · rw [List.dropWhile_append_of_pos (fun a ha => List.all_eq_true.1 hr a ha), List.dropWhile_cons_of_neg (by rw [hc]; simp)]
    simp
theorem split_last {c : Int} : ∀ (p : L), 2 ≤ (splitC c p).length → ∃ x, p = x ++ c :: (splitC c p).getLastD [] := by
  intro p h
  have hj := join_split (c := c) p
  have key : ∀ (l : List L), 2 ≤ l.length → ∃ x, joinC c l = x ++ c :: l.getLastD [] := by
    intro l
    induction l with
    | nil => intro h; simp at h
    | cons a r ih =>
      intro h
      cases r with
      | nil => simp at h
      | cons b r =>
        cases r with
        | nil => exact ⟨a, rfl⟩
        | cons d r =>
          obtain ⟨x, hx⟩ := ih (by simp)
          refine ⟨a ++ c :: x, ?_⟩
          show a ++ c :: joinC c (b :: d :: r) = _
          rw [hx]
          simp
  obtain ⟨x, hx⟩ := key _ h
  exact ⟨x, by rw [hj] at hx; exact hx⟩
theorem last_no {c : Int} (p : L) : c ∉ (splitC c p).getLastD [] := by
  have hne := splitC_ne (c := c) p
  rw [List.getLastD_eq_getLast?, List.getLast?_eq_some_getLast hne]
  exact split_no p _ (List.getLast_mem hne)
theorem split_one' {c : Int} {p : L} (h : (splitC c p).length < 2) : c ∉ p := by
  have hne := splitC_ne (c := c) p
  have hj := join_split (c := c) p
  have hno := split_no (c := c) p
  generalize splitC c p = l at h hne hj hno
  match l, h, hne with
  | [a], _, _ =>
    have : a = p := hj
    rw [← this]
    exact hno a (by simp)
theorem last_of {c : Int} {x q : L} (hq : c ∉ q) : 2 ≤ (splitC c (x ++ c :: q)).length ∧ (splitC c (x ++ c :: q)).getLastD [] = q := by
  have hne := List.length_pos_iff.2 (splitC_ne (c := c) x)
  rw [splitC_app, splitC_none hq]
  exact ⟨by rw [List.length_append]; simp; omega, getLastD_app⟩
theorem tilde_eq (p : L) : tildeB p = (decide (digTail p = []) || decide ((digBare p).getLast? ≠ some 126)) := by
  unfold tildeB
  by_cases h : (splitC 126 p).length < 2
  · rw [decide_eq_true h]
    have hno := split_one' h
    have : (digBare p).getLast? ≠ some 126 := by
      intro e
      have hm : (126 : Int) ∈ digBare p := List.mem_of_getLast? e
      exact hno (by rw [← bare_app p]; exact List.mem_append_left _ hm)
    rw [decide_eq_true this]
    simp
  · rw [decide_eq_false h]
    obtain ⟨x, hx⟩ := split_last (c := 126) p (by omega)
    have hno := last_no (c := 126) p
    generalize (splitC 126 p).getLastD [] = q at hx hno
    simp only [Bool.false_or]
    by_cases hd : q.all digB = true
    · obtain ⟨t1, t2⟩ := tail_of (x := x) (c := 126) hd (by decide)
      rw [← hx] at t1 t2
      rw [t1, t2]
      unfold digB1
      rw [hd]
      cases q with
      | nil => simp
      | cons a r => simp
    · have hd' : q.all digB = false := by simpa using hd
      have e1 : digB1 q = false := by unfold digB1; rw [hd']; rfl
      rw [e1]
      have : (digBare p).getLast? ≠ some 126 := by
        intro e
        obtain ⟨y, hy⟩ : ∃ y, digBare p = y ++ [126] := by
          have hne : digBare p ≠ [] := fun h => by rw [h] at e; cases e
          refine ⟨(digBare p).dropLast, ?_⟩
          rw [List.getLast?_eq_some_getLast hne] at e
          injection e with e
          rw [← e, List.dropLast_concat_getLast hne]
        have hp : p = y ++ 126 :: digTail p := by
          have := bare_app p
          rw [hy] at this
          rw [List.append_assoc] at this
          exact this.symm
        have hnt : (126 : Int) ∉ digTail p := dig_not (tail_dig p) (by decide)
        have h1 := (last_of (c := 126) (x := y) hnt).2
        have h2 := (last_of (c := 126) (x := x) hno).2
        rw [← hp] at h1
        rw [← hx] at h2
        rw [h1] at h2
        rw [← h2, tail_dig] at hd'
        cases hd'
      rw [decide_eq_true this]
      simp
theorem relem_eq (s : L) : relemB s = (s.all elC && elemB s) := by
  unfold relemB elemB
  rw [tilde_eq]
  cases s.all elC <;> simp [Bool.and_assoc]
theorem elC_path {c : Int} (h : c ≠ 47) : elC c = pathB c := by
  unfold elC pathB
  cases smlB c <;> cases capB c <;> cases digB c <;> simp [h, Bool.or_assoc]
theorem relems_eq (p : L) : (splitC 47 p).all relemB = (p.all pathB && (splitC 47 p).all elemB) := by
  have h1 : (splitC 47 p).all relemB = ((splitC 47 p).all (fun e => e.all elC) && (splitC 47 p).all elemB) := by
    generalize splitC 47 p = l
    induction l with
    | nil => rfl
    | cons a r ih =>
      simp only [List.all_cons, ih, relem_eq]
      cases a.all elC <;> cases elemB a <;> simp
  have h2 : (splitC 47 p).all (fun e => e.all elC) = p.all pathB := by
    rw [Bool.eq_iff_iff]
    constructor
    · intro h
      refine List.all_eq_true.2 fun x hx => ?_
      rcases split_all p (fun q hq => List.all_eq_true.1 h q hq) x hx with rfl | h3
      · decide
      · by_cases h4 : x = 47
        · subst h4; decide
        · rw [← elC_path h4]; exact h3
    · intro h
      refine List.all_eq_true.2 fun q hq => List.all_eq_true.2 fun x hx => ?_
      have hne : x ≠ 47 := fun e => split_no p q hq (e ▸ hx)
      rw [elC_path hne]
      exact List.all_eq_true.1 h x ((show ∀ y ∈ q, y ∈ p from by
        have := join_split (c := 47) p
        intro y hy
        rw [← this]
        have key : ∀ (l : List L), q ∈ l → y ∈ joinC 47 l := by
          intro l
          induction l with
          | nil => intro h; cases h
          | cons a r ih =>
            intro h
            cases r with
            | nil =>
              rcases List.mem_cons.1 h with rfl | h
              · exact hy
              · cases h
            | cons b r =>
              show y ∈ a ++ 47 :: joinC 47 (b :: r)
              rcases List.mem_cons.1 h with rfl | h
              · exact List.mem_append_left _ hy
              · exact List.mem_append_right _ (List.mem_cons_of_mem _ (ih h))
        exact key _ hq) x hx)
  rw [h1, h2]
def hostedS (e : L) : L := if (splitC 46 ((endCut e unstable).getD e)).length < 2 ∨ ((splitC 46 ((endCut e unstable).getD e)).getLastD []).length < 2 ∨ ((splitC 46 ((endCut e unstable).getD e)).getLastD []).head? ≠ some 118 ∨ numB ((splitC 46 ((endCut e unstable).getD e)).getLastD []).tail = false then [] else ((splitC 46 ((endCut e unstable).getD e)).getLastD []).tail
def hokB (s : L) : Bool := decide ((digBare s).drop ((digBare s).length - 2) = [46, 118]) && numB (digTail s)
theorem hosted_eq (e : L) : hostedS e = if hokB ((endCut e unstable).getD e) then digTail ((endCut e unstable).getD e) else [] := by
  unfold hostedS
  generalize (endCut e unstable).getD e = s
  by_cases h : hokB s = true
  · rw [if_pos h]
    unfold hokB at h
    simp only [Bool.and_eq_true, decide_eq_true_eq] at h
    obtain ⟨h1, h2⟩ := h
    obtain ⟨hd, hne⟩ := numB_dig h2
    have hl : 2 ≤ (digBare s).length := by
      have := congrArg List.length h1
      rw [List.length_drop] at this
      simp at this
      omega
    have hs : s = (digBare s).take ((digBare s).length - 2) ++ 46 :: (118 :: digTail s) := by
      have e1 := List.take_append_drop ((digBare s).length - 2) (digBare s)
      rw [h1] at e1
      have e2 := bare_app s
      rw [← e1] at e2
      rw [List.append_assoc] at e2
      exact e2.symm
    have hno : (46 : Int) ∉ 118 :: digTail s := by
      simp only [List.mem_cons, not_or]
      exact ⟨by decide, dig_not hd (by decide)⟩
    obtain ⟨l1, l2⟩ := last_of (c := 46) (x := (digBare s).take ((digBare s).length - 2)) hno
    rw [← hs] at l1 l2
    rw [l2, if_neg]
    · rfl
    · rintro (h | h | h | h)
      · omega
      · have := List.length_pos_iff.2 hne
        simp at h
        omega
      · exact h rfl
      · rw [show (118 :: digTail s).tail = digTail s from rfl, h2] at h
        cases h
  · rw [if_neg h]
    split
    · rfl
    · rename_i hn
      exfalso
      have hn1 : ¬ (splitC 46 s).length < 2 := fun e => hn (.inl e)
      have hn2 : ¬ ((splitC 46 s).getLastD []).length < 2 := fun e => hn (.inr (.inl e))
      have hn3 : ((splitC 46 s).getLastD []).head? = some 118 := Classical.not_not.1 fun e => hn (.inr (.inr (.inl e)))
      have hn4 : numB ((splitC 46 s).getLastD []).tail = true := by
        cases hv : numB ((splitC 46 s).getLastD []).tail
        · exact absurd (.inr (.inr (.inr hv))) hn
        · rfl
      obtain ⟨x, hx⟩ := split_last (c := 46) s (by omega)
      generalize (splitC 46 s).getLastD [] = v at hn2 hn3 hn4 hx
      cases v with
      | nil => cases hn3
      | cons y d =>
        injection hn3 with hy
        subst hy
        have hd4 : numB d = true := hn4
        obtain ⟨t1, t2⟩ := tail_of (x := x ++ [46]) (c := 118) (q := d) (numB_dig hd4).1 (by decide)
        have hs : (x ++ [46]) ++ 118 :: d = s := by rw [hx]; simp
        rw [hs] at t1 t2
        apply h
        unfold hokB
        rw [t1, t2, hd4]
        simp
def tailedB (e : L) : Bool := decide (2 ≤ e.length) && decide (e.head? = some 118) && (e.tail.all fun c => digB c || decide (c = 46))
def refMajor (p : L) : L × Bool :=
  if 255 < p.length then ([], false) else if (splitC 47 p).all relemB = false then ([], false) else if hostB ((splitC 47 p).headD []) = false then ([], false)
  else if (splitC 47 p).headD [] = gopkg then (hostedS ((splitC 47 p).getLastD []), decide (hostedS ((splitC 47 p).getLastD []) ≠ []) && decide (1 < (splitC 47 p).length))
  else if (decide (1 < (splitC 47 p).length) && tailedB ((splitC 47 p).getLastD [])) = true then (((splitC 47 p).getLastD []).tail, numB ((splitC 47 p).getLastD []).tail && decide (((splitC 47 p).getLastD []).tail ≠ [48]) && decide (((splitC 47 p).getLastD []).tail ≠ [49]))
  else ([], true)
theorem hok_ne {s : L} (h : hokB s = true) : digTail s ≠ [] := by
  unfold hokB at h
  simp only [Bool.and_eq_true] at h
  exact (numB_dig h.2).2
theorem major_of (es : List L) (he : es ≠ []) : (es.headD [] = gopkg → majorE es = (digTail ((endCut (es.getLastD []) unstable).getD (es.getLastD [])), hokB ((endCut (es.getLastD []) unstable).getD (es.getLastD []))) ∧ (decide (hostedS (es.getLastD []) ≠ []) && decide (1 < es.length)) = hokB ((endCut (es.getLastD []) unstable).getD (es.getLastD []))) ∧
    (es.headD [] ≠ gopkg → majorE es = if (decide (1 < es.length) && tailedB (es.getLastD [])) = true then ((es.getLastD []).tail, numB (es.getLastD []).tail && decide ((es.getLastD []).tail ≠ [48]) && decide ((es.getLastD []).tail ≠ [49])) else ([], true)) := by
  refine ⟨fun hg => ⟨?_, ?_⟩, fun hg => ?_⟩
  · unfold majorE hokB
    simp only
    rw [if_pos hg]
  · rw [hosted_eq]
    by_cases hk : hokB ((endCut (es.getLastD []) unstable).getD (es.getLastD [])) = true
    · have hlen : 1 < es.length := by
        match es, he, hg, hk with
        | [a], _, hg, hk =>
          have hg : a = gopkg := hg
          subst hg
          exact absurd hk (by decide)
        | _ :: _ :: _, _, _, _ => simp
      rw [hk, if_pos rfl, decide_eq_true (hok_ne hk), decide_eq_true hlen]
      rfl
    · rw [if_neg hk, Bool.not_eq_true] at *
      rw [hk]
      simp
  · unfold majorE tailedB
    simp only
    rw [if_neg hg]
    have hlen := List.length_pos_iff.2 he
    by_cases h1 : es.length = 1
    · rw [if_pos (.inl h1), if_neg]
      rw [decide_eq_false (by omega)]
      simp
    by_cases h2 : (es.getLastD []).length < 2
    · rw [if_pos (.inr (.inl h2)), if_neg]
      rw [decide_eq_false (show ¬ 2 ≤ (es.getLastD []).length by omega)]
      simp
    by_cases h3 : (es.getLastD []).head? = some 118
    · cases h4 : (es.getLastD []).tail.all (fun c => digB c || decide (c = 46))
      · rw [if_pos (.inr (.inr (.inr rfl))), if_neg]
        simp
      · rw [if_neg, if_pos]
        · rw [decide_eq_true (show 1 < es.length by omega), decide_eq_true (show 2 ≤ (es.getLastD []).length by omega), decide_eq_true h3]
          rfl
        · rintro (h | h | h | h)
          · exact h1 h
          · exact h2 h
          · exact h h3
          · cases h
    · rw [if_pos (.inr (.inr (.inl h3))), if_neg]
      rw [decide_eq_false h3]
      simp
theorem refMajor_eq (p : L) : refMajor p = if pathS p then ((majorS p).1, true) else ((refMajor p).1, false) := by
  have hne := splitC_ne (c := 47) p
  obtain ⟨m1, m2⟩ := major_of (splitC 47 p) hne
  have hS : majorS p = majorE (splitC 47 p) := rfl
  have hrel := relems_eq p
  have key : (refMajor p).2 = pathS p ∧ (pathS p = true → (refMajor p).1 = (majorS p).1) := by
    by_cases he : p = []
    · subst he
      exact ⟨by decide +kernel, by decide +kernel⟩
    have hie : p.isEmpty = false := by simp [he]
    unfold refMajor pathS
    rw [hie]
    by_cases h1 : 255 < p.length
    · rw [if_pos h1, decide_eq_false (by omega)]
      simp
    rw [if_neg h1, decide_eq_true (show p.length ≤ 255 by omega)]
    cases hr : (splitC 47 p).all relemB
    · rw [if_pos rfl]
      rw [hr] at hrel
      simp only [Bool.not_false, Bool.true_and]
      rw [← hrel]
      simp
    · rw [if_neg (by simp)]
      rw [hr] at hrel
      simp only [Bool.not_false, Bool.true_and]
      rw [← hrel]
      cases hh : hostB ((splitC 47 p).headD [])
      · rw [if_pos rfl]
        simp
      · rw [if_neg (by simp)]
        simp only [Bool.true_and]
        by_cases hg : (splitC 47 p).headD [] = gopkg
        · obtain ⟨g1, g2⟩ := m1 hg
          rw [if_pos hg, hS, g1]
          refine ⟨g2, fun hk => ?_⟩
          have hk : hokB _ = true := hk
          show hostedS _ = _
          rw [hosted_eq, hk]
          rfl
        · rw [if_neg hg, hS, m2 hg]
          split
          · exact ⟨rfl, fun _ => rfl⟩
          · exact ⟨rfl, fun _ => rfl⟩
  obtain ⟨k1, k2⟩ := key
  cases hp : pathS p
  · rw [if_neg (by simp), ← hp, ← k1]
  · rw [if_pos rfl, ← k2 hp, ← hp, ← k1]
end Go.Proofs.YtnimaenhijlcmaaGreatDoor.Mb
end
section
namespace Go.Proofs.YtnimaenhijlcmaaGreatDoor.K.Ref
open Go.RowKit Go.Proofs.YtnimaenhijlcmaaGreatDoor.Q Go.Proofs.YtnimaenhijlcmaaGreatDoor.K Go.Proofs.YtnimaenhijlcmaaGreatDoor.Mb Go.Proofs.YtnimaenhijlcmaaGreatDoorW.PrintWords
set_option linter.unusedVariables false
set_option linter.unusedSimpArgs false
set_option maxHeartbeats 4000000 in
theorem below_c (s : ByteArray) (w : World) (hs : s.size ≤ 1000000000) : Calls Tryz.prog 146 #[.string s] w fun e w' => e = .returned (.string (strOfNums (lowS (bl s)))) ∧ Below w.heap.size w w' := by
  refine enter (args := [.string s]) Tryz.func146 rfl Tryz.ntmps146 rfl ?_
  have hbl := bl_length s
  have H := (Hp.nil w).nilRow 5 1
  repeat' (first | (with_reducible first | refine p_tn ?_ | refine wp_seq ?_ | refine wp_block ?_ | refine w_reg ?_ | refine l_nil ?_) | ((with_reducible refine g_on ?_); ((with_reducible refine g_as ?_); refine l_p txs rfl rfl ?_)))
  refine w_loop (σ := Nat × Option Addr × Nat) (S := fun s' => [(0, .string s), (3, .slice s'.2.1 (lowS ((bl s).take s'.1)).length s'.2.2), (4, .int .i64 (s'.1 : Int))])
    (J := fun s' w' => Hp w w' [] [rowB (.slice s'.2.1 (lowS ((bl s).take s'.1)).length s'.2.2) (lowS ((bl s).take s'.1))] ∧ s'.1 ≤ s.size) (μ := fun s' => s.size - s'.1) (0, none, 0) ⟨rfl, rfl, rfl, trivial⟩ ⟨H, by omega⟩ ?_
  rintro ⟨i, A2, c2⟩ f w_ ⟨H, hi⟩
  simp only at H hi ⊢
  repeat' (first | (with_reducible first | refine wp_seq ?_ | refine w_reg ?_) | ((with_reducible refine g_on ?_); (first | ((with_reducible refine g_mv ?_); refine l_p txs rfl rfl ?_) | ((with_reducible refine g_cl ?_); refine l_p txs rfl rfl ?_))))
  (with_reducible refine is_l ?_); refine l_t txs rfl rfl (fun hlt => ?_) (fun hge => ?_)
  · obtain ⟨x, hx⟩ : ∃ x, (bl s)[i]? = some x := ⟨_, List.getElem?_eq_getElem (by omega)⟩
    have hx2 := bl_bytes s x (List.mem_of_getElem? hx)
    have hlow := low_take hx
    have hl0 : (lowS ((bl s).take i)).length = i := by unfold lowS; rw [List.length_map, List.length_take]; omega
    have hl1 : (lowS ((bl s).take (i + 1))).length = (lowS ((bl s).take i)).length + 1 := by rw [hlow]; simp
    have hat := at_of hx
    repeat' (first | (with_reducible first | refine p_tn ?_ | refine wp_seq ?_ | refine wp_block ?_ | refine w_reg ?_) | (with_reducible (refine is_if ?_; (refine w_ift rfl ?_))) | (with_reducible first | refine wp_skip ?_ | refine l_nil ?_) | ((with_reducible refine g_on ?_); (first | ((with_reducible refine g_mv ?_); refine l_p txs rfl rfl ?_) | ((with_reducible refine g_as ?_); refine l_p txs rfl rfl ?_) | ((with_reducible refine g_ix ?_); refine l_ix txs rfl rfl (by first | omega | assumption | decide) (by first | omega | assumption | decide) ?_))))
    rw [hat]
    skip
    (with_reducible refine is_l ?_); refine l_callp rfl rfl (by kernel_rfl) (capital_c x _) ?_
    cases hc : capB x
    · have hxe : lowB x = x := by
        unfold capB at hc
        simp at hc
        exact if_neg (by omega)
      repeat' (first | (with_reducible first | refine p_tn ?_ | refine w_reg ?_) | (with_reducible (refine is_if ?_; (refine w_iff rfl ?_))) | (with_reducible first | refine wp_skip ?_ | refine l_nil ?_) | ((with_reducible refine g_on ?_); ((with_reducible refine g_mv ?_); refine l_p txs rfl rfl ?_)))
      (with_reducible refine is_l ?_); refine h_bs H info_u8 Tryz.underlying34 (by decide) (by decide) rfl rfl (by kernel_rfl) (fun g_ w_ H => ?_)
      (with_reducible refine is_l ?_); refine h_app H 0 rfl info_u8 Tryz.underlying34 rfl rfl rfl rfl (H.cellRd 0 rfl) rfl rfl (by show ((lowS ((bl s).take i)).length + 1) * 1 ≤ _; omega) (fun v w_ hv H => ?_)
      obtain ⟨A', c', rfl⟩ := hv
      have H := H.pick [] [0] (by decide) (by decide) rfl rfl
      repeat' (first | (with_reducible first | refine p_tn ?_ | refine p_bn ?_ | refine w_reg ?_ | refine l_nil ?_) | ((with_reducible refine g_on ?_); (first | ((with_reducible refine g_mv ?_); refine l_p txs rfl rfl ?_) | ((with_reducible refine g_as ?_); refine l_p txs rfl rfl ?_) | ((with_reducible refine g_bi ?_); (refine l_a txs rfl rfl (by first | exact in_i64 (by omega) (by omega) | exact in_u8 (by omega) (by omega) | exact in_u64 (by omega) (by omega) | exact in_i32 (by omega) (by omega)) ?_)))))
      refine ⟨(i + 1, A', c'), _, rfl, ⟨rfl, ?_, rfl, trivial⟩, ⟨?_, by show i + 1 ≤ _; omega⟩, by show _ - (i + 1) < _ - i; omega⟩
      · show Value.slice A' ((lowS ((bl s).take i)).length + 1) c' = Value.slice A' (lowS ((bl s).take (i + 1))).length c'
        rw [hl1]
      · show Hp w _ [] [rowB (.slice A' (lowS ((bl s).take (i + 1))).length c') (lowS ((bl s).take (i + 1)))]
        unfold rowB
        rw [hl1, hlow, hxe, nums_snoc]
        exact H
    · have hcr : 65 ≤ x ∧ x ≤ 90 := by
        unfold capB at hc
        simpa using hc
      have hxe : lowB x = x + 32 := if_pos ⟨by omega, by omega⟩
      repeat' (first | (with_reducible first | refine p_tn ?_ | refine w_reg ?_) | (with_reducible (refine is_if ?_; (refine w_ift rfl ?_))) | (with_reducible refine l_nil ?_) | ((with_reducible refine g_on ?_); (first | ((with_reducible refine g_mv ?_); refine l_p txs rfl rfl ?_) | ((with_reducible refine g_as ?_); refine l_p txs rfl rfl ?_) | ((with_reducible refine g_bi ?_); (refine l_a txs rfl rfl (by first | exact in_i64 (by omega) (by omega) | exact in_u8 (by omega) (by omega) | exact in_u64 (by omega) (by omega) | exact in_i32 (by omega) (by omega)) ?_)))))
      (with_reducible refine is_l ?_); refine h_bs H info_u8 Tryz.underlying34 (by decide) (by decide) rfl rfl (by kernel_rfl) (fun g_ w_ H => ?_)
      (with_reducible refine is_l ?_); refine h_app H 0 rfl info_u8 Tryz.underlying34 rfl rfl rfl rfl (H.cellRd 0 rfl) rfl rfl (by show ((lowS ((bl s).take i)).length + 1) * 1 ≤ _; omega) (fun v w_ hv H => ?_)
      obtain ⟨A', c', rfl⟩ := hv
      have H := H.pick [] [0] (by decide) (by decide) rfl rfl
      repeat' (first | (with_reducible first | refine p_tn ?_ | refine p_bn ?_ | refine w_reg ?_ | refine l_nil ?_) | ((with_reducible refine g_on ?_); (first | ((with_reducible refine g_mv ?_); refine l_p txs rfl rfl ?_) | ((with_reducible refine g_as ?_); refine l_p txs rfl rfl ?_) | ((with_reducible refine g_bi ?_); (refine l_a txs rfl rfl (by first | exact in_i64 (by omega) (by omega) | exact in_u8 (by omega) (by omega) | exact in_u64 (by omega) (by omega) | exact in_i32 (by omega) (by omega)) ?_)))))
      refine ⟨(i + 1, A', c'), _, rfl, ⟨rfl, ?_, rfl, trivial⟩, ⟨?_, by show i + 1 ≤ _; omega⟩, by show _ - (i + 1) < _ - i; omega⟩
      · show Value.slice A' ((lowS ((bl s).take i)).length + 1) c' = Value.slice A' (lowS ((bl s).take (i + 1))).length c'
        rw [hl1]
      · show Hp w _ [] [rowB (.slice A' (lowS ((bl s).take (i + 1))).length c') (lowS ((bl s).take (i + 1)))]
        unfold rowB
        rw [hl1, hlow, hxe, nums_snoc]
        exact H
  · have hall : (bl s).take i = bl s := List.take_of_length_le (by omega)
    simp only [hall] at H ⊢
    repeat' (first | (with_reducible first | refine p_tn ?_ | refine p_tx ?_ | refine x_hit ?_ | refine wp_seq ?_ | refine w_reg ?_) | (with_reducible (refine is_if ?_; (refine w_iff rfl ?_))) | (with_reducible first | refine wp_exit ?_ | refine l_nil ?_) | ((with_reducible refine g_on ?_); ((with_reducible refine g_mv ?_); refine l_p txs rfl rfl ?_)))
    (with_reducible refine is_l ?_); refine l_text rfl rfl Tryz.underlying34 Tryz.underlying5 Tryz.underlying9 (rowB_rd H 0 (F := A2) (f := c2) (x := lowS (bl s)) rfl).1 ?_
    repeat' (first | (with_reducible first | refine p_tn ?_ | refine wp_ret ?_ | refine l_nil ?_) | ((with_reducible refine g_on ?_); ((with_reducible refine g_as ?_); refine l_p txs rfl rfl ?_)))
    refine end1 rfl rfl ?_
    exact ⟨rfl, H.B⟩
theorem cell_of_heap {w : World} {g k : Nat} {cs : Array Value} {t : TypeId} {fr : Nat × Nat} {v : Value} (h : w.heap[g]? = some (.cells cs t fr)) (hc : cs[k]? = some v) : w.cell? ⟨g, k, none⟩ = some v := by
  simp [World.cell?, h, hc]
theorem row_some {w0 w : World} {l : List Ent} {r : List RowD} {A : Option Addr} {c : Nat} {N : List L} (H : Hp w0 w l r) (k : Nat) (hk : r[k]? = some (rowT (.slice A N.length c) N)) (hN : N ≠ []) : ∃ ad, A = some ad := by
  obtain ⟨A3, c3, e3, _, _, hAn⟩ := H.rd k hk
  cases e3
  cases A with
  | some ad => exact ⟨ad, rfl⟩
  | none => exact absurd (hAn rfl).2 (by have := List.length_pos_iff.2 hN; show N.length ≠ 0; omega)
theorem last_get {N : List L} (h : N ≠ []) : N[N.length - 1]? = some (N.getLastD []) := by
  have hp := List.length_pos_iff.2 h
  rw [List.getLastD_eq_getLast?, List.getLast?_eq_getElem?, List.getElem?_eq_getElem (by omega)]
  rfl
theorem last_mem {N : List L} (h : N ≠ []) : N.getLastD [] ∈ N := List.mem_of_getElem? (last_get h)
set_option maxRecDepth 100000 in
set_option maxHeartbeats 8000000 in
theorem element_c {w : World} {t2 : TypeId} {fr : Nat × Nat} (hD : w.heap[3]? = some (.cells deC t2 fr)) (t : ByteArray) (ht : t.size ≤ 1000000) :
    Calls Tryz.prog 111 #[.string t] w fun e w' => e = .returned (.bool (relemB (bl t))) ∧ Below w.heap.size w w' := by
  have hDb : ∀ w1, Below w.heap.size w w1 → w1.heap[3]? = some (.cells deC t2 fr) := fun w1 K => (K.block _ (blk_lt hD)).trans hD
  have hlen := bl_length t
  have hbt := bl_bytes t
  refine enter (args := [.string t]) Tryz.func111 rfl Tryz.ntmps111 rfl ?_
  have H := Hp.nil w
  repeat' (first | (with_reducible first | refine p_tn ?_ | refine wp_seq ?_ | refine w_reg ?_ | refine l_nil ?_) | ((with_reducible refine g_on ?_); (first | ((with_reducible refine g_mv ?_); refine l_p txs rfl rfl ?_) | ((with_reducible refine g_as ?_); refine l_p txs rfl rfl ?_))))
  (with_reducible refine is_l ?_); refine l_t txs rfl rfl (fun h1 => ?_) (fun h1 => ?_)
  · have h1 : bl t = [] := h1
    have hn : relemB (bl t) = false := by rw [h1]; rfl
    repeat' (first | (with_reducible first | refine p_tn ?_ | refine p_tr ?_ | refine wp_seq ?_ | refine w_reg ?_) | (with_reducible (refine is_if ?_; (refine w_ift rfl ?_))) | (with_reducible first | refine wp_ret ?_ | refine l_nil ?_) | ((with_reducible refine g_on ?_); (first | ((with_reducible refine g_mv ?_); refine l_p txs rfl rfl ?_) | ((with_reducible refine g_as ?_); refine l_p txs rfl rfl ?_) | ((with_reducible refine g_pk ?_); refine l_p txs rfl rfl ?_))) | ((with_reducible refine g_if ?_); (refine l_off rfl ?_)))
    refine end1 rfl rfl ?_
    exact ⟨by rw [hn], H.B⟩
  have h1 : bl t ≠ [] := h1
  have hpos : 0 < t.size := by rw [← hlen]; exact List.length_pos_iff.2 h1
  have hhd := K.head_at h1
  have hlast := last_at h1
  rw [hlen] at hlast
  repeat' (first | ((with_reducible refine g_on ?_); ((with_reducible refine g_mv ?_); refine l_p txs rfl rfl ?_)) | ((with_reducible refine g_if ?_); (first | ((with_reducible refine g_mv ?_); refine l_p txs rfl rfl ?_) | ((with_reducible refine g_ix ?_); refine l_ix txs rfl rfl (by first | omega | assumption | decide) (by first | omega | assumption | decide) ?_))))
  (with_reducible refine is_l ?_); refine l_t txs rfl rfl (fun h2 => ?_) (fun h2 => ?_)
  · have hn : relemB (bl t) = false := by unfold relemB; rw [hhd, h2]; simp
    repeat' (first | (with_reducible first | refine p_tn ?_ | refine p_tr ?_ | refine wp_seq ?_ | refine w_reg ?_) | (with_reducible (refine is_if ?_; (refine w_ift rfl ?_))) | (with_reducible first | refine wp_ret ?_ | refine l_nil ?_) | ((with_reducible refine g_on ?_); (first | ((with_reducible refine g_mv ?_); refine l_p txs rfl rfl ?_) | ((with_reducible refine g_as ?_); refine l_p txs rfl rfl ?_) | ((with_reducible refine g_pk ?_); refine l_p txs rfl rfl ?_))) | ((with_reducible refine g_if ?_); (refine l_off rfl ?_)))
    refine end1 rfl rfl ?_
    exact ⟨by rw [hn], H.B⟩
  repeat' (first | ((with_reducible refine g_on ?_); (first | ((with_reducible refine g_mv ?_); refine l_p txs rfl rfl ?_) | ((with_reducible refine g_pk ?_); refine l_p txs rfl rfl ?_))) | ((with_reducible refine g_if ?_); (first | ((with_reducible refine g_mv ?_); refine l_p txs rfl rfl ?_) | ((with_reducible refine g_cl ?_); refine l_p txs rfl rfl ?_) | ((with_reducible refine g_ix ?_); refine l_ix txs rfl rfl (by first | omega | assumption | decide) (by first | omega | assumption | decide) ?_) | ((with_reducible refine g_bi ?_); (refine l_a txs rfl rfl (by first | exact in_i64 (by omega) (by omega) | exact in_u8 (by omega) (by omega) | exact in_u64 (by omega) (by omega) | exact in_i32 (by omega) (by omega)) ?_)))))
  (with_reducible refine is_l ?_); refine l_t txs rfl rfl (fun h3 => ?_) (fun h3 => ?_)
  · have hn : relemB (bl t) = false := by unfold relemB; rw [hlast, h3]; simp
    repeat' (first | (with_reducible first | refine p_tn ?_ | refine p_tr ?_ | refine wp_seq ?_ | refine w_reg ?_) | (with_reducible (refine is_if ?_; (refine w_ift rfl ?_))) | (with_reducible first | refine wp_ret ?_ | refine l_nil ?_) | ((with_reducible refine g_on ?_); (first | ((with_reducible refine g_as ?_); refine l_p txs rfl rfl ?_) | ((with_reducible refine g_pk ?_); refine l_p txs rfl rfl ?_))))
    refine end1 rfl rfl ?_
    exact ⟨by rw [hn], H.B⟩
  have hE : relemB (bl t) = ((bl t).all elC && !(devices.contains (lowS (aheadC 46 (bl t)))) && tildeB (aheadC 46 (bl t))) := by
    unfold relemB
    rw [hhd, hlast, decide_eq_true (show some (at_ (bl t) 0) ≠ some 46 from fun e => h2 (Option.some.inj e)), decide_eq_true (show some (at_ (bl t) ((t.size : Int) - 1)) ≠ some 46 from fun e => h3 (Option.some.inj e))]
    have : (bl t).isEmpty = false := by cases hb : bl t with | nil => exact absurd hb h1 | cons x r => rfl
    rw [this]
    simp
  repeat' (first | (with_reducible first | refine p_tn ?_ | refine wp_seq ?_ | refine wp_block ?_ | refine w_reg ?_) | (with_reducible (refine is_if ?_; (refine w_iff rfl ?_))) | (with_reducible first | refine wp_skip ?_ | refine l_nil ?_) | ((with_reducible refine g_on ?_); (first | ((with_reducible refine g_as ?_); refine l_p txs rfl rfl ?_) | ((with_reducible refine g_pk ?_); refine l_p txs rfl rfl ?_))))
  refine w_loop (σ := Nat) (S := fun s => [(0, .string t), (3, .int .i64 (s : Int))]) (J := fun s w' => Hp w w' [] [] ∧ s ≤ t.size ∧ ((bl t).take s).all elC = true) (μ := fun s => t.size - s) 0 ⟨rfl, rfl, trivial⟩ ⟨H, by omega, by simp⟩ ?_
  clear H
  rintro i f w_ ⟨H, hi, ha⟩
  repeat' (first | (with_reducible first | refine wp_seq ?_ | refine w_reg ?_) | ((with_reducible refine g_on ?_); (first | ((with_reducible refine g_mv ?_); refine l_p txs rfl rfl ?_) | ((with_reducible refine g_cl ?_); refine l_p txs rfl rfl ?_))))
  (with_reducible refine is_l ?_); refine l_t txs rfl rfl (fun hlt => ?_) (fun hge => ?_)
  · obtain ⟨x, hx⟩ : ∃ x, (bl t)[i]? = some x := ⟨_, List.getElem?_eq_getElem (by omega)⟩
    have hat := at_of hx
    repeat' (first | (with_reducible first | refine p_tn ?_ | refine wp_seq ?_ | refine wp_block ?_ | refine w_reg ?_) | (with_reducible (refine is_if ?_; (refine w_ift rfl ?_))) | (with_reducible first | refine wp_skip ?_ | refine l_nil ?_) | ((with_reducible refine g_on ?_); (first | ((with_reducible refine g_mv ?_); refine l_p txs rfl rfl ?_) | ((with_reducible refine g_as ?_); refine l_p txs rfl rfl ?_) | ((with_reducible refine g_ix ?_); refine l_ix txs rfl rfl (by first | omega | assumption | decide) (by first | omega | assumption | decide) ?_))))
    rw [hat]
    skip
    (with_reducible refine is_l ?_); refine l_callp rfl rfl (by kernel_rfl) (small_c x _) ?_
    cases q1 : smlB x
    rotate_left
    · have hw : elC x = true := by unfold elC; rw [q1]; simp
      repeat' (first | (with_reducible first | refine p_tn ?_ | refine p_bn ?_ | refine w_reg ?_) | (with_reducible (refine is_if ?_; (refine w_iff rfl ?_))) | (with_reducible first | refine wp_skip ?_ | refine l_nil ?_) | ((with_reducible refine g_on ?_); (first | ((with_reducible refine g_mv ?_); refine l_p txs rfl rfl ?_) | ((with_reducible refine g_as ?_); refine l_p txs rfl rfl ?_) | ((with_reducible refine g_pk ?_); refine l_p txs rfl rfl ?_) | ((with_reducible refine g_un ?_); (refine l_p txs rfl rfl ?_)) | ((with_reducible refine g_bi ?_); (refine l_a txs rfl rfl (by first | exact in_i64 (by omega) (by omega) | exact in_u8 (by omega) (by omega) | exact in_u64 (by omega) (by omega) | exact in_i32 (by omega) (by omega)) ?_)))) | ((with_reducible refine g_if ?_); (refine l_off rfl ?_)))
      exact ⟨i + 1, _, rfl, ⟨rfl, rfl, trivial⟩, ⟨H, by omega, take_all hx hw ha⟩, by omega⟩
    repeat' (first | ((with_reducible refine g_on ?_); (first | ((with_reducible refine g_mv ?_); refine l_p txs rfl rfl ?_) | ((with_reducible refine g_un ?_); (refine l_p txs rfl rfl ?_)))) | ((with_reducible refine g_if ?_); ((with_reducible refine g_mv ?_); refine l_p txs rfl rfl ?_)))
    (with_reducible refine is_l ?_); refine l_callp rfl rfl (by kernel_rfl) (capital_c x _) ?_
    cases q2 : capB x
    rotate_left
    · have hw : elC x = true := by unfold elC; rw [q2]; simp
      repeat' (first | (with_reducible first | refine p_tn ?_ | refine p_bn ?_ | refine w_reg ?_) | (with_reducible (refine is_if ?_; (refine w_iff rfl ?_))) | (with_reducible first | refine wp_skip ?_ | refine l_nil ?_) | ((with_reducible refine g_on ?_); (first | ((with_reducible refine g_mv ?_); refine l_p txs rfl rfl ?_) | ((with_reducible refine g_as ?_); refine l_p txs rfl rfl ?_) | ((with_reducible refine g_pk ?_); refine l_p txs rfl rfl ?_) | ((with_reducible refine g_bi ?_); (refine l_a txs rfl rfl (by first | exact in_i64 (by omega) (by omega) | exact in_u8 (by omega) (by omega) | exact in_u64 (by omega) (by omega) | exact in_i32 (by omega) (by omega)) ?_)))) | ((with_reducible refine g_if ?_); (first | (refine l_off rfl ?_) | ((with_reducible refine g_un ?_); (refine l_p txs rfl rfl ?_)))))
      exact ⟨i + 1, _, rfl, ⟨rfl, rfl, trivial⟩, ⟨H, by omega, take_all hx hw ha⟩, by omega⟩
    repeat' (first | ((with_reducible refine g_on ?_); (first | ((with_reducible refine g_mv ?_); refine l_p txs rfl rfl ?_) | ((with_reducible refine g_pk ?_); refine l_p txs rfl rfl ?_))) | ((with_reducible refine g_if ?_); (first | ((with_reducible refine g_mv ?_); refine l_p txs rfl rfl ?_) | ((with_reducible refine g_un ?_); (refine l_p txs rfl rfl ?_)))))
    (with_reducible refine is_l ?_); refine l_callp rfl rfl (by kernel_rfl) (digit_c x _) ?_
    cases q3 : digB x
    rotate_left
    · have hw : elC x = true := by unfold elC; rw [q3]; simp
      repeat' (first | (with_reducible first | refine p_tn ?_ | refine p_bn ?_ | refine w_reg ?_) | (with_reducible (refine is_if ?_; (refine w_iff rfl ?_))) | (with_reducible first | refine wp_skip ?_ | refine l_nil ?_) | ((with_reducible refine g_on ?_); (first | ((with_reducible refine g_mv ?_); refine l_p txs rfl rfl ?_) | ((with_reducible refine g_as ?_); refine l_p txs rfl rfl ?_) | ((with_reducible refine g_pk ?_); refine l_p txs rfl rfl ?_) | ((with_reducible refine g_bi ?_); (refine l_a txs rfl rfl (by first | exact in_i64 (by omega) (by omega) | exact in_u8 (by omega) (by omega) | exact in_u64 (by omega) (by omega) | exact in_i32 (by omega) (by omega)) ?_)))) | ((with_reducible refine g_if ?_); (first | (refine l_off rfl ?_) | ((with_reducible refine g_un ?_); (refine l_p txs rfl rfl ?_)))))
      exact ⟨i + 1, _, rfl, ⟨rfl, rfl, trivial⟩, ⟨H, by omega, take_all hx hw ha⟩, by omega⟩
    repeat' (first | ((with_reducible refine g_on ?_); (first | ((with_reducible refine g_mv ?_); refine l_p txs rfl rfl ?_) | ((with_reducible refine g_pk ?_); refine l_p txs rfl rfl ?_))) | ((with_reducible refine g_if ?_); (first | ((with_reducible refine g_mv ?_); refine l_p txs rfl rfl ?_) | ((with_reducible refine g_un ?_); (refine l_p txs rfl rfl ?_)))))
    (with_reducible refine is_l ?_); refine l_t txs rfl rfl (fun q4 => ?_) (fun q4 => ?_)
    rotate_left
    · have hw : elC x = true := by unfold elC; simp [Classical.not_not.1 q4]
      repeat' (first | (with_reducible first | refine p_tn ?_ | refine p_bn ?_ | refine w_reg ?_) | (with_reducible (refine is_if ?_; (refine w_iff rfl ?_))) | (with_reducible first | refine wp_skip ?_ | refine l_nil ?_) | ((with_reducible refine g_on ?_); (first | ((with_reducible refine g_mv ?_); refine l_p txs rfl rfl ?_) | ((with_reducible refine g_as ?_); refine l_p txs rfl rfl ?_) | ((with_reducible refine g_pk ?_); refine l_p txs rfl rfl ?_) | ((with_reducible refine g_bi ?_); (refine l_a txs rfl rfl (by first | exact in_i64 (by omega) (by omega) | exact in_u8 (by omega) (by omega) | exact in_u64 (by omega) (by omega) | exact in_i32 (by omega) (by omega)) ?_)))) | ((with_reducible refine g_if ?_); (refine l_off rfl ?_)))
      exact ⟨i + 1, _, rfl, ⟨rfl, rfl, trivial⟩, ⟨H, by omega, take_all hx hw ha⟩, by omega⟩
    repeat' (first | ((with_reducible refine g_on ?_); (first | ((with_reducible refine g_mv ?_); refine l_p txs rfl rfl ?_) | ((with_reducible refine g_pk ?_); refine l_p txs rfl rfl ?_))) | ((with_reducible refine g_if ?_); ((with_reducible refine g_mv ?_); refine l_p txs rfl rfl ?_)))
    (with_reducible refine is_l ?_); refine l_t txs rfl rfl (fun q5 => ?_) (fun q5 => ?_)
    rotate_left
    · have hw : elC x = true := by unfold elC; simp [Classical.not_not.1 q5]
      repeat' (first | (with_reducible first | refine p_tn ?_ | refine p_bn ?_ | refine w_reg ?_) | (with_reducible (refine is_if ?_; (refine w_iff rfl ?_))) | (with_reducible first | refine wp_skip ?_ | refine l_nil ?_) | ((with_reducible refine g_on ?_); (first | ((with_reducible refine g_mv ?_); refine l_p txs rfl rfl ?_) | ((with_reducible refine g_as ?_); refine l_p txs rfl rfl ?_) | ((with_reducible refine g_pk ?_); refine l_p txs rfl rfl ?_) | ((with_reducible refine g_bi ?_); (refine l_a txs rfl rfl (by first | exact in_i64 (by omega) (by omega) | exact in_u8 (by omega) (by omega) | exact in_u64 (by omega) (by omega) | exact in_i32 (by omega) (by omega)) ?_)))) | ((with_reducible refine g_if ?_); (refine l_off rfl ?_)))
      exact ⟨i + 1, _, rfl, ⟨rfl, rfl, trivial⟩, ⟨H, by omega, take_all hx hw ha⟩, by omega⟩
    repeat' (first | ((with_reducible refine g_on ?_); (first | ((with_reducible refine g_mv ?_); refine l_p txs rfl rfl ?_) | ((with_reducible refine g_pk ?_); refine l_p txs rfl rfl ?_))) | ((with_reducible refine g_if ?_); ((with_reducible refine g_mv ?_); refine l_p txs rfl rfl ?_)))
    (with_reducible refine is_l ?_); refine l_t txs rfl rfl (fun q6 => ?_) (fun q6 => ?_)
    rotate_left
    · have hw : elC x = true := by unfold elC; simp [Classical.not_not.1 q6]
      repeat' (first | (with_reducible first | refine p_tn ?_ | refine p_bn ?_ | refine w_reg ?_) | (with_reducible (refine is_if ?_; (refine w_iff rfl ?_))) | (with_reducible first | refine wp_skip ?_ | refine l_nil ?_) | ((with_reducible refine g_on ?_); (first | ((with_reducible refine g_mv ?_); refine l_p txs rfl rfl ?_) | ((with_reducible refine g_as ?_); refine l_p txs rfl rfl ?_) | ((with_reducible refine g_pk ?_); refine l_p txs rfl rfl ?_) | ((with_reducible refine g_bi ?_); (refine l_a txs rfl rfl (by first | exact in_i64 (by omega) (by omega) | exact in_u8 (by omega) (by omega) | exact in_u64 (by omega) (by omega) | exact in_i32 (by omega) (by omega)) ?_)))) | ((with_reducible refine g_if ?_); (refine l_off rfl ?_)))
      exact ⟨i + 1, _, rfl, ⟨rfl, rfl, trivial⟩, ⟨H, by omega, take_all hx hw ha⟩, by omega⟩
    repeat' (first | ((with_reducible refine g_on ?_); (first | ((with_reducible refine g_mv ?_); refine l_p txs rfl rfl ?_) | ((with_reducible refine g_pk ?_); refine l_p txs rfl rfl ?_))) | ((with_reducible refine g_if ?_); ((with_reducible refine g_mv ?_); refine l_p txs rfl rfl ?_)))
    (with_reducible refine is_l ?_); refine l_t txs rfl rfl (fun q7 => ?_) (fun q7 => ?_)
    rotate_left
    · have hw : elC x = true := by unfold elC; simp [Classical.not_not.1 q7]
      repeat' (first | (with_reducible first | refine p_tn ?_ | refine p_bn ?_ | refine w_reg ?_) | (with_reducible (refine is_if ?_; (refine w_iff rfl ?_))) | (with_reducible first | refine wp_skip ?_ | refine l_nil ?_) | ((with_reducible refine g_on ?_); (first | ((with_reducible refine g_mv ?_); refine l_p txs rfl rfl ?_) | ((with_reducible refine g_as ?_); refine l_p txs rfl rfl ?_) | ((with_reducible refine g_pk ?_); refine l_p txs rfl rfl ?_) | ((with_reducible refine g_bi ?_); (refine l_a txs rfl rfl (by first | exact in_i64 (by omega) (by omega) | exact in_u8 (by omega) (by omega) | exact in_u64 (by omega) (by omega) | exact in_i32 (by omega) (by omega)) ?_)))))
      exact ⟨i + 1, _, rfl, ⟨rfl, rfl, trivial⟩, ⟨H, by omega, take_all hx hw ha⟩, by omega⟩
    have hw : elC x = false := by unfold elC; rw [q1, q2, q3]; simp [q4, q5, q6, q7]
    have hn : relemB (bl t) = false := by rw [hE, not_all hx hw]; rfl
    repeat' (first | (with_reducible first | refine p_tn ?_ | refine p_tr ?_ | refine p_br ?_ | refine wp_seq ?_ | refine w_reg ?_) | (with_reducible (refine is_if ?_; (refine w_ift rfl ?_))) | (with_reducible first | refine wp_ret ?_ | refine l_nil ?_) | ((with_reducible refine g_on ?_); (first | ((with_reducible refine g_as ?_); refine l_p txs rfl rfl ?_) | ((with_reducible refine g_pk ?_); refine l_p txs rfl rfl ?_))))
    refine end1 rfl rfl ?_
    exact ⟨by rw [hn], H.B⟩
  · have hall : (bl t).all elC = true := by rw [← List.take_of_length_le (l := bl t) (i := i) (by omega)]; exact ha
    rw [hall, Bool.true_and] at hE
    obtain ⟨sm1, sm2⟩ := ahead_sub 46 (bl t)
    repeat' (first | (with_reducible first | refine p_tn ?_ | refine p_tx ?_ | refine x_hit ?_ | refine wp_seq ?_ | refine w_reg ?_) | (with_reducible (refine is_if ?_; (refine w_iff rfl ?_))) | (with_reducible first | refine wp_exit ?_ | refine l_nil ?_) | ((with_reducible refine g_on ?_); ((with_reducible refine g_mv ?_); refine l_p txs rfl rfl ?_)))
    (with_reducible refine is_l ?_); refine l_callv rfl rfl (by kernel_rfl) (ahead_c t 46 _ (by omega)) (fun w_ K => ?_)
    have H := H.call K
    generalize aheadC 46 (bl t) = s at hE sm1 sm2 ⊢
    have bs : Bytes s := fun y hy => hbt y (sm1 y hy)
    have zs := sizeS' bs
    have hlo := fun w1 => below_c (strOfNums s) w1 (by omega)
    rw [blS bs] at hlo
    have bls : Bytes (lowS s) := fun y hy => by
      obtain ⟨x, hx, rfl⟩ := List.mem_map.1 hy
      have := bs x hx
      unfold lowB
      split <;> omega
    have eL := blS bls
    repeat' (first | (with_reducible first | refine p_tn ?_ | refine wp_seq ?_ | refine w_reg ?_ | refine l_nil ?_) | ((with_reducible refine g_on ?_); (first | ((with_reducible refine g_mv ?_); refine l_p txs rfl rfl ?_) | ((with_reducible refine g_as ?_); refine l_p txs rfl rfl ?_))))
    (with_reducible refine is_l ?_); refine l_callv rfl rfl (by kernel_rfl) (hlo _) (fun w_ K => ?_)
    have H := H.call K
    repeat' (first | (with_reducible first | refine p_tn ?_ | refine wp_seq ?_ | refine wp_block ?_ | refine w_reg ?_ | refine l_nil ?_) | ((with_reducible refine g_on ?_); ((with_reducible refine g_as ?_); refine l_p txs rfl rfl ?_)))
    refine w_loop (σ := Nat) (S := fun k => [(5, .string (strOfNums s)), (6, .string (strOfNums (lowS s))), (7, .int .i64 (k : Int))]) (J := fun k w' => Hp w w' [] [] ∧ k ≤ 22 ∧ devices.contains (lowS s) = (devices.drop k).contains (lowS s)) (μ := fun k => 22 - k) 0 ⟨rfl, rfl, rfl, trivial⟩ ⟨H, by omega, rfl⟩ ?_
    clear H
    rintro k f w_ ⟨H, hk, hl⟩
    repeat' (first | (with_reducible first | refine wp_seq ?_ | refine w_reg ?_) | ((with_reducible refine g_on ?_); ((with_reducible refine g_mv ?_); refine l_p txs rfl rfl ?_)))
    (with_reducible refine is_l ?_); refine l_t txs rfl rfl (fun hlt => ?_) (fun hge => ?_)
    · have hk' : k < 22 := by omega
      obtain ⟨q1, q2⟩ := de_at k hk'
      rw [q2, List.contains_cons] at hl
      repeat' (first | (with_reducible first | refine p_tn ?_ | refine wp_seq ?_ | refine wp_block ?_ | refine w_reg ?_) | (with_reducible (refine is_if ?_; (refine w_ift rfl ?_))) | (with_reducible first | refine wp_skip ?_ | refine l_nil ?_) | ((with_reducible refine g_on ?_); ((with_reducible refine g_mv ?_); refine l_p txs rfl rfl ?_)))
      (with_reducible refine is_l ?_); refine l_iaa Tryz.underlying138 info_str1 rfl rfl rfl (by omega) (by omega) ?_
      (with_reducible refine is_l ?_); refine l_ld txs rfl rfl (by rw [Int.toNat_natCast]; exact cell_of_heap (hDb _ H.B) q1) ?_
      skip
      (with_reducible refine is_l ?_); refine l_t txs rfl rfl (fun hh => ?_) (fun hnn => ?_)
      · have hn : relemB (bl t) = false := by rw [hE, hl, ← hh, eL]; simp
        repeat' (first | (with_reducible first | refine p_tn ?_ | refine p_tr ?_ | refine p_br ?_ | refine wp_seq ?_ | refine w_reg ?_) | (with_reducible (refine is_if ?_; (refine w_ift rfl ?_))) | (with_reducible first | refine wp_ret ?_ | refine l_nil ?_) | ((with_reducible refine g_on ?_); ((with_reducible refine g_as ?_); refine l_p txs rfl rfl ?_)))
        refine end1 rfl rfl ?_
        exact ⟨by rw [hn], H.B⟩
      · rw [eL] at hnn
        repeat' (first | (with_reducible first | refine p_tn ?_ | refine p_bn ?_ | refine w_reg ?_) | (with_reducible (refine is_if ?_; (refine w_iff rfl ?_))) | (with_reducible first | refine wp_skip ?_ | refine l_nil ?_) | ((with_reducible refine g_on ?_); (first | ((with_reducible refine g_mv ?_); refine l_p txs rfl rfl ?_) | ((with_reducible refine g_as ?_); refine l_p txs rfl rfl ?_) | ((with_reducible refine g_bi ?_); (refine l_a txs rfl rfl (by first | exact in_i64 (by omega) (by omega) | exact in_u8 (by omega) (by omega) | exact in_u64 (by omega) (by omega) | exact in_i32 (by omega) (by omega)) ?_)))))
        exact ⟨k + 1, _, rfl, ⟨rfl, rfl, rfl, trivial⟩, ⟨H, by omega, by rw [hl, beq_eq_false_iff_ne.2 hnn]; simp⟩, by omega⟩
    · have hnil : devices.drop k = [] := List.drop_eq_nil_of_le (by show 22 ≤ k; omega)
      rw [hnil] at hl
      rw [hl] at hE
      have hE : relemB (bl t) = (decide ((splitC 126 s).length < 2) || !digB1 ((splitC 126 s).getLastD [])) := by rw [hE]; simp [tildeB]
      have hpi := fun w1 => pieces_c (strOfNums s) 126 w1 (by omega)
      rw [blS bs] at hpi
      have hsm := split_mem 126 s
      have hsl := split_len 126 s
      have hne := splitC_ne (c := 126) s
      repeat' (first | (with_reducible first | refine p_tn ?_ | refine p_tx ?_ | refine x_hit ?_ | refine wp_seq ?_ | refine w_reg ?_) | (with_reducible (refine is_if ?_; (refine w_iff rfl ?_))) | (with_reducible first | refine wp_exit ?_ | refine l_nil ?_) | ((with_reducible refine g_on ?_); ((with_reducible refine g_mv ?_); refine l_p txs rfl rfl ?_)))
      (with_reducible refine is_l ?_); refine l_call rfl rfl (by kernel_rfl) (hpi _) (fun e w_ hR => ?_)
      generalize splitC 126 s = N at hR hE hsm hsl hne
      obtain ⟨A1, c1, rfl, K⟩ := hR
      refine ⟨_, rfl, ?_⟩
      obtain ⟨ad, rfl⟩ := row_some K 0 rfl hne
      have H := H.join K
      have hcell := rdT_cell (rowT_at K 0 rfl) (last_get hne)
      have hNp := List.length_pos_iff.2 hne
      repeat' (first | (with_reducible first | refine p_tn ?_ | refine wp_seq ?_ | refine w_reg ?_ | refine l_nil ?_) | ((with_reducible refine g_on ?_); (first | ((with_reducible refine g_mv ?_); refine l_p txs rfl rfl ?_) | ((with_reducible refine g_as ?_); refine l_p txs rfl rfl ?_) | ((with_reducible refine g_cl ?_); refine l_p txs rfl rfl ?_))))
      (with_reducible refine is_l ?_); refine l_t txs rfl rfl (fun e1 => ?_) (fun e1 => ?_)
      · have hn : relemB (bl t) = true := by rw [hE, decide_eq_true (by omega)]; rfl
        repeat' (first | (with_reducible first | refine p_tn ?_ | refine wp_ret ?_ | refine l_nil ?_) | ((with_reducible refine g_on ?_); (first | ((with_reducible refine g_mv ?_); refine l_p txs rfl rfl ?_) | ((with_reducible refine g_as ?_); refine l_p txs rfl rfl ?_) | ((with_reducible refine g_pk ?_); refine l_p txs rfl rfl ?_))) | ((with_reducible refine g_if ?_); (refine l_off rfl ?_)))
        refine end1 rfl rfl ?_
        exact ⟨by rw [hn], H.B⟩
      · have hyb : Bytes (N.getLastD []) := fun z hz => bs z ((hsm _ (last_mem hne)).1 z hz)
        have hyl := (hsm _ (last_mem hne)).2
        have hdg := fun w1 => digits_c (strOfNums (N.getLastD [])) w1 (by rw [sizeS' hyb]; omega)
        rw [blS hyb] at hdg
        generalize N.getLastD [] = y at hE hcell hdg
        repeat' (first | ((with_reducible refine g_on ?_); ((with_reducible refine g_mv ?_); refine l_p txs rfl rfl ?_)) | ((with_reducible refine g_if ?_); (first | ((with_reducible refine g_mv ?_); refine l_p txs rfl rfl ?_) | ((with_reducible refine g_cl ?_); refine l_p txs rfl rfl ?_) | ((with_reducible refine g_ia ?_); refine l_ia txs rfl rfl (by first | omega | assumption | decide) (by first | omega | assumption | decide) ?_) | ((with_reducible refine g_bi ?_); (refine l_a txs rfl rfl (by first | exact in_i64 (by omega) (by omega) | exact in_u8 (by omega) (by omega) | exact in_u64 (by omega) (by omega) | exact in_i32 (by omega) (by omega)) ?_)))))
        (with_reducible refine is_l ?_); refine l_ld txs rfl rfl (by rw [show ((N.length : Int) - 1).toNat = N.length - 1 by omega]; exact hcell) ?_
        (with_reducible refine is_l ?_); refine l_callp rfl rfl (by kernel_rfl) (hdg _) ?_
        have hn : relemB (bl t) = !digsB y := by rw [hE, decide_eq_false (by omega)]; rfl
        repeat' (first | (with_reducible first | refine p_tn ?_ | refine wp_ret ?_ | refine l_nil ?_) | ((with_reducible refine g_on ?_); (first | ((with_reducible refine g_as ?_); refine l_p txs rfl rfl ?_) | ((with_reducible refine g_pk ?_); refine l_p txs rfl rfl ?_))) | ((with_reducible refine g_if ?_); ((with_reducible refine g_un ?_); (refine l_p txs rfl rfl ?_))))
        refine end1 rfl rfl ?_
        exact ⟨by rw [hn], H.B⟩
set_option maxHeartbeats 8000000 in
theorem first_c (t : ByteArray) (w : World) (ht : t.size ≤ 1000000) (h1 : bl t ≠ []) : Calls Tryz.prog 112 #[.string t] w fun e w' => e = .returned (.bool (hostB (bl t))) ∧ Below w.heap.size w w' := by
  have hlen := bl_length t
  have hpos : 0 < t.size := by rw [← hlen]; exact List.length_pos_iff.2 h1
  have hhd := K.head_at h1
  have hV : hostB (bl t) = ((bl t).all (fun c => !(capB c || decide (c = 95) || decide (c = 126))) && (bl t).contains 46 && decide ((bl t).head? ≠ some 45)) := rfl
  refine enter (args := [.string t]) Tryz.func112 rfl Tryz.ntmps112 rfl ?_
  have H := Hp.nil w
  repeat' (first | (with_reducible first | refine p_tn ?_ | refine wp_seq ?_ | refine wp_block ?_ | refine w_reg ?_ | refine l_nil ?_) | ((with_reducible refine g_on ?_); ((with_reducible refine g_as ?_); refine l_p txs rfl rfl ?_)))
  refine w_loop (σ := Nat × Nat) (S := fun s => [(0, .string t), (3, .int .i64 (s.2 : Int)), (4, .int .i64 (s.1 : Int))]) (J := fun s w' => Hp w w' [] [] ∧ s.1 ≤ t.size ∧ s.2 ≤ s.1 ∧ ((bl t).take s.1).all (fun c => !(capB c || decide (c = 95) || decide (c = 126))) = true ∧ ((bl t).take s.1).contains 46 = decide (0 < s.2)) (μ := fun s => t.size - s.1) (0, 0) ⟨rfl, rfl, rfl, trivial⟩ ⟨H, by omega, by omega, by simp, by simp⟩ ?_
  clear H
  rintro ⟨i, n⟩ f w_ ⟨H, hi, hni, ha, hc⟩
  simp only at H hi hni ha hc ⊢
  repeat' (first | (with_reducible first | refine wp_seq ?_ | refine w_reg ?_) | ((with_reducible refine g_on ?_); (first | ((with_reducible refine g_mv ?_); refine l_p txs rfl rfl ?_) | ((with_reducible refine g_cl ?_); refine l_p txs rfl rfl ?_))))
  (with_reducible refine is_l ?_); refine l_t txs rfl rfl (fun hlt => ?_) (fun hge => ?_)
  · obtain ⟨x, hx⟩ : ∃ x, (bl t)[i]? = some x := ⟨_, List.getElem?_eq_getElem (by omega)⟩
    have hat := at_of hx
    have hbad : (!(capB x || decide (x = 95) || decide (x = 126))) = false → hostB (bl t) = false := fun h => by rw [hV, not_all hx h]; rfl
    have htk : (bl t).take (i + 1) = (bl t).take i ++ [x] := by
      rw [List.take_succ_eq_append_getElem (by omega), (List.getElem?_eq_some_iff.1 hx).2]
    repeat' (first | (with_reducible first | refine p_tn ?_ | refine wp_seq ?_ | refine wp_block ?_ | refine w_reg ?_) | (with_reducible (refine is_if ?_; (refine w_ift rfl ?_))) | (with_reducible first | refine wp_skip ?_ | refine l_nil ?_) | ((with_reducible refine g_on ?_); (first | ((with_reducible refine g_mv ?_); refine l_p txs rfl rfl ?_) | ((with_reducible refine g_as ?_); refine l_p txs rfl rfl ?_) | ((with_reducible refine g_ix ?_); refine l_ix txs rfl rfl (by first | omega | assumption | decide) (by first | omega | assumption | decide) ?_))))
    rw [hat]
    skip
    (with_reducible refine is_l ?_); refine l_callp rfl rfl (by kernel_rfl) (capital_c x _) ?_
    cases q1 : capB x
    rotate_left
    · have hn := hbad (by rw [q1]; rfl)
      repeat' (first | (with_reducible first | refine p_tn ?_ | refine p_tr ?_ | refine p_br ?_ | refine wp_seq ?_ | refine w_reg ?_) | (with_reducible (refine is_if ?_; (refine w_ift rfl ?_))) | (with_reducible first | refine wp_ret ?_ | refine l_nil ?_) | ((with_reducible refine g_on ?_); (first | ((with_reducible refine g_mv ?_); refine l_p txs rfl rfl ?_) | ((with_reducible refine g_as ?_); refine l_p txs rfl rfl ?_) | ((with_reducible refine g_pk ?_); refine l_p txs rfl rfl ?_))) | ((with_reducible refine g_if ?_); (refine l_off rfl ?_)))
      refine end1 rfl rfl ?_
      exact ⟨by rw [hn], H.B⟩
    repeat' (first | ((with_reducible refine g_on ?_); ((with_reducible refine g_mv ?_); refine l_p txs rfl rfl ?_)) | ((with_reducible refine g_if ?_); ((with_reducible refine g_mv ?_); refine l_p txs rfl rfl ?_)))
    (with_reducible refine is_l ?_); refine l_t txs rfl rfl (fun q2 => ?_) (fun q2 => ?_)
    · have hn := hbad (by rw [q2]; simp)
      repeat' (first | (with_reducible first | refine p_tn ?_ | refine p_tr ?_ | refine p_br ?_ | refine wp_seq ?_ | refine w_reg ?_) | (with_reducible (refine is_if ?_; (refine w_ift rfl ?_))) | (with_reducible first | refine wp_ret ?_ | refine l_nil ?_) | ((with_reducible refine g_on ?_); (first | ((with_reducible refine g_mv ?_); refine l_p txs rfl rfl ?_) | ((with_reducible refine g_as ?_); refine l_p txs rfl rfl ?_) | ((with_reducible refine g_pk ?_); refine l_p txs rfl rfl ?_))) | ((with_reducible refine g_if ?_); (refine l_off rfl ?_)))
      refine end1 rfl rfl ?_
      exact ⟨by rw [hn], H.B⟩
    repeat' (first | ((with_reducible refine g_on ?_); (first | ((with_reducible refine g_mv ?_); refine l_p txs rfl rfl ?_) | ((with_reducible refine g_pk ?_); refine l_p txs rfl rfl ?_))) | ((with_reducible refine g_if ?_); ((with_reducible refine g_mv ?_); refine l_p txs rfl rfl ?_)))
    (with_reducible refine is_l ?_); refine l_t txs rfl rfl (fun q3 => ?_) (fun q3 => ?_)
    · have hn := hbad (by rw [q3]; simp)
      repeat' (first | (with_reducible first | refine p_tn ?_ | refine p_tr ?_ | refine p_br ?_ | refine wp_seq ?_ | refine w_reg ?_) | (with_reducible (refine is_if ?_; (refine w_ift rfl ?_))) | (with_reducible first | refine wp_ret ?_ | refine l_nil ?_) | ((with_reducible refine g_on ?_); (first | ((with_reducible refine g_as ?_); refine l_p txs rfl rfl ?_) | ((with_reducible refine g_pk ?_); refine l_p txs rfl rfl ?_))))
      refine end1 rfl rfl ?_
      exact ⟨by rw [hn], H.B⟩
    have hw : (!(capB x || decide (x = 95) || decide (x = 126))) = true := by rw [q1]; simp [q2, q3]
    have ha2 := take_all (p := fun c => !(capB c || decide (c = 95) || decide (c = 126))) hx hw ha
    repeat' (first | (with_reducible first | refine p_tn ?_ | refine wp_seq ?_ | refine w_reg ?_) | (with_reducible (refine is_if ?_; (refine w_iff rfl ?_))) | (with_reducible first | refine wp_skip ?_ | refine l_nil ?_) | ((with_reducible refine g_on ?_); (first | ((with_reducible refine g_mv ?_); refine l_p txs rfl rfl ?_) | ((with_reducible refine g_pk ?_); refine l_p txs rfl rfl ?_))))
    (with_reducible refine is_l ?_); refine l_t txs rfl rfl (fun q4 => ?_) (fun q4 => ?_)
    · repeat' (first | (with_reducible first | refine p_tn ?_ | refine p_bn ?_ | refine w_reg ?_) | (with_reducible (refine is_if ?_; (refine w_ift rfl ?_))) | (with_reducible refine l_nil ?_) | ((with_reducible refine g_on ?_); (first | ((with_reducible refine g_mv ?_); refine l_p txs rfl rfl ?_) | ((with_reducible refine g_as ?_); refine l_p txs rfl rfl ?_) | ((with_reducible refine g_bi ?_); (refine l_a txs rfl rfl (by first | exact in_i64 (by omega) (by omega) | exact in_u8 (by omega) (by omega) | exact in_u64 (by omega) (by omega) | exact in_i32 (by omega) (by omega)) ?_)))))
      exact ⟨(i + 1, n + 1), _, rfl, ⟨rfl, rfl, rfl, trivial⟩, ⟨H, by show i + 1 ≤ _; omega, by show n + 1 ≤ i + 1; omega, ha2, by show ((bl t).take (i + 1)).contains 46 = decide (0 < n + 1); rw [htk, q4]; simp⟩, by show _ - (i + 1) < _ - i; omega⟩
    · repeat' (first | (with_reducible first | refine p_tn ?_ | refine p_bn ?_ | refine w_reg ?_) | (with_reducible (refine is_if ?_; (refine w_iff rfl ?_))) | (with_reducible first | refine wp_skip ?_ | refine l_nil ?_) | ((with_reducible refine g_on ?_); (first | ((with_reducible refine g_mv ?_); refine l_p txs rfl rfl ?_) | ((with_reducible refine g_as ?_); refine l_p txs rfl rfl ?_) | ((with_reducible refine g_bi ?_); (refine l_a txs rfl rfl (by first | exact in_i64 (by omega) (by omega) | exact in_u8 (by omega) (by omega) | exact in_u64 (by omega) (by omega) | exact in_i32 (by omega) (by omega)) ?_)))))
      exact ⟨(i + 1, n), _, rfl, ⟨rfl, rfl, rfl, trivial⟩, ⟨H, by show i + 1 ≤ _; omega, by show n ≤ i + 1; omega, ha2, by show ((bl t).take (i + 1)).contains 46 = decide (0 < n); rw [htk, ← hc]; simp [Ne.symm q4]⟩, by show _ - (i + 1) < _ - i; omega⟩
  · have hall : (bl t).take i = bl t := List.take_of_length_le (by omega)
    rw [hall] at ha hc
    rw [ha, hc, hhd] at hV
    repeat' (first | (with_reducible first | refine p_tn ?_ | refine p_tx ?_ | refine x_hit ?_ | refine wp_seq ?_ | refine w_reg ?_) | (with_reducible (refine is_if ?_; (refine w_iff rfl ?_))) | (with_reducible first | refine wp_exit ?_ | refine l_nil ?_) | ((with_reducible refine g_on ?_); ((with_reducible refine g_mv ?_); refine l_p txs rfl rfl ?_)))
    (with_reducible refine is_l ?_); refine l_t txs rfl rfl (fun q1 => ?_) (fun q1 => ?_)
    · repeat' (first | ((with_reducible refine g_on ?_); ((with_reducible refine g_mv ?_); refine l_p txs rfl rfl ?_)) | ((with_reducible refine g_if ?_); (first | ((with_reducible refine g_mv ?_); refine l_p txs rfl rfl ?_) | ((with_reducible refine g_ix ?_); refine l_ix txs rfl rfl (by first | omega | assumption | decide) (by first | omega | assumption | decide) ?_))))
      (with_reducible refine is_l ?_); refine l_t txs rfl rfl (fun q2 => ?_) (fun q2 => ?_)
      · have hn : hostB (bl t) = true := by rw [hV, decide_eq_true (by omega)]; simp [q2]
        repeat' (first | (with_reducible first | refine p_tn ?_ | refine wp_ret ?_ | refine l_nil ?_) | ((with_reducible refine g_on ?_); (first | ((with_reducible refine g_as ?_); refine l_p txs rfl rfl ?_) | ((with_reducible refine g_pk ?_); refine l_p txs rfl rfl ?_))))
        refine end1 rfl rfl ?_
        exact ⟨by rw [hn], H.B⟩
      · have hn : hostB (bl t) = false := by rw [hV, Classical.not_not.1 q2]; simp
        repeat' (first | (with_reducible first | refine p_tn ?_ | refine wp_ret ?_ | refine l_nil ?_) | ((with_reducible refine g_on ?_); (first | ((with_reducible refine g_as ?_); refine l_p txs rfl rfl ?_) | ((with_reducible refine g_pk ?_); refine l_p txs rfl rfl ?_))))
        refine end1 rfl rfl ?_
        exact ⟨by rw [hn], H.B⟩
    · have hn : hostB (bl t) = false := by rw [hV, decide_eq_false (by omega)]; rfl
      repeat' (first | (with_reducible first | refine p_tn ?_ | refine wp_ret ?_ | refine l_nil ?_) | ((with_reducible refine g_on ?_); (first | ((with_reducible refine g_mv ?_); refine l_p txs rfl rfl ?_) | ((with_reducible refine g_as ?_); refine l_p txs rfl rfl ?_) | ((with_reducible refine g_pk ?_); refine l_p txs rfl rfl ?_))) | ((with_reducible refine g_if ?_); (refine l_off rfl ?_)))
      refine end1 rfl rfl ?_
      exact ⟨by rw [hn], H.B⟩
set_option maxHeartbeats 8000000 in
theorem tailed_c (t : ByteArray) (w : World) (ht : t.size ≤ 1000000) : Calls Tryz.prog 114 #[.string t] w fun e w' => e = .returned (.bool (tailedB (bl t))) ∧ Below w.heap.size w w' := by
  have hlen := bl_length t
  have hV : tailedB (bl t) = (decide (2 ≤ (bl t).length) && decide ((bl t).head? = some 118) && ((bl t).tail.all fun c => digB c || decide (c = 46))) := rfl
  refine enter (args := [.string t]) Tryz.func114 rfl Tryz.ntmps114 rfl ?_
  have H := Hp.nil w
  repeat' (first | (with_reducible first | refine p_tn ?_ | refine wp_seq ?_ | refine w_reg ?_ | refine l_nil ?_) | ((with_reducible refine g_on ?_); (first | ((with_reducible refine g_mv ?_); refine l_p txs rfl rfl ?_) | ((with_reducible refine g_as ?_); refine l_p txs rfl rfl ?_) | ((with_reducible refine g_cl ?_); refine l_p txs rfl rfl ?_))))
  (with_reducible refine is_l ?_); refine l_t txs rfl rfl (fun q1 => ?_) (fun q1 => ?_)
  · have hn : tailedB (bl t) = false := by rw [hV, decide_eq_false (by omega)]; rfl
    repeat' (first | (with_reducible first | refine p_tn ?_ | refine p_tr ?_ | refine wp_seq ?_ | refine w_reg ?_) | (with_reducible (refine is_if ?_; (refine w_ift rfl ?_))) | (with_reducible first | refine wp_ret ?_ | refine l_nil ?_) | ((with_reducible refine g_on ?_); (first | ((with_reducible refine g_mv ?_); refine l_p txs rfl rfl ?_) | ((with_reducible refine g_as ?_); refine l_p txs rfl rfl ?_) | ((with_reducible refine g_pk ?_); refine l_p txs rfl rfl ?_))) | ((with_reducible refine g_if ?_); (refine l_off rfl ?_)))
    refine end1 rfl rfl ?_
    exact ⟨by rw [hn], H.B⟩
  have h1 : bl t ≠ [] := fun e => by rw [e] at hlen; simp at hlen; omega
  have hhd := K.head_at h1
  repeat' (first | ((with_reducible refine g_on ?_); ((with_reducible refine g_mv ?_); refine l_p txs rfl rfl ?_)) | ((with_reducible refine g_if ?_); (first | ((with_reducible refine g_mv ?_); refine l_p txs rfl rfl ?_) | ((with_reducible refine g_ix ?_); refine l_ix txs rfl rfl (by first | omega | assumption | decide) (by first | omega | assumption | decide) ?_))))
  (with_reducible refine is_l ?_); refine l_t txs rfl rfl (fun q2 => ?_) (fun q2 => ?_)
  · have hn : tailedB (bl t) = false := by rw [hV, hhd, decide_eq_false (show ¬ some (at_ (bl t) 0) = some 118 from fun e => q2 (Option.some.inj e))]; simp
    repeat' (first | (with_reducible first | refine p_tn ?_ | refine p_tr ?_ | refine wp_seq ?_ | refine w_reg ?_) | (with_reducible (refine is_if ?_; (refine w_ift rfl ?_))) | (with_reducible first | refine wp_ret ?_ | refine l_nil ?_) | ((with_reducible refine g_on ?_); (first | ((with_reducible refine g_as ?_); refine l_p txs rfl rfl ?_) | ((with_reducible refine g_pk ?_); refine l_p txs rfl rfl ?_))))
    refine end1 rfl rfl ?_
    exact ⟨by rw [hn], H.B⟩
  rw [hhd, Classical.not_not.1 q2, decide_eq_true (show 2 ≤ (bl t).length by omega)] at hV
  have hV : tailedB (bl t) = (bl t).tail.all fun c => digB c || decide (c = 46) := by rw [hV]; simp
  have htl : ∀ i, (bl t)[i + 1]? = (bl t).tail[i]? := fun i => by rw [List.getElem?_tail]
  have htn : (bl t).tail.length = t.size - 1 := by rw [List.length_tail]; omega
  generalize (bl t).tail = q at hV htl htn
  repeat' (first | (with_reducible first | refine p_tn ?_ | refine wp_seq ?_ | refine wp_block ?_ | refine w_reg ?_) | (with_reducible (refine is_if ?_; (refine w_iff rfl ?_))) | (with_reducible first | refine wp_skip ?_ | refine l_nil ?_) | ((with_reducible refine g_on ?_); (first | ((with_reducible refine g_as ?_); refine l_p txs rfl rfl ?_) | ((with_reducible refine g_pk ?_); refine l_p txs rfl rfl ?_))))
  refine w_loop (σ := Nat) (S := fun s => [(0, .string t), (3, .int .i64 ((s + 1 : Nat) : Int))]) (J := fun s w' => Hp w w' [] [] ∧ s + 1 ≤ t.size ∧ (q.take s).all (fun c => digB c || decide (c = 46)) = true) (μ := fun s => t.size - s) 0 ⟨rfl, rfl, trivial⟩ ⟨H, by omega, by simp⟩ ?_
  clear H
  rintro i f w_ ⟨H, hi, ha⟩
  repeat' (first | (with_reducible first | refine wp_seq ?_ | refine w_reg ?_) | ((with_reducible refine g_on ?_); (first | ((with_reducible refine g_mv ?_); refine l_p txs rfl rfl ?_) | ((with_reducible refine g_cl ?_); refine l_p txs rfl rfl ?_))))
  (with_reducible refine is_l ?_); refine l_t txs rfl rfl (fun hlt => ?_) (fun hge => ?_)
  · obtain ⟨x, hx⟩ : ∃ x, (bl t)[i + 1]? = some x := ⟨_, List.getElem?_eq_getElem (by omega)⟩
    have hat := at_of hx
    rw [htl] at hx
    repeat' (first | (with_reducible first | refine p_tn ?_ | refine wp_seq ?_ | refine wp_block ?_ | refine w_reg ?_) | (with_reducible (refine is_if ?_; (refine w_ift rfl ?_))) | (with_reducible first | refine wp_skip ?_ | refine l_nil ?_) | ((with_reducible refine g_on ?_); (first | ((with_reducible refine g_mv ?_); refine l_p txs rfl rfl ?_) | ((with_reducible refine g_ix ?_); refine l_ix txs rfl rfl (by first | omega | assumption | decide) (by first | omega | assumption | decide) ?_))))
    rw [hat]
    skip
    (with_reducible refine is_l ?_); refine l_callp rfl rfl (by kernel_rfl) (digit_c x _) ?_
    cases q3 : digB x
    · repeat' (first | ((with_reducible refine g_on ?_); (first | ((with_reducible refine g_mv ?_); refine l_p txs rfl rfl ?_) | ((with_reducible refine g_un ?_); (refine l_p txs rfl rfl ?_)))) | ((with_reducible refine g_if ?_); (first | ((with_reducible refine g_mv ?_); refine l_p txs rfl rfl ?_) | ((with_reducible refine g_ix ?_); refine l_ix txs rfl rfl (by first | omega | assumption | decide) (by first | omega | assumption | decide) ?_))))
      rw [hat]
      skip
      (with_reducible refine is_l ?_); refine l_t txs rfl rfl (fun q4 => ?_) (fun q4 => ?_)
      · have hn : tailedB (bl t) = false := by rw [hV, not_all hx (by rw [q3]; simp [q4])]
        repeat' (first | (with_reducible first | refine p_tn ?_ | refine p_tr ?_ | refine p_br ?_ | refine wp_seq ?_ | refine w_reg ?_) | (with_reducible (refine is_if ?_; (refine w_ift rfl ?_))) | (with_reducible first | refine wp_ret ?_ | refine l_nil ?_) | ((with_reducible refine g_on ?_); (first | ((with_reducible refine g_as ?_); refine l_p txs rfl rfl ?_) | ((with_reducible refine g_pk ?_); refine l_p txs rfl rfl ?_))))
        refine end1 rfl rfl ?_
        exact ⟨by rw [hn], H.B⟩
      · repeat' (first | (with_reducible first | refine p_tn ?_ | refine p_bn ?_ | refine w_reg ?_) | (with_reducible (refine is_if ?_; (refine w_iff rfl ?_))) | (with_reducible first | refine wp_skip ?_ | refine l_nil ?_) | ((with_reducible refine g_on ?_); (first | ((with_reducible refine g_mv ?_); refine l_p txs rfl rfl ?_) | ((with_reducible refine g_as ?_); refine l_p txs rfl rfl ?_) | ((with_reducible refine g_pk ?_); refine l_p txs rfl rfl ?_) | ((with_reducible refine g_bi ?_); (refine l_a txs rfl rfl (by first | exact in_i64 (by omega) (by omega) | exact in_u8 (by omega) (by omega) | exact in_u64 (by omega) (by omega) | exact in_i32 (by omega) (by omega)) ?_)))))
        exact ⟨i + 1, _, rfl, ⟨rfl, rfl, trivial⟩, ⟨H, by omega, take_all (p := fun c => digB c || decide (c = 46)) hx (by simp [Classical.not_not.1 q4]) ha⟩, by omega⟩
    · repeat' (first | (with_reducible first | refine p_tn ?_ | refine p_bn ?_ | refine w_reg ?_) | (with_reducible (refine is_if ?_; (refine w_iff rfl ?_))) | (with_reducible first | refine wp_skip ?_ | refine l_nil ?_) | ((with_reducible refine g_on ?_); (first | ((with_reducible refine g_mv ?_); refine l_p txs rfl rfl ?_) | ((with_reducible refine g_as ?_); refine l_p txs rfl rfl ?_) | ((with_reducible refine g_pk ?_); refine l_p txs rfl rfl ?_) | ((with_reducible refine g_un ?_); (refine l_p txs rfl rfl ?_)) | ((with_reducible refine g_bi ?_); (refine l_a txs rfl rfl (by first | exact in_i64 (by omega) (by omega) | exact in_u8 (by omega) (by omega) | exact in_u64 (by omega) (by omega) | exact in_i32 (by omega) (by omega)) ?_)))) | ((with_reducible refine g_if ?_); (refine l_off rfl ?_)))
      exact ⟨i + 1, _, rfl, ⟨rfl, rfl, trivial⟩, ⟨H, by omega, take_all (p := fun c => digB c || decide (c = 46)) hx (by simp [q3]) ha⟩, by omega⟩
  · have hall : q.take i = q := List.take_of_length_le (by omega)
    rw [hall] at ha
    have hn : tailedB (bl t) = true := by rw [hV, ha]
    repeat' (first | (with_reducible first | refine p_tn ?_ | refine p_tx ?_ | refine x_hit ?_ | refine wp_seq ?_ | refine w_reg ?_) | (with_reducible (refine is_if ?_; (refine w_iff rfl ?_))) | (with_reducible first | refine wp_exit ?_ | refine wp_ret ?_ | refine l_nil ?_) | ((with_reducible refine g_on ?_); ((with_reducible refine g_as ?_); refine l_p txs rfl rfl ?_)))
    refine end1 rfl rfl ?_
    exact ⟨by rw [hn], H.B⟩
end Go.Proofs.YtnimaenhijlcmaaGreatDoor.K.Ref
end
section
namespace Go.Proofs.YtnimaenhijlcmaaGreatDoor.K.Ref
open Go.RowKit Go.Proofs.YtnimaenhijlcmaaGreatDoor.Q Go.Proofs.YtnimaenhijlcmaaGreatDoor.K Go.Proofs.YtnimaenhijlcmaaGreatDoor.Mb Go.Proofs.YtnimaenhijlcmaaGreatDoorW.PrintWords
set_option linter.unusedVariables false
set_option linter.unusedSimpArgs false
theorem ext_tail {y : L} (hb : Bytes y) (h : 1 ≤ y.length) : (strOfNums y).extract (1 : Int).toNat ((strOfNums y).size : Int).toNat = strOfNums y.tail := by
  refine bl_inj ?_
  have hz := sizeS' hb
  rw [blE, blS hb, blS (fun z hz => hb z (List.mem_of_mem_tail hz)), Int.toNat_natCast, hz]
  show (y.drop 1).take (y.length - 1) = y.tail
  rw [List.take_of_length_le (by rw [List.length_drop]; omega), List.drop_one]
set_option maxRecDepth 100000 in
set_option maxHeartbeats 8000000 in
theorem hosted_c (t : ByteArray) (w : World) (ht : t.size ≤ 1000000) : Calls Tryz.prog 113 #[.string t] w fun e w' => e = .returned (.string (strOfNums (hostedS (bl t)))) ∧ Below w.heap.size w w' := by
  have hlen := bl_length t
  have hbt := bl_bytes t
  refine enter (args := [.string t]) Tryz.func113 rfl Tryz.ntmps113 rfl ?_
  have H := Hp.nil w
  have z9 : (⟨#[45, 117, 110, 115, 116, 97, 98, 108, 101]⟩ : ByteArray).size = 9 := rfl
  have hen := fun w1 => ends_c t ⟨#[45, 117, 110, 115, 116, 97, 98, 108, 101]⟩ w1 (by omega) (by omega)
  rw [show bl (⟨#[45, 117, 110, 115, 116, 97, 98, 108, 101]⟩ : ByteArray) = unstable from rfl] at hen
  have hV : hostedS (bl t) = if (splitC 46 ((endCut (bl t) unstable).getD (bl t))).length < 2 ∨ ((splitC 46 ((endCut (bl t) unstable).getD (bl t))).getLastD []).length < 2 ∨ ((splitC 46 ((endCut (bl t) unstable).getD (bl t))).getLastD []).head? ≠ some 118 ∨ numB ((splitC 46 ((endCut (bl t) unstable).getD (bl t))).getLastD []).tail = false then [] else ((splitC 46 ((endCut (bl t) unstable).getD (bl t))).getLastD []).tail := rfl
  obtain ⟨hs1, hs2⟩ := endCut_sub (r := bl t) (e := unstable)
  obtain ⟨s, hs⟩ : ∃ b, b = (endCut (bl t) unstable).getD (bl t) := ⟨_, rfl⟩
  rw [← hs] at hs1 hs2 hV
  have bs : Bytes s := fun y hy => hbt y (hs1 y hy)
  have zs := sizeS' bs
  repeat' (first | (first | (with_reducible refine p_tn ?_) | (with_reducible refine p_tx ?_) | (with_reducible refine p_tr ?_) | (with_reducible refine p_bn ?_) | (with_reducible refine p_br ?_) | (with_reducible refine x_hit ?_) | (with_reducible refine x_miss rfl ?_) | (with_reducible refine wp_seq ?_) | (with_reducible refine wp_block ?_) | (with_reducible refine w_reg ?_) | (with_reducible (refine is_if ?_; first | refine w_ift rfl ?_ | refine w_iff rfl ?_)) | ((with_reducible refine is_if ?_); first | refine w_ift rfl ?_ | refine w_iff rfl ?_) | (with_reducible refine wp_skip ?_) | (with_reducible refine wp_exit ?_) | (with_reducible refine wp_ret ?_)) | (with_reducible refine p_sn ?_) | (with_reducible refine p_sr ?_) | (with_reducible refine p_sx ?_) | (with_reducible refine wp_scope_straight ?_) | (with_reducible refine wp_label ?_))
  repeat' (first | (with_reducible refine l_nil ?_) | ((with_reducible refine g_on ?_); ((with_reducible refine g_as ?_); refine l_p txs rfl rfl ?_)))
  with_reducible refine p_tn ?_
  refine w_cut (σ := Unit) (S := fun _ => [(0, .string (strOfNums s))]) (J := fun _ w' => Hp w w' [] []) ?_ ?_
  · repeat' (first | (with_reducible first | refine wp_seq ?_ | refine w_reg ?_) | ((with_reducible refine g_on ?_); ((with_reducible refine g_mv ?_); refine l_p txs rfl rfl ?_)))
    (with_reducible refine is_l ?_); refine l_callp rfl rfl (by kernel_rfl) (hen _) ?_
    cases he : endCut (bl t) unstable with
    | none =>
      rw [he] at hs
      have hs : s = bl t := hs
      rw [show (none : Option L).isSome = false from rfl]
      repeat' (first | (with_reducible refine p_tn ?_) | (with_reducible (refine is_if ?_; (refine w_iff rfl ?_))) | (with_reducible first | refine wp_skip ?_ | refine l_nil ?_))
      exact ⟨(), _, rfl, ⟨by show Value.string t = _; rw [hs, strS], trivial⟩, H⟩
    | some b =>
      rw [he] at hs
      have hs : s = b := hs
      subst hs
      have hrb := endCut_some he
      have hrl2 : t.size = s.length + 9 := by rw [← hlen, hrb, List.length_append]; rfl
      rw [show (some s).isSome = true from rfl]
      repeat' (first | (with_reducible first | refine p_tn ?_ | refine w_reg ?_) | (with_reducible (refine is_if ?_; (refine w_ift rfl ?_))) | (with_reducible refine l_nil ?_) | ((with_reducible refine g_on ?_); (first | ((with_reducible refine g_mv ?_); refine l_p txs rfl rfl ?_) | ((with_reducible refine g_as ?_); refine l_p txs rfl rfl ?_) | ((with_reducible refine g_cl ?_); refine l_p txs rfl rfl ?_) | ((with_reducible refine g_sl ?_); refine l_sl txs rfl rfl (by first | omega | assumption | decide) (by first | omega | assumption | decide) (by first | omega | assumption | decide) ?_) | ((with_reducible refine g_bi ?_); (refine l_a txs rfl rfl (by first | exact in_i64 (by omega) (by omega) | exact in_u8 (by omega) (by omega) | exact in_u64 (by omega) (by omega) | exact in_i32 (by omega) (by omega)) ?_)))))
      refine ⟨(), _, rfl, ⟨?_, trivial⟩, H⟩
      show Value.string (t.extract (0 : Int).toNat ((t.size : Int) - 9).toNat) = .string (strOfNums s)
      congr 1
      refine bl_inj ?_
      rw [blE, blS bs, hrb]
      show (List.drop 0 (s ++ unstable)).take (((t.size : Int) - 9).toNat - 0) = s
      rw [List.drop_zero, show ((t.size : Int) - 9).toNat - 0 = s.length by omega, List.take_left]
  clear H
  rintro ⟨⟩ f w_ H
  have hpi := fun w1 => pieces_c (strOfNums s) 46 w1 (by omega)
  rw [blS bs] at hpi
  have hsm := split_mem 46 s
  have hsl := split_len 46 s
  have hne := splitC_ne (c := 46) s
  repeat' (first | (with_reducible first | refine wp_seq ?_ | refine w_reg ?_) | ((with_reducible refine g_on ?_); ((with_reducible refine g_mv ?_); refine l_p txs rfl rfl ?_)))
  (with_reducible refine is_l ?_); refine l_call rfl rfl (by kernel_rfl) (hpi _) (fun e w_ hR => ?_)
  generalize splitC 46 s = N at hR hV hsm hsl hne
  obtain ⟨A1, c1, rfl, K⟩ := hR
  refine ⟨_, rfl, ?_⟩
  obtain ⟨ad, rfl⟩ := row_some K 0 rfl hne
  have H := H.join K
  have hcell := rdT_cell (rowT_at K 0 rfl) (last_get hne)
  have hNp := List.length_pos_iff.2 hne
  have by' : Bytes (N.getLastD []) := fun z hz => bs z ((hsm _ (last_mem hne)).1 z hz)
  have hyl := (hsm _ (last_mem hne)).2
  generalize N.getLastD [] = y at hV hcell by' hyl
  have zy := sizeS' by'
  repeat' (first | (with_reducible first | refine p_tn ?_ | refine wp_seq ?_ | refine w_reg ?_ | refine l_nil ?_) | ((with_reducible refine g_on ?_); (first | ((with_reducible refine g_mv ?_); refine l_p txs rfl rfl ?_) | ((with_reducible refine g_as ?_); refine l_p txs rfl rfl ?_) | ((with_reducible refine g_cl ?_); refine l_p txs rfl rfl ?_) | ((with_reducible refine g_ia ?_); refine l_ia txs rfl rfl (by first | omega | assumption | decide) (by first | omega | assumption | decide) ?_) | ((with_reducible refine g_bi ?_); (refine l_a txs rfl rfl (by first | exact in_i64 (by omega) (by omega) | exact in_u8 (by omega) (by omega) | exact in_u64 (by omega) (by omega) | exact in_i32 (by omega) (by omega)) ?_)))))
  (with_reducible refine is_l ?_); refine l_ld txs rfl rfl (by rw [show ((N.length : Int) - 1).toNat = N.length - 1 by omega]; exact hcell) ?_
  repeat' (first | (with_reducible first | refine p_tn ?_ | refine wp_seq ?_ | refine w_reg ?_ | refine l_nil ?_) | ((with_reducible refine g_on ?_); (first | ((with_reducible refine g_mv ?_); refine l_p txs rfl rfl ?_) | ((with_reducible refine g_as ?_); refine l_p txs rfl rfl ?_) | ((with_reducible refine g_cl ?_); refine l_p txs rfl rfl ?_))))
  (with_reducible refine is_l ?_); refine l_t txs rfl rfl (fun q1 => ?_) (fun q1 => ?_)
  · have hn : hostedS (bl t) = [] := by rw [hV, if_pos (.inl (by omega))]
    repeat' (first | (with_reducible first | refine p_tn ?_ | refine p_tr ?_ | refine wp_seq ?_ | refine w_reg ?_) | (with_reducible (refine is_if ?_; (refine w_ift rfl ?_))) | (with_reducible first | refine wp_ret ?_ | refine l_nil ?_) | ((with_reducible refine g_on ?_); (first | ((with_reducible refine g_mv ?_); refine l_p txs rfl rfl ?_) | ((with_reducible refine g_as ?_); refine l_p txs rfl rfl ?_) | ((with_reducible refine g_pk ?_); refine l_p txs rfl rfl ?_))) | ((with_reducible refine g_if ?_); (refine l_off rfl ?_)))
    refine end1 rfl rfl ?_
    exact ⟨by rw [hn]; rfl, H.B⟩
  repeat' (first | ((with_reducible refine g_on ?_); ((with_reducible refine g_mv ?_); refine l_p txs rfl rfl ?_)) | ((with_reducible refine g_if ?_); (first | ((with_reducible refine g_mv ?_); refine l_p txs rfl rfl ?_) | ((with_reducible refine g_cl ?_); refine l_p txs rfl rfl ?_))))
  (with_reducible refine is_l ?_); refine l_t txs rfl rfl (fun q2 => ?_) (fun q2 => ?_)
  · have hn : hostedS (bl t) = [] := by rw [hV, if_pos (.inr (.inl (by omega)))]
    repeat' (first | (with_reducible first | refine p_tn ?_ | refine p_tr ?_ | refine wp_seq ?_ | refine w_reg ?_) | (with_reducible (refine is_if ?_; (refine w_ift rfl ?_))) | (with_reducible first | refine wp_ret ?_ | refine l_nil ?_) | ((with_reducible refine g_on ?_); (first | ((with_reducible refine g_mv ?_); refine l_p txs rfl rfl ?_) | ((with_reducible refine g_as ?_); refine l_p txs rfl rfl ?_) | ((with_reducible refine g_pk ?_); refine l_p txs rfl rfl ?_))) | ((with_reducible refine g_if ?_); (refine l_off rfl ?_)))
    refine end1 rfl rfl ?_
    exact ⟨by rw [hn]; rfl, H.B⟩
  have hy0 : y ≠ [] := fun e => by
    have h0 : y.length = 0 := by rw [e]; rfl
    omega
  have hhd := head_at hy0
  repeat' (first | ((with_reducible refine g_on ?_); (first | ((with_reducible refine g_mv ?_); refine l_p txs rfl rfl ?_) | ((with_reducible refine g_pk ?_); refine l_p txs rfl rfl ?_))) | ((with_reducible refine g_if ?_); (first | ((with_reducible refine g_mv ?_); refine l_p txs rfl rfl ?_) | ((with_reducible refine g_ix ?_); refine l_ix txs rfl rfl (by first | omega | assumption | decide) (by first | omega | assumption | decide) ?_))))
  rw [blS by']
  skip
  (with_reducible refine is_l ?_); refine l_t txs rfl rfl (fun q3 => ?_) (fun q3 => ?_)
  · have hn : hostedS (bl t) = [] := by rw [hV, if_pos (.inr (.inr (.inl (by rw [hhd]; exact fun e => q3 (Option.some.inj e)))))]
    repeat' (first | (with_reducible first | refine p_tn ?_ | refine p_tr ?_ | refine wp_seq ?_ | refine w_reg ?_) | (with_reducible (refine is_if ?_; (refine w_ift rfl ?_))) | (with_reducible first | refine wp_ret ?_ | refine l_nil ?_) | ((with_reducible refine g_on ?_); (first | ((with_reducible refine g_mv ?_); refine l_p txs rfl rfl ?_) | ((with_reducible refine g_as ?_); refine l_p txs rfl rfl ?_) | ((with_reducible refine g_pk ?_); refine l_p txs rfl rfl ?_))) | ((with_reducible refine g_if ?_); (refine l_off rfl ?_)))
    refine end1 rfl rfl ?_
    exact ⟨by rw [hn]; rfl, H.B⟩
  have bt : Bytes y.tail := fun z hz => by' z (List.mem_of_mem_tail hz)
  have hnu := fun w1 => number_c (strOfNums y.tail) w1 (by rw [sizeS' bt, List.length_tail]; omega)
  rw [blS bt] at hnu
  repeat' (first | ((with_reducible refine g_on ?_); (first | ((with_reducible refine g_mv ?_); refine l_p txs rfl rfl ?_) | ((with_reducible refine g_pk ?_); refine l_p txs rfl rfl ?_))) | ((with_reducible refine g_if ?_); (first | ((with_reducible refine g_mv ?_); refine l_p txs rfl rfl ?_) | ((with_reducible refine g_sl ?_); refine l_sl txs rfl rfl (by first | omega | assumption | decide) (by first | omega | assumption | decide) (by first | omega | assumption | decide) ?_))))
  rw [ext_tail by' (by omega)]
  (with_reducible refine is_l ?_); refine l_callp rfl rfl (by kernel_rfl) (hnu _) ?_
  cases q4 : numB y.tail
  · have hn : hostedS (bl t) = [] := by rw [hV, if_pos (.inr (.inr (.inr q4)))]
    repeat' (first | (with_reducible first | refine p_tn ?_ | refine p_tr ?_ | refine wp_seq ?_ | refine w_reg ?_) | (with_reducible (refine is_if ?_; (refine w_ift rfl ?_))) | (with_reducible first | refine wp_ret ?_ | refine l_nil ?_) | ((with_reducible refine g_on ?_); (first | ((with_reducible refine g_as ?_); refine l_p txs rfl rfl ?_) | ((with_reducible refine g_pk ?_); refine l_p txs rfl rfl ?_))) | ((with_reducible refine g_if ?_); ((with_reducible refine g_un ?_); (refine l_p txs rfl rfl ?_))))
    refine end1 rfl rfl ?_
    exact ⟨by rw [hn]; rfl, H.B⟩
  · have hn : hostedS (bl t) = y.tail := by
      rw [hV, if_neg]
      rintro (h | h | h | h)
      · omega
      · omega
      · rw [hhd, Classical.not_not.1 q3] at h
        exact h rfl
      · rw [q4] at h
        cases h
    repeat' (first | (with_reducible first | refine p_tn ?_ | refine wp_seq ?_ | refine w_reg ?_) | (with_reducible (refine is_if ?_; (refine w_iff rfl ?_))) | (with_reducible first | refine wp_skip ?_ | refine wp_ret ?_ | refine l_nil ?_) | ((with_reducible refine g_on ?_); (first | ((with_reducible refine g_mv ?_); refine l_p txs rfl rfl ?_) | ((with_reducible refine g_as ?_); refine l_p txs rfl rfl ?_) | ((with_reducible refine g_pk ?_); refine l_p txs rfl rfl ?_) | ((with_reducible refine g_sl ?_); refine l_sl txs rfl rfl (by first | omega | assumption | decide) (by first | omega | assumption | decide) (by first | omega | assumption | decide) ?_))) | ((with_reducible refine g_if ?_); ((with_reducible refine g_un ?_); (refine l_p txs rfl rfl ?_))))
    rw [ext_tail by' (by omega)]
    skip
    refine end1 rfl rfl ?_
    exact ⟨by rw [hn], H.B⟩
theorem relem_ne {x : L} (h : relemB x = true) : x ≠ [] := by
  intro e
  rw [e] at h
  cases h
set_option maxRecDepth 100000 in
set_option maxHeartbeats 16000000 in
theorem Major_c {w : World} {t2 : TypeId} {fr : Nat × Nat} (hD : w.heap[3]? = some (.cells deC t2 fr)) (t : ByteArray) :
    Calls Tryz.prog 69 #[.string t] w fun e w' => e = .returned (.tuple #[.string (strOfNums (refMajor (bl t)).1), .bool (refMajor (bl t)).2]) ∧ Below w.heap.size w w' := by
  have hDb : ∀ w1, Below w.heap.size w w1 → w1.heap[3]? = some (.cells deC t2 fr) := fun w1 K => (K.block _ (blk_lt hD)).trans hD
  have hlen := bl_length t
  have hbt := bl_bytes t
  refine enter (args := [.string t]) Tryz.func69 rfl Tryz.ntmps69 rfl ?_
  have H := Hp.nil w
  have hV : refMajor (bl t) = if 255 < (bl t).length then ([], false) else if (splitC 47 (bl t)).all relemB = false then ([], false) else if hostB ((splitC 47 (bl t)).headD []) = false then ([], false)
    else if (splitC 47 (bl t)).headD [] = gopkg then (hostedS ((splitC 47 (bl t)).getLastD []), decide (hostedS ((splitC 47 (bl t)).getLastD []) ≠ []) && decide (1 < (splitC 47 (bl t)).length))
    else if (decide (1 < (splitC 47 (bl t)).length) && tailedB ((splitC 47 (bl t)).getLastD [])) = true then (((splitC 47 (bl t)).getLastD []).tail, numB ((splitC 47 (bl t)).getLastD []).tail && decide (((splitC 47 (bl t)).getLastD []).tail ≠ [48]) && decide (((splitC 47 (bl t)).getLastD []).tail ≠ [49]))
    else ([], true) := rfl
  repeat' (first | (with_reducible first | refine p_tn ?_ | refine wp_seq ?_ | refine w_reg ?_ | refine l_nil ?_) | ((with_reducible refine g_on ?_); (first | ((with_reducible refine g_mv ?_); refine l_p txs rfl rfl ?_) | ((with_reducible refine g_as ?_); refine l_p txs rfl rfl ?_) | ((with_reducible refine g_cl ?_); refine l_p txs rfl rfl ?_))))
  (with_reducible refine is_l ?_); refine l_t txs rfl rfl (fun q1 => ?_) (fun q1 => ?_)
  · have hn : refMajor (bl t) = ([], false) := by rw [hV, if_pos (by omega)]
    repeat' (first | (with_reducible first | refine p_tn ?_ | refine p_tr ?_ | refine wp_seq ?_ | refine w_reg ?_) | (with_reducible (refine is_if ?_; (refine w_ift rfl ?_))) | (with_reducible first | refine wp_ret ?_ | refine l_nil ?_) | ((with_reducible refine g_on ?_); ((with_reducible refine g_as ?_); refine l_p txs rfl rfl ?_)))
    refine end2 rfl rfl rfl ?_
    exact ⟨by rw [hn]; first | done | rfl, H.B⟩
  rw [if_neg (by omega)] at hV
  have hpi := fun w1 => pieces_c t 47 w1 (by omega)
  have hsm := split_mem 47 (bl t)
  have hsl := split_len 47 (bl t)
  have hne := splitC_ne (c := 47) (bl t)
  repeat' (first | (with_reducible first | refine p_tn ?_ | refine wp_seq ?_ | refine w_reg ?_) | (with_reducible (refine is_if ?_; (refine w_iff rfl ?_))) | (with_reducible first | refine wp_skip ?_ | refine l_nil ?_) | ((with_reducible refine g_on ?_); ((with_reducible refine g_mv ?_); refine l_p txs rfl rfl ?_)))
  (with_reducible refine is_l ?_); refine l_call rfl rfl (by kernel_rfl) (hpi _) (fun e w_ hR => ?_)
  generalize splitC 47 (bl t) = N at hR hV hsm hsl hne
  obtain ⟨A1, c1, rfl, KK⟩ := hR
  refine ⟨_, rfl, ?_⟩
  obtain ⟨ad, rfl⟩ := row_some KK 0 rfl hne
  have hRd := rowT_at KK 0 rfl
  have H := H.join KK
  have hNp := List.length_pos_iff.2 hne
  repeat' (first | (with_reducible first | refine p_tn ?_ | refine wp_seq ?_ | refine wp_block ?_ | refine w_reg ?_ | refine l_nil ?_) | ((with_reducible refine g_on ?_); ((with_reducible refine g_as ?_); refine l_p txs rfl rfl ?_)))
  refine w_loop (σ := Nat) (S := fun s => [(4, .slice (some ad) N.length c1), (5, .int .i64 (s : Int))]) (J := fun s w' => Hp w w' [] [rowT (.slice (some ad) N.length c1) N] ∧ s ≤ N.length ∧ (N.take s).all relemB = true) (μ := fun s => N.length - s) 0 ⟨rfl, rfl, trivial⟩ ⟨H, by omega, by simp⟩ ?_
  clear H hRd
  rintro i f w_ ⟨H, hi, ha⟩
  have hRd := rowT_at H 0 rfl
  repeat' (first | (with_reducible first | refine wp_seq ?_ | refine w_reg ?_) | ((with_reducible refine g_on ?_); (first | ((with_reducible refine g_mv ?_); refine l_p txs rfl rfl ?_) | ((with_reducible refine g_cl ?_); refine l_p txs rfl rfl ?_))))
  (with_reducible refine is_l ?_); refine l_t txs rfl rfl (fun hlt => ?_) (fun hge => ?_)
  · obtain ⟨y, hy⟩ : ∃ y, N[i]? = some y := ⟨_, List.getElem?_eq_getElem (by omega)⟩
    obtain ⟨m1, m2⟩ := hsm y (List.mem_of_getElem? hy)
    have by' : Bytes y := fun z hz => hbt z (m1 z hz)
    have zy := sizeS' by'
    have hcell := rdT_cell hRd hy
    repeat' (first | (with_reducible first | refine p_tn ?_ | refine wp_seq ?_ | refine wp_block ?_ | refine w_reg ?_) | (with_reducible (refine is_if ?_; (refine w_ift rfl ?_))) | (with_reducible first | refine wp_skip ?_ | refine l_nil ?_) | ((with_reducible refine g_on ?_); (first | ((with_reducible refine g_mv ?_); refine l_p txs rfl rfl ?_) | ((with_reducible refine g_ia ?_); refine l_ia txs rfl rfl (by first | omega | assumption | decide) (by first | omega | assumption | decide) ?_))))
    (with_reducible refine is_l ?_); refine l_ld txs rfl rfl (by rw [Int.toNat_natCast]; exact hcell) ?_
    have hw := element_c (hDb _ H.B) (strOfNums y) (by omega)
    rw [blS by'] at hw
    (with_reducible refine is_l ?_); refine l_callv rfl rfl (by kernel_rfl) hw (fun w_ K => ?_)
    have H := H.call K
    cases hwb : relemB y
    · have hn : refMajor (bl t) = ([], false) := by
        rw [hV, if_pos]
        rw [List.all_eq_false]
        exact ⟨y, List.mem_of_getElem? hy, by rw [hwb]; simp⟩
      repeat' (first | (with_reducible first | refine p_tn ?_ | refine p_tr ?_ | refine p_br ?_ | refine wp_seq ?_ | refine w_reg ?_) | (with_reducible (refine is_if ?_; (refine w_ift rfl ?_))) | (with_reducible first | refine wp_ret ?_ | refine l_nil ?_) | ((with_reducible refine g_on ?_); (first | ((with_reducible refine g_as ?_); refine l_p txs rfl rfl ?_) | ((with_reducible refine g_un ?_); (refine l_p txs rfl rfl ?_)))))
      refine end2 rfl rfl rfl ?_
      exact ⟨by rw [hn]; first | done | rfl, H.B⟩
    · repeat' (first | (with_reducible first | refine p_tn ?_ | refine p_bn ?_ | refine w_reg ?_) | (with_reducible (refine is_if ?_; (refine w_iff rfl ?_))) | (with_reducible first | refine wp_skip ?_ | refine l_nil ?_) | ((with_reducible refine g_on ?_); (first | ((with_reducible refine g_mv ?_); refine l_p txs rfl rfl ?_) | ((with_reducible refine g_as ?_); refine l_p txs rfl rfl ?_) | ((with_reducible refine g_un ?_); (refine l_p txs rfl rfl ?_)) | ((with_reducible refine g_bi ?_); (refine l_a txs rfl rfl (by first | exact in_i64 (by omega) (by omega) | exact in_u8 (by omega) (by omega) | exact in_u64 (by omega) (by omega) | exact in_i32 (by omega) (by omega)) ?_)))))
      refine ⟨i + 1, _, rfl, ⟨rfl, rfl, trivial⟩, ⟨H, by omega, ?_⟩, by omega⟩
      rw [List.take_succ_eq_append_getElem (by omega), List.all_append, ha, (List.getElem?_eq_some_iff.1 hy).2]
      simp [hwb]
  have hall : N.all relemB = true := by rw [← List.take_of_length_le (l := N) (i := i) (by omega)]; exact ha
  rw [if_neg (by rw [hall]; simp)] at hV
  obtain ⟨x, r, hxr⟩ : ∃ x r, N = x :: r := by
    cases N with
    | nil => exact absurd rfl hne
    | cons x r => exact ⟨x, r, rfl⟩
  have hx0 : N[0]? = some x := by rw [hxr]; rfl
  have hhx : N.headD [] = x := by rw [hxr]; rfl
  rw [hhx] at hV
  obtain ⟨m1, m2⟩ := hsm x (List.mem_of_getElem? hx0)
  have bx : Bytes x := fun z hz => hbt z (m1 z hz)
  have zx := sizeS' bx
  have xne := relem_ne (List.all_eq_true.1 hall x (List.mem_of_getElem? hx0))
  obtain ⟨l1, l2⟩ := hsm _ (last_mem hne)
  have hlc := rdT_cell hRd (last_get hne)
  have yne := relem_ne (List.all_eq_true.1 hall _ (last_mem hne))
  generalize N.getLastD [] = y at hV l1 l2 hlc yne
  have by' : Bytes y := fun z hz => hbt z (l1 z hz)
  have zy := sizeS' by'
  have yl := List.length_pos_iff.2 yne
  repeat' (first | (with_reducible first | refine p_tn ?_ | refine p_tx ?_ | refine x_hit ?_ | refine wp_seq ?_ | refine w_reg ?_) | (with_reducible (refine is_if ?_; (refine w_iff rfl ?_))) | (with_reducible first | refine wp_exit ?_ | refine l_nil ?_) | ((with_reducible refine g_on ?_); (first | ((with_reducible refine g_mv ?_); refine l_p txs rfl rfl ?_) | ((with_reducible refine g_ia ?_); refine l_ia txs rfl rfl (by first | omega | assumption | decide) (by first | omega | assumption | decide) ?_))))
  (with_reducible refine is_l ?_); refine l_ld txs rfl rfl (rdT_cell hRd hx0) ?_
  have hfi := fun w1 => first_c (strOfNums x) w1 (by omega) (by rw [blS bx]; exact xne)
  rw [blS bx] at hfi
  (with_reducible refine is_l ?_); refine l_callv rfl rfl (by kernel_rfl) (hfi _) (fun w_ K => ?_)
  have hRd := hRd.below K
  have hlc := pw_cell_below K hlc
  have H := H.call K
  cases hfb : hostB x
  · have hn : refMajor (bl t) = ([], false) := by rw [hV, if_pos hfb]
    repeat' (first | (with_reducible first | refine p_tn ?_ | refine p_tr ?_ | refine wp_seq ?_ | refine w_reg ?_) | (with_reducible (refine is_if ?_; (refine w_ift rfl ?_))) | (with_reducible first | refine wp_ret ?_ | refine l_nil ?_) | ((with_reducible refine g_on ?_); (first | ((with_reducible refine g_as ?_); refine l_p txs rfl rfl ?_) | ((with_reducible refine g_un ?_); (refine l_p txs rfl rfl ?_)))))
    refine end2 rfl rfl rfl ?_
    exact ⟨by rw [hn]; first | done | rfl, H.B⟩
  rw [if_neg (by rw [hfb]; simp)] at hV
  repeat' (first | (with_reducible first | refine p_tn ?_ | refine wp_seq ?_ | refine w_reg ?_) | (with_reducible (refine is_if ?_; (refine w_iff rfl ?_))) | (with_reducible first | refine wp_skip ?_ | refine l_nil ?_) | ((with_reducible refine g_on ?_); (first | ((with_reducible refine g_mv ?_); refine l_p txs rfl rfl ?_) | ((with_reducible refine g_un ?_); (refine l_p txs rfl rfl ?_)) | ((with_reducible refine g_cl ?_); refine l_p txs rfl rfl ?_) | ((with_reducible refine g_ia ?_); refine l_ia txs rfl rfl (by first | omega | assumption | decide) (by first | omega | assumption | decide) ?_) | ((with_reducible refine g_bi ?_); (refine l_a txs rfl rfl (by first | exact in_i64 (by omega) (by omega) | exact in_u8 (by omega) (by omega) | exact in_u64 (by omega) (by omega) | exact in_i32 (by omega) (by omega)) ?_)))))
  (with_reducible refine is_l ?_); refine l_ld txs rfl rfl (by rw [show ((N.length : Int) - 1).toNat = N.length - 1 by omega]; exact hlc) ?_
  repeat' (first | (with_reducible first | refine p_tn ?_ | refine wp_seq ?_ | refine w_reg ?_ | refine l_nil ?_) | ((with_reducible refine g_on ?_); (first | ((with_reducible refine g_mv ?_); refine l_p txs rfl rfl ?_) | ((with_reducible refine g_as ?_); refine l_p txs rfl rfl ?_) | ((with_reducible refine g_ia ?_); refine l_ia txs rfl rfl (by first | omega | assumption | decide) (by first | omega | assumption | decide) ?_))))
  (with_reducible refine is_l ?_); refine l_ld txs rfl rfl (rdT_cell hRd hx0) ?_
  skip
  (with_reducible refine is_l ?_); refine l_t txs rfl rfl (fun q2 => ?_) (fun q2 => ?_)
  · rw [blS bx, show bl (⟨#[103, 111, 112, 107, 103, 46, 105, 110]⟩ : ByteArray) = gopkg from rfl] at q2
    rw [if_pos q2] at hV
    have hho := fun w1 => hosted_c (strOfNums y) w1 (by omega)
    rw [blS by'] at hho
    have bh : Bytes (hostedS y) := fun z hz => by'  z (by
      unfold hostedS at hz
      split at hz
      · cases hz
      · have h1 := List.mem_of_mem_tail hz
        exact (endCut_sub (r := y) (e := unstable)).1 z ((split_mem 46 ((endCut y unstable).getD y) _ (last_mem (splitC_ne _))).1 z h1))
    generalize hostedS y = m at hV hho bh
    repeat' (first | (with_reducible first | refine p_tn ?_ | refine wp_seq ?_ | refine w_reg ?_) | (with_reducible (refine is_if ?_; (refine w_ift rfl ?_))) | (with_reducible refine l_nil ?_) | ((with_reducible refine g_on ?_); ((with_reducible refine g_mv ?_); refine l_p txs rfl rfl ?_)))
    (with_reducible refine is_l ?_); refine l_callv rfl rfl (by kernel_rfl) (hho _) (fun w_ K => ?_)
    have H := H.call K
    repeat' (first | (with_reducible first | refine p_tn ?_ | refine wp_seq ?_ | refine w_reg ?_ | refine l_nil ?_) | ((with_reducible refine g_on ?_); (first | ((with_reducible refine g_mv ?_); refine l_p txs rfl rfl ?_) | ((with_reducible refine g_as ?_); refine l_p txs rfl rfl ?_))))
    (with_reducible refine is_l ?_); refine l_t txs rfl rfl (fun q3 => ?_) (fun q3 => ?_)
    · rw [blS bh] at q3
      have q3 : m ≠ [] := q3
      repeat' (first | ((with_reducible refine g_on ?_); ((with_reducible refine g_mv ?_); refine l_p txs rfl rfl ?_)) | ((with_reducible refine g_if ?_); (first | ((with_reducible refine g_mv ?_); refine l_p txs rfl rfl ?_) | ((with_reducible refine g_cl ?_); refine l_p txs rfl rfl ?_))))
      (with_reducible refine is_l ?_); refine l_t txs rfl rfl (fun q4 => ?_) (fun q4 => ?_)
      · have hn : refMajor (bl t) = (m, true) := by rw [hV, decide_eq_true q3, decide_eq_true (by omega)]; rfl
        repeat' (first | (with_reducible first | refine p_tn ?_ | refine p_tr ?_ | refine wp_ret ?_ | refine l_nil ?_) | ((with_reducible refine g_on ?_); (first | ((with_reducible refine g_as ?_); refine l_p txs rfl rfl ?_) | ((with_reducible refine g_pk ?_); refine l_p txs rfl rfl ?_))))
        refine end2 rfl rfl rfl ?_
        exact ⟨by rw [hn]; first | done | rfl, H.B⟩
      · have hn : refMajor (bl t) = (m, false) := by rw [hV, decide_eq_true q3, decide_eq_false (by omega)]; rfl
        repeat' (first | (with_reducible first | refine p_tn ?_ | refine p_tr ?_ | refine wp_ret ?_ | refine l_nil ?_) | ((with_reducible refine g_on ?_); (first | ((with_reducible refine g_as ?_); refine l_p txs rfl rfl ?_) | ((with_reducible refine g_pk ?_); refine l_p txs rfl rfl ?_))))
        refine end2 rfl rfl rfl ?_
        exact ⟨by rw [hn]; first | done | rfl, H.B⟩
    · rw [blS bh] at q3
      have q3 : m = [] := Classical.not_not.1 q3
      have hn : refMajor (bl t) = (m, false) := by rw [hV, q3]; rfl
      repeat' (first | (with_reducible first | refine p_tn ?_ | refine p_tr ?_ | refine wp_ret ?_ | refine l_nil ?_) | ((with_reducible refine g_on ?_); (first | ((with_reducible refine g_mv ?_); refine l_p txs rfl rfl ?_) | ((with_reducible refine g_as ?_); refine l_p txs rfl rfl ?_) | ((with_reducible refine g_pk ?_); refine l_p txs rfl rfl ?_))) | ((with_reducible refine g_if ?_); (refine l_off rfl ?_)))
      refine end2 rfl rfl rfl ?_
      exact ⟨by rw [hn]; first | done | rfl, H.B⟩
  rw [blS bx, show bl (⟨#[103, 111, 112, 107, 103, 46, 105, 110]⟩ : ByteArray) = gopkg from rfl] at q2
  rw [if_neg q2] at hV
  repeat' (first | (with_reducible first | refine p_tn ?_ | refine wp_seq ?_ | refine w_reg ?_) | (with_reducible (refine is_if ?_; (refine w_iff rfl ?_))) | (with_reducible first | refine wp_skip ?_ | refine l_nil ?_) | ((with_reducible refine g_on ?_); (first | ((with_reducible refine g_mv ?_); refine l_p txs rfl rfl ?_) | ((with_reducible refine g_cl ?_); refine l_p txs rfl rfl ?_))))
  (with_reducible refine is_l ?_); refine l_t txs rfl rfl (fun q3 => ?_) (fun q3 => ?_)
  rotate_left
  · have hn : refMajor (bl t) = ([], true) := by rw [hV, decide_eq_false (by omega), if_neg (by simp)]
    repeat' (first | (with_reducible first | refine p_tn ?_ | refine wp_seq ?_ | refine w_reg ?_) | (with_reducible (refine is_if ?_; (refine w_iff rfl ?_))) | (with_reducible first | refine wp_skip ?_ | refine wp_ret ?_ | refine l_nil ?_) | ((with_reducible refine g_on ?_); (first | ((with_reducible refine g_mv ?_); refine l_p txs rfl rfl ?_) | ((with_reducible refine g_as ?_); refine l_p txs rfl rfl ?_) | ((with_reducible refine g_pk ?_); refine l_p txs rfl rfl ?_))) | ((with_reducible refine g_if ?_); (refine l_off rfl ?_)))
    refine end2 rfl rfl rfl ?_
    exact ⟨by rw [hn]; first | done | rfl, H.B⟩
  rw [decide_eq_true (show 1 < N.length by omega), Bool.true_and] at hV
  have hta := fun w1 => tailed_c (strOfNums y) w1 (by omega)
  rw [blS by'] at hta
  repeat' (first | ((with_reducible refine g_on ?_); ((with_reducible refine g_mv ?_); refine l_p txs rfl rfl ?_)) | ((with_reducible refine g_if ?_); ((with_reducible refine g_mv ?_); refine l_p txs rfl rfl ?_)))
  (with_reducible refine is_l ?_); refine l_callv rfl rfl (by kernel_rfl) (hta _) (fun w_ K => ?_)
  have H := H.call K
  cases q4 : tailedB y
  · have hn : refMajor (bl t) = ([], true) := by rw [hV, q4, if_neg (by simp)]
    repeat' (first | (with_reducible first | refine p_tn ?_ | refine wp_seq ?_ | refine w_reg ?_) | (with_reducible (refine is_if ?_; (refine w_iff rfl ?_))) | (with_reducible first | refine wp_skip ?_ | refine wp_ret ?_ | refine l_nil ?_) | ((with_reducible refine g_on ?_); (first | ((with_reducible refine g_as ?_); refine l_p txs rfl rfl ?_) | ((with_reducible refine g_pk ?_); refine l_p txs rfl rfl ?_))))
    refine end2 rfl rfl rfl ?_
    exact ⟨by rw [hn]; first | done | rfl, H.B⟩
  rw [if_pos q4] at hV
  have bt : Bytes y.tail := fun z hz => by' z (List.mem_of_mem_tail hz)
  have hnu := fun w1 => number_c (strOfNums y.tail) w1 (by rw [sizeS' bt, List.length_tail]; omega)
  rw [blS bt] at hnu
  repeat' (first | (with_reducible first | refine p_tn ?_ | refine wp_seq ?_ | refine w_reg ?_) | (with_reducible (refine is_if ?_; (refine w_ift rfl ?_))) | (with_reducible refine l_nil ?_) | ((with_reducible refine g_on ?_); (first | ((with_reducible refine g_mv ?_); refine l_p txs rfl rfl ?_) | ((with_reducible refine g_as ?_); refine l_p txs rfl rfl ?_) | ((with_reducible refine g_pk ?_); refine l_p txs rfl rfl ?_) | ((with_reducible refine g_sl ?_); refine l_sl txs rfl rfl (by first | omega | assumption | decide) (by first | omega | assumption | decide) (by first | omega | assumption | decide) ?_))))
  rw [ext_tail by' (by omega)]
  skip
  (with_reducible refine is_l ?_); refine l_callp rfl rfl (by kernel_rfl) (hnu _) ?_
  have e48 : bl (⟨#[48]⟩ : ByteArray) = [48] := rfl
  have e49 : bl (⟨#[49]⟩ : ByteArray) = [49] := rfl
  cases q5 : numB y.tail
  · have hn : refMajor (bl t) = (y.tail, false) := by rw [hV, q5]; rfl
    repeat' (first | (with_reducible first | refine p_tn ?_ | refine p_tr ?_ | refine wp_ret ?_ | refine l_nil ?_) | ((with_reducible refine g_on ?_); (first | ((with_reducible refine g_mv ?_); refine l_p txs rfl rfl ?_) | ((with_reducible refine g_as ?_); refine l_p txs rfl rfl ?_) | ((with_reducible refine g_pk ?_); refine l_p txs rfl rfl ?_))) | ((with_reducible refine g_if ?_); (refine l_off rfl ?_)))
    refine end2 rfl rfl rfl ?_
    exact ⟨by rw [hn]; first | done | rfl, H.B⟩
  repeat' (first | ((with_reducible refine g_on ?_); ((with_reducible refine g_mv ?_); refine l_p txs rfl rfl ?_)) | ((with_reducible refine g_if ?_); ((with_reducible refine g_mv ?_); refine l_p txs rfl rfl ?_)))
  (with_reducible refine is_l ?_); refine l_t txs rfl rfl (fun q6 => ?_) (fun q6 => ?_)
  rotate_left
  · rw [blS bt, e48] at q6
    have hn : refMajor (bl t) = (y.tail, false) := by rw [hV, Classical.not_not.1 q6]; simp
    repeat' (first | (with_reducible first | refine p_tn ?_ | refine p_tr ?_ | refine wp_ret ?_ | refine l_nil ?_) | ((with_reducible refine g_on ?_); (first | ((with_reducible refine g_mv ?_); refine l_p txs rfl rfl ?_) | ((with_reducible refine g_as ?_); refine l_p txs rfl rfl ?_) | ((with_reducible refine g_pk ?_); refine l_p txs rfl rfl ?_))) | ((with_reducible refine g_if ?_); (refine l_off rfl ?_)))
    refine end2 rfl rfl rfl ?_
    exact ⟨by rw [hn]; first | done | rfl, H.B⟩
  rw [blS bt, e48] at q6
  repeat' (first | ((with_reducible refine g_on ?_); (first | ((with_reducible refine g_mv ?_); refine l_p txs rfl rfl ?_) | ((with_reducible refine g_pk ?_); refine l_p txs rfl rfl ?_))) | ((with_reducible refine g_if ?_); ((with_reducible refine g_mv ?_); refine l_p txs rfl rfl ?_)))
  (with_reducible refine is_l ?_); refine l_t txs rfl rfl (fun q7 => ?_) (fun q7 => ?_)
  rotate_left
  · rw [blS bt, e49] at q7
    have hn : refMajor (bl t) = (y.tail, false) := by rw [hV, Classical.not_not.1 q7]; simp
    repeat' (first | (with_reducible first | refine p_tn ?_ | refine p_tr ?_ | refine wp_ret ?_ | refine l_nil ?_) | ((with_reducible refine g_on ?_); (first | ((with_reducible refine g_as ?_); refine l_p txs rfl rfl ?_) | ((with_reducible refine g_pk ?_); refine l_p txs rfl rfl ?_))))
    refine end2 rfl rfl rfl ?_
    exact ⟨by rw [hn]; first | done | rfl, H.B⟩
  rw [blS bt, e49] at q7
  have hn : refMajor (bl t) = (y.tail, true) := by rw [hV, q5, decide_eq_true q6, decide_eq_true q7]; rfl
  repeat' (first | (with_reducible first | refine p_tn ?_ | refine p_tr ?_ | refine wp_ret ?_ | refine l_nil ?_) | ((with_reducible refine g_on ?_); (first | ((with_reducible refine g_as ?_); refine l_p txs rfl rfl ?_) | ((with_reducible refine g_pk ?_); refine l_p txs rfl rfl ?_))))
  refine end2 rfl rfl rfl ?_
  exact ⟨by rw [hn]; first | done | rfl, H.B⟩
end Go.Proofs.YtnimaenhijlcmaaGreatDoor.K.Ref
end
section
namespace Go.Proofs.YtnimaenhijlcmaaGreatDoor.K.Ref
open Go.RowKit Go.Proofs.YtnimaenhijlcmaaGreatDoor.Q Go.Proofs.YtnimaenhijlcmaaGreatDoor.K Go.Proofs.YtnimaenhijlcmaaGreatDoor.Mb Go.Proofs.YtnimaenhijlcmaaGreatDoorW.PrintWords
set_option linter.unusedVariables false
set_option linter.unusedSimpArgs false
set_option maxRecDepth 100000 in
set_option maxHeartbeats 16000000 in
theorem Fits_c {w : World} {t2 : TypeId} {fr : Nat × Nat} (hD : w.heap[3]? = some (.cells deC t2 fr)) (t u : ByteArray) :
    Calls Tryz.prog 46 #[.string t, .string u] w fun e w' => e = .returned (.int .i64 (checkS (bl t) (bl u) : Int)) ∧ Below w.heap.size w w' := by
  refine enter (args := [.string t, .string u]) Tryz.func46 rfl Tryz.ntmps46 rfl ?_
  have H := Hp.nil w
  have hV : checkS (bl t) (bl u) = if pathS (bl t) = false then 110 else match parseV (bl u) with | none => 111 | some x => if fitsV x (bl t) then 0 else 111 := rfl
  have hma := fun (w1 : World) (h1 : w1.heap[3]? = some (.cells deC t2 fr)) => Major_c h1 t
  rw [refMajor_eq] at hma
  have bm : Bytes (majorS (bl t)).1 := fun y hy => bl_bytes t y (major_sub _ y hy)
  cases hp : pathS (bl t)
  · rw [hp] at hma
    have hn : checkS (bl t) (bl u) = 110 := by rw [hV, if_pos hp]
    repeat' (first | (with_reducible first | refine p_tn ?_ | refine wp_seq ?_ | refine w_reg ?_ | refine l_nil ?_) | ((with_reducible refine g_on ?_); (first | ((with_reducible refine g_mv ?_); refine l_p txs rfl rfl ?_) | ((with_reducible refine g_as ?_); refine l_p txs rfl rfl ?_))))
    (with_reducible refine is_l ?_); refine l_callv rfl rfl (by kernel_rfl) (hma _ hD) (fun w_ K => ?_)
    have H := H.call K
    repeat' (first | (with_reducible first | refine p_tn ?_ | refine p_tr ?_ | refine wp_seq ?_ | refine w_reg ?_) | (with_reducible (refine is_if ?_; (refine w_ift rfl ?_))) | (with_reducible first | refine wp_ret ?_ | refine l_nil ?_) | ((with_reducible refine g_on ?_); (first | ((with_reducible refine g_mv ?_); refine l_p txs rfl rfl ?_) | ((with_reducible refine g_as ?_); refine l_p txs rfl rfl ?_) | ((with_reducible refine g_ex ?_); refine l_p txs rfl rfl ?_) | ((with_reducible refine g_un ?_); (refine l_p txs rfl rfl ?_)))))
    refine end1 rfl rfl ?_
    exact ⟨by rw [hn]; first | done | rfl, H.B⟩
  · rw [hp, if_pos rfl] at hma
    rw [if_neg (by rw [hp]; simp)] at hV
    have hF : ∀ v : Ver, fitsV v (bl t) = if (majorS (bl t)).1 ≠ [] then !v.odd && decide (v.a = (majorS (bl t)).1) else v.odd || decide (v.a = [48]) || decide (v.a = [49]) := fun v => rfl
    generalize (majorS (bl t)).1 = m at hma hF bm
    repeat' (first | (with_reducible first | refine p_tn ?_ | refine wp_seq ?_ | refine w_reg ?_ | refine l_nil ?_) | ((with_reducible refine g_on ?_); (first | ((with_reducible refine g_mv ?_); refine l_p txs rfl rfl ?_) | ((with_reducible refine g_as ?_); refine l_p txs rfl rfl ?_))))
    (with_reducible refine is_l ?_); refine l_callv rfl rfl (by kernel_rfl) (hma _ hD) (fun w_ K => ?_)
    have H := H.call K
    repeat' (first | (with_reducible first | refine p_tn ?_ | refine wp_seq ?_ | refine w_reg ?_) | (with_reducible (refine is_if ?_; (refine w_iff rfl ?_))) | (with_reducible first | refine wp_skip ?_ | refine l_nil ?_) | ((with_reducible refine g_on ?_); (first | ((with_reducible refine g_mv ?_); refine l_p txs rfl rfl ?_) | ((with_reducible refine g_as ?_); refine l_p txs rfl rfl ?_) | ((with_reducible refine g_ex ?_); refine l_p txs rfl rfl ?_) | ((with_reducible refine g_un ?_); (refine l_p txs rfl rfl ?_)))))
    (with_reducible refine is_l ?_); refine l_call rfl rfl (by kernel_rfl) (Split_c u _) (fun e w_ hR => ?_)
    unfold PaR at hR
    cases hq : parseV (bl u) with
    | none =>
      rw [hq] at hR hV
      obtain ⟨x, y, z, A, n, c, bo, rfl, K⟩ := hR
      refine ⟨_, rfl, ?_⟩
      have H := H.call K
      have hn : checkS (bl t) (bl u) = 111 := hV
      repeat' (first | (with_reducible first | refine p_tn ?_ | refine p_tr ?_ | refine wp_seq ?_ | refine w_reg ?_) | (with_reducible (refine is_if ?_; (refine w_ift rfl ?_))) | (with_reducible first | refine wp_ret ?_ | refine l_nil ?_) | ((with_reducible refine g_on ?_); (first | ((with_reducible refine g_mv ?_); refine l_p txs rfl rfl ?_) | ((with_reducible refine g_as ?_); refine l_p txs rfl rfl ?_) | ((with_reducible refine g_ex ?_); refine l_p txs rfl rfl ?_) | ((with_reducible refine g_st ?_); (refine h_stR recs H 0 rfl rfl rfl rfl rfl rfl rfl rfl rfl (fun w_ H => ?_))) | ((with_reducible refine g_al ?_); refine h_alloc recs H rfl rfl (fun g_ w_ H => ?_)) | ((with_reducible refine g_un ?_); (refine l_p txs rfl rfl ?_)))))
      refine end1 rfl rfl ?_
      exact ⟨by rw [hn]; first | done | rfl, H.B⟩
    | some v =>
      rw [hq] at hR hV
      obtain ⟨A2, c2, rfl, K⟩ := hR
      refine ⟨_, rfl, ?_⟩
      have H := H.call K.B
      have hV : checkS (bl t) (bl u) = if fitsV v (bl t) = true then 0 else 111 := hV
      have hf := hF v
      have iv := ver_in hq
      have e48 : bl (⟨#[48]⟩ : ByteArray) = [48] := rfl
      have e49 : bl (⟨#[49]⟩ : ByteArray) = [49] := rfl
      repeat' (first | (with_reducible first | refine p_tn ?_ | refine wp_seq ?_ | refine w_reg ?_) | (with_reducible (refine is_if ?_; (refine w_iff rfl ?_))) | (with_reducible first | refine wp_skip ?_ | refine l_nil ?_) | ((with_reducible refine g_on ?_); (first | ((with_reducible refine g_mv ?_); refine l_p txs rfl rfl ?_) | ((with_reducible refine g_as ?_); refine l_p txs rfl rfl ?_) | ((with_reducible refine g_ex ?_); refine l_p txs rfl rfl ?_) | ((with_reducible refine g_st ?_); (refine h_stR recs H 0 rfl rfl rfl rfl rfl rfl rfl rfl rfl (fun w_ H => ?_))) | ((with_reducible refine g_al ?_); refine h_alloc recs H rfl rfl (fun g_ w_ H => ?_)) | ((with_reducible refine g_un ?_); (refine l_p txs rfl rfl ?_)))))
      (with_reducible refine is_l ?_); refine l_t txs rfl rfl (fun q1 => ?_) (fun q1 => ?_)
      · rw [blS bm] at q1
        have q1 : m ≠ [] := q1
        rw [if_pos q1] at hf
        rw [hf] at hV
        repeat' (first | (with_reducible first | refine p_tn ?_ | refine wp_seq ?_ | refine w_reg ?_) | (with_reducible (refine is_if ?_; (refine w_ift rfl ?_))) | (with_reducible refine l_nil ?_) | ((with_reducible refine g_on ?_); ((with_reducible refine g_fa ?_); refine h_fa flds rfl rfl ?_)))
        (with_reducible refine is_l ?_); refine l_iaa Tryz.underlying87 info_str1 rfl rfl rfl (by decide) (by decide) ?_
        repeat' ((with_reducible refine g_on ?_); (first | ((with_reducible refine g_mv ?_); refine l_p txs rfl rfl ?_) | ((with_reducible refine g_ld ?_); (refine h_ld txs H 0 rfl rfl rfl rfl ?_))))
        (with_reducible refine is_l ?_); refine l_t txs rfl rfl (fun q2 => ?_) (fun q2 => ?_)
        · rw [blS iv.a.1, blS bm] at q2
          have hn : checkS (bl t) (bl u) = 111 := by rw [hV, decide_eq_false q2]; simp
          repeat' (first | (with_reducible first | refine p_tn ?_ | refine p_tr ?_ | refine wp_seq ?_ | refine w_reg ?_) | (with_reducible (refine is_if ?_; (refine w_ift rfl ?_))) | (with_reducible first | refine wp_ret ?_ | refine l_nil ?_) | ((with_reducible refine g_on ?_); (first | ((with_reducible refine g_mv ?_); refine l_p txs rfl rfl ?_) | ((with_reducible refine g_as ?_); refine l_p txs rfl rfl ?_) | ((with_reducible refine g_pk ?_); refine l_p txs rfl rfl ?_))) | ((with_reducible refine g_if ?_); (refine l_off rfl ?_)))
          refine end1 rfl rfl ?_
          exact ⟨by rw [hn]; first | done | rfl, H.B⟩
        · rw [blS iv.a.1, blS bm] at q2
          cases ho : v.odd
          · rw [ho] at hV H
            have hn : checkS (bl t) (bl u) = 0 := by rw [hV, decide_eq_true (Classical.not_not.1 q2)]; simp
            repeat' (first | (with_reducible first | refine p_tn ?_ | refine p_tr ?_ | refine wp_seq ?_ | refine w_reg ?_) | (with_reducible (refine is_if ?_; (refine w_iff rfl ?_))) | (with_reducible first | refine wp_skip ?_ | refine wp_ret ?_ | refine l_nil ?_) | ((with_reducible refine g_on ?_); (first | ((with_reducible refine g_mv ?_); refine l_p txs rfl rfl ?_) | ((with_reducible refine g_as ?_); refine l_p txs rfl rfl ?_) | ((with_reducible refine g_pk ?_); refine l_p txs rfl rfl ?_))) | ((with_reducible refine g_if ?_); (first | ((with_reducible refine g_fa ?_); refine h_fa flds rfl rfl ?_) | ((with_reducible refine g_ld ?_); (refine h_ld txs H 0 rfl rfl rfl rfl ?_)))))
            refine end1 rfl rfl ?_
            exact ⟨by rw [hn]; first | done | rfl, H.B⟩
          · rw [ho] at hV H
            have hn : checkS (bl t) (bl u) = 111 := by rw [hV]; simp
            repeat' (first | (with_reducible first | refine p_tn ?_ | refine p_tr ?_ | refine wp_seq ?_ | refine w_reg ?_) | (with_reducible (refine is_if ?_; (refine w_ift rfl ?_))) | (with_reducible first | refine wp_ret ?_ | refine l_nil ?_) | ((with_reducible refine g_on ?_); (first | ((with_reducible refine g_mv ?_); refine l_p txs rfl rfl ?_) | ((with_reducible refine g_as ?_); refine l_p txs rfl rfl ?_) | ((with_reducible refine g_pk ?_); refine l_p txs rfl rfl ?_))) | ((with_reducible refine g_if ?_); (first | ((with_reducible refine g_fa ?_); refine h_fa flds rfl rfl ?_) | ((with_reducible refine g_ld ?_); (refine h_ld txs H 0 rfl rfl rfl rfl ?_)))))
            refine end1 rfl rfl ?_
            exact ⟨by rw [hn]; first | done | rfl, H.B⟩
      · rw [blS bm] at q1
        have q1 : m = [] := Classical.not_not.1 q1
        rw [if_neg (fun h => h q1)] at hf
        rw [hf] at hV
        repeat' (first | (with_reducible first | refine p_tn ?_ | refine wp_seq ?_ | refine w_reg ?_) | (with_reducible (refine is_if ?_; (refine w_iff rfl ?_))) | (with_reducible first | refine wp_skip ?_ | refine l_nil ?_) | ((with_reducible refine g_on ?_); ((with_reducible refine g_fa ?_); refine h_fa flds rfl rfl ?_)))
        (with_reducible refine is_l ?_); refine l_iaa Tryz.underlying87 info_str1 rfl rfl rfl (by decide) (by decide) ?_
        repeat' ((with_reducible refine g_on ?_); ((with_reducible refine g_ld ?_); (refine h_ld txs H 0 rfl rfl rfl rfl ?_)))
        (with_reducible refine is_l ?_); refine l_t txs rfl rfl (fun q2 => ?_) (fun q2 => ?_)
        · rw [blS iv.a.1, e48] at q2
          repeat' (first | ((with_reducible refine g_on ?_); ((with_reducible refine g_mv ?_); refine l_p txs rfl rfl ?_)) | ((with_reducible refine g_if ?_); ((with_reducible refine g_fa ?_); refine h_fa flds rfl rfl ?_)))
          (with_reducible refine is_l ?_); refine l_iaa Tryz.underlying87 info_str1 rfl rfl rfl (by decide) (by decide) ?_
          repeat' ((with_reducible refine g_if ?_); ((with_reducible refine g_ld ?_); (refine h_ld txs H 0 rfl rfl rfl rfl ?_)))
          (with_reducible refine is_l ?_); refine l_t txs rfl rfl (fun q3 => ?_) (fun q3 => ?_)
          · rw [blS iv.a.1, e49] at q3
            cases ho : v.odd
            · rw [ho] at hV H
              have hn : checkS (bl t) (bl u) = 111 := by rw [hV, decide_eq_false q2, decide_eq_false q3]; simp
              repeat' (first | (with_reducible first | refine p_tn ?_ | refine p_tr ?_ | refine wp_seq ?_ | refine w_reg ?_) | (with_reducible (refine is_if ?_; (refine w_ift rfl ?_))) | (with_reducible first | refine wp_ret ?_ | refine l_nil ?_) | ((with_reducible refine g_on ?_); (first | ((with_reducible refine g_mv ?_); refine l_p txs rfl rfl ?_) | ((with_reducible refine g_as ?_); refine l_p txs rfl rfl ?_) | ((with_reducible refine g_pk ?_); refine l_p txs rfl rfl ?_))) | ((with_reducible refine g_if ?_); (first | ((with_reducible refine g_fa ?_); refine h_fa flds rfl rfl ?_) | ((with_reducible refine g_ld ?_); (refine h_ld txs H 0 rfl rfl rfl rfl ?_)) | ((with_reducible refine g_un ?_); (refine l_p txs rfl rfl ?_)))))
              refine end1 rfl rfl ?_
              exact ⟨by rw [hn]; first | done | rfl, H.B⟩
            · rw [ho] at hV H
              have hn : checkS (bl t) (bl u) = 0 := by rw [hV]; simp
              repeat' (first | (with_reducible first | refine p_tn ?_ | refine wp_seq ?_ | refine w_reg ?_) | (with_reducible (refine is_if ?_; (refine w_iff rfl ?_))) | (with_reducible first | refine wp_skip ?_ | refine wp_ret ?_ | refine l_nil ?_) | ((with_reducible refine g_on ?_); (first | ((with_reducible refine g_mv ?_); refine l_p txs rfl rfl ?_) | ((with_reducible refine g_as ?_); refine l_p txs rfl rfl ?_) | ((with_reducible refine g_pk ?_); refine l_p txs rfl rfl ?_))) | ((with_reducible refine g_if ?_); (first | ((with_reducible refine g_fa ?_); refine h_fa flds rfl rfl ?_) | ((with_reducible refine g_ld ?_); (refine h_ld txs H 0 rfl rfl rfl rfl ?_)) | ((with_reducible refine g_un ?_); (refine l_p txs rfl rfl ?_)))))
              refine end1 rfl rfl ?_
              exact ⟨by rw [hn]; first | done | rfl, H.B⟩
          · rw [blS iv.a.1, e49] at q3
            have hn : checkS (bl t) (bl u) = 0 := by rw [hV, decide_eq_true (Classical.not_not.1 q3)]; simp
            repeat' (first | (with_reducible first | refine p_tn ?_ | refine wp_seq ?_ | refine w_reg ?_) | (with_reducible (refine is_if ?_; (refine w_iff rfl ?_))) | (with_reducible first | refine wp_skip ?_ | refine wp_ret ?_ | refine l_nil ?_) | ((with_reducible refine g_on ?_); (first | ((with_reducible refine g_mv ?_); refine l_p txs rfl rfl ?_) | ((with_reducible refine g_as ?_); refine l_p txs rfl rfl ?_) | ((with_reducible refine g_pk ?_); refine l_p txs rfl rfl ?_))) | ((with_reducible refine g_if ?_); (refine l_off rfl ?_)))
            refine end1 rfl rfl ?_
            exact ⟨by rw [hn]; first | done | rfl, H.B⟩
        · rw [blS iv.a.1, e48] at q2
          have hn : checkS (bl t) (bl u) = 0 := by rw [hV, decide_eq_true (Classical.not_not.1 q2)]; simp
          repeat' (first | (with_reducible first | refine p_tn ?_ | refine wp_seq ?_ | refine w_reg ?_) | (with_reducible (refine is_if ?_; (refine w_iff rfl ?_))) | (with_reducible first | refine wp_skip ?_ | refine wp_ret ?_ | refine l_nil ?_) | ((with_reducible refine g_on ?_); (first | ((with_reducible refine g_mv ?_); refine l_p txs rfl rfl ?_) | ((with_reducible refine g_as ?_); refine l_p txs rfl rfl ?_) | ((with_reducible refine g_pk ?_); refine l_p txs rfl rfl ?_))) | ((with_reducible refine g_if ?_); (refine l_off rfl ?_)))
          refine end1 rfl rfl ?_
          exact ⟨by rw [hn]; first | done | rfl, H.B⟩
theorem Key_r {w : World} {t2 : TypeId} {fr : Nat × Nat} (hD : w.heap[3]? = some (.cells deC t2 fr)) (t u : ByteArray) :
    Calls Tryz.prog 20 #[.string t, .string u] w fun e w' => e = .returned (.tuple #[.string (keyT t u), .int .i64 (checkS (bl t) (bl u) : Int)]) ∧ Below w.heap.size w w' := by
  refine enter (args := [.string t, .string u]) Tryz.func20 rfl Tryz.ntmps20 rfl ?_
  have H := Hp.nil w
  repeat' (first | (with_reducible first | refine p_tn ?_ | refine wp_seq ?_ | refine w_reg ?_ | refine l_nil ?_) | ((with_reducible refine g_on ?_); (first | ((with_reducible refine g_mv ?_); refine l_p txs rfl rfl ?_) | ((with_reducible refine g_as ?_); refine l_p txs rfl rfl ?_))))
  (with_reducible refine is_l ?_); refine l_callv rfl rfl (by kernel_rfl) (Fits_c hD t u) (fun w_ K => ?_)
  have H := H.call K
  have hsm : checkS (bl t) (bl u) = 0 → t.size ≤ 255 ∧ u.size ≤ 128 := fun h => by
    obtain ⟨h1, x, h2, _⟩ := check_ok h
    rw [← bl_length, ← bl_length]
    exact ⟨(path_ne h1).2, (ver_no h2).2.2.2.2.2.2⟩
  unfold keyT
  generalize checkS (bl t) (bl u) = k at hsm ⊢
  repeat' (first | (with_reducible first | refine p_tn ?_ | refine wp_seq ?_ | refine w_reg ?_ | refine l_nil ?_) | ((with_reducible refine g_on ?_); (first | ((with_reducible refine g_mv ?_); refine l_p txs rfl rfl ?_) | ((with_reducible refine g_as ?_); refine l_p txs rfl rfl ?_))))
  (with_reducible refine is_l ?_); refine l_t txs rfl rfl (fun h1 => ?_) (fun h1 => ?_)
  · repeat' (first | (with_reducible first | refine p_tn ?_ | refine p_tr ?_ | refine wp_seq ?_ | refine w_reg ?_) | (with_reducible (refine is_if ?_; (refine w_ift rfl ?_))) | (with_reducible first | refine wp_ret ?_ | refine l_nil ?_) | ((with_reducible refine g_on ?_); (first | ((with_reducible refine g_mv ?_); refine l_p txs rfl rfl ?_) | ((with_reducible refine g_as ?_); refine l_p txs rfl rfl ?_))))
    refine end2 rfl rfl rfl ?_
    exact ⟨by rw [if_neg (by omega)], H.B⟩
  · have h0 : k = 0 := by omega
    subst h0
    obtain ⟨hts, hus⟩ := hsm rfl
    have hz1 : (⟨#[64]⟩ : ByteArray).size = 1 := rfl
    repeat' (first | (with_reducible first | refine p_tn ?_ | refine wp_seq ?_ | refine w_reg ?_) | (with_reducible (refine is_if ?_; (refine w_iff rfl ?_))) | (with_reducible first | refine wp_skip ?_ | refine l_nil ?_) | ((with_reducible refine g_on ?_); ((with_reducible refine g_mv ?_); refine l_p txs rfl rfl ?_)))
    (with_reducible refine is_l ?_); refine l_cat rfl rfl (by omega) ?_
    repeat' ((with_reducible refine g_on ?_); ((with_reducible refine g_mv ?_); refine l_p txs rfl rfl ?_))
    (with_reducible refine is_l ?_); refine l_cat rfl rfl (by rw [ByteArray.size_append]; omega) ?_
    repeat' (first | (with_reducible first | refine p_tn ?_ | refine wp_ret ?_ | refine l_nil ?_) | ((with_reducible refine g_on ?_); ((with_reducible refine g_as ?_); refine l_p txs rfl rfl ?_)))
    refine end2 rfl rfl rfl ?_
    exact ⟨by rw [if_pos rfl]; rfl, H.B⟩
end Go.Proofs.YtnimaenhijlcmaaGreatDoor.K.Ref
end
section
namespace Go.Proofs.YtnimaenhijlcmaaGreatDoor.Mb
set_option linter.unusedVariables false
set_option linter.unusedSimpArgs false
def bits8 (x : Int) : L := [x / 2 ^ 7 % 2, x / 2 ^ 6 % 2, x / 2 ^ 5 % 2, x / 2 ^ 4 % 2, x / 2 ^ 3 % 2, x / 2 ^ 2 % 2, x / 2 ^ 1 % 2, x / 2 ^ 0 % 2]
def bitsOf : L → L
  | [] => []
  | x :: r => bits8 x ++ bitsOf r
theorem bitsOf_length : ∀ l, (bitsOf l).length = 8 * l.length
  | [] => rfl
  | x :: r => by simp only [bitsOf, bits8, List.length_append, List.length_cons, List.length_nil, bitsOf_length r]; omega
def six (a b c d e f : Int) : Int := a * 32 + b * 16 + c * 8 + d * 4 + e * 2 + f
def letters : L → L
  | a :: b :: c :: d :: e :: f :: r => lt (six a b c d e f) :: letters r
  | _ => []
def Bits (l : L) : Prop := ∀ x ∈ l, 0 ≤ x ∧ x ≤ 1
theorem bits_bits8 (x : Int) : Bits (bits8 x) := by
  intro y hy
  simp only [bits8, List.mem_cons, List.not_mem_nil, or_false] at hy
  rcases hy with rfl | rfl | rfl | rfl | rfl | rfl | rfl | rfl <;> omega
theorem bits_bitsOf : ∀ l, Bits (bitsOf l)
  | [] => fun _ h => by cases h
  | x :: r => fun y hy => by
    simp only [bitsOf, List.mem_append] at hy
    rcases hy with h | h
    · exact bits_bits8 x y h
    · exact bits_bitsOf r y h
def zeros (n : Nat) : L := if n % 3 = 1 then [0, 0, 0, 0] else if n % 3 = 2 then [0, 0] else []
theorem letters_bits : ∀ {l : L}, Byt l → letters (bitsOf l ++ zeros l.length) ++ pads l.length = enc64 l
  | [], _ => rfl
  | [a], h => by
    have ha := h a (by simp)
    simp only [bitsOf, bits8, zeros, pads, List.length_cons, List.length_nil, List.append_nil, List.cons_append, List.nil_append, enc64, letters]
    rw [show six (a / 2 ^ 7 % 2) (a / 2 ^ 6 % 2) (a / 2 ^ 5 % 2) (a / 2 ^ 4 % 2) (a / 2 ^ 3 % 2) (a / 2 ^ 2 % 2) = a / 4 from by unfold six; omega]
    simp only [show (0 + 1) % 3 = 1 from rfl, if_true, List.cons_append, List.nil_append, letters]
    rw [show six (a / 2 ^ 1 % 2) (a / 2 ^ 0 % 2) 0 0 0 0 = a % 4 * 16 from by unfold six; omega]
  | [a, b], h => by
    have ha := h a (by simp)
    have hb := h b (by simp)
    simp only [bitsOf, bits8, zeros, pads, List.length_cons, List.length_nil, List.append_nil, List.cons_append, List.nil_append, enc64, letters]
    simp only [show (0 + 1 + 1) % 3 = 2 from rfl, show ¬ (2 = 1) from by decide, if_true, if_false, List.cons_append, List.nil_append, letters]
    rw [show six (a / 2 ^ 7 % 2) (a / 2 ^ 6 % 2) (a / 2 ^ 5 % 2) (a / 2 ^ 4 % 2) (a / 2 ^ 3 % 2) (a / 2 ^ 2 % 2) = a / 4 from by unfold six; omega,
      show six (a / 2 ^ 1 % 2) (a / 2 ^ 0 % 2) (b / 2 ^ 7 % 2) (b / 2 ^ 6 % 2) (b / 2 ^ 5 % 2) (b / 2 ^ 4 % 2) = a % 4 * 16 + b / 16 from by unfold six; omega,
      show six (b / 2 ^ 3 % 2) (b / 2 ^ 2 % 2) (b / 2 ^ 1 % 2) (b / 2 ^ 0 % 2) 0 0 = b % 16 * 4 from by unfold six; omega]
  | a :: b :: c :: r, h => by
    have ha := h a (by simp)
    have hb := h b (by simp)
    have hc := h c (by simp)
    have ih := letters_bits (l := r) (fun x hx => h x (by simp [hx]))
    have hp : pads (r.length + 1 + 1 + 1) = pads r.length := by unfold pads; rw [show (r.length + 1 + 1 + 1) % 3 = r.length % 3 from by omega]
    have hq : zeros (r.length + 1 + 1 + 1) = zeros r.length := by unfold zeros; rw [show (r.length + 1 + 1 + 1) % 3 = r.length % 3 from by omega]
    simp only [bitsOf, bits8, List.length_cons, hp, hq, List.append_nil, List.cons_append, List.nil_append, enc64, letters]
    rw [ih, show six (a / 2 ^ 7 % 2) (a / 2 ^ 6 % 2) (a / 2 ^ 5 % 2) (a / 2 ^ 4 % 2) (a / 2 ^ 3 % 2) (a / 2 ^ 2 % 2) = a / 4 from by unfold six; omega,
      show six (a / 2 ^ 1 % 2) (a / 2 ^ 0 % 2) (b / 2 ^ 7 % 2) (b / 2 ^ 6 % 2) (b / 2 ^ 5 % 2) (b / 2 ^ 4 % 2) = a % 4 * 16 + b / 16 from by unfold six; omega,
      show six (b / 2 ^ 3 % 2) (b / 2 ^ 2 % 2) (b / 2 ^ 1 % 2) (b / 2 ^ 0 % 2) (c / 2 ^ 7 % 2) (c / 2 ^ 6 % 2) = b % 16 * 4 + c / 64 from by unfold six; omega,
      show six (c / 2 ^ 5 % 2) (c / 2 ^ 4 % 2) (c / 2 ^ 3 % 2) (c / 2 ^ 2 % 2) (c / 2 ^ 1 % 2) (c / 2 ^ 0 % 2) = c % 64 from by unfold six; omega]
theorem letters_length : ∀ (n : Nat) (r : L), r.length = 6 * n → (letters r).length = n
  | 0, [], _ => rfl
  | 0, _ :: _, h => by simp at h
  | n + 1, a :: b :: c :: d :: e :: f :: r, h => by
    simp only [List.length_cons] at h
    simp only [letters, List.length_cons, letters_length n r (by omega)]
  | n + 1, [], h => by simp at h
  | n + 1, [_], h => by simp at h; omega
  | n + 1, [_, _], h => by simp at h; omega
  | n + 1, [_, _, _], h => by simp at h; omega
  | n + 1, [_, _, _, _], h => by simp at h; omega
  | n + 1, [_, _, _, _, _], h => by simp at h; omega
theorem bits8_at (x : Int) : ∀ k, k < 8 → (bits8 x)[k]? = some (x / 2 ^ (7 - k) % 2)
  | 0, _ => rfl
  | 1, _ => rfl
  | 2, _ => rfl
  | 3, _ => rfl
  | 4, _ => rfl
  | 5, _ => rfl
  | 6, _ => rfl
  | 7, _ => rfl
  | k + 8, h => absurd h (by omega)
theorem bits8_len (x : Int) : (bits8 x).length = 8 := rfl
theorem bitsOf_app (a b : L) : bitsOf (a ++ b) = bitsOf a ++ bitsOf b := by
  induction a with
  | nil => rfl
  | cons x r ih => simp only [List.cons_append, bitsOf, ih, List.append_assoc]
def numOf (l : L) : Int := l.foldl (fun n b => 2 * n + b) 0
theorem numOf_snoc (l : L) (b : Int) : numOf (l ++ [b]) = 2 * numOf l + b := by unfold numOf; rw [List.foldl_append]; rfl
theorem numOf_small {l : L} (h : Bits l) (hl : l.length ≤ 6) : 0 ≤ numOf l ∧ numOf l < 64 := by
  have hz : ∀ x ∈ l, 0 ≤ x ∧ x ≤ 1 := h
  unfold numOf
  match l, hl, hz with
  | [], _, _ => exact ⟨by decide, by decide⟩
  | [a], _, hz =>
    have ha := hz a (by simp)
    simp only [List.foldl_cons, List.foldl_nil]
    omega
  | [a, b], _, hz =>
    have ha := hz a (by simp)
    have hb := hz b (by simp)
    simp only [List.foldl_cons, List.foldl_nil]
    omega
  | [a, b, c], _, hz =>
    have ha := hz a (by simp)
    have hb := hz b (by simp)
    have hc := hz c (by simp)
    simp only [List.foldl_cons, List.foldl_nil]
    omega
  | [a, b, c, d], _, hz =>
    have ha := hz a (by simp)
    have hb := hz b (by simp)
    have hc := hz c (by simp)
    have hd := hz d (by simp)
    simp only [List.foldl_cons, List.foldl_nil]
    omega
  | [a, b, c, d, e], _, hz =>
    have ha := hz a (by simp)
    have hb := hz b (by simp)
    have hc := hz c (by simp)
    have hd := hz d (by simp)
    have he := hz e (by simp)
    simp only [List.foldl_cons, List.foldl_nil]
    omega
  | [a, b, c, d, e, f], _, hz =>
    have ha := hz a (by simp)
    have hb := hz b (by simp)
    have hc := hz c (by simp)
    have hd := hz d (by simp)
    have he := hz e (by simp)
    have hf := hz f (by simp)
    simp only [List.foldl_cons, List.foldl_nil]
    omega
  | _ :: _ :: _ :: _ :: _ :: _ :: _ :: _, hl, _ => simp only [List.length_cons] at hl; omega
theorem six_num (a b c d e f : Int) : numOf [a, b, c, d, e, f] = six a b c d e f := by
  unfold numOf six
  simp only [List.foldl_cons, List.foldl_nil]
  omega
theorem letters_app : ∀ (n : Nat) (a b : L), a.length = 6 * n → letters (a ++ b) = letters a ++ letters b
  | 0, [], _, _ => rfl
  | 0, _ :: _, _, h => by simp at h
  | n + 1, x1 :: x2 :: x3 :: x4 :: x5 :: x6 :: r, b, h => by
    simp only [List.length_cons] at h
    simp only [List.cons_append, letters, letters_app n r b (by omega)]
  | n + 1, [], _, h => by simp at h
  | n + 1, [_], _, h => by simp at h; omega
  | n + 1, [_, _], _, h => by simp at h; omega
  | n + 1, [_, _, _], _, h => by simp at h; omega
  | n + 1, [_, _, _, _], _, h => by simp at h; omega
  | n + 1, [_, _, _, _, _], _, h => by simp at h; omega
theorem letters_six {l : L} (h : l.length = 6) : letters l = [lt (numOf l)] := by
  match l, h with
  | [a, b, c, d, e, f], _ => rw [six_num]; rfl
end Go.Proofs.YtnimaenhijlcmaaGreatDoor.Mb
end
