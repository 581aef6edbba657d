/- A text gone over rune by rune; digits, letters, numbers, words. -/
import Derived.Test.YtnimaenhijlcmaaGreatDoorVa
namespace Go.Proofs.YtnimaenhijlcmaaGreatDoor.K
open Go.RowKit Go.Proofs.YtnimaenhijlcmaaGreatDoor.Q Go.Proofs.YtnimaenhijlcmaaGreatDoor.Mb Go.Proofs.YtnimaenhijlcmaaGreatDoorW.PrintWords
set_option linter.unusedVariables false
set_option linter.unusedSimpArgs false

section
variable {P : Program} {n : Nat} {f : Fr} {w w0 : World} {ops : Array Oper} {Q : Exit → Act → World → Prop} {rest : List Oper} {d : Option Nat} {tt : TypeId} {ps : String} {af : Array Edge} {gd : Option (Nat × Bool)} {l : List Ent} {r : List RowD}
theorem l_range (H : Hp w0 w l r) {t : TypeId} {x : Operand} {s : ByteArray} (ht : P.underlying t = some .string) (hw : want n ops f ⟨d, .range t x, tt, ps, af, gd⟩ = true) (hx : nf (X n f x) = some (.string s))
    (h : ∀ g w', Hp w0 w' l r → w'.heap[g]? = some (.stringIter s 0) → w0.heap.size ≤ g → WL P ops Q rest (act n (put f d (.pointer (some ⟨g, 0, none⟩)))) w') : WL P ops Q (⟨d, .range t x, tt, ps, af, gd⟩ :: rest) (act n f) w := by
  have hx' := nf_eq hx
  have hr := run_range_string (P := P) w t s ht
  have K : Below w.heap.size w (w.iter s 0) := (Below.refl _ w).alloc (Nat.le_refl _) _
  refine h_valw hw ?_ (h w.heap.size _ (H.call K) (World.iter_heap w s 0) H.B.size)
  unfold execOp
  simp [← hx', hr]
theorem l_nextE {x : Operand} {g pos : Nat} {s : ByteArray} (hk : w.heap[g]? = some (.stringIter s pos)) (hp : ¬ pos < s.size) (hw : want n ops f ⟨d, .next x true, tt, ps, af, gd⟩ = true) (hx : nf (X n f x) = some (.pointer (some ⟨g, 0, none⟩)))
    (h : WL P ops Q rest (act n (put f d (.tuple #[.bool false]))) w) : WL P ops Q (⟨d, .next x true, tt, ps, af, gd⟩ :: rest) (act n f) w := by
  have hx' := nf_eq hx
  have hr := Lib.run_next_end_at (P := P) w g s pos tt hk hp
  refine l_val hw ?_ h
  unfold execOp
  simp [← hx', hr]
theorem l_nextV (H : Hp w0 w [] []) {x : Operand} {g pos : Nat} {s : ByteArray} (hk : w.heap[g]? = some (.stringIter s pos)) (hg : w0.heap.size ≤ g) (hp : pos < s.size) (hw : want n ops f ⟨d, .next x true, tt, ps, af, gd⟩ = true) (hx : nf (X n f x) = some (.pointer (some ⟨g, 0, none⟩)))
    (h : ∀ w', Hp w0 w' [] [] → w'.heap[g]? = some (.stringIter s (pos + (Utf8.decode s pos).2)) → WL P ops Q rest (act n (put f d (.tuple #[.bool true, .int .i64 pos, .int .i32 (Utf8.decode s pos).1]))) w') : WL P ops Q (⟨d, .next x true, tt, ps, af, gd⟩ :: rest) (act n f) w := by
  have hx' := nf_eq hx
  have hr := Lib.run_next_any_at (P := P) w g s pos tt hk hp
  refine h_valw hw ?_ (h _ ((Hp.nil w0).call (Lib.below_iterAt H.B hg s _)) (Lib.iterAt_heap w g s pos _ hk))
  unfold execOp
  simp [← hx', hr]
end
theorem dec_byte (t : ByteArray) (pos : Nat) (h : pos < t.size) : ∃ b : Int, (bl t)[pos]? = some b ∧ ((b < 128 ∧ ((Utf8.decode t pos).1 : Int) = b ∧ (Utf8.decode t pos).2 = 1) ∨ (128 ≤ b ∧ (128 : Int) ≤ ((Utf8.decode t pos).1 : Int))) := by
  have hl : pos < t.data.toList.length := by rw [Array.length_toList]; exact h
  have e : (bl t)[pos]? = some ((t[pos]'h).toNat : Int) := by
    unfold bl
    rw [List.getElem?_map, List.getElem?_eq_getElem hl]
    rfl
  refine ⟨_, e, ?_⟩
  by_cases ha : (t[pos]'h).toNat < 128
  · have := decode_ascii t pos h ha
    exact .inl ⟨by omega, by rw [this], by rw [this]⟩
  · have := (decode_high t pos h (by omega)).1
    exact .inr ⟨by omega, by omega⟩
theorem not_all {p : Int → Bool} {l : L} {i : Nat} {b : Int} (h : l[i]? = some b) (hb : p b = false) : l.all p = false := by
  rw [List.all_eq_false]
  exact ⟨b, List.mem_of_getElem? h, by rw [hb]; simp⟩
theorem take_all {p : Int → Bool} {l : L} {i : Nat} {b : Int} (h : l[i]? = some b) (hb : p b = true) (ht : (l.take i).all p = true) : (l.take (i + 1)).all p = true := by
  have hi : i < l.length := (List.getElem?_eq_some_iff.1 h).1
  rw [List.take_succ_eq_append_getElem hi, List.all_append, ht, (List.getElem?_eq_some_iff.1 h).2]
  simp [hb]
theorem isDigit_c (c : Int) (w : World) : Calls Tryz.prog 128 #[.int .i32 c] w fun e w' => e = .returned (.bool (digB c)) ∧ w' = w := by
  refine enter (args := [.int .i32 c]) Tryz.func128 rfl Tryz.ntmps128 rfl ?_
  repeat' (first | (with_reducible first | refine p_tn ?_ | refine wp_seq ?_ | refine w_reg ?_ | refine wp_ret ?_ | refine l_nil ?_) | (with_reducible (refine is_l ?_; (first | (refine l_off rfl ?_) | (refine l_p tys rfl rfl ?_) | (refine l_t tys rfl rfl (fun _ => ?_) (fun _ => ?_))))))
  all_goals (refine end1 rfl rfl ?_; exact ⟨by simp [digB, *], rfl⟩)
theorem isSmall_c (c : Int) (w : World) : Calls Tryz.prog 129 #[.int .i32 c] w fun e w' => e = .returned (.bool (smlB c)) ∧ w' = w := by
  refine enter (args := [.int .i32 c]) Tryz.func129 rfl Tryz.ntmps129 rfl ?_
  repeat' (first | (with_reducible first | refine p_tn ?_ | refine wp_seq ?_ | refine w_reg ?_ | refine wp_ret ?_ | refine l_nil ?_) | (with_reducible (refine is_l ?_; (first | (refine l_off rfl ?_) | (refine l_p tys rfl rfl ?_) | (refine l_t tys rfl rfl (fun _ => ?_) (fun _ => ?_))))))
  all_goals (refine end1 rfl rfl ?_; exact ⟨by simp [smlB, *], rfl⟩)
theorem isCapital_c (c : Int) (w : World) : Calls Tryz.prog 130 #[.int .i32 c] w fun e w' => e = .returned (.bool (capB c)) ∧ w' = w := by
  refine enter (args := [.int .i32 c]) Tryz.func130 rfl Tryz.ntmps130 rfl ?_
  repeat' (first | (with_reducible first | refine p_tn ?_ | refine wp_seq ?_ | refine w_reg ?_ | refine wp_ret ?_ | refine l_nil ?_) | (with_reducible (refine is_l ?_; (first | (refine l_off rfl ?_) | (refine l_p tys rfl rfl ?_) | (refine l_t tys rfl rfl (fun _ => ?_) (fun _ => ?_))))))
  all_goals (refine end1 rfl rfl ?_; exact ⟨by simp [capB, *], rfl⟩)
set_option maxHeartbeats 4000000 in
theorem isNumber_c (t : ByteArray) (w : World) (ht : t.size ≤ 100000000) : Calls Tryz.prog 91 #[.string t] w fun e w' => e = .returned (.bool (numB (bl t))) ∧ Below w.heap.size w w' := by
  have hlen := bl_length t
  refine enter (args := [.string t]) Tryz.func91 rfl Tryz.ntmps91 rfl ?_
  have H := Hp.nil w
  repeat' (first | (with_reducible first | refine p_tn ?_ | refine wp_seq ?_ | refine w_reg ?_ | refine l_nil ?_) | (with_reducible (refine is_l ?_; (refine l_p tys rfl rfl ?_))))
  (with_reducible refine is_l ?_); refine l_range H Tryz.underlying9 rfl rfl (fun g w_ H hk hg => ?_)
  repeat' (with_reducible first | refine p_tn ?_ | refine wp_block ?_ | refine l_nil ?_)
  refine w_loop (σ := Nat) (S := fun s => [(0, .string t), (6, .pointer (some ⟨g, 0, none⟩))]) (J := fun s w' => Hp w w' [] [] ∧ w'.heap[g]? = some (.stringIter t s) ∧ ((bl t).take s).all digB = true) (μ := fun s => t.size - s) 0 ⟨rfl, rfl, trivial⟩ ⟨H, hk, by simp⟩ ?_
  clear hk H
  rintro p f w_ ⟨H, hk, ha⟩
  repeat' (with_reducible first | refine wp_seq ?_ | refine w_reg ?_)
  by_cases hp : p < t.size
  · obtain ⟨b, hb, hbb⟩ := dec_byte t p hp
    (with_reducible refine is_l ?_); refine l_nextV H hk hg hp rfl rfl (fun w_ H hk => ?_)
    rcases hbb with ⟨h1, h2, h3⟩ | ⟨h1, h2⟩
    · rw [h3] at hk
      rw [h2]
      repeat' (first | (with_reducible first | refine p_tn ?_ | refine wp_seq ?_ | refine wp_block ?_ | refine w_reg ?_) | (with_reducible (refine is_if ?_; (refine w_ift rfl ?_))) | (with_reducible first | refine wp_skip ?_ | refine l_nil ?_) | (with_reducible (refine is_l ?_; (refine l_p tys rfl rfl ?_))))
      (with_reducible refine is_l ?_); refine l_callp rfl rfl (by kernel_rfl) (isDigit_c b _) ?_
      cases hd : digB b
      · have hn : numB (bl t) = false := by unfold numB; rw [not_all hb hd]; rfl
        repeat' (first | (with_reducible first | refine p_tn ?_ | refine p_tr ?_ | refine p_br ?_ | refine wp_seq ?_ | refine w_reg ?_) | (with_reducible (refine is_if ?_; (refine w_ift rfl ?_))) | (with_reducible first | refine wp_ret ?_ | refine l_nil ?_) | (with_reducible (refine is_l ?_; (refine l_p tys rfl rfl ?_))))
        refine end1 rfl rfl ?_
        exact ⟨by rw [hn], H.B⟩
      · repeat' (first | (with_reducible first | refine p_tn ?_ | refine p_bn ?_) | (with_reducible (refine is_if ?_; (refine w_iff rfl ?_))) | (with_reducible first | refine wp_skip ?_ | refine l_nil ?_) | (with_reducible (refine is_l ?_; (refine l_p tys rfl rfl ?_))))
        exact ⟨p + 1, _, rfl, ⟨rfl, rfl, trivial⟩, ⟨H, hk, take_all hb hd ha⟩, by omega⟩
    · have hd : digB b = false := by unfold digB; simp; omega
      have hn : numB (bl t) = false := by unfold numB; rw [not_all hb hd]; rfl
      repeat' (first | (with_reducible first | refine p_tn ?_ | refine wp_seq ?_ | refine wp_block ?_ | refine w_reg ?_) | (with_reducible (refine is_if ?_; (refine w_ift rfl ?_))) | (with_reducible first | refine wp_skip ?_ | refine l_nil ?_) | (with_reducible (refine is_l ?_; (refine l_p tys rfl rfl ?_))))
      have hd2 := fun w1 => isDigit_c ((Utf8.decode t p).1 : Int) w1
      rw [show digB ((Utf8.decode t p).1 : Int) = false by unfold digB; simp; omega] at hd2
      (with_reducible refine is_l ?_); refine l_callp rfl rfl (by kernel_rfl) (hd2 _) ?_
      repeat' (first | (with_reducible first | refine p_tn ?_ | refine p_tr ?_ | refine p_br ?_ | refine wp_seq ?_ | refine w_reg ?_) | (with_reducible (refine is_if ?_; (refine w_ift rfl ?_))) | (with_reducible first | refine wp_ret ?_ | refine l_nil ?_) | (with_reducible (refine is_l ?_; (refine l_p tys rfl rfl ?_))))
      refine end1 rfl rfl ?_
      exact ⟨by rw [hn], H.B⟩
  · have hall : (bl t).all digB = true := by rw [← List.take_of_length_le (l := bl t) (i := p) (by omega)]; exact ha
    (with_reducible refine is_l ?_); refine l_nextE hk hp rfl rfl ?_
    repeat' (first | (with_reducible first | refine p_tn ?_ | refine p_tx ?_ | refine x_hit ?_ | refine wp_seq ?_ | refine w_reg ?_) | (with_reducible (refine is_if ?_; (refine w_iff rfl ?_))) | (with_reducible first | refine wp_exit ?_ | refine l_nil ?_) | (with_reducible (refine is_l ?_; (refine l_p tys rfl rfl ?_))))
    (with_reducible refine is_l ?_); refine l_t tys rfl rfl (fun h1 => ?_) (fun h1 => ?_)
    · have hne : bl t ≠ [] := h1
      have hpos : 0 < t.size := by rw [← hlen]; exact List.length_pos_iff.2 hne
      repeat' (with_reducible (refine is_l ?_; (refine l_p tys rfl rfl ?_)))
      (with_reducible refine is_l ?_); refine l_t tys rfl rfl (fun h2 => ?_) (fun h2 => ?_)
      · have h2 : bl t = [48] := h2
        repeat' (first | (with_reducible first | refine p_tn ?_ | refine wp_ret ?_ | refine l_nil ?_) | (with_reducible (refine is_l ?_; (first | (refine l_off rfl ?_) | (refine l_p tys rfl rfl ?_)))))
        refine end1 rfl rfl ?_
        exact ⟨by rw [h2]; rfl, H.B⟩
      · have h2 : ¬ bl t = [48] := h2
        have h0 : (bl t).head? = some (at_ (bl t) 0) := by
          unfold at_
          cases hb : bl t with
          | nil => exact absurd hb hne
          | cons x r => rfl
        repeat' (with_reducible (refine is_l ?_; (first | (refine l_p tys rfl rfl ?_) | (refine l_ix tys rfl rfl (by first | omega | assumption | decide) (by first | omega | assumption | decide) ?_))))
        (with_reducible refine is_l ?_); refine l_t tys rfl rfl (fun h3 => ?_) (fun h3 => ?_)
        · have hn : numB (bl t) = true := by
            unfold numB
            rw [hall, h0]
            simp [hne, h3]
          repeat' (first | (with_reducible first | refine p_tn ?_ | refine wp_ret ?_ | refine l_nil ?_) | (with_reducible (refine is_l ?_; (refine l_p tys rfl rfl ?_))))
          refine end1 rfl rfl ?_
          exact ⟨by rw [hn], H.B⟩
        · have h3 : at_ (bl t) 0 = 48 := Classical.not_not.1 h3
          have hn : numB (bl t) = false := by
            unfold numB
            rw [h0, h3]
            simp [h2]
          repeat' (first | (with_reducible first | refine p_tn ?_ | refine wp_ret ?_ | refine l_nil ?_) | (with_reducible (refine is_l ?_; (refine l_p tys rfl rfl ?_))))
          refine end1 rfl rfl ?_
          exact ⟨by rw [hn], H.B⟩
    · have h1 : bl t = [] := Classical.not_not.1 h1
      have hn : numB (bl t) = false := by rw [h1]; rfl
      repeat' (first | (with_reducible first | refine p_tn ?_ | refine wp_ret ?_ | refine l_nil ?_) | (with_reducible (refine is_l ?_; (first | (refine l_off rfl ?_) | (refine l_p tys rfl rfl ?_)))))
      refine end1 rfl rfl ?_
      exact ⟨by rw [hn], H.B⟩
set_option maxHeartbeats 4000000 in
theorem isWord_c (t : ByteArray) (w : World) (ht : t.size ≤ 100000000) : Calls Tryz.prog 90 #[.string t] w fun e w' => e = .returned (.bool (wordB (bl t))) ∧ Below w.heap.size w w' := by
  have hlen := bl_length t
  refine enter (args := [.string t]) Tryz.func90 rfl Tryz.ntmps90 rfl ?_
  have H := Hp.nil w
  repeat' (first | (with_reducible first | refine p_tn ?_ | refine wp_seq ?_ | refine w_reg ?_ | refine l_nil ?_) | (with_reducible (refine is_l ?_; (refine l_p tys rfl rfl ?_))))
  (with_reducible refine is_l ?_); refine l_range H Tryz.underlying9 rfl rfl (fun g w_ H hk hg => ?_)
  repeat' (with_reducible first | refine p_tn ?_ | refine wp_block ?_ | refine l_nil ?_)
  refine w_loop (σ := Nat × Bool) (S := fun s => [(0, .string t), (3, .bool s.2), (7, .pointer (some ⟨g, 0, none⟩))]) (J := fun s w' => Hp w w' [] [] ∧ w'.heap[g]? = some (.stringIter t s.1) ∧ ((bl t).take s.1).all wordC = true ∧ s.2 = ((bl t).take s.1).all digB) (μ := fun s => t.size - s.1) (0, true) ⟨rfl, rfl, rfl, trivial⟩ ⟨H, hk, by simp, by simp⟩ ?_
  clear hk H
  rintro ⟨p, dg⟩ f w_ ⟨H, hk, ha, hdg⟩
  simp only at H hk ha hdg ⊢
  repeat' (with_reducible first | refine wp_seq ?_ | refine w_reg ?_)
  by_cases hp : p < t.size
  · obtain ⟨b, hb, hbb⟩ := dec_byte t p hp
    (with_reducible refine is_l ?_); refine l_nextV H hk hg hp rfl rfl (fun w_ H hk => ?_)
    have hmore : ∀ q : Int → Bool, ((bl t).take (p + 1)).all q = (((bl t).take p).all q && q b) := fun q => by
      rw [List.take_succ_eq_append_getElem (by omega), List.all_append, (List.getElem?_eq_some_iff.1 hb).2]
      simp
    rcases hbb with ⟨h1, h2, h3⟩ | ⟨h1, h2⟩
    · rw [h3] at hk
      rw [h2]
      repeat' (first | (with_reducible first | refine p_tn ?_ | refine wp_seq ?_ | refine wp_block ?_ | refine w_reg ?_) | (with_reducible (refine is_if ?_; (refine w_ift rfl ?_))) | (with_reducible first | refine wp_skip ?_ | refine l_nil ?_) | (with_reducible (refine is_l ?_; (refine l_p tys rfl rfl ?_))))
      (with_reducible refine is_l ?_); refine l_callp rfl rfl (by kernel_rfl) (isDigit_c b _) ?_
      cases hd : digB b
      · repeat' (first | (with_reducible first | refine p_tn ?_ | refine wp_seq ?_ | refine w_reg ?_) | (with_reducible (refine is_if ?_; (refine w_ift rfl ?_))) | (with_reducible refine l_nil ?_) | (with_reducible (refine is_l ?_; (refine l_p tys rfl rfl ?_))))
        (with_reducible refine is_l ?_); refine l_callp rfl rfl (by kernel_rfl) (isSmall_c b _) ?_
        cases hs : smlB b
        · repeat' (with_reducible (refine is_l ?_; (refine l_p tys rfl rfl ?_)))
          (with_reducible refine is_l ?_); refine l_callp rfl rfl (by kernel_rfl) (isCapital_c b _) ?_
          cases hc : capB b
          · repeat' (with_reducible (refine is_l ?_; (refine l_p tys rfl rfl ?_)))
            (with_reducible refine is_l ?_); refine l_t tys rfl rfl (fun h4 => ?_) (fun h4 => ?_)
            · have hw : wordC b = false := by unfold wordC; rw [hd, hs, hc]; simpa using h4
              have hn : wordB (bl t) = false := by unfold wordB; rw [not_all hb hw]; rfl
              repeat' (first | (with_reducible first | refine p_tn ?_ | refine p_tr ?_ | refine p_br ?_ | refine wp_seq ?_ | refine w_reg ?_) | (with_reducible (refine is_if ?_; (refine w_ift rfl ?_))) | (with_reducible first | refine wp_ret ?_ | refine l_nil ?_) | (with_reducible (refine is_l ?_; (refine l_p tys rfl rfl ?_))))
              refine end1 rfl rfl ?_
              exact ⟨by rw [hn], H.B⟩
            · have hw : wordC b = true := by unfold wordC; rw [hd, hs, hc]; simpa using h4
              repeat' (first | (with_reducible first | refine p_tn ?_ | refine p_bn ?_) | (with_reducible (refine is_if ?_; (refine w_iff rfl ?_))) | (with_reducible first | refine wp_skip ?_ | refine l_nil ?_) | (with_reducible (refine is_l ?_; (refine l_p tys rfl rfl ?_))))
              exact ⟨(p + 1, false), _, rfl, ⟨rfl, rfl, rfl, trivial⟩, ⟨H, hk, by rw [hmore, ha, hw]; rfl, by rw [hmore, hd, Bool.and_false]⟩, by show _ - (p + 1) < _ - p; omega⟩
          · have hw : wordC b = true := by unfold wordC; rw [hc]; simp
            repeat' (first | (with_reducible first | refine p_tn ?_ | refine p_bn ?_) | (with_reducible (refine is_if ?_; (refine w_iff rfl ?_))) | (with_reducible first | refine wp_skip ?_ | refine l_nil ?_) | (with_reducible (refine is_l ?_; (first | (refine l_off rfl ?_) | (refine l_p tys rfl rfl ?_)))))
            exact ⟨(p + 1, false), _, rfl, ⟨rfl, rfl, rfl, trivial⟩, ⟨H, hk, by rw [hmore, ha, hw]; rfl, by rw [hmore, hd, Bool.and_false]⟩, by show _ - (p + 1) < _ - p; omega⟩
        · have hw : wordC b = true := by unfold wordC; rw [hs]; simp
          repeat' (first | (with_reducible first | refine p_tn ?_ | refine p_bn ?_) | (with_reducible (refine is_if ?_; (refine w_iff rfl ?_))) | (with_reducible first | refine wp_skip ?_ | refine l_nil ?_) | (with_reducible (refine is_l ?_; (first | (refine l_off rfl ?_) | (refine l_p tys rfl rfl ?_)))))
          exact ⟨(p + 1, false), _, rfl, ⟨rfl, rfl, rfl, trivial⟩, ⟨H, hk, by rw [hmore, ha, hw]; rfl, by rw [hmore, hd, Bool.and_false]⟩, by show _ - (p + 1) < _ - p; omega⟩
      · have hw : wordC b = true := by unfold wordC; rw [hd]; rfl
        repeat' (first | (with_reducible first | refine p_tn ?_ | refine p_bn ?_) | (with_reducible (refine is_if ?_; (refine w_iff rfl ?_))) | (with_reducible first | refine wp_skip ?_ | refine l_nil ?_) | (with_reducible (refine is_l ?_; (refine l_p tys rfl rfl ?_))))
        exact ⟨(p + 1, dg), _, rfl, ⟨rfl, rfl, rfl, trivial⟩, ⟨H, hk, by rw [hmore, ha, hw]; rfl, by rw [hmore, hd, Bool.and_true]; exact hdg⟩, by show _ - (p + 1) < _ - p; omega⟩
    · have hw : wordC b = false := by unfold wordC digB smlB capB; simp; omega
      generalize ((Utf8.decode t p).1 : Int) = q at h2 ⊢
      repeat' (first | (with_reducible first | refine p_tn ?_ | refine wp_seq ?_ | refine wp_block ?_ | refine w_reg ?_) | (with_reducible (refine is_if ?_; (refine w_ift rfl ?_))) | (with_reducible first | refine wp_skip ?_ | refine l_nil ?_) | (with_reducible (refine is_l ?_; (refine l_p tys rfl rfl ?_))))
      have hd2 := fun w1 => isDigit_c q w1
      have hs2 := fun w1 => isSmall_c q w1
      have hc2 := fun w1 => isCapital_c q w1
      rw [show digB q = false by unfold digB; simp; omega] at hd2
      rw [show smlB q = false by unfold smlB; simp; omega] at hs2
      rw [show capB q = false by unfold capB; simp; omega] at hc2
      (with_reducible refine is_l ?_); refine l_callp rfl rfl (by kernel_rfl) (hd2 _) ?_
      repeat' (first | (with_reducible first | refine p_tn ?_ | refine wp_seq ?_ | refine w_reg ?_) | (with_reducible (refine is_if ?_; (refine w_ift rfl ?_))) | (with_reducible refine l_nil ?_) | (with_reducible (refine is_l ?_; (refine l_p tys rfl rfl ?_))))
      (with_reducible refine is_l ?_); refine l_callp rfl rfl (by kernel_rfl) (hs2 _) ?_
      repeat' (with_reducible (refine is_l ?_; (refine l_p tys rfl rfl ?_)))
      (with_reducible refine is_l ?_); refine l_callp rfl rfl (by kernel_rfl) (hc2 _) ?_
      repeat' (with_reducible (refine is_l ?_; (refine l_p tys rfl rfl ?_)))
      (with_reducible refine is_l ?_); refine l_t tys rfl rfl (fun h4 => ?_) (fun h4 => absurd h4 (by omega))
      have hn : wordB (bl t) = false := by unfold wordB; rw [not_all hb hw]; rfl
      repeat' (first | (with_reducible first | refine p_tn ?_ | refine p_tr ?_ | refine p_br ?_ | refine wp_seq ?_ | refine w_reg ?_) | (with_reducible (refine is_if ?_; (refine w_ift rfl ?_))) | (with_reducible first | refine wp_ret ?_ | refine l_nil ?_) | (with_reducible (refine is_l ?_; (refine l_p tys rfl rfl ?_))))
      refine end1 rfl rfl ?_
      exact ⟨by rw [hn], H.B⟩
  · have hfull : (bl t).take p = bl t := List.take_of_length_le (by omega)
    rw [hfull] at ha hdg
    (with_reducible refine is_l ?_); refine l_nextE hk hp rfl rfl ?_
    cases dg
    · skip
      repeat' (first | (with_reducible first | refine p_tn ?_ | refine p_tx ?_ | refine x_hit ?_ | refine wp_seq ?_ | refine w_reg ?_) | (with_reducible (refine is_if ?_; (refine w_iff rfl ?_))) | (with_reducible first | refine wp_exit ?_ | refine l_nil ?_) | (with_reducible (refine is_l ?_; (refine l_p tys rfl rfl ?_))))
      (with_reducible refine is_l ?_); refine l_t tys rfl rfl (fun h1 => ?_) (fun h1 => ?_)
      rotate_left
      · have h1 : bl t = [] := Classical.not_not.1 h1
        have hn : wordB (bl t) = false := by rw [h1]; rfl
        repeat' (first | (with_reducible first | refine p_tn ?_ | refine wp_ret ?_ | refine l_nil ?_) | (with_reducible (refine is_l ?_; (first | (refine l_off rfl ?_) | (refine l_p tys rfl rfl ?_)))))
        refine end1 rfl rfl ?_
        exact ⟨by rw [hn], H.B⟩
      have hne : bl t ≠ [] := h1
      have hn : wordB (bl t) = true := by
        unfold wordB
        rw [ha, ← hdg]
        simp [hne]
      repeat' (first | (with_reducible first | refine p_tn ?_ | refine wp_ret ?_ | refine l_nil ?_) | (with_reducible (refine is_l ?_; (first | (refine l_off rfl ?_) | (refine l_p tys rfl rfl ?_)))))
      refine end1 rfl rfl ?_
      exact ⟨by rw [hn], H.B⟩
    · skip
      repeat' (first | (with_reducible first | refine p_tn ?_ | refine p_tx ?_ | refine x_hit ?_ | refine wp_seq ?_ | refine w_reg ?_) | (with_reducible (refine is_if ?_; (refine w_iff rfl ?_))) | (with_reducible first | refine wp_exit ?_ | refine l_nil ?_) | (with_reducible (refine is_l ?_; (refine l_p tys rfl rfl ?_))))
      (with_reducible refine is_l ?_); refine l_t tys rfl rfl (fun h1 => ?_) (fun h1 => ?_)
      rotate_left
      · have h1 : bl t = [] := Classical.not_not.1 h1
        have hn : wordB (bl t) = false := by rw [h1]; rfl
        repeat' (first | (with_reducible first | refine p_tn ?_ | refine wp_ret ?_ | refine l_nil ?_) | (with_reducible (refine is_l ?_; (first | (refine l_off rfl ?_) | (refine l_p tys rfl rfl ?_)))))
        refine end1 rfl rfl ?_
        exact ⟨by rw [hn], H.B⟩
      have hne : bl t ≠ [] := h1
      have hn : wordB (bl t) = numB (bl t) := by
        unfold wordB
        rw [ha, ← hdg]
        simp [hne]
      repeat' (with_reducible (refine is_l ?_; (refine l_p tys rfl rfl ?_)))
      (with_reducible refine is_l ?_); refine l_callv rfl rfl (by kernel_rfl) (isNumber_c t _ ht) (fun w_ K => ?_)
      have H := H.call K
      cases hnb : numB (bl t)
      all_goals
        repeat' (first | (with_reducible first | refine p_tn ?_ | refine wp_ret ?_ | refine l_nil ?_) | (with_reducible (refine is_l ?_; (refine l_p tys rfl rfl ?_))))
        refine end1 rfl rfl ?_
        exact ⟨by rw [hn, hnb], H.B⟩
end Go.Proofs.YtnimaenhijlcmaaGreatDoor.K
