/- The reference's base64, bit by bit. -/
import Derived.Test.YtnimaenhijlcmaaGreatDoorFc
import Derived.Test.YtnimaenhijlcmaaGreatDoorMBit
namespace Go.Proofs.YtnimaenhijlcmaaGreatDoor.K.Ref
open Go.RowKit Go.Proofs.YtnimaenhijlcmaaGreatDoor.Q Go.Proofs.YtnimaenhijlcmaaGreatDoor.K Go.Proofs.YtnimaenhijlcmaaGreatDoor.Mb Go.Proofs.YtnimaenhijlcmaaGreatDoorW.PrintWords
set_option linter.unusedVariables false
set_option linter.unusedSimpArgs false

section
variable {P : Program} {n : Nat} {ops : Array Oper} {Q : Exit → Act → World → Prop} {rest : List Oper} {f : Fr} {w w0 : World} {d : Option Nat} {tt : TypeId} {ps : String} {af : Array Edge} {gd : Option (Nat × Bool)}
theorem l_cvi {src dst : TypeId} {k k2 : IntKind} {z y : Int} {x : Operand} (hs : P.underlying src = some (.int k)) (hd : P.underlying dst = some (.int k2)) (hw : want n ops f ⟨d, .convert src dst x, tt, ps, af, gd⟩ = true) (hx : nf (X n f x) = some (.int k z)) (hz : k2.wrap z = y) (h : WL P ops Q rest (act n (put f d (.int k2 y))) w) : WL P ops Q (⟨d, .convert src dst x, tt, ps, af, gd⟩ :: rest) (act n f) w := by
  subst hz
  refine l_val hw ?_ h
  have hx' := nf_eq hx
  unfold execOp
  simp [go_sem, ← hx', convert, run_underlying hs, run_underlying hd]
end
abbrev rowI (v : Value) (b : L) : RowD := ⟨v, 3, 1, b.length, nums .i64 b⟩
theorem numsI_snoc (x : L) (c : Int) : nums .i64 (x ++ [c]) = nums .i64 x ++ [.int .i64 c] := by simp [nums]
theorem info_i : (Tryz.prog.info? 3).map (fun i => (i.zero, i.size, i.bytes)) = some (some (.int .i64 0), 1, 8) := by kernel_rfl
theorem shrB (t : TypeId) (w : World) {k : IntKind} (s : Nat) (hs : s ≤ 7) {x : Int} (h0 : 0 ≤ x) : (binOp .shr t (.int .u8 x) (.int k (s : Int))).run Tryz.prog w = .ok (.int .u8 (x / 2 ^ s)) w := by
  have h3 : ¬ ((s : Int) < 0) := by omega
  have h4 : min s IntKind.u8.bits = s := Nat.min_eq_left (by show s ≤ 8; omega)
  rw [binOp_shr]
  simp only [Op.shift]
  rw [if_neg h3, Int.toNat_natCast, h4, Int.fdiv_eq_ediv_of_nonneg _ (by exact_mod_cast Nat.zero_le _)]
  rfl
theorem rd_at {w : World} {ad : Addr} {l : L} {i : Nat} {x : Int} {k : IntKind} (h : Rd w (some ad) (nums k l)) (hx : l[i]? = some x) : w.cell? (ad.add (i * 1)) = some (.int k x) := by
  rw [Nat.mul_one]
  exact h.2 ad rfl i _ (by unfold nums; rw [List.getElem?_map, hx]; rfl)
theorem rd_some' {w : World} {A : Option Addr} {l : L} {k : IntKind} (h : Rd w A (nums k l)) (hl : 0 < l.length) : ∃ ad, A = some ad := by
  cases A with
  | some ad => exact ⟨ad, rfl⟩
  | none =>
    have := h.1 rfl
    cases l with
    | nil => exact absurd hl (by simp)
    | cons x r => simp [nums] at this
theorem bits_take {l : L} {i : Nat} {x : Int} (h : l[i]? = some x) : bitsOf (l.take (i + 1)) = bitsOf (l.take i) ++ bits8 x := by
  obtain ⟨h1, h2⟩ := List.getElem?_eq_some_iff.1 h
  rw [List.take_succ_eq_append_getElem h1, h2, bitsOf_app]
  simp [bitsOf]
theorem div_pow_le {x : Int} (h0 : 0 ≤ x) (h1 : x ≤ 255) (s : Nat) : 0 ≤ x / 2 ^ s ∧ x / 2 ^ s ≤ 255 := by
  have h2 : 0 ≤ x / 2 ^ s := Int.ediv_nonneg h0 (by exact_mod_cast Nat.zero_le _)
  have h3 : x / 2 ^ s ≤ x := Int.ediv_le_self _ h0
  omega
set_option maxRecDepth 100000 in
set_option maxHeartbeats 8000000 in
theorem bits_c {w : World} {A : Option Addr} {c : Nat} {l : L} (hR : Rd w A (nums .u8 l)) (hb : Bytes l) (hl : l.length ≤ 1000) :
    Calls Tryz.prog 81 #[.slice A l.length c] w fun e w' => ∃ A1 c1, e = .returned (.slice A1 (bitsOf l).length c1) ∧ Hp w w' [] [rowI (.slice A1 (bitsOf l).length c1) (bitsOf l)] := by
  have hbl := bitsOf_length l
  refine enter (args := [.slice A l.length c]) Tryz.func81 rfl Tryz.ntmps81 rfl ?_
  have H := (Hp.nil w).nilRow 3 1
  repeat' (first | (with_reducible first | refine p_tn ?_ | refine wp_seq ?_ | refine wp_block ?_ | refine w_reg ?_ | refine l_nil ?_) | ((with_reducible refine g_on ?_); ((with_reducible refine g_as ?_); refine l_p txs rfl rfl ?_)))
  refine w_loop (σ := Nat × Option Addr × Nat) (S := fun s => [(0, .slice A l.length c), (3, .slice s.2.1 (bitsOf (l.take s.1)).length s.2.2), (4, .int .i64 (s.1 : Int))])
    (J := fun s w' => Hp w w' [] [rowI (.slice s.2.1 (bitsOf (l.take s.1)).length s.2.2) (bitsOf (l.take s.1))] ∧ s.1 ≤ l.length) (μ := fun s => l.length - s.1) (0, none, 0) ⟨rfl, rfl, rfl, trivial⟩ ⟨H, by omega⟩ ?_
  clear H
  rintro ⟨i, A2, c2⟩ f w_ ⟨H, hi⟩
  simp only at H hi ⊢
  repeat' (first | (with_reducible first | refine wp_seq ?_ | refine w_reg ?_) | ((with_reducible refine g_on ?_); (first | ((with_reducible refine g_mv ?_); refine l_p txs rfl rfl ?_) | ((with_reducible refine g_cl ?_); refine l_p txs rfl rfl ?_))))
  (with_reducible refine is_l ?_); refine l_t txs rfl rfl (fun hlt => ?_) (fun hge => ?_)
  · obtain ⟨x, hx⟩ : ∃ x, l[i]? = some x := ⟨_, List.getElem?_eq_getElem (by omega)⟩
    have hx2 := hb x (List.mem_of_getElem? hx)
    obtain ⟨ad, rfl⟩ := rd_some' hR (by omega)
    have hbt := bits_take hx
    have hbtl := bitsOf_length (l.take i)
    rw [List.length_take_of_le (by omega)] at hbtl
    generalize bitsOf (l.take i) = base at H hbt hbtl ⊢
    repeat' (first | (with_reducible first | refine p_tn ?_ | refine wp_seq ?_ | refine wp_block ?_ | refine w_reg ?_) | (with_reducible (refine is_if ?_; (refine w_ift rfl ?_))) | (with_reducible first | refine wp_skip ?_ | refine l_nil ?_) | ((with_reducible refine g_on ?_); ((with_reducible refine g_as ?_); refine l_p txs rfl rfl ?_)))
    refine w_loop (σ := Nat × L × Option Addr × Nat) (S := fun s => [(0, .slice (some ad) l.length c), (3, .slice s.2.2.1 s.2.1.length s.2.2.2), (4, .int .i64 (i : Int)), (5, .int .i64 (7 - (s.1 : Int)))])
      (J := fun s w' => Hp w w' [] [rowI (.slice s.2.2.1 s.2.1.length s.2.2.2) s.2.1] ∧ s.1 ≤ 8 ∧ s.2.1 = base ++ (bits8 x).take s.1) (μ := fun s => 8 - s.1) (0, base, A2, c2) ⟨rfl, rfl, rfl, rfl, trivial⟩ ⟨H, by omega, by simp⟩ ?_
    clear H
    rintro ⟨k, acc, A3, c3⟩ f w_ ⟨H, hk, hacc⟩
    simp only at H hk hacc ⊢
    have hal : acc.length ≤ base.length + 8 := by
      rw [hacc, List.length_append, List.length_take]
      have := bits8_len x
      omega
    repeat' (first | (with_reducible first | refine wp_seq ?_ | refine w_reg ?_) | ((with_reducible refine g_on ?_); ((with_reducible refine g_mv ?_); refine l_p txs rfl rfl ?_)))
    (with_reducible refine is_l ?_); refine l_t txs rfl rfl (fun hk0 => ?_) (fun hk8 => ?_)
    · have hat := bits8_at x k (by omega)
      obtain ⟨y, hy⟩ : ∃ y, y = x / 2 ^ (7 - k) % 2 := ⟨_, rfl⟩
      have hdp := div_pow_le hx2.1 hx2.2 (7 - k)
      have hjk : (7 : Int) - (k : Int) = ((7 - k : Nat) : Int) := by omega
      repeat' (first | (with_reducible first | refine p_tn ?_ | refine wp_seq ?_ | refine wp_block ?_ | refine w_reg ?_) | (with_reducible (refine is_if ?_; (refine w_ift rfl ?_))) | (with_reducible first | refine wp_skip ?_ | refine l_nil ?_) | ((with_reducible refine g_on ?_); (first | ((with_reducible refine g_mv ?_); refine l_p txs rfl rfl ?_) | ((with_reducible refine g_ia ?_); refine l_ia txs rfl rfl (by first | omega | assumption | decide) (by first | omega | assumption | decide) ?_))))
      (with_reducible refine is_l ?_); refine l_ld txs rfl rfl (by rw [Int.toNat_natCast]; exact rd_at (hR.below H.B) hx) ?_
      repeat' ((with_reducible refine g_on ?_); ((with_reducible refine g_mv ?_); refine l_p txs rfl rfl ?_))
      (with_reducible refine is_l ?_); refine l_cvi (y := ((7 - k : Nat) : Int)) Tryz.underlying3 Tryz.underlying97 rfl rfl (by rw [IntKind.wrap_u64]; omega) ?_
      (with_reducible refine is_l ?_); refine l_bii rfl rfl rfl (shrB _ _ (7 - k) (by omega) hx2.1) ?_
      repeat' ((with_reducible refine g_on ?_); ((with_reducible refine g_cv ?_); (refine l_a txs rfl rfl (by first | exact in_i64 (by omega) (by omega) | exact in_u8 (by omega) (by omega) | exact in_u64 (by omega) (by omega) | exact in_i32 (by omega) (by omega)) ?_)))
      (with_reducible refine is_l ?_); refine l_rem rfl rfl (by omega) (by decide) ?_
      rw [← hy] at hat ⊢
      (with_reducible refine is_l ?_); refine h_bs H info_i Tryz.underlying98 (by decide) (by decide) rfl rfl (by kernel_rfl) (fun g_ w_ H => ?_)
      (with_reducible refine is_l ?_); refine h_app H 0 rfl info_i Tryz.underlying98 rfl rfl rfl rfl (H.cellRd 0 rfl) rfl rfl (by show (acc.length + 1) * 8 ≤ _; omega) (fun v w_ hv H => ?_)
      obtain ⟨A', c', rfl⟩ := hv
      have H := H.pick [] [0] (by decide) (by decide) rfl rfl
      have H : Hp w w_ [] [rowI (.slice A' (acc.length + 1) c') (acc ++ [y])] := by
        unfold rowI
        rw [numsI_snoc, List.length_append, List.length_singleton]
        exact H
      have hal2 : (acc ++ [y]).length = acc.length + 1 := by rw [List.length_append, List.length_singleton]
      repeat' (first | (with_reducible first | refine p_tn ?_ | refine p_bn ?_ | refine w_reg ?_ | refine l_nil ?_) | ((with_reducible refine g_on ?_); (first | ((with_reducible refine g_mv ?_); refine l_p txs rfl rfl ?_) | ((with_reducible refine g_as ?_); refine l_p txs rfl rfl ?_) | ((with_reducible refine g_bi ?_); (refine l_a txs rfl rfl (by first | exact in_i64 (by omega) (by omega) | exact in_u8 (by omega) (by omega) | exact in_u64 (by omega) (by omega) | exact in_i32 (by omega) (by omega)) ?_)))))
      refine ⟨(k + 1, acc ++ [y], A', c'), _, rfl, ⟨rfl, by show _ = Value.slice A' (acc ++ [y]).length c'; rw [hal2]; rfl, rfl, by show Value.int .i64 (7 - (k : Int) - 1) = Value.int .i64 (7 - ((k + 1 : Nat) : Int)); congr 1; omega, trivial⟩, ⟨by rw [hal2]; exact H, by show k + 1 ≤ 8; omega, ?_⟩, by show 8 - (k + 1) < 8 - k; omega⟩
      show acc ++ [y] = base ++ (bits8 x).take (k + 1)
      obtain ⟨g1, g2⟩ := List.getElem?_eq_some_iff.1 hat
      rw [List.take_succ_eq_append_getElem g1, g2, hacc, List.append_assoc]
    · obtain rfl : k = 8 := by omega
      have hfull : acc = bitsOf (l.take (i + 1)) := by
        rw [hbt, hacc, List.take_of_length_le (by rw [bits8_len]; omega)]
      rw [hfull] at H ⊢
      repeat' (first | (with_reducible first | refine p_tn ?_ | refine p_tx ?_ | refine p_bn ?_ | refine x_hit ?_ | refine w_reg ?_) | (with_reducible (refine is_if ?_; (refine w_iff rfl ?_))) | (with_reducible first | refine wp_exit ?_ | refine l_nil ?_) | ((with_reducible refine g_on ?_); (first | ((with_reducible refine g_mv ?_); refine l_p txs rfl rfl ?_) | ((with_reducible refine g_as ?_); refine l_p txs rfl rfl ?_) | ((with_reducible refine g_bi ?_); (refine l_a txs rfl rfl (by first | exact in_i64 (by omega) (by omega) | exact in_u8 (by omega) (by omega) | exact in_u64 (by omega) (by omega) | exact in_i32 (by omega) (by omega)) ?_)))))
      exact ⟨(i + 1, A3, c3), _, rfl, ⟨rfl, rfl, rfl, trivial⟩, ⟨H, by show i + 1 ≤ _; omega⟩, by show _ - (i + 1) < _ - i; omega⟩
  · have hall : l.take i = l := List.take_of_length_le (by omega)
    simp only [hall] at H ⊢
    repeat' (first | (with_reducible first | refine p_tn ?_ | refine p_tx ?_ | refine x_hit ?_ | refine wp_seq ?_ | refine w_reg ?_) | (with_reducible (refine is_if ?_; (refine w_iff rfl ?_))) | (with_reducible first | refine wp_exit ?_ | refine wp_ret ?_ | refine l_nil ?_) | ((with_reducible refine g_on ?_); (first | ((with_reducible refine g_mv ?_); refine l_p txs rfl rfl ?_) | ((with_reducible refine g_as ?_); refine l_p txs rfl rfl ?_))))
    refine end1 rfl rfl ?_
    exact ⟨A2, c2, rfl, H⟩
theorem zeros_rep (n : Nat) : zeros n = List.replicate (zeros n).length 0 ∧ (8 * n + (zeros n).length) % 6 = 0 ∧ (zeros n).length ≤ 4 := by
  unfold zeros
  split
  · exact ⟨rfl, by show (8 * n + 4) % 6 = 0; omega, by decide⟩
  split
  · exact ⟨rfl, by show (8 * n + 2) % 6 = 0; omega, by decide⟩
  · exact ⟨rfl, by show (8 * n + 0) % 6 = 0; omega, by decide⟩
theorem pads_rep (n : Nat) : pads n = List.replicate (pads n).length 61 ∧ ((8 * n + (zeros n).length) / 6 + (pads n).length) % 4 = 0 ∧ (pads n).length ≤ 2 := by
  unfold pads zeros
  split
  · exact ⟨rfl, by show ((8 * n + 4) / 6 + 2) % 4 = 0; omega, by decide⟩
  split
  · exact ⟨rfl, by show ((8 * n + 2) / 6 + 1) % 4 = 0; omega, by decide⟩
  · exact ⟨rfl, by show ((8 * n + 0) / 6 + 0) % 4 = 0; omega, by decide⟩
theorem letters_take {b : L} {m : Nat} (h : 6 * m + 6 ≤ b.length) : letters (b.take (6 * (m + 1))) = letters (b.take (6 * m)) ++ [lt (numOf ((b.drop (6 * m)).take 6))] := by
  have e : b.take (6 * (m + 1)) = b.take (6 * m) ++ (b.drop (6 * m)).take 6 := by
    rw [show 6 * (m + 1) = 6 * m + 6 by omega, List.take_add]
  rw [e, letters_app m _ _ (by rw [List.length_take_of_le (by omega)]), letters_six (l := (b.drop (6 * m)).take 6) (by rw [List.length_take, List.length_drop]; omega)]
theorem int_row {w0 w : World} {l : List Ent} {r : List RowD} {A : Option Addr} {c : Nat} {b : L} (H : Hp w0 w l r) (k : Nat) (hk : r[k]? = some (rowI (.slice A b.length c) b)) : Rd w A (nums .i64 b) := by
  obtain ⟨A3, c3, e3, _, hRd, hAn⟩ := H.rd k hk
  cases e3
  exact hRd
set_option maxRecDepth 100000 in
set_option maxHeartbeats 16000000 in
theorem enc_r {w : World} {A : Option Addr} {c : Nat} {l : L} (hR : Rd w A (nums .u8 l)) (hb : Bytes l) (hl : l.length ≤ 1000) :
    Calls Tryz.prog 49 #[.slice A l.length c] w fun e w' => e = .returned (.string (strOfNums (enc64 l))) ∧ Below w.heap.size w w' := by
  obtain ⟨zr1, zr2, zr3⟩ := zeros_rep l.length
  obtain ⟨pr1, pr2, pr3⟩ := pads_rep l.length
  have hle := letters_bits hb
  have hbl := bitsOf_length l
  have hbb := bits_bitsOf l
  refine enter (args := [.slice A l.length c]) Tryz.func49 rfl Tryz.ntmps49 rfl ?_
  have H := Hp.nil w
  repeat' (first | (with_reducible first | refine p_tn ?_ | refine wp_seq ?_ | refine w_reg ?_ | refine l_nil ?_) | ((with_reducible refine g_on ?_); (first | ((with_reducible refine g_mv ?_); refine l_p txs rfl rfl ?_) | ((with_reducible refine g_as ?_); refine l_p txs rfl rfl ?_))))
  (with_reducible refine is_l ?_); refine l_call rfl rfl (by kernel_rfl) (bits_c hR hb hl) (fun e w_ hRr => ?_)
  obtain ⟨A1, c1, rfl, K⟩ := hRr
  refine ⟨_, rfl, ?_⟩
  have H := H.join K
  have H : Hp w w_ [] [rowI (.slice A1 (bitsOf l).length c1) (bitsOf l)] := H
  generalize bitsOf l = bs at H hle hbl hbb
  generalize zeros l.length = zs at zr1 zr2 zr3 pr2 hle
  generalize pads l.length = ps at pr1 pr2 pr3 hle
  repeat' (first | (with_reducible first | refine p_tn ?_ | refine wp_seq ?_ | refine wp_block ?_ | refine l_nil ?_) | ((with_reducible refine g_on ?_); ((with_reducible refine g_as ?_); refine l_p txs rfl rfl ?_)))
  refine w_loop (σ := Nat × L × Option Addr × Nat) (S := fun s => [(3, .slice s.2.2.1 s.2.1.length s.2.2.2)])
    (J := fun s w' => Hp w w' [] [rowI (.slice s.2.2.1 s.2.1.length s.2.2.2) s.2.1] ∧ s.1 ≤ zs.length ∧ s.2.1 = bs ++ List.replicate s.1 0) (μ := fun s => zs.length - s.1) (0, bs, A1, c1) ⟨rfl, trivial⟩ ⟨H, by omega, by simp⟩ ?_
  clear H
  rintro ⟨k, acc, A2, c2⟩ f w_ ⟨H, hk, hacc⟩
  simp only at H hk hacc ⊢
  have hal : acc.length = 8 * l.length + k := by rw [hacc, List.length_append, List.length_replicate, hbl]
  repeat' (first | (with_reducible first | refine wp_seq ?_ | refine w_reg ?_) | ((with_reducible refine g_on ?_); (first | ((with_reducible refine g_mv ?_); refine l_p txs rfl rfl ?_) | ((with_reducible refine g_cl ?_); refine l_p txs rfl rfl ?_))))
  (with_reducible refine is_l ?_); refine l_rem rfl rfl (by omega) (by decide) ?_
  skip
  (with_reducible refine is_l ?_); refine l_t txs rfl rfl (fun hne => ?_) (fun heq => ?_)
  · repeat' (first | (with_reducible first | refine p_tn ?_ | refine wp_block ?_ | refine w_reg ?_) | (with_reducible (refine is_if ?_; (refine w_ift rfl ?_))) | (with_reducible first | refine wp_skip ?_ | refine l_nil ?_) | ((with_reducible refine g_on ?_); ((with_reducible refine g_mv ?_); refine l_p txs rfl rfl ?_)))
    (with_reducible refine is_l ?_); refine h_bs H info_i Tryz.underlying98 (by decide) (by decide) rfl rfl (by kernel_rfl) (fun g_ w_ H => ?_)
    (with_reducible refine is_l ?_); refine h_app H 0 rfl info_i Tryz.underlying98 rfl rfl rfl rfl (H.cellRd 0 rfl) rfl rfl (by show (acc.length + 1) * 8 ≤ _; omega) (fun v w_ hv H => ?_)
    obtain ⟨A', c', rfl⟩ := hv
    have H := H.pick [] [0] (by decide) (by decide) rfl rfl
    have H : Hp w w_ [] [rowI (.slice A' (acc.length + 1) c') (acc ++ [0])] := by
      unfold rowI
      rw [numsI_snoc, List.length_append, List.length_singleton]
      exact H
    have hal2 : (acc ++ [0]).length = acc.length + 1 := by rw [List.length_append, List.length_singleton]
    repeat' (first | (with_reducible first | refine p_tn ?_ | refine p_bn ?_ | refine l_nil ?_) | ((with_reducible refine g_on ?_); ((with_reducible refine g_as ?_); refine l_p txs rfl rfl ?_)))
    have hlt : k < zs.length := by
      rcases Nat.lt_or_ge k zs.length with h | h
      · exact h
      · exfalso
        have hk2 : k = zs.length := by omega
        apply hne
        rw [hal, hk2]
        omega
    exact ⟨(k + 1, acc ++ [0], A', c'), _, rfl, ⟨by show _ = Value.slice A' (acc ++ [0]).length c'; rw [hal2]; rfl, trivial⟩, ⟨by rw [hal2]; exact H, by show k + 1 ≤ zs.length; omega, by show acc ++ [0] = bs ++ List.replicate (k + 1) 0; rw [hacc, List.append_assoc, List.replicate_succ']⟩, by show _ - (k + 1) < _ - k; omega⟩
  have heq : ((acc.length : Int)) % 6 = 0 := Classical.not_not.1 heq
  have hkz : k = zs.length := by omega
  have hB : acc = bs ++ zs := by rw [hacc, hkz, ← zr1]
  rw [← hB] at hle
  have hbits : Bits acc := by
    intro x hx
    rw [hacc] at hx
    rcases List.mem_append.1 hx with h | h
    · exact hbb x h
    · rw [(List.mem_replicate.1 h).2]; omega
  clear hacc hB
  obtain ⟨M, hM⟩ : ∃ M, acc.length = 6 * M := ⟨acc.length / 6, by omega⟩
  have hMl : M ≤ 2000 := by omega
  have hpM : (M + ps.length) % 4 = 0 := by
    have : (8 * l.length + zs.length) / 6 = M := by omega
    rw [this] at pr2
    exact pr2
  have H := H.nilRow 5 1
  generalize acc = B at H hle hbits hM hal ⊢
  repeat' (first | (with_reducible first | refine p_tn ?_ | refine p_tx ?_ | refine x_hit ?_ | refine wp_seq ?_ | refine wp_block ?_ | refine w_reg ?_) | (with_reducible (refine is_if ?_; (refine w_iff rfl ?_))) | (with_reducible first | refine wp_exit ?_ | refine l_nil ?_) | ((with_reducible refine g_on ?_); ((with_reducible refine g_as ?_); refine l_p txs rfl rfl ?_)))
  refine w_loop (σ := Nat × Option Addr × Nat) (S := fun s => [(3, .slice A2 B.length c2), (4, .slice s.2.1 (letters (B.take (6 * s.1))).length s.2.2), (5, .int .i64 ((6 * s.1 : Nat) : Int))])
    (J := fun s w' => Hp w w' [] [rowB (.slice s.2.1 (letters (B.take (6 * s.1))).length s.2.2) (letters (B.take (6 * s.1))), rowI (.slice A2 B.length c2) B] ∧ s.1 ≤ M) (μ := fun s => M - s.1) (0, none, 0) ⟨rfl, rfl, rfl, trivial⟩ ⟨H, by omega⟩ ?_
  clear H
  rintro ⟨m, A3, c3⟩ f w_ ⟨H, hm⟩
  simp only at H hm ⊢
  have hll := letters_length m (B.take (6 * m)) (by rw [List.length_take_of_le (by omega)])
  repeat' (first | (with_reducible first | refine wp_seq ?_ | refine w_reg ?_) | ((with_reducible refine g_on ?_); (first | ((with_reducible refine g_mv ?_); refine l_p txs rfl rfl ?_) | ((with_reducible refine g_cl ?_); refine l_p txs rfl rfl ?_))))
  (with_reducible refine is_l ?_); refine l_t txs rfl rfl (fun hlt => ?_) (fun hge => ?_)
  · have hlt6 := letters_take (b := B) (m := m) (by omega)
    have hRb := int_row H 1 rfl
    obtain ⟨ad, rfl⟩ := rd_some' hRb (by omega)
    have hdl : (B.drop (6 * m)).length = B.length - 6 * m := by rw [List.length_drop]
    generalize hacc : letters (B.take (6 * m)) = acc at H hll hlt6 ⊢
    repeat' (first | (with_reducible first | refine p_tn ?_ | refine wp_seq ?_ | refine wp_block ?_ | refine w_reg ?_) | (with_reducible (refine is_if ?_; (refine w_ift rfl ?_))) | (with_reducible first | refine wp_skip ?_ | refine l_nil ?_) | ((with_reducible refine g_on ?_); ((with_reducible refine g_as ?_); refine l_p txs rfl rfl ?_)))
    refine w_loop (σ := Nat) (S := fun s => [(3, .slice (some ad) B.length c2), (4, .slice A3 acc.length c3), (5, .int .i64 ((6 * m : Nat) : Int)), (6, .int .i64 (numOf ((B.drop (6 * m)).take s))), (7, .int .i64 (s : Int))])
      (J := fun s w' => Hp w w' [] [rowB (.slice A3 acc.length c3) acc, rowI (.slice (some ad) B.length c2) B] ∧ s ≤ 6) (μ := fun s => 6 - s) 0 ⟨rfl, rfl, rfl, rfl, rfl, trivial⟩ ⟨H, by omega⟩ ?_
    clear H hRb
    rintro j f w_ ⟨H, hj⟩
    have hRb := int_row H 1 rfl
    have hsm := numOf_small (l := (B.drop (6 * m)).take j) (fun x hx => hbits x (List.mem_of_mem_drop (List.mem_of_mem_take hx))) (by rw [List.length_take]; omega)
    repeat' (first | (with_reducible first | refine wp_seq ?_ | refine w_reg ?_) | ((with_reducible refine g_on ?_); ((with_reducible refine g_mv ?_); refine l_p txs rfl rfl ?_)))
    (with_reducible refine is_l ?_); refine l_t txs rfl rfl (fun hj6 => ?_) (fun hj6 => ?_)
    · obtain ⟨x, hx⟩ : ∃ x, (B.drop (6 * m))[j]? = some x := ⟨_, List.getElem?_eq_getElem (by omega)⟩
      have hx2 : B[6 * m + j]? = some x := by rw [← List.getElem?_drop]; exact hx
      have hxb := hbits x (List.mem_of_getElem? hx2)
      have hnx : numOf ((B.drop (6 * m)).take (j + 1)) = 2 * numOf ((B.drop (6 * m)).take j) + x := by
        obtain ⟨g1, g2⟩ := List.getElem?_eq_some_iff.1 hx
        rw [List.take_succ_eq_append_getElem g1, g2, numOf_snoc]
      generalize numOf ((B.drop (6 * m)).take j) = q at hsm hnx ⊢
      repeat' (first | (with_reducible first | refine p_tn ?_ | refine wp_seq ?_ | refine wp_block ?_ | refine w_reg ?_) | (with_reducible (refine is_if ?_; (refine w_ift rfl ?_))) | (with_reducible first | refine wp_skip ?_ | refine l_nil ?_) | ((with_reducible refine g_on ?_); (first | ((with_reducible refine g_mv ?_); refine l_p txs rfl rfl ?_) | ((with_reducible refine g_ia ?_); refine l_ia txs rfl rfl (by first | omega | assumption | decide) (by first | omega | assumption | decide) ?_) | ((with_reducible refine g_bi ?_); (refine l_a txs rfl rfl (by first | exact in_i64 (by omega) (by omega) | exact in_u8 (by omega) (by omega) | exact in_u64 (by omega) (by omega) | exact in_i32 (by omega) (by omega)) ?_)))))
      (with_reducible refine is_l ?_); refine l_ld txs rfl rfl (by rw [show (((6 * m : Nat) : Int) + (j : Int)).toNat = 6 * m + j by omega]; exact rd_at hRb hx2) ?_
      repeat' (first | (with_reducible first | refine p_tn ?_ | refine p_bn ?_ | refine w_reg ?_ | refine l_nil ?_) | ((with_reducible refine g_on ?_); (first | ((with_reducible refine g_mv ?_); refine l_p txs rfl rfl ?_) | ((with_reducible refine g_as ?_); refine l_p txs rfl rfl ?_) | ((with_reducible refine g_bi ?_); (refine l_a txs rfl rfl (by first | exact in_i64 (by omega) (by omega) | exact in_u8 (by omega) (by omega) | exact in_u64 (by omega) (by omega) | exact in_i32 (by omega) (by omega)) ?_)))))
      exact ⟨j + 1, _, rfl, ⟨rfl, rfl, rfl, by show _ = Value.int .i64 (numOf _); rw [hnx]; rfl, rfl, trivial⟩, ⟨H, by omega⟩, by omega⟩
    · obtain rfl : j = 6 := by omega
      generalize numOf ((B.drop (6 * m)).take 6) = q at hsm hlt6 ⊢
      repeat' (first | (with_reducible first | refine p_tn ?_ | refine p_tx ?_ | refine x_hit ?_ | refine w_reg ?_) | (with_reducible (refine is_if ?_; (refine w_iff rfl ?_))) | (with_reducible first | refine wp_exit ?_ | refine l_nil ?_) | ((with_reducible refine g_on ?_); ((with_reducible refine g_mv ?_); refine l_p txs rfl rfl ?_)))
      (with_reducible refine is_l ?_); refine l_val rfl (let_run txs rfl hsm.1 hsm.2) ?_
      (with_reducible refine is_l ?_); refine h_bs H info_u8 Tryz.underlying34 (by decide) (by decide) rfl rfl (by kernel_rfl) (fun g_ w_ H => ?_)
      (with_reducible refine is_l ?_); refine h_app H 0 rfl info_u8 Tryz.underlying34 rfl rfl rfl rfl (H.cellRd 0 rfl) rfl rfl (by show (acc.length + 1) * 1 ≤ _; omega) (fun v w_ hv H => ?_)
      obtain ⟨A', c', rfl⟩ := hv
      have H := H.pick [] [0, 1] (by decide) (by decide) rfl rfl
      repeat' (first | (with_reducible first | refine p_tn ?_ | refine p_bn ?_ | refine w_reg ?_ | refine l_nil ?_) | ((with_reducible refine g_on ?_); (first | ((with_reducible refine g_mv ?_); refine l_p txs rfl rfl ?_) | ((with_reducible refine g_as ?_); refine l_p txs rfl rfl ?_) | ((with_reducible refine g_bi ?_); (refine l_a txs rfl rfl (by first | exact in_i64 (by omega) (by omega) | exact in_u8 (by omega) (by omega) | exact in_u64 (by omega) (by omega) | exact in_i32 (by omega) (by omega)) ?_)))))
      have hal2 : (acc ++ [lt q]).length = acc.length + 1 := by rw [List.length_append, List.length_singleton]
      rw [← hlt6] at hal2
      refine ⟨(m + 1, A', c'), _, rfl, ⟨rfl, by show _ = Value.slice A' (letters (B.take (6 * (m + 1)))).length c'; rw [hal2]; rfl, by show Value.int .i64 (((6 * m : Nat) : Int) + 6) = Value.int .i64 ((6 * (m + 1) : Nat) : Int); congr 1, trivial⟩, ⟨?_, by show m + 1 ≤ M; omega⟩, by show _ - (m + 1) < _ - m; omega⟩
      show Hp w _ [] [rowB (.slice A' (letters (B.take (6 * (m + 1)))).length c') (letters (B.take (6 * (m + 1)))), _]
      unfold rowB
      rw [hal2, hlt6, nums_snoc]
      exact H
  · obtain rfl : m = M := by omega
    have hfull : B.take (6 * m) = B := List.take_of_length_le (by omega)
    rw [hfull] at H hll ⊢
    have H := H.pick [] [0] (by decide) (by decide) rfl rfl
    generalize letters B = O at H hll hle ⊢
    repeat' (first | (with_reducible first | refine p_tn ?_ | refine p_tx ?_ | refine x_hit ?_ | refine wp_seq ?_ | refine wp_block ?_) | (with_reducible (refine is_if ?_; (refine w_iff rfl ?_))) | (with_reducible first | refine wp_exit ?_ | refine l_nil ?_))
    refine w_loop (σ := Nat × L × Option Addr × Nat) (S := fun s => [(4, .slice s.2.2.1 s.2.1.length s.2.2.2)])
      (J := fun s w' => Hp w w' [] [rowB (.slice s.2.2.1 s.2.1.length s.2.2.2) s.2.1] ∧ s.1 ≤ ps.length ∧ s.2.1 = O ++ List.replicate s.1 61) (μ := fun s => ps.length - s.1) (0, O, A3, c3) ⟨rfl, trivial⟩ ⟨H, by omega, by simp⟩ ?_
    clear H
    rintro ⟨k, acc, A4, c4⟩ f w_ ⟨H, hk, hacc⟩
    simp only at H hk hacc ⊢
    have hal : acc.length = m + k := by rw [hacc, List.length_append, List.length_replicate, hll]
    repeat' (first | (with_reducible first | refine wp_seq ?_ | refine w_reg ?_) | ((with_reducible refine g_on ?_); (first | ((with_reducible refine g_mv ?_); refine l_p txs rfl rfl ?_) | ((with_reducible refine g_cl ?_); refine l_p txs rfl rfl ?_))))
    (with_reducible refine is_l ?_); refine l_rem rfl rfl (by omega) (by decide) ?_
    skip
    (with_reducible refine is_l ?_); refine l_t txs rfl rfl (fun hne => ?_) (fun heq => ?_)
    · repeat' (first | (with_reducible first | refine p_tn ?_ | refine wp_block ?_ | refine w_reg ?_) | (with_reducible (refine is_if ?_; (refine w_ift rfl ?_))) | (with_reducible first | refine wp_skip ?_ | refine l_nil ?_) | ((with_reducible refine g_on ?_); ((with_reducible refine g_mv ?_); refine l_p txs rfl rfl ?_)))
      (with_reducible refine is_l ?_); refine h_bs H info_u8 Tryz.underlying34 (by decide) (by decide) rfl rfl (by kernel_rfl) (fun g_ w_ H => ?_)
      (with_reducible refine is_l ?_); refine h_app H 0 rfl info_u8 Tryz.underlying34 rfl rfl rfl rfl (H.cellRd 0 rfl) rfl rfl (by show (acc.length + 1) * 1 ≤ _; omega) (fun v w_ hv H => ?_)
      obtain ⟨A', c', rfl⟩ := hv
      have H := H.pick [] [0] (by decide) (by decide) rfl rfl
      repeat' (first | (with_reducible first | refine p_tn ?_ | refine p_bn ?_ | refine l_nil ?_) | ((with_reducible refine g_on ?_); ((with_reducible refine g_as ?_); refine l_p txs rfl rfl ?_)))
      have hal2 : (acc ++ [61]).length = acc.length + 1 := by rw [List.length_append, List.length_singleton]
      have hlt : k < ps.length := by
        rcases Nat.lt_or_ge k ps.length with h | h
        · exact h
        · exfalso
          apply hne
          have hk2 : k = ps.length := by omega
          rw [hal, hk2]
          omega
      refine ⟨(k + 1, acc ++ [61], A', c'), _, rfl, ⟨by show _ = Value.slice A' (acc ++ [61]).length c'; rw [hal2]; rfl, trivial⟩, ⟨?_, by show k + 1 ≤ ps.length; omega, by show acc ++ [61] = O ++ List.replicate (k + 1) 61; rw [hacc, List.append_assoc, List.replicate_succ']⟩, by show _ - (k + 1) < _ - k; omega⟩
      show Hp w _ [] [rowB (.slice A' (acc ++ [61]).length c') (acc ++ [61])]
      unfold rowB
      rw [hal2, nums_snoc]
      exact H
    · have heq : ((acc.length : Int)) % 4 = 0 := Classical.not_not.1 heq
      have hkp : k = ps.length := by omega
      have hfin : acc = enc64 l := by rw [hacc, hkp, ← pr1, hle]
      repeat' (first | (with_reducible first | refine p_tn ?_ | refine p_tx ?_ | refine x_hit ?_ | refine wp_seq ?_ | refine w_reg ?_) | (with_reducible (refine is_if ?_; (refine w_iff rfl ?_))) | (with_reducible first | refine wp_exit ?_ | refine l_nil ?_) | ((with_reducible refine g_on ?_); ((with_reducible refine g_mv ?_); refine l_p txs rfl rfl ?_)))
      (with_reducible refine is_l ?_); refine l_text rfl rfl Tryz.underlying34 Tryz.underlying5 Tryz.underlying9 (rowB_rd H 0 (F := A4) (f := c4) (x := acc) rfl).1 ?_
      repeat' (first | (with_reducible first | refine p_tn ?_ | refine wp_ret ?_ | refine l_nil ?_) | ((with_reducible refine g_on ?_); ((with_reducible refine g_as ?_); refine l_p txs rfl rfl ?_)))
      refine end1 rfl rfl ?_
      exact ⟨by rw [hfin], H.B⟩
end Go.Proofs.YtnimaenhijlcmaaGreatDoor.K.Ref
