/- Joined texts of mine, 4: Fd, Vx, Vy, Fe, Ff, LaidZ, Fg, Fi, Fl, MSort, Ga, ShSort, Gb, Gc, Gd, Gf, Gg, Gh, Gi, Gj, Gk. -/
import Derived.Test.YtnimaenhijlcmaaGreatDoorCards
import Derived.LaidLaws
import Derived.ChangeSame
import Derived.ChangeArms
import Derived.OpenShut
import Derived.Lay
import Derived.Deep.DeepWitnessRowRef
import Derived.Lib.LaidU8
import Derived.Lib.LaidTab
import Derived.ProofKit
import Derived.WalkKit
import Derived.Stop.BytesEq
import Derived.Shelf.SlSortCmp.Whole1
import Derived.Test.YtnimaenhijlcmaaGreatDoorProg
import Derived.Shelf.SlSortCmp.NoneTotal
import Derived.Test.YtnimaenhijlcmaaGreatDoorPk3
section
namespace Go.Proofs.YtnimaenhijlcmaaGreatDoor.K.Ref
open Go.RowKit Go.Proofs.YtnimaenhijlcmaaGreatDoor.Q Go.Proofs.YtnimaenhijlcmaaGreatDoor.K Go.Proofs.YtnimaenhijlcmaaGreatDoor.Mb Go.Proofs.YtnimaenhijlcmaaGreatDoorW.PrintWords
set_option linter.unusedVariables false
set_option linter.unusedSimpArgs false
section
variable {P : Program} {n : Nat} {ops : Array Oper} {Q : Exit → Act → World → Prop} {rest : List Oper} {f : Fr} {w w0 : World} {d : Option Nat} {tt : TypeId} {ps : String} {af : Array Edge} {gd : Option (Nat × Bool)}
theorem l_cvi {src dst : TypeId} {k k2 : IntKind} {z y : Int} {x : Operand} (hs : P.underlying src = some (.int k)) (hd : P.underlying dst = some (.int k2)) (hw : want n ops f ⟨d, .convert src dst x, tt, ps, af, gd⟩ = true) (hx : nf (X n f x) = some (.int k z)) (hz : k2.wrap z = y) (h : WL P ops Q rest (act n (put f d (.int k2 y))) w) : WL P ops Q (⟨d, .convert src dst x, tt, ps, af, gd⟩ :: rest) (act n f) w := by
  subst hz
  refine l_val hw ?_ h
  have hx' := nf_eq hx
  unfold execOp
  simp [go_sem, ← hx', convert, run_underlying hs, run_underlying hd]
end
abbrev rowI (v : Value) (b : L) : RowD := ⟨v, 3, 1, b.length, nums .i64 b⟩
theorem numsI_snoc (x : L) (c : Int) : nums .i64 (x ++ [c]) = nums .i64 x ++ [.int .i64 c] := by simp [nums]
theorem info_i : (Tryz.prog.info? 3).map (fun i => (i.zero, i.size, i.bytes)) = some (some (.int .i64 0), 1, 8) := by kernel_rfl
theorem shrB (t : TypeId) (w : World) {k : IntKind} (s : Nat) (hs : s ≤ 7) {x : Int} (h0 : 0 ≤ x) : (binOp .shr t (.int .u8 x) (.int k (s : Int))).run Tryz.prog w = .ok (.int .u8 (x / 2 ^ s)) w := by
  have h3 : ¬ ((s : Int) < 0) := by omega
  have h4 : min s IntKind.u8.bits = s := Nat.min_eq_left (by show s ≤ 8; omega)
  rw [binOp_shr]
  simp only [Op.shift]
  rw [if_neg h3, Int.toNat_natCast, h4, Int.fdiv_eq_ediv_of_nonneg _ (by exact_mod_cast Nat.zero_le _)]
  rfl
theorem rd_at {w : World} {ad : Addr} {l : L} {i : Nat} {x : Int} {k : IntKind} (h : Rd w (some ad) (nums k l)) (hx : l[i]? = some x) : w.cell? (ad.add (i * 1)) = some (.int k x) := by
  rw [Nat.mul_one]
  exact h.2 ad rfl i _ (by unfold nums; rw [List.getElem?_map, hx]; rfl)
theorem rd_some' {w : World} {A : Option Addr} {l : L} {k : IntKind} (h : Rd w A (nums k l)) (hl : 0 < l.length) : ∃ ad, A = some ad := by
  cases A with
  | some ad => exact ⟨ad, rfl⟩
  | none =>
    have := h.1 rfl
    cases l with
    | nil => exact absurd hl (by simp)
    | cons x r => simp [nums] at this
theorem bits_take {l : L} {i : Nat} {x : Int} (h : l[i]? = some x) : bitsOf (l.take (i + 1)) = bitsOf (l.take i) ++ bits8 x := by
  obtain ⟨h1, h2⟩ := List.getElem?_eq_some_iff.1 h
  rw [List.take_succ_eq_append_getElem h1, h2, bitsOf_app]
  simp [bitsOf]
theorem div_pow_le {x : Int} (h0 : 0 ≤ x) (h1 : x ≤ 255) (s : Nat) : 0 ≤ x / 2 ^ s ∧ x / 2 ^ s ≤ 255 := by
  have h2 : 0 ≤ x / 2 ^ s := Int.ediv_nonneg h0 (by exact_mod_cast Nat.zero_le _)
  have h3 : x / 2 ^ s ≤ x := Int.ediv_le_self _ h0
  omega
set_option maxRecDepth 100000 in
set_option maxHeartbeats 8000000 in
theorem bits_c {w : World} {A : Option Addr} {c : Nat} {l : L} (hR : Rd w A (nums .u8 l)) (hb : Bytes l) (hl : l.length ≤ 1000) :
    Calls Tryz.prog 81 #[.slice A l.length c] w fun e w' => ∃ A1 c1, e = .returned (.slice A1 (bitsOf l).length c1) ∧ Hp w w' [] [rowI (.slice A1 (bitsOf l).length c1) (bitsOf l)] := by
  have hbl := bitsOf_length l
  refine enter (args := [.slice A l.length c]) Tryz.func81 rfl Tryz.ntmps81 rfl ?_
  have H := (Hp.nil w).nilRow 3 1
  repeat' (first | (with_reducible first | refine p_tn ?_ | refine wp_seq ?_ | refine wp_block ?_ | refine w_reg ?_ | refine l_nil ?_) | ((with_reducible refine g_on ?_); ((with_reducible refine g_as ?_); refine l_p txs rfl rfl ?_)))
  refine w_loop (σ := Nat × Option Addr × Nat) (S := fun s => [(0, .slice A l.length c), (3, .slice s.2.1 (bitsOf (l.take s.1)).length s.2.2), (4, .int .i64 (s.1 : Int))])
    (J := fun s w' => Hp w w' [] [rowI (.slice s.2.1 (bitsOf (l.take s.1)).length s.2.2) (bitsOf (l.take s.1))] ∧ s.1 ≤ l.length) (μ := fun s => l.length - s.1) (0, none, 0) ⟨rfl, rfl, rfl, trivial⟩ ⟨H, by omega⟩ ?_
  clear H
  rintro ⟨i, A2, c2⟩ f w_ ⟨H, hi⟩
  simp only at H hi ⊢
  repeat' (first | (with_reducible first | refine wp_seq ?_ | refine w_reg ?_) | ((with_reducible refine g_on ?_); (first | ((with_reducible refine g_mv ?_); refine l_p txs rfl rfl ?_) | ((with_reducible refine g_cl ?_); refine l_p txs rfl rfl ?_))))
  (with_reducible refine is_l ?_); refine l_t txs rfl rfl (fun hlt => ?_) (fun hge => ?_)
  · obtain ⟨x, hx⟩ : ∃ x, l[i]? = some x := ⟨_, List.getElem?_eq_getElem (by omega)⟩
    have hx2 := hb x (List.mem_of_getElem? hx)
    obtain ⟨ad, rfl⟩ := rd_some' hR (by omega)
    have hbt := bits_take hx
    have hbtl := bitsOf_length (l.take i)
    rw [List.length_take_of_le (by omega)] at hbtl
    generalize bitsOf (l.take i) = base at H hbt hbtl ⊢
    repeat' (first | (with_reducible first | refine p_tn ?_ | refine wp_seq ?_ | refine wp_block ?_ | refine w_reg ?_) | (with_reducible (refine is_if ?_; (refine w_ift rfl ?_))) | (with_reducible first | refine wp_skip ?_ | refine l_nil ?_) | ((with_reducible refine g_on ?_); ((with_reducible refine g_as ?_); refine l_p txs rfl rfl ?_)))
    refine w_loop (σ := Nat × L × Option Addr × Nat) (S := fun s => [(0, .slice (some ad) l.length c), (3, .slice s.2.2.1 s.2.1.length s.2.2.2), (4, .int .i64 (i : Int)), (5, .int .i64 (7 - (s.1 : Int)))])
      (J := fun s w' => Hp w w' [] [rowI (.slice s.2.2.1 s.2.1.length s.2.2.2) s.2.1] ∧ s.1 ≤ 8 ∧ s.2.1 = base ++ (bits8 x).take s.1) (μ := fun s => 8 - s.1) (0, base, A2, c2) ⟨rfl, rfl, rfl, rfl, trivial⟩ ⟨H, by omega, by simp⟩ ?_
    clear H
    rintro ⟨k, acc, A3, c3⟩ f w_ ⟨H, hk, hacc⟩
    simp only at H hk hacc ⊢
    have hal : acc.length ≤ base.length + 8 := by
      rw [hacc, List.length_append, List.length_take]
      have := bits8_len x
      omega
    repeat' (first | (with_reducible first | refine wp_seq ?_ | refine w_reg ?_) | ((with_reducible refine g_on ?_); ((with_reducible refine g_mv ?_); refine l_p txs rfl rfl ?_)))
    (with_reducible refine is_l ?_); refine l_t txs rfl rfl (fun hk0 => ?_) (fun hk8 => ?_)
    · have hat := bits8_at x k (by omega)
      obtain ⟨y, hy⟩ : ∃ y, y = x / 2 ^ (7 - k) % 2 := ⟨_, rfl⟩
      have hdp := div_pow_le hx2.1 hx2.2 (7 - k)
      have hjk : (7 : Int) - (k : Int) = ((7 - k : Nat) : Int) := by omega
      repeat' (first | (with_reducible first | refine p_tn ?_ | refine wp_seq ?_ | refine wp_block ?_ | refine w_reg ?_) | (with_reducible (refine is_if ?_; (refine w_ift rfl ?_))) | (with_reducible first | refine wp_skip ?_ | refine l_nil ?_) | ((with_reducible refine g_on ?_); (first | ((with_reducible refine g_mv ?_); refine l_p txs rfl rfl ?_) | ((with_reducible refine g_ia ?_); refine l_ia txs rfl rfl (by first | omega | assumption | decide) (by first | omega | assumption | decide) ?_))))
      (with_reducible refine is_l ?_); refine l_ld txs rfl rfl (by rw [Int.toNat_natCast]; exact rd_at (hR.below H.B) hx) ?_
      repeat' ((with_reducible refine g_on ?_); ((with_reducible refine g_mv ?_); refine l_p txs rfl rfl ?_))
      (with_reducible refine is_l ?_); refine l_cvi (y := ((7 - k : Nat) : Int)) Tryz.underlying3 Tryz.underlying97 rfl rfl (by rw [IntKind.wrap_u64]; omega) ?_
      (with_reducible refine is_l ?_); refine l_bii rfl rfl rfl (shrB _ _ (7 - k) (by omega) hx2.1) ?_
      repeat' ((with_reducible refine g_on ?_); ((with_reducible refine g_cv ?_); (refine l_a txs rfl rfl (by first | exact in_i64 (by omega) (by omega) | exact in_u8 (by omega) (by omega) | exact in_u64 (by omega) (by omega) | exact in_i32 (by omega) (by omega)) ?_)))
      (with_reducible refine is_l ?_); refine l_rem rfl rfl (by omega) (by decide) ?_
      rw [← hy] at hat ⊢
      (with_reducible refine is_l ?_); refine h_bs H info_i Tryz.underlying98 (by decide) (by decide) rfl rfl (by kernel_rfl) (fun g_ w_ H => ?_)
      (with_reducible refine is_l ?_); refine h_app H 0 rfl info_i Tryz.underlying98 rfl rfl rfl rfl (H.cellRd 0 rfl) rfl rfl (by show (acc.length + 1) * 8 ≤ _; omega) (fun v w_ hv H => ?_)
      obtain ⟨A', c', rfl⟩ := hv
      have H := H.pick [] [0] (by decide) (by decide) rfl rfl
      have H : Hp w w_ [] [rowI (.slice A' (acc.length + 1) c') (acc ++ [y])] := by
        unfold rowI
        rw [numsI_snoc, List.length_append, List.length_singleton]
        exact H
      have hal2 : (acc ++ [y]).length = acc.length + 1 := by rw [List.length_append, List.length_singleton]
      repeat' (first | (with_reducible first | refine p_tn ?_ | refine p_bn ?_ | refine w_reg ?_ | refine l_nil ?_) | ((with_reducible refine g_on ?_); (first | ((with_reducible refine g_mv ?_); refine l_p txs rfl rfl ?_) | ((with_reducible refine g_as ?_); refine l_p txs rfl rfl ?_) | ((with_reducible refine g_bi ?_); (refine l_a txs rfl rfl (by first | exact in_i64 (by omega) (by omega) | exact in_u8 (by omega) (by omega) | exact in_u64 (by omega) (by omega) | exact in_i32 (by omega) (by omega)) ?_)))))
      refine ⟨(k + 1, acc ++ [y], A', c'), _, rfl, ⟨rfl, by show _ = Value.slice A' (acc ++ [y]).length c'; rw [hal2]; rfl, rfl, by show Value.int .i64 (7 - (k : Int) - 1) = Value.int .i64 (7 - ((k + 1 : Nat) : Int)); congr 1; omega, trivial⟩, ⟨by rw [hal2]; exact H, by show k + 1 ≤ 8; omega, ?_⟩, by show 8 - (k + 1) < 8 - k; omega⟩
      show acc ++ [y] = base ++ (bits8 x).take (k + 1)
      obtain ⟨g1, g2⟩ := List.getElem?_eq_some_iff.1 hat
      rw [List.take_succ_eq_append_getElem g1, g2, hacc, List.append_assoc]
    · obtain rfl : k = 8 := by omega
      have hfull : acc = bitsOf (l.take (i + 1)) := by
        rw [hbt, hacc, List.take_of_length_le (by rw [bits8_len]; omega)]
      rw [hfull] at H ⊢
      repeat' (first | (with_reducible first | refine p_tn ?_ | refine p_tx ?_ | refine p_bn ?_ | refine x_hit ?_ | refine w_reg ?_) | (with_reducible (refine is_if ?_; (refine w_iff rfl ?_))) | (with_reducible first | refine wp_exit ?_ | refine l_nil ?_) | ((with_reducible refine g_on ?_); (first | ((with_reducible refine g_mv ?_); refine l_p txs rfl rfl ?_) | ((with_reducible refine g_as ?_); refine l_p txs rfl rfl ?_) | ((with_reducible refine g_bi ?_); (refine l_a txs rfl rfl (by first | exact in_i64 (by omega) (by omega) | exact in_u8 (by omega) (by omega) | exact in_u64 (by omega) (by omega) | exact in_i32 (by omega) (by omega)) ?_)))))
      exact ⟨(i + 1, A3, c3), _, rfl, ⟨rfl, rfl, rfl, trivial⟩, ⟨H, by show i + 1 ≤ _; omega⟩, by show _ - (i + 1) < _ - i; omega⟩
  · have hall : l.take i = l := List.take_of_length_le (by omega)
    simp only [hall] at H ⊢
    repeat' (first | (with_reducible first | refine p_tn ?_ | refine p_tx ?_ | refine x_hit ?_ | refine wp_seq ?_ | refine w_reg ?_) | (with_reducible (refine is_if ?_; (refine w_iff rfl ?_))) | (with_reducible first | refine wp_exit ?_ | refine wp_ret ?_ | refine l_nil ?_) | ((with_reducible refine g_on ?_); (first | ((with_reducible refine g_mv ?_); refine l_p txs rfl rfl ?_) | ((with_reducible refine g_as ?_); refine l_p txs rfl rfl ?_))))
    refine end1 rfl rfl ?_
    exact ⟨A2, c2, rfl, H⟩
theorem zeros_rep (n : Nat) : zeros n = List.replicate (zeros n).length 0 ∧ (8 * n + (zeros n).length) % 6 = 0 ∧ (zeros n).length ≤ 4 := by
  unfold zeros
  split
  · exact ⟨rfl, by show (8 * n + 4) % 6 = 0; omega, by decide⟩
  split
  · exact ⟨rfl, by show (8 * n + 2) % 6 = 0; omega, by decide⟩
  · exact ⟨rfl, by show (8 * n + 0) % 6 = 0; omega, by decide⟩
theorem pads_rep (n : Nat) : pads n = List.replicate (pads n).length 61 ∧ ((8 * n + (zeros n).length) / 6 + (pads n).length) % 4 = 0 ∧ (pads n).length ≤ 2 := by
  unfold pads zeros
  split
  · exact ⟨rfl, by show ((8 * n + 4) / 6 + 2) % 4 = 0; omega, by decide⟩
  split
  · exact ⟨rfl, by show ((8 * n + 2) / 6 + 1) % 4 = 0; omega, by decide⟩
  · exact ⟨rfl, by show ((8 * n + 0) / 6 + 0) % 4 = 0; omega, by decide⟩
theorem letters_take {b : L} {m : Nat} (h : 6 * m + 6 ≤ b.length) : letters (b.take (6 * (m + 1))) = letters (b.take (6 * m)) ++ [lt (numOf ((b.drop (6 * m)).take 6))] := by
  have e : b.take (6 * (m + 1)) = b.take (6 * m) ++ (b.drop (6 * m)).take 6 := by
    rw [show 6 * (m + 1) = 6 * m + 6 by omega, List.take_add]
  rw [e, letters_app m _ _ (by rw [List.length_take_of_le (by omega)]), letters_six (l := (b.drop (6 * m)).take 6) (by rw [List.length_take, List.length_drop]; omega)]
theorem int_row {w0 w : World} {l : List Ent} {r : List RowD} {A : Option Addr} {c : Nat} {b : L} (H : Hp w0 w l r) (k : Nat) (hk : r[k]? = some (rowI (.slice A b.length c) b)) : Rd w A (nums .i64 b) := by
  obtain ⟨A3, c3, e3, _, hRd, hAn⟩ := H.rd k hk
  cases e3
  exact hRd
set_option maxRecDepth 100000 in
set_option maxHeartbeats 16000000 in
theorem enc_r {w : World} {A : Option Addr} {c : Nat} {l : L} (hR : Rd w A (nums .u8 l)) (hb : Bytes l) (hl : l.length ≤ 1000) :
    Calls Tryz.prog 49 #[.slice A l.length c] w fun e w' => e = .returned (.string (strOfNums (enc64 l))) ∧ Below w.heap.size w w' := by
  obtain ⟨zr1, zr2, zr3⟩ := zeros_rep l.length
  obtain ⟨pr1, pr2, pr3⟩ := pads_rep l.length
  have hle := letters_bits hb
  have hbl := bitsOf_length l
  have hbb := bits_bitsOf l
  refine enter (args := [.slice A l.length c]) Tryz.func49 rfl Tryz.ntmps49 rfl ?_
  have H := Hp.nil w
  repeat' (first | (with_reducible first | refine p_tn ?_ | refine wp_seq ?_ | refine w_reg ?_ | refine l_nil ?_) | ((with_reducible refine g_on ?_); (first | ((with_reducible refine g_mv ?_); refine l_p txs rfl rfl ?_) | ((with_reducible refine g_as ?_); refine l_p txs rfl rfl ?_))))
  (with_reducible refine is_l ?_); refine l_call rfl rfl (by kernel_rfl) (bits_c hR hb hl) (fun e w_ hRr => ?_)
  obtain ⟨A1, c1, rfl, K⟩ := hRr
  refine ⟨_, rfl, ?_⟩
  have H := H.join K
  have H : Hp w w_ [] [rowI (.slice A1 (bitsOf l).length c1) (bitsOf l)] := H
  generalize bitsOf l = bs at H hle hbl hbb
  generalize zeros l.length = zs at zr1 zr2 zr3 pr2 hle
  generalize pads l.length = ps at pr1 pr2 pr3 hle
  repeat' (first | (with_reducible first | refine p_tn ?_ | refine wp_seq ?_ | refine wp_block ?_ | refine l_nil ?_) | ((with_reducible refine g_on ?_); ((with_reducible refine g_as ?_); refine l_p txs rfl rfl ?_)))
  refine w_loop (σ := Nat × L × Option Addr × Nat) (S := fun s => [(3, .slice s.2.2.1 s.2.1.length s.2.2.2)])
    (J := fun s w' => Hp w w' [] [rowI (.slice s.2.2.1 s.2.1.length s.2.2.2) s.2.1] ∧ s.1 ≤ zs.length ∧ s.2.1 = bs ++ List.replicate s.1 0) (μ := fun s => zs.length - s.1) (0, bs, A1, c1) ⟨rfl, trivial⟩ ⟨H, by omega, by simp⟩ ?_
  clear H
  rintro ⟨k, acc, A2, c2⟩ f w_ ⟨H, hk, hacc⟩
  simp only at H hk hacc ⊢
  have hal : acc.length = 8 * l.length + k := by rw [hacc, List.length_append, List.length_replicate, hbl]
  repeat' (first | (with_reducible first | refine wp_seq ?_ | refine w_reg ?_) | ((with_reducible refine g_on ?_); (first | ((with_reducible refine g_mv ?_); refine l_p txs rfl rfl ?_) | ((with_reducible refine g_cl ?_); refine l_p txs rfl rfl ?_))))
  (with_reducible refine is_l ?_); refine l_rem rfl rfl (by omega) (by decide) ?_
  skip
  (with_reducible refine is_l ?_); refine l_t txs rfl rfl (fun hne => ?_) (fun heq => ?_)
  · repeat' (first | (with_reducible first | refine p_tn ?_ | refine wp_block ?_ | refine w_reg ?_) | (with_reducible (refine is_if ?_; (refine w_ift rfl ?_))) | (with_reducible first | refine wp_skip ?_ | refine l_nil ?_) | ((with_reducible refine g_on ?_); ((with_reducible refine g_mv ?_); refine l_p txs rfl rfl ?_)))
    (with_reducible refine is_l ?_); refine h_bs H info_i Tryz.underlying98 (by decide) (by decide) rfl rfl (by kernel_rfl) (fun g_ w_ H => ?_)
    (with_reducible refine is_l ?_); refine h_app H 0 rfl info_i Tryz.underlying98 rfl rfl rfl rfl (H.cellRd 0 rfl) rfl rfl (by show (acc.length + 1) * 8 ≤ _; omega) (fun v w_ hv H => ?_)
    obtain ⟨A', c', rfl⟩ := hv
    have H := H.pick [] [0] (by decide) (by decide) rfl rfl
    have H : Hp w w_ [] [rowI (.slice A' (acc.length + 1) c') (acc ++ [0])] := by
      unfold rowI
      rw [numsI_snoc, List.length_append, List.length_singleton]
      exact H
    have hal2 : (acc ++ [0]).length = acc.length + 1 := by rw [List.length_append, List.length_singleton]
    repeat' (first | (with_reducible first | refine p_tn ?_ | refine p_bn ?_ | refine l_nil ?_) | ((with_reducible refine g_on ?_); ((with_reducible refine g_as ?_); refine l_p txs rfl rfl ?_)))
    have hlt : k < zs.length := by
      rcases Nat.lt_or_ge k zs.length with h | h
      · exact h
      · exfalso
        have hk2 : k = zs.length := by omega
        apply hne
        rw [hal, hk2]
        omega
    exact ⟨(k + 1, acc ++ [0], A', c'), _, rfl, ⟨by show _ = Value.slice A' (acc ++ [0]).length c'; rw [hal2]; rfl, trivial⟩, ⟨by rw [hal2]; exact H, by show k + 1 ≤ zs.length; omega, by show acc ++ [0] = bs ++ List.replicate (k + 1) 0; rw [hacc, List.append_assoc, List.replicate_succ']⟩, by show _ - (k + 1) < _ - k; omega⟩
  have heq : ((acc.length : Int)) % 6 = 0 := Classical.not_not.1 heq
  have hkz : k = zs.length := by omega
  have hB : acc = bs ++ zs := by rw [hacc, hkz, ← zr1]
  rw [← hB] at hle
  have hbits : Bits acc := by
    intro x hx
    rw [hacc] at hx
    rcases List.mem_append.1 hx with h | h
    · exact hbb x h
    · rw [(List.mem_replicate.1 h).2]; omega
  clear hacc hB
  obtain ⟨M, hM⟩ : ∃ M, acc.length = 6 * M := ⟨acc.length / 6, by omega⟩
  have hMl : M ≤ 2000 := by omega
  have hpM : (M + ps.length) % 4 = 0 := by
    have : (8 * l.length + zs.length) / 6 = M := by omega
    rw [this] at pr2
    exact pr2
  have H := H.nilRow 5 1
  generalize acc = B at H hle hbits hM hal ⊢
  repeat' (first | (with_reducible first | refine p_tn ?_ | refine p_tx ?_ | refine x_hit ?_ | refine wp_seq ?_ | refine wp_block ?_ | refine w_reg ?_) | (with_reducible (refine is_if ?_; (refine w_iff rfl ?_))) | (with_reducible first | refine wp_exit ?_ | refine l_nil ?_) | ((with_reducible refine g_on ?_); ((with_reducible refine g_as ?_); refine l_p txs rfl rfl ?_)))
  refine w_loop (σ := Nat × Option Addr × Nat) (S := fun s => [(3, .slice A2 B.length c2), (4, .slice s.2.1 (letters (B.take (6 * s.1))).length s.2.2), (5, .int .i64 ((6 * s.1 : Nat) : Int))])
    (J := fun s w' => Hp w w' [] [rowB (.slice s.2.1 (letters (B.take (6 * s.1))).length s.2.2) (letters (B.take (6 * s.1))), rowI (.slice A2 B.length c2) B] ∧ s.1 ≤ M) (μ := fun s => M - s.1) (0, none, 0) ⟨rfl, rfl, rfl, trivial⟩ ⟨H, by omega⟩ ?_
  clear H
  rintro ⟨m, A3, c3⟩ f w_ ⟨H, hm⟩
  simp only at H hm ⊢
  have hll := letters_length m (B.take (6 * m)) (by rw [List.length_take_of_le (by omega)])
  repeat' (first | (with_reducible first | refine wp_seq ?_ | refine w_reg ?_) | ((with_reducible refine g_on ?_); (first | ((with_reducible refine g_mv ?_); refine l_p txs rfl rfl ?_) | ((with_reducible refine g_cl ?_); refine l_p txs rfl rfl ?_))))
  (with_reducible refine is_l ?_); refine l_t txs rfl rfl (fun hlt => ?_) (fun hge => ?_)
  · have hlt6 := letters_take (b := B) (m := m) (by omega)
    have hRb := int_row H 1 rfl
    obtain ⟨ad, rfl⟩ := rd_some' hRb (by omega)
    have hdl : (B.drop (6 * m)).length = B.length - 6 * m := by rw [List.length_drop]
    generalize hacc : letters (B.take (6 * m)) = acc at H hll hlt6 ⊢
    repeat' (first | (with_reducible first | refine p_tn ?_ | refine wp_seq ?_ | refine wp_block ?_ | refine w_reg ?_) | (with_reducible (refine is_if ?_; (refine w_ift rfl ?_))) | (with_reducible first | refine wp_skip ?_ | refine l_nil ?_) | ((with_reducible refine g_on ?_); ((with_reducible refine g_as ?_); refine l_p txs rfl rfl ?_)))
    refine w_loop (σ := Nat) (S := fun s => [(3, .slice (some ad) B.length c2), (4, .slice A3 acc.length c3), (5, .int .i64 ((6 * m : Nat) : Int)), (6, .int .i64 (numOf ((B.drop (6 * m)).take s))), (7, .int .i64 (s : Int))])
      (J := fun s w' => Hp w w' [] [rowB (.slice A3 acc.length c3) acc, rowI (.slice (some ad) B.length c2) B] ∧ s ≤ 6) (μ := fun s => 6 - s) 0 ⟨rfl, rfl, rfl, rfl, rfl, trivial⟩ ⟨H, by omega⟩ ?_
    clear H hRb
    rintro j f w_ ⟨H, hj⟩
    have hRb := int_row H 1 rfl
    have hsm := numOf_small (l := (B.drop (6 * m)).take j) (fun x hx => hbits x (List.mem_of_mem_drop (List.mem_of_mem_take hx))) (by rw [List.length_take]; omega)
    repeat' (first | (with_reducible first | refine wp_seq ?_ | refine w_reg ?_) | ((with_reducible refine g_on ?_); ((with_reducible refine g_mv ?_); refine l_p txs rfl rfl ?_)))
    (with_reducible refine is_l ?_); refine l_t txs rfl rfl (fun hj6 => ?_) (fun hj6 => ?_)
    · obtain ⟨x, hx⟩ : ∃ x, (B.drop (6 * m))[j]? = some x := ⟨_, List.getElem?_eq_getElem (by omega)⟩
      have hx2 : B[6 * m + j]? = some x := by rw [← List.getElem?_drop]; exact hx
      have hxb := hbits x (List.mem_of_getElem? hx2)
      have hnx : numOf ((B.drop (6 * m)).take (j + 1)) = 2 * numOf ((B.drop (6 * m)).take j) + x := by
        obtain ⟨g1, g2⟩ := List.getElem?_eq_some_iff.1 hx
        rw [List.take_succ_eq_append_getElem g1, g2, numOf_snoc]
      generalize numOf ((B.drop (6 * m)).take j) = q at hsm hnx ⊢
      repeat' (first | (with_reducible first | refine p_tn ?_ | refine wp_seq ?_ | refine wp_block ?_ | refine w_reg ?_) | (with_reducible (refine is_if ?_; (refine w_ift rfl ?_))) | (with_reducible first | refine wp_skip ?_ | refine l_nil ?_) | ((with_reducible refine g_on ?_); (first | ((with_reducible refine g_mv ?_); refine l_p txs rfl rfl ?_) | ((with_reducible refine g_ia ?_); refine l_ia txs rfl rfl (by first | omega | assumption | decide) (by first | omega | assumption | decide) ?_) | ((with_reducible refine g_bi ?_); (refine l_a txs rfl rfl (by first | exact in_i64 (by omega) (by omega) | exact in_u8 (by omega) (by omega) | exact in_u64 (by omega) (by omega) | exact in_i32 (by omega) (by omega)) ?_)))))
      (with_reducible refine is_l ?_); refine l_ld txs rfl rfl (by rw [show (((6 * m : Nat) : Int) + (j : Int)).toNat = 6 * m + j by omega]; exact rd_at hRb hx2) ?_
      repeat' (first | (with_reducible first | refine p_tn ?_ | refine p_bn ?_ | refine w_reg ?_ | refine l_nil ?_) | ((with_reducible refine g_on ?_); (first | ((with_reducible refine g_mv ?_); refine l_p txs rfl rfl ?_) | ((with_reducible refine g_as ?_); refine l_p txs rfl rfl ?_) | ((with_reducible refine g_bi ?_); (refine l_a txs rfl rfl (by first | exact in_i64 (by omega) (by omega) | exact in_u8 (by omega) (by omega) | exact in_u64 (by omega) (by omega) | exact in_i32 (by omega) (by omega)) ?_)))))
      exact ⟨j + 1, _, rfl, ⟨rfl, rfl, rfl, by show _ = Value.int .i64 (numOf _); rw [hnx]; rfl, rfl, trivial⟩, ⟨H, by omega⟩, by omega⟩
    · obtain rfl : j = 6 := by omega
      generalize numOf ((B.drop (6 * m)).take 6) = q at hsm hlt6 ⊢
      repeat' (first | (with_reducible first | refine p_tn ?_ | refine p_tx ?_ | refine x_hit ?_ | refine w_reg ?_) | (with_reducible (refine is_if ?_; (refine w_iff rfl ?_))) | (with_reducible first | refine wp_exit ?_ | refine l_nil ?_) | ((with_reducible refine g_on ?_); ((with_reducible refine g_mv ?_); refine l_p txs rfl rfl ?_)))
      (with_reducible refine is_l ?_); refine l_val rfl (let_run txs rfl hsm.1 hsm.2) ?_
      (with_reducible refine is_l ?_); refine h_bs H info_u8 Tryz.underlying34 (by decide) (by decide) rfl rfl (by kernel_rfl) (fun g_ w_ H => ?_)
      (with_reducible refine is_l ?_); refine h_app H 0 rfl info_u8 Tryz.underlying34 rfl rfl rfl rfl (H.cellRd 0 rfl) rfl rfl (by show (acc.length + 1) * 1 ≤ _; omega) (fun v w_ hv H => ?_)
      obtain ⟨A', c', rfl⟩ := hv
      have H := H.pick [] [0, 1] (by decide) (by decide) rfl rfl
      repeat' (first | (with_reducible first | refine p_tn ?_ | refine p_bn ?_ | refine w_reg ?_ | refine l_nil ?_) | ((with_reducible refine g_on ?_); (first | ((with_reducible refine g_mv ?_); refine l_p txs rfl rfl ?_) | ((with_reducible refine g_as ?_); refine l_p txs rfl rfl ?_) | ((with_reducible refine g_bi ?_); (refine l_a txs rfl rfl (by first | exact in_i64 (by omega) (by omega) | exact in_u8 (by omega) (by omega) | exact in_u64 (by omega) (by omega) | exact in_i32 (by omega) (by omega)) ?_)))))
      have hal2 : (acc ++ [lt q]).length = acc.length + 1 := by rw [List.length_append, List.length_singleton]
      rw [← hlt6] at hal2
      refine ⟨(m + 1, A', c'), _, rfl, ⟨rfl, by show _ = Value.slice A' (letters (B.take (6 * (m + 1)))).length c'; rw [hal2]; rfl, by show Value.int .i64 (((6 * m : Nat) : Int) + 6) = Value.int .i64 ((6 * (m + 1) : Nat) : Int); congr 1, trivial⟩, ⟨?_, by show m + 1 ≤ M; omega⟩, by show _ - (m + 1) < _ - m; omega⟩
      show Hp w _ [] [rowB (.slice A' (letters (B.take (6 * (m + 1)))).length c') (letters (B.take (6 * (m + 1)))), _]
      unfold rowB
      rw [hal2, hlt6, nums_snoc]
      exact H
  · obtain rfl : m = M := by omega
    have hfull : B.take (6 * m) = B := List.take_of_length_le (by omega)
    rw [hfull] at H hll ⊢
    have H := H.pick [] [0] (by decide) (by decide) rfl rfl
    generalize letters B = O at H hll hle ⊢
    repeat' (first | (with_reducible first | refine p_tn ?_ | refine p_tx ?_ | refine x_hit ?_ | refine wp_seq ?_ | refine wp_block ?_) | (with_reducible (refine is_if ?_; (refine w_iff rfl ?_))) | (with_reducible first | refine wp_exit ?_ | refine l_nil ?_))
    refine w_loop (σ := Nat × L × Option Addr × Nat) (S := fun s => [(4, .slice s.2.2.1 s.2.1.length s.2.2.2)])
      (J := fun s w' => Hp w w' [] [rowB (.slice s.2.2.1 s.2.1.length s.2.2.2) s.2.1] ∧ s.1 ≤ ps.length ∧ s.2.1 = O ++ List.replicate s.1 61) (μ := fun s => ps.length - s.1) (0, O, A3, c3) ⟨rfl, trivial⟩ ⟨H, by omega, by simp⟩ ?_
    clear H
    rintro ⟨k, acc, A4, c4⟩ f w_ ⟨H, hk, hacc⟩
    simp only at H hk hacc ⊢
    have hal : acc.length = m + k := by rw [hacc, List.length_append, List.length_replicate, hll]
    repeat' (first | (with_reducible first | refine wp_seq ?_ | refine w_reg ?_) | ((with_reducible refine g_on ?_); (first | ((with_reducible refine g_mv ?_); refine l_p txs rfl rfl ?_) | ((with_reducible refine g_cl ?_); refine l_p txs rfl rfl ?_))))
    (with_reducible refine is_l ?_); refine l_rem rfl rfl (by omega) (by decide) ?_
    skip
    (with_reducible refine is_l ?_); refine l_t txs rfl rfl (fun hne => ?_) (fun heq => ?_)
    · repeat' (first | (with_reducible first | refine p_tn ?_ | refine wp_block ?_ | refine w_reg ?_) | (with_reducible (refine is_if ?_; (refine w_ift rfl ?_))) | (with_reducible first | refine wp_skip ?_ | refine l_nil ?_) | ((with_reducible refine g_on ?_); ((with_reducible refine g_mv ?_); refine l_p txs rfl rfl ?_)))
      (with_reducible refine is_l ?_); refine h_bs H info_u8 Tryz.underlying34 (by decide) (by decide) rfl rfl (by kernel_rfl) (fun g_ w_ H => ?_)
      (with_reducible refine is_l ?_); refine h_app H 0 rfl info_u8 Tryz.underlying34 rfl rfl rfl rfl (H.cellRd 0 rfl) rfl rfl (by show (acc.length + 1) * 1 ≤ _; omega) (fun v w_ hv H => ?_)
      obtain ⟨A', c', rfl⟩ := hv
      have H := H.pick [] [0] (by decide) (by decide) rfl rfl
      repeat' (first | (with_reducible first | refine p_tn ?_ | refine p_bn ?_ | refine l_nil ?_) | ((with_reducible refine g_on ?_); ((with_reducible refine g_as ?_); refine l_p txs rfl rfl ?_)))
      have hal2 : (acc ++ [61]).length = acc.length + 1 := by rw [List.length_append, List.length_singleton]
      have hlt : k < ps.length := by
        rcases Nat.lt_or_ge k ps.length with h | h
        · exact h
        · exfalso
          apply hne
          have hk2 : k = ps.length := by omega
          rw [hal, hk2]
          omega
      refine ⟨(k + 1, acc ++ [61], A', c'), _, rfl, ⟨by show _ = Value.slice A' (acc ++ [61]).length c'; rw [hal2]; rfl, trivial⟩, ⟨?_, by show k + 1 ≤ ps.length; omega, by show acc ++ [61] = O ++ List.replicate (k + 1) 61; rw [hacc, List.append_assoc, List.replicate_succ']⟩, by show _ - (k + 1) < _ - k; omega⟩
      show Hp w _ [] [rowB (.slice A' (acc ++ [61]).length c') (acc ++ [61])]
      unfold rowB
      rw [hal2, nums_snoc]
      exact H
    · have heq : ((acc.length : Int)) % 4 = 0 := Classical.not_not.1 heq
      have hkp : k = ps.length := by omega
      have hfin : acc = enc64 l := by rw [hacc, hkp, ← pr1, hle]
      repeat' (first | (with_reducible first | refine p_tn ?_ | refine p_tx ?_ | refine x_hit ?_ | refine wp_seq ?_ | refine w_reg ?_) | (with_reducible (refine is_if ?_; (refine w_iff rfl ?_))) | (with_reducible first | refine wp_exit ?_ | refine l_nil ?_) | ((with_reducible refine g_on ?_); ((with_reducible refine g_mv ?_); refine l_p txs rfl rfl ?_)))
      (with_reducible refine is_l ?_); refine l_text rfl rfl Tryz.underlying34 Tryz.underlying5 Tryz.underlying9 (rowB_rd H 0 (F := A4) (f := c4) (x := acc) rfl).1 ?_
      repeat' (first | (with_reducible first | refine p_tn ?_ | refine wp_ret ?_ | refine l_nil ?_) | ((with_reducible refine g_on ?_); ((with_reducible refine g_as ?_); refine l_p txs rfl rfl ?_)))
      refine end1 rfl rfl ?_
      exact ⟨by rw [hfin], H.B⟩
end Go.Proofs.YtnimaenhijlcmaaGreatDoor.K.Ref
end
section
namespace Go.Proofs.YtnimaenhijlcmaaGreatDoor.K.Rec
open Go.RowKit Go.Proofs.YtnimaenhijlcmaaGreatDoor.Q Go.Proofs.YtnimaenhijlcmaaGreatDoor.K Go.Proofs.YtnimaenhijlcmaaGreatDoor.Mb Go.Proofs.YtnimaenhijlcmaaGreatDoorW.PrintWords
set_option linter.unusedVariables false
set_option linter.unusedSimpArgs false
abbrev zL : L := [0, 0, 0, 0, 0, 0, 0, 0, 0, 0, 0, 0, 0, 0, 0, 0, 0, 0, 0, 0, 0, 0, 0, 0, 0, 0, 0, 0, 0, 0, 0, 0]
def rt : Nat → Option (List Value)
  | 22 => some (nums .u8 zL)
  | 87 => some [.string ⟨#[]⟩, .string ⟨#[]⟩, .string ⟨#[]⟩]
  | t => K.rt t
theorem recOkA : RecOk Tryz.prog 22 (nums .u8 zL) := ⟨⟨_, Tryz.underlying22, rfl⟩, by kernel_rfl⟩
theorem recOkB : RecOk Tryz.prog 87 [.string ⟨#[]⟩, .string ⟨#[]⟩, .string ⟨#[]⟩] := ⟨⟨_, Tryz.underlying87, rfl⟩, by kernel_rfl⟩
theorem recs : Recs Tryz.prog rt := by
  intro t zs h
  unfold rt at h
  split at h
  · cases h; exact recOkA
  · cases h; exact recOkB
  · exact K.recs t zs h
section
variable {P : Program} {n : Nat} {ops : Array Oper} {Q : Exit → Act → World → Prop} {rest : List Oper} {f : Fr} {w w0 : World} {d : Option Nat} {op : Op} {tt : TypeId} {ps : String} {af : Array Edge} {gd : Option (Nat × Bool)} {l l' : List Ent} {r : List RowD}
theorem l_slW {t e : TypeId} {m : Nat} {x : Operand} {g : Nat} (ht : P.underlying t = some (.array m e)) (he : (P.info? e).map (·.size) = some 1) (hw : want n ops f ⟨d, .slice t x none none none, tt, ps, af, gd⟩ = true) (hx : nf (X n f x) = some (.pointer (some ⟨g, 0, none⟩)))
    (h : WL P ops Q rest (act n (put f d (.slice (some ⟨g, 0, none⟩) m m))) w) : WL P ops Q (⟨d, .slice t x none none none, tt, ps, af, gd⟩ :: rest) (act n f) w := by
  refine l_val hw ?_ h
  have hx' := nf_eq hx
  obtain ⟨i0, hi, hz⟩ := Option.map_eq_some_iff.1 he
  unfold execOp
  have hel : P.elem t = e := by simp [Program.elem, ht]
  simp [go_sem, ← hx', Instr.sliceAt, Instr.slice, Instr.sliceBounds, Instr.sliceBound, run_underlying ht, sizeOf, typeInfo, hi, hz, hel, Addr.add_lit]
theorem l_s2a {t e : TypeId} {m q c : Nat} {x : Operand} {A : Option Addr} (ht : P.underlying t = some (.array m e)) (hw : want n ops f ⟨d, .sliceToArrayPointer t x, tt, ps, af, gd⟩ = true) (hx : nf (X n f x) = some (.slice A q c)) (hm : m ≤ q)
    (h : WL P ops Q rest (act n (put f d (.pointer A))) w) : WL P ops Q (⟨d, .sliceToArrayPointer t x, tt, ps, af, gd⟩ :: rest) (act n f) w := by
  refine l_val hw ?_ h
  have hx' := nf_eq hx
  have hlt : ¬ q < m := by omega
  unfold execOp
  simp [go_sem, ← hx', Instr.arrayAt, run_underlying ht, hlt]
end
theorem nums_length (x : L) : (nums .u8 x).length = x.length := by simp [nums]
set_option maxHeartbeats 4000000 in
theorem Sum_c (x : L) (hb : Bytes x) (hx : x.length = 32) (w : World) : Calls Tryz.prog 23 #[.agg (nums .u8 x).toArray] w fun e w' => e = .returned (.string (strOfNums (sumS x))) ∧ Below w.heap.size w w' := by
  refine enter (args := [.agg (nums .u8 x).toArray]) Tryz.func23 rfl Tryz.ntmps23 rfl ?_
  have H := Hp.nil w
  have hn : (nums .u8 x).length = 32 := by rw [nums_length, hx]
  have e1 : (⟨#[104, 49, 58]⟩ : ByteArray) ++ strOfNums (enc64 x) = strOfNums (sumS x) := by
    refine bl_inj ?_
    rw [bl_cat, blS (enc64_bytes hb), blS]
    · rfl
    · intro y hy
      rcases List.mem_append.1 hy with hy | hy
      · unfold h1S at hy
        simp only [List.mem_cons, List.not_mem_nil, or_false] at hy
        rcases hy with rfl | rfl | rfl <;> omega
      · exact enc64_bytes hb y hy
  repeat' (with_reducible first | refine wp_seq ?_ | refine w_reg ?_)
  (with_reducible refine is_l ?_); refine h_box H rfl rfl (nfL_eq _ _) (fun gX w_ H => ?_)
  repeat' (first | (with_reducible first | refine p_tn ?_ | refine wp_seq ?_ | refine w_reg ?_ | refine l_nil ?_) | ((with_reducible refine g_on ?_); ((with_reducible refine g_as ?_); refine l_p txs rfl rfl ?_)))
  (with_reducible refine is_l ?_); refine l_slW Tryz.underlying22 one0_1 rfl rfl ?_
  skip
  have he := enc_c (w := w_) (g := gX) (j := 0) (c := 32) x hb (by omega) (by omega) (fun i v hv => by rw [Nat.zero_add]; exact H.cellAt 0 rfl hv)
  rw [hx] at he
  (with_reducible refine is_l ?_); refine l_callv rfl rfl (by kernel_rfl) he (fun w_ K => ?_)
  have H := H.call K
  skip
  (with_reducible refine is_l ?_); refine l_cat rfl rfl (by
    rw [← bl_length (strOfNums (enc64 x)), blS (enc64_bytes hb), enc64_length, hx]
    decide) ?_
  repeat' (first | (with_reducible first | refine p_tn ?_ | refine wp_ret ?_ | refine l_nil ?_) | ((with_reducible refine g_on ?_); ((with_reducible refine g_as ?_); refine l_p txs rfl rfl ?_)))
  refine end1 rfl rfl ?_
  exact ⟨by rw [e1], H.B⟩
end Go.Proofs.YtnimaenhijlcmaaGreatDoor.K.Rec
end
section
namespace Go.Proofs.YtnimaenhijlcmaaGreatDoor.K.Rec
open Go.RowKit Go.Proofs.YtnimaenhijlcmaaGreatDoor.Q Go.Proofs.YtnimaenhijlcmaaGreatDoor.K Go.Proofs.YtnimaenhijlcmaaGreatDoor.Mb Go.Proofs.YtnimaenhijlcmaaGreatDoorW.PrintWords
set_option linter.unusedVariables false
set_option linter.unusedSimpArgs false
def woC (o : Option (L × L × L)) : List Value := match o with
  | some (x, y, z) => [.string (strOfNums x), .string (strOfNums y), .string (strOfNums z)]
  | none => [.string ⟨#[]⟩, .string ⟨#[]⟩, .string ⟨#[]⟩]
theorem words_none {s : L} (h : (splitC 32 s).length ≠ 3) : wordsS s = none := by
  unfold wordsS
  split
  · rename_i hs
    rw [hs] at h
    exact absurd rfl h
  · rfl
theorem words_three {s x y z : L} (h : splitC 32 s = [x, y, z]) : wordsS s = if x = [] ∨ y = [] ∨ z = [] then none else some (x, y, z) := by
  unfold wordsS
  rw [h]
set_option maxRecDepth 100000 in
set_option maxHeartbeats 8000000 in
theorem words_c {w : World} {mx : Int} (hM : w.cell? ⟨0, 0, none⟩ = some (.int .i64 mx)) (t : ByteArray) (ht : t.size ≤ 100000000) : Calls Tryz.prog 57 #[.string t] w fun e w' => e = .returned (.tuple #[.agg (woC (wordsS (bl t))).toArray, .bool (wordsS (bl t)).isSome]) ∧ Below w.heap.size w w' := by
  refine enter (args := [.string t]) Tryz.func57 rfl Tryz.ntmps57 rfl ?_
  have H := Hp.nil w
  repeat' (first | (with_reducible first | refine p_tn ?_ | refine wp_seq ?_ | refine w_reg ?_ | refine l_nil ?_) | ((with_reducible refine g_on ?_); (first | ((with_reducible refine g_mv ?_); refine l_p txs rfl rfl ?_) | ((with_reducible refine g_as ?_); refine l_p txs rfl rfl ?_) | ((with_reducible refine g_al ?_); refine h_alloc recs H rfl rfl (fun g_ w_ H => ?_)))))
  have hsp := split_c t 32 (by omega) _ mx (H.old hM)
  rw [show ((32 : UInt8).toNat : Int) = 32 from rfl] at hsp
  (with_reducible refine is_l ?_); refine l_call rfl rfl (by kernel_rfl) hsp (fun e w_ hR => ?_)
  obtain ⟨gN, rfl, K⟩ := hR
  refine ⟨_, rfl, ?_⟩
  have H := H.join K
  have hV := @words_none (bl t)
  have hT := @words_three (bl t)
  have hsm := split_mem 32 (bl t)
  have hbt := bl_bytes t
  generalize wordsS (bl t) = o at hV hT ⊢
  generalize splitC 32 (bl t) = N at K H hsm hV hT ⊢
  repeat' (first | (with_reducible first | refine p_tn ?_ | refine wp_seq ?_ | refine w_reg ?_ | refine l_nil ?_) | ((with_reducible refine g_on ?_); (first | ((with_reducible refine g_mv ?_); refine l_p txs rfl rfl ?_) | ((with_reducible refine g_as ?_); refine l_p txs rfl rfl ?_) | ((with_reducible refine g_cl ?_); refine l_p txs rfl rfl ?_))))
  (with_reducible refine is_l ?_); refine l_t txs rfl rfl (fun h3 => ?_) (fun h3 => ?_)
  · have hno := hV (by omega)
    repeat' (first | (with_reducible first | refine p_tn ?_ | refine wp_seq ?_ | refine w_reg ?_) | (with_reducible (refine is_if ?_; (refine w_ift rfl ?_))) | (with_reducible refine l_nil ?_) | ((with_reducible refine g_on ?_); (first | ((with_reducible refine g_mv ?_); refine l_p txs rfl rfl ?_) | ((with_reducible refine g_pk ?_); refine l_p txs rfl rfl ?_))) | ((with_reducible refine g_if ?_); (refine l_off rfl ?_)))
    (with_reducible refine is_l ?_); refine h_bld rfl rfl (show Tryz.prog.built 87 [] = some #[.string ⟨#[]⟩, .string ⟨#[]⟩, .string ⟨#[]⟩] by kernel_rfl) ?_
    repeat' (first | (with_reducible first | refine p_tn ?_ | refine p_tr ?_ | refine wp_ret ?_ | refine l_nil ?_) | ((with_reducible refine g_on ?_); (first | ((with_reducible refine g_as ?_); refine l_p txs rfl rfl ?_) | ((with_reducible refine g_st ?_); (refine h_stR recs H 1 rfl rfl rfl rfl rfl rfl rfl rfl rfl (fun w_ H => ?_))))))
    refine end_ct recs H 1 rfl rfl rfl rfl rfl rfl ?_
    exact ⟨by rw [hno]; rfl, H.B⟩
  obtain ⟨x, y, z, rfl⟩ : ∃ x y z, N = [x, y, z] := by
    match N, h3 with
    | [x, y, z], _ => exact ⟨x, y, z, rfl⟩
    | [], h => exact absurd h (by simp)
    | [_], h => exact absurd h (by simp)
    | [_, _], h => exact absurd h (by simp)
    | _ :: _ :: _ :: _ :: _, h => simp only [List.length_cons] at h; omega
  have hT := hT rfl
  have hbx : Bytes x := fun c hc => hbt c ((hsm x (by simp)).1 c hc)
  have hby : Bytes y := fun c hc => hbt c ((hsm y (by simp)).1 c hc)
  have hbz : Bytes z := fun c hc => hbt c ((hsm z (by simp)).1 c hc)
  repeat' (first | ((with_reducible refine g_on ?_); ((with_reducible refine g_mv ?_); refine l_p txs rfl rfl ?_)) | ((with_reducible refine g_if ?_); (first | ((with_reducible refine g_mv ?_); refine l_p txs rfl rfl ?_) | ((with_reducible refine g_ld ?_); (refine h_ld txs H 0 rfl rfl rfl rfl ?_)) | ((with_reducible refine g_ia ?_); refine l_ia txs rfl rfl (by first | omega | assumption | decide) (by first | omega | assumption | decide) ?_))))
  (with_reducible refine is_l ?_); refine l_t txs rfl rfl (fun h4 => ?_) (fun h4 => ?_)
  · rw [blS hbx] at h4
    have hno : o = none := by rw [hT, if_pos (.inl h4)]
    repeat' (first | (with_reducible first | refine p_tn ?_ | refine wp_seq ?_ | refine w_reg ?_) | (with_reducible (refine is_if ?_; (refine w_ift rfl ?_))) | (with_reducible refine l_nil ?_) | ((with_reducible refine g_on ?_); (first | ((with_reducible refine g_mv ?_); refine l_p txs rfl rfl ?_) | ((with_reducible refine g_pk ?_); refine l_p txs rfl rfl ?_))) | ((with_reducible refine g_if ?_); (refine l_off rfl ?_)))
    (with_reducible refine is_l ?_); refine h_bld rfl rfl (show Tryz.prog.built 87 [] = some #[.string ⟨#[]⟩, .string ⟨#[]⟩, .string ⟨#[]⟩] by kernel_rfl) ?_
    repeat' (first | (with_reducible first | refine p_tn ?_ | refine p_tr ?_ | refine wp_ret ?_ | refine l_nil ?_) | ((with_reducible refine g_on ?_); (first | ((with_reducible refine g_as ?_); refine l_p txs rfl rfl ?_) | ((with_reducible refine g_st ?_); (refine h_stR recs H 1 rfl rfl rfl rfl rfl rfl rfl rfl rfl (fun w_ H => ?_))))))
    refine end_ct recs H 1 rfl rfl rfl rfl rfl rfl ?_
    exact ⟨by rw [hno]; rfl, H.B⟩
  rw [blS hbx] at h4
  repeat' (first | ((with_reducible refine g_on ?_); (first | ((with_reducible refine g_mv ?_); refine l_p txs rfl rfl ?_) | ((with_reducible refine g_pk ?_); refine l_p txs rfl rfl ?_))) | ((with_reducible refine g_if ?_); (first | ((with_reducible refine g_mv ?_); refine l_p txs rfl rfl ?_) | ((with_reducible refine g_ld ?_); (refine h_ld txs H 0 rfl rfl rfl rfl ?_)) | ((with_reducible refine g_ia ?_); refine l_ia txs rfl rfl (by first | omega | assumption | decide) (by first | omega | assumption | decide) ?_))))
  (with_reducible refine is_l ?_); refine l_t txs rfl rfl (fun h5 => ?_) (fun h5 => ?_)
  · rw [blS hby] at h5
    have hno : o = none := by rw [hT, if_pos (.inr (.inl h5))]
    repeat' (first | (with_reducible first | refine p_tn ?_ | refine wp_seq ?_ | refine w_reg ?_) | (with_reducible (refine is_if ?_; (refine w_ift rfl ?_))) | (with_reducible refine l_nil ?_) | ((with_reducible refine g_on ?_); (first | ((with_reducible refine g_mv ?_); refine l_p txs rfl rfl ?_) | ((with_reducible refine g_pk ?_); refine l_p txs rfl rfl ?_))) | ((with_reducible refine g_if ?_); (refine l_off rfl ?_)))
    (with_reducible refine is_l ?_); refine h_bld rfl rfl (show Tryz.prog.built 87 [] = some #[.string ⟨#[]⟩, .string ⟨#[]⟩, .string ⟨#[]⟩] by kernel_rfl) ?_
    repeat' (first | (with_reducible first | refine p_tn ?_ | refine p_tr ?_ | refine wp_ret ?_ | refine l_nil ?_) | ((with_reducible refine g_on ?_); (first | ((with_reducible refine g_as ?_); refine l_p txs rfl rfl ?_) | ((with_reducible refine g_st ?_); (refine h_stR recs H 1 rfl rfl rfl rfl rfl rfl rfl rfl rfl (fun w_ H => ?_))))))
    refine end_ct recs H 1 rfl rfl rfl rfl rfl rfl ?_
    exact ⟨by rw [hno]; rfl, H.B⟩
  rw [blS hby] at h5
  repeat' (first | ((with_reducible refine g_on ?_); (first | ((with_reducible refine g_mv ?_); refine l_p txs rfl rfl ?_) | ((with_reducible refine g_pk ?_); refine l_p txs rfl rfl ?_))) | ((with_reducible refine g_if ?_); (first | ((with_reducible refine g_mv ?_); refine l_p txs rfl rfl ?_) | ((with_reducible refine g_ld ?_); (refine h_ld txs H 0 rfl rfl rfl rfl ?_)) | ((with_reducible refine g_ia ?_); refine l_ia txs rfl rfl (by first | omega | assumption | decide) (by first | omega | assumption | decide) ?_))))
  (with_reducible refine is_l ?_); refine l_t txs rfl rfl (fun h6 => ?_) (fun h6 => ?_)
  · rw [blS hbz] at h6
    have hno : o = none := by rw [hT, if_pos (.inr (.inr h6))]
    repeat' (first | (with_reducible first | refine p_tn ?_ | refine wp_seq ?_ | refine w_reg ?_) | (with_reducible (refine is_if ?_; (refine w_ift rfl ?_))) | (with_reducible refine l_nil ?_) | ((with_reducible refine g_on ?_); ((with_reducible refine g_pk ?_); refine l_p txs rfl rfl ?_)))
    (with_reducible refine is_l ?_); refine h_bld rfl rfl (show Tryz.prog.built 87 [] = some #[.string ⟨#[]⟩, .string ⟨#[]⟩, .string ⟨#[]⟩] by kernel_rfl) ?_
    repeat' (first | (with_reducible first | refine p_tn ?_ | refine p_tr ?_ | refine wp_ret ?_ | refine l_nil ?_) | ((with_reducible refine g_on ?_); (first | ((with_reducible refine g_as ?_); refine l_p txs rfl rfl ?_) | ((with_reducible refine g_st ?_); (refine h_stR recs H 1 rfl rfl rfl rfl rfl rfl rfl rfl rfl (fun w_ H => ?_))))))
    refine end_ct recs H 1 rfl rfl rfl rfl rfl rfl ?_
    exact ⟨by rw [hno]; rfl, H.B⟩
  rw [blS hbz] at h6
  have hso : o = some (x, y, z) := by
    rw [hT, if_neg]
    rintro (h | h | h)
    · exact h4 h
    · exact h5 h
    · exact h6 h
  repeat' (first | (with_reducible first | refine p_tn ?_ | refine wp_seq ?_ | refine w_reg ?_) | (with_reducible (refine is_if ?_; (refine w_iff rfl ?_))) | (with_reducible first | refine wp_skip ?_ | refine l_nil ?_) | ((with_reducible refine g_on ?_); (first | ((with_reducible refine g_mv ?_); refine l_p txs rfl rfl ?_) | ((with_reducible refine g_pk ?_); refine l_p txs rfl rfl ?_))))
  (with_reducible refine is_l ?_); refine l_s2a Tryz.underlying87 rfl rfl (Nat.le_refl 3) ?_
  repeat' (first | (with_reducible first | refine p_tn ?_ | refine wp_ret ?_ | refine l_nil ?_) | ((with_reducible refine g_on ?_); (first | ((with_reducible refine g_as ?_); refine l_p txs rfl rfl ?_) | ((with_reducible refine g_ld ?_); (refine h_ldR recs H 0 rfl rfl rfl rfl rfl ?_)) | ((with_reducible refine g_st ?_); (refine h_stR recs H 1 rfl rfl rfl rfl rfl rfl rfl rfl rfl (fun w_ H => ?_))))))
  refine end_ct recs H 1 rfl rfl rfl rfl rfl rfl ?_
  exact ⟨by rw [hso]; rfl, H.B⟩
def recT (t u : ByteArray) (a b : L) : ByteArray := if checkS (bl t) (bl u) = 0 then strOfNums (recS (bl t) (bl u) a b) else ⟨#[]⟩
theorem sum_bytes {x : L} (hb : Bytes x) : Bytes (sumS x) := by
  intro y hy
  rcases List.mem_append.1 hy with hy | hy
  · unfold h1S at hy
    simp only [List.mem_cons, List.not_mem_nil, or_false] at hy
    rcases hy with rfl | rfl | rfl <;> omega
  · exact enc64_bytes hb y hy
theorem sum_size {x : L} (hb : Bytes x) (hx : x.length = 32) : (strOfNums (sumS x)).size = 47 := by rw [← bl_length, blS (sum_bytes hb), sum_length hx]
set_option maxRecDepth 100000 in
set_option maxHeartbeats 8000000 in
theorem Record_c {w : World} (hL : Lay w) (t u : ByteArray) (a b : L) (ha : Bytes a) (la : a.length = 32) (hb : Bytes b) (lb : b.length = 32) :
    Calls Tryz.prog 28 #[.string t, .string u, .agg (nums .u8 a).toArray, .agg (nums .u8 b).toArray] w fun e w' => e = .returned (.tuple #[.string (recT t u a b), .int .i64 (checkS (bl t) (bl u) : Int)]) ∧ Below w.heap.size w w' := by
  refine enter (args := [.string t, .string u, .agg (nums .u8 a).toArray, .agg (nums .u8 b).toArray]) Tryz.func28 rfl Tryz.ntmps28 rfl ?_
  have H := Hp.nil w
  repeat' (with_reducible first | refine wp_seq ?_ | refine w_reg ?_)
  (with_reducible refine is_l ?_); refine h_box H rfl rfl (nfL_eq _ _) (fun gA w_ H => ?_)
  (with_reducible refine is_l ?_); refine h_box H rfl rfl (nfL_eq _ _) (fun gB w_ H => ?_)
  repeat' (first | (with_reducible first | refine p_tn ?_ | refine wp_seq ?_ | refine w_reg ?_ | refine l_nil ?_) | ((with_reducible refine g_on ?_); (first | ((with_reducible refine g_mv ?_); refine l_p txs rfl rfl ?_) | ((with_reducible refine g_as ?_); refine l_p txs rfl rfl ?_))))
  (with_reducible refine is_l ?_); refine l_callv rfl rfl (by kernel_rfl) (check_c (hL.below H.B) t u) (fun w_ K => ?_)
  have H := H.call K
  have hsm : checkS (bl t) (bl u) = 0 → t.size ≤ 255 ∧ u.size ≤ 128 := fun h => by
    obtain ⟨h1, x, h2, _⟩ := check_ok h
    rw [← bl_length, ← bl_length]
    exact ⟨(path_ne h1).2, (ver_no h2).2.2.2.2.2.2⟩
  unfold recT
  generalize checkS (bl t) (bl u) = k at hsm ⊢
  repeat' (first | (with_reducible first | refine p_tn ?_ | refine wp_seq ?_ | refine w_reg ?_ | refine l_nil ?_) | ((with_reducible refine g_on ?_); (first | ((with_reducible refine g_mv ?_); refine l_p txs rfl rfl ?_) | ((with_reducible refine g_as ?_); refine l_p txs rfl rfl ?_))))
  (with_reducible refine is_l ?_); refine l_t txs rfl rfl (fun h1 => ?_) (fun h1 => ?_)
  · repeat' (first | (with_reducible first | refine p_tn ?_ | refine p_tr ?_ | refine wp_seq ?_ | refine w_reg ?_) | (with_reducible (refine is_if ?_; (refine w_ift rfl ?_))) | (with_reducible first | refine wp_ret ?_ | refine l_nil ?_) | ((with_reducible refine g_on ?_); (first | ((with_reducible refine g_mv ?_); refine l_p txs rfl rfl ?_) | ((with_reducible refine g_as ?_); refine l_p txs rfl rfl ?_))))
    refine end2 rfl rfl rfl ?_
    exact ⟨by rw [if_neg (by omega)], H.B⟩
  · have h0 : k = 0 := by omega
    subst h0
    obtain ⟨hts, hus⟩ := hsm rfl
    have z1 : (⟨#[32]⟩ : ByteArray).size = 1 := rfl
    have z2 : (⟨#[10]⟩ : ByteArray).size = 1 := rfl
    have z3 : (⟨#[47, 103, 111, 46, 109, 111, 100]⟩ : ByteArray).size = 7 := rfl
    have za := sum_size ha la
    have zb := sum_size hb lb
    have hfin : (((((((((((t ++ ⟨#[32]⟩) ++ u) ++ ⟨#[32]⟩) ++ strOfNums (sumS a)) ++ ⟨#[10]⟩) ++ t) ++ ⟨#[32]⟩) ++ u) ++ ⟨#[47, 103, 111, 46, 109, 111, 100]⟩) ++ ⟨#[32]⟩) ++ strOfNums (sumS b)) ++ ⟨#[10]⟩ = strOfNums (recS (bl t) (bl u) a b) := by
      refine bl_inj ?_
      have hbr : Bytes (recS (bl t) (bl u) a b) := by
        intro y hy
        unfold recS line1 modS at hy
        simp only [List.mem_append, List.mem_cons, List.not_mem_nil, or_false] at hy
        have q1 := bl_bytes t y
        have q2 := bl_bytes u y
        have q3 := sum_bytes ha y
        have q4 := sum_bytes hb y
        have q5 : y = 32 ∨ y = 10 ∨ y = 47 ∨ y = 103 ∨ y = 111 ∨ y = 46 ∨ y = 109 ∨ y = 100 → 0 ≤ y ∧ y ≤ 255 := by omega
        grind
      rw [blS hbr]
      simp only [bl_cat, blS (sum_bytes ha), blS (sum_bytes hb)]
      rw [show bl (⟨#[32]⟩ : ByteArray) = [32] from rfl, show bl (⟨#[10]⟩ : ByteArray) = [10] from rfl, show bl (⟨#[47, 103, 111, 46, 109, 111, 100]⟩ : ByteArray) = modS from rfl]
      unfold recS line1
      simp
    have hSa := Sum_c a ha la
    have hSb := Sum_c b hb lb
    generalize strOfNums (sumS a) = sa at hfin za hSa
    generalize strOfNums (sumS b) = sb at hfin zb hSb
    have hla : (nums .u8 a).length = (nums .u8 zL).length := by rw [nums_length, la]; rfl
    have hlb : (nums .u8 b).length = (nums .u8 zL).length := by rw [nums_length, lb]; rfl
    repeat' (first | (with_reducible first | refine p_tn ?_ | refine wp_seq ?_) | (with_reducible (refine is_if ?_; (refine w_iff rfl ?_))) | (with_reducible first | refine wp_skip ?_ | refine l_nil ?_))
    refine w_draw (C := fun w' => Hp w w' [(gB, 22, nums .u8 b), (gA, 22, nums .u8 a)] []) (by kernel_rfl) (by kernel_rfl) H.drew ?_
    repeat' (first | (with_reducible refine q_nil ?_) | ((with_reducible refine is_q ?_); first | (refine q_off rfl ?_) | (refine q_p txs rfl rfl ?_) | (refine q_a txs rfl rfl (by first | exact in_i64 (by omega) (by omega) | exact in_u8 (by omega) (by omega) | exact in_u64 (by omega) (by omega) | exact in_i32 (by omega) (by omega)) ?_)))
    refine q_cat rfl rfl (by (try simp only [ByteArray.size_append]); omega) ?_
    repeat' (first | (with_reducible refine q_nil ?_) | ((with_reducible refine is_q ?_); first | (refine q_off rfl ?_) | (refine q_p txs rfl rfl ?_) | (refine q_a txs rfl rfl (by first | exact in_i64 (by omega) (by omega) | exact in_u8 (by omega) (by omega) | exact in_u64 (by omega) (by omega) | exact in_i32 (by omega) (by omega)) ?_)))
    refine q_cat rfl rfl (by (try simp only [ByteArray.size_append]); omega) ?_
    repeat' (first | (with_reducible refine q_nil ?_) | ((with_reducible refine is_q ?_); first | (refine q_off rfl ?_) | (refine q_p txs rfl rfl ?_) | (refine q_a txs rfl rfl (by first | exact in_i64 (by omega) (by omega) | exact in_u8 (by omega) (by omega) | exact in_u64 (by omega) (by omega) | exact in_i32 (by omega) (by omega)) ?_)))
    refine q_cat rfl rfl (by (try simp only [ByteArray.size_append]); omega) ?_
    repeat' (first | (with_reducible refine q_nil ?_) | ((with_reducible refine is_q ?_); first | (refine q_off rfl ?_) | (refine q_p txs rfl rfl ?_) | (refine q_a txs rfl rfl (by first | exact in_i64 (by omega) (by omega) | exact in_u8 (by omega) (by omega) | exact in_u64 (by omega) (by omega) | exact in_i32 (by omega) (by omega)) ?_)))
    refine q_val rfl (fun w' K => evLR_run (o := ⟨_, _, _, _, _, _⟩) recs rfl rfl (K.range 1 rfl) hla) ?_
    refine q_call rfl rfl (by kernel_rfl) (fun w1 K => (hSa w1).mono fun e w2 h => ⟨h.1, K.call h.2⟩) ?_
    repeat' (first | (with_reducible refine q_nil ?_) | ((with_reducible refine is_q ?_); first | (refine q_off rfl ?_) | (refine q_p txs rfl rfl ?_) | (refine q_a txs rfl rfl (by first | exact in_i64 (by omega) (by omega) | exact in_u8 (by omega) (by omega) | exact in_u64 (by omega) (by omega) | exact in_i32 (by omega) (by omega)) ?_)))
    refine q_cat rfl rfl (by (try simp only [ByteArray.size_append]); omega) ?_
    repeat' (first | (with_reducible refine q_nil ?_) | ((with_reducible refine is_q ?_); first | (refine q_off rfl ?_) | (refine q_p txs rfl rfl ?_) | (refine q_a txs rfl rfl (by first | exact in_i64 (by omega) (by omega) | exact in_u8 (by omega) (by omega) | exact in_u64 (by omega) (by omega) | exact in_i32 (by omega) (by omega)) ?_)))
    refine q_cat rfl rfl (by (try simp only [ByteArray.size_append]); omega) ?_
    repeat' (first | (with_reducible refine q_nil ?_) | ((with_reducible refine is_q ?_); first | (refine q_off rfl ?_) | (refine q_p txs rfl rfl ?_) | (refine q_a txs rfl rfl (by first | exact in_i64 (by omega) (by omega) | exact in_u8 (by omega) (by omega) | exact in_u64 (by omega) (by omega) | exact in_i32 (by omega) (by omega)) ?_)))
    refine q_cat rfl rfl (by (try simp only [ByteArray.size_append]); omega) ?_
    repeat' (first | (with_reducible refine q_nil ?_) | ((with_reducible refine is_q ?_); first | (refine q_off rfl ?_) | (refine q_p txs rfl rfl ?_) | (refine q_a txs rfl rfl (by first | exact in_i64 (by omega) (by omega) | exact in_u8 (by omega) (by omega) | exact in_u64 (by omega) (by omega) | exact in_i32 (by omega) (by omega)) ?_)))
    refine q_cat rfl rfl (by (try simp only [ByteArray.size_append]); omega) ?_
    repeat' (first | (with_reducible refine q_nil ?_) | ((with_reducible refine is_q ?_); first | (refine q_off rfl ?_) | (refine q_p txs rfl rfl ?_) | (refine q_a txs rfl rfl (by first | exact in_i64 (by omega) (by omega) | exact in_u8 (by omega) (by omega) | exact in_u64 (by omega) (by omega) | exact in_i32 (by omega) (by omega)) ?_)))
    refine q_cat rfl rfl (by (try simp only [ByteArray.size_append]); omega) ?_
    repeat' (first | (with_reducible refine q_nil ?_) | ((with_reducible refine is_q ?_); first | (refine q_off rfl ?_) | (refine q_p txs rfl rfl ?_) | (refine q_a txs rfl rfl (by first | exact in_i64 (by omega) (by omega) | exact in_u8 (by omega) (by omega) | exact in_u64 (by omega) (by omega) | exact in_i32 (by omega) (by omega)) ?_)))
    refine q_cat rfl rfl (by (try simp only [ByteArray.size_append]); omega) ?_
    repeat' (first | (with_reducible refine q_nil ?_) | ((with_reducible refine is_q ?_); first | (refine q_off rfl ?_) | (refine q_p txs rfl rfl ?_) | (refine q_a txs rfl rfl (by first | exact in_i64 (by omega) (by omega) | exact in_u8 (by omega) (by omega) | exact in_u64 (by omega) (by omega) | exact in_i32 (by omega) (by omega)) ?_)))
    refine q_cat rfl rfl (by (try simp only [ByteArray.size_append]); omega) ?_
    repeat' (first | (with_reducible refine q_nil ?_) | ((with_reducible refine is_q ?_); first | (refine q_off rfl ?_) | (refine q_p txs rfl rfl ?_) | (refine q_a txs rfl rfl (by first | exact in_i64 (by omega) (by omega) | exact in_u8 (by omega) (by omega) | exact in_u64 (by omega) (by omega) | exact in_i32 (by omega) (by omega)) ?_)))
    refine q_val rfl (fun w' K => evLR_run (o := ⟨_, _, _, _, _, _⟩) recs rfl rfl (K.range 0 rfl) hlb) ?_
    refine q_call rfl rfl (by kernel_rfl) (fun w1 K => (hSb w1).mono fun e w2 h => ⟨h.1, K.call h.2⟩) ?_
    repeat' (first | (with_reducible refine q_nil ?_) | ((with_reducible refine is_q ?_); first | (refine q_off rfl ?_) | (refine q_p txs rfl rfl ?_) | (refine q_a txs rfl rfl (by first | exact in_i64 (by omega) (by omega) | exact in_u8 (by omega) (by omega) | exact in_u64 (by omega) (by omega) | exact in_i32 (by omega) (by omega)) ?_)))
    refine q_cat rfl rfl (by (try simp only [ByteArray.size_append]); omega) ?_
    repeat' (first | (with_reducible refine q_nil ?_) | ((with_reducible refine is_q ?_); first | (refine q_off rfl ?_) | (refine q_p txs rfl rfl ?_) | (refine q_a txs rfl rfl (by first | exact in_i64 (by omega) (by omega) | exact in_u8 (by omega) (by omega) | exact in_u64 (by omega) (by omega) | exact in_i32 (by omega) (by omega)) ?_)))
    refine q_cat rfl rfl (by (try simp only [ByteArray.size_append]); omega) ?_
    repeat' (first | (with_reducible refine q_nil ?_) | ((with_reducible refine is_q ?_); first | (refine q_off rfl ?_) | (refine q_p txs rfl rfl ?_) | (refine q_a txs rfl rfl (by first | exact in_i64 (by omega) (by omega) | exact in_u8 (by omega) (by omega) | exact in_u64 (by omega) (by omega) | exact in_i32 (by omega) (by omega)) ?_)))
    clear H
    intro w_ H
    repeat' (with_reducible first | refine p_tn ?_ | refine wp_ret ?_)
    refine end2 rfl rfl rfl ?_
    exact ⟨by rw [if_pos rfl, ← hfin]; rfl, H.B⟩
end Go.Proofs.YtnimaenhijlcmaaGreatDoor.K.Rec
end
section
namespace Go.Proofs.YtnimaenhijlcmaaGreatDoor.K.Rec
open Go.RowKit Go.Proofs.YtnimaenhijlcmaaGreatDoor.Q Go.Proofs.YtnimaenhijlcmaaGreatDoor.K Go.Proofs.YtnimaenhijlcmaaGreatDoor.Mb Go.Proofs.YtnimaenhijlcmaaGreatDoorW.PrintWords
set_option linter.unusedVariables false
set_option linter.unusedSimpArgs false
theorem byte_row {w0 w : World} {l : List Ent} {r : List RowD} {A : Option Addr} {c : Nat} {b : L} (H : Hp w0 w l r) (k : Nat) (hk : r[k]? = some (rowB (.slice A b.length c) b)) : Rd w A (nums .u8 b) := by
  obtain ⟨A3, c3, e3, _, hRd, hAn⟩ := H.rd k hk
  cases e3
  exact hRd
theorem e_sum {x : L} (hb : Bytes x) : (⟨#[104, 49, 58]⟩ : ByteArray) ++ strOfNums (enc64 x) = strOfNums (sumS x) := by
  refine bl_inj ?_
  rw [bl_cat, blS (enc64_bytes hb), blS]
  · rfl
  · intro y hy
    rcases List.mem_append.1 hy with hy | hy
    · unfold h1S at hy
      simp only [List.mem_cons, List.not_mem_nil, or_false] at hy
      rcases hy with rfl | rfl | rfl <;> omega
    · exact enc64_bytes hb y hy
set_option maxRecDepth 100000 in
set_option maxHeartbeats 8000000 in
theorem Sum_r (x : L) (hb : Bytes x) (hx : x.length = 32) (w : World) : Calls Tryz.prog 24 #[.agg (nums .u8 x).toArray] w fun e w' => e = .returned (.string (strOfNums (sumS x))) ∧ Below w.heap.size w w' := by
  refine enter (args := [.agg (nums .u8 x).toArray]) Tryz.func24 rfl Tryz.ntmps24 rfl ?_
  have H := Hp.nil w
  have hn : (nums .u8 x).length = 32 := by rw [nums_length, hx]
  have e1 := e_sum hb
  repeat' (with_reducible first | refine wp_seq ?_ | refine w_reg ?_)
  (with_reducible refine is_l ?_); refine h_box H rfl rfl (nfL_eq _ _) (fun gX w_ H => ?_)
  repeat' (first | (with_reducible first | refine p_tn ?_ | refine wp_seq ?_ | refine wp_block ?_ | refine w_reg ?_ | refine l_nil ?_) | ((with_reducible refine g_on ?_); ((with_reducible refine g_as ?_); refine l_p txs rfl rfl ?_)))
  have H := H.nilRow 5 1
  refine w_loop (σ := Nat × Option Addr × Nat) (S := fun s => [(1, .pointer (some ⟨gX, 0, none⟩)), (3, .slice s.2.1 (x.take s.1).length s.2.2), (4, .int .i64 (s.1 : Int))])
    (J := fun s w' => Hp w w' [(gX, 22, nums .u8 x)] [rowB (.slice s.2.1 (x.take s.1).length s.2.2) (x.take s.1)] ∧ s.1 ≤ 32) (μ := fun s => 32 - s.1) (0, none, 0) ⟨rfl, rfl, rfl, trivial⟩ ⟨H, by omega⟩ ?_
  clear H
  rintro ⟨i, A2, c2⟩ f w_ ⟨H, hi⟩
  simp only at H hi ⊢
  repeat' (first | (with_reducible first | refine wp_seq ?_ | refine w_reg ?_) | ((with_reducible refine g_on ?_); ((with_reducible refine g_mv ?_); refine l_p txs rfl rfl ?_)))
  (with_reducible refine is_l ?_); refine l_t txs rfl rfl (fun hlt => ?_) (fun hge => ?_)
  · obtain ⟨v, hv⟩ : ∃ v, x[i]? = some v := ⟨_, List.getElem?_eq_getElem (by omega)⟩
    have hvv : (nums .u8 x)[i]? = some (.int .u8 v) := by unfold nums; rw [List.getElem?_map, hv]; rfl
    have hl0 : (x.take i).length = i := List.length_take_of_le (by omega)
    have hl1 : (x.take (i + 1)).length = (x.take i).length + 1 := by rw [hl0, List.length_take_of_le (by omega)]
    have hxt : x.take (i + 1) = x.take i ++ [v] := by
      obtain ⟨g1, g2⟩ := List.getElem?_eq_some_iff.1 hv
      rw [List.take_succ_eq_append_getElem g1, g2]
    repeat' (first | (with_reducible first | refine p_tn ?_ | refine wp_seq ?_ | refine wp_block ?_ | refine w_reg ?_) | (with_reducible (refine is_if ?_; (refine w_ift rfl ?_))) | (with_reducible first | refine wp_skip ?_ | refine l_nil ?_) | ((with_reducible refine g_on ?_); ((with_reducible refine g_mv ?_); refine l_p txs rfl rfl ?_)))
    (with_reducible refine is_l ?_); refine l_iaa Tryz.underlying22 one0_1 rfl rfl rfl (by omega) (by omega) ?_
    skip
    (with_reducible refine is_l ?_); refine l_ld txs rfl rfl (H.cellAt 0 rfl hvv) ?_
    skip
    (with_reducible refine is_l ?_); refine h_bs H info_u8 Tryz.underlying34 (by decide) (by decide) rfl rfl (by kernel_rfl) (fun g_ w_ H => ?_)
    (with_reducible refine is_l ?_); refine h_app H 0 rfl info_u8 Tryz.underlying34 rfl rfl rfl rfl (H.cellRd 0 rfl) rfl rfl (by show ((x.take i).length + 1) * 1 ≤ _; rw [hl0]; omega) (fun v w_ hv H => ?_)
    obtain ⟨A', c', rfl⟩ := hv
    have H := H.pick [1] [0] (by decide) (by decide) rfl rfl
    repeat' (first | (with_reducible first | refine p_tn ?_ | refine p_bn ?_ | refine w_reg ?_ | refine l_nil ?_) | ((with_reducible refine g_on ?_); (first | ((with_reducible refine g_mv ?_); refine l_p txs rfl rfl ?_) | ((with_reducible refine g_as ?_); refine l_p txs rfl rfl ?_) | ((with_reducible refine g_bi ?_); (refine l_a txs rfl rfl (by first | exact in_i64 (by omega) (by omega) | exact in_u8 (by omega) (by omega) | exact in_u64 (by omega) (by omega) | exact in_i32 (by omega) (by omega)) ?_)))))
    refine ⟨(i + 1, A', c'), _, rfl, ⟨rfl, ?_, rfl, trivial⟩, ⟨?_, by show i + 1 ≤ _; omega⟩, by show _ - (i + 1) < _ - i; omega⟩
    · show Value.slice A' ((x.take i).length + 1) c' = Value.slice A' (x.take (i + 1)).length c'
      rw [hl1]
    · show Hp w _ _ [rowB (.slice A' (x.take (i + 1)).length c') (x.take (i + 1))]
      unfold rowB
      rw [hl1, hxt, nums_snoc]
      exact H
  · have hall : x.take i = x := List.take_of_length_le (by omega)
    simp only [hall] at H ⊢
    repeat' (first | (with_reducible first | refine p_tn ?_ | refine p_tx ?_ | refine x_hit ?_ | refine wp_seq ?_ | refine w_reg ?_) | (with_reducible (refine is_if ?_; (refine w_iff rfl ?_))) | (with_reducible first | refine wp_exit ?_ | refine l_nil ?_) | ((with_reducible refine g_on ?_); ((with_reducible refine g_mv ?_); refine l_p txs rfl rfl ?_)))
    (with_reducible refine is_l ?_); refine l_callv rfl rfl (by kernel_rfl) (Ref.enc_r (byte_row H 0 rfl) hb (by omega)) (fun w_ K => ?_)
    have H := H.call K
    skip
    (with_reducible refine is_l ?_); refine l_cat rfl rfl (by
      rw [← bl_length (strOfNums (enc64 x)), blS (enc64_bytes hb), enc64_length, hx]
      decide) ?_
    repeat' (first | (with_reducible first | refine p_tn ?_ | refine wp_ret ?_ | refine l_nil ?_) | ((with_reducible refine g_on ?_); ((with_reducible refine g_as ?_); refine l_p txs rfl rfl ?_)))
    refine end1 rfl rfl ?_
    exact ⟨by rw [e1], H.B⟩
set_option maxRecDepth 100000 in
set_option maxHeartbeats 8000000 in
theorem Record_r {w : World} {t2 : TypeId} {fr : Nat × Nat} (hD : w.heap[3]? = some (.cells deC t2 fr)) (t u : ByteArray) (a b : L) (ha : Bytes a) (la : a.length = 32) (hb : Bytes b) (lb : b.length = 32) :
    Calls Tryz.prog 27 #[.string t, .string u, .agg (nums .u8 a).toArray, .agg (nums .u8 b).toArray] w fun e w' => e = .returned (.tuple #[.string (recT t u a b), .int .i64 (checkS (bl t) (bl u) : Int)]) ∧ Below w.heap.size w w' := by
  refine enter (args := [.string t, .string u, .agg (nums .u8 a).toArray, .agg (nums .u8 b).toArray]) Tryz.func27 rfl Tryz.ntmps27 rfl ?_
  have H := Hp.nil w
  repeat' (with_reducible first | refine wp_seq ?_ | refine w_reg ?_)
  (with_reducible refine is_l ?_); refine h_box H rfl rfl (nfL_eq _ _) (fun gA w_ H => ?_)
  (with_reducible refine is_l ?_); refine h_box H rfl rfl (nfL_eq _ _) (fun gB w_ H => ?_)
  repeat' (first | (with_reducible first | refine p_tn ?_ | refine wp_seq ?_ | refine w_reg ?_ | refine l_nil ?_) | ((with_reducible refine g_on ?_); (first | ((with_reducible refine g_mv ?_); refine l_p txs rfl rfl ?_) | ((with_reducible refine g_as ?_); refine l_p txs rfl rfl ?_))))
  (with_reducible refine is_l ?_); refine l_callv rfl rfl (by kernel_rfl) (Ref.Fits_c ((H.B.block _ (blk_lt hD)).trans hD) t u) (fun w_ K => ?_)
  have H := H.call K
  have hsm : checkS (bl t) (bl u) = 0 → t.size ≤ 255 ∧ u.size ≤ 128 := fun h => by
    obtain ⟨h1, x, h2, _⟩ := check_ok h
    rw [← bl_length, ← bl_length]
    exact ⟨(path_ne h1).2, (ver_no h2).2.2.2.2.2.2⟩
  unfold recT
  generalize checkS (bl t) (bl u) = k at hsm ⊢
  repeat' (first | (with_reducible first | refine p_tn ?_ | refine wp_seq ?_ | refine w_reg ?_ | refine l_nil ?_) | ((with_reducible refine g_on ?_); (first | ((with_reducible refine g_mv ?_); refine l_p txs rfl rfl ?_) | ((with_reducible refine g_as ?_); refine l_p txs rfl rfl ?_))))
  (with_reducible refine is_l ?_); refine l_t txs rfl rfl (fun h1 => ?_) (fun h1 => ?_)
  · repeat' (first | (with_reducible first | refine p_tn ?_ | refine p_tr ?_ | refine wp_seq ?_ | refine w_reg ?_) | (with_reducible (refine is_if ?_; (refine w_ift rfl ?_))) | (with_reducible first | refine wp_ret ?_ | refine l_nil ?_) | ((with_reducible refine g_on ?_); (first | ((with_reducible refine g_mv ?_); refine l_p txs rfl rfl ?_) | ((with_reducible refine g_as ?_); refine l_p txs rfl rfl ?_))))
    refine end2 rfl rfl rfl ?_
    exact ⟨by rw [if_neg (by omega)], H.B⟩
  · have h0 : k = 0 := by omega
    subst h0
    obtain ⟨hts, hus⟩ := hsm rfl
    have z1 : (⟨#[32]⟩ : ByteArray).size = 1 := rfl
    have z2 : (⟨#[10]⟩ : ByteArray).size = 1 := rfl
    have z3 : (⟨#[47, 103, 111, 46, 109, 111, 100, 32]⟩ : ByteArray).size = 8 := rfl
    have za := sum_size ha la
    have zb := sum_size hb lb
    have hfin : ((((((((((t ++ ⟨#[32]⟩) ++ u) ++ ⟨#[32]⟩) ++ strOfNums (sumS a)) ++ ⟨#[10]⟩) ++ t) ++ ⟨#[32]⟩) ++ u) ++ ⟨#[47, 103, 111, 46, 109, 111, 100, 32]⟩) ++ strOfNums (sumS b)) ++ ⟨#[10]⟩ = strOfNums (recS (bl t) (bl u) a b) := by
      refine bl_inj ?_
      have hbr : Bytes (recS (bl t) (bl u) a b) := by
        intro y hy
        unfold recS line1 modS at hy
        simp only [List.mem_append, List.mem_cons, List.not_mem_nil, or_false] at hy
        have q1 := bl_bytes t y
        have q2 := bl_bytes u y
        have q3 := sum_bytes ha y
        have q4 := sum_bytes hb y
        have q5 : y = 32 ∨ y = 10 ∨ y = 47 ∨ y = 103 ∨ y = 111 ∨ y = 46 ∨ y = 109 ∨ y = 100 → 0 ≤ y ∧ y ≤ 255 := by omega
        grind
      rw [blS hbr]
      simp only [bl_cat, blS (sum_bytes ha), blS (sum_bytes hb)]
      rw [show bl (⟨#[32]⟩ : ByteArray) = [32] from rfl, show bl (⟨#[10]⟩ : ByteArray) = [10] from rfl, show bl (⟨#[47, 103, 111, 46, 109, 111, 100, 32]⟩ : ByteArray) = modS ++ [32] from rfl]
      unfold recS line1
      simp
    have hSa := Sum_r a ha la
    have hSb := Sum_r b hb lb
    generalize strOfNums (sumS a) = sa at hfin za hSa
    generalize strOfNums (sumS b) = sb at hfin zb hSb
    have hla : (nums .u8 a).length = (nums .u8 zL).length := by rw [nums_length, la]; rfl
    have hlb : (nums .u8 b).length = (nums .u8 zL).length := by rw [nums_length, lb]; rfl
    repeat' (first | (with_reducible first | refine p_tn ?_ | refine wp_seq ?_) | (with_reducible (refine is_if ?_; (refine w_iff rfl ?_))) | (with_reducible first | refine wp_skip ?_ | refine l_nil ?_))
    refine w_draw (C := fun w' => Hp w w' [(gB, 22, nums .u8 b), (gA, 22, nums .u8 a)] []) (by kernel_rfl) (by kernel_rfl) H.drew ?_
    repeat' (first | (with_reducible refine q_nil ?_) | ((with_reducible refine is_q ?_); first | (refine q_off rfl ?_) | (refine q_p txs rfl rfl ?_) | (refine q_a txs rfl rfl (by first | exact in_i64 (by omega) (by omega) | exact in_u8 (by omega) (by omega) | exact in_u64 (by omega) (by omega) | exact in_i32 (by omega) (by omega)) ?_)))
    refine q_cat rfl rfl (by (try simp only [ByteArray.size_append]); omega) ?_
    repeat' (first | (with_reducible refine q_nil ?_) | ((with_reducible refine is_q ?_); first | (refine q_off rfl ?_) | (refine q_p txs rfl rfl ?_) | (refine q_a txs rfl rfl (by first | exact in_i64 (by omega) (by omega) | exact in_u8 (by omega) (by omega) | exact in_u64 (by omega) (by omega) | exact in_i32 (by omega) (by omega)) ?_)))
    refine q_cat rfl rfl (by (try simp only [ByteArray.size_append]); omega) ?_
    repeat' (first | (with_reducible refine q_nil ?_) | ((with_reducible refine is_q ?_); first | (refine q_off rfl ?_) | (refine q_p txs rfl rfl ?_) | (refine q_a txs rfl rfl (by first | exact in_i64 (by omega) (by omega) | exact in_u8 (by omega) (by omega) | exact in_u64 (by omega) (by omega) | exact in_i32 (by omega) (by omega)) ?_)))
    refine q_cat rfl rfl (by (try simp only [ByteArray.size_append]); omega) ?_
    repeat' (first | (with_reducible refine q_nil ?_) | ((with_reducible refine is_q ?_); first | (refine q_off rfl ?_) | (refine q_p txs rfl rfl ?_) | (refine q_a txs rfl rfl (by first | exact in_i64 (by omega) (by omega) | exact in_u8 (by omega) (by omega) | exact in_u64 (by omega) (by omega) | exact in_i32 (by omega) (by omega)) ?_)))
    refine q_val rfl (fun w' K => evLR_run (o := ⟨_, _, _, _, _, _⟩) recs rfl rfl (K.range 1 rfl) hla) ?_
    refine q_call rfl rfl (by kernel_rfl) (fun w1 K => (hSa w1).mono fun e w2 h => ⟨h.1, K.call h.2⟩) ?_
    repeat' (first | (with_reducible refine q_nil ?_) | ((with_reducible refine is_q ?_); first | (refine q_off rfl ?_) | (refine q_p txs rfl rfl ?_) | (refine q_a txs rfl rfl (by first | exact in_i64 (by omega) (by omega) | exact in_u8 (by omega) (by omega) | exact in_u64 (by omega) (by omega) | exact in_i32 (by omega) (by omega)) ?_)))
    refine q_cat rfl rfl (by (try simp only [ByteArray.size_append]); omega) ?_
    repeat' (first | (with_reducible refine q_nil ?_) | ((with_reducible refine is_q ?_); first | (refine q_off rfl ?_) | (refine q_p txs rfl rfl ?_) | (refine q_a txs rfl rfl (by first | exact in_i64 (by omega) (by omega) | exact in_u8 (by omega) (by omega) | exact in_u64 (by omega) (by omega) | exact in_i32 (by omega) (by omega)) ?_)))
    refine q_cat rfl rfl (by (try simp only [ByteArray.size_append]); omega) ?_
    repeat' (first | (with_reducible refine q_nil ?_) | ((with_reducible refine is_q ?_); first | (refine q_off rfl ?_) | (refine q_p txs rfl rfl ?_) | (refine q_a txs rfl rfl (by first | exact in_i64 (by omega) (by omega) | exact in_u8 (by omega) (by omega) | exact in_u64 (by omega) (by omega) | exact in_i32 (by omega) (by omega)) ?_)))
    refine q_cat rfl rfl (by (try simp only [ByteArray.size_append]); omega) ?_
    repeat' (first | (with_reducible refine q_nil ?_) | ((with_reducible refine is_q ?_); first | (refine q_off rfl ?_) | (refine q_p txs rfl rfl ?_) | (refine q_a txs rfl rfl (by first | exact in_i64 (by omega) (by omega) | exact in_u8 (by omega) (by omega) | exact in_u64 (by omega) (by omega) | exact in_i32 (by omega) (by omega)) ?_)))
    refine q_cat rfl rfl (by (try simp only [ByteArray.size_append]); omega) ?_
    repeat' (first | (with_reducible refine q_nil ?_) | ((with_reducible refine is_q ?_); first | (refine q_off rfl ?_) | (refine q_p txs rfl rfl ?_) | (refine q_a txs rfl rfl (by first | exact in_i64 (by omega) (by omega) | exact in_u8 (by omega) (by omega) | exact in_u64 (by omega) (by omega) | exact in_i32 (by omega) (by omega)) ?_)))
    refine q_cat rfl rfl (by (try simp only [ByteArray.size_append]); omega) ?_
    repeat' (first | (with_reducible refine q_nil ?_) | ((with_reducible refine is_q ?_); first | (refine q_off rfl ?_) | (refine q_p txs rfl rfl ?_) | (refine q_a txs rfl rfl (by first | exact in_i64 (by omega) (by omega) | exact in_u8 (by omega) (by omega) | exact in_u64 (by omega) (by omega) | exact in_i32 (by omega) (by omega)) ?_)))
    refine q_cat rfl rfl (by (try simp only [ByteArray.size_append]); omega) ?_
    repeat' (first | (with_reducible refine q_nil ?_) | ((with_reducible refine is_q ?_); first | (refine q_off rfl ?_) | (refine q_p txs rfl rfl ?_) | (refine q_a txs rfl rfl (by first | exact in_i64 (by omega) (by omega) | exact in_u8 (by omega) (by omega) | exact in_u64 (by omega) (by omega) | exact in_i32 (by omega) (by omega)) ?_)))
    refine q_val rfl (fun w' K => evLR_run (o := ⟨_, _, _, _, _, _⟩) recs rfl rfl (K.range 0 rfl) hlb) ?_
    refine q_call rfl rfl (by kernel_rfl) (fun w1 K => (hSb w1).mono fun e w2 h => ⟨h.1, K.call h.2⟩) ?_
    repeat' (first | (with_reducible refine q_nil ?_) | ((with_reducible refine is_q ?_); first | (refine q_off rfl ?_) | (refine q_p txs rfl rfl ?_) | (refine q_a txs rfl rfl (by first | exact in_i64 (by omega) (by omega) | exact in_u8 (by omega) (by omega) | exact in_u64 (by omega) (by omega) | exact in_i32 (by omega) (by omega)) ?_)))
    refine q_cat rfl rfl (by (try simp only [ByteArray.size_append]); omega) ?_
    repeat' (first | (with_reducible refine q_nil ?_) | ((with_reducible refine is_q ?_); first | (refine q_off rfl ?_) | (refine q_p txs rfl rfl ?_) | (refine q_a txs rfl rfl (by first | exact in_i64 (by omega) (by omega) | exact in_u8 (by omega) (by omega) | exact in_u64 (by omega) (by omega) | exact in_i32 (by omega) (by omega)) ?_)))
    refine q_cat rfl rfl (by (try simp only [ByteArray.size_append]); omega) ?_
    repeat' (first | (with_reducible refine q_nil ?_) | ((with_reducible refine is_q ?_); first | (refine q_off rfl ?_) | (refine q_p txs rfl rfl ?_) | (refine q_a txs rfl rfl (by first | exact in_i64 (by omega) (by omega) | exact in_u8 (by omega) (by omega) | exact in_u64 (by omega) (by omega) | exact in_i32 (by omega) (by omega)) ?_)))
    clear H
    intro w_ H
    repeat' (with_reducible first | refine p_tn ?_ | refine wp_ret ?_)
    refine end2 rfl rfl rfl ?_
    exact ⟨by rw [if_pos rfl, ← hfin]; rfl, H.B⟩
end Go.Proofs.YtnimaenhijlcmaaGreatDoor.K.Rec
end
section
namespace Go.Proofs.YtnimaenhijlcmaaGreatDoor.K.Rec.Law
open Go.RowKit Go.Proofs.YtnimaenhijlcmaaGreatDoor.Q Go.Proofs.YtnimaenhijlcmaaGreatDoor.K Go.Proofs.YtnimaenhijlcmaaGreatDoor.K.Rec Go.Proofs.YtnimaenhijlcmaaGreatDoor.Mb Go.Proofs.YtnimaenhijlcmaaGreatDoorW.PrintWords
set_option linter.unusedVariables false
set_option linter.unusedSimpArgs false
def fo : Nat → Nat → Option Nat
  | 27, 0 => some 0
  | 27, 1 => some 1
  | 27, 2 => some 2
  | 27, 3 => some 3
  | 27, 4 => some 35
  | 27, 5 => some 67
  | t, k => K.fo t k
theorem fld0 : fldB Tryz.prog 27 0 = some 0 := by kernel_rfl
theorem fld1 : fldB Tryz.prog 27 1 = some 1 := by kernel_rfl
theorem fld2 : fldB Tryz.prog 27 2 = some 2 := by kernel_rfl
theorem fld3 : fldB Tryz.prog 27 3 = some 3 := by kernel_rfl
theorem fld4 : fldB Tryz.prog 27 4 = some 35 := by kernel_rfl
theorem fld5 : fldB Tryz.prog 27 5 = some 67 := by kernel_rfl
theorem flds : Flds Tryz.prog fo := by
  intro t k o h
  unfold fo at h
  split at h
  · cases h; exact fld0
  · cases h; exact fld1
  · cases h; exact fld2
  · cases h; exact fld3
  · cases h; exact fld4
  · cases h; exact fld5
  · exact K.flds t k o h
abbrev opC (k : Int) (t u : ByteArray) (A B : L) (s : Value) : List Value := .int .i64 k :: .string t :: .string u :: (nums .u8 A ++ (nums .u8 B ++ [s]))
theorem op_a {k : Int} {t u : ByteArray} {A B : L} {s : Value} {j : Nat} {v : Value} (h : (nums .u8 A)[j]? = some v) : (opC k t u A B s)[3 + j]? = some v := by
  rw [Nat.add_comm 3 j]
  show (nums .u8 A ++ (nums .u8 B ++ [s]))[j]? = some v
  rw [List.getElem?_append_left (List.getElem?_eq_some_iff.1 h).1, h]
theorem op_b {k : Int} {t u : ByteArray} {A B : L} {s : Value} (lA : A.length = 32) {j : Nat} {v : Value} (h : (nums .u8 B)[j]? = some v) : (opC k t u A B s)[35 + j]? = some v := by
  rw [show 35 + j = (32 + j) + 3 by omega]
  show (nums .u8 A ++ (nums .u8 B ++ [s]))[32 + j]? = some v
  rw [List.getElem?_append_right (by rw [nums_length]; omega), nums_length, lA, Nat.add_sub_cancel_left, List.getElem?_append_left (List.getElem?_eq_some_iff.1 h).1, h]
theorem cons_of {l : L} {n : Nat} (h : l.length = n + 1) : ∃ a r, l = a :: r ∧ r.length = n := by
  cases l with
  | nil => simp at h
  | cons a r => exact ⟨a, r, rfl, by simpa using h⟩
theorem list32 {l : L} (h : l.length = 32) : ∃ a0 a1 a2 a3 a4 a5 a6 a7 a8 a9 a10 a11 a12 a13 a14 a15 a16 a17 a18 a19 a20 a21 a22 a23 a24 a25 a26 a27 a28 a29 a30 a31 : Int, l = [a0, a1, a2, a3, a4, a5, a6, a7, a8, a9, a10, a11, a12, a13, a14, a15, a16, a17, a18, a19, a20, a21, a22, a23, a24, a25, a26, a27, a28, a29, a30, a31] := by
  obtain ⟨a0, l0, e0, h0⟩ := cons_of h
  obtain ⟨a1, l1, e1, h1⟩ := cons_of h0
  obtain ⟨a2, l2, e2, h2⟩ := cons_of h1
  obtain ⟨a3, l3, e3, h3⟩ := cons_of h2
  obtain ⟨a4, l4, e4, h4⟩ := cons_of h3
  obtain ⟨a5, l5, e5, h5⟩ := cons_of h4
  obtain ⟨a6, l6, e6, h6⟩ := cons_of h5
  obtain ⟨a7, l7, e7, h7⟩ := cons_of h6
  obtain ⟨a8, l8, e8, h8⟩ := cons_of h7
  obtain ⟨a9, l9, e9, h9⟩ := cons_of h8
  obtain ⟨a10, l10, e10, h10⟩ := cons_of h9
  obtain ⟨a11, l11, e11, h11⟩ := cons_of h10
  obtain ⟨a12, l12, e12, h12⟩ := cons_of h11
  obtain ⟨a13, l13, e13, h13⟩ := cons_of h12
  obtain ⟨a14, l14, e14, h14⟩ := cons_of h13
  obtain ⟨a15, l15, e15, h15⟩ := cons_of h14
  obtain ⟨a16, l16, e16, h16⟩ := cons_of h15
  obtain ⟨a17, l17, e17, h17⟩ := cons_of h16
  obtain ⟨a18, l18, e18, h18⟩ := cons_of h17
  obtain ⟨a19, l19, e19, h19⟩ := cons_of h18
  obtain ⟨a20, l20, e20, h20⟩ := cons_of h19
  obtain ⟨a21, l21, e21, h21⟩ := cons_of h20
  obtain ⟨a22, l22, e22, h22⟩ := cons_of h21
  obtain ⟨a23, l23, e23, h23⟩ := cons_of h22
  obtain ⟨a24, l24, e24, h24⟩ := cons_of h23
  obtain ⟨a25, l25, e25, h25⟩ := cons_of h24
  obtain ⟨a26, l26, e26, h26⟩ := cons_of h25
  obtain ⟨a27, l27, e27, h27⟩ := cons_of h26
  obtain ⟨a28, l28, e28, h28⟩ := cons_of h27
  obtain ⟨a29, l29, e29, h29⟩ := cons_of h28
  obtain ⟨a30, l30, e30, h30⟩ := cons_of h29
  obtain ⟨a31, l31, e31, h31⟩ := cons_of h30
  cases l31 with
  | cons a r => simp at h31
  | nil => exact ⟨a0, a1, a2, a3, a4, a5, a6, a7, a8, a9, a10, a11, a12, a13, a14, a15, a16, a17, a18, a19, a20, a21, a22, a23, a24, a25, a26, a27, a28, a29, a30, a31, by rw [e0, e1, e2, e3, e4, e5, e6, e7, e8, e9, e10, e11, e12, e13, e14, e15, e16, e17, e18, e19, e20, e21, e22, e23, e24, e25, e26, e27, e28, e29, e30, e31]⟩
theorem built_op (k : Int) (t u : ByteArray) {A B : L} (lA : A.length = 32) (lB : B.length = 32) : Tryz.prog.built 27 [(0, .int .i64 k), (1, .string t), (2, .string u), (3, .agg (nums .u8 A).toArray), (4, .agg (nums .u8 B).toArray)] = some (opC k t u A B (.slice none 0 0)).toArray := by
  obtain ⟨a0, a1, a2, a3, a4, a5, a6, a7, a8, a9, a10, a11, a12, a13, a14, a15, a16, a17, a18, a19, a20, a21, a22, a23, a24, a25, a26, a27, a28, a29, a30, a31, rfl⟩ := list32 lA
  obtain ⟨b0, b1, b2, b3, b4, b5, b6, b7, b8, b9, b10, b11, b12, b13, b14, b15, b16, b17, b18, b19, b20, b21, b22, b23, b24, b25, b26, b27, b28, b29, b30, b31, rfl⟩ := list32 lB
  kernel_rfl
section
variable {P : Program} {n : Nat} {ops : Array Oper} {Q : Exit → Act → World → Prop} {rest : List Oper} {f : Fr} {w : World} {d : Option Nat} {tt : TypeId} {ps : String} {af : Array Edge} {gd : Option (Nat × Bool)}
theorem l_iaZ {t e : TypeId} {m sz : Nat} {x y : Operand} {g : Nat} {k : IntKind} {j : Int} (ht : P.underlying t = some (.array m e)) (he : (P.info? e).map (·.size) = some sz) (hw : want n ops f ⟨d, .indexAddr t x y, tt, ps, af, gd⟩ = true) (hx : nf (X n f x) = some (.pointer (some ⟨g, 0, none⟩))) (hy : nf (X n f y) = some (.int k j)) (h0 : 0 ≤ j) (h1 : j < m)
    (h : WL P ops Q rest (act n (put f d (.pointer (some ⟨g, j.toNat * sz, none⟩)))) w) : WL P ops Q (⟨d, .indexAddr t x y, tt, ps, af, gd⟩ :: rest) (act n f) w := by
  refine l_val hw ?_ h
  have hx' := nf_eq hx
  have hy' := nf_eq hy
  obtain ⟨i0, hi, hz⟩ := Option.map_eq_some_iff.1 he
  unfold execOp
  simp [go_sem, ← hx', ← hy', Instr.indexAt, run_underlying ht, sizeOf, typeInfo, hi, hz, h0, h1, Addr.add_lit]
end
theorem size32 : (Tryz.prog.info? 22).map (·.size) = some 32 := by kernel_rfl
theorem get_a {A B : L} {j : Nat} {v : Value} (h : (nums .u8 A)[j]? = some v) : (nums .u8 (A ++ B))[j]? = some v := by
  rw [nums_app, List.getElem?_append_left (List.getElem?_eq_some_iff.1 h).1, h]
theorem get_b {A B : L} (lA : A.length = 32) {j : Nat} {v : Value} (h : (nums .u8 B)[j]? = some v) : (nums .u8 (A ++ B))[32 + j]? = some v := by
  rw [nums_app, List.getElem?_append_right (by rw [nums_length]; omega), nums_length, lA, Nat.add_sub_cancel_left, h]
structure LayR (w : World) : Prop where
  lay : Lay w
  tak : ∃ t fr, w.heap[3]? = some (.cells deC t fr)
theorem LayR.below {w w' : World} (h : LayR w) (K : Below w.heap.size w w') : LayR w' := by
  obtain ⟨hL, t, fr, h1⟩ := h
  exact ⟨hL.below K, t, fr, (K.block _ (blk_lt h1)).trans h1⟩
set_option maxRecDepth 100000 in
set_option maxHeartbeats 16000000 in
theorem records7_c {w : World} (hL : LayR w) (t u : ByteArray) (A B : L) (s : Value) :
    Calls Tryz.prog 8 #[.agg (opC 7 t u A B s).toArray] w fun e w' => e = .returned (.bool true) ∧ Below w.heap.size w w' := by
  refine enter (args := [.agg (opC 7 t u A B s).toArray]) Tryz.func8 rfl Tryz.ntmps8 rfl ?_
  have H := Hp.nil w
  repeat' (with_reducible first | refine wp_seq ?_ | refine w_reg ?_)
  (with_reducible refine is_l ?_); refine h_box H rfl rfl (nfL_eq _ _) (fun gX w_ H => ?_)
  have H : Hp w w_ [(gX, 27, opC 7 t u A B s)] [] := H
  repeat' (first | (with_reducible first | refine p_tn ?_ | refine wp_seq ?_ | refine wp_block ?_ | refine w_reg ?_ | refine l_nil ?_) | ((with_reducible refine g_on ?_); (first | ((with_reducible refine g_as ?_); refine l_p txs rfl rfl ?_) | ((with_reducible refine g_fa ?_); refine h_fa flds rfl rfl ?_) | ((with_reducible refine g_ld ?_); (refine h_ld txs H 0 rfl rfl rfl rfl ?_)))))
  (with_reducible refine is_l ?_); refine l_t txs rfl rfl (fun _ => ?_) (fun h => absurd rfl h)
  repeat' (first | (with_reducible first | refine p_tn ?_ | refine wp_seq ?_ | refine w_reg ?_) | (with_reducible (refine is_if ?_; (refine w_ift rfl ?_))) | (with_reducible refine l_nil ?_) | ((with_reducible refine g_on ?_); (first | ((with_reducible refine g_as ?_); refine l_p txs rfl rfl ?_) | ((with_reducible refine g_fa ?_); refine h_fa flds rfl rfl ?_) | ((with_reducible refine g_ld ?_); (refine h_ld txs H 0 rfl rfl rfl rfl ?_)))))
  obtain ⟨_, t2, fr, hD⟩ := hL.below H.B
  have hk := Ref.Key_r hD t u
  have hk2 := fun (w1 : World) (h1 : Lay w1) => Key_c h1 t u
  generalize keyT t u = kt at hk hk2
  generalize checkS (bl t) (bl u) = n at hk hk2
  (with_reducible refine is_l ?_); refine l_callv rfl rfl (by kernel_rfl) hk (fun w_ K => ?_)
  have H := H.call K
  repeat' (first | (with_reducible first | refine p_tn ?_ | refine wp_seq ?_ | refine w_reg ?_ | refine l_nil ?_) | ((with_reducible refine g_on ?_); (first | ((with_reducible refine g_mv ?_); refine l_p txs rfl rfl ?_) | ((with_reducible refine g_as ?_); refine l_p txs rfl rfl ?_) | ((with_reducible refine g_ex ?_); refine l_p txs rfl rfl ?_) | ((with_reducible refine g_fa ?_); refine h_fa flds rfl rfl ?_) | ((with_reducible refine g_ld ?_); (refine h_ld txs H 0 rfl rfl rfl rfl ?_)))))
  (with_reducible refine is_l ?_); refine l_callv rfl rfl (by kernel_rfl) (hk2 _ (hL.below H.B).lay) (fun w_ K => ?_)
  have H := H.call K
  repeat' (first | (with_reducible first | refine p_tn ?_ | refine wp_seq ?_ | refine w_reg ?_ | refine l_nil ?_) | ((with_reducible refine g_on ?_); (first | ((with_reducible refine g_mv ?_); refine l_p txs rfl rfl ?_) | ((with_reducible refine g_as ?_); refine l_p txs rfl rfl ?_) | ((with_reducible refine g_ex ?_); refine l_p txs rfl rfl ?_))))
  (with_reducible refine is_l ?_); refine l_t txs rfl rfl (fun _ => ?_) (fun h => absurd rfl h)
  repeat' (first | ((with_reducible refine g_on ?_); ((with_reducible refine g_mv ?_); refine l_p txs rfl rfl ?_)) | ((with_reducible refine g_if ?_); ((with_reducible refine g_mv ?_); refine l_p txs rfl rfl ?_)))
  (with_reducible refine is_l ?_); refine l_t txs rfl rfl (fun _ => ?_) (fun h => absurd rfl h)
  repeat' (first | (with_reducible first | refine p_tn ?_ | refine p_tr ?_ | refine p_br ?_ | refine wp_ret ?_ | refine l_nil ?_) | ((with_reducible refine g_on ?_); (first | ((with_reducible refine g_as ?_); refine l_p txs rfl rfl ?_) | ((with_reducible refine g_pk ?_); refine l_p txs rfl rfl ?_))))
  refine end1 rfl rfl ?_
  exact ⟨rfl, H.B⟩
set_option maxRecDepth 100000 in
set_option maxHeartbeats 16000000 in
theorem records13_c {w : World} (hL : LayR w) (t u : ByteArray) (A B : L) (bA : Bytes A) (lA : A.length = 32) (bB : Bytes B) (lB : B.length = 32) (s : Value) :
    Calls Tryz.prog 8 #[.agg (opC 13 t u A B s).toArray] w fun e w' => e = .returned (.bool true) ∧ Below w.heap.size w w' := by
  have nA : (nums .u8 A).length = (nums .u8 zL).length := by rw [nums_length, lA]; rfl
  have nB : (nums .u8 B).length = (nums .u8 zL).length := by rw [nums_length, lB]; rfl
  refine enter (args := [.agg (opC 13 t u A B s).toArray]) Tryz.func8 rfl Tryz.ntmps8 rfl ?_
  have H := Hp.nil w
  repeat' (with_reducible first | refine wp_seq ?_ | refine w_reg ?_)
  (with_reducible refine is_l ?_); refine h_box H rfl rfl (nfL_eq _ _) (fun gX w_ H => ?_)
  have H : Hp w w_ [(gX, 27, opC 13 t u A B s)] [] := H
  repeat' (first | (with_reducible first | refine p_tn ?_ | refine wp_seq ?_ | refine wp_block ?_ | refine w_reg ?_ | refine l_nil ?_) | ((with_reducible refine g_on ?_); (first | ((with_reducible refine g_as ?_); refine l_p txs rfl rfl ?_) | ((with_reducible refine g_fa ?_); refine h_fa flds rfl rfl ?_) | ((with_reducible refine g_ld ?_); (refine h_ld txs H 0 rfl rfl rfl rfl ?_)))))
  (with_reducible refine is_l ?_); refine l_t txs rfl rfl (fun h => absurd h (by decide)) (fun _ => ?_)
  repeat' (first | (with_reducible first | refine p_tn ?_ | refine wp_seq ?_ | refine w_reg ?_) | (with_reducible (refine is_if ?_; (refine w_iff rfl ?_))) | (with_reducible refine l_nil ?_) | ((with_reducible refine g_on ?_); ((with_reducible refine g_as ?_); refine l_p txs rfl rfl ?_)))
  (with_reducible refine is_l ?_); refine l_t txs rfl rfl (fun h => absurd h (by decide)) (fun _ => ?_)
  repeat' (first | (with_reducible first | refine p_tn ?_ | refine wp_seq ?_ | refine w_reg ?_) | (with_reducible (refine is_if ?_; (refine w_iff rfl ?_))) | (with_reducible refine l_nil ?_) | ((with_reducible refine g_on ?_); ((with_reducible refine g_as ?_); refine l_p txs rfl rfl ?_)))
  (with_reducible refine is_l ?_); refine l_t txs rfl rfl (fun h => absurd h (by decide)) (fun _ => ?_)
  repeat' (first | (with_reducible first | refine p_tn ?_ | refine wp_seq ?_ | refine w_reg ?_) | (with_reducible (refine is_if ?_; (refine w_iff rfl ?_))) | (with_reducible refine l_nil ?_) | ((with_reducible refine g_on ?_); ((with_reducible refine g_as ?_); refine l_p txs rfl rfl ?_)))
  (with_reducible refine is_l ?_); refine l_t txs rfl rfl (fun h => absurd h (by decide)) (fun _ => ?_)
  repeat' (first | (with_reducible first | refine p_tn ?_ | refine wp_seq ?_ | refine w_reg ?_) | (with_reducible (refine is_if ?_; (refine w_iff rfl ?_))) | (with_reducible refine l_nil ?_) | ((with_reducible refine g_on ?_); ((with_reducible refine g_as ?_); refine l_p txs rfl rfl ?_)))
  (with_reducible refine is_l ?_); refine l_t txs rfl rfl (fun _ => ?_) (fun h => absurd rfl h)
  repeat' (first | (with_reducible first | refine p_tn ?_ | refine wp_seq ?_ | refine w_reg ?_) | (with_reducible (refine is_if ?_; (refine w_ift rfl ?_))) | (with_reducible refine l_nil ?_) | ((with_reducible refine g_on ?_); (first | ((with_reducible refine g_as ?_); refine l_p txs rfl rfl ?_) | ((with_reducible refine g_fa ?_); refine h_fa flds rfl rfl ?_) | ((with_reducible refine g_ld ?_); (refine h_ld txs H 0 rfl rfl rfl rfl ?_)))))
  (with_reducible refine is_l ?_); refine h_ldA recs (cs := nums .u8 A) (fun j v hv => by show World.cell? _ ((⟨gX, 3, none⟩ : Addr).add j) = _; rw [Addr.add_lit]; exact H.cellAt 0 rfl (op_a hv)) rfl rfl rfl nA ?_
  repeat' ((with_reducible refine g_on ?_); ((with_reducible refine g_fa ?_); refine h_fa flds rfl rfl ?_))
  (with_reducible refine is_l ?_); refine h_ldA recs (cs := nums .u8 B) (fun j v hv => by show World.cell? _ ((⟨gX, 35, none⟩ : Addr).add j) = _; rw [Addr.add_lit]; exact H.cellAt 0 rfl (op_b lA hv)) rfl rfl rfl nB ?_
  skip
  obtain ⟨_, t2, fr, hD⟩ := hL.below H.B
  have hk := Record_r hD t u A B bA lA bB lB
  have hk2 := fun (w1 : World) (h1 : Lay w1) => Record_c h1 t u A B bA lA bB lB
  generalize recT t u A B = kt at hk hk2
  generalize checkS (bl t) (bl u) = n at hk hk2
  (with_reducible refine is_l ?_); refine l_callv rfl rfl (by kernel_rfl) hk (fun w_ K => ?_)
  have H := H.call K
  repeat' (first | (with_reducible first | refine p_tn ?_ | refine wp_seq ?_ | refine w_reg ?_ | refine l_nil ?_) | ((with_reducible refine g_on ?_); (first | ((with_reducible refine g_mv ?_); refine l_p txs rfl rfl ?_) | ((with_reducible refine g_as ?_); refine l_p txs rfl rfl ?_) | ((with_reducible refine g_ex ?_); refine l_p txs rfl rfl ?_) | ((with_reducible refine g_fa ?_); refine h_fa flds rfl rfl ?_) | ((with_reducible refine g_ld ?_); (refine h_ld txs H 0 rfl rfl rfl rfl ?_)))))
  (with_reducible refine is_l ?_); refine h_ldA recs (cs := nums .u8 A) (fun j v hv => by show World.cell? _ ((⟨gX, 3, none⟩ : Addr).add j) = _; rw [Addr.add_lit]; exact H.cellAt 0 rfl (op_a hv)) rfl rfl rfl nA ?_
  repeat' ((with_reducible refine g_on ?_); ((with_reducible refine g_fa ?_); refine h_fa flds rfl rfl ?_))
  (with_reducible refine is_l ?_); refine h_ldA recs (cs := nums .u8 B) (fun j v hv => by show World.cell? _ ((⟨gX, 35, none⟩ : Addr).add j) = _; rw [Addr.add_lit]; exact H.cellAt 0 rfl (op_b lA hv)) rfl rfl rfl nB ?_
  skip
  (with_reducible refine is_l ?_); refine l_callv rfl rfl (by kernel_rfl) (hk2 _ (hL.below H.B).lay) (fun w_ K => ?_)
  have H := H.call K
  repeat' (first | (with_reducible first | refine p_tn ?_ | refine wp_seq ?_ | refine w_reg ?_ | refine l_nil ?_) | ((with_reducible refine g_on ?_); (first | ((with_reducible refine g_mv ?_); refine l_p txs rfl rfl ?_) | ((with_reducible refine g_as ?_); refine l_p txs rfl rfl ?_) | ((with_reducible refine g_ex ?_); refine l_p txs rfl rfl ?_))))
  (with_reducible refine is_l ?_); refine l_t txs rfl rfl (fun _ => ?_) (fun h => absurd rfl h)
  repeat' (first | ((with_reducible refine g_on ?_); ((with_reducible refine g_mv ?_); refine l_p txs rfl rfl ?_)) | ((with_reducible refine g_if ?_); ((with_reducible refine g_mv ?_); refine l_p txs rfl rfl ?_)))
  (with_reducible refine is_l ?_); refine l_t txs rfl rfl (fun _ => ?_) (fun h => absurd rfl h)
  repeat' (first | (with_reducible first | refine p_tn ?_ | refine p_tr ?_ | refine p_br ?_ | refine wp_ret ?_ | refine l_nil ?_) | ((with_reducible refine g_on ?_); (first | ((with_reducible refine g_as ?_); refine l_p txs rfl rfl ?_) | ((with_reducible refine g_pk ?_); refine l_p txs rfl rfl ?_))))
  refine end1 rfl rfl ?_
  exact ⟨rfl, H.B⟩
set_option maxRecDepth 100000 in
set_option maxHeartbeats 16000000 in
theorem fits_c {w : World} (hL : LayR w) (t u : ByteArray) (A B : L) (bA : Bytes A) (lA : A.length = 32) (bB : Bytes B) (lB : B.length = 32) :
    Calls Tryz.prog 3 #[.string t, .string u, .agg (nums .u8 (A ++ B)).toArray] w fun e w' => e = .returned (.bool true) ∧ Below w.heap.size w w' := by
  have nA : (nums .u8 A).length = (nums .u8 zL).length := by rw [nums_length, lA]; rfl
  have nB : (nums .u8 B).length = (nums .u8 zL).length := by rw [nums_length, lB]; rfl
  refine enter (args := [.string t, .string u, .agg (nums .u8 (A ++ B)).toArray]) Tryz.func3 rfl Tryz.ntmps3 rfl ?_
  have H := Hp.nil w
  repeat' (with_reducible first | refine wp_seq ?_ | refine w_reg ?_)
  (with_reducible refine is_l ?_); refine h_box H rfl rfl (nfL_eq _ _) (fun g5 w_ H => ?_)
  have H : Hp w w_ [(g5, 23, nums .u8 (A ++ B))] [] := H
  repeat' (first | (with_reducible first | refine p_tn ?_ | refine wp_seq ?_ | refine wp_block ?_ | refine w_reg ?_ | refine l_nil ?_) | ((with_reducible refine g_on ?_); ((with_reducible refine g_as ?_); refine l_p txs rfl rfl ?_)))
  refine w_loop (σ := Nat) (S := fun s => [(0, .string t), (1, .string u), (5, .pointer (some ⟨g5, 0, none⟩)), (7, .int .i64 ((7 + s : Nat) : Int))])
    (J := fun s w' => Hp w w' [(g5, 23, nums .u8 (A ++ B))] [] ∧ s ≤ 7) (μ := fun s => 7 - s) 0 ⟨rfl, rfl, rfl, rfl, trivial⟩ ⟨H, by omega⟩ ?_
  clear H
  rintro k f w_ ⟨H, hk⟩
  repeat' (first | (with_reducible first | refine wp_seq ?_ | refine w_reg ?_) | ((with_reducible refine g_on ?_); ((with_reducible refine g_mv ?_); refine l_p txs rfl rfl ?_)))
  (with_reducible refine is_l ?_); refine l_t txs rfl rfl (fun hle => ?_) (fun hgt => ?_)
  · by_cases h0 : k = 0
    · subst h0
      repeat' (first | (with_reducible first | refine p_tn ?_ | refine wp_seq ?_ | refine wp_block ?_ | refine w_reg ?_) | (with_reducible (refine is_if ?_; (refine w_ift rfl ?_))) | (with_reducible first | refine wp_skip ?_ | refine l_nil ?_) | ((with_reducible refine g_on ?_); ((with_reducible refine g_mv ?_); refine l_p txs rfl rfl ?_)))
      (with_reducible refine is_l ?_); refine l_t txs rfl rfl (fun _ => ?_) (fun h => absurd rfl h)
      repeat' (first | (with_reducible first | refine p_tn ?_ | refine wp_seq ?_ | refine w_reg ?_) | (with_reducible (refine is_if ?_; (refine w_ift rfl ?_))) | (with_reducible refine l_nil ?_) | ((with_reducible refine g_on ?_); (first | ((with_reducible refine g_mv ?_); refine l_p txs rfl rfl ?_) | ((with_reducible refine g_pk ?_); refine l_p txs rfl rfl ?_))) | ((with_reducible refine g_if ?_); (refine l_off rfl ?_)))
      (with_reducible refine is_l ?_); refine l_iaZ Tryz.underlying23 size32 rfl rfl rfl (by decide) (by decide) ?_
      skip
      (with_reducible refine is_l ?_); refine h_ldA recs (cs := nums .u8 A) (fun j v hv => by show World.cell? _ ((⟨g5, 0, none⟩ : Addr).add j) = _; rw [Addr.add_lit, Nat.zero_add]; exact H.cellAt 0 rfl (get_a hv)) rfl rfl rfl nA ?_
      skip
      (with_reducible refine is_l ?_); refine l_iaZ Tryz.underlying23 size32 rfl rfl rfl (by decide) (by decide) ?_
      skip
      (with_reducible refine is_l ?_); refine h_ldA recs (cs := nums .u8 B) (fun j v hv => by show World.cell? _ ((⟨g5, 32, none⟩ : Addr).add j) = _; rw [Addr.add_lit]; exact H.cellAt 0 rfl (get_b lA hv)) rfl rfl rfl nB ?_
      skip
      (with_reducible refine is_l ?_); refine h_bld rfl rfl (built_op 7 t u lA lB) ?_
      skip
      (with_reducible refine is_l ?_); refine l_callv rfl rfl (by kernel_rfl) (records7_c (hL.below H.B) t u A B _) (fun w_ K => ?_)
      have H := H.call K
      repeat' (first | (with_reducible first | refine p_tn ?_ | refine p_bn ?_ | refine wp_seq ?_ | refine w_reg ?_) | (with_reducible (refine is_if ?_; (refine w_iff rfl ?_))) | (with_reducible first | refine wp_skip ?_ | refine l_nil ?_) | ((with_reducible refine g_on ?_); (first | ((with_reducible refine g_mv ?_); refine l_p txs rfl rfl ?_) | ((with_reducible refine g_as ?_); refine l_p txs rfl rfl ?_) | ((with_reducible refine g_un ?_); (refine l_p txs rfl rfl ?_)) | ((with_reducible refine g_bi ?_); (refine l_a txs rfl rfl (by first | exact in_i64 (by omega) (by omega) | exact in_u8 (by omega) (by omega) | exact in_u64 (by omega) (by omega) | exact in_i32 (by omega) (by omega)) ?_)))))
      exact ⟨1, _, rfl, ⟨rfl, rfl, rfl, rfl, trivial⟩, ⟨H, by omega⟩, by decide⟩
    by_cases h6 : k = 6
    · subst h6
      repeat' (first | (with_reducible first | refine p_tn ?_ | refine wp_seq ?_ | refine wp_block ?_ | refine w_reg ?_) | (with_reducible (refine is_if ?_; (refine w_ift rfl ?_))) | (with_reducible first | refine wp_skip ?_ | refine l_nil ?_) | ((with_reducible refine g_on ?_); ((with_reducible refine g_mv ?_); refine l_p txs rfl rfl ?_)))
      (with_reducible refine is_l ?_); refine l_t txs rfl rfl (fun h => absurd h (by decide)) (fun _ => ?_)
      repeat' (first | ((with_reducible refine g_on ?_); ((with_reducible refine g_mv ?_); refine l_p txs rfl rfl ?_)) | ((with_reducible refine g_if ?_); ((with_reducible refine g_mv ?_); refine l_p txs rfl rfl ?_)))
      (with_reducible refine is_l ?_); refine l_t txs rfl rfl (fun _ => ?_) (fun h => absurd rfl h)
      repeat' (first | (with_reducible first | refine p_tn ?_ | refine wp_seq ?_ | refine w_reg ?_) | (with_reducible (refine is_if ?_; (refine w_ift rfl ?_))) | (with_reducible refine l_nil ?_) | ((with_reducible refine g_on ?_); (first | ((with_reducible refine g_mv ?_); refine l_p txs rfl rfl ?_) | ((with_reducible refine g_pk ?_); refine l_p txs rfl rfl ?_))))
      (with_reducible refine is_l ?_); refine l_iaZ Tryz.underlying23 size32 rfl rfl rfl (by decide) (by decide) ?_
      skip
      (with_reducible refine is_l ?_); refine h_ldA recs (cs := nums .u8 A) (fun j v hv => by show World.cell? _ ((⟨g5, 0, none⟩ : Addr).add j) = _; rw [Addr.add_lit, Nat.zero_add]; exact H.cellAt 0 rfl (get_a hv)) rfl rfl rfl nA ?_
      skip
      (with_reducible refine is_l ?_); refine l_iaZ Tryz.underlying23 size32 rfl rfl rfl (by decide) (by decide) ?_
      skip
      (with_reducible refine is_l ?_); refine h_ldA recs (cs := nums .u8 B) (fun j v hv => by show World.cell? _ ((⟨g5, 32, none⟩ : Addr).add j) = _; rw [Addr.add_lit]; exact H.cellAt 0 rfl (get_b lA hv)) rfl rfl rfl nB ?_
      skip
      (with_reducible refine is_l ?_); refine h_bld rfl rfl (built_op 13 t u lA lB) ?_
      skip
      (with_reducible refine is_l ?_); refine l_callv rfl rfl (by kernel_rfl) (records13_c (hL.below H.B) t u A B bA lA bB lB _) (fun w_ K => ?_)
      have H := H.call K
      repeat' (first | (with_reducible first | refine p_tn ?_ | refine p_bn ?_ | refine wp_seq ?_ | refine w_reg ?_) | (with_reducible (refine is_if ?_; (refine w_iff rfl ?_))) | (with_reducible first | refine wp_skip ?_ | refine l_nil ?_) | ((with_reducible refine g_on ?_); (first | ((with_reducible refine g_mv ?_); refine l_p txs rfl rfl ?_) | ((with_reducible refine g_as ?_); refine l_p txs rfl rfl ?_) | ((with_reducible refine g_un ?_); (refine l_p txs rfl rfl ?_)) | ((with_reducible refine g_bi ?_); (refine l_a txs rfl rfl (by first | exact in_i64 (by omega) (by omega) | exact in_u8 (by omega) (by omega) | exact in_u64 (by omega) (by omega) | exact in_i32 (by omega) (by omega)) ?_)))))
      exact ⟨7, _, rfl, ⟨rfl, rfl, rfl, rfl, trivial⟩, ⟨H, by omega⟩, by decide⟩
    · repeat' (first | (with_reducible first | refine p_tn ?_ | refine wp_seq ?_ | refine wp_block ?_ | refine w_reg ?_) | (with_reducible (refine is_if ?_; (refine w_ift rfl ?_))) | (with_reducible first | refine wp_skip ?_ | refine l_nil ?_) | ((with_reducible refine g_on ?_); ((with_reducible refine g_mv ?_); refine l_p txs rfl rfl ?_)))
      (with_reducible refine is_l ?_); refine l_t txs rfl rfl (fun h => absurd h (by omega)) (fun _ => ?_)
      repeat' (first | ((with_reducible refine g_on ?_); ((with_reducible refine g_mv ?_); refine l_p txs rfl rfl ?_)) | ((with_reducible refine g_if ?_); ((with_reducible refine g_mv ?_); refine l_p txs rfl rfl ?_)))
      (with_reducible refine is_l ?_); refine l_t txs rfl rfl (fun h => absurd h (by omega)) (fun _ => ?_)
      repeat' (first | (with_reducible first | refine p_tn ?_ | refine p_bn ?_ | refine w_reg ?_) | (with_reducible (refine is_if ?_; (refine w_iff rfl ?_))) | (with_reducible first | refine wp_skip ?_ | refine l_nil ?_) | ((with_reducible refine g_on ?_); (first | ((with_reducible refine g_mv ?_); refine l_p txs rfl rfl ?_) | ((with_reducible refine g_as ?_); refine l_p txs rfl rfl ?_) | ((with_reducible refine g_pk ?_); refine l_p txs rfl rfl ?_) | ((with_reducible refine g_bi ?_); (refine l_a txs rfl rfl (by first | exact in_i64 (by omega) (by omega) | exact in_u8 (by omega) (by omega) | exact in_u64 (by omega) (by omega) | exact in_i32 (by omega) (by omega)) ?_)))))
      exact ⟨k + 1, _, rfl, ⟨rfl, rfl, rfl, by show Value.int .i64 (((7 + k : Nat) : Int) + 1) = Value.int .i64 ((7 + (k + 1) : Nat) : Int); congr 1, trivial⟩, ⟨H, by omega⟩, by show 7 - (k + 1) < 7 - k; omega⟩
  · repeat' (first | (with_reducible first | refine p_tn ?_ | refine p_tx ?_ | refine x_hit ?_ | refine wp_seq ?_ | refine w_reg ?_) | (with_reducible (refine is_if ?_; (refine w_iff rfl ?_))) | (with_reducible first | refine wp_exit ?_ | refine l_nil ?_))
    (with_reducible refine is_l ?_); refine l_callv rfl rfl (by kernel_rfl) (known_c (hL.below H.B).lay) (fun w_ K => ?_)
    have H := H.call K
    repeat' (first | (with_reducible first | refine p_tn ?_ | refine wp_ret ?_ | refine l_nil ?_) | ((with_reducible refine g_on ?_); ((with_reducible refine g_as ?_); refine l_p txs rfl rfl ?_)))
    refine end1 rfl rfl ?_
    exact ⟨rfl, H.B⟩
end Go.Proofs.YtnimaenhijlcmaaGreatDoor.K.Rec.Law
end
section
namespace Go.Proofs.YtnimaenhijlcmaaGreatDoor.LaidZ
open Go.ChangeShapes Go.WideShapes Go.ChangeAt Go.RowKit
open Go.Proofs.YtnimaenhijlcmaaGreatDoor.K Go.Proofs.YtnimaenhijlcmaaGreatDoor.Mb
open Go.Lib (VarReads)
set_option linter.unusedVariables false
set_option linter.unusedSimpArgs false
theorem own : ownKnob Tryz.prog.godebug = none := by kernel_rfl
def ldT (s : ByteArray) : DataW Unit := .lit (.string s.data.toList)
theorem text_in {W : World} {m : Nat} {t : TypeId} {c : List Value} {y : DataW Unit × List MemPlace} {s : ByteArray} (ht : Tryz.prog.underlying t = some .string) (h : DataW.trod (fun _ => ()) Tryz.prog W 0 (fun _ => true) false m t c = some y) (hy : y.1 = ldT s) : c = [.string s] := by
  obtain ⟨s', rfl, rfl, _⟩ := DataW.trod_string ht h
  simp [ldT] at hy
  have : s' = s := by
    cases s; cases s'
    simp only [ByteArray.mk.injEq]
    exact Array.toList_inj.1 (by simpa using hy)
  rw [this]
theorem cells_of_texts {W : World} {fuel n : Nat} {arr E : TypeId} {cs : List Value} {p : List MemPlace} {T : List ByteArray} (ht : Tryz.prog.underlying arr = some (.array n E)) (hE : Tryz.prog.underlying E = some .string) (kE : Tryz.prog.cellsOf E = 1) (kA : Tryz.prog.cellsOf arr = n) (hn : T.length = n)
    (h : DataW.trod (fun _ => ()) Tryz.prog W 0 (fun _ => true) false fuel arr cs = some (.agg (T.map ldT), p)) : cs = T.map Value.string := by
  obtain ⟨xs, m, _, hx, hl, hxl, hall⟩ := DataW.trod_array ht h
  have hmap : xs.map (·.1) = T.map ldT := by
    have := congrArg Prod.fst hx
    simpa using this.symm
  refine List.ext_getElem? fun i => ?_
  by_cases hi : i < n
  · have hiT : i < T.length := by omega
    have hxi : i < xs.length := by omega
    have ha := hall i hi
    rw [List.getElem?_eq_getElem hxi, kE, Nat.mul_one] at ha
    have he : (xs[i]).1 = ldT T[i] := by
      have := congrArg (fun l => l[i]?) hmap
      simp only [List.getElem?_map, List.getElem?_eq_getElem hxi, List.getElem?_eq_getElem hiT, Option.map_some, Option.some.injEq] at this
      exact this
    have h1 := congrArg (fun l => l[0]?) (text_in hE ha he)
    simp only [List.getElem?_map, List.getElem?_eq_getElem hiT, Option.map_some] at h1 ⊢
    rw [List.getElem?_take_of_lt (by omega), List.getElem?_drop] at h1
    simpa using h1
  · rw [List.getElem?_eq_none (by omega), List.getElem?_eq_none (by rw [List.length_map]; omega)]
theorem heap_of_var {W : World} {nm : String} {g : Nat} {cs : Array Value} (hg : Tryz.prog.globalNamed nm = some g) (h : W.var? Tryz.prog nm = some cs) : ∃ t fr, W.heap[g]? = some (.cells cs t fr) := by
  unfold World.var? at h
  rw [hg, Option.bind_some] at h
  cases hx : W.heap[g]? with
  | none => rw [hx] at h; cases h
  | some o =>
    rw [hx] at h
    cases o <;> simp at h
    subst h
    exact ⟨_, _, rfl⟩
theorem deData : Rows.laid_ledger_modver_devices = .agg (deB.map ldT) := by kernel_rfl
theorem layD {W : World} (h : VarReads Tryz.prog W "ledger/modver.devices" Rows.laid_ledger_modver_devices) : ∃ t fr, W.heap[2]? = some (.cells deC t fr) := by
  rw [deData] at h
  obtain ⟨g', t', cs, fuel, p, hg', ht', hvar, hd⟩ := h
  obtain rfl := Option.some.inj ((show Tryz.prog.globalNamed "ledger/modver.devices" = some 2 by kernel_rfl).symm.trans hg')
  obtain rfl := Option.some.inj ((show (Tryz.prog.globals[2]?).map (·.type) = some 138 by kernel_rfl).symm.trans ht')
  have e := cells_of_texts Tryz.underlying138 Tryz.underlying9 (by kernel_rfl) (by kernel_rfl) rfl hd
  have e2 : cs = deC := by
    rw [← Array.toList_inj, e]; rfl
  rw [e2] at hvar
  exact heap_of_var (by kernel_rfl) hvar
theorem taData : Rows.laid_ledger_ledgerref11_taken = .agg (deB.map ldT) := by kernel_rfl
theorem layT {W : World} (h : VarReads Tryz.prog W "ledger/ledgerref11.taken" Rows.laid_ledger_ledgerref11_taken) : ∃ t fr, W.heap[3]? = some (.cells deC t fr) := by
  rw [taData] at h
  obtain ⟨g', t', cs, fuel, p, hg', ht', hvar, hd⟩ := h
  obtain rfl := Option.some.inj ((show Tryz.prog.globalNamed "ledger/ledgerref11.taken" = some 3 by kernel_rfl).symm.trans hg')
  obtain rfl := Option.some.inj ((show (Tryz.prog.globals[3]?).map (·.type) = some 138 by kernel_rfl).symm.trans ht')
  have e := cells_of_texts Tryz.underlying138 Tryz.underlying9 (by kernel_rfl) (by kernel_rfl) rfl hd
  have e2 : cs = deC := by
    rw [← Array.toList_inj, e]; rfl
  rw [e2] at hvar
  exact heap_of_var (by kernel_rfl) hvar
theorem mkData : Rows.laid_ledger_modver_marks = Lib.tabData (H := Unit) .i32 mkL := by kernel_rfl
theorem layK {W : World} (h : VarReads Tryz.prog W "ledger/modver.marks" Rows.laid_ledger_modver_marks) : ∃ t fr, W.heap[1]? = some (.cells mkC t fr) := by
  rw [mkData] at h
  obtain ⟨g', t', cs, fuel, p, hg', ht', hvar, hd⟩ := h
  obtain rfl := Option.some.inj ((show Tryz.prog.globalNamed "ledger/modver.marks" = some 1 by kernel_rfl).symm.trans hg')
  obtain rfl := Option.some.inj ((show (Tryz.prog.globals[1]?).map (·.type) = some 137 by kernel_rfl).symm.trans ht')
  have e := Lib.cells_of_tab Tryz.underlying137 Tryz.underlying21 (show Tryz.prog.cellsOf 21 = 1 by kernel_rfl) (show Tryz.prog.cellsOf 137 = 5 by kernel_rfl) hd
  have e2 : cs = mkC := by
    rw [← Array.toList_inj, e]; rfl
  rw [e2] at hvar
  exact heap_of_var (by kernel_rfl) hvar
theorem maxLen_cell {w : World} (h : w.ShapedOpen Tryz.prog) : ∃ m, w.cell? ⟨0, 0, none⟩ = some (.int .i64 m) :=
  Go.Proofs.cell_of_shapedOpen_int (zero := #[.int .i64 0]) (t := 3) h (of_decide_eq_true (by kernel_rfl)) (by kernel_rfl) rfl (by kernel_rfl) (by kernel_rfl) Tryz.underlying3
theorem laidOut : laidOutB Tryz.prog = true := by kernel_rfl
noncomputable def world (os : Os) : World := World.laidAll Tryz.prog os Rows.modverFitsRow.laid
theorem world_os (os : Os) : (world os).os = os := World.laidAll_os _ _ _
set_option maxRecDepth 100000 in
theorem met (os : Os) (args : Array Value) : laidMet Tryz.prog Rows.modverFitsRow.laid ((world os).forCall (fun _ _ => 0) ⟨#[], args, []⟩).memory :=
  laidMet_laidAll _ (by kernel_rfl) (by kernel_rfl)
end Go.Proofs.YtnimaenhijlcmaaGreatDoor.LaidZ
end
section
namespace Go.Proofs.YtnimaenhijlcmaaGreatDoor.K.Ref
open Go.RowKit Go.Proofs.YtnimaenhijlcmaaGreatDoor.Q Go.Proofs.YtnimaenhijlcmaaGreatDoor.K Go.Proofs.YtnimaenhijlcmaaGreatDoor.Mb Go.Proofs.YtnimaenhijlcmaaGreatDoorW.PrintWords
set_option linter.unusedVariables false
set_option linter.unusedSimpArgs false
def TakL (w : World) : Prop := ∃ t fr, w.heap[3]? = some (.cells deC t fr)
theorem TakL.below {w w' : World} (h : TakL w) (K : Below w.heap.size w w') : TakL w' := by
  obtain ⟨t, fr, h1⟩ := h
  exact ⟨t, fr, (K.block _ (blk_lt h1)).trans h1⟩
end Go.Proofs.YtnimaenhijlcmaaGreatDoor.K.Ref
end
section
namespace Go.Proofs.YtnimaenhijlcmaaGreatDoor.K.Ref
open Go.RowKit Go.Proofs.YtnimaenhijlcmaaGreatDoor.Q Go.Proofs.YtnimaenhijlcmaaGreatDoor.K Go.Proofs.YtnimaenhijlcmaaGreatDoor.Mb Go.Proofs.YtnimaenhijlcmaaGreatDoorW.PrintWords
set_option linter.unusedVariables false
set_option linter.unusedSimpArgs false
theorem key_two {s : L} {p v : L} (h : splitC 64 s = [p, v]) : keyS s = some (p, v) := by
  have h1 := key_split s
  rw [h] at h1
  cases hk : keyS s with
  | none => rw [hk] at h1; cases h1
  | some q =>
    obtain ⟨a, b⟩ := q
    obtain ⟨rfl, n1, n2⟩ := keyS_some hk
    rw [splitC_cut _ n1, splitC_none n2] at h
    cases h
    rfl
set_option maxRecDepth 100000 in
set_option maxHeartbeats 8000000 in
theorem ParseKey_r {w : World} (hL : TakL w) (t : ByteArray) (ht : t.size ≤ 100000000) :
    Calls Tryz.prog 22 #[.string t] w fun e w' => e = .returned (.tuple #[.string (parK (bl t)).1, .string (parK (bl t)).2.1, .int .i64 (parK (bl t)).2.2]) ∧ Below w.heap.size w w' := by
  obtain ⟨t2, fr, hD⟩ := hL
  refine enter (args := [.string t]) Tryz.func22 rfl Tryz.ntmps22 rfl ?_
  have H := Hp.nil w
  have hks := key_split (bl t)
  have hk2 := fun (p v : L) => @key_two (bl t) p v
  have hbt := bl_bytes t
  have hsm := split_mem 64 (bl t)
  have hP : parK (bl t) = match keyS (bl t) with
    | none => (⟨#[]⟩, ⟨#[]⟩, 113)
    | some (p, v) => if checkS p v = 0 then (strOfNums p, strOfNums v, 0) else (⟨#[]⟩, ⟨#[]⟩, (checkS p v : Int)) := rfl
  repeat' (first | (with_reducible first | refine p_tn ?_ | refine wp_seq ?_ | refine w_reg ?_ | refine l_nil ?_) | ((with_reducible refine g_on ?_); (first | ((with_reducible refine g_mv ?_); refine l_p txs rfl rfl ?_) | ((with_reducible refine g_as ?_); refine l_p txs rfl rfl ?_))))
  (with_reducible refine is_l ?_); refine l_call rfl rfl (by kernel_rfl) (pieces_c t 64 _ ht) (fun e w_ hR => ?_)
  generalize splitC 64 (bl t) = N at hR hks hk2 hsm
  obtain ⟨A1, c1, rfl, K⟩ := hR
  refine ⟨_, rfl, ?_⟩
  have H := H.join K
  repeat' (first | (with_reducible first | refine p_tn ?_ | refine wp_seq ?_ | refine w_reg ?_ | refine l_nil ?_) | ((with_reducible refine g_on ?_); (first | ((with_reducible refine g_mv ?_); refine l_p txs rfl rfl ?_) | ((with_reducible refine g_as ?_); refine l_p txs rfl rfl ?_) | ((with_reducible refine g_cl ?_); refine l_p txs rfl rfl ?_))))
  (with_reducible refine is_l ?_); refine l_t txs rfl rfl (fun h1 => ?_) (fun h1 => ?_)
  · have hno : keyS (bl t) = none := by
      cases hk : keyS (bl t) with
      | none => rfl
      | some p => rw [hk] at hks; exact absurd (of_decide_eq_true hks.symm) (by omega)
    have hn : parK (bl t) = (⟨#[]⟩, ⟨#[]⟩, 113) := by rw [hP, hno]
    repeat' (first | (with_reducible first | refine p_tn ?_ | refine p_tr ?_ | refine wp_seq ?_ | refine w_reg ?_) | (with_reducible (refine is_if ?_; (refine w_ift rfl ?_))) | (with_reducible first | refine wp_ret ?_ | refine l_nil ?_) | ((with_reducible refine g_on ?_); ((with_reducible refine g_as ?_); refine l_p txs rfl rfl ?_)))
    refine end3 rfl rfl rfl rfl ?_
    exact ⟨by rw [hn]; first | done | rfl, H.B⟩
  obtain ⟨p, v, rfl⟩ : ∃ p v, N = [p, v] := by
    match N, h1 with
    | [p, v], _ => exact ⟨p, v, rfl⟩
    | [], h => exact absurd (show ((([] : List L).length : Nat) : Int) ≠ 2 by decide) h
    | [x], h => exact absurd (show (([x].length : Nat) : Int) ≠ 2 from (by decide : (1 : Int) ≠ 2)) h
    | _ :: _ :: _ :: _, h => simp only [List.length_cons] at h; omega
  have hk := hk2 p v rfl
  rw [hk] at hP
  have hP : parK (bl t) = if checkS p v = 0 then (strOfNums p, strOfNums v, 0) else (⟨#[]⟩, ⟨#[]⟩, (checkS p v : Int)) := hP
  have bp : Bytes p := fun c hc => hbt c ((hsm p (by simp)).1 c hc)
  have bv : Bytes v := fun c hc => hbt c ((hsm v (by simp)).1 c hc)
  obtain ⟨ad, rfl⟩ := row_some K 0 rfl (by simp)
  have hl2 : [p, v].length = 2 := rfl
  have hch := fun (w1 : World) (h1 : w1.heap[3]? = some (.cells deC t2 fr)) => Fits_c h1 (strOfNums p) (strOfNums v)
  rw [blS bp, blS bv] at hch
  generalize checkS p v = j at hP hch
  repeat' (first | (with_reducible first | refine p_tn ?_ | refine wp_seq ?_) | (with_reducible (refine is_if ?_; (refine w_iff rfl ?_))) | (with_reducible first | refine wp_skip ?_ | refine l_nil ?_))
  refine w_draw (C := fun w' => Hp w w' [] [rowT (.slice (some ad) [p, v].length c1) [p, v]]) (by kernel_rfl) (by kernel_rfl) H.drew ?_
  repeat' (first | (with_reducible refine q_nil ?_) | ((with_reducible refine is_q ?_); first | (refine q_off rfl ?_) | (refine q_p txs rfl rfl ?_) | (refine q_a txs rfl rfl (by first | exact in_i64 (by omega) (by omega) | exact in_u8 (by omega) (by omega) | exact in_u64 (by omega) (by omega) | exact in_i32 (by omega) (by omega)) ?_)))
  refine q_ia txs rfl rfl (by decide) (by rw [hl2]; decide) ?_
  refine q_ld txs rfl rfl (fun w' K => rdT_cell (rowT_at K 0 rfl) (i := 0) (y := p) rfl) ?_
  repeat' (first | (with_reducible refine q_nil ?_) | ((with_reducible refine is_q ?_); first | (refine q_off rfl ?_) | (refine q_p txs rfl rfl ?_) | (refine q_a txs rfl rfl (by first | exact in_i64 (by omega) (by omega) | exact in_u8 (by omega) (by omega) | exact in_u64 (by omega) (by omega) | exact in_i32 (by omega) (by omega)) ?_)))
  refine q_ia txs rfl rfl (by decide) (by rw [hl2]; decide) ?_
  refine q_ld txs rfl rfl (fun w' K => rdT_cell (rowT_at K 0 rfl) (i := 1) (y := v) rfl) ?_
  refine q_call rfl rfl (by kernel_rfl) (fun w1 K => (hch w1 ((K.B.block _ (blk_lt hD)).trans hD)).mono fun e w2 h => ⟨h.1, K.call h.2⟩) ?_
  repeat' (first | (with_reducible refine q_nil ?_) | ((with_reducible refine is_q ?_); first | (refine q_off rfl ?_) | (refine q_p txs rfl rfl ?_) | (refine q_a txs rfl rfl (by first | exact in_i64 (by omega) (by omega) | exact in_u8 (by omega) (by omega) | exact in_u64 (by omega) (by omega) | exact in_i32 (by omega) (by omega)) ?_)))
  clear H
  intro w_ H
  repeat' (first | (with_reducible first | refine p_tn ?_ | refine wp_seq ?_ | refine w_reg ?_) | ((with_reducible refine g_on ?_); ((with_reducible refine g_mv ?_); refine l_p txs rfl rfl ?_)))
  (with_reducible refine is_l ?_); refine l_t txs rfl rfl (fun h2 => ?_) (fun h2 => ?_)
  · have hn : parK (bl t) = (⟨#[]⟩, ⟨#[]⟩, (j : Int)) := by rw [hP, if_neg (by omega)]
    repeat' (first | (with_reducible first | refine p_tn ?_ | refine p_tr ?_ | refine wp_seq ?_ | refine w_reg ?_) | (with_reducible (refine is_if ?_; (refine w_ift rfl ?_))) | (with_reducible first | refine wp_ret ?_ | refine l_nil ?_) | ((with_reducible refine g_on ?_); (first | ((with_reducible refine g_mv ?_); refine l_p txs rfl rfl ?_) | ((with_reducible refine g_as ?_); refine l_p txs rfl rfl ?_))))
    refine end3 rfl rfl rfl rfl ?_
    exact ⟨by rw [hn]; first | done | rfl, H.B⟩
  · have hn : parK (bl t) = (strOfNums p, strOfNums v, 0) := by rw [hP, if_pos (by omega)]
    repeat' (first | (with_reducible first | refine p_tn ?_ | refine wp_seq ?_) | (with_reducible (refine is_if ?_; (refine w_iff rfl ?_))) | (with_reducible first | refine wp_skip ?_ | refine l_nil ?_))
    refine w_draw (C := fun w' => Hp w w' [] [rowT (.slice (some ad) [p, v].length c1) [p, v]]) (by kernel_rfl) (by kernel_rfl) H.drew ?_
    repeat' (first | (with_reducible refine q_nil ?_) | ((with_reducible refine is_q ?_); first | (refine q_off rfl ?_) | (refine q_p txs rfl rfl ?_) | (refine q_a txs rfl rfl (by first | exact in_i64 (by omega) (by omega) | exact in_u8 (by omega) (by omega) | exact in_u64 (by omega) (by omega) | exact in_i32 (by omega) (by omega)) ?_)))
    refine q_ia txs rfl rfl (by decide) (by rw [hl2]; decide) ?_
    refine q_ld txs rfl rfl (fun w' K => rdT_cell (rowT_at K 0 rfl) (i := 0) (y := p) rfl) ?_
    repeat' (first | (with_reducible refine q_nil ?_) | ((with_reducible refine is_q ?_); first | (refine q_off rfl ?_) | (refine q_p txs rfl rfl ?_) | (refine q_a txs rfl rfl (by first | exact in_i64 (by omega) (by omega) | exact in_u8 (by omega) (by omega) | exact in_u64 (by omega) (by omega) | exact in_i32 (by omega) (by omega)) ?_)))
    refine q_ia txs rfl rfl (by decide) (by rw [hl2]; decide) ?_
    refine q_ld txs rfl rfl (fun w' K => rdT_cell (rowT_at K 0 rfl) (i := 1) (y := v) rfl) ?_
    repeat' (first | (with_reducible refine q_nil ?_) | ((with_reducible refine is_q ?_); first | (refine q_off rfl ?_) | (refine q_p txs rfl rfl ?_) | (refine q_a txs rfl rfl (by first | exact in_i64 (by omega) (by omega) | exact in_u8 (by omega) (by omega) | exact in_u64 (by omega) (by omega) | exact in_i32 (by omega) (by omega)) ?_)))
    clear H
    intro w_ H
    repeat' (with_reducible first | refine p_tn ?_ | refine wp_ret ?_)
    refine end3 rfl rfl rfl rfl ?_
    exact ⟨by rw [hn]; first | done | rfl, H.B⟩
end Go.Proofs.YtnimaenhijlcmaaGreatDoor.K.Ref
namespace Go.Proofs.YtnimaenhijlcmaaGreatDoor.K.Rec
open Go.RowKit Go.Proofs.YtnimaenhijlcmaaGreatDoor.Q Go.Proofs.YtnimaenhijlcmaaGreatDoor.K Go.Proofs.YtnimaenhijlcmaaGreatDoor.Mb Go.Proofs.YtnimaenhijlcmaaGreatDoorW.PrintWords
set_option linter.unusedVariables false
set_option linter.unusedSimpArgs false
end Go.Proofs.YtnimaenhijlcmaaGreatDoor.K.Rec
end
section
namespace Go.Proofs.YtnimaenhijlcmaaGreatDoor.K.Rec.Law
open Go.RowKit Go.Proofs.YtnimaenhijlcmaaGreatDoor.Q Go.Proofs.YtnimaenhijlcmaaGreatDoor.K Go.Proofs.YtnimaenhijlcmaaGreatDoor.K.Rec Go.Proofs.YtnimaenhijlcmaaGreatDoor.Mb Go.Proofs.YtnimaenhijlcmaaGreatDoorW.PrintWords
set_option linter.unusedVariables false
set_option linter.unusedSimpArgs false
abbrev zOp : List Value := opC 0 ⟨#[]⟩ ⟨#[]⟩ zL zL (.slice none 0 0)
def rt : Nat → Option (List Value)
  | 27 => some zOp
  | t => K.Rec.rt t
theorem recOkO : RecOk Tryz.prog 27 zOp := ⟨⟨_, Tryz.underlying27, rfl⟩, by kernel_rfl⟩
theorem recs : Recs Tryz.prog rt := by
  intro t zs h
  unfold rt at h
  split at h
  · cases h; exact recOkO
  · exact K.Rec.recs t zs h
theorem op_len {k : Int} {t u : ByteArray} {A B : L} {s : Value} (lA : A.length = 32) (lB : B.length = 32) : (opC k t u A B s).length = zOp.length := by
  show (nums .u8 A ++ (nums .u8 B ++ [s])).length + 3 = 68
  rw [List.length_append, List.length_append, nums_length, nums_length, lA, lB]
  rfl
theorem LayR.tkl {w : World} (h : LayR w) : Ref.TakL w := h.tak
end Go.Proofs.YtnimaenhijlcmaaGreatDoor.K.Rec.Law
end
section
namespace Go.Proofs.YtnimaenhijlcmaaGreatDoor.Mb
set_option linter.unusedVariables false
set_option linter.unusedSimpArgs false
def tlK (s : L) : L := match cutC 64 s with | some (_, b) => b | none => []
def keyF (a b : L) : Int := if cmpB (aheadC 64 a) (aheadC 64 b) ≠ 0 then cmpB (aheadC 64 a) (aheadC 64 b) else if compareS (tlK a) (tlK b) ≠ 0 then compareS (tlK a) (tlK b) else cmpB (tlK a) (tlK b)
theorem ordK : Ord3 keyF := (ordB.comap (aheadC 64)).lex ((ordS.comap tlK).lex (ordB.comap tlK))
theorem cut_sub {s : L} : (∀ y ∈ aheadC 64 s, y ∈ s) ∧ (∀ y ∈ tlK s, y ∈ s) ∧ (aheadC 64 s).length ≤ s.length ∧ (tlK s).length ≤ s.length := by
  unfold aheadC tlK
  cases h : cutC 64 s with
  | none => exact ⟨fun y hy => hy, fun y hy => (by cases hy), Nat.le_refl _, Nat.zero_le _⟩
  | some p =>
    obtain ⟨a, b⟩ := p
    obtain ⟨rfl, _⟩ := cutC_some h
    refine ⟨fun y hy => List.mem_append_left _ hy, fun y hy => List.mem_append_right _ (List.mem_cons_of_mem _ hy), ?_, ?_⟩ <;> simp only [List.length_append, List.length_cons] <;> omega
theorem key_parts {s p v : L} (h : keyS s = some (p, v)) : aheadC 64 s = p ∧ tlK s = v := by
  obtain ⟨rfl, h1, _⟩ := keyS_some h
  unfold aheadC tlK
  rw [cutC_mk _ h1]
  exact ⟨rfl, rfl⟩
theorem cmpB_eq : ∀ {a b : L}, cmpB a b = 0 → a = b
  | [], [], _ => rfl
  | [], _ :: _, h => by simp [cmpB] at h
  | _ :: _, [], h => by simp [cmpB] at h
  | x :: a, y :: b, h => by
    simp only [cmpB] at h
    split at h
    · cases h
    split at h
    · cases h
    rw [show x = y by omega, cmpB_eq h]
def keyE (s : L) : Int := match keyS s with | none => 113 | some (p, v) => (checkS p v : Int)
def firstE : List L → Int
  | [] => 0
  | x :: r => if keyE x ≠ 0 then keyE x else firstE r
theorem firstE_zero : ∀ {l : List L}, firstE l = 0 ↔ ∀ x ∈ l, keyE x = 0
  | [] => by simp [firstE]
  | x :: r => by
    have ih := @firstE_zero r
    rw [firstE]
    by_cases h : keyE x ≠ 0
    · rw [if_pos h]
      exact ⟨fun e => absurd e h, fun e => absurd (e x (List.mem_cons_self ..)) h⟩
    · rw [if_neg h, ih]
      have h0 : keyE x = 0 := Classical.not_not.1 h
      exact ⟨fun e y hy => by rcases List.mem_cons.1 hy with rfl | hy; exact h0; exact e y hy, fun e y hy => e y (List.mem_cons_of_mem _ hy)⟩
def sortE (l : List L) : Int := if 4096 < l.length then 2 else firstE l
theorem keyE_ok {s : L} (h : keyE s = 0) : ∃ p v, keyS s = some (p, v) ∧ checkS p v = 0 ∧ s.length ≤ 384 := by
  unfold keyE at h
  cases hk : keyS s with
  | none => rw [hk] at h; cases h
  | some q =>
    obtain ⟨p, v⟩ := q
    rw [hk] at h
    have h : (checkS p v : Int) = 0 := h
    have h0 : checkS p v = 0 := by omega
    refine ⟨p, v, rfl, h0, ?_⟩
    obtain ⟨h1, x, h2, _⟩ := check_ok h0
    obtain ⟨rfl, _, _⟩ := keyS_some hk
    have := (path_ne h1).2
    have := (ver_no h2).2.2.2.2.2.2
    simp only [List.length_append, List.length_cons]
    omega
theorem keyF_zero {a b : L} (ha : keyE a = 0) (hb : keyE b = 0) (h : keyF a b = 0) : a = b := by
  obtain ⟨p, v, hk, _, _⟩ := keyE_ok ha
  obtain ⟨q, u, hk2, _, _⟩ := keyE_ok hb
  obtain ⟨e1, e2⟩ := key_parts hk
  obtain ⟨e3, e4⟩ := key_parts hk2
  have t := (((ordB.comap (aheadC 64)).lex ((ordS.comap tlK).lex (ordB.comap tlK))).trans a b a (by show keyF a b ≤ 0; omega) (by have := ordK.anti a b; show keyF b a ≤ 0; omega))
  unfold keyF at h
  rw [e1, e2, e3, e4] at h
  split at h
  · rename_i h1; exact absurd h h1
  rename_i h1
  split at h
  · rename_i h2; exact absurd h h2
  have hp : p = q := cmpB_eq (Classical.not_not.1 h1)
  have hv : v = u := cmpB_eq h
  obtain ⟨r1, _, _⟩ := keyS_some hk
  obtain ⟨r2, _, _⟩ := keyS_some hk2
  rw [r1, r2, hp, hv]
abbrev InOrd (l : List L) : Prop := l.Pairwise (fun x y => keyF x y ≤ 0)
theorem ord_one {N M : List L} (hN : InOrd N) (hM : InOrd M) (hp : N.Perm M) (hk : ∀ x ∈ N, keyE x = 0) : N = M :=
  hp.eq_of_pairwise (le := fun x y => keyF x y ≤ 0) (fun a b ha hb h1 h2 => keyF_zero (hk a ha) (hk b (hp.symm.subset hb)) (by have := ordK.anti a b; omega)) hN hM
theorem ins_perm (N : List L) (k : L) (j : Nat) : (N.take j ++ k :: N.drop j).Perm (N ++ [k]) := by
  refine List.perm_middle.trans ?_
  rw [List.take_append_drop]
  exact (List.perm_append_comm (l₁ := [k]) (l₂ := N))
theorem ins_done {N : List L} {k : L} {j : Nat} (hs : InOrd N) (hd : ∀ y ∈ N.drop j, keyF k y ≤ 0) (h : ∀ x, N[j - 1]? = some x → 0 < j → keyF x k ≤ 0) (hj : j ≤ N.length) : InOrd (N.take j ++ k :: N.drop j) := by
  have h1 : InOrd (N.take j ++ N.drop j) := by rw [List.take_append_drop]; exact hs
  obtain ⟨h2, h3, h4⟩ := List.pairwise_append.1 h1
  refine List.pairwise_append.2 ⟨h2, List.pairwise_cons.2 ⟨hd, h3⟩, fun a ha b hb => ?_⟩
  rcases List.mem_cons.1 hb with rfl | hb
  · obtain ⟨i, hi, rfl⟩ := List.getElem_of_mem ha
    rw [List.length_take] at hi
    rw [List.getElem_take]
    have hx := h _ (List.getElem?_eq_getElem (by omega : j - 1 < N.length)) (by omega)
    by_cases he : i = j - 1
    · subst he; exact hx
    · exact (ordK.trans _ _ _ (List.pairwise_iff_getElem.1 hs i (j - 1) (by omega) (by omega) (by omega)) hx).1
  · exact h4 a ha b hb
theorem ins_step {N : List L} {k x : L} {j : Nat} (hx : N[j]? = some x) (hd : ∀ y ∈ N.drop (j + 1), keyF k y ≤ 0) (h : keyF k x ≤ 0) : ∀ y ∈ N.drop j, keyF k y ≤ 0 := by
  intro y hy
  have hj : j < N.length := (List.getElem?_eq_some_iff.1 hx).1
  rw [List.drop_eq_getElem_cons hj, (List.getElem?_eq_some_iff.1 hx).2] at hy
  rcases List.mem_cons.1 hy with rfl | hy
  · exact h
  · exact hd y hy
theorem ins_at {N : List L} {k x : L} {j : Nat} (hx : N[j]? = some x) : N.take (j + 1) ++ k :: N.drop (j + 1) = N.take j ++ x :: k :: N.drop (j + 1) ∧ N.take j ++ k :: N.drop j = N.take j ++ k :: x :: N.drop (j + 1) := by
  have hj : j < N.length := (List.getElem?_eq_some_iff.1 hx).1
  have e := (List.getElem?_eq_some_iff.1 hx).2
  constructor
  · rw [List.take_succ_eq_append_getElem hj, e, List.append_assoc]
    rfl
  · rw [List.drop_eq_getElem_cons hj, e]
end Go.Proofs.YtnimaenhijlcmaaGreatDoor.Mb
end
section
namespace Go.Proofs.YtnimaenhijlcmaaGreatDoor.K
open Go.RowKit Go.Proofs.YtnimaenhijlcmaaGreatDoor.Q Go.Proofs.YtnimaenhijlcmaaGreatDoor.Mb Go.Proofs.YtnimaenhijlcmaaGreatDoorW.PrintWords
set_option linter.unusedVariables false
set_option linter.unusedSimpArgs false
theorem keyF_first (a b : L) : keyF a b = firstI [cmpB (aheadC 64 a) (aheadC 64 b), compareS (tlK a) (tlK b), cmpB (tlK a) (tlK b)] := by
  unfold keyF firstI
  split
  · rfl
  · unfold firstI
    split
    · rfl
    · unfold firstI firstI
      split
      · rfl
      · rename_i h
        exact Classical.not_not.1 h
set_option maxRecDepth 100000 in
set_option maxHeartbeats 8000000 in
theorem closure_c {w : World} {mx : Int} (hM : w.cell? ⟨0, 0, none⟩ = some (.int .i64 mx)) (a b : L) (ha : Bytes a) (hb : Bytes b) (la : a.length ≤ 1000) (lb : b.length ≤ 1000) :
    Calls Tryz.prog 34 #[.string (strOfNums a), .string (strOfNums b)] w fun e w' => e = .returned (.int .i64 (keyF a b)) ∧ Bel w.heap.size w w' := by
  have hN := keyF_first a b
  obtain ⟨a1, a2, a3, a4⟩ := cut_sub (s := a)
  obtain ⟨b1, b2, b3, b4⟩ := cut_sub (s := b)
  have c1 := fun (w1 : World) (h1 : w1.cell? ⟨0, 0, none⟩ = some (.int .i64 mx)) => cutb_cD (strOfNums a) 64 (by rw [← bl_length, blS ha]; omega) w1 mx h1
  have c2 := fun (w1 : World) (h1 : w1.cell? ⟨0, 0, none⟩ = some (.int .i64 mx)) => cutb_cD (strOfNums b) 64 (by rw [← bl_length, blS hb]; omega) w1 mx h1
  rw [show ((64 : UInt8).toNat : Int) = 64 from rfl, blS ha] at c1
  rw [show ((64 : UInt8).toNat : Int) = 64 from rfl, blS hb] at c2
  have c1 : ∀ (w1 : World) (h1 : w1.cell? ⟨0, 0, none⟩ = some (.int .i64 mx)), Calls Tryz.prog 35 #[.string (strOfNums a), .string ⟨#[64]⟩] w1 fun e w' => e = .returned (.tuple #[.string (strOfNums (aheadC 64 a)), .string (strOfNums (tlK a)), .bool (cutC 64 a).isSome]) ∧ Bel w1.heap.size w1 w' := c1
  have c2 : ∀ (w1 : World) (h1 : w1.cell? ⟨0, 0, none⟩ = some (.int .i64 mx)), Calls Tryz.prog 35 #[.string (strOfNums b), .string ⟨#[64]⟩] w1 fun e w' => e = .returned (.tuple #[.string (strOfNums (aheadC 64 b)), .string (strOfNums (tlK b)), .bool (cutC 64 b).isSome]) ∧ Bel w1.heap.size w1 w' := c2
  have o1 := fun w1 => orderS_c (strOfNums (aheadC 64 a)) (strOfNums (aheadC 64 b)) w1
  have o2 := fun w1 => orderS_c (strOfNums (tlK a)) (strOfNums (tlK b)) w1
  have o3 := fun (w1 : World) (h1 : w1.cell? ⟨0, 0, none⟩ = some (.int .i64 mx)) => CompareD_c h1 (strOfNums (tlK a)) (strOfNums (tlK b))
  rw [blS (fun y hy => ha y (a1 y hy)), blS (fun y hy => hb y (b1 y hy))] at o1
  rw [blS (fun y hy => ha y (a2 y hy)), blS (fun y hy => hb y (b2 y hy))] at o2 o3
  generalize aheadC 64 a = p at c1 o1 hN
  generalize tlK a = v at c1 o2 o3 hN
  generalize aheadC 64 b = q at c2 o1 hN
  generalize tlK b = u at c2 o2 o3 hN
  generalize (cutC 64 a).isSome = t1 at c1
  generalize (cutC 64 b).isSome = t2 at c2
  generalize cmpB p q = x at o1 hN
  generalize cmpB v u = z at o2 hN
  generalize compareS v u = y at o3 hN
  refine enter (args := [.string (strOfNums a), .string (strOfNums b)]) Tryz.func34 rfl Tryz.ntmps34 rfl ?_
  have H : Hd w w [] [] := HpS.nil w
  repeat' (first | (with_reducible first | refine p_tn ?_ | refine wp_seq ?_ | refine w_reg ?_ | refine l_nil ?_) | ((with_reducible refine g_on ?_); (first | ((with_reducible refine g_mv ?_); refine l_p txs rfl rfl ?_) | ((with_reducible refine g_as ?_); refine l_p txs rfl rfl ?_))))
  (with_reducible refine is_l ?_); refine l_callv rfl rfl (by kernel_rfl) (c1 _ (H.old hM)) (fun w_ K => ?_)
  have H := H.callD K
  repeat' (first | (with_reducible first | refine p_tn ?_ | refine wp_seq ?_ | refine w_reg ?_ | refine l_nil ?_) | ((with_reducible refine g_on ?_); (first | ((with_reducible refine g_mv ?_); refine l_p txs rfl rfl ?_) | ((with_reducible refine g_as ?_); refine l_p txs rfl rfl ?_) | ((with_reducible refine g_ex ?_); refine l_p txs rfl rfl ?_))))
  (with_reducible refine is_l ?_); refine l_callv rfl rfl (by kernel_rfl) (c2 _ (H.old hM)) (fun w_ K => ?_)
  have H := H.callD K
  repeat' (first | (with_reducible first | refine p_tn ?_ | refine wp_seq ?_ | refine w_reg ?_ | refine l_nil ?_) | ((with_reducible refine g_on ?_); (first | ((with_reducible refine g_mv ?_); refine l_p txs rfl rfl ?_) | ((with_reducible refine g_as ?_); refine l_p txs rfl rfl ?_) | ((with_reducible refine g_ex ?_); refine l_p txs rfl rfl ?_))))
  (with_reducible refine is_l ?_); refine l_callp rfl rfl (by kernel_rfl) (o1 _) ?_
  repeat' ((with_reducible refine g_on ?_); ((with_reducible refine g_mv ?_); refine l_p txs rfl rfl ?_))
  (with_reducible refine is_l ?_); refine l_callv rfl rfl (by kernel_rfl) (o3 _ (H.old hM)) (fun w_ K => ?_)
  have H := H.callD K
  repeat' ((with_reducible refine g_on ?_); ((with_reducible refine g_mv ?_); refine l_p txs rfl rfl ?_))
  (with_reducible refine is_l ?_); refine l_callp rfl rfl (by kernel_rfl) (o2 _) ?_
  skip
  (with_reducible refine is_l ?_); refine h_bsn (cs := [.int .i64 x, .int .i64 y, .int .i64 z]) (pv := [(0, .int .i64 x), (1, .int .i64 y), (2, .int .i64 z)]) H info_int3 Tryz.underlying98 (by decide) (by decide) rfl (by kernel_rfl) (fun g_ w_ H => ?_)
  skip
  (with_reducible refine is_l ?_); refine l_callv rfl rfl (by kernel_rfl) (first_c (l := [x, y, z]) (H.cellRd 0 rfl) (by show (3 : Nat) ≤ _; decide)) (fun w_ K => ?_)
  have H := H.callD K
  repeat' (first | (with_reducible first | refine p_tn ?_ | refine wp_ret ?_ | refine l_nil ?_) | ((with_reducible refine g_on ?_); ((with_reducible refine g_as ?_); refine l_p txs rfl rfl ?_)))
  refine end1 rfl rfl ?_
  exact ⟨by rw [hN], H.BD⟩
end Go.Proofs.YtnimaenhijlcmaaGreatDoor.K
end
section
namespace Go.Proofs
open Go.Shelf
def Tryz.sortL_ren : Go.Shelf.Ren := ⟨fun | 6 => 33 | 15 => 62 | 14 => 61 | 28 => 104 | 29 => 105 | 20 => 96 | 21 => 97 | 22 => 98 | 23 => 99 | 24 => 100 | 25 => 101 | 26 => 102 | 27 => 103 | 46 => 131 | 47 => 132 | 48 => 133 | 49 => 134 | 50 => 135 | 57 => 152 | n => n, fun | 22 => 25 | 24 => 9 | 25 => 68 | 3 => 3 | 39 => 97 | 0 => 0 | 53 => 123 | 55 => 125 | 4 => 4 | 46 => 116 | 45 => 115 | 50 => 120 | 5 => 5 | 9 => 9 | 66 => 130 | 70 => 134 | 76 => 151 | 77 => 152 | n => n, fun | n => n⟩
theorem Tryz.sortL : Go.Proofs.SlLaysF.n6 Tryz.prog Tryz.sortL_ren := {
  mixed := by kernel_rfl
  f6 := ⟨Tryz.f33.name, by decide, Tryz.func33.trans (congrArg some (by kernel_rfl))⟩
  f14 := ⟨Tryz.f61.name, by decide, Tryz.func61.trans (congrArg some (by kernel_rfl))⟩
  f15 := Tryz.func62.trans (congrArg some (by kernel_rfl))
  f20 := ⟨Tryz.f96.name, by decide, Tryz.func96.trans (congrArg some (by kernel_rfl))⟩
  f21 := ⟨Tryz.f97.name, by decide, Tryz.func97.trans (congrArg some (by kernel_rfl))⟩
  f22 := ⟨Tryz.f98.name, by decide, Tryz.func98.trans (congrArg some (by kernel_rfl))⟩
  f23 := ⟨Tryz.f99.name, by decide, Tryz.func99.trans (congrArg some (by kernel_rfl))⟩
  f24 := ⟨Tryz.f100.name, by decide, Tryz.func100.trans (congrArg some (by kernel_rfl))⟩
  f25 := ⟨Tryz.f101.name, by decide, Tryz.func101.trans (congrArg some (by kernel_rfl))⟩
  f26 := ⟨Tryz.f102.name, by decide, Tryz.func102.trans (congrArg some (by kernel_rfl))⟩
  f27 := ⟨Tryz.f103.name, by decide, Tryz.func103.trans (congrArg some (by kernel_rfl))⟩
  f28 := Tryz.func104.trans (congrArg some (by kernel_rfl))
  f29 := Tryz.func105.trans (congrArg some (by kernel_rfl))
  f46 := ⟨Tryz.f131.name, by decide, Tryz.func131.trans (congrArg some (by kernel_rfl))⟩
  f47 := Tryz.func132.trans (congrArg some (by kernel_rfl))
  f48 := Tryz.func133.trans (congrArg some (by kernel_rfl))
  f49 := ⟨Tryz.f134.name, by decide, Tryz.func134.trans (congrArg some (by kernel_rfl))⟩
  f50 := ⟨Tryz.f135.name, by decide, Tryz.func135.trans (congrArg some (by kernel_rfl))⟩
  f57 := ⟨Tryz.f152.name, by decide, Tryz.func152.trans (congrArg some (by kernel_rfl))⟩
  t0 := Tryz.underlying0
  a0 := Tryz.isAgg0
  z0 := Tryz.sizeOf0
  v0 := Tryz.zeroValue0
  t3 := Tryz.underlying3
  a3 := Tryz.isAgg3
  z3 := Tryz.sizeOf3
  v3 := Tryz.zeroValue3
  t4 := Tryz.underlying4
  a4 := Tryz.isAgg4
  z4 := Tryz.sizeOf4
  v4 := Tryz.zeroValue4
  t5 := Tryz.underlying5
  a5 := Tryz.isAgg5
  z5 := Tryz.sizeOf5
  v5 := Tryz.zeroValue5
  t9 := Tryz.underlying9
  a9 := Tryz.isAgg9
  z9 := Tryz.sizeOf9
  v9 := Tryz.zeroValue9
  t22 := Tryz.underlying25
  a22 := Tryz.isAgg25
  z22 := Tryz.sizeOf25
  v22 := Tryz.zeroValue25
  a24 := Tryz.isAgg9
  z24 := Tryz.sizeOf9
  t25 := Tryz.underlying68
  a25 := Tryz.isAgg68
  z25 := Tryz.sizeOf68
  v25 := Tryz.zeroValue68
  t39 := Tryz.underlying97
  a39 := Tryz.isAgg97
  z39 := Tryz.sizeOf97
  v39 := Tryz.zeroValue97
  t45 := Tryz.underlying115
  a45 := Tryz.isAgg115
  z45 := Tryz.sizeOf115
  v45 := Tryz.zeroValue115
  t46 := Tryz.underlying116
  a46 := Tryz.isAgg116
  z46 := Tryz.sizeOf116
  v46 := Tryz.zeroValue116
  t50 := Tryz.underlying120
  a50 := Tryz.isAgg120
  z50 := Tryz.sizeOf120
  v50 := Tryz.zeroValue120
  t53 := Tryz.underlying123
  a53 := Tryz.isAgg123
  z53 := Tryz.sizeOf123
  v53 := Tryz.zeroValue123
  t55 := Tryz.underlying125
  a55 := Tryz.isAgg125
  z55 := Tryz.sizeOf125
  v55 := Tryz.zeroValue125
  t66 := Tryz.underlying130
  a66 := Tryz.isAgg130
  z66 := Tryz.sizeOf130
  v66 := Tryz.zeroValue130
  t70 := Tryz.underlying134
  a70 := Tryz.isAgg134
  z70 := Tryz.sizeOf134
  v70 := Tryz.zeroValue134
  t76 := Tryz.underlying151
  a76 := Tryz.isAgg151
  z76 := Tryz.sizeOf151
  v76 := Tryz.zeroValue151
  t77 := Tryz.underlying152
  a77 := Tryz.isAgg152
  z77 := Tryz.sizeOf152
  v77 := Tryz.zeroValue152 }
end Go.Proofs
end
section
namespace Go.Proofs.YtnimaenhijlcmaaGreatDoor.K
open Go.RowKit Go.Proofs.YtnimaenhijlcmaaGreatDoor.Q Go.Proofs.YtnimaenhijlcmaaGreatDoor.Mb Go.Proofs.YtnimaenhijlcmaaGreatDoorW.PrintWords
open Go.Sort Go.Shelf
set_option linter.unusedVariables false
set_option linter.unusedSimpArgs false
abbrev KeyT : Type := { x : L // Bytes x ∧ x.length ≤ 1000 }
instance : Inhabited KeyT := ⟨⟨[], fun y hy => (by cases hy), by decide⟩⟩
def encK (k : KeyT) : Value := .string (strOfNums k.1)
def cfK (a b : KeyT) : Int := keyF a.1 b.1
theorem swoK : SWO (ltOf cfK) where
  irrefl x := by
    unfold ltOf cfK
    rw [ordK.refl]
    rfl
  trans x y z h1 h2 := by
    unfold ltOf cfK at *
    simp only [decide_eq_true_eq] at *
    have := ordK.trans x.1 y.1 z.1 (by omega) (by omega)
    omega
  ntrans x y z h1 h2 := by
    unfold ltOf cfK at *
    simp only [decide_eq_false_iff_not] at *
    have e1 := ordK.anti x.1 y.1
    have e2 := ordK.anti y.1 z.1
    have e3 := ordK.anti x.1 z.1
    have := ordK.trans z.1 y.1 x.1 (by omega) (by omega)
    omega
theorem bel_grow {S w' : World} (K : Bel S.heap.size S w') : ∃ q os', w' = grow (S.drewN q) os' := by
  obtain ⟨⟨h1, h2, h3, h4, h5⟩, h6⟩ := K
  refine ⟨w'.drawn - S.drawn, w'.heap.extract S.heap.size w'.heap.size, ?_⟩
  have hh : w'.heap = S.heap ++ w'.heap.extract S.heap.size w'.heap.size := by
    apply Array.ext_getElem?
    intro k
    rw [Array.getElem?_append]
    split
    · rename_i hk
      exact h5 k hk
    · rename_i hk
      rw [Array.getElem?_extract]
      by_cases hk2 : k < w'.heap.size
      · rw [if_pos (by omega)]
        congr 1
        omega
      · rw [if_neg (by omega), Array.getElem?_eq_none (by omega)]
  unfold grow World.drewN
  cases w'
  simp only at *
  subst h1 h2 h3
  simp only [World.mk.injEq, true_and, and_true]
  exact ⟨hh, by omega⟩
theorem cell_lt {w : World} {g k : Nat} {v : Value} (h : w.cell? ⟨g, k, none⟩ = some v) : g < w.heap.size := by
  unfold World.cell? at h
  simp only at h
  split at h
  · rename_i h1
    exact (Array.getElem?_eq_some_iff.1 h1).1
  · cases h
theorem cmp_lays {w : World} {mx : Int} (hM : w.cell? ⟨0, 0, none⟩ = some (.int .i64 mx)) {g n : Nat} (hg : 0 ≠ g) : CmpLays1 Tryz.prog 34 #[] encK cfK g 0 n w := by
  intro m os dk hs x y
  have hM' : (sortWorld encK w g 0 m dk os).cell? ⟨0, 0, none⟩ = some (.int .i64 mx) := by
    unfold sortWorld
    rw [cell?_grow _ _ _ (by rw [size_putRow]; exact cell_lt hM), cell?_putRow_other _ _ _ _ _ _ (.inl hg)]
    exact hM
  exact (closure_c hM' x.1 y.1 x.2.1 y.2.1 x.2.2 y.2.2).mono fun e w' h => ⟨h.1, bel_grow h.2⟩
theorem heap_put {w : World} {g m : Nat} {d : Array KeyT} {os : Array Obj} {cur : Array Value} {e : TypeId} {fr : Nat × Nat} (hg : w.heap[g]? = some (.cells cur e fr)) : (sortWorld encK w g 0 m d os).heap[g]? = some (.cells (putCells encK 0 d cur) e fr) := by
  have hlt : g < w.heap.size := (Array.getElem?_eq_some_iff.1 hg).1
  unfold sortWorld
  rw [heap_grow_old _ _ (by rw [size_putRow]; exact hlt)]
  unfold putRow mapBlock
  simp only [heap_ahead, Array.getElem?_modify, if_true, hg, Option.map_some, onCells]
theorem heap_put_other {w : World} {g k m : Nat} {d : Array KeyT} {os : Array Obj} (hk : k < w.heap.size) (hne : g ≠ k) : (sortWorld encK w g 0 m d os).heap[k]? = w.heap[k]? := by
  unfold sortWorld
  rw [heap_grow_old _ _ (by rw [size_putRow]; exact hk)]
  unfold putRow mapBlock
  simp only [heap_ahead, Array.getElem?_modify, if_neg hne]
theorem grown_put {w : World} {g m : Nat} {d : Array KeyT} {os : Array Obj} : w.grownBy (sortWorld encK w g 0 m d os) (some g) := by
  refine ⟨rfl, rfl, rfl, ?_, fun k hk hne => heap_put_other hk (fun e => hne (by rw [e]))⟩
  unfold sortWorld
  rw [size_grow, size_putRow]
  exact Nat.le_add_right _ _
theorem put_take {d : Array KeyT} {cur : Array Value} (h : d.size ≤ cur.size) : (putCells encK 0 d cur).size = cur.size ∧ (putCells encK 0 d cur).toList.take d.size = strC (d.toList.map (·.1)) := by
  have hs : (putCells encK 0 d cur).size = cur.size := by simp [putCells]
  refine ⟨hs, List.ext_getElem? fun i => ?_⟩
  rw [List.getElem?_take]
  split
  · rename_i hi
    have h1 : i < cur.size := by omega
    have e1 : (putCells encK 0 d cur).toList[i]? = some (encK d[i]!) := by
      rw [Array.getElem?_toList]
      unfold putCells
      rw [Array.getElem?_mapIdx, Array.getElem?_eq_getElem h1]
      simp only [Option.map_some, Option.some.injEq]
      rw [if_pos (by omega), Nat.sub_zero]
    rw [e1, getElem!_pos d i hi]
    simp [strC, encK, hi]
  · rename_i hi
    rw [List.getElem?_eq_none]
    simp [strC]
    omega
theorem strC_all (x : List L) : (strC x).all (·.oneCell') = true := by
  unfold strC
  rw [List.all_map, List.all_eq_true]
  intro y _
  rfl
theorem keysD : ∀ {N : List L}, (∀ x ∈ N, Bytes x ∧ x.length ≤ 1000) → ∃ D : List KeyT, D.map (·.1) = N
  | [], _ => ⟨[], rfl⟩
  | x :: r, h => by
    obtain ⟨D, hD⟩ := keysD (N := r) fun y hy => h y (List.mem_cons_of_mem _ hy)
    exact ⟨⟨x, h x (List.mem_cons_self ..)⟩ :: D, by rw [List.map_cons, hD]⟩
theorem sortFunc_c {w0 w : World} {l : List Ent} {r : List RowD} (H : Hp w0 w l r) {mx : Int} (hM : w0.cell? ⟨0, 0, none⟩ = some (.int .i64 mx)) (k : Nat) {ad : Addr} {c : Nat} {N : List L} (hk : r[k]? = some (rowT (.slice (some ad) N.length c) N)) (hN : ∀ x ∈ N, Bytes x ∧ x.length ≤ 1000) (hl : N.length ≤ 2000000) :
    Calls Tryz.prog 33 #[.slice (some ad) N.length c, .func (.func 34) #[] #[]] w fun e w' => e = .returned (.tuple #[]) ∧ ∃ N', N'.Perm N ∧ N'.Pairwise (fun x y => keyF x y ≤ 0) ∧ Hp w0 w' l (r.set k (rowT (.slice (some ad) N'.length c) N')) := by
  have hO : w.ownsRow w0.heap.size 9 1 (.slice (some ad) N.length c) N.length (strC N) := H.row k _ hk
  obtain ⟨hx, hO⟩ := hO
  rcases hO with ⟨h1, _⟩ | ⟨g, cap, cur, h1, h2, h3, h4, h5, h6, h7⟩
  · exact absurd h1 (by simp)
  simp only [Value.slice.injEq, Option.some.injEq] at h1
  obtain ⟨e1, _, e3⟩ := h1
  subst e1
  subst e3
  obtain ⟨D, hD⟩ := keysD hN
  have hDl : D.length = N.length := by rw [← hD, List.length_map]
  have hMw := H.old hM
  have hne : 0 ≠ g := fun e => by
    have := cell_lt hM
    rw [e] at this
    omega
  rw [Nat.mul_one] at h6 h7 hx
  have hH : Holds encK w g 0 D.toArray := by
    intro j hj
    have hj : j < N.length := by rw [← hDl]; simpa using hj
    constructor
    · have e1 : cur.toList[j]? = some (.string (strOfNums N[j])) := by
        have := congrArg (fun z => z[j]?) h7
        simp only [List.getElem?_take, hj, if_true, strC, List.getElem?_map, List.getElem?_eq_getElem hj, Option.map_some] at this
        exact this
      unfold World.cell?
      simp only [h3, Nat.zero_add]
      rw [← Array.getElem?_toList, e1]
      simp only [Option.isSome_none, Bool.false_eq_true, if_false, Option.some.injEq]
      have hDj : (D[j]'(by omega)).1 = N[j] := by simp only [← hD, List.getElem_map]
      rw [getElem!_pos D.toArray j (by simpa using (by omega : j < D.length))]
      show _ = Value.string (strOfNums (D[j]'(by omega)).1)
      rw [hDj]
    · unfold World.frozen?
      simp [h3]
  have hs := Any.slices_SortFunc Tryz.sortL encK (fun _ => rfl) cfK swoK 34 #[] g 0 c D.toArray w (enters_of Tryz.func34 (by kernel_rfl) rfl) (cmp_lays hMw hne) hH (Array.getElem?_eq_some_iff.1 h3).1 (by simp; omega)
  have hs : Calls Tryz.prog 33 #[.slice (some ⟨g, 0, none⟩) D.toArray.size c, .func (.func 34) #[] #[]] w _ := hs
  rw [show D.toArray.size = N.length from by simpa using hDl] at hs
  refine hs.mono fun e w' ⟨he, d', n, os, hp, hso, hw⟩ => ⟨he, d'.toList.map (·.1), ?_, ?_, ?_⟩
  all_goals have hsz : d'.size = N.length := by rw [hp.1]; simpa using hDl
  · have hp2 := hp.2.2
    rw [show N.length = D.toArray.size from by simpa using hDl.symm] at hp2
    rw [show d'.extract 0 D.toArray.size = d' from by rw [show D.toArray.size = d'.size from by rw [hsz]; simpa using hDl]; simp, show D.toArray.extract 0 D.toArray.size = D.toArray from by simp] at hp2
    have := hp2.map (·.1)
    rw [List.toList_toArray, hD] at this
    exact this
  · rw [List.pairwise_iff_getElem]
    intro i j hi hj hij
    simp only [List.length_map, Array.length_toList] at hi hj
    have h8 := hso i j (Nat.zero_le _) hij (by omega)
    rw [getElem!_pos d' i hi, getElem!_pos d' j hj] at h8
    unfold ltOf cfK at h8
    simp only [decide_eq_false_iff_not] at h8
    have h9 := ordK.anti d'[i].1 d'[j].1
    simp only [List.getElem_map, Array.getElem_toList]
    omega
  · subst hw
    obtain ⟨p1, p2⟩ := put_take (d := d') (cur := cur) (by omega)
    have hlm : (d'.toList.map (·.1)).length = N.length := by rw [List.length_map, Array.length_toList, hsz]
    have hown : (sortWorld encK w g 0 n d' os).ownsRow w0.heap.size 9 1 (.slice (some ⟨g, 0, none⟩) (d'.toList.map (·.1)).length c) (d'.toList.map (·.1)).length (strC (d'.toList.map (·.1))) := by
      rw [hlm]
      refine ⟨?_, .inr ⟨g, c, _, rfl, h2, heap_put h3, h4, h5, ?_, ?_⟩⟩
      · simp only [strC, List.length_map, Array.length_toList, hsz, Nat.mul_one]
      · rw [p1, h6, Nat.mul_one]
      · rw [Nat.mul_one, ← hsz]
        exact p2
    exact H.put k hk grown_put hown (.inl rfl)
end Go.Proofs.YtnimaenhijlcmaaGreatDoor.K
end
section
namespace Go.Proofs.YtnimaenhijlcmaaGreatDoor.K
open Go.RowKit Go.Proofs.YtnimaenhijlcmaaGreatDoor.Q Go.Proofs.YtnimaenhijlcmaaGreatDoor.Mb Go.Proofs.YtnimaenhijlcmaaGreatDoorW.PrintWords
set_option linter.unusedVariables false
set_option linter.unusedSimpArgs false
section
variable {P : Program} {n : Nat} {f : Fr} {w w0 : World} {ops : Array Oper} {Q : Exit → Act → World → Prop} {rest : List Oper} {tt : TypeId} {ps : String} {af : Array Edge} {gd : Option (Nat × Bool)} {s : Bool} {l : List Ent} {r : List RowD}
theorem h_stE {t : TypeId} {x y : Operand} (ho : (P.info? t).map (·.size) = some 1) (H : HpS s w0 w l r) (k : Nat) {g i c m : Nat} {e : TypeId} {cs : List Value} {v : Value} (h1 : v.oneCell' = true) (hv : v.cells = #[v]) (hw : want n ops f ⟨none, .store t x y, tt, ps, af, gd⟩ = true) {a : Addr} (hx : X n f x = .pointer (some a)) (ha : a = ⟨g, i, none⟩) (hy : X n f y = v) (hk : r[k]? = some ⟨.slice (some ⟨g, 0, none⟩) m c, e, 1, m, cs⟩) (hi : i < m)
    (h : ∀ w', HpS s w0 w' l (r.set k ⟨.slice (some ⟨g, 0, none⟩) m c, e, 1, m, cs.set i v⟩) → WL P ops Q rest (act n f) w') : WL P ops Q (⟨none, .store t x y, tt, ps, af, gd⟩ :: rest) (act n f) w := by
  subst ha
  have hO : w.ownsRow w0.heap.size e 1 (.slice (some ⟨g, 0, none⟩) m c) m cs := H.row k _ hk
  obtain ⟨s1, s2⟩ := hO.stored i v
  obtain ⟨h2, h3 | ⟨g', cap, cur, h3, h4, h5, h6, h7, h8, h9⟩⟩ := hO
  · exact absurd h3.1 (by simp)
  simp only [Value.slice.injEq, Option.some.injEq, Addr.mk.injEq, and_true, true_and] at h3
  obtain ⟨e1, e2⟩ := h3
  subst e1 e2
  have hr := run_store_run (P := P) (o := i) t v [v] h5 (by rw [hv]) ho (by simp; omega) (by intro q1 h2; simp at h2; subst h2; exact h1)
  have e : w.setCells g i [v] = w.setCell ⟨g, i, none⟩ v := by simp [World.setCells]
  rw [e] at hr
  refine h_skip hw ?_ (h _ (H.put k hk s2 s1 (.inl rfl) (fun _ => Nat.le_refl _)))
  unfold execOp
  simp [hx, hy, hr]
end
theorem parK_e (s : L) : (parK s).2.2 = keyE s := by
  unfold parK keyE
  cases keyS s with
  | none => rfl
  | some q =>
    obtain ⟨p, v⟩ := q
    simp only
    split
    · rename_i h; rw [h]; rfl
    · rfl
theorem sort_none (A : Option Addr) (c : Nat) (fv : Value) (w : World) : Calls Tryz.prog 33 #[.slice A 0 c, fv] w fun e w' => e = .returned (.tuple #[]) ∧ w' = w :=
  AnyF.slices_SortFunc_none (P := Tryz.prog) (ρ := Tryz.sortL_ren) { Tryz.sortL with } A c fv w
def SorR (w : World) (ks : List L) (e : Ending) (w' : World) : Prop :=
  (sortE ks ≠ 0 → e = .returned (.tuple #[.slice none 0 0, .int .i64 (sortE ks)]) ∧ Below w.heap.size w w') ∧
  (sortE ks = 0 → ∃ A c N, e = .returned (.tuple #[.slice A N.length c, .int .i64 0]) ∧ N.Perm ks ∧ InOrd N ∧ Hp w w' [] [rowT (.slice A N.length c) N])
theorem sor_no {w w' : World} {ks : List L} {x : Int} (h : sortE ks = x) (hx : x ≠ 0) (K : Below w.heap.size w w') : SorR w ks (.returned (.tuple #[.slice none 0 0, .int .i64 x])) w' :=
  ⟨fun _ => ⟨by rw [h], K⟩, fun e => absurd (h ▸ e) hx⟩
theorem sor_yes {w w' : World} {ks N : List L} {A : Option Addr} {c : Nat} (h : sortE ks = 0) (hp : N.Perm ks) (ho : InOrd N) (K : Hp w w' [] [rowT (.slice A N.length c) N]) : SorR w ks (.returned (.tuple #[.slice A N.length c, .int .i64 0])) w' :=
  ⟨fun e => absurd h e, fun _ => ⟨A, c, N, rfl, hp, ho, K⟩⟩
set_option maxRecDepth 100000 in
set_option maxHeartbeats 8000000 in
theorem Sort_c {w : World} (hL : Lay w) {A : Option Addr} {c : Nat} {ks : List L} (hR : Rd w A (strC ks)) (hB : ∀ x ∈ ks, Bytes x ∧ x.length ≤ 100000000) (hl : ks.length ≤ 2000000) :
    Calls Tryz.prog 11 #[.slice A ks.length c] w (SorR w ks) := by
  obtain ⟨mx, hM⟩ := hL.mxs
  refine enter (args := [.slice A ks.length c]) Tryz.func11 rfl Tryz.ntmps11 rfl ?_
  have H := Hp.nil w
  repeat' (first | (with_reducible first | refine p_tn ?_ | refine wp_seq ?_ | refine w_reg ?_ | refine l_nil ?_) | ((with_reducible refine g_on ?_); (first | ((with_reducible refine g_mv ?_); refine l_p txs rfl rfl ?_) | ((with_reducible refine g_as ?_); refine l_p txs rfl rfl ?_) | ((with_reducible refine g_cl ?_); refine l_p txs rfl rfl ?_))))
  (with_reducible refine is_l ?_); refine l_t txs rfl rfl (fun h1 => ?_) (fun h1 => ?_)
  · have hs : sortE ks = 2 := by unfold sortE; rw [if_pos (by omega)]
    repeat' (first | (with_reducible first | refine p_tn ?_ | refine p_tr ?_ | refine wp_seq ?_ | refine w_reg ?_) | (with_reducible (refine is_if ?_; (refine w_ift rfl ?_))) | (with_reducible first | refine wp_ret ?_ | refine l_nil ?_) | ((with_reducible refine g_on ?_); ((with_reducible refine g_as ?_); refine l_p txs rfl rfl ?_)))
    refine end2 rfl rfl rfl ?_
    exact sor_no hs (by decide) H.B
  have hse : sortE ks = firstE ks := by unfold sortE; rw [if_neg (by omega)]
  repeat' (first | (with_reducible first | refine p_tn ?_ | refine wp_seq ?_ | refine wp_block ?_ | refine w_reg ?_) | (with_reducible (refine is_if ?_; (refine w_iff rfl ?_))) | (with_reducible first | refine wp_skip ?_ | refine l_nil ?_) | ((with_reducible refine g_on ?_); (first | ((with_reducible refine g_mv ?_); refine l_p txs rfl rfl ?_) | ((with_reducible refine g_cl ?_); refine l_p txs rfl rfl ?_))))
  refine w_loop (σ := Nat) (S := fun s => [(0, .slice A ks.length c), (13, .slice A ks.length c), (14, .int .i64 (ks.length : Int)), (15, .int .i64 (s : Int))]) (J := fun s w' => Hp w w' [] [] ∧ s ≤ ks.length ∧ firstE ks = firstE (ks.drop s)) (μ := fun s => ks.length - s) 0 ⟨rfl, rfl, rfl, rfl, trivial⟩ ⟨H, Nat.zero_le _, rfl⟩ ?_
  clear H
  rintro i f w_ ⟨H, hi, hf⟩
  repeat' (with_reducible first | refine wp_seq ?_ | refine w_reg ?_)
  (with_reducible refine is_l ?_); refine l_t txs rfl rfl (fun hlt => ?_) (fun hge => ?_)
  · obtain ⟨x, hx⟩ : ∃ x, ks[i]? = some x := ⟨_, List.getElem?_eq_getElem (by omega)⟩
    obtain ⟨ad, rfl⟩ := rdT_some hR hx
    have hd : ks.drop i = x :: ks.drop (i + 1) := by
      rw [List.drop_eq_getElem_cons (by omega)]
      congr 1
      exact (List.getElem?_eq_some_iff.1 hx).2
    rw [hd, firstE] at hf
    obtain ⟨bx, lx⟩ := hB x (List.mem_of_getElem? hx)
    repeat' (first | (with_reducible first | refine p_tn ?_ | refine wp_seq ?_ | refine wp_block ?_ | refine w_reg ?_) | (with_reducible (refine is_if ?_; (refine w_ift rfl ?_))) | (with_reducible first | refine wp_skip ?_ | refine l_nil ?_) | ((with_reducible refine g_on ?_); ((with_reducible refine g_ia ?_); refine l_ia txs rfl rfl (by first | omega | assumption | decide) (by first | omega | assumption | decide) ?_)))
    (with_reducible refine is_l ?_); refine l_ld txs rfl rfl (by rw [Int.toNat_natCast]; exact H.old (rdT_cell hR hx)) ?_
    repeat' (first | (with_reducible first | refine p_tn ?_ | refine wp_seq ?_ | refine w_reg ?_ | refine l_nil ?_) | ((with_reducible refine g_on ?_); (first | ((with_reducible refine g_mv ?_); refine l_p txs rfl rfl ?_) | ((with_reducible refine g_as ?_); refine l_p txs rfl rfl ?_))))
    have hpk := ParseKey_c (hL.below H.B) (strOfNums x) (by rw [sizeS' bx]; exact lx)
    have he := parK_e (bl (strOfNums x))
    rw [blS bx] at hpk he
    generalize parK x = q at hpk he
    obtain ⟨q1, q2, q3⟩ := q
    have he : q3 = keyE x := he
    subst he
    (with_reducible refine is_l ?_); refine l_callv rfl rfl (by kernel_rfl) hpk (fun w_ K => ?_)
    have H := H.call K
    repeat' (first | (with_reducible first | refine p_tn ?_ | refine wp_seq ?_ | refine w_reg ?_ | refine l_nil ?_) | ((with_reducible refine g_on ?_); (first | ((with_reducible refine g_mv ?_); refine l_p txs rfl rfl ?_) | ((with_reducible refine g_as ?_); refine l_p txs rfl rfl ?_) | ((with_reducible refine g_ex ?_); refine l_p txs rfl rfl ?_))))
    (with_reducible refine is_l ?_); refine l_t txs rfl rfl (fun h0 => ?_) (fun h0 => ?_)
    · rw [if_pos h0, ← hse] at hf
      repeat' (first | (with_reducible first | refine p_tn ?_ | refine p_tr ?_ | refine p_br ?_ | refine wp_seq ?_ | refine w_reg ?_) | (with_reducible (refine is_if ?_; (refine w_ift rfl ?_))) | (with_reducible first | refine wp_ret ?_ | refine l_nil ?_) | ((with_reducible refine g_on ?_); (first | ((with_reducible refine g_mv ?_); refine l_p txs rfl rfl ?_) | ((with_reducible refine g_as ?_); refine l_p txs rfl rfl ?_))))
      refine end2 rfl rfl rfl ?_
      exact sor_no hf h0 H.B
    · rw [if_neg h0] at hf
      repeat' (first | (with_reducible first | refine p_tn ?_ | refine p_bn ?_ | refine w_reg ?_) | (with_reducible (refine is_if ?_; (refine w_iff rfl ?_))) | (with_reducible first | refine wp_skip ?_ | refine l_nil ?_) | ((with_reducible refine g_on ?_); (first | ((with_reducible refine g_mv ?_); refine l_p txs rfl rfl ?_) | ((with_reducible refine g_bi ?_); (refine l_a txs rfl rfl (by first | exact in_i64 (by omega) (by omega) | exact in_u8 (by omega) (by omega) | exact in_u64 (by omega) (by omega) | exact in_i32 (by omega) (by omega)) ?_)))))
      exact ⟨i + 1, _, rfl, ⟨rfl, rfl, rfl, rfl, trivial⟩, ⟨H, by omega, hf⟩, by omega⟩
  · rw [List.drop_eq_nil_of_le (by omega), ← hse] at hf
    have hs : sortE ks = 0 := hf
    have hk0 : firstE ks = 0 := hse ▸ hs
    have hN : ∀ x ∈ ks, Bytes x ∧ x.length ≤ 1000 := fun x hx => ⟨(hB x hx).1, by have := (keyE_ok (firstE_zero.1 hk0 x hx)); obtain ⟨p, v, _, _, h⟩ := this; omega⟩
    have H := H.nilRow 9 1
    repeat' (first | (with_reducible first | refine p_tn ?_ | refine p_tx ?_ | refine x_hit ?_ | refine wp_seq ?_ | refine w_reg ?_) | (with_reducible (refine is_if ?_; (refine w_iff rfl ?_))) | (with_reducible first | refine wp_exit ?_ | refine l_nil ?_) | ((with_reducible refine g_on ?_); ((with_reducible refine g_mv ?_); refine l_p txs rfl rfl ?_)))
    (with_reducible refine is_l ?_); refine h_app H 0 rfl info_str3 Tryz.underlying25 rfl rfl rfl rfl (hR.below H.B) (by simp [strC]) (strC_all _) (by show (0 + ks.length) * 16 ≤ _; omega) (fun v w_ hv H => ?_)
    obtain ⟨A', c', hv⟩ := hv
    have hv : v = .slice A' ks.length c' := by rw [hv]; show Value.slice A' (0 + ks.length) c' = _; rw [Nat.zero_add]
    subst hv
    have H : Hp w w_ [] [rowT (.slice A' ks.length c') ks] := by
      have h : Hp w w_ [] [⟨.slice A' ks.length c', 9, 1, 0 + ks.length, [] ++ strC ks⟩] := H
      rw [Nat.zero_add] at h
      exact h
    repeat' (first | (with_reducible first | refine p_tn ?_ | refine wp_seq ?_ | refine w_reg ?_ | refine l_nil ?_) | ((with_reducible refine g_on ?_); (first | ((with_reducible refine g_mv ?_); refine l_p txs rfl rfl ?_) | ((with_reducible refine g_as ?_); refine l_p txs rfl rfl ?_))))
    cases A' with
    | none =>
      obtain ⟨A1, c1, e1, _, _, hz⟩ := H.rd 0 rfl
      simp only [Value.slice.injEq] at e1
      obtain ⟨e2, _, e3⟩ := e1
      obtain ⟨h5, h6⟩ := hz e2.symm
      have hks : ks = [] := List.eq_nil_of_length_eq_zero h6
      subst hks
      (with_reducible refine is_l ?_); refine l_callp rfl rfl (by kernel_rfl) (sort_none none c' _ _) ?_
      repeat' (first | (with_reducible first | refine p_tn ?_ | refine wp_seq ?_ | refine w_reg ?_ | refine wp_ret ?_ | refine l_nil ?_) | ((with_reducible refine g_on ?_); (first | ((with_reducible refine g_mv ?_); refine l_p txs rfl rfl ?_) | ((with_reducible refine g_as ?_); refine l_p txs rfl rfl ?_))))
      refine end2 rfl rfl rfl ?_
      exact sor_yes hs (List.Perm.refl _) List.Pairwise.nil H
    | some ad =>
      (with_reducible refine is_l ?_); refine l_call rfl rfl (by kernel_rfl) (sortFunc_c H hM 0 rfl hN hl) (fun e w_ hR => ?_)
      obtain ⟨rfl, N, hp, ho, H⟩ := hR
      refine ⟨_, rfl, ?_⟩
      have hlN : N.length = ks.length := hp.length_eq
      rw [← hlN]
      repeat' (first | (with_reducible first | refine p_tn ?_ | refine wp_seq ?_ | refine w_reg ?_ | refine wp_ret ?_ | refine l_nil ?_) | ((with_reducible refine g_on ?_); (first | ((with_reducible refine g_mv ?_); refine l_p txs rfl rfl ?_) | ((with_reducible refine g_as ?_); refine l_p txs rfl rfl ?_))))
      refine end2 rfl rfl rfl ?_
      exact sor_yes hs hp ho H
end Go.Proofs.YtnimaenhijlcmaaGreatDoor.K
end
section
namespace Go.Proofs.YtnimaenhijlcmaaGreatDoor.K
open Go.RowKit Go.Proofs.YtnimaenhijlcmaaGreatDoor.Q Go.Proofs.YtnimaenhijlcmaaGreatDoor.Mb Go.Proofs.YtnimaenhijlcmaaGreatDoorW.PrintWords
set_option linter.unusedVariables false
set_option linter.unusedSimpArgs false
theorem drop_of {α : Type} {l : List α} {i : Nat} {x : α} (h : l[i]? = some x) : l.drop i = x :: l.drop (i + 1) := by
  rw [List.drop_eq_getElem_cons (List.getElem?_eq_some_iff.1 h).1, (List.getElem?_eq_some_iff.1 h).2]
theorem take_of {α : Type} {l : List α} {i : Nat} {x : α} (h : l[i]? = some x) : l.take (i + 1) = l.take i ++ [x] := by
  rw [List.take_succ_eq_append_getElem (List.getElem?_eq_some_iff.1 h).1, (List.getElem?_eq_some_iff.1 h).2]
end Go.Proofs.YtnimaenhijlcmaaGreatDoor.K
end
section
namespace Go.Proofs.YtnimaenhijlcmaaGreatDoor.K.Ref
open Go.RowKit Go.Proofs.YtnimaenhijlcmaaGreatDoor.Q Go.Proofs.YtnimaenhijlcmaaGreatDoor.K Go.Proofs.YtnimaenhijlcmaaGreatDoor.Mb Go.Proofs.YtnimaenhijlcmaaGreatDoorW.PrintWords
set_option linter.unusedVariables false
set_option linter.unusedSimpArgs false
theorem split_key {s p v : L} (h : keyS s = some (p, v)) : splitC 64 s = [p, v] := by
  obtain ⟨rfl, n1, n2⟩ := keyS_some h
  rw [splitC_cut _ n1, splitC_none n2]
set_option maxRecDepth 100000 in
set_option maxHeartbeats 8000000 in
theorem Before_c {a b : L} (ba : Bytes a) (bb : Bytes b) (ea : keyE a = 0) (eb : keyE b = 0) (w : World) :
    Calls Tryz.prog 32 #[.string (strOfNums a), .string (strOfNums b)] w fun e w' => e = .returned (.bool (decide (keyF a b < 0))) ∧ Below w.heap.size w w' := by
  obtain ⟨p, v, ka, ca, la⟩ := keyE_ok ea
  obtain ⟨q, u, kb, cb, lb⟩ := keyE_ok eb
  obtain ⟨p1, v1⟩ := key_parts ka
  obtain ⟨q1, u1⟩ := key_parts kb
  obtain ⟨s1, s2, s3, s4⟩ := cut_sub (s := a)
  obtain ⟨t1, t2, t3, t4⟩ := cut_sub (s := b)
  rw [p1] at s1 s3
  rw [v1] at s2 s4
  rw [q1] at t1 t3
  rw [u1] at t2 t4
  have bp : Bytes p := fun y hy => ba y (s1 y hy)
  have bv : Bytes v := fun y hy => ba y (s2 y hy)
  have bq : Bytes q := fun y hy => bb y (t1 y hy)
  have bu : Bytes u := fun y hy => bb y (t2 y hy)
  have hkey : keyF a b = if cmpB p q ≠ 0 then cmpB p q else if compareS v u ≠ 0 then compareS v u else cmpB v u := by unfold keyF; rw [p1, q1, v1, u1]
  have hp1 := fun (w1 : World) => pieces_c (strOfNums a) 64 w1 (by rw [sizeS' ba]; omega)
  have hp2 := fun (w1 : World) => pieces_c (strOfNums b) 64 w1 (by rw [sizeS' bb]; omega)
  rw [blS ba, split_key ka] at hp1
  rw [blS bb, split_key kb] at hp2
  have hb1 := fun (w1 : World) => bytes_c (strOfNums p) (strOfNums q) w1 (by rw [sizeS' bp]; omega) (by rw [sizeS' bq]; omega)
  have hb2 := fun (w1 : World) => bytes_c (strOfNums v) (strOfNums u) w1 (by rw [sizeS' bv]; omega) (by rw [sizeS' bu]; omega)
  have hcm := fun (w1 : World) => Compare_r (strOfNums v) (strOfNums u) w1
  rw [blS bp, blS bq] at hb1
  rw [blS bv, blS bu] at hb2 hcm
  generalize cmpB p q = x at hb1 hkey
  generalize compareS v u = y at hcm hkey
  generalize cmpB v u = z at hb2 hkey
  refine enter (args := [.string (strOfNums a), .string (strOfNums b)]) Tryz.func32 rfl Tryz.ntmps32 rfl ?_
  have H := Hp.nil w
  repeat' (first | (with_reducible first | refine p_tn ?_ | refine wp_seq ?_ | refine w_reg ?_ | refine l_nil ?_) | ((with_reducible refine g_on ?_); (first | ((with_reducible refine g_mv ?_); refine l_p txs rfl rfl ?_) | ((with_reducible refine g_as ?_); refine l_p txs rfl rfl ?_))))
  (with_reducible refine is_l ?_); refine l_call rfl rfl (by kernel_rfl) (hp1 _) (fun e w_ hR => ?_)
  obtain ⟨A1, c1, rfl, K1⟩ := hR
  refine ⟨_, rfl, ?_⟩
  have H := H.join K1
  obtain ⟨a1, rfl⟩ := row_some K1 0 rfl (by simp)
  repeat' (first | (with_reducible first | refine p_tn ?_ | refine wp_seq ?_ | refine w_reg ?_ | refine l_nil ?_) | ((with_reducible refine g_on ?_); (first | ((with_reducible refine g_mv ?_); refine l_p txs rfl rfl ?_) | ((with_reducible refine g_as ?_); refine l_p txs rfl rfl ?_))))
  (with_reducible refine is_l ?_); refine l_call rfl rfl (by kernel_rfl) (hp2 _) (fun e w_ hR => ?_)
  obtain ⟨A2, c2, rfl, K2⟩ := hR
  refine ⟨_, rfl, ?_⟩
  have H := H.join K2
  obtain ⟨a2, rfl⟩ := row_some K2 0 rfl (by simp)
  have H : Hp w w_ [] [rowT (.slice (some a2) [q, u].length c2) [q, u], rowT (.slice (some a1) [p, v].length c1) [p, v]] := H
  have hl1 : [p, v].length = 2 := rfl
  have hl2 : [q, u].length = 2 := rfl
  repeat' (first | (with_reducible first | refine p_tn ?_ | refine wp_seq ?_ | refine l_nil ?_) | ((with_reducible refine g_on ?_); ((with_reducible refine g_as ?_); refine l_p txs rfl rfl ?_)))
  have HS := H.pick [] [0, 1] (by decide) (by decide) rfl rfl
  refine d_start (fun w_ => HpS _ w w_ _ _) #[false, false, false, false, false, false, false, false] (by kernel_rfl) rfl rfl HS.drew ?_
  have H := H.drew
  have HS := HS.drew
  first | (refine d_pure (i := 0) #[true, false, false, false, false, false, false, false] rfl (by kernel_rfl) (fun _ _ _ h => h) rfl (fun w_ => evP_run (o := ⟨_, _, _, _, _, _⟩) txs rfl) ?_)
  first | (refine d_pure (i := 1) #[true, true, false, false, false, false, false, false] rfl (by kernel_rfl) (fun _ _ _ h => h) rfl (fun w_ => evIA_run (o := ⟨_, _, _, _, _, _⟩) txs rfl (by omega) (by omega)) ?_)
  first | (refine d_take (i := 2) #[true, true, true, false, false, false, false, false] rfl (by kernel_rfl) (fun _ _ _ h => h) rfl (fun w_ K => evL_run (o := ⟨_, _, _, _, _, _⟩) txs rfl (rdT_cell (rowT_at K 1 rfl) (i := 0) (y := p) rfl)) HS ?_)
  first | (refine d_pure (i := 3) #[true, true, true, true, false, false, false, false] rfl (by kernel_rfl) (fun _ _ _ h => h) rfl (fun w_ => evP_run (o := ⟨_, _, _, _, _, _⟩) txs rfl) ?_)
  first | (refine d_pure (i := 4) #[true, true, true, true, true, false, false, false] rfl (by kernel_rfl) (fun _ _ _ h => h) rfl (fun w_ => evIA_run (o := ⟨_, _, _, _, _, _⟩) txs rfl (by omega) (by omega)) ?_)
  first | (refine d_take (i := 5) #[true, true, true, true, true, true, false, false] rfl (by kernel_rfl) (fun _ _ _ h => h) rfl (fun w_ K => evL_run (o := ⟨_, _, _, _, _, _⟩) txs rfl (rdT_cell (rowT_at K 0 rfl) (i := 0) (y := q) rfl)) HS ?_)
  refine d_one (i := 6) #[true, true, true, true, true, true, true, false] rfl (by kernel_rfl) rfl ?_
  refine l_callv rfl rfl (by kernel_rfl) (hb1 _) (fun w_ K => ?_); have H := H.call K
  refine l_nil ?_
  have HS := H.pick [] [0, 1] (by decide) (by decide) rfl rfl
  refine ⟨rfl, HS, ?_⟩
  first | (refine d_pure (i := 7) #[true, true, true, true, true, true, true, true] rfl (by kernel_rfl) (fun _ _ _ h => h) rfl (fun w_ => evP_run (o := ⟨_, _, _, _, _, _⟩) txs rfl) ?_)
  refine d_done rfl ?_
  repeat' (first | (with_reducible first | refine p_tn ?_ | refine wp_seq ?_ | refine w_reg ?_) | ((with_reducible refine g_on ?_); ((with_reducible refine g_mv ?_); refine l_p txs rfl rfl ?_)))
  (with_reducible refine is_l ?_); refine l_t txs rfl rfl (fun h1 => ?_) (fun h1 => ?_)
  · rw [if_pos h1] at hkey
    repeat' (first | (with_reducible first | refine p_tn ?_ | refine wp_seq ?_ | refine w_reg ?_) | (with_reducible (refine is_if ?_; (refine w_ift rfl ?_))) | (with_reducible refine l_nil ?_) | ((with_reducible refine g_on ?_); ((with_reducible refine g_mv ?_); refine l_p txs rfl rfl ?_)))
    (with_reducible refine is_l ?_); refine l_t txs rfl rfl (fun h3 => ?_) (fun h3 => ?_)
    · repeat' (first | (with_reducible first | refine p_tn ?_ | refine p_tr ?_ | refine wp_ret ?_ | refine l_nil ?_) | ((with_reducible refine g_on ?_); ((with_reducible refine g_as ?_); refine l_p txs rfl rfl ?_)))
      refine end1 rfl rfl ?_
      exact ⟨by rw [hkey, decide_eq_true h3], H.B⟩
    · repeat' (first | (with_reducible first | refine p_tn ?_ | refine p_tr ?_ | refine wp_ret ?_ | refine l_nil ?_) | ((with_reducible refine g_on ?_); ((with_reducible refine g_as ?_); refine l_p txs rfl rfl ?_)))
      refine end1 rfl rfl ?_
      exact ⟨by rw [hkey, decide_eq_false h3], H.B⟩
  rw [if_neg h1] at hkey
  repeat' (first | (with_reducible first | refine p_tn ?_ | refine wp_seq ?_) | (with_reducible (refine is_if ?_; (refine w_iff rfl ?_))) | (with_reducible first | refine wp_skip ?_ | refine l_nil ?_))
  have HS := H.pick [] [0, 1] (by decide) (by decide) rfl rfl
  refine d_start (fun w_ => HpS _ w w_ _ _) #[false, false, false, false, false, false, false, false] (by kernel_rfl) rfl rfl HS.drew ?_
  have H := H.drew
  have HS := HS.drew
  first | (refine d_pure (i := 0) #[true, false, false, false, false, false, false, false] rfl (by kernel_rfl) (fun _ _ _ h => h) rfl (fun w_ => evP_run (o := ⟨_, _, _, _, _, _⟩) txs rfl) ?_)
  first | (refine d_pure (i := 1) #[true, true, false, false, false, false, false, false] rfl (by kernel_rfl) (fun _ _ _ h => h) rfl (fun w_ => evIA_run (o := ⟨_, _, _, _, _, _⟩) txs rfl (by omega) (by omega)) ?_)
  first | (refine d_take (i := 2) #[true, true, true, false, false, false, false, false] rfl (by kernel_rfl) (fun _ _ _ h => h) rfl (fun w_ K => evL_run (o := ⟨_, _, _, _, _, _⟩) txs rfl (rdT_cell (rowT_at K 1 rfl) (i := 1) (y := v) rfl)) HS ?_)
  first | (refine d_pure (i := 3) #[true, true, true, true, false, false, false, false] rfl (by kernel_rfl) (fun _ _ _ h => h) rfl (fun w_ => evP_run (o := ⟨_, _, _, _, _, _⟩) txs rfl) ?_)
  first | (refine d_pure (i := 4) #[true, true, true, true, true, false, false, false] rfl (by kernel_rfl) (fun _ _ _ h => h) rfl (fun w_ => evIA_run (o := ⟨_, _, _, _, _, _⟩) txs rfl (by omega) (by omega)) ?_)
  first | (refine d_take (i := 5) #[true, true, true, true, true, true, false, false] rfl (by kernel_rfl) (fun _ _ _ h => h) rfl (fun w_ K => evL_run (o := ⟨_, _, _, _, _, _⟩) txs rfl (rdT_cell (rowT_at K 0 rfl) (i := 1) (y := u) rfl)) HS ?_)
  refine d_one (i := 6) #[true, true, true, true, true, true, true, false] rfl (by kernel_rfl) rfl ?_
  refine l_callv rfl rfl (by kernel_rfl) (hcm _) (fun w_ K => ?_); have H := H.call K
  refine l_nil ?_
  have HS := H.pick [] [0, 1] (by decide) (by decide) rfl rfl
  refine ⟨rfl, HS, ?_⟩
  first | (refine d_pure (i := 7) #[true, true, true, true, true, true, true, true] rfl (by kernel_rfl) (fun _ _ _ h => h) rfl (fun w_ => evP_run (o := ⟨_, _, _, _, _, _⟩) txs rfl) ?_)
  refine d_done rfl ?_
  repeat' (first | (with_reducible first | refine p_tn ?_ | refine wp_seq ?_ | refine w_reg ?_) | ((with_reducible refine g_on ?_); ((with_reducible refine g_mv ?_); refine l_p txs rfl rfl ?_)))
  (with_reducible refine is_l ?_); refine l_t txs rfl rfl (fun h2 => ?_) (fun h2 => ?_)
  · rw [if_pos h2] at hkey
    repeat' (first | (with_reducible first | refine p_tn ?_ | refine wp_seq ?_ | refine w_reg ?_) | (with_reducible (refine is_if ?_; (refine w_ift rfl ?_))) | (with_reducible refine l_nil ?_) | ((with_reducible refine g_on ?_); ((with_reducible refine g_mv ?_); refine l_p txs rfl rfl ?_)))
    (with_reducible refine is_l ?_); refine l_t txs rfl rfl (fun h3 => ?_) (fun h3 => ?_)
    · repeat' (first | (with_reducible first | refine p_tn ?_ | refine p_tr ?_ | refine wp_ret ?_ | refine l_nil ?_) | ((with_reducible refine g_on ?_); ((with_reducible refine g_as ?_); refine l_p txs rfl rfl ?_)))
      refine end1 rfl rfl ?_
      exact ⟨by rw [hkey, decide_eq_true h3], H.B⟩
    · repeat' (first | (with_reducible first | refine p_tn ?_ | refine p_tr ?_ | refine wp_ret ?_ | refine l_nil ?_) | ((with_reducible refine g_on ?_); ((with_reducible refine g_as ?_); refine l_p txs rfl rfl ?_)))
      refine end1 rfl rfl ?_
      exact ⟨by rw [hkey, decide_eq_false h3], H.B⟩
  rw [if_neg h2] at hkey
  repeat' (first | (with_reducible first | refine p_tn ?_ | refine wp_seq ?_) | (with_reducible (refine is_if ?_; (refine w_iff rfl ?_))) | (with_reducible first | refine wp_skip ?_ | refine l_nil ?_))
  by_cases h3 : z < 0
  · skip
    have HS := H.pick [] [0, 1] (by decide) (by decide) rfl rfl
    refine d_start (fun w_ => HpS _ w w_ _ _) #[false, false, false, false, false, false, false, false, false] (by kernel_rfl) rfl rfl HS.drew ?_
    have H := H.drew
    have HS := HS.drew
    first | (refine d_pure (i := 0) #[true, false, false, false, false, false, false, false, false] rfl (by kernel_rfl) (fun _ _ _ h => h) rfl (fun w_ => evP_run (o := ⟨_, _, _, _, _, _⟩) txs rfl) ?_)
    first | (refine d_pure (i := 1) #[true, true, false, false, false, false, false, false, false] rfl (by kernel_rfl) (fun _ _ _ h => h) rfl (fun w_ => evIA_run (o := ⟨_, _, _, _, _, _⟩) txs rfl (by omega) (by omega)) ?_)
    first | (refine d_take (i := 2) #[true, true, true, false, false, false, false, false, false] rfl (by kernel_rfl) (fun _ _ _ h => h) rfl (fun w_ K => evL_run (o := ⟨_, _, _, _, _, _⟩) txs rfl (rdT_cell (rowT_at K 1 rfl) (i := 1) (y := v) rfl)) HS ?_)
    first | (refine d_pure (i := 3) #[true, true, true, true, false, false, false, false, false] rfl (by kernel_rfl) (fun _ _ _ h => h) rfl (fun w_ => evP_run (o := ⟨_, _, _, _, _, _⟩) txs rfl) ?_)
    first | (refine d_pure (i := 4) #[true, true, true, true, true, false, false, false, false] rfl (by kernel_rfl) (fun _ _ _ h => h) rfl (fun w_ => evIA_run (o := ⟨_, _, _, _, _, _⟩) txs rfl (by omega) (by omega)) ?_)
    first | (refine d_take (i := 5) #[true, true, true, true, true, true, false, false, false] rfl (by kernel_rfl) (fun _ _ _ h => h) rfl (fun w_ K => evL_run (o := ⟨_, _, _, _, _, _⟩) txs rfl (rdT_cell (rowT_at K 0 rfl) (i := 1) (y := u) rfl)) HS ?_)
    refine d_one (i := 6) #[true, true, true, true, true, true, true, false, false] rfl (by kernel_rfl) rfl ?_
    refine l_callv rfl rfl (by kernel_rfl) (hb2 _) (fun w_ K => ?_); have H := H.call K
    refine l_nil ?_
    have HS := H.pick [] [0, 1] (by decide) (by decide) rfl rfl
    refine ⟨rfl, HS, ?_⟩
    first | (refine d_pure (i := 7) #[true, true, true, true, true, true, true, true, false] rfl (by kernel_rfl) (fun _ _ _ h => h) rfl (fun w_ => evT_yes (o := ⟨_, _, _, _, _, _⟩) txs rfl h3) ?_)
    first | (refine d_pure (i := 8) #[true, true, true, true, true, true, true, true, true] rfl (by kernel_rfl) (fun _ _ _ h => h) rfl (fun w_ => evP_run (o := ⟨_, _, _, _, _, _⟩) txs rfl) ?_)
    refine d_done rfl ?_
    repeat' (with_reducible first | refine p_tn ?_ | refine wp_ret ?_)
    refine end1 rfl rfl ?_
    exact ⟨by rw [hkey, decide_eq_true h3], H.B⟩
  · skip
    have HS := H.pick [] [0, 1] (by decide) (by decide) rfl rfl
    refine d_start (fun w_ => HpS _ w w_ _ _) #[false, false, false, false, false, false, false, false, false] (by kernel_rfl) rfl rfl HS.drew ?_
    have H := H.drew
    have HS := HS.drew
    first | (refine d_pure (i := 0) #[true, false, false, false, false, false, false, false, false] rfl (by kernel_rfl) (fun _ _ _ h => h) rfl (fun w_ => evP_run (o := ⟨_, _, _, _, _, _⟩) txs rfl) ?_)
    first | (refine d_pure (i := 1) #[true, true, false, false, false, false, false, false, false] rfl (by kernel_rfl) (fun _ _ _ h => h) rfl (fun w_ => evIA_run (o := ⟨_, _, _, _, _, _⟩) txs rfl (by omega) (by omega)) ?_)
    first | (refine d_take (i := 2) #[true, true, true, false, false, false, false, false, false] rfl (by kernel_rfl) (fun _ _ _ h => h) rfl (fun w_ K => evL_run (o := ⟨_, _, _, _, _, _⟩) txs rfl (rdT_cell (rowT_at K 1 rfl) (i := 1) (y := v) rfl)) HS ?_)
    first | (refine d_pure (i := 3) #[true, true, true, true, false, false, false, false, false] rfl (by kernel_rfl) (fun _ _ _ h => h) rfl (fun w_ => evP_run (o := ⟨_, _, _, _, _, _⟩) txs rfl) ?_)
    first | (refine d_pure (i := 4) #[true, true, true, true, true, false, false, false, false] rfl (by kernel_rfl) (fun _ _ _ h => h) rfl (fun w_ => evIA_run (o := ⟨_, _, _, _, _, _⟩) txs rfl (by omega) (by omega)) ?_)
    first | (refine d_take (i := 5) #[true, true, true, true, true, true, false, false, false] rfl (by kernel_rfl) (fun _ _ _ h => h) rfl (fun w_ K => evL_run (o := ⟨_, _, _, _, _, _⟩) txs rfl (rdT_cell (rowT_at K 0 rfl) (i := 1) (y := u) rfl)) HS ?_)
    refine d_one (i := 6) #[true, true, true, true, true, true, true, false, false] rfl (by kernel_rfl) rfl ?_
    refine l_callv rfl rfl (by kernel_rfl) (hb2 _) (fun w_ K => ?_); have H := H.call K
    refine l_nil ?_
    have HS := H.pick [] [0, 1] (by decide) (by decide) rfl rfl
    refine ⟨rfl, HS, ?_⟩
    first | (refine d_pure (i := 7) #[true, true, true, true, true, true, true, true, false] rfl (by kernel_rfl) (fun _ _ _ h => h) rfl (fun w_ => evT_no (o := ⟨_, _, _, _, _, _⟩) txs rfl h3) ?_)
    first | (refine d_pure (i := 8) #[true, true, true, true, true, true, true, true, true] rfl (by kernel_rfl) (fun _ _ _ h => h) rfl (fun w_ => evP_run (o := ⟨_, _, _, _, _, _⟩) txs rfl) ?_)
    refine d_done rfl ?_
    repeat' (with_reducible first | refine p_tn ?_ | refine wp_ret ?_)
    refine end1 rfl rfl ?_
    exact ⟨by rw [hkey, decide_eq_false h3], H.B⟩
set_option maxHeartbeats 4000000 in
theorem same_c {w : World} {A A2 : Option Addr} {c c2 : Nat} {N : List L} (h : Rd w A (strC N)) (h2 : Rd w A2 (strC N)) (hl : N.length ≤ 4000000) :
    Calls Tryz.prog 12 #[.slice A N.length c, .slice A2 N.length c2] w fun e w' => e = .returned (.bool true) ∧ Below w.heap.size w w' := by
  refine enter (args := [.slice A N.length c, .slice A2 N.length c2]) Tryz.func12 rfl Tryz.ntmps12 rfl ?_
  have H := Hp.nil w
  repeat' (first | (with_reducible first | refine p_tn ?_ | refine wp_seq ?_ | refine w_reg ?_ | refine l_nil ?_) | ((with_reducible refine g_on ?_); (first | ((with_reducible refine g_mv ?_); refine l_p txs rfl rfl ?_) | ((with_reducible refine g_as ?_); refine l_p txs rfl rfl ?_) | ((with_reducible refine g_cl ?_); refine l_p txs rfl rfl ?_))))
  (with_reducible refine is_l ?_); refine l_t txs rfl rfl (fun h => absurd rfl h) (fun _ => ?_)
  repeat' (first | (with_reducible first | refine p_tn ?_ | refine wp_seq ?_ | refine wp_block ?_ | refine w_reg ?_) | (with_reducible (refine is_if ?_; (refine w_iff rfl ?_))) | (with_reducible first | refine wp_skip ?_ | refine l_nil ?_) | ((with_reducible refine g_on ?_); ((with_reducible refine g_as ?_); refine l_p txs rfl rfl ?_)))
  refine w_loop (σ := Nat) (S := fun s => [(0, .slice A N.length c), (1, .slice A2 N.length c2), (5, .int .i64 (s : Int))]) (J := fun s w' => Hp w w' [] [] ∧ s ≤ N.length) (μ := fun s => N.length - s) 0 ⟨rfl, rfl, rfl, trivial⟩ ⟨H, Nat.zero_le _⟩ ?_
  clear H
  rintro i f w_ ⟨H, hi⟩
  repeat' (first | (with_reducible first | refine wp_seq ?_ | refine w_reg ?_) | ((with_reducible refine g_on ?_); (first | ((with_reducible refine g_mv ?_); refine l_p txs rfl rfl ?_) | ((with_reducible refine g_cl ?_); refine l_p txs rfl rfl ?_))))
  (with_reducible refine is_l ?_); refine l_t txs rfl rfl (fun hlt => ?_) (fun hge => ?_)
  · obtain ⟨x, hx⟩ : ∃ x, N[i]? = some x := ⟨_, List.getElem?_eq_getElem (by omega)⟩
    obtain ⟨ad, rfl⟩ := rdT_some h hx
    obtain ⟨ad2, rfl⟩ := rdT_some h2 hx
    repeat' (first | (with_reducible first | refine p_tn ?_ | refine wp_seq ?_ | refine wp_block ?_) | (with_reducible (refine is_if ?_; (refine w_ift rfl ?_))) | (with_reducible first | refine wp_skip ?_ | refine l_nil ?_))
    have HS := H.pick [] [] (by decide) (by decide) rfl rfl
    refine d_start (fun w_ => HpS _ w w_ _ _) #[false, false, false, false, false, false, false, false, false] (by kernel_rfl) rfl rfl HS.drew ?_
    have H := H.drew
    have HS := HS.drew
    first | (refine d_pure (i := 0) #[true, false, false, false, false, false, false, false, false] rfl (by kernel_rfl) (fun _ _ _ h => h) rfl (fun w_ => evP_run (o := ⟨_, _, _, _, _, _⟩) txs rfl) ?_)
    first | (refine d_pure (i := 1) #[true, true, false, false, false, false, false, false, false] rfl (by kernel_rfl) (fun _ _ _ h => h) rfl (fun w_ => evP_run (o := ⟨_, _, _, _, _, _⟩) txs rfl) ?_)
    first | (refine d_pure (i := 2) #[true, true, true, false, false, false, false, false, false] rfl (by kernel_rfl) (fun _ _ _ h => h) rfl (fun w_ => evIA_run (o := ⟨_, _, _, _, _, _⟩) txs rfl (by omega) (by omega)) ?_)
    first | (refine d_take (i := 3) #[true, true, true, true, false, false, false, false, false] rfl (by kernel_rfl) (fun _ _ _ h => h) rfl (fun w_ K => evL_run (o := ⟨_, _, _, _, _, _⟩) txs rfl (by rw [Int.toNat_natCast]; exact K.old (rdT_cell h hx))) HS ?_)
    first | (refine d_pure (i := 4) #[true, true, true, true, true, false, false, false, false] rfl (by kernel_rfl) (fun _ _ _ h => h) rfl (fun w_ => evP_run (o := ⟨_, _, _, _, _, _⟩) txs rfl) ?_)
    first | (refine d_pure (i := 5) #[true, true, true, true, true, true, false, false, false] rfl (by kernel_rfl) (fun _ _ _ h => h) rfl (fun w_ => evP_run (o := ⟨_, _, _, _, _, _⟩) txs rfl) ?_)
    first | (refine d_pure (i := 6) #[true, true, true, true, true, true, true, false, false] rfl (by kernel_rfl) (fun _ _ _ h => h) rfl (fun w_ => evIA_run (o := ⟨_, _, _, _, _, _⟩) txs rfl (by omega) (by omega)) ?_)
    first | (refine d_take (i := 7) #[true, true, true, true, true, true, true, true, false] rfl (by kernel_rfl) (fun _ _ _ h => h) rfl (fun w_ K => evL_run (o := ⟨_, _, _, _, _, _⟩) txs rfl (by rw [Int.toNat_natCast]; exact K.old (rdT_cell h2 hx))) HS ?_)
    first | (refine d_pure (i := 8) #[true, true, true, true, true, true, true, true, true] rfl (by kernel_rfl) (fun _ _ _ h => h) rfl (fun w_ => evT_no (o := ⟨_, _, _, _, _, _⟩) txs rfl (fun h => h rfl)) ?_)
    refine d_done rfl ?_
    repeat' (first | (with_reducible first | refine p_tn ?_ | refine p_bn ?_ | refine w_reg ?_) | (with_reducible (refine is_if ?_; (refine w_iff rfl ?_))) | (with_reducible first | refine wp_skip ?_ | refine l_nil ?_) | ((with_reducible refine g_on ?_); (first | ((with_reducible refine g_mv ?_); refine l_p txs rfl rfl ?_) | ((with_reducible refine g_as ?_); refine l_p txs rfl rfl ?_) | ((with_reducible refine g_bi ?_); (refine l_a txs rfl rfl (by first | exact in_i64 (by omega) (by omega) | exact in_u8 (by omega) (by omega) | exact in_u64 (by omega) (by omega) | exact in_i32 (by omega) (by omega)) ?_)))))
    exact ⟨i + 1, _, rfl, ⟨rfl, rfl, rfl, trivial⟩, ⟨H, by omega⟩, by omega⟩
  · repeat' (first | (with_reducible first | refine p_tn ?_ | refine p_tx ?_ | refine x_hit ?_ | refine wp_seq ?_ | refine w_reg ?_) | (with_reducible (refine is_if ?_; (refine w_iff rfl ?_))) | (with_reducible first | refine wp_exit ?_ | refine wp_ret ?_ | refine l_nil ?_) | ((with_reducible refine g_on ?_); ((with_reducible refine g_as ?_); refine l_p txs rfl rfl ?_)))
    refine end1 rfl rfl ?_
    exact ⟨rfl, H.B⟩
end Go.Proofs.YtnimaenhijlcmaaGreatDoor.K.Ref
end
section
namespace Go.Proofs.YtnimaenhijlcmaaGreatDoor.K.Ref
open Go.RowKit Go.Proofs.YtnimaenhijlcmaaGreatDoor.Q Go.Proofs.YtnimaenhijlcmaaGreatDoor.K Go.Proofs.YtnimaenhijlcmaaGreatDoor.Mb Go.Proofs.YtnimaenhijlcmaaGreatDoorW.PrintWords
set_option linter.unusedVariables false
set_option linter.unusedSimpArgs false
theorem swap_set {α : Type} : ∀ (T D : List α) (y x : α) (m : Nat), T.length = m → ((T ++ y :: x :: D).set (m + 1) y).set m x = T ++ x :: y :: D
  | [], D, y, x, m, h => by subst h; rfl
  | t :: T, D, y, x, m, h => by
    subst h
    simp only [List.cons_append, List.length_cons, List.set_cons_succ]
    rw [swap_set T D y x T.length rfl]
theorem row_at {s : Bool} {w0 w : World} {l : List Ent} {r : List RowD} (H : HpS s w0 w l r) (k : Nat) {A : Option Addr} {n c sz : Nat} {e : TypeId} {cs : List Value} (hk : r[k]? = some ⟨.slice A n c, e, sz, n, cs⟩) : Rd w A cs := by
  obtain ⟨A', c', e, _, hrd, _⟩ := H.rd k hk
  simp only [Value.slice.injEq] at e
  rw [e.1]
  exact hrd
theorem row_addr {s : Bool} {w0 w : World} {l : List Ent} {r : List RowD} (H : HpS s w0 w l r) (k : Nat) {ad : Addr} {n c sz : Nat} {e : TypeId} {cs : List Value} (hk : r[k]? = some ⟨.slice (some ad) n c, e, sz, n, cs⟩) : ∃ g, ad = ⟨g, 0, none⟩ := by
  obtain ⟨_, h | ⟨g, cap, cur, h, _⟩⟩ := H.row k _ hk
  · exact absurd h.1 (by simp)
  · simp only [Value.slice.injEq, Option.some.injEq] at h
    exact ⟨g, h.1⟩
abbrev insM (N : List L) (x : L) (j : Nat) : List L := N.take j ++ x :: N.drop j
theorem insM_len {N : List L} {x : L} {j : Nat} (hj : j ≤ N.length) : (insM N x j).length = N.length + 1 := by
  simp only [insM, List.length_append, List.length_take, List.length_cons, List.length_drop]
  omega
theorem insM_at {N : List L} {x y : L} {m : Nat} (hy : N[m]? = some y) : insM N x (m + 1) = N.take m ++ y :: x :: N.drop (m + 1) ∧ insM N x m = N.take m ++ x :: y :: N.drop (m + 1) ∧ (insM N x (m + 1))[m + 1]? = some x ∧ (insM N x (m + 1))[m]? = some y := by
  obtain ⟨e1, e2⟩ := ins_at (k := x) hy
  have hm : m < N.length := (List.getElem?_eq_some_iff.1 hy).1
  have hl : (N.take m).length = m := by rw [List.length_take]; omega
  refine ⟨e1, e2, ?_, ?_⟩
  · show (N.take (m + 1) ++ x :: N.drop (m + 1))[m + 1]? = _
    rw [e1, List.getElem?_append_right (by omega), hl, show m + 1 - m = 1 by omega]
    rfl
  · show (N.take (m + 1) ++ x :: N.drop (m + 1))[m]? = _
    rw [e1, List.getElem?_append_right (by omega), hl, Nat.sub_self]
    rfl
theorem insM_swap {N : List L} {x y : L} {m : Nat} (hy : N[m]? = some y) : ((strC (insM N x (m + 1))).set (m + 1) (.string (strOfNums y))).set m (.string (strOfNums x)) = strC (insM N x m) := by
  obtain ⟨e1, e2, _⟩ := insM_at (x := x) hy
  have hm : m < N.length := (List.getElem?_eq_some_iff.1 hy).1
  rw [e1, e2]
  have h := swap_set ((N.take m).map fun z => Value.string (strOfNums z)) ((N.drop (m + 1)).map fun z => Value.string (strOfNums z)) (.string (strOfNums y)) (.string (strOfNums x)) m (by rw [List.length_map, List.length_take]; omega)
  simp only [strC, List.map_append, List.map_cons]
  exact h
theorem at_row (g k : Nat) : (⟨g, 0, none⟩ : Addr).add (k * 1) = ⟨g, k, none⟩ := by
  rw [add_lit, Nat.mul_one, Nat.zero_add]
abbrev rowN (g n c : Nat) (l : List L) : RowD := ⟨.slice (some ⟨g, 0, none⟩) n c, 9, 1, n, strC l⟩
set_option maxRecDepth 100000 in
set_option maxHeartbeats 16000000 in
theorem Sort_r {w : World} (hL : TakL w) {A : Option Addr} {c : Nat} {ks : List L} (hR : Rd w A (strC ks)) (hB : ∀ x ∈ ks, Bytes x ∧ x.length ≤ 100000000) (hl : ks.length ≤ 2000000) :
    Calls Tryz.prog 10 #[.slice A ks.length c] w (SorR w ks) := by
  refine enter (args := [.slice A ks.length c]) Tryz.func10 rfl Tryz.ntmps10 rfl ?_
  have H := Hp.nil w
  repeat' (first | (with_reducible first | refine p_tn ?_ | refine wp_seq ?_ | refine w_reg ?_ | refine l_nil ?_) | ((with_reducible refine g_on ?_); (first | ((with_reducible refine g_mv ?_); refine l_p txs rfl rfl ?_) | ((with_reducible refine g_as ?_); refine l_p txs rfl rfl ?_) | ((with_reducible refine g_cl ?_); refine l_p txs rfl rfl ?_))))
  (with_reducible refine is_l ?_); refine l_t txs rfl rfl (fun h1 => ?_) (fun h1 => ?_)
  · have hs : sortE ks = 2 := by unfold sortE; rw [if_pos (by omega)]
    repeat' (first | (with_reducible first | refine p_tn ?_ | refine p_tr ?_ | refine wp_seq ?_ | refine w_reg ?_) | (with_reducible (refine is_if ?_; (refine w_ift rfl ?_))) | (with_reducible first | refine wp_ret ?_ | refine l_nil ?_) | ((with_reducible refine g_on ?_); (first | ((with_reducible refine g_mv ?_); refine l_p txs rfl rfl ?_) | ((with_reducible refine g_as ?_); refine l_p txs rfl rfl ?_))))
    refine end2 rfl rfl rfl ?_
    exact sor_no hs (by decide) H.B
  have hse : sortE ks = firstE ks := by unfold sortE; rw [if_neg (by omega)]
  repeat' (first | (with_reducible first | refine p_tn ?_ | refine wp_seq ?_ | refine wp_block ?_ | refine w_reg ?_) | (with_reducible (refine is_if ?_; (refine w_iff rfl ?_))) | (with_reducible first | refine wp_skip ?_ | refine l_nil ?_) | ((with_reducible refine g_on ?_); ((with_reducible refine g_as ?_); refine l_p txs rfl rfl ?_)))
  refine w_loop (σ := Nat) (S := fun s => [(0, .slice A ks.length c), (4, .slice none 0 0), (5, .int .i64 (s : Int))]) (J := fun s w' => Hp w w' [] [] ∧ s ≤ ks.length ∧ firstE ks = firstE (ks.drop s)) (μ := fun s => ks.length - s) 0 ⟨rfl, rfl, rfl, trivial⟩ ⟨H, Nat.zero_le _, rfl⟩ ?_
  clear H
  rintro i f w_ ⟨H, hi, hf⟩
  repeat' (first | (with_reducible first | refine wp_seq ?_ | refine w_reg ?_) | ((with_reducible refine g_on ?_); (first | ((with_reducible refine g_mv ?_); refine l_p txs rfl rfl ?_) | ((with_reducible refine g_cl ?_); refine l_p txs rfl rfl ?_))))
  (with_reducible refine is_l ?_); refine l_t txs rfl rfl (fun hlt => ?_) (fun hge => ?_)
  · obtain ⟨x, hx⟩ : ∃ x, ks[i]? = some x := ⟨_, List.getElem?_eq_getElem (by omega)⟩
    obtain ⟨ad, rfl⟩ := rdT_some hR hx
    rw [drop_of hx, firstE] at hf
    obtain ⟨bx, lx⟩ := hB x (List.mem_of_getElem? hx)
    repeat' (first | (with_reducible first | refine p_tn ?_ | refine wp_seq ?_ | refine wp_block ?_ | refine w_reg ?_) | (with_reducible (refine is_if ?_; (refine w_ift rfl ?_))) | (with_reducible first | refine wp_skip ?_ | refine l_nil ?_) | ((with_reducible refine g_on ?_); (first | ((with_reducible refine g_mv ?_); refine l_p txs rfl rfl ?_) | ((with_reducible refine g_ia ?_); refine l_ia txs rfl rfl (by first | omega | assumption | decide) (by first | omega | assumption | decide) ?_))))
    (with_reducible refine is_l ?_); refine l_ld txs rfl rfl (by rw [Int.toNat_natCast]; exact H.old (rdT_cell hR hx)) ?_
    skip
    have hpk := ParseKey_r (hL.below H.B) (strOfNums x) (by rw [sizeS' bx]; exact lx)
    have he := parK_e (bl (strOfNums x))
    rw [blS bx] at hpk he
    generalize parK x = q at hpk he
    obtain ⟨q1, q2, q3⟩ := q
    have he : q3 = keyE x := he
    subst he
    (with_reducible refine is_l ?_); refine l_callv rfl rfl (by kernel_rfl) hpk (fun w_ K => ?_)
    have H := H.call K
    repeat' (first | (with_reducible first | refine p_tn ?_ | refine wp_seq ?_ | refine w_reg ?_ | refine l_nil ?_) | ((with_reducible refine g_on ?_); (first | ((with_reducible refine g_mv ?_); refine l_p txs rfl rfl ?_) | ((with_reducible refine g_as ?_); refine l_p txs rfl rfl ?_) | ((with_reducible refine g_ex ?_); refine l_p txs rfl rfl ?_))))
    (with_reducible refine is_l ?_); refine l_t txs rfl rfl (fun h0 => ?_) (fun h0 => ?_)
    · rw [if_pos h0, ← hse] at hf
      repeat' (first | (with_reducible first | refine p_tn ?_ | refine p_tr ?_ | refine p_br ?_ | refine wp_seq ?_ | refine w_reg ?_) | (with_reducible (refine is_if ?_; (refine w_ift rfl ?_))) | (with_reducible first | refine wp_ret ?_ | refine l_nil ?_) | ((with_reducible refine g_on ?_); (first | ((with_reducible refine g_mv ?_); refine l_p txs rfl rfl ?_) | ((with_reducible refine g_as ?_); refine l_p txs rfl rfl ?_))))
      refine end2 rfl rfl rfl ?_
      exact sor_no hf h0 H.B
    · rw [if_neg h0] at hf
      repeat' (first | (with_reducible first | refine p_tn ?_ | refine p_bn ?_ | refine w_reg ?_) | (with_reducible (refine is_if ?_; (refine w_iff rfl ?_))) | (with_reducible first | refine wp_skip ?_ | refine l_nil ?_) | ((with_reducible refine g_on ?_); (first | ((with_reducible refine g_mv ?_); refine l_p txs rfl rfl ?_) | ((with_reducible refine g_as ?_); refine l_p txs rfl rfl ?_) | ((with_reducible refine g_bi ?_); (refine l_a txs rfl rfl (by first | exact in_i64 (by omega) (by omega) | exact in_u8 (by omega) (by omega) | exact in_u64 (by omega) (by omega) | exact in_i32 (by omega) (by omega)) ?_)))))
      exact ⟨i + 1, _, rfl, ⟨rfl, rfl, rfl, trivial⟩, ⟨H, by omega, hf⟩, by omega⟩
  rw [List.drop_eq_nil_of_le (by omega), ← hse] at hf
  have hs : sortE ks = 0 := hf
  have hk0 : ∀ x ∈ ks, keyE x = 0 := firstE_zero.1 (hse ▸ hs)
  have H := H.nilRow 9 1
  repeat' (first | (with_reducible first | refine p_tn ?_ | refine p_tx ?_ | refine x_hit ?_ | refine wp_seq ?_ | refine wp_block ?_ | refine w_reg ?_) | (with_reducible (refine is_if ?_; (refine w_iff rfl ?_))) | (with_reducible first | refine wp_exit ?_ | refine l_nil ?_) | ((with_reducible refine g_on ?_); ((with_reducible refine g_as ?_); refine l_p txs rfl rfl ?_)))
  refine w_loop (σ := Nat × List L × Option Addr × Nat) (S := fun s => [(0, .slice A ks.length c), (9, .slice s.2.2.1 s.2.1.length s.2.2.2), (10, .int .i64 (s.1 : Int))]) (J := fun s w' => Hp w w' [] [rowT (.slice s.2.2.1 s.2.1.length s.2.2.2) s.2.1] ∧ s.1 ≤ ks.length ∧ s.2.1.Perm (ks.take s.1) ∧ InOrd s.2.1) (μ := fun s => ks.length - s.1) (0, [], none, 0) ⟨rfl, rfl, rfl, trivial⟩ ⟨H, Nat.zero_le _, List.Perm.refl _, List.Pairwise.nil⟩ ?_
  rintro ⟨i, N, A1, c1⟩ f w_ ⟨H, hi, hp, ho⟩
  simp only at H hi hp ho ⊢
  repeat' (first | (with_reducible first | refine wp_seq ?_ | refine w_reg ?_) | ((with_reducible refine g_on ?_); (first | ((with_reducible refine g_mv ?_); refine l_p txs rfl rfl ?_) | ((with_reducible refine g_cl ?_); refine l_p txs rfl rfl ?_))))
  (with_reducible refine is_l ?_); refine l_t txs rfl rfl (fun hlt => ?_) (fun hge => ?_)
  · obtain ⟨x, hx⟩ : ∃ x, ks[i]? = some x := ⟨_, List.getElem?_eq_getElem (by omega)⟩
    obtain ⟨ad, rfl⟩ := rdT_some hR hx
    obtain ⟨bx, lx⟩ := hB x (List.mem_of_getElem? hx)
    have kx := hk0 x (List.mem_of_getElem? hx)
    have hNs : ∀ y ∈ N, y ∈ ks := fun y hy => List.mem_of_mem_take (hp.subset hy)
    have hNl : N.length = i := by rw [hp.length_eq, List.length_take]; omega
    repeat' (first | (with_reducible first | refine p_tn ?_ | refine wp_seq ?_ | refine wp_block ?_ | refine w_reg ?_) | (with_reducible (refine is_if ?_; (refine w_ift rfl ?_))) | (with_reducible first | refine wp_skip ?_ | refine l_nil ?_) | ((with_reducible refine g_on ?_); (first | ((with_reducible refine g_mv ?_); refine l_p txs rfl rfl ?_) | ((with_reducible refine g_ia ?_); refine l_ia txs rfl rfl (by first | omega | assumption | decide) (by first | omega | assumption | decide) ?_))))
    (with_reducible refine is_l ?_); refine l_ld txs rfl rfl (by rw [Int.toNat_natCast]; exact H.old (rdT_cell hR hx)) ?_
    skip
    (with_reducible refine is_l ?_); refine h_bs H info_str3 Tryz.underlying25 (by decide) (by decide) rfl rfl (fill_s _) (fun g_ w_ H => ?_)
    (with_reducible refine is_l ?_); refine h_app H 0 rfl info_str3 Tryz.underlying25 rfl rfl rfl rfl (H.cellRd 0 rfl) rfl rfl (by show (N.length + 1) * 16 ≤ _; omega) (fun v w_ hv H => ?_)
    obtain ⟨A2, c2, hv⟩ := hv
    have hv : v = .slice A2 (N.length + 1) c2 := hv
    subst hv
    have H := H.pick [] [0] (by decide) (by decide) rfl rfl
    have H : Hp w w_ [] [⟨.slice A2 (N.length + 1) c2, 9, 1, N.length + 1, strC (insM N x N.length)⟩] := by
      have e : strC (insM N x N.length) = strC N ++ [.string (strOfNums x)] := by simp [strC, insM]
      rw [e]
      exact H
    obtain ⟨ad2, rfl⟩ : ∃ a, A2 = some a := by
      obtain ⟨A3, c3, e3, _, _, hz⟩ := H.rd 0 rfl
      simp only [Value.slice.injEq] at e3
      cases A2 with
      | some a => exact ⟨a, rfl⟩
      | none => exact absurd (hz e3.1.symm).2 (by show N.length + 1 ≠ 0; omega)
    obtain ⟨g2, rfl⟩ := row_addr H 0 rfl
    repeat' (first | (with_reducible first | refine p_tn ?_ | refine wp_seq ?_ | refine wp_block ?_ | refine w_reg ?_ | refine l_nil ?_) | ((with_reducible refine g_on ?_); (first | ((with_reducible refine g_mv ?_); refine l_p txs rfl rfl ?_) | ((with_reducible refine g_as ?_); refine l_p txs rfl rfl ?_) | ((with_reducible refine g_cl ?_); refine l_p txs rfl rfl ?_) | ((with_reducible refine g_bi ?_); (refine l_a txs rfl rfl (by first | exact in_i64 (by omega) (by omega) | exact in_u8 (by omega) (by omega) | exact in_u64 (by omega) (by omega) | exact in_i32 (by omega) (by omega)) ?_)))))
    refine w_loop (σ := Nat) (S := fun j => [(0, .slice (some ad) ks.length c), (9, .slice (some ⟨g2, 0, none⟩) (N.length + 1) c2), (10, .int .i64 (i : Int)), (11, .int .i64 (j : Int))]) (J := fun j w' => Hp w w' [] [rowN g2 (N.length + 1) c2 (insM N x j)] ∧ j ≤ N.length ∧ ∀ y ∈ N.drop j, keyF x y ≤ 0) (μ := fun j => j) N.length ⟨rfl, rfl, rfl, by show Value.int .i64 (((N.length + 1 : Nat) : Int) - 1) = Value.int .i64 (N.length : Int); congr 1; omega, trivial⟩ ⟨H, Nat.le_refl _, by simp⟩ ?_
    rintro j f w_ ⟨H, hj, hd⟩
    repeat' (first | (with_reducible first | refine wp_seq ?_ | refine w_reg ?_) | ((with_reducible refine g_on ?_); ((with_reducible refine g_mv ?_); refine l_p txs rfl rfl ?_)))
    (with_reducible refine is_l ?_); refine l_t txs rfl rfl (fun hjp => ?_) (fun hjz => ?_)
    · obtain ⟨m, rfl⟩ : ∃ m, j = m + 1 := ⟨j - 1, by omega⟩
      obtain ⟨y, hy⟩ : ∃ y, N[m]? = some y := ⟨_, List.getElem?_eq_getElem (by omega)⟩
      obtain ⟨e1, e2, hx1, hy1⟩ := insM_at (x := x) hy
      have hbf := fun (w1 : World) => Before_c bx (hB y (hNs y (List.mem_of_getElem? hy))).1 kx (hk0 y (hNs y (List.mem_of_getElem? hy))) w1
      by_cases hlt2 : keyF x y < 0
      · rw [decide_eq_true hlt2] at hbf
        repeat' (first | (with_reducible first | refine p_tn ?_ | refine wp_seq ?_ | refine wp_block ?_) | (with_reducible (refine is_if ?_; (refine w_ift rfl ?_))) | (with_reducible first | refine wp_skip ?_ | refine l_nil ?_))
        have HS := H.pick [] [0] (by decide) (by decide) rfl rfl
        refine d_start (fun w_ => HpS _ w w_ _ _) #[false, false, false, false, false, false, false, false, false, false, false] (by kernel_rfl) rfl rfl HS.drew ?_
        have H := H.drew
        have HS := HS.drew
        first | (refine d_pure (i := 0) #[true, false, false, false, false, false, false, false, false, false, false] rfl (by kernel_rfl) (fun _ _ _ h => h) rfl (fun w_ => evP_run (o := ⟨_, _, _, _, _, _⟩) txs rfl) ?_)
        first | (refine d_pure (i := 1) #[true, true, false, false, false, false, false, false, false, false, false] rfl (by kernel_rfl) (fun _ _ _ h => h) rfl (fun w_ => evP_run (o := ⟨_, _, _, _, _, _⟩) txs rfl) ?_)
        first | (refine d_pure (i := 2) #[true, true, true, false, false, false, false, false, false, false, false] rfl (by kernel_rfl) (fun _ _ _ h => h) rfl (fun w_ => evIA_run (o := ⟨_, _, _, _, _, _⟩) txs rfl (by omega) (by omega)) ?_)
        first | (refine d_take (i := 3) #[true, true, true, true, false, false, false, false, false, false, false] rfl (by kernel_rfl) (fun _ _ _ h => h) rfl (fun w_ K => evL_run (o := ⟨_, _, _, _, _, _⟩) txs rfl (by rw [Int.toNat_natCast]; exact rdT_cell (row_at K 0 rfl) hx1)) HS ?_)
        first | (refine d_pure (i := 4) #[true, true, true, true, true, false, false, false, false, false, false] rfl (by kernel_rfl) (fun _ _ _ h => h) rfl (fun w_ => evP_run (o := ⟨_, _, _, _, _, _⟩) txs rfl) ?_)
        first | (refine d_pure (i := 5) #[true, true, true, true, true, true, false, false, false, false, false] rfl (by kernel_rfl) (fun _ _ _ h => h) rfl (fun w_ => evP_run (o := ⟨_, _, _, _, _, _⟩) txs rfl) ?_)
        first | (refine d_pure (i := 6) #[true, true, true, true, true, true, true, false, false, false, false] rfl (by kernel_rfl) (fun _ _ _ h => h) rfl (fun w_ => evP_run (o := ⟨_, _, _, _, _, _⟩) txs rfl) ?_) | (refine d_pure (i := 6) #[true, true, true, true, true, true, true, false, false, false, false] rfl (by kernel_rfl) (fun _ _ _ h => h) rfl (fun w_ => (evA_run (o := ⟨_, _, _, _, _, _⟩) txs rfl).trans (by rw [wrap_in (by first | exact in_i64 (by omega) (by omega) | exact in_u8 (by omega) (by omega) | exact in_u64 (by omega) (by omega) | exact in_i32 (by omega) (by omega))])) ?_)
        first | (refine d_pure (i := 7) #[true, true, true, true, true, true, true, true, false, false, false] rfl (by kernel_rfl) (fun _ _ _ h => h) rfl (fun w_ => evIA_run (o := ⟨_, _, _, _, _, _⟩) txs rfl (by omega) (by omega)) ?_)
        first | (refine d_take (i := 8) #[true, true, true, true, true, true, true, true, true, false, false] rfl (by kernel_rfl) (fun _ _ _ h => h) rfl (fun w_ K => evL_run (o := ⟨_, _, _, _, _, _⟩) txs rfl (by rw [show (((m + 1 : Nat) : Int) - 1).toNat = m by omega]; exact rdT_cell (row_at K 0 rfl) hy1)) HS ?_)
        refine d_one (i := 9) #[true, true, true, true, true, true, true, true, true, true, false] rfl (by kernel_rfl) rfl ?_
        refine l_callv rfl rfl (by kernel_rfl) (hbf _) (fun w_ K => ?_); have H := H.call K
        refine l_nil ?_
        have HS := H.pick [] [0] (by decide) (by decide) rfl rfl
        refine ⟨rfl, HS, ?_⟩
        first | (refine d_pure (i := 10) #[true, true, true, true, true, true, true, true, true, true, true] rfl (by kernel_rfl) (fun _ _ _ h => h) rfl (fun w_ => evP_run (o := ⟨_, _, _, _, _, _⟩) txs rfl) ?_)
        refine d_done rfl ?_
        repeat' (first | (with_reducible first | refine p_tn ?_ | refine wp_seq ?_ | refine w_reg ?_) | (with_reducible (refine is_if ?_; (refine w_iff rfl ?_))) | (with_reducible refine wp_skip ?_) | ((with_reducible refine g_on ?_); (first | ((with_reducible refine g_mv ?_); refine l_p txs rfl rfl ?_) | ((with_reducible refine g_ia ?_); refine l_ia txs rfl rfl (by first | omega | assumption | decide) (by first | omega | assumption | decide) ?_))))
        (with_reducible refine is_l ?_); refine l_ld txs rfl rfl (by rw [Int.toNat_natCast]; exact rdT_cell (row_at H 0 rfl) hx1) ?_
        repeat' (first | (with_reducible first | refine p_tn ?_ | refine wp_seq ?_ | refine w_reg ?_ | refine l_nil ?_) | ((with_reducible refine g_on ?_); (first | ((with_reducible refine g_mv ?_); refine l_p txs rfl rfl ?_) | ((with_reducible refine g_as ?_); refine l_p txs rfl rfl ?_) | ((with_reducible refine g_ia ?_); refine l_ia txs rfl rfl (by first | omega | assumption | decide) (by first | omega | assumption | decide) ?_) | ((with_reducible refine g_bi ?_); (refine l_a txs rfl rfl (by first | exact in_i64 (by omega) (by omega) | exact in_u8 (by omega) (by omega) | exact in_u64 (by omega) (by omega) | exact in_i32 (by omega) (by omega)) ?_)))))
        (with_reducible refine is_l ?_); refine l_ld txs rfl rfl (by rw [show (((m + 1 : Nat) : Int) - 1).toNat = m by omega]; exact rdT_cell (row_at H 0 rfl) hy1) ?_
        repeat' ((with_reducible refine g_on ?_); ((with_reducible refine g_ia ?_); refine l_ia txs rfl rfl (by first | omega | assumption | decide) (by first | omega | assumption | decide) ?_))
        (with_reducible refine is_l ?_); refine h_stE (by kernel_rfl) H 0 (i := m + 1) (v := .string (strOfNums y)) rfl rfl rfl rfl (by rw [Int.toNat_natCast]; exact at_row _ _) rfl rfl (by omega) (fun w_ H => ?_)
        repeat' (first | (with_reducible first | refine p_tn ?_ | refine w_reg ?_ | refine l_nil ?_) | ((with_reducible refine g_on ?_); (first | ((with_reducible refine g_mv ?_); refine l_p txs rfl rfl ?_) | ((with_reducible refine g_ia ?_); refine l_ia txs rfl rfl (by first | omega | assumption | decide) (by first | omega | assumption | decide) ?_) | ((with_reducible refine g_bi ?_); (refine l_a txs rfl rfl (by first | exact in_i64 (by omega) (by omega) | exact in_u8 (by omega) (by omega) | exact in_u64 (by omega) (by omega) | exact in_i32 (by omega) (by omega)) ?_)))))
        (with_reducible refine is_l ?_); refine h_stE (by kernel_rfl) H 0 (i := m) (v := .string (strOfNums x)) rfl rfl rfl rfl (by rw [show (((m + 1 : Nat) : Int) - 1).toNat = m by omega]; exact at_row _ _) rfl rfl (by omega) (fun w_ H => ?_)
        repeat' (first | (with_reducible first | refine p_tn ?_ | refine p_bn ?_ | refine w_reg ?_ | refine l_nil ?_) | ((with_reducible refine g_on ?_); (first | ((with_reducible refine g_mv ?_); refine l_p txs rfl rfl ?_) | ((with_reducible refine g_as ?_); refine l_p txs rfl rfl ?_) | ((with_reducible refine g_bi ?_); (refine l_a txs rfl rfl (by first | exact in_i64 (by omega) (by omega) | exact in_u8 (by omega) (by omega) | exact in_u64 (by omega) (by omega) | exact in_i32 (by omega) (by omega)) ?_)))))
        refine ⟨m, _, rfl, ⟨rfl, rfl, rfl, by show Value.int .i64 (((m + 1 : Nat) : Int) - 1) = Value.int .i64 (m : Int); congr 1; omega, trivial⟩, ⟨?_, by omega, ins_step hy hd (by omega)⟩, by omega⟩
        show Hp w w_ [] [⟨.slice (some ⟨g2, 0, none⟩) (N.length + 1) c2, 9, 1, N.length + 1, strC (insM N x m)⟩]
        rw [← insM_swap hy]
        exact H
      · rw [decide_eq_false hlt2] at hbf
        repeat' (first | (with_reducible first | refine p_tn ?_ | refine wp_seq ?_ | refine wp_block ?_) | (with_reducible (refine is_if ?_; (refine w_ift rfl ?_))) | (with_reducible first | refine wp_skip ?_ | refine l_nil ?_))
        have HS := H.pick [] [0] (by decide) (by decide) rfl rfl
        refine d_start (fun w_ => HpS _ w w_ _ _) #[false, false, false, false, false, false, false, false, false, false, false] (by kernel_rfl) rfl rfl HS.drew ?_
        have H := H.drew
        have HS := HS.drew
        first | (refine d_pure (i := 0) #[true, false, false, false, false, false, false, false, false, false, false] rfl (by kernel_rfl) (fun _ _ _ h => h) rfl (fun w_ => evP_run (o := ⟨_, _, _, _, _, _⟩) txs rfl) ?_)
        first | (refine d_pure (i := 1) #[true, true, false, false, false, false, false, false, false, false, false] rfl (by kernel_rfl) (fun _ _ _ h => h) rfl (fun w_ => evP_run (o := ⟨_, _, _, _, _, _⟩) txs rfl) ?_)
        first | (refine d_pure (i := 2) #[true, true, true, false, false, false, false, false, false, false, false] rfl (by kernel_rfl) (fun _ _ _ h => h) rfl (fun w_ => evIA_run (o := ⟨_, _, _, _, _, _⟩) txs rfl (by omega) (by omega)) ?_)
        first | (refine d_take (i := 3) #[true, true, true, true, false, false, false, false, false, false, false] rfl (by kernel_rfl) (fun _ _ _ h => h) rfl (fun w_ K => evL_run (o := ⟨_, _, _, _, _, _⟩) txs rfl (by rw [Int.toNat_natCast]; exact rdT_cell (row_at K 0 rfl) hx1)) HS ?_)
        first | (refine d_pure (i := 4) #[true, true, true, true, true, false, false, false, false, false, false] rfl (by kernel_rfl) (fun _ _ _ h => h) rfl (fun w_ => evP_run (o := ⟨_, _, _, _, _, _⟩) txs rfl) ?_)
        first | (refine d_pure (i := 5) #[true, true, true, true, true, true, false, false, false, false, false] rfl (by kernel_rfl) (fun _ _ _ h => h) rfl (fun w_ => evP_run (o := ⟨_, _, _, _, _, _⟩) txs rfl) ?_)
        first | (refine d_pure (i := 6) #[true, true, true, true, true, true, true, false, false, false, false] rfl (by kernel_rfl) (fun _ _ _ h => h) rfl (fun w_ => evP_run (o := ⟨_, _, _, _, _, _⟩) txs rfl) ?_) | (refine d_pure (i := 6) #[true, true, true, true, true, true, true, false, false, false, false] rfl (by kernel_rfl) (fun _ _ _ h => h) rfl (fun w_ => (evA_run (o := ⟨_, _, _, _, _, _⟩) txs rfl).trans (by rw [wrap_in (by first | exact in_i64 (by omega) (by omega) | exact in_u8 (by omega) (by omega) | exact in_u64 (by omega) (by omega) | exact in_i32 (by omega) (by omega))])) ?_)
        first | (refine d_pure (i := 7) #[true, true, true, true, true, true, true, true, false, false, false] rfl (by kernel_rfl) (fun _ _ _ h => h) rfl (fun w_ => evIA_run (o := ⟨_, _, _, _, _, _⟩) txs rfl (by omega) (by omega)) ?_)
        first | (refine d_take (i := 8) #[true, true, true, true, true, true, true, true, true, false, false] rfl (by kernel_rfl) (fun _ _ _ h => h) rfl (fun w_ K => evL_run (o := ⟨_, _, _, _, _, _⟩) txs rfl (by rw [show (((m + 1 : Nat) : Int) - 1).toNat = m by omega]; exact rdT_cell (row_at K 0 rfl) hy1)) HS ?_)
        refine d_one (i := 9) #[true, true, true, true, true, true, true, true, true, true, false] rfl (by kernel_rfl) rfl ?_
        refine l_callv rfl rfl (by kernel_rfl) (hbf _) (fun w_ K => ?_); have H := H.call K
        refine l_nil ?_
        have HS := H.pick [] [0] (by decide) (by decide) rfl rfl
        refine ⟨rfl, HS, ?_⟩
        first | (refine d_pure (i := 10) #[true, true, true, true, true, true, true, true, true, true, true] rfl (by kernel_rfl) (fun _ _ _ h => h) rfl (fun w_ => evP_run (o := ⟨_, _, _, _, _, _⟩) txs rfl) ?_)
        refine d_done rfl ?_
        repeat' (first | (with_reducible first | refine p_tn ?_ | refine p_tx ?_ | refine p_bn ?_ | refine x_hit ?_ | refine x_miss rfl ?_ | refine w_reg ?_) | (with_reducible (refine is_if ?_; (refine w_ift rfl ?_))) | (with_reducible first | refine wp_exit ?_ | refine l_nil ?_) | ((with_reducible refine g_on ?_); (first | ((with_reducible refine g_mv ?_); refine l_p txs rfl rfl ?_) | ((with_reducible refine g_as ?_); refine l_p txs rfl rfl ?_) | ((with_reducible refine g_bi ?_); (refine l_a txs rfl rfl (by first | exact in_i64 (by omega) (by omega) | exact in_u8 (by omega) (by omega) | exact in_u64 (by omega) (by omega) | exact in_i32 (by omega) (by omega)) ?_)))))
        have hdone : InOrd (insM N x (m + 1)) := ins_done ho hd (fun z hz _ => by
          rw [show m + 1 - 1 = m by omega, hy] at hz
          injection hz with hz
          subst hz
          have := ordK.anti x y
          omega) hj
        refine ⟨(i + 1, insM N x (m + 1), some ⟨g2, 0, none⟩, c2), _, rfl, ⟨rfl, by show Value.slice (some ⟨g2, 0, none⟩) (N.length + 1) c2 = Value.slice (some ⟨g2, 0, none⟩) (insM N x (m + 1)).length c2; rw [insM_len hj], rfl, trivial⟩, ⟨?_, by show i + 1 ≤ _; omega, ?_, hdone⟩, by show _ - (i + 1) < _ - i; omega⟩
        · show Hp w _ [] [rowT (.slice (some ⟨g2, 0, none⟩) (insM N x (m + 1)).length c2) (insM N x (m + 1))]
          unfold rowT
          rw [insM_len hj]
          exact H
        · show (insM N x (m + 1)).Perm (ks.take (i + 1))
          rw [take_of hx]
          exact (ins_perm N x (m + 1)).trans (hp.append_right [x])
    · obtain rfl : j = 0 := by omega
      have hdone : InOrd (insM N x 0) := ins_done ho hd (fun z hz h => absurd h (by decide)) hj
      repeat' (first | (with_reducible first | refine p_tn ?_ | refine p_tx ?_ | refine p_bn ?_ | refine x_hit ?_ | refine w_reg ?_) | (with_reducible (refine is_if ?_; (refine w_iff rfl ?_))) | (with_reducible first | refine wp_exit ?_ | refine l_nil ?_) | ((with_reducible refine g_on ?_); (first | ((with_reducible refine g_mv ?_); refine l_p txs rfl rfl ?_) | ((with_reducible refine g_as ?_); refine l_p txs rfl rfl ?_) | ((with_reducible refine g_bi ?_); (refine l_a txs rfl rfl (by first | exact in_i64 (by omega) (by omega) | exact in_u8 (by omega) (by omega) | exact in_u64 (by omega) (by omega) | exact in_i32 (by omega) (by omega)) ?_)))))
      refine ⟨(i + 1, insM N x 0, some ⟨g2, 0, none⟩, c2), _, rfl, ⟨rfl, by show Value.slice (some ⟨g2, 0, none⟩) (N.length + 1) c2 = Value.slice (some ⟨g2, 0, none⟩) (insM N x 0).length c2; rw [insM_len hj], rfl, trivial⟩, ⟨?_, by show i + 1 ≤ _; omega, ?_, hdone⟩, by show _ - (i + 1) < _ - i; omega⟩
      · show Hp w _ [] [rowT (.slice (some ⟨g2, 0, none⟩) (insM N x 0).length c2) (insM N x 0)]
        unfold rowT
        rw [insM_len hj]
        exact H
      · show (insM N x 0).Perm (ks.take (i + 1))
        rw [take_of hx]
        exact (ins_perm N x 0).trans (hp.append_right [x])
  · rw [List.take_of_length_le (by omega)] at hp
    repeat' (first | (with_reducible first | refine p_tn ?_ | refine p_tx ?_ | refine x_hit ?_ | refine wp_seq ?_ | refine w_reg ?_) | (with_reducible (refine is_if ?_; (refine w_iff rfl ?_))) | (with_reducible first | refine wp_exit ?_ | refine wp_ret ?_ | refine l_nil ?_) | ((with_reducible refine g_on ?_); (first | ((with_reducible refine g_mv ?_); refine l_p txs rfl rfl ?_) | ((with_reducible refine g_as ?_); refine l_p txs rfl rfl ?_))))
    refine end2 rfl rfl rfl ?_
    exact sor_yes hs hp ho H
end Go.Proofs.YtnimaenhijlcmaaGreatDoor.K.Ref
end
section
namespace Go.Proofs.YtnimaenhijlcmaaGreatDoor.K.Rec.Law
open Go.RowKit Go.Proofs.YtnimaenhijlcmaaGreatDoor.Q Go.Proofs.YtnimaenhijlcmaaGreatDoor.K Go.Proofs.YtnimaenhijlcmaaGreatDoor.K.Rec Go.Proofs.YtnimaenhijlcmaaGreatDoor.Mb Go.Proofs.YtnimaenhijlcmaaGreatDoorW.PrintWords
set_option linter.unusedVariables false
set_option linter.unusedSimpArgs false
theorem rd_nil (w : World) : Rd w none (strC []) := ⟨fun _ => rfl, fun ad e => (by cases e)⟩
theorem numbers_c (w : World) : Calls Tryz.prog 18 #[] w fun e w' => e = .returned (.bool true) ∧ w' = w := by
  refine enter (args := []) Tryz.func18 rfl Tryz.ntmps18 rfl ?_
  have H := Hp.nil w
  repeat' (first | (with_reducible first | refine p_tn ?_ | refine wp_seq ?_ | refine w_reg ?_) | (with_reducible (refine is_if ?_; (refine w_iff rfl ?_))) | (with_reducible first | refine wp_skip ?_ | refine wp_ret ?_ | refine l_nil ?_) | ((with_reducible refine g_on ?_); ((with_reducible refine g_as ?_); refine l_p txs rfl rfl ?_)))
  refine end1 rfl rfl ?_
  exact ⟨rfl, rfl⟩
end Go.Proofs.YtnimaenhijlcmaaGreatDoor.K.Rec.Law
end
section
namespace Go.Proofs.YtnimaenhijlcmaaGreatDoor.K.Rec.Law.All
open Go.RowKit Go.Proofs.YtnimaenhijlcmaaGreatDoor.Q Go.Proofs.YtnimaenhijlcmaaGreatDoor.K Go.Proofs.YtnimaenhijlcmaaGreatDoor.K.Rec Go.Proofs.YtnimaenhijlcmaaGreatDoor.K.Rec.Law Go.Proofs.YtnimaenhijlcmaaGreatDoor.Mb Go.Proofs.YtnimaenhijlcmaaGreatDoorW.PrintWords
set_option linter.unusedVariables false
set_option linter.unusedSimpArgs false
def tx : Nat → Option Ty
  | 48 => some (.slc 27 68)
  | t => K.tx t
theorem slcOkO : TyOk Tryz.prog 48 (.slc 27 68) := by
  have h : (Tryz.prog.info? 27).map (·.size) = some 68 := by kernel_rfl
  obtain ⟨i0, hi, hz⟩ := Option.map_eq_some_iff.1 h
  exact ⟨Tryz.underlying48, i0, hi, hz⟩
theorem txs : Tys Tryz.prog tx := by
  intro t k h
  unfold tx at h
  split at h
  · cases h; exact slcOkO
  · exact K.txs t k h
theorem recs_at {α : Type} {f : α → List Value} {m : Nat} : ∀ {l : List α} {i : Nat} {q : α}, (∀ x ∈ l, (f x).length = m) → l[i]? = some q → ∀ (j : Nat) (v : Value), (f q)[j]? = some v → (l.flatMap f)[i * m + j]? = some v
  | [], i, q, _, h, _, _, _ => by simp at h
  | x :: r, 0, q, hm, h, j, v, hj => by
    simp only [List.getElem?_cons_zero, Option.some.injEq] at h
    subst h
    rw [List.flatMap_cons, Nat.zero_mul, Nat.zero_add, List.getElem?_append_left (List.getElem?_eq_some_iff.1 hj).1, hj]
  | x :: r, i + 1, q, hm, h, j, v, hj => by
    have ih := recs_at (l := r) (i := i) (fun y hy => hm y (List.mem_cons_of_mem _ hy)) (by simpa using h) j v hj
    have hx := hm x (List.mem_cons_self ..)
    rw [List.flatMap_cons, List.getElem?_append_right (by rw [hx, Nat.succ_mul]; omega), hx, show (i + 1) * m + j - m = i * m + j by rw [Nat.succ_mul]; omega]
    exact ih
theorem recs_len {α : Type} {f : α → List Value} {m : Nat} : ∀ {l : List α}, (∀ x ∈ l, (f x).length = m) → (l.flatMap f).length = l.length * m
  | [], _ => by simp
  | x :: r, hm => by
    rw [List.flatMap_cons, List.length_append, recs_len (l := r) (fun y hy => hm y (List.mem_cons_of_mem _ hy)), hm x (List.mem_cons_self ..), List.length_cons, Nat.succ_mul]
    omega
theorem ad_add (a : Addr) (i j : Nat) : (a.add i).add j = a.add (i + j) := by
  unfold Addr.add
  by_cases hi : i = 0 <;> by_cases hj : j = 0 <;> simp [hi, hj, Nat.add_assoc]
structure OpD where
  k : Int
  t : L
  u : L
  A : L
  B : L
  S : Option Addr
  ls : List L
  c : Nat
def OpD.cells (q : OpD) : List Value := opC q.k (strOfNums q.t) (strOfNums q.u) q.A q.B (.slice q.S q.ls.length q.c)
structure OpOk (w : World) (q : OpD) : Prop where
  ht : Bytes q.t ∧ q.t.length ≤ 1048576
  hu : Bytes q.u ∧ q.u.length ≤ 1048576
  hA : Bytes q.A ∧ q.A.length = 32
  hB : Bytes q.B ∧ q.B.length = 32
  hS : Rd w q.S (strC q.ls)
  hn : q.ls.length ≤ 1048576
  hl : ∀ x ∈ q.ls, Bytes x ∧ x.length ≤ 1048576
theorem OpOk.len {w : World} {q : OpD} (h : OpOk w q) : q.cells.length = 68 := op_len (k := q.k) (t := strOfNums q.t) (u := strOfNums q.u) (s := .slice q.S q.ls.length q.c) h.hA.2 h.hB.2
end Go.Proofs.YtnimaenhijlcmaaGreatDoor.K.Rec.Law.All
end
section
namespace Go.Proofs.YtnimaenhijlcmaaGreatDoor.K.Kp
open Go.RowKit Go.Proofs.YtnimaenhijlcmaaGreatDoor.Q Go.Proofs.YtnimaenhijlcmaaGreatDoor.K Go.Proofs.YtnimaenhijlcmaaGreatDoor.Mb Go.Proofs.YtnimaenhijlcmaaGreatDoorW.PrintWords
open Go.Proofs.YtnimaenhijlcmaaGreatDoor.K.Rec.Law.All (recs_at recs_len ad_add)
set_option linter.unusedVariables false
set_option linter.unusedSimpArgs false
theorem _root_.Go.Proofs.YtnimaenhijlcmaaGreatDoor.Q.Hp.keep {w0 w : World} {l l' : List Ent} {r rs r' : List RowD} (H : Hp w0 w l (r ++ rs)) (ks ms : List Nat) (hk : ks.Nodup) (hm : ms.Nodup) (hlt : ms.all (fun m => Nat.blt m r.length) = true) (hl : nfO (ks.map (l[·]?)) some = some l') (hr : nfO (ms.map (r[·]?)) some = some r') : Hp w0 w l' (r' ++ rs) := by
  have hlt' : ∀ m ∈ ms, m < r.length := fun m h => by have := List.all_eq_true.1 hlt m h; simpa using this
  refine H.sel ks (ms ++ (List.range rs.length).map (· + r.length)) hk ?_ (nfO_some hl) ?_
  · rw [List.nodup_append]
    refine ⟨hm, List.pairwise_map.2 (List.nodup_range.imp fun h e => h (by omega)), fun a ha b hb e => ?_⟩
    obtain ⟨i, _, rfl⟩ := List.mem_map.1 hb
    have := hlt' a ha
    omega
  · rw [List.map_append, List.map_append]
    congr 1
    · rw [← nfO_some hr]
      exact List.map_congr_left fun m h => List.getElem?_append_left (hlt' m h)
    · rw [List.map_map]
      refine List.ext_getElem? fun i => ?_
      simp only [List.getElem?_map]
      by_cases hi : i < rs.length
      · rw [List.getElem?_range hi, List.getElem?_eq_getElem hi]
        simp only [Option.map_some, Function.comp]
        rw [List.getElem?_append_right (by omega), Nat.add_sub_cancel, List.getElem?_eq_getElem hi]
      · rw [List.getElem?_eq_none (by simp; omega), List.getElem?_eq_none (by omega)]
        rfl
section
variable {P : Program} {n : Nat} {f : Fr} {w : World} {o : Oper}
end
theorem own_up {w : World} {b b' : Nat} {e : TypeId} {sz n : Nat} {v : Value} {xs : List Value} (h : w.ownsRow b e sz v n xs) (hb : ∀ g, v.ownBlock = some g → b' ≤ g) : w.ownsRow b' e sz v n xs := by
  refine ⟨h.1, ?_⟩
  rcases h.2 with h2 | ⟨g, cap, cur, h1, h2, h3⟩
  · exact .inl h2
  · exact .inr ⟨g, cap, cur, h1, hb g (by rw [h1]; rfl), h3⟩
section
variable {P : Program} {n : Nat} {f : Fr} {w w0 : World} {ops : Array Oper} {Q : Exit → Act → World → Prop} {rest : List Oper} {l : List Ent} {r : List RowD}
theorem h_app2 {d : Option Nat} {tt : TypeId} {ps : String} {af : Array Edge} {op : Op} (H : Hp w0 w l r) (k : Nat) {q : RowD} {t : TypeId} {ad : Addr} {m c : Nat} {ys : List Value} {z : Value} {by_ : Nat}
    (hk : r[k]? = some q) (hinfo : (P.info? q.e).map (fun i => (i.zero, i.size, i.bytes)) = some (some z, q.sz, by_)) (hu : P.underlying t = some (.slice q.e)) (he : evApp n f op = some (t, q.v, .slice (some ad) m c)) (hzs : z.cells.size = q.sz) (h0 : Nat.ble 1 q.sz = true) (hb0 : Nat.ble 1 by_ = true) (hm0 : 0 < m)
    (HR : Rd w (some ad) ys) (hm : ys.length = m * q.sz) (h1 : ys.all (·.oneCell') = true) (hl : (q.n + m) * by_ ≤ 140737488355328)
    (h : ∀ v w', ((∃ a c', q.v = .slice (some a) q.n c' ∧ v = .slice (some a) (q.n + m) c' ∧ Hp w0 w' l (r.set k ⟨v, q.e, q.sz, q.n + m, q.cs ++ ys⟩)) ∨ (∃ A' c', v = .slice A' (q.n + m) c' ∧ Hp w0 w' l (⟨v, q.e, q.sz, q.n + m, q.cs ++ ys⟩ :: r))) → WL P ops Q rest (act n (put f d v)) w') : WL P ops Q (⟨d, op, tt, ps, af, none⟩ :: rest) (act n f) w := by
  have HO := H.row k q hk
  replace h0 : 0 < q.sz := Nat.le_of_ble_eq_true h0
  replace hb0 : 0 < by_ := Nat.le_of_ble_eq_true hb0
  obtain ⟨i0, hi, hzz⟩ := Option.map_eq_some_iff.1 hinfo
  simp only [Prod.mk.injEq] at hzz
  obtain ⟨hz0, hz1, hz2⟩ := hzz
  have hlen : q.n + m ≤ 140737488355328 := Nat.le_trans (Nat.le_mul_of_pos_right _ hb0) hl
  have h1' : ∀ u ∈ ys, u.oneCell' = true := fun u hu => List.all_eq_true.1 h1 u hu
  obtain ⟨v1, w1, hrr, hown, hg, _, hat⟩ := run_append_own_at (P := P) w w0.heap.size t tt q.e i0 z q.sz by_ hu hi hz0 hz1 hz2 hzs h0 q.v q.n q.cs HO ad m c ys hm (fun j u hj => HR.2 ad rfl j u hj) h1' (by simp only [maxLen]; omega) hl H.B.size
  obtain ⟨A', c', hv⟩ := own_slice hown
  have fresh : w.grownBy w1 none → v1.ownBlock = some w.heap.size → Hp w0 w1 l (⟨v1, q.e, q.sz, q.n + m, q.cs ++ ys⟩ :: r) := by
    intro hgn hb
    have ho : w1.ownsRow w.heap.size q.e q.sz v1 (q.n + m) (q.cs ++ ys) := own_up hown (fun g hgb => by rw [hb] at hgb; cases hgb; exact Nat.le_refl _)
    have hbw : Below w.heap.size w w1 := (Below.refl _ w).grown hgn (Nat.le_refl _) (fun b e => by cases e)
    exact H.join (Hp.ofOwn ho hbw)
  have hlm : m * i0.bytes ≤ 140737488355328 := by rw [hz2]; exact Nat.le_trans (Nat.mul_le_mul_right _ (Nat.le_add_left m q.n)) hl
  have key : (∃ a c', q.v = .slice (some a) q.n c' ∧ v1 = .slice (some a) (q.n + m) c' ∧ Hp w0 w1 l (r.set k ⟨v1, q.e, q.sz, q.n + m, q.cs ++ ys⟩)) ∨ (∃ A' c', v1 = .slice A' (q.n + m) c' ∧ Hp w0 w1 l (⟨v1, q.e, q.sz, q.n + m, q.cs ++ ys⟩ :: r)) := by
    rcases HO.2 with ⟨e1, hn⟩ | ⟨g, cap, cur, e1, hb, hgg, hnc, hcm, hcs, htake⟩
    · have hr := run_append_nil (P := P) w t tt q.e i0 z hu hi hz0 ad m c ys (by rw [hz1]; exact hm) (fun j u hj => HR.2 ad rfl j u hj) hm0 (by omega) (by omega)
      rw [e1, hr] at hrr
      injection hrr with e2 e3
      exact .inr ⟨A', c', hv, fresh (by rw [← e3]; exact ⟨rfl, rfl, rfl, by simp, fun k hk _ => heap_alloc_old w.drew _ hk⟩) (by rw [← e2]; rfl)⟩
    · by_cases hroom : q.n + m ≤ cap
      · have hr := run_append_room (P := P) w t tt q.e i0 hu hi g q.n cap cur hgg ad m c ys (by rw [hz1]; exact hm) (fun j u hj => HR.2 ad rfl j u hj) h1' hroom (by rw [hz1, hm, hcs, ← Nat.add_mul]; exact Nat.mul_le_mul_right _ hroom)
        have hrr0 := hrr
        rw [e1, hr] at hrr
        injection hrr with e2 e3
        have hob : v1.ownBlock = q.v.ownBlock := by rw [← e2, e1]; rfl
        exact .inl ⟨⟨g, 0, none⟩, cap, e1, e2.symm, H.put (d' := ⟨v1, q.e, q.sz, q.n + m, q.cs ++ ys⟩) k hk hg hown (.inl hob)⟩
      · have hr := run_append_grow (P := P) w t tt q.e i0 z hu hi hz0 ⟨g, 0, none⟩ q.n cap q.cs (by rw [hz1]; exact HO.1) (fun j u hj => (by rw [e1] at HO; exact HO.cells (g := g) rfl j u hj)) ad m c ys (by rw [hz1]; exact hm) (fun j u hj => HR.2 ad rfl j u hj) (by omega) (by omega) (growslice_fits (by omega) (by rw [hz2]; exact hl))
        rw [e1, hr] at hrr
        injection hrr with e2 e3
        exact .inr ⟨A', c', hv, fresh (by rw [← e3]; exact ⟨rfl, rfl, rfl, by simp, fun k hk _ => heap_alloc_old w.drew _ hk⟩) (by rw [← e2]; rfl)⟩
  unfold evApp at he
  split at he
  · rename_i cc
    split at he
    · rename_i x y t1 t2 h2 h3 h4
      by_cases ht : t1 = t2
      · subst ht
        simp only [Nat.beq_refl, cond_true, Option.some.injEq, Prod.mk.injEq] at he
        obtain ⟨rfl, he1, he2⟩ := he
        have hargs : cc.args = #[x, y] := by rw [← Array.toList_inj]; exact h3
        have htys : cc.argTypes = #[t1, t1] := by rw [← Array.toList_inj]; exact h4
        have ho : Op.call cc = .call { callee := .builtin .append, args := #[x, y], argTypes := #[t1, t1] } := by
          cases cc
          simp_all
        rw [ho]
        refine ⟨?_⟩
        refine wpList_plain rfl fun K hK => ?_
        unfold Oper.wp execOp
        rw [eval_act]
        simp only [resolve, invoke, builtin, Sem.run_bind, Sem.run_pure, Result.andThen_ok, List.map_toArray, List.map_cons, List.map_nil, he1, he2, hrr]
        refine hK _ _ ?_
        rw [put_act]
        exact (h v1 w1 key).out
      · exfalso
        have : Nat.beq t1 t2 = false := by rw [Bool.eq_false_iff]; intro hb; exact ht (Nat.eq_of_beq_eq_true hb)
        simp [this] at he
    · cases he
  · cases he
end
end Go.Proofs.YtnimaenhijlcmaaGreatDoor.K.Kp
end
section
namespace Go.Proofs.YtnimaenhijlcmaaGreatDoor.K.Kp
open Go.RowKit Go.Proofs.YtnimaenhijlcmaaGreatDoor.Q Go.Proofs.YtnimaenhijlcmaaGreatDoor.K Go.Proofs.YtnimaenhijlcmaaGreatDoor.Mb Go.Proofs.YtnimaenhijlcmaaGreatDoorW.PrintWords
open Go.Proofs.YtnimaenhijlcmaaGreatDoor.K.Rec.Law.All (recs_at recs_len ad_add)
set_option linter.unusedVariables false
set_option linter.unusedSimpArgs false
def tx : Nat → Option Ty
  | 30 => some (.slc 25 1)
  | 31 => some (.slc 40 3)
  | t => K.tx t
theorem slcOkM : TyOk Tryz.prog 30 (.slc 25 1) := by
  have h : (Tryz.prog.info? 25).map (·.size) = some 1 := by kernel_rfl
  obtain ⟨i0, hi, hz⟩ := Option.map_eq_some_iff.1 h
  exact ⟨Tryz.underlying30, i0, hi, hz⟩
theorem slcOkH : TyOk Tryz.prog 31 (.slc 40 3) := by
  have h : (Tryz.prog.info? 40).map (·.size) = some 3 := by kernel_rfl
  obtain ⟨i0, hi, hz⟩ := Option.map_eq_some_iff.1 h
  exact ⟨Tryz.underlying31, i0, hi, hz⟩
theorem txs : Tys Tryz.prog tx := by
  intro t k h
  unfold tx at h
  split at h
  · cases h; exact slcOkM
  · cases h; exact slcOkH
  · exact K.txs t k h
theorem oneM : (Tryz.prog.info? 30).map (·.size) = some 1 := by kernel_rfl
theorem oneH : (Tryz.prog.info? 31).map (·.size) = some 1 := by kernel_rfl
theorem ones : Ones Tryz.prog tx := by
  intro t k h
  unfold tx at h
  split at h
  · exact oneM
  · exact oneH
  · exact K.ones t k h
def rt : Nat → Option (List Value)
  | 40 => some [.slice none 0 0, .slice none 0 0, .string ⟨#[]⟩]
  | t => K.rt t
theorem recOkH : RecOk Tryz.prog 40 [.slice none 0 0, .slice none 0 0, .string ⟨#[]⟩] := ⟨⟨_, Tryz.underlying40, rfl⟩, by kernel_rfl⟩
theorem recs : Recs Tryz.prog rt := by
  intro t zs h
  unfold rt at h
  split at h
  · cases h; exact recOkH
  · exact K.recs t zs h
def fo : Nat → Nat → Option Nat
  | 40, 0 => some 0
  | 40, 1 => some 1
  | 40, 2 => some 2
  | t, k => K.fo t k
theorem fldH0 : fldB Tryz.prog 40 0 = some 0 := by kernel_rfl
theorem fldH1 : fldB Tryz.prog 40 1 = some 1 := by kernel_rfl
theorem fldH2 : fldB Tryz.prog 40 2 = some 2 := by kernel_rfl
theorem flds : Flds Tryz.prog fo := by
  intro t k o h
  unfold fo at h
  split at h
  · cases h; exact fldH0
  · cases h; exact fldH1
  · cases h; exact fldH2
  · exact K.flds t k o h
def eM (j : Nat) : L := [101, ((j % 256 : Nat) : Int)]
def tailM (j : Nat) : List L := (List.range j).map eM
theorem tailM_succ (j : Nat) : tailM (j + 1) = tailM j ++ [eM j] := by unfold tailM; rw [List.range_succ, List.map_append]; rfl
theorem tailM_len (j : Nat) : (tailM j).length = j := by simp [tailM]
theorem tailM_at {j m : Nat} (h : j < m) : (tailM m)[j]? = some (eM j) := by
  unfold tailM
  rw [List.getElem?_map, List.getElem?_range h]
  rfl
theorem fill2 (a b : Int) : Instr.fill (fun i => some (i * 1, 1)) ((Array.range (2 * 1)).map ((Value.int .u8 0).cells[· % (Value.int .u8 0).cells.size]!)) [(0, .int .u8 a), (1, .int .u8 b)] = some (nums .u8 [a, b]).toArray := by kernel_rfl
theorem fill3 (a b c : Int) : Instr.fill (fun i => some (i * 1, 1)) ((Array.range (3 * 1)).map ((Value.int .u8 0).cells[· % (Value.int .u8 0).cells.size]!)) [(0, .int .u8 a), (1, .int .u8 b), (2, .int .u8 c)] = some (nums .u8 [a, b, c]).toArray := by kernel_rfl
theorem cut_zero {ad : Addr} {c : Nat} (h : 0 < c) : cutA (some ad) c 0 1 = some ad := by
  unfold cutA
  simp [Addr.add]
theorem byte_of (j : Nat) : IntKind.wrap .u8 (j : Int) = ((j % 256 : Nat) : Int) := by
  rw [IntKind.wrap_u8]
  omega
set_option maxRecDepth 100000 in
set_option maxHeartbeats 8000000 in
theorem kept_c {w : World} {A A2 : Option Addr} {c c2 : Nat} {ks : List L} (h : Rd w A (strC (ks ++ tailM 300))) (h2 : Rd w A2 (strC ks)) (hl : ks.length ≤ 2000000) (hc : ks.length + 300 ≤ c) :
    Calls Tryz.prog 13 #[.slice A (ks.length + 300) c, .slice A2 ks.length c2] w fun e w' => e = .returned (.bool true) ∧ Below w.heap.size w w' := by
  refine enter (args := [.slice A (ks.length + 300) c, .slice A2 ks.length c2]) Tryz.func13 rfl Tryz.ntmps13 rfl ?_
  have H := Hp.nil w
  have hat : ∀ j, j < 300 → (ks ++ tailM 300)[ks.length + j]? = some (eM j) := fun j hj => by
    rw [List.getElem?_append_right (by omega), Nat.add_sub_cancel_left, tailM_at hj]
  have h1 : Rd w A (strC ks) := by
    refine ⟨fun e => ?_, fun ad e i v hv => h.2 ad e i v ?_⟩
    · have := congrArg List.length (h.1 e)
      simp [tailM_len] at this
    · rw [show strC (ks ++ tailM 300) = strC ks ++ strC (tailM 300) by simp [strC], List.getElem?_append_left (List.getElem?_eq_some_iff.1 hv).1, hv]
  obtain ⟨ad, rfl⟩ := rdT_some h (hat 0 (by decide))
  repeat' (first | (with_reducible first | refine p_tn ?_ | refine wp_seq ?_ | refine wp_block ?_ | refine w_reg ?_ | refine l_nil ?_) | ((with_reducible refine g_on ?_); ((with_reducible refine g_as ?_); refine l_p txs rfl rfl ?_)))
  refine w_loop (σ := Nat) (S := fun s => [(0, .slice (some ad) (ks.length + 300) c), (1, .slice A2 ks.length c2), (5, .int .i64 (s : Int))]) (J := fun s w' => Hp w w' [] [] ∧ s ≤ 300) (μ := fun s => 300 - s) 0 ⟨rfl, rfl, rfl, trivial⟩ ⟨H, Nat.zero_le _⟩ ?_
  clear H
  rintro j f w_ ⟨H, hj⟩
  repeat' (first | (with_reducible first | refine wp_seq ?_ | refine w_reg ?_) | ((with_reducible refine g_on ?_); ((with_reducible refine g_mv ?_); refine l_p txs rfl rfl ?_)))
  (with_reducible refine is_l ?_); refine l_t txs rfl rfl (fun hlt => ?_) (fun hge => ?_)
  · have hx := hat j (by omega)
    have hw := byte_of j
    obtain ⟨z, hz⟩ : ∃ z, z = ((j % 256 : Nat) : Int) := ⟨_, rfl⟩
    have he : eM j = [101, z] := by unfold eM; rw [hz]
    rw [← hz] at hw
    rw [he] at hx
    repeat' (first | (with_reducible first | refine p_tn ?_ | refine wp_seq ?_ | refine wp_block ?_) | (with_reducible (refine is_if ?_; (refine w_ift rfl ?_))) | (with_reducible first | refine wp_skip ?_ | refine l_nil ?_))
    have HS := H.pick [] [] (by decide) (by decide) rfl rfl
    refine d_start (fun w_ => HpS _ w w_ _ _) #[false, false, false, false, false, false, false, false, false, false, false, false] (by kernel_rfl) rfl rfl HS.drew ?_
    have H := H.drew
    have HS := HS.drew
    first | (refine d_pure (i := 0) #[true, false, false, false, false, false, false, false, false, false, false, false] rfl (by kernel_rfl) (fun _ _ _ h => h) rfl (fun w_ => evP_run (o := ⟨_, _, _, _, _, _⟩) txs rfl) ?_)
    first | (refine d_pure (i := 1) #[true, true, false, false, false, false, false, false, false, false, false, false] rfl (by kernel_rfl) (fun _ _ _ h => h) rfl (fun w_ => evP_run (o := ⟨_, _, _, _, _, _⟩) txs rfl) ?_)
    first | (refine d_pure (i := 2) #[true, true, true, false, false, false, false, false, false, false, false, false] rfl (by kernel_rfl) (fun _ _ _ h => h) rfl (fun w_ => evP_run (o := ⟨_, _, _, _, _, _⟩) txs rfl) ?_)
    first | (refine d_pure (i := 3) #[true, true, true, true, false, false, false, false, false, false, false, false] rfl (by kernel_rfl) (fun _ _ _ h => h) rfl (fun w_ => evP_run (o := ⟨_, _, _, _, _, _⟩) txs rfl) ?_)
    first | (refine d_pure (i := 4) #[true, true, true, true, true, false, false, false, false, false, false, false] rfl (by kernel_rfl) (fun _ _ _ h => h) rfl (fun w_ => evP_run (o := ⟨_, _, _, _, _, _⟩) txs rfl) ?_) | (refine d_pure (i := 4) #[true, true, true, true, true, false, false, false, false, false, false, false] rfl (by kernel_rfl) (fun _ _ _ h => h) rfl (fun w_ => (evA_run (o := ⟨_, _, _, _, _, _⟩) txs rfl).trans (by rw [wrap_in (by first | exact in_i64 (by omega) (by omega) | exact in_u8 (by omega) (by omega) | exact in_u64 (by omega) (by omega) | exact in_i32 (by omega) (by omega))])) ?_)
    first | (refine d_pure (i := 5) #[true, true, true, true, true, true, false, false, false, false, false, false] rfl (by kernel_rfl) (fun _ _ _ h => h) rfl (fun w_ => evIA_run (o := ⟨_, _, _, _, _, _⟩) txs rfl (by omega) (by omega)) ?_)
    first | (refine d_take (i := 6) #[true, true, true, true, true, true, true, false, false, false, false, false] rfl (by kernel_rfl) (fun _ _ _ h => h) rfl (fun w_ K => evL_run (o := ⟨_, _, _, _, _, _⟩) txs rfl (by rw [show ((ks.length : Int) + (j : Int)).toNat = ks.length + j by omega]; exact K.old (rdT_cell h hx))) HS ?_)
    first | (refine d_pure (i := 7) #[true, true, true, true, true, true, true, true, false, false, false, false] rfl (by kernel_rfl) (fun _ _ _ h => h) rfl (fun w_ => evP_run (o := ⟨_, _, _, _, _, _⟩) txs rfl) ?_)
    first | (refine d_pure (i := 8) #[true, true, true, true, true, true, true, true, true, false, false, false] rfl (by kernel_rfl) (fun _ _ _ h => h) rfl (fun w_ => (evA_run (o := ⟨_, _, _, _, _, _⟩) txs rfl).trans (by rw [hw])) ?_)
    refine d_one (i := 9) #[true, true, true, true, true, true, true, true, true, true, false, false] rfl (by kernel_rfl) rfl ?_
    refine h_bsn H info_u8 Tryz.underlying34 (by decide) (by decide) rfl (fill2 _ _) (fun g_ w_ H => ?_)
    refine l_nil ?_
    have HS := H.pick [] [] (by decide) (by decide) rfl rfl
    refine ⟨rfl, HS, ?_⟩
    refine d_one (i := 10) #[true, true, true, true, true, true, true, true, true, true, true, false] rfl (by kernel_rfl) rfl ?_
    refine l_text rfl rfl Tryz.underlying34 Tryz.underlying5 Tryz.underlying9 (reads_of_rd (k := .u8) (xs := [101, z]) (H.cellRd 0 rfl) (by show 2 ≤ _; decide)) ?_
    refine l_nil ?_
    have HS := H.pick [] [] (by decide) (by decide) rfl rfl
    refine ⟨rfl, HS, ?_⟩
    first | (refine d_pure (i := 11) #[true, true, true, true, true, true, true, true, true, true, true, true] rfl (by kernel_rfl) (fun _ _ _ h => h) rfl (fun w_ => evT_no (o := ⟨_, _, _, _, _, _⟩) txs rfl (fun h => h rfl)) ?_)
    refine d_done rfl ?_
    have H := H.pick [] [] (by decide) (by decide) rfl rfl
    repeat' (first | (with_reducible first | refine p_tn ?_ | refine p_bn ?_ | refine w_reg ?_) | (with_reducible (refine is_if ?_; (refine w_iff rfl ?_))) | (with_reducible first | refine wp_skip ?_ | refine l_nil ?_) | ((with_reducible refine g_on ?_); (first | ((with_reducible refine g_mv ?_); refine l_p txs rfl rfl ?_) | ((with_reducible refine g_as ?_); refine l_p txs rfl rfl ?_) | ((with_reducible refine g_bi ?_); (refine l_a txs rfl rfl (by first | exact in_i64 (by omega) (by omega) | exact in_u8 (by omega) (by omega) | exact in_u64 (by omega) (by omega) | exact in_i32 (by omega) (by omega)) ?_)))))
    exact ⟨j + 1, _, rfl, ⟨rfl, rfl, rfl, trivial⟩, ⟨H, by omega⟩, by omega⟩
  · repeat' (first | (with_reducible first | refine p_tn ?_ | refine p_tx ?_ | refine x_hit ?_ | refine wp_seq ?_ | refine w_reg ?_) | (with_reducible (refine is_if ?_; (refine w_iff rfl ?_))) | (with_reducible first | refine wp_exit ?_ | refine l_nil ?_) | ((with_reducible refine g_on ?_); (first | ((with_reducible refine g_mv ?_); refine l_p txs rfl rfl ?_) | ((with_reducible refine g_cl ?_); refine l_p txs rfl rfl ?_))))
    (with_reducible refine is_l ?_); refine l_cutN txs 0 ks.length rfl rfl (by omega) (by omega) ?_
    rw [cut_zero (by omega)]
    repeat' ((with_reducible refine g_on ?_); ((with_reducible refine g_mv ?_); refine l_p txs rfl rfl ?_))
    (with_reducible refine is_l ?_); refine l_callv rfl rfl (by kernel_rfl) (Ref.same_c (c2 := c2) (h1.below H.B) (h2.below H.B) (by omega)) (fun w_ K => ?_)
    have H := H.call K
    repeat' (first | (with_reducible first | refine p_tn ?_ | refine wp_ret ?_ | refine l_nil ?_) | ((with_reducible refine g_on ?_); ((with_reducible refine g_as ?_); refine l_p txs rfl rfl ?_)))
    refine end1 rfl rfl ?_
    exact ⟨rfl, H.B⟩
structure HeldD where
  LA : Option Addr
  n : Nat
  lc : Nat
  MA : Option Addr
  mc : Nat
  mark : L
def HeldD.cells (q : HeldD) : List Value := [.slice q.LA q.n q.lc, .slice q.MA (q.n + 1) q.mc, .string (strOfNums q.mark)]
structure HeldOk (w : World) (q : HeldD) : Prop where
  hL : Rd w q.LA (strC (List.replicate q.n q.mark))
  hM : Rd w q.MA (strC (List.replicate (q.n + 1) q.mark))
  hn : q.n ≤ 2000000
theorem HeldOk.below {w w' : World} {q : HeldD} (h : HeldOk w q) (K : Below w.heap.size w w') : HeldOk w' q := ⟨h.hL.below K, h.hM.below K, h.hn⟩
theorem held_len (q : HeldD) : q.cells.length = 3 := rfl
theorem rep_at {n j : Nat} (m : L) (h : j < n) : (List.replicate n m)[j]? = some m := by rw [List.getElem?_replicate, if_pos h]
set_option maxRecDepth 100000 in
set_option maxHeartbeats 16000000 in
theorem marked_c {w : World} {A : Option Addr} {c : Nat} {b : List HeldD} (h : Rd w A (b.flatMap HeldD.cells)) (hok : ∀ q ∈ b, HeldOk w q) (hl : b.length ≤ 2000000) :
    Calls Tryz.prog 14 #[.slice A b.length c] w fun e w' => e = .returned (.bool true) ∧ Below w.heap.size w w' := by
  refine enter (args := [.slice A b.length c]) Tryz.func14 rfl Tryz.ntmps14 rfl ?_
  have H := Hp.nil w
  repeat' (first | (with_reducible first | refine p_tn ?_ | refine wp_seq ?_ | refine wp_block ?_ | refine w_reg ?_ | refine l_nil ?_) | ((with_reducible refine g_on ?_); ((with_reducible refine g_as ?_); refine l_p txs rfl rfl ?_)))
  refine w_loop (σ := Nat) (S := fun s => [(0, .slice A b.length c), (3, .int .i64 (s : Int))]) (J := fun s w' => Hp w w' [] [] ∧ s ≤ b.length) (μ := fun s => b.length - s) 0 ⟨rfl, rfl, trivial⟩ ⟨H, Nat.zero_le _⟩ ?_
  clear H
  rintro i f w_ ⟨H, hi⟩
  repeat' (first | (with_reducible first | refine wp_seq ?_ | refine w_reg ?_) | ((with_reducible refine g_on ?_); (first | ((with_reducible refine g_mv ?_); refine l_p txs rfl rfl ?_) | ((with_reducible refine g_cl ?_); refine l_p txs rfl rfl ?_))))
  (with_reducible refine is_l ?_); refine l_t txs rfl rfl (fun hlt => ?_) (fun hge => ?_)
  · obtain ⟨q, hq⟩ : ∃ q, b[i]? = some q := ⟨_, List.getElem?_eq_getElem (by omega)⟩
    have hqo := hok q (List.mem_of_getElem? hq)
    obtain ⟨la, rfl⟩ : ∃ la, A = some la := by
      cases A with
      | none =>
        have h1 := h.1 rfl
        have h2 := recs_at (fun x _ => held_len x) hq 0 _ rfl
        rw [h1] at h2
        simp at h2
      | some la => exact ⟨la, rfl⟩
    have q1 : ∀ w1, Below w.heap.size w w1 → ∀ (j : Nat) (v : Value), q.cells[j]? = some v → w1.cell? ((la.add (i * 3)).add j) = some v := fun w1 K j v hj => by
      rw [ad_add]
      exact pw_cell_below K (h.2 la rfl _ _ (recs_at (fun x _ => held_len x) hq j v hj))
    obtain ⟨LA, n, lc, MA, mc, mk⟩ := q
    obtain ⟨hL, hM, hn⟩ := hqo
    simp only at hL hM hn
    have hMx : (List.replicate (n + 1) mk)[n]? = some mk := rep_at mk (Nat.lt_succ_self n)
    obtain ⟨ma, rfl⟩ := rdT_some hM hMx
    repeat' (first | (with_reducible first | refine p_tn ?_ | refine wp_seq ?_ | refine wp_block ?_ | refine w_reg ?_) | (with_reducible (refine is_if ?_; (refine w_ift rfl ?_))) | (with_reducible first | refine wp_skip ?_ | refine l_nil ?_) | ((with_reducible refine g_on ?_); (first | ((with_reducible refine g_mv ?_); refine l_p txs rfl rfl ?_) | ((with_reducible refine g_ia ?_); refine l_ia txs rfl rfl (by first | omega | assumption | decide) (by first | omega | assumption | decide) ?_))))
    rw [Int.toNat_natCast]
    (with_reducible refine is_l ?_); refine h_ldA recs (q1 _ H.B) rfl rfl rfl rfl ?_
    repeat' (first | (with_reducible first | refine p_tn ?_ | refine wp_seq ?_ | refine l_nil ?_) | ((with_reducible refine g_on ?_); (first | ((with_reducible refine g_st ?_); (refine h_stR recs H 0 rfl rfl rfl rfl rfl rfl rfl rfl rfl (fun w_ H => ?_))) | ((with_reducible refine g_al ?_); refine h_alloc recs H rfl rfl (fun g_ w_ H => ?_)))))
    have H : Hp w w_ [(g_, 40, [.slice LA n lc, .slice (some ma) (n + 1) mc, .string (strOfNums mk)])] [] := H
    have HS := H.pick [0] [] (by decide) (by decide) rfl rfl
    refine d_start (fun w_ => HpS _ w w_ _ _) #[false, false, false, false, false, false, false, false, false, false, false, false, false, false, false, false, false, false, false, false] (by kernel_rfl) rfl rfl HS.drew ?_
    have H := H.drew
    have HS := HS.drew
    first | (refine d_pure (i := 0) #[true, false, false, false, false, false, false, false, false, false, false, false, false, false, false, false, false, false, false, false] rfl (by kernel_rfl) (fun _ _ _ h => h) rfl (fun w_ => evF_run (o := ⟨_, _, _, _, _, _⟩) flds rfl) ?_) | (refine d_pure (i := 0) #[true, false, false, false, false, false, false, false, false, false, false, false, false, false, false, false, false, false, false, false] rfl (by kernel_rfl) (fun _ _ _ h => h) rfl (fun w_ => evG_run (o := ⟨_, _, _, _, _, _⟩) flds rfl) ?_)
    first | (refine d_take (i := 1) #[true, true, false, false, false, false, false, false, false, false, false, false, false, false, false, false, false, false, false, false] rfl (by kernel_rfl) (fun _ _ _ h => h) rfl (fun w_ K => evL_run (o := ⟨_, _, _, _, _, _⟩) txs rfl (K.cellAt 0 rfl rfl)) HS ?_)
    first | (refine d_pure (i := 2) #[true, true, true, false, false, false, false, false, false, false, false, false, false, false, false, false, false, false, false, false] rfl (by kernel_rfl) (fun _ _ _ h => h) rfl (fun w_ => evP_run (o := ⟨_, _, _, _, _, _⟩) txs rfl) ?_)
    first | (refine d_pure (i := 3) #[true, true, true, true, false, false, false, false, false, false, false, false, false, false, false, false, false, false, false, false] rfl (by kernel_rfl) (fun _ _ _ h => h) rfl (fun w_ => evF_run (o := ⟨_, _, _, _, _, _⟩) flds rfl) ?_) | (refine d_pure (i := 3) #[true, true, true, true, false, false, false, false, false, false, false, false, false, false, false, false, false, false, false, false] rfl (by kernel_rfl) (fun _ _ _ h => h) rfl (fun w_ => evG_run (o := ⟨_, _, _, _, _, _⟩) flds rfl) ?_)
    first | (refine d_take (i := 4) #[true, true, true, true, true, false, false, false, false, false, false, false, false, false, false, false, false, false, false, false] rfl (by kernel_rfl) (fun _ _ _ h => h) rfl (fun w_ K => evL_run (o := ⟨_, _, _, _, _, _⟩) txs rfl (K.cellAt 0 rfl rfl)) HS ?_)
    first | (refine d_pure (i := 5) #[true, true, true, true, true, true, false, false, false, false, false, false, false, false, false, false, false, false, false, false] rfl (by kernel_rfl) (fun _ _ _ h => h) rfl (fun w_ => evP_run (o := ⟨_, _, _, _, _, _⟩) txs rfl) ?_)
    first | (refine d_pure (i := 6) #[true, true, true, true, true, true, true, false, false, false, false, false, false, false, false, false, false, false, false, false] rfl (by kernel_rfl) (fun _ _ _ h => h) rfl (fun w_ => evP_run (o := ⟨_, _, _, _, _, _⟩) txs rfl) ?_) | (refine d_pure (i := 6) #[true, true, true, true, true, true, true, false, false, false, false, false, false, false, false, false, false, false, false, false] rfl (by kernel_rfl) (fun _ _ _ h => h) rfl (fun w_ => (evA_run (o := ⟨_, _, _, _, _, _⟩) txs rfl).trans (by rw [wrap_in (by first | exact in_i64 (by omega) (by omega) | exact in_u8 (by omega) (by omega) | exact in_u64 (by omega) (by omega) | exact in_i32 (by omega) (by omega))])) ?_)
    first | (refine d_pure (i := 7) #[true, true, true, true, true, true, true, true, false, false, false, false, false, false, false, false, false, false, false, false] rfl (by kernel_rfl) (fun _ _ _ h => h) rfl (fun w_ => evT_no (o := ⟨_, _, _, _, _, _⟩) txs rfl (fun h => h rfl)) ?_)
    first | (refine d_pure (i := 8) #[true, true, true, true, true, true, true, true, true, false, false, false, false, false, false, false, false, false, false, false] rfl (by kernel_rfl) (fun _ _ _ h => h) rfl (fun w_ => evP_run (o := ⟨_, _, _, _, _, _⟩) txs rfl) ?_)
    first | (refine d_off (i := 9) #[true, true, true, true, true, true, true, true, true, true, false, false, false, false, false, false, false, false, false, false] rfl (by kernel_rfl) (fun _ _ _ h => h) rfl ?_) | (first | (refine d_pure (i := 9) #[true, true, true, true, true, true, true, true, true, true, false, false, false, false, false, false, false, false, false, false] rfl (by kernel_rfl) (fun _ _ _ h => h) rfl (fun w_ => evF_run (o := ⟨_, _, _, _, _, _⟩) flds rfl) ?_) | (refine d_pure (i := 9) #[true, true, true, true, true, true, true, true, true, true, false, false, false, false, false, false, false, false, false, false] rfl (by kernel_rfl) (fun _ _ _ h => h) rfl (fun w_ => evG_run (o := ⟨_, _, _, _, _, _⟩) flds rfl) ?_))
    first | (refine d_off (i := 10) #[true, true, true, true, true, true, true, true, true, true, true, false, false, false, false, false, false, false, false, false] rfl (by kernel_rfl) (fun _ _ _ h => h) rfl ?_) | (first | (refine d_take (i := 10) #[true, true, true, true, true, true, true, true, true, true, true, false, false, false, false, false, false, false, false, false] rfl (by kernel_rfl) (fun _ _ _ h => h) rfl (fun w_ K => evL_run (o := ⟨_, _, _, _, _, _⟩) txs rfl (K.cellAt 0 rfl rfl)) HS ?_))
    first | (refine d_off (i := 11) #[true, true, true, true, true, true, true, true, true, true, true, true, false, false, false, false, false, false, false, false] rfl (by kernel_rfl) (fun _ _ _ h => h) rfl ?_) | (first | (refine d_pure (i := 11) #[true, true, true, true, true, true, true, true, true, true, true, true, false, false, false, false, false, false, false, false] rfl (by kernel_rfl) (fun _ _ _ h => h) rfl (fun w_ => evF_run (o := ⟨_, _, _, _, _, _⟩) flds rfl) ?_) | (refine d_pure (i := 11) #[true, true, true, true, true, true, true, true, true, true, true, true, false, false, false, false, false, false, false, false] rfl (by kernel_rfl) (fun _ _ _ h => h) rfl (fun w_ => evG_run (o := ⟨_, _, _, _, _, _⟩) flds rfl) ?_))
    first | (refine d_off (i := 12) #[true, true, true, true, true, true, true, true, true, true, true, true, true, false, false, false, false, false, false, false] rfl (by kernel_rfl) (fun _ _ _ h => h) rfl ?_) | (first | (refine d_take (i := 12) #[true, true, true, true, true, true, true, true, true, true, true, true, true, false, false, false, false, false, false, false] rfl (by kernel_rfl) (fun _ _ _ h => h) rfl (fun w_ K => evL_run (o := ⟨_, _, _, _, _, _⟩) txs rfl (K.cellAt 0 rfl rfl)) HS ?_))
    first | (refine d_off (i := 13) #[true, true, true, true, true, true, true, true, true, true, true, true, true, true, false, false, false, false, false, false] rfl (by kernel_rfl) (fun _ _ _ h => h) rfl ?_) | (first | (refine d_pure (i := 13) #[true, true, true, true, true, true, true, true, true, true, true, true, true, true, false, false, false, false, false, false] rfl (by kernel_rfl) (fun _ _ _ h => h) rfl (fun w_ => evP_run (o := ⟨_, _, _, _, _, _⟩) txs rfl) ?_))
    first | (refine d_off (i := 14) #[true, true, true, true, true, true, true, true, true, true, true, true, true, true, true, false, false, false, false, false] rfl (by kernel_rfl) (fun _ _ _ h => h) rfl ?_) | (first | (refine d_pure (i := 14) #[true, true, true, true, true, true, true, true, true, true, true, true, true, true, true, false, false, false, false, false] rfl (by kernel_rfl) (fun _ _ _ h => h) rfl (fun w_ => evIA_run (o := ⟨_, _, _, _, _, _⟩) txs rfl (by omega) (by omega)) ?_))
    first | (refine d_off (i := 15) #[true, true, true, true, true, true, true, true, true, true, true, true, true, true, true, true, false, false, false, false] rfl (by kernel_rfl) (fun _ _ _ h => h) rfl ?_) | (first | (refine d_take (i := 15) #[true, true, true, true, true, true, true, true, true, true, true, true, true, true, true, true, false, false, false, false] rfl (by kernel_rfl) (fun _ _ _ h => h) rfl (fun w_ K => evL_run (o := ⟨_, _, _, _, _, _⟩) txs rfl (by rw [Int.toNat_natCast]; exact K.old (rdT_cell hM hMx))) HS ?_))
    first | (refine d_off (i := 16) #[true, true, true, true, true, true, true, true, true, true, true, true, true, true, true, true, true, false, false, false] rfl (by kernel_rfl) (fun _ _ _ h => h) rfl ?_) | (first | (refine d_pure (i := 16) #[true, true, true, true, true, true, true, true, true, true, true, true, true, true, true, true, true, false, false, false] rfl (by kernel_rfl) (fun _ _ _ h => h) rfl (fun w_ => evF_run (o := ⟨_, _, _, _, _, _⟩) flds rfl) ?_) | (refine d_pure (i := 16) #[true, true, true, true, true, true, true, true, true, true, true, true, true, true, true, true, true, false, false, false] rfl (by kernel_rfl) (fun _ _ _ h => h) rfl (fun w_ => evG_run (o := ⟨_, _, _, _, _, _⟩) flds rfl) ?_))
    first | (refine d_off (i := 17) #[true, true, true, true, true, true, true, true, true, true, true, true, true, true, true, true, true, true, false, false] rfl (by kernel_rfl) (fun _ _ _ h => h) rfl ?_) | (first | (refine d_take (i := 17) #[true, true, true, true, true, true, true, true, true, true, true, true, true, true, true, true, true, true, false, false] rfl (by kernel_rfl) (fun _ _ _ h => h) rfl (fun w_ K => evL_run (o := ⟨_, _, _, _, _, _⟩) txs rfl (K.cellAt 0 rfl rfl)) HS ?_))
    first | (refine d_off (i := 18) #[true, true, true, true, true, true, true, true, true, true, true, true, true, true, true, true, true, true, true, false] rfl (by kernel_rfl) (fun _ _ _ h => h) rfl ?_) | (first | (refine d_pure (i := 18) #[true, true, true, true, true, true, true, true, true, true, true, true, true, true, true, true, true, true, true, false] rfl (by kernel_rfl) (fun _ _ _ h => h) rfl (fun w_ => evT_no (o := ⟨_, _, _, _, _, _⟩) txs rfl (fun h => h rfl)) ?_))
    first | (refine d_pure (i := 19) #[true, true, true, true, true, true, true, true, true, true, true, true, true, true, true, true, true, true, true, true] rfl (by kernel_rfl) (fun _ _ _ h => h) rfl (fun w_ => evP_run (o := ⟨_, _, _, _, _, _⟩) txs rfl) ?_)
    refine d_done rfl ?_
    repeat' (first | (with_reducible first | refine p_tn ?_ | refine wp_seq ?_ | refine wp_block ?_ | refine w_reg ?_) | (with_reducible (refine is_if ?_; (refine w_iff rfl ?_))) | (with_reducible first | refine wp_skip ?_ | refine l_nil ?_) | ((with_reducible refine g_on ?_); ((with_reducible refine g_as ?_); refine l_p txs rfl rfl ?_)))
    refine w_loop (σ := Nat) (S := fun s => [(0, .slice (some la) b.length c), (3, .int .i64 (i : Int)), (4, .pointer (some ⟨g_, 0, none⟩)), (5, .int .i64 (s : Int))]) (J := fun s w' => Hp w w' [(g_, 40, [.slice LA n lc, .slice (some ma) (n + 1) mc, .string (strOfNums mk)])] [] ∧ s ≤ n) (μ := fun s => n - s) 0 ⟨rfl, rfl, rfl, rfl, trivial⟩ ⟨H, Nat.zero_le _⟩ ?_
    clear H
    rintro j f w_ ⟨H, hj⟩
    repeat' (first | (with_reducible first | refine wp_seq ?_ | refine w_reg ?_) | ((with_reducible refine g_on ?_); (first | ((with_reducible refine g_mv ?_); refine l_p txs rfl rfl ?_) | ((with_reducible refine g_fa ?_); refine h_fa flds rfl rfl ?_) | ((with_reducible refine g_ld ?_); (refine h_ld txs H 0 rfl rfl rfl rfl ?_)) | ((with_reducible refine g_cl ?_); refine l_p txs rfl rfl ?_))))
    (with_reducible refine is_l ?_); refine l_t txs rfl rfl (fun hlt2 => ?_) (fun hge2 => ?_)
    · have hLx : (List.replicate n mk)[j]? = some mk := rep_at mk (by omega)
      have hMy : (List.replicate (n + 1) mk)[j]? = some mk := rep_at mk (by omega)
      obtain ⟨lb, rfl⟩ := rdT_some hL hLx
      repeat' (first | (with_reducible first | refine p_tn ?_ | refine wp_seq ?_ | refine wp_block ?_) | (with_reducible (refine is_if ?_; (refine w_ift rfl ?_))) | (with_reducible first | refine wp_skip ?_ | refine l_nil ?_))
      have HS := H.pick [0] [] (by decide) (by decide) rfl rfl
      refine d_start (fun w_ => HpS _ w w_ _ _) #[false, false, false, false, false, false, false, false, false, false, false, false, false, false, false, false, false, false] (by kernel_rfl) rfl rfl HS.drew ?_
      have H := H.drew
      have HS := HS.drew
      first | (refine d_pure (i := 0) #[true, false, false, false, false, false, false, false, false, false, false, false, false, false, false, false, false, false] rfl (by kernel_rfl) (fun _ _ _ h => h) rfl (fun w_ => evF_run (o := ⟨_, _, _, _, _, _⟩) flds rfl) ?_) | (refine d_pure (i := 0) #[true, false, false, false, false, false, false, false, false, false, false, false, false, false, false, false, false, false] rfl (by kernel_rfl) (fun _ _ _ h => h) rfl (fun w_ => evG_run (o := ⟨_, _, _, _, _, _⟩) flds rfl) ?_)
      first | (refine d_take (i := 1) #[true, true, false, false, false, false, false, false, false, false, false, false, false, false, false, false, false, false] rfl (by kernel_rfl) (fun _ _ _ h => h) rfl (fun w_ K => evL_run (o := ⟨_, _, _, _, _, _⟩) txs rfl (K.cellAt 0 rfl rfl)) HS ?_)
      first | (refine d_pure (i := 2) #[true, true, true, false, false, false, false, false, false, false, false, false, false, false, false, false, false, false] rfl (by kernel_rfl) (fun _ _ _ h => h) rfl (fun w_ => evP_run (o := ⟨_, _, _, _, _, _⟩) txs rfl) ?_)
      first | (refine d_pure (i := 3) #[true, true, true, true, false, false, false, false, false, false, false, false, false, false, false, false, false, false] rfl (by kernel_rfl) (fun _ _ _ h => h) rfl (fun w_ => evIA_run (o := ⟨_, _, _, _, _, _⟩) txs rfl (by omega) (by omega)) ?_)
      first | (refine d_take (i := 4) #[true, true, true, true, true, false, false, false, false, false, false, false, false, false, false, false, false, false] rfl (by kernel_rfl) (fun _ _ _ h => h) rfl (fun w_ K => evL_run (o := ⟨_, _, _, _, _, _⟩) txs rfl (by rw [Int.toNat_natCast]; exact K.old (rdT_cell hL hLx))) HS ?_)
      first | (refine d_pure (i := 5) #[true, true, true, true, true, true, false, false, false, false, false, false, false, false, false, false, false, false] rfl (by kernel_rfl) (fun _ _ _ h => h) rfl (fun w_ => evF_run (o := ⟨_, _, _, _, _, _⟩) flds rfl) ?_) | (refine d_pure (i := 5) #[true, true, true, true, true, true, false, false, false, false, false, false, false, false, false, false, false, false] rfl (by kernel_rfl) (fun _ _ _ h => h) rfl (fun w_ => evG_run (o := ⟨_, _, _, _, _, _⟩) flds rfl) ?_)
      first | (refine d_take (i := 6) #[true, true, true, true, true, true, true, false, false, false, false, false, false, false, false, false, false, false] rfl (by kernel_rfl) (fun _ _ _ h => h) rfl (fun w_ K => evL_run (o := ⟨_, _, _, _, _, _⟩) txs rfl (K.cellAt 0 rfl rfl)) HS ?_)
      first | (refine d_pure (i := 7) #[true, true, true, true, true, true, true, true, false, false, false, false, false, false, false, false, false, false] rfl (by kernel_rfl) (fun _ _ _ h => h) rfl (fun w_ => evT_no (o := ⟨_, _, _, _, _, _⟩) txs rfl (fun h => h rfl)) ?_)
      first | (refine d_pure (i := 8) #[true, true, true, true, true, true, true, true, true, false, false, false, false, false, false, false, false, false] rfl (by kernel_rfl) (fun _ _ _ h => h) rfl (fun w_ => evP_run (o := ⟨_, _, _, _, _, _⟩) txs rfl) ?_)
      first | (refine d_off (i := 9) #[true, true, true, true, true, true, true, true, true, true, false, false, false, false, false, false, false, false] rfl (by kernel_rfl) (fun _ _ _ h => h) rfl ?_) | (first | (refine d_pure (i := 9) #[true, true, true, true, true, true, true, true, true, true, false, false, false, false, false, false, false, false] rfl (by kernel_rfl) (fun _ _ _ h => h) rfl (fun w_ => evF_run (o := ⟨_, _, _, _, _, _⟩) flds rfl) ?_) | (refine d_pure (i := 9) #[true, true, true, true, true, true, true, true, true, true, false, false, false, false, false, false, false, false] rfl (by kernel_rfl) (fun _ _ _ h => h) rfl (fun w_ => evG_run (o := ⟨_, _, _, _, _, _⟩) flds rfl) ?_))
      first | (refine d_off (i := 10) #[true, true, true, true, true, true, true, true, true, true, true, false, false, false, false, false, false, false] rfl (by kernel_rfl) (fun _ _ _ h => h) rfl ?_) | (first | (refine d_take (i := 10) #[true, true, true, true, true, true, true, true, true, true, true, false, false, false, false, false, false, false] rfl (by kernel_rfl) (fun _ _ _ h => h) rfl (fun w_ K => evL_run (o := ⟨_, _, _, _, _, _⟩) txs rfl (K.cellAt 0 rfl rfl)) HS ?_))
      first | (refine d_off (i := 11) #[true, true, true, true, true, true, true, true, true, true, true, true, false, false, false, false, false, false] rfl (by kernel_rfl) (fun _ _ _ h => h) rfl ?_) | (first | (refine d_pure (i := 11) #[true, true, true, true, true, true, true, true, true, true, true, true, false, false, false, false, false, false] rfl (by kernel_rfl) (fun _ _ _ h => h) rfl (fun w_ => evP_run (o := ⟨_, _, _, _, _, _⟩) txs rfl) ?_))
      first | (refine d_off (i := 12) #[true, true, true, true, true, true, true, true, true, true, true, true, true, false, false, false, false, false] rfl (by kernel_rfl) (fun _ _ _ h => h) rfl ?_) | (first | (refine d_pure (i := 12) #[true, true, true, true, true, true, true, true, true, true, true, true, true, false, false, false, false, false] rfl (by kernel_rfl) (fun _ _ _ h => h) rfl (fun w_ => evIA_run (o := ⟨_, _, _, _, _, _⟩) txs rfl (by omega) (by omega)) ?_))
      first | (refine d_off (i := 13) #[true, true, true, true, true, true, true, true, true, true, true, true, true, true, false, false, false, false] rfl (by kernel_rfl) (fun _ _ _ h => h) rfl ?_) | (first | (refine d_take (i := 13) #[true, true, true, true, true, true, true, true, true, true, true, true, true, true, false, false, false, false] rfl (by kernel_rfl) (fun _ _ _ h => h) rfl (fun w_ K => evL_run (o := ⟨_, _, _, _, _, _⟩) txs rfl (by rw [Int.toNat_natCast]; exact K.old (rdT_cell hM hMy))) HS ?_))
      first | (refine d_off (i := 14) #[true, true, true, true, true, true, true, true, true, true, true, true, true, true, true, false, false, false] rfl (by kernel_rfl) (fun _ _ _ h => h) rfl ?_) | (first | (refine d_pure (i := 14) #[true, true, true, true, true, true, true, true, true, true, true, true, true, true, true, false, false, false] rfl (by kernel_rfl) (fun _ _ _ h => h) rfl (fun w_ => evF_run (o := ⟨_, _, _, _, _, _⟩) flds rfl) ?_) | (refine d_pure (i := 14) #[true, true, true, true, true, true, true, true, true, true, true, true, true, true, true, false, false, false] rfl (by kernel_rfl) (fun _ _ _ h => h) rfl (fun w_ => evG_run (o := ⟨_, _, _, _, _, _⟩) flds rfl) ?_))
      first | (refine d_off (i := 15) #[true, true, true, true, true, true, true, true, true, true, true, true, true, true, true, true, false, false] rfl (by kernel_rfl) (fun _ _ _ h => h) rfl ?_) | (first | (refine d_take (i := 15) #[true, true, true, true, true, true, true, true, true, true, true, true, true, true, true, true, false, false] rfl (by kernel_rfl) (fun _ _ _ h => h) rfl (fun w_ K => evL_run (o := ⟨_, _, _, _, _, _⟩) txs rfl (K.cellAt 0 rfl rfl)) HS ?_))
      first | (refine d_off (i := 16) #[true, true, true, true, true, true, true, true, true, true, true, true, true, true, true, true, true, false] rfl (by kernel_rfl) (fun _ _ _ h => h) rfl ?_) | (first | (refine d_pure (i := 16) #[true, true, true, true, true, true, true, true, true, true, true, true, true, true, true, true, true, false] rfl (by kernel_rfl) (fun _ _ _ h => h) rfl (fun w_ => evT_no (o := ⟨_, _, _, _, _, _⟩) txs rfl (fun h => h rfl)) ?_))
      first | (refine d_pure (i := 17) #[true, true, true, true, true, true, true, true, true, true, true, true, true, true, true, true, true, true] rfl (by kernel_rfl) (fun _ _ _ h => h) rfl (fun w_ => evP_run (o := ⟨_, _, _, _, _, _⟩) txs rfl) ?_)
      refine d_done rfl ?_
      repeat' (first | (with_reducible first | refine p_tn ?_ | refine p_bn ?_ | refine w_reg ?_) | (with_reducible (refine is_if ?_; (refine w_iff rfl ?_))) | (with_reducible first | refine wp_skip ?_ | refine l_nil ?_) | ((with_reducible refine g_on ?_); (first | ((with_reducible refine g_mv ?_); refine l_p txs rfl rfl ?_) | ((with_reducible refine g_as ?_); refine l_p txs rfl rfl ?_) | ((with_reducible refine g_bi ?_); (refine l_a txs rfl rfl (by first | exact in_i64 (by omega) (by omega) | exact in_u8 (by omega) (by omega) | exact in_u64 (by omega) (by omega) | exact in_i32 (by omega) (by omega)) ?_)))))
      exact ⟨j + 1, _, rfl, ⟨rfl, rfl, rfl, rfl, trivial⟩, ⟨H, by omega⟩, by omega⟩
    · repeat' (first | (with_reducible first | refine p_tn ?_ | refine p_tx ?_ | refine p_bn ?_ | refine x_hit ?_ | refine w_reg ?_) | (with_reducible (refine is_if ?_; (refine w_iff rfl ?_))) | (with_reducible first | refine wp_exit ?_ | refine l_nil ?_) | ((with_reducible refine g_on ?_); (first | ((with_reducible refine g_mv ?_); refine l_p txs rfl rfl ?_) | ((with_reducible refine g_as ?_); refine l_p txs rfl rfl ?_) | ((with_reducible refine g_bi ?_); (refine l_a txs rfl rfl (by first | exact in_i64 (by omega) (by omega) | exact in_u8 (by omega) (by omega) | exact in_u64 (by omega) (by omega) | exact in_i32 (by omega) (by omega)) ?_)))))
      have H := H.pick [] [] (by decide) (by decide) rfl rfl
      exact ⟨i + 1, _, rfl, ⟨rfl, rfl, trivial⟩, ⟨H, by omega⟩, by omega⟩
  · repeat' (first | (with_reducible first | refine p_tn ?_ | refine p_tx ?_ | refine x_hit ?_ | refine wp_seq ?_ | refine w_reg ?_) | (with_reducible (refine is_if ?_; (refine w_iff rfl ?_))) | (with_reducible first | refine wp_exit ?_ | refine wp_ret ?_ | refine l_nil ?_) | ((with_reducible refine g_on ?_); ((with_reducible refine g_as ?_); refine l_p txs rfl rfl ?_)))
    refine end1 rfl rfl ?_
    exact ⟨rfl, H.B⟩
end Go.Proofs.YtnimaenhijlcmaaGreatDoor.K.Kp
end
