/- The law TextPieces. -/
import Derived.Test.YtljinjgamgmocaaPe
namespace Go.Proofs.Ytljinjgamgmocaa.K
open Go.RowKit Go.Proofs.Ytljinjgamgmocaa.Q Go.Proofs.Ytljinjgamgmocaa.Mb Go.Proofs.YtljinjgamgmocaaW.PrintWords Go.Proofs.YtljinjgamgmocaaW.PrintLast
set_option linter.unusedVariables false
set_option linter.unusedSimpArgs false
theorem rep_set {ls : List L} {i : Nat} (h : i < ls.length) (x : L) : (List.replicate i x ++ ls.drop i).set i x = List.replicate (i + 1) x ++ ls.drop (i + 1) := by
  rw [List.drop_eq_getElem_cons h, List.set_append_right _ _ (by simp), List.length_replicate, Nat.sub_self, List.set_cons_zero, List.replicate_succ', List.append_assoc]
  rfl
theorem strC_set (l : List L) (i : Nat) (x : L) : (strC l).set i (.string (strOfNums x)) = strC (l.set i x) := by
  simp only [strC, List.map_set]
theorem strC_snoc (l : List L) (x : L) : strC (l ++ [x]) = strC l ++ [.string (strOfNums x)] := by simp [strC]
theorem strC_len (l : List L) : (strC l).length = l.length := List.length_map _
theorem h35 : Value.string ⟨#[35]⟩ = .string (strOfNums [35]) := by kernel_rfl
theorem b35 : bl (strOfNums [35]) = bl ⟨#[35]⟩ := by kernel_rfl
theorem b3535 : bl (strOfNums [35, 35]) = bl ⟨#[35, 35]⟩ := by kernel_rfl
theorem h3535 : Value.string ⟨#[35, 35]⟩ = .string (strOfNums [35, 35]) := by kernel_rfl
theorem at_row (g k : Nat) : (⟨g, 0, none⟩ : Addr).add (k * 1) = ⟨g, k, none⟩ := by
  rw [add_lit, Nat.mul_one, Nat.zero_add]
theorem row_blk {w0 w : World} {l : List Ent} {r : List RowD} (H : Hp w0 w l r) (k : Nat) {A : Option Addr} {n c : Nat} {e : TypeId} {cs : List Value} (hk : r[k]? = some ⟨.slice A n c, e, 1, n, cs⟩) (h0 : 0 < n) : ∃ g, A = some ⟨g, 0, none⟩ := by
  obtain ⟨_, h | ⟨g, cap, cur, h, _⟩⟩ := H.row k _ hk
  · simp only [Value.slice.injEq] at h
    have : n = 0 := h.2
    omega
  · simp only [Value.slice.injEq] at h
    exact ⟨g, h.1⟩
theorem rowB_rd {w0 w : World} {l : List Ent} {r : List RowD} (H : Hp w0 w l r) (k : Nat) {A : Option Addr} {c : Nat} {x : L} (hk : r[k]? = some (rowB (.slice A x.length c) x)) (hl : x.length ≤ 9223372036854775807) : ReadsInt w .u8 A x.length x ∧ x.length ≤ c := by
  obtain ⟨A', c', e, hc, hrd, _⟩ := H.rd k hk
  simp only [Value.slice.injEq] at e
  obtain ⟨e1, _, e2⟩ := e
  subst e1 e2
  exact ⟨reads_of_rd hrd hl, hc⟩
theorem pre_rd {w : World} {A : Option Addr} {a b : List Value} (h : Rd w A (a ++ b)) : Rd w A a := ⟨fun e => (List.append_eq_nil_iff.1 (h.1 e)).1, fun ad e i v hv => h.2 ad e i v (by rw [List.getElem?_append_left (List.getElem?_eq_some_iff.1 hv).1, hv])⟩
theorem row_rd {w0 w : World} {l : List Ent} {r : List RowD} (H : Hp w0 w l r) (k : Nat) {A : Option Addr} {n c : Nat} {e : TypeId} {cs : List Value} (hk : r[k]? = some ⟨.slice A n c, e, 1, n, cs⟩) : Rd w A cs := by
  obtain ⟨A', c', e, hc, hrd, _⟩ := H.rd k hk
  simp only [Value.slice.injEq] at e
  rw [e.1]
  exact hrd
theorem bl_app (s t : ByteArray) : bl (s ++ t) = bl s ++ bl t := by
  simp [bl]
theorem bytes_snoc {x : L} (h : Bytes x) : Bytes (x ++ [10]) := by
  intro y hy
  rcases List.mem_append.1 hy with h1 | h1
  · exact h y h1
  · simp only [List.mem_singleton] at h1
    subst h1
    decide
theorem rep_snoc (n : Nat) (x : L) : List.replicate n x ++ [x] = List.replicate (n + 1) x := by rw [List.replicate_succ']
set_option maxRecDepth 100000 in
set_option maxHeartbeats 32000000 in
theorem textPieces_c {mx : Int} (s : L) (hs : Bytes s) (hl : s.length ≤ 140737488351232) (w : World) (hM : w.cell? ⟨0, 0, none⟩ = some (.int .i64 mx)) (hMn : 0 < w.heap.size) :
    Calls Try.prog 4 #[.string (strOfNums s)] w fun e w' => e = .returned (.bool true) ∧ Below w.heap.size w w' := by
  have hz : (strOfNums s).size = s.length := by rw [← bl_length, blS hs]
  refine enter (args := [.string (strOfNums s)]) Try.func4 rfl Try.ntmps4 rfl ?_
  have H := Hp.nil w
  repeat' (first | (with_reducible first | refine p_tn ?_ | refine wp_seq ?_ | refine w_reg ?_ | refine l_nil ?_) | ((with_reducible refine g_on ?_); (first | ((with_reducible refine g_mv ?_); refine l_p txs rfl rfl ?_) | ((with_reducible refine g_as ?_); refine l_p txs rfl rfl ?_))))
  (with_reducible refine is_l ?_); refine l_call rfl rfl (by kernel_rfl) (lines_c s hs hl _ hM hMn) (fun e w_ hQ => ?_)
  obtain ⟨v, rfl, hown, hbel⟩ := hQ
  refine ⟨_, rfl, ?_⟩
  obtain ⟨A, c, rfl⟩ := own_slice hown
  have H := H.join (Hp.ofOwn hown hbel)
  repeat' (first | (with_reducible first | refine p_tn ?_ | refine wp_seq ?_ | refine w_reg ?_ | refine l_nil ?_) | ((with_reducible refine g_on ?_); (first | ((with_reducible refine g_mv ?_); refine l_p txs rfl rfl ?_) | ((with_reducible refine g_as ?_); refine l_p txs rfl rfl ?_) | ((with_reducible refine g_ex ?_); refine l_p txs rfl rfl ?_) | ((with_reducible refine g_cl ?_); refine l_p txs rfl rfl ?_))))
  (with_reducible refine is_l ?_); refine l_t txs rfl rfl (fun h1 => ?_) (fun h1 => ?_)
  · have hE : lnE s = 2 := by unfold lnE; rw [if_pos (by omega)]
    have hL : lnL s = [] := by unfold lnL; rw [hE]; rfl
    rw [hE, hL]
    repeat' (first | (with_reducible first | refine p_tn ?_ | refine wp_seq ?_ | refine w_reg ?_) | (with_reducible (refine is_if ?_; (refine w_ift rfl ?_))) | (with_reducible refine l_nil ?_) | ((with_reducible refine g_on ?_); ((with_reducible refine g_mv ?_); refine l_p txs rfl rfl ?_)))
    (with_reducible refine is_l ?_); refine l_t txs rfl rfl (fun _ => ?_) (fun h => absurd rfl h)
    repeat' (first | ((with_reducible refine g_on ?_); ((with_reducible refine g_mv ?_); refine l_p txs rfl rfl ?_)) | ((with_reducible refine g_if ?_); (first | ((with_reducible refine g_mv ?_); refine l_p txs rfl rfl ?_) | ((with_reducible refine g_cl ?_); refine l_p txs rfl rfl ?_))))
    (with_reducible refine is_l ?_); refine l_t txs rfl rfl (fun _ => ?_) (fun h => absurd rfl h)
    repeat' (first | (with_reducible first | refine p_tn ?_ | refine p_tr ?_ | refine wp_ret ?_ | refine l_nil ?_) | ((with_reducible refine g_on ?_); (first | ((with_reducible refine g_as ?_); refine l_p txs rfl rfl ?_) | ((with_reducible refine g_pk ?_); refine l_p txs rfl rfl ?_))))
    refine end1 rfl rfl ?_
    exact ⟨rfl, H.B⟩
  have h2 : s.length ≤ 1048576 := by omega
  have h2' : ¬ 1048576 < s.length := by omega
  repeat' (with_reducible refine l_nil ?_)
  with_reducible refine p_tn ?_
  (with_reducible refine is_if ?_); refine w_iff rfl ?_
  with_reducible refine wp_skip ?_
  with_reducible refine p_tn ?_
  refine w_cut (σ := Unit) (S := fun _ => [(0, .string (strOfNums s)), (3, .slice A (lnL s).length c), (4, .int .i64 (lnE s))]) (J := fun _ w' => Hp w w' [] [rowT (.slice A (lnL s).length c) (lnL s)] ∧ (s = [] ∨ s.getLast? = some 10)) ?_ ?_
  · repeat' (with_reducible first | refine wp_seq ?_ | refine w_reg ?_)
    repeat' ((with_reducible refine g_on ?_); ((with_reducible refine g_mv ?_); refine l_p txs rfl rfl ?_))
    (with_reducible refine is_l ?_); refine l_t txs rfl rfl (fun h3 => ?_) (fun h3 => ?_)
    · have hne : s ≠ [] := fun e => h3 (by rw [e]; rfl)
      have hla := at_last hne
      have h0 : 0 < s.length := List.length_pos_iff.2 hne
      repeat' (first | ((with_reducible refine g_on ?_); ((with_reducible refine g_mv ?_); refine l_p txs rfl rfl ?_)) | ((with_reducible refine g_if ?_); (first | ((with_reducible refine g_mv ?_); refine l_p txs rfl rfl ?_) | ((with_reducible refine g_cl ?_); refine l_p txs rfl rfl ?_) | ((with_reducible refine g_ix ?_); refine l_ix txs rfl rfl (by first | omega | assumption | decide) (by first | omega | assumption | decide) ?_) | ((with_reducible refine g_bi ?_); (refine l_a txs rfl rfl (by first | exact in_i64 (by omega) (by omega) | exact in_u8 (by omega) (by omega) | exact in_u64 (by omega) (by omega) | exact in_i32 (by omega) (by omega)) ?_)))))
      (with_reducible refine is_l ?_); refine l_t txs rfl rfl (fun h4 => ?_) (fun h4 => ?_)
      · rw [blS hs, hz] at h4
        have h5 : s ≠ [] ∧ s.getLast? ≠ some 10 := ⟨hne, by rw [hla]; intro e; exact h4 (Option.some.inj e)⟩
        have hE : lnE s = 64 := by unfold lnE; rw [if_neg h2', if_pos h5]
        have hL : lnL s = [] := by unfold lnL; rw [hE]; rfl
        rw [hE, hL]
        repeat' (first | (with_reducible first | refine p_tn ?_ | refine wp_seq ?_ | refine w_reg ?_) | (with_reducible (refine is_if ?_; (refine w_ift rfl ?_))) | (with_reducible refine l_nil ?_) | ((with_reducible refine g_on ?_); (first | ((with_reducible refine g_mv ?_); refine l_p txs rfl rfl ?_) | ((with_reducible refine g_pk ?_); refine l_p txs rfl rfl ?_))))
        (with_reducible refine is_l ?_); refine l_t txs rfl rfl (fun _ => ?_) (fun h => absurd rfl h)
        repeat' (first | ((with_reducible refine g_on ?_); ((with_reducible refine g_mv ?_); refine l_p txs rfl rfl ?_)) | ((with_reducible refine g_if ?_); (first | ((with_reducible refine g_mv ?_); refine l_p txs rfl rfl ?_) | ((with_reducible refine g_cl ?_); refine l_p txs rfl rfl ?_))))
        (with_reducible refine is_l ?_); refine l_t txs rfl rfl (fun _ => ?_) (fun h => absurd rfl h)
        repeat' (first | (with_reducible first | refine p_tn ?_ | refine p_tr ?_ | refine wp_ret ?_ | refine l_nil ?_) | ((with_reducible refine g_on ?_); (first | ((with_reducible refine g_as ?_); refine l_p txs rfl rfl ?_) | ((with_reducible refine g_pk ?_); refine l_p txs rfl rfl ?_))))
        refine end1 rfl rfl ?_
        exact ⟨rfl, H.B⟩
      · rw [blS hs, hz] at h4
        repeat' (first | (with_reducible refine p_tn ?_) | (with_reducible (refine is_if ?_; (refine w_iff rfl ?_))) | (with_reducible first | refine wp_skip ?_ | refine l_nil ?_) | ((with_reducible refine g_on ?_); ((with_reducible refine g_pk ?_); refine l_p txs rfl rfl ?_)))
        exact ⟨(), _, rfl, ⟨rfl, rfl, rfl, trivial⟩, H, .inr (by rw [hla]; exact congrArg some (Classical.not_not.1 h4))⟩
    · have hne : s = [] := by
        have h5 : bl (strOfNums s) = bl ⟨#[]⟩ := Classical.not_not.1 h3
        rw [blS hs] at h5
        exact h5
      repeat' (first | (with_reducible refine p_tn ?_) | (with_reducible (refine is_if ?_; (refine w_iff rfl ?_))) | (with_reducible first | refine wp_skip ?_ | refine l_nil ?_) | ((with_reducible refine g_on ?_); (first | ((with_reducible refine g_mv ?_); refine l_p txs rfl rfl ?_) | ((with_reducible refine g_pk ?_); refine l_p txs rfl rfl ?_))) | ((with_reducible refine g_if ?_); (refine l_off rfl ?_)))
      exact ⟨(), _, rfl, ⟨rfl, rfl, rfl, trivial⟩, H, .inl hne⟩
  clear H hown hbel
  rintro ⟨⟩ f w_ ⟨H, hg⟩
  have hE : lnE s = 0 := by
    unfold lnE
    rw [if_neg h2', if_neg]
    rintro ⟨h3, h4⟩
    rcases hg with hg | hg
    · exact h3 hg
    · exact h4 hg
  have hL : lnL s = lines s := by unfold lnL; rw [if_pos hE]
  have hbs := lines_bytes hs
  have hno := lines_no s
  have hgl := lines_glue hg
  have hln := lines_len _ s (Nat.le_refl _)
  have hcall := fun (w1 : World) (h : w1.cell? ⟨0, 0, none⟩ = some (.int .i64 mx)) (h' : 0 < w1.heap.size) => lines_c s hs hl w1 h h'
  unfold LnR at hcall
  rw [hE, hL] at hcall
  rw [hE]
  rw [hL] at H ⊢
  generalize lines s = ls at hbs hno hgl hln hcall H ⊢
  have hbl : ∀ {i : Nat} {x : L}, ls[i]? = some x → Bytes x ∧ x.length + 1 ≤ s.length ∧ (10 : Int) ∉ x := fun hx => ⟨hbs _ (List.mem_of_getElem? hx), by rw [← hgl]; exact glue_mem_len (List.mem_of_getElem? hx), hno _ (List.mem_of_getElem? hx)⟩
  have H := H.nilRow 5 1
  repeat' (first | (with_reducible first | refine p_tn ?_ | refine wp_seq ?_ | refine wp_block ?_ | refine w_reg ?_ | refine l_nil ?_) | ((with_reducible refine g_on ?_); ((with_reducible refine g_as ?_); refine l_p txs rfl rfl ?_)))
  refine w_loop (σ := Nat × Option Addr × Nat) (S := fun q => [(0, .string (strOfNums s)), (3, .slice A ls.length c), (4, .int .i64 0), (5, .slice q.2.1 (glue (ls.take q.1)).length q.2.2), (6, .int .i64 (q.1 : Int))]) (J := fun q w' => Hp w w' [] [rowB (.slice q.2.1 (glue (ls.take q.1)).length q.2.2) (glue (ls.take q.1)), rowT (.slice A ls.length c) ls] ∧ q.1 ≤ ls.length) (μ := fun q => ls.length - q.1) (0, none, 0) ⟨rfl, rfl, rfl, rfl, rfl, trivial⟩ ⟨H, Nat.zero_le _⟩ ?_
  clear H
  rintro ⟨i, A2, c2⟩ f w_ ⟨H, hi⟩
  simp only at H hi ⊢
  repeat' (first | (with_reducible first | refine wp_seq ?_ | refine w_reg ?_) | ((with_reducible refine g_on ?_); (first | ((with_reducible refine g_mv ?_); refine l_p txs rfl rfl ?_) | ((with_reducible refine g_cl ?_); refine l_p txs rfl rfl ?_))))
  (with_reducible refine is_l ?_); refine l_t txs rfl rfl (fun hlt => ?_) (fun hge => ?_)
  · obtain ⟨x, hx⟩ : ∃ x, ls[i]? = some x := ⟨_, List.getElem?_eq_getElem (by omega)⟩
    obtain ⟨ad, rfl⟩ := rdT_some (rowT_at H 1 rfl) hx
    obtain ⟨bx, lx, nx⟩ := hbl hx
    have hgt := glue_take_len ls i
    rw [hgl] at hgt
    have hsx : (strOfNums x).size = x.length := by rw [← bl_length, blS bx]
    repeat' (first | (with_reducible first | refine p_tn ?_ | refine wp_seq ?_ | refine wp_block ?_ | refine w_reg ?_) | (with_reducible (refine is_if ?_; (refine w_ift rfl ?_))) | (with_reducible first | refine wp_skip ?_ | refine l_nil ?_) | ((with_reducible refine g_on ?_); (first | ((with_reducible refine g_mv ?_); refine l_p txs rfl rfl ?_) | ((with_reducible refine g_ia ?_); refine l_ia txs rfl rfl (by first | omega | assumption | decide) (by first | omega | assumption | decide) ?_))))
    (with_reducible refine is_l ?_); refine l_ld txs rfl rfl (by rw [Int.toNat_natCast]; exact rdT_cell (rowT_at H 1 rfl) hx) ?_
    skip
    (with_reducible refine is_l ?_); refine l_callp rfl rfl (by kernel_rfl) (holds_c bx (by omega) nx _) ?_
    repeat' (first | (with_reducible first | refine p_tn ?_ | refine wp_seq ?_ | refine w_reg ?_) | (with_reducible (refine is_if ?_; (refine w_iff rfl ?_))) | (with_reducible first | refine wp_skip ?_ | refine l_nil ?_) | ((with_reducible refine g_on ?_); (first | ((with_reducible refine g_mv ?_); refine l_p txs rfl rfl ?_) | ((with_reducible refine g_ia ?_); refine l_ia txs rfl rfl (by first | omega | assumption | decide) (by first | omega | assumption | decide) ?_))))
    (with_reducible refine is_l ?_); refine l_ld txs rfl rfl (by rw [Int.toNat_natCast]; exact rdT_cell (rowT_at H 1 rfl) hx) ?_
    skip
    (with_reducible refine is_l ?_); refine h_appS H 0 info_u8 Try.underlying29 Try.underlying9 rfl rfl rfl (by omega) (fun v' w_ hv H => ?_)
    obtain ⟨A', c', rfl⟩ := hv
    rw [blS bx] at H ⊢
    repeat' (first | (with_reducible first | refine p_tn ?_ | refine w_reg ?_ | refine l_nil ?_) | ((with_reducible refine g_on ?_); (first | ((with_reducible refine g_mv ?_); refine l_p txs rfl rfl ?_) | ((with_reducible refine g_as ?_); refine l_p txs rfl rfl ?_))))
    (with_reducible refine is_l ?_); refine h_bs H info_u8 Try.underlying29 (by decide) (by decide) rfl rfl (by kernel_rfl) (fun g_ w_ H => ?_)
    (with_reducible refine is_l ?_); refine h_app H 0 rfl info_u8 Try.underlying29 rfl rfl rfl rfl (H.cellRd 0 rfl) rfl rfl (by show ((glue (ls.take i) ++ x).length + 1) * 1 ≤ _; rw [List.length_append]; omega) (fun v w_ hv H => ?_)
    obtain ⟨A4, c4, hv⟩ := hv
    have hv : v = .slice A4 ((glue (ls.take i) ++ x).length + 1) c4 := hv
    subst hv
    have H := H.pick [] [0, 1] (by decide) (by decide) rfl rfl
    repeat' (first | (with_reducible first | refine p_tn ?_ | refine p_bn ?_ | refine w_reg ?_ | refine l_nil ?_) | ((with_reducible refine g_on ?_); (first | ((with_reducible refine g_mv ?_); refine l_p txs rfl rfl ?_) | ((with_reducible refine g_as ?_); refine l_p txs rfl rfl ?_) | ((with_reducible refine g_bi ?_); (refine l_a txs rfl rfl (by first | exact in_i64 (by omega) (by omega) | exact in_u8 (by omega) (by omega) | exact in_u64 (by omega) (by omega) | exact in_i32 (by omega) (by omega)) ?_)))))
    have hgs : glue (ls.take (i + 1)) = (glue (ls.take i) ++ x) ++ [10] := by rw [take_of hx, glue_snoc, List.append_assoc]
    have hgn : (glue (ls.take (i + 1))).length = (glue (ls.take i) ++ x).length + 1 := by rw [hgs, List.length_append]; rfl
    refine ⟨(i + 1, A4, c4), _, rfl, ⟨rfl, rfl, rfl, by show _ = Value.slice A4 (glue (ls.take (i + 1))).length c4; rw [hgn]; rfl, rfl, trivial⟩, ⟨?_, by show i + 1 ≤ _; omega⟩, by show ls.length - (i + 1) < ls.length - i; omega⟩
    show Hp w w_ [] [⟨.slice A4 (glue (ls.take (i + 1))).length c4, _, 1, (glue (ls.take (i + 1))).length, nums .u8 (glue (ls.take (i + 1)))⟩, _]
    rw [hgn, hgs, nums_append]
    exact H
  have hik : i = ls.length := by omega
  subst hik
  rw [List.take_length, hgl] at H ⊢
  repeat' (first | (with_reducible first | refine p_tn ?_ | refine p_tx ?_ | refine x_hit ?_ | refine wp_seq ?_ | refine w_reg ?_) | (with_reducible (refine is_if ?_; (refine w_iff rfl ?_))) | (with_reducible first | refine wp_exit ?_ | refine l_nil ?_) | ((with_reducible refine g_on ?_); ((with_reducible refine g_mv ?_); refine l_p txs rfl rfl ?_)))
  obtain ⟨hs0, _⟩ := rowB_rd H 0 rfl (by omega)
  (with_reducible refine is_l ?_); refine l_t txs rfl rfl (fun h => absurd rfl h) (fun _ => ?_)
  repeat' (first | ((with_reducible refine g_on ?_); ((with_reducible refine g_mv ?_); refine l_p txs rfl rfl ?_)) | ((with_reducible refine g_if ?_); ((with_reducible refine g_mv ?_); refine l_p txs rfl rfl ?_)))
  (with_reducible refine is_l ?_); refine l_text rfl rfl Try.underlying29 Try.underlying5 Try.underlying9 hs0 ?_
  clear hs0
  repeat' ((with_reducible refine g_if ?_); ((with_reducible refine g_mv ?_); refine l_p txs rfl rfl ?_))
  (with_reducible refine is_l ?_); refine l_t txs rfl rfl (fun h => absurd rfl h) (fun _ => ?_)
  have H : Hp w w_ [] [rowB (.slice A2 s.length c2) s, rowT (.slice A ls.length c) (List.replicate 0 [35] ++ ls.drop 0)] := H
  repeat' (first | (with_reducible first | refine p_tn ?_ | refine wp_seq ?_ | refine wp_block ?_ | refine w_reg ?_) | (with_reducible (refine is_if ?_; (refine w_iff rfl ?_))) | (with_reducible first | refine wp_skip ?_ | refine l_nil ?_) | ((with_reducible refine g_on ?_); (first | ((with_reducible refine g_as ?_); refine l_p txs rfl rfl ?_) | ((with_reducible refine g_pk ?_); refine l_p txs rfl rfl ?_))))
  refine w_loop (σ := Nat) (S := fun i => [(0, .string (strOfNums s)), (3, .slice A ls.length c), (5, .slice A2 s.length c2), (7, .int .i64 (i : Int))]) (J := fun i w' => Hp w w' [] [rowB (.slice A2 s.length c2) s, ⟨.slice A ls.length c, 9, 1, ls.length, strC (List.replicate i [35] ++ ls.drop i)⟩] ∧ i ≤ ls.length) (μ := fun i => ls.length - i) 0 ⟨rfl, rfl, rfl, rfl, trivial⟩ ⟨H, Nat.zero_le _⟩ ?_
  clear H hi hge
  rintro i f w_ ⟨H, hi⟩
  repeat' (first | (with_reducible first | refine wp_seq ?_ | refine w_reg ?_) | ((with_reducible refine g_on ?_); (first | ((with_reducible refine g_mv ?_); refine l_p txs rfl rfl ?_) | ((with_reducible refine g_cl ?_); refine l_p txs rfl rfl ?_))))
  (with_reducible refine is_l ?_); refine l_t txs rfl rfl (fun hlt => ?_) (fun hge => ?_)
  · obtain ⟨g, rfl⟩ := row_blk H 1 rfl (by omega)
    repeat' (first | (with_reducible first | refine p_tn ?_ | refine wp_seq ?_ | refine wp_block ?_ | refine w_reg ?_) | (with_reducible (refine is_if ?_; (refine w_ift rfl ?_))) | (with_reducible first | refine wp_skip ?_ | refine l_nil ?_) | ((with_reducible refine g_on ?_); (first | ((with_reducible refine g_mv ?_); refine l_p txs rfl rfl ?_) | ((with_reducible refine g_ia ?_); refine l_ia txs rfl rfl (by first | omega | assumption | decide) (by first | omega | assumption | decide) ?_))))
    (with_reducible refine is_l ?_); refine h_stE (by kernel_rfl) H 1 (i := i) (v := .string ⟨#[35]⟩) rfl rfl rfl rfl (by rw [Int.toNat_natCast]; exact at_row _ _) rfl rfl (by omega) (fun w_ H => ?_)
    have H : Hp w w_ [] [rowB (.slice A2 s.length c2) s, ⟨.slice (some ⟨g, 0, none⟩) ls.length c, 9, 1, ls.length, strC (List.replicate (i + 1) [35] ++ ls.drop (i + 1))⟩] := by
      rw [← rep_set (by omega), ← strC_set, ← h35]
      exact H
    repeat' (first | (with_reducible first | refine p_tn ?_ | refine p_bn ?_ | refine w_reg ?_ | refine l_nil ?_) | ((with_reducible refine g_on ?_); (first | ((with_reducible refine g_mv ?_); refine l_p txs rfl rfl ?_) | ((with_reducible refine g_as ?_); refine l_p txs rfl rfl ?_) | ((with_reducible refine g_bi ?_); (refine l_a txs rfl rfl (by first | exact in_i64 (by omega) (by omega) | exact in_u8 (by omega) (by omega) | exact in_u64 (by omega) (by omega) | exact in_i32 (by omega) (by omega)) ?_)))))
    exact ⟨i + 1, _, rfl, ⟨rfl, rfl, rfl, rfl, trivial⟩, ⟨H, by omega⟩, by omega⟩
  obtain rfl : i = ls.length := by omega
  rw [show List.replicate ls.length [35] ++ ls.drop ls.length = List.replicate ls.length ([35] : L) by simp] at H
  repeat' (first | (with_reducible first | refine p_tn ?_ | refine p_tx ?_ | refine x_hit ?_ | refine wp_seq ?_ | refine w_reg ?_) | (with_reducible (refine is_if ?_; (refine w_iff rfl ?_))) | (with_reducible first | refine wp_exit ?_ | refine l_nil ?_) | ((with_reducible refine g_on ?_); (first | ((with_reducible refine g_mv ?_); refine l_p txs rfl rfl ?_) | ((with_reducible refine g_as ?_); refine l_p txs rfl rfl ?_))))
  (with_reducible refine is_l ?_); refine h_bs H info_str3 Try.underlying25 (by decide) (by decide) rfl rfl (by kernel_rfl) (fun g_ w_ H => ?_)
  (with_reducible refine is_l ?_); refine h_app2 H 1 rfl info_str3 Try.underlying25 rfl rfl rfl rfl (by decide) (H.cellRd 0 rfl) rfl rfl (by show (ls.length + 1) * 16 ≤ _; omega) (fun v w_ hv => ?_)
  obtain ⟨A', c', rfl, H, hO⟩ : ∃ A' c', v = .slice A' (ls.length + 1) c' ∧ Hp w w_ [] [⟨.slice A' (ls.length + 1) c', 9, 1, ls.length + 1, strC (List.replicate ls.length [35] ++ [[35, 35]])⟩, rowB (.slice A2 s.length c2) s] ∧ Rd w_ A (strC (List.replicate ls.length [35])) := by
    rw [strC_snoc, ← h3535]
    rcases hv with ⟨a, c', e1, e2, H⟩ | ⟨A', c', e2, H⟩
    · have e1 : Value.slice A ls.length c = .slice (some a) ls.length c' := e1
      simp only [Value.slice.injEq, true_and] at e1
      obtain ⟨e3, e4⟩ := e1
      subst e3 e4
      have e2 : v = .slice (some a) (ls.length + 1) c := e2
      subst e2
      have H := H.pick [] [1, 0] (by decide) (by decide) rfl rfl
      exact ⟨some a, c, rfl, H, pre_rd (row_rd H 0 rfl)⟩
    · have e2 : v = .slice A' (ls.length + 1) c' := e2
      subst e2
      exact ⟨A', c', rfl, H.pick [] [0, 1] (by decide) (by decide) rfl rfl, row_rd H 2 rfl⟩
  clear hv
  repeat' (first | (with_reducible first | refine p_tn ?_ | refine wp_seq ?_ | refine w_reg ?_ | refine l_nil ?_) | ((with_reducible refine g_on ?_); (first | ((with_reducible refine g_mv ?_); refine l_p txs rfl rfl ?_) | ((with_reducible refine g_as ?_); refine l_p txs rfl rfl ?_))))
  (with_reducible refine is_l ?_); refine l_call rfl rfl (by kernel_rfl) (hcall _ (H.old hM) (Nat.lt_of_lt_of_le hMn H.B.size)) (fun e w_ hQ => ?_)
  obtain ⟨v, rfl, hown, hbel⟩ := hQ
  refine ⟨_, rfl, ?_⟩
  obtain ⟨A3, c3, rfl⟩ := own_slice hown
  have H := H.join (Hp.ofOwn hown hbel)
  have hO := hO.below hbel
  have hAg : Rd w_ A3 (strC ls) := row_rd H 0 rfl
  have hLl : Rd w_ A' (strC (List.replicate ls.length [35] ++ [[35, 35]])) := row_rd H 1 rfl
  obtain ⟨hAll, hc2⟩ := rowB_rd H 2 rfl (by omega)
  have B0 := H.B
  clear H hown hbel hcall
  obtain ⟨wi, hwi⟩ : ∃ z, z = w := ⟨_, rfl⟩
  rw [← hwi] at B0 ⊢
  clear hwi
  obtain ⟨w, hw⟩ : ∃ z, z = w_ := ⟨_, rfl⟩
  rw [← hw] at B0 hO hAg hLl hAll ⊢
  clear hw
  have hm : (List.replicate ls.length ([35] : L) ++ [[35, 35]])[ls.length]? = some [35, 35] := by rw [List.getElem?_append_right (by simp)]; simp
  obtain ⟨al, rfl⟩ := rdT_some hLl hm
  have H := Hp.nil w
  repeat' (first | (with_reducible first | refine p_tn ?_ | refine wp_seq ?_ | refine w_reg ?_ | refine l_nil ?_) | ((with_reducible refine g_on ?_); (first | ((with_reducible refine g_mv ?_); refine l_p txs rfl rfl ?_) | ((with_reducible refine g_as ?_); refine l_p txs rfl rfl ?_) | ((with_reducible refine g_ex ?_); refine l_p txs rfl rfl ?_))))
  (with_reducible refine is_l ?_); refine l_t txs rfl rfl (fun h => absurd rfl h) (fun _ => ?_)
  repeat' (first | ((with_reducible refine g_on ?_); ((with_reducible refine g_mv ?_); refine l_p txs rfl rfl ?_)) | ((with_reducible refine g_if ?_); (first | ((with_reducible refine g_mv ?_); refine l_p txs rfl rfl ?_) | ((with_reducible refine g_cl ?_); refine l_p txs rfl rfl ?_) | ((with_reducible refine g_bi ?_); (refine l_a txs rfl rfl (by first | exact in_i64 (by omega) (by omega) | exact in_u8 (by omega) (by omega) | exact in_u64 (by omega) (by omega) | exact in_i32 (by omega) (by omega)) ?_)))))
  (with_reducible refine is_l ?_); refine l_t txs rfl rfl (fun h => absurd (by omega) h) (fun _ => ?_)
  repeat' (first | ((with_reducible refine g_on ?_); (first | ((with_reducible refine g_mv ?_); refine l_p txs rfl rfl ?_) | ((with_reducible refine g_pk ?_); refine l_p txs rfl rfl ?_))) | ((with_reducible refine g_if ?_); (first | ((with_reducible refine g_mv ?_); refine l_p txs rfl rfl ?_) | ((with_reducible refine g_cl ?_); refine l_p txs rfl rfl ?_) | ((with_reducible refine g_ia ?_); refine l_ia txs rfl rfl (by first | omega | assumption | decide) (by first | omega | assumption | decide) ?_) | ((with_reducible refine g_bi ?_); (refine l_a txs rfl rfl (by first | exact in_i64 (by omega) (by omega) | exact in_u8 (by omega) (by omega) | exact in_u64 (by omega) (by omega) | exact in_i32 (by omega) (by omega)) ?_)))))
  (with_reducible refine is_l ?_); refine l_ld txs rfl rfl (by rw [show (((ls.length + 1 : Nat) : Int) - 1).toNat = ls.length by omega]; exact rdT_cell hLl hm) ?_
  skip
  (with_reducible refine is_l ?_); refine l_t txs rfl rfl (fun h => absurd b3535 h) (fun _ => ?_)
  repeat' (first | (with_reducible first | refine p_tn ?_ | refine wp_seq ?_ | refine wp_block ?_ | refine w_reg ?_) | (with_reducible (refine is_if ?_; (refine w_iff rfl ?_))) | (with_reducible first | refine wp_skip ?_ | refine l_nil ?_) | ((with_reducible refine g_on ?_); (first | ((with_reducible refine g_as ?_); refine l_p txs rfl rfl ?_) | ((with_reducible refine g_pk ?_); refine l_p txs rfl rfl ?_))))
  refine w_loop (σ := Nat × Option Addr × Nat) (S := fun q => [(3, .slice (some al) (ls.length + 1) c'), (8, .slice A ls.length c), (9, .slice A3 ls.length c3), (5, .slice q.2.1 (glue (ls.drop q.1)).length q.2.2), (11, .int .i64 (q.1 : Int))]) (J := fun q w' => Hp w w' [] [] ∧ q.1 ≤ ls.length ∧ ReadsInt w .u8 q.2.1 (glue (ls.drop q.1)).length (glue (ls.drop q.1)) ∧ (glue (ls.drop q.1)).length ≤ q.2.2) (μ := fun q => ls.length - q.1) (0, A2, c2) ⟨rfl, rfl, rfl, by show _ = Value.slice A2 (glue ls).length c2; rw [hgl]; rfl, rfl, trivial⟩ ⟨H, Nat.zero_le _, by show ReadsInt w .u8 A2 (glue ls).length (glue ls); rw [hgl]; exact hAll, by show (glue ls).length ≤ c2; rw [hgl]; exact hc2⟩ ?_
  clear H hi hge
  rintro ⟨i, Bq, cq⟩ f w_ ⟨H, hi, hq, hcq⟩
  simp only at H hi hq hcq ⊢
  repeat' (first | (with_reducible first | refine wp_seq ?_ | refine w_reg ?_) | ((with_reducible refine g_on ?_); (first | ((with_reducible refine g_mv ?_); refine l_p txs rfl rfl ?_) | ((with_reducible refine g_cl ?_); refine l_p txs rfl rfl ?_))))
  (with_reducible refine is_l ?_); refine l_t txs rfl rfl (fun hlt => ?_) (fun hge => ?_)
  · obtain ⟨x, hx⟩ : ∃ x, ls[i]? = some x := ⟨_, List.getElem?_eq_getElem (by omega)⟩
    obtain ⟨bx, lx, nx⟩ := hbl hx
    have hr : (List.replicate ls.length ([35] : L))[i]? = some [35] := by rw [List.getElem?_replicate, if_pos (by omega)]
    have hr2 : (List.replicate ls.length ([35] : L) ++ [[35, 35]])[i]? = some [35] := by rw [List.getElem?_append_left (by simp; omega), hr]
    have HH := H
    obtain ⟨aO, rfl⟩ := rdT_some hO hr
    obtain ⟨aA, rfl⟩ := rdT_some hAg hx
    have H := HH
    clear HH
    have hd : glue (ls.drop i) = x ++ 10 :: glue (ls.drop (i + 1)) := by rw [drop_of hx, glue_cons]
    have hdl : (glue (ls.drop i)).length = x.length + 1 + (glue (ls.drop (i + 1))).length := by rw [hd, List.length_append, List.length_cons]; omega
    have hsx : (strOfNums x).size = x.length := by rw [← bl_length, blS bx]
    have hbx := blS bx
    have hdS : (glue (ls.drop i)).take (x.length + 1) = x ++ [10] := by rw [hd, show x ++ 10 :: glue (ls.drop (i + 1)) = (x ++ [10]) ++ glue (ls.drop (i + 1)) by simp, List.take_left' (by simp)]
    have hdD : (glue (ls.drop i)).drop (x.length + 1) = glue (ls.drop (i + 1)) := by rw [hd, show x ++ 10 :: glue (ls.drop (i + 1)) = (x ++ [10]) ++ glue (ls.drop (i + 1)) by simp, List.drop_left' (by simp)]
    have q1 := reads_cut hq (p := 0) (q := x.length + 1) (Nat.zero_le _) (by omega) hcq
    have q2 := reads_cut hq (p := x.length + 1) (q := (glue (ls.drop i)).length) (by omega) (Nat.le_refl _) hcq
    rw [hdS, List.drop_zero] at q1
    rw [List.take_length, hdD, show (glue (ls.drop i)).length - (x.length + 1) = (glue (ls.drop (i + 1))).length by omega] at q2
    have hho := fun w1 => holds_c bx (by omega) nx w1
    repeat' (first | (with_reducible first | refine p_tn ?_ | refine wp_seq ?_ | refine wp_block ?_ | refine w_reg ?_) | (with_reducible (refine is_if ?_; (refine w_ift rfl ?_))) | (with_reducible first | refine wp_skip ?_ | refine l_nil ?_) | ((with_reducible refine g_on ?_); (first | ((with_reducible refine g_mv ?_); refine l_p txs rfl rfl ?_) | ((with_reducible refine g_ia ?_); refine l_ia txs rfl rfl (by first | omega | assumption | decide) (by first | omega | assumption | decide) ?_))))
    (with_reducible refine is_l ?_); refine l_ld txs rfl rfl (by rw [Int.toNat_natCast]; exact H.old (rdT_cell hLl hr2)) ?_
    skip
    (with_reducible refine is_l ?_); refine l_t txs rfl rfl (fun h => absurd b35 h) (fun _ => ?_)
    repeat' (first | ((with_reducible refine g_on ?_); ((with_reducible refine g_mv ?_); refine l_p txs rfl rfl ?_)) | ((with_reducible refine g_if ?_); (first | ((with_reducible refine g_mv ?_); refine l_p txs rfl rfl ?_) | ((with_reducible refine g_ia ?_); refine l_ia txs rfl rfl (by first | omega | assumption | decide) (by first | omega | assumption | decide) ?_))))
    (with_reducible refine is_l ?_); refine l_ld txs rfl rfl (by rw [Int.toNat_natCast]; exact H.old (rdT_cell hO hr)) ?_
    skip
    (with_reducible refine is_l ?_); refine l_t txs rfl rfl (fun h => absurd b35 h) (fun _ => ?_)
    repeat' (first | ((with_reducible refine g_on ?_); (first | ((with_reducible refine g_mv ?_); refine l_p txs rfl rfl ?_) | ((with_reducible refine g_pk ?_); refine l_p txs rfl rfl ?_))) | ((with_reducible refine g_if ?_); (first | ((with_reducible refine g_mv ?_); refine l_p txs rfl rfl ?_) | ((with_reducible refine g_ia ?_); refine l_ia txs rfl rfl (by first | omega | assumption | decide) (by first | omega | assumption | decide) ?_))))
    (with_reducible refine is_l ?_); refine l_ld txs rfl rfl (by rw [Int.toNat_natCast]; exact H.old (rdT_cell hAg hx)) ?_
    skip
    (with_reducible refine is_l ?_); refine l_callp rfl rfl (by kernel_rfl) (hho _) ?_
    repeat' (first | (with_reducible first | refine p_tn ?_ | refine wp_seq ?_) | (with_reducible (refine is_if ?_; (refine w_iff rfl ?_))) | (with_reducible first | refine wp_skip ?_ | refine l_nil ?_) | ((with_reducible refine g_on ?_); ((with_reducible refine g_pk ?_); refine l_p txs rfl rfl ?_)))
    have hax : ∀ w1 : World, Below w.heap.size w w1 → w1.cell? (aA.add ((i : Int).toNat * 1)) = some (.string (strOfNums x)) := fun w1 h => by rw [Int.toNat_natCast]; exact pw_cell_below h (rdT_cell hAg hx)
    have heq : bl (strOfNums (x ++ [10])) = bl (strOfNums x ++ ⟨#[10]⟩) := by rw [blS (bytes_snoc bx), bl_app, hbx]; rfl
    rw [← hsx] at q1 q2 hdl
    have HS := H.pick [] [] (by decide) (by decide) rfl rfl
    refine d_start (fun w_ => HpS _ w w_ _ _) #[false, false, false, false, false, false, false, false, false, false, false, false, false, false, false, false, false, false, false, false, false, false, false, false, false, false] (by kernel_rfl) rfl rfl HS.drew ?_
    have H := H.drew
    have HS := HS.drew
    first | (refine d_pure (i := 0) #[true, false, false, false, false, false, false, false, false, false, false, false, false, false, false, false, false, false, false, false, false, false, false, false, false, false] rfl (by kernel_rfl) (fun _ _ _ h => h) rfl (fun w_ => evP_run (o := ⟨_, _, _, _, _, _⟩) txs rfl) ?_)
    first | (refine d_pure (i := 1) #[true, true, false, false, false, false, false, false, false, false, false, false, false, false, false, false, false, false, false, false, false, false, false, false, false, false] rfl (by kernel_rfl) (fun _ _ _ h => h) rfl (fun w_ => evP_run (o := ⟨_, _, _, _, _, _⟩) txs rfl) ?_)
    first | (refine d_pure (i := 2) #[true, true, true, false, false, false, false, false, false, false, false, false, false, false, false, false, false, false, false, false, false, false, false, false, false, false] rfl (by kernel_rfl) (fun _ _ _ h => h) rfl (fun w_ => evIA_run (o := ⟨_, _, _, _, _, _⟩) txs rfl (by omega) (by omega)) ?_)
    first | (refine d_take (i := 3) #[true, true, true, true, false, false, false, false, false, false, false, false, false, false, false, false, false, false, false, false, false, false, false, false, false, false] rfl (by kernel_rfl) (fun _ _ _ h => h) rfl (fun w_ K => evL_run (o := ⟨_, _, _, _, _, _⟩) txs rfl (hax _ K.B)) HS ?_)
    first | (refine d_pure (i := 4) #[true, true, true, true, true, false, false, false, false, false, false, false, false, false, false, false, false, false, false, false, false, false, false, false, false, false] rfl (by kernel_rfl) (fun _ _ _ h => h) rfl (fun w_ => evP_run (o := ⟨_, _, _, _, _, _⟩) txs rfl) ?_)
    first | (refine d_pure (i := 5) #[true, true, true, true, true, true, false, false, false, false, false, false, false, false, false, false, false, false, false, false, false, false, false, false, false, false] rfl (by kernel_rfl) (fun _ _ _ h => h) rfl (fun w_ => evP_run (o := ⟨_, _, _, _, _, _⟩) txs rfl) ?_) | (refine d_pure (i := 5) #[true, true, true, true, true, true, false, false, false, false, false, false, false, false, false, false, false, false, false, false, false, false, false, false, false, false] rfl (by kernel_rfl) (fun _ _ _ h => h) rfl (fun w_ => (evA_run (o := ⟨_, _, _, _, _, _⟩) txs rfl).trans (by rw [wrap_in (by first | exact in_i64 (by omega) (by omega) | exact in_u8 (by omega) (by omega) | exact in_u64 (by omega) (by omega) | exact in_i32 (by omega) (by omega))])) ?_)
    first | (refine d_pure (i := 6) #[true, true, true, true, true, true, true, false, false, false, false, false, false, false, false, false, false, false, false, false, false, false, false, false, false, false] rfl (by kernel_rfl) (fun _ _ _ h => h) rfl (fun w_ => evP_run (o := ⟨_, _, _, _, _, _⟩) txs rfl) ?_)
    first | (refine d_pure (i := 7) #[true, true, true, true, true, true, true, true, false, false, false, false, false, false, false, false, false, false, false, false, false, false, false, false, false, false] rfl (by kernel_rfl) (fun _ _ _ h => h) rfl (fun w_ => evP_run (o := ⟨_, _, _, _, _, _⟩) txs rfl) ?_)
    first | (refine d_pure (i := 8) #[true, true, true, true, true, true, true, true, true, false, false, false, false, false, false, false, false, false, false, false, false, false, false, false, false, false] rfl (by kernel_rfl) (fun _ _ _ h => h) rfl (fun w_ => evT_no (o := ⟨_, _, _, _, _, _⟩) txs rfl (by omega)) ?_)
    first | (refine d_pure (i := 9) #[true, true, true, true, true, true, true, true, true, true, false, false, false, false, false, false, false, false, false, false, false, false, false, false, false, false] rfl (by kernel_rfl) (fun _ _ _ h => h) rfl (fun w_ => evP_run (o := ⟨_, _, _, _, _, _⟩) txs rfl) ?_)
    first | (refine d_off (i := 10) #[true, true, true, true, true, true, true, true, true, true, true, false, false, false, false, false, false, false, false, false, false, false, false, false, false, false] rfl (by kernel_rfl) (fun _ _ _ h => h) rfl ?_) | (first | (refine d_pure (i := 10) #[true, true, true, true, true, true, true, true, true, true, true, false, false, false, false, false, false, false, false, false, false, false, false, false, false, false] rfl (by kernel_rfl) (fun _ _ _ h => h) rfl (fun w_ => evP_run (o := ⟨_, _, _, _, _, _⟩) txs rfl) ?_))
    first | (refine d_off (i := 11) #[true, true, true, true, true, true, true, true, true, true, true, true, false, false, false, false, false, false, false, false, false, false, false, false, false, false] rfl (by kernel_rfl) (fun _ _ _ h => h) rfl ?_) | (first | (refine d_pure (i := 11) #[true, true, true, true, true, true, true, true, true, true, true, true, false, false, false, false, false, false, false, false, false, false, false, false, false, false] rfl (by kernel_rfl) (fun _ _ _ h => h) rfl (fun w_ => evP_run (o := ⟨_, _, _, _, _, _⟩) txs rfl) ?_))
    first | (refine d_off (i := 12) #[true, true, true, true, true, true, true, true, true, true, true, true, true, false, false, false, false, false, false, false, false, false, false, false, false, false] rfl (by kernel_rfl) (fun _ _ _ h => h) rfl ?_) | (first | (refine d_pure (i := 12) #[true, true, true, true, true, true, true, true, true, true, true, true, true, false, false, false, false, false, false, false, false, false, false, false, false, false] rfl (by kernel_rfl) (fun _ _ _ h => h) rfl (fun w_ => evP_run (o := ⟨_, _, _, _, _, _⟩) txs rfl) ?_))
    first | (refine d_off (i := 13) #[true, true, true, true, true, true, true, true, true, true, true, true, true, true, false, false, false, false, false, false, false, false, false, false, false, false] rfl (by kernel_rfl) (fun _ _ _ h => h) rfl ?_) | (first | (refine d_pure (i := 13) #[true, true, true, true, true, true, true, true, true, true, true, true, true, true, false, false, false, false, false, false, false, false, false, false, false, false] rfl (by kernel_rfl) (fun _ _ _ h => h) rfl (fun w_ => evIA_run (o := ⟨_, _, _, _, _, _⟩) txs rfl (by omega) (by omega)) ?_))
    first | (refine d_off (i := 14) #[true, true, true, true, true, true, true, true, true, true, true, true, true, true, true, false, false, false, false, false, false, false, false, false, false, false] rfl (by kernel_rfl) (fun _ _ _ h => h) rfl ?_) | (first | (refine d_take (i := 14) #[true, true, true, true, true, true, true, true, true, true, true, true, true, true, true, false, false, false, false, false, false, false, false, false, false, false] rfl (by kernel_rfl) (fun _ _ _ h => h) rfl (fun w_ K => evL_run (o := ⟨_, _, _, _, _, _⟩) txs rfl (hax _ K.B)) HS ?_))
    first | (refine d_off (i := 15) #[true, true, true, true, true, true, true, true, true, true, true, true, true, true, true, true, false, false, false, false, false, false, false, false, false, false] rfl (by kernel_rfl) (fun _ _ _ h => h) rfl ?_) | (first | (refine d_pure (i := 15) #[true, true, true, true, true, true, true, true, true, true, true, true, true, true, true, true, false, false, false, false, false, false, false, false, false, false] rfl (by kernel_rfl) (fun _ _ _ h => h) rfl (fun w_ => evP_run (o := ⟨_, _, _, _, _, _⟩) txs rfl) ?_))
    first | (refine d_off (i := 16) #[true, true, true, true, true, true, true, true, true, true, true, true, true, true, true, true, true, false, false, false, false, false, false, false, false, false] rfl (by kernel_rfl) (fun _ _ _ h => h) rfl ?_) | (first | (refine d_pure (i := 16) #[true, true, true, true, true, true, true, true, true, true, true, true, true, true, true, true, true, false, false, false, false, false, false, false, false, false] rfl (by kernel_rfl) (fun _ _ _ h => h) rfl (fun w_ => evP_run (o := ⟨_, _, _, _, _, _⟩) txs rfl) ?_) | (refine d_pure (i := 16) #[true, true, true, true, true, true, true, true, true, true, true, true, true, true, true, true, true, false, false, false, false, false, false, false, false, false] rfl (by kernel_rfl) (fun _ _ _ h => h) rfl (fun w_ => (evA_run (o := ⟨_, _, _, _, _, _⟩) txs rfl).trans (by rw [wrap_in (by first | exact in_i64 (by omega) (by omega) | exact in_u8 (by omega) (by omega) | exact in_u64 (by omega) (by omega) | exact in_i32 (by omega) (by omega))])) ?_))
    first | (refine d_off (i := 17) #[true, true, true, true, true, true, true, true, true, true, true, true, true, true, true, true, true, true, false, false, false, false, false, false, false, false] rfl (by kernel_rfl) (fun _ _ _ h => h) rfl ?_) | (first | (refine d_pure (i := 17) #[true, true, true, true, true, true, true, true, true, true, true, true, true, true, true, true, true, true, false, false, false, false, false, false, false, false] rfl (by kernel_rfl) (fun _ _ _ h => h) rfl (fun w_ => evSlN_run (o := ⟨_, _, _, _, _, _⟩) txs 0 ((strOfNums x).size + 1) rfl (by omega) (by omega)) ?_))
    first | (refine d_off (i := 18) #[true, true, true, true, true, true, true, true, true, true, true, true, true, true, true, true, true, true, true, false, false, false, false, false, false, false] rfl (by kernel_rfl) (fun _ _ _ h => h) rfl ?_) | (first | (refine d_take (i := 18) #[true, true, true, true, true, true, true, true, true, true, true, true, true, true, true, true, true, true, true, false, false, false, false, false, false, false] rfl (by kernel_rfl) (fun _ _ _ h => h) rfl (fun w_ K => evText_run (o := ⟨_, _, _, _, _, _⟩) rfl Try.underlying29 Try.underlying5 Try.underlying9 (q1.below K.B)) HS ?_))
    first | (refine d_off (i := 19) #[true, true, true, true, true, true, true, true, true, true, true, true, true, true, true, true, true, true, true, true, false, false, false, false, false, false] rfl (by kernel_rfl) (fun _ _ _ h => h) rfl ?_) | (first | (refine d_pure (i := 19) #[true, true, true, true, true, true, true, true, true, true, true, true, true, true, true, true, true, true, true, true, false, false, false, false, false, false] rfl (by kernel_rfl) (fun _ _ _ h => h) rfl (fun w_ => evP_run (o := ⟨_, _, _, _, _, _⟩) txs rfl) ?_))
    first | (refine d_off (i := 20) #[true, true, true, true, true, true, true, true, true, true, true, true, true, true, true, true, true, true, true, true, true, false, false, false, false, false] rfl (by kernel_rfl) (fun _ _ _ h => h) rfl ?_) | (first | (refine d_pure (i := 20) #[true, true, true, true, true, true, true, true, true, true, true, true, true, true, true, true, true, true, true, true, true, false, false, false, false, false] rfl (by kernel_rfl) (fun _ _ _ h => h) rfl (fun w_ => evP_run (o := ⟨_, _, _, _, _, _⟩) txs rfl) ?_))
    first | (refine d_off (i := 21) #[true, true, true, true, true, true, true, true, true, true, true, true, true, true, true, true, true, true, true, true, true, true, false, false, false, false] rfl (by kernel_rfl) (fun _ _ _ h => h) rfl ?_) | (first | (refine d_pure (i := 21) #[true, true, true, true, true, true, true, true, true, true, true, true, true, true, true, true, true, true, true, true, true, true, false, false, false, false] rfl (by kernel_rfl) (fun _ _ _ h => h) rfl (fun w_ => evIA_run (o := ⟨_, _, _, _, _, _⟩) txs rfl (by omega) (by omega)) ?_))
    first | (refine d_off (i := 22) #[true, true, true, true, true, true, true, true, true, true, true, true, true, true, true, true, true, true, true, true, true, true, true, false, false, false] rfl (by kernel_rfl) (fun _ _ _ h => h) rfl ?_) | (first | (refine d_take (i := 22) #[true, true, true, true, true, true, true, true, true, true, true, true, true, true, true, true, true, true, true, true, true, true, true, false, false, false] rfl (by kernel_rfl) (fun _ _ _ h => h) rfl (fun w_ K => evL_run (o := ⟨_, _, _, _, _, _⟩) txs rfl (hax _ K.B)) HS ?_))
    first | (refine d_off (i := 23) #[true, true, true, true, true, true, true, true, true, true, true, true, true, true, true, true, true, true, true, true, true, true, true, true, false, false] rfl (by kernel_rfl) (fun _ _ _ h => h) rfl ?_) | (first | (refine d_take (i := 23) #[true, true, true, true, true, true, true, true, true, true, true, true, true, true, true, true, true, true, true, true, true, true, true, true, false, false] rfl (by kernel_rfl) (fun _ _ _ h => h) rfl (fun w_ K => evCat_run (o := ⟨_, _, _, _, _, _⟩) rfl (by show (strOfNums x).size + 1 ≤ _; omega)) HS ?_))
    first | (refine d_off (i := 24) #[true, true, true, true, true, true, true, true, true, true, true, true, true, true, true, true, true, true, true, true, true, true, true, true, true, false] rfl (by kernel_rfl) (fun _ _ _ h => h) rfl ?_) | (first | (refine d_pure (i := 24) #[true, true, true, true, true, true, true, true, true, true, true, true, true, true, true, true, true, true, true, true, true, true, true, true, true, false] rfl (by kernel_rfl) (fun _ _ _ h => h) rfl (fun w_ => evT_no (o := ⟨_, _, _, _, _, _⟩) txs rfl (fun h => h heq)) ?_))
    first | (refine d_pure (i := 25) #[true, true, true, true, true, true, true, true, true, true, true, true, true, true, true, true, true, true, true, true, true, true, true, true, true, true] rfl (by kernel_rfl) (fun _ _ _ h => h) rfl (fun w_ => evP_run (o := ⟨_, _, _, _, _, _⟩) txs rfl) ?_)
    refine d_done rfl ?_
    repeat' (first | (with_reducible first | refine p_tn ?_ | refine w_reg ?_) | (with_reducible (refine is_if ?_; (refine w_iff rfl ?_))) | (with_reducible refine wp_skip ?_) | ((with_reducible refine g_on ?_); (first | ((with_reducible refine g_mv ?_); refine l_p txs rfl rfl ?_) | ((with_reducible refine g_ia ?_); refine l_ia txs rfl rfl (by first | omega | assumption | decide) (by first | omega | assumption | decide) ?_))))
    (with_reducible refine is_l ?_); refine l_ld txs rfl rfl (hax _ H.B) ?_
    repeat' ((with_reducible refine g_on ?_); (first | ((with_reducible refine g_cl ?_); refine l_p txs rfl rfl ?_) | ((with_reducible refine g_bi ?_); (refine l_a txs rfl rfl (by first | exact in_i64 (by omega) (by omega) | exact in_u8 (by omega) (by omega) | exact in_u64 (by omega) (by omega) | exact in_i32 (by omega) (by omega)) ?_))))
    (with_reducible refine is_l ?_); refine l_cutN txs ((strOfNums x).size + 1) (glue (ls.drop i)).length rfl rfl (by omega) (by omega) ?_
    repeat' (first | (with_reducible first | refine p_tn ?_ | refine p_bn ?_ | refine w_reg ?_ | refine l_nil ?_) | ((with_reducible refine g_on ?_); (first | ((with_reducible refine g_mv ?_); refine l_p txs rfl rfl ?_) | ((with_reducible refine g_as ?_); refine l_p txs rfl rfl ?_) | ((with_reducible refine g_bi ?_); (refine l_a txs rfl rfl (by first | exact in_i64 (by omega) (by omega) | exact in_u8 (by omega) (by omega) | exact in_u64 (by omega) (by omega) | exact in_i32 (by omega) (by omega)) ?_)))))
    rw [show (glue (ls.drop i)).length - ((strOfNums x).size + 1) = (glue (ls.drop (i + 1))).length by omega]
    exact ⟨(i + 1, cutA Bq cq ((strOfNums x).size + 1) 1, cq - ((strOfNums x).size + 1)), _, rfl, ⟨rfl, rfl, rfl, rfl, rfl, trivial⟩, ⟨H, by show i + 1 ≤ _; omega, q2, by show (glue (ls.drop (i + 1))).length ≤ cq - ((strOfNums x).size + 1); omega⟩, by show ls.length - (i + 1) < ls.length - i; omega⟩
  have hik : i = ls.length := by omega
  have h0 : (glue (ls.drop i)).length = 0 := by rw [hik, List.drop_length]; rfl
  rw [h0]
  repeat' (first | (with_reducible first | refine p_tn ?_ | refine p_tx ?_ | refine x_hit ?_ | refine wp_seq ?_ | refine w_reg ?_) | (with_reducible (refine is_if ?_; (refine w_iff rfl ?_))) | (with_reducible first | refine wp_exit ?_ | refine l_nil ?_) | ((with_reducible refine g_on ?_); (first | ((with_reducible refine g_mv ?_); refine l_p txs rfl rfl ?_) | ((with_reducible refine g_cl ?_); refine l_p txs rfl rfl ?_))))
  (with_reducible refine is_l ?_); refine l_t txs rfl rfl (fun _ => ?_) (fun h => absurd rfl h)
  repeat' (first | (with_reducible first | refine p_tn ?_ | refine wp_ret ?_ | refine l_nil ?_) | ((with_reducible refine g_on ?_); ((with_reducible refine g_as ?_); refine l_p txs rfl rfl ?_)))
  refine end1 rfl rfl ?_
  exact ⟨rfl, Bt B0 H.B⟩
end Go.Proofs.Ytljinjgamgmocaa.K
