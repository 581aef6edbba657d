/- Lines: the iterator. -/
import Derived.Test.YtljinjgamgmocaaPa
import Derived.Test.YtljinjgamgmocaaQI
namespace Go.Proofs.Ytljinjgamgmocaa.K
open Go.RowKit Go.Proofs.Ytljinjgamgmocaa.Q Go.Proofs.Ytljinjgamgmocaa.Mb Go.Proofs.YtljinjgamgmocaaW.PrintWords
set_option linter.unusedVariables false
set_option linter.unusedSimpArgs false

theorem cutC_some {c : Int} : ∀ {b p r : L}, cutC c b = some (p, r) → b = p ++ c :: r ∧ c ∉ p
  | [], _, _, h => by simp [cutC] at h
  | x :: b, p, r, h => by
    unfold cutC at h
    by_cases e : x = c
    · rw [if_pos e] at h
      simp only [Option.some.injEq, Prod.mk.injEq] at h
      obtain ⟨rfl, rfl⟩ := h
      exact ⟨by simp [e], by simp⟩
    · rw [if_neg e] at h
      cases hc : cutC c b with
      | none => rw [hc] at h; cases h
      | some q =>
        obtain ⟨a, s⟩ := q
        rw [hc] at h
        simp only [Option.some.injEq, Prod.mk.injEq] at h
        obtain ⟨rfl, rfl⟩ := h
        obtain ⟨h1, h2⟩ := cutC_some hc
        refine ⟨by simp [h1], ?_⟩
        simp only [List.mem_cons, not_or]
        exact ⟨fun h => e h.symm, h2⟩
theorem behind_lt {s : L} (h : s ≠ []) : (behindC 10 s).length < s.length := by
  unfold behindC
  cases hc : cutC 10 s with
  | none => exact List.length_pos_iff.2 h
  | some p =>
    obtain ⟨a, b⟩ := p
    obtain ⟨rfl, _⟩ := cutC_some hc
    show b.length < _
    simp only [List.length_append, List.length_cons]
    omega
theorem cut_bytes {s : L} (h : Bytes s) : Bytes (aheadC 10 s) ∧ Bytes (behindC 10 s) ∧ (aheadC 10 s).length ≤ s.length := by
  unfold aheadC behindC
  cases hc : cutC 10 s with
  | none => exact ⟨h, fun y hy => (by cases hy), Nat.le_refl _⟩
  | some p =>
    obtain ⟨a, b⟩ := p
    obtain ⟨rfl, _⟩ := cutC_some hc
    refine ⟨fun y hy => h y (List.mem_append_left _ hy), fun y hy => h y (List.mem_append_right _ (List.mem_cons_of_mem _ hy)), ?_⟩
    show a.length ≤ _
    simp only [List.length_append, List.length_cons]
    omega
/-- The lines of a text. -/
def linesN : Nat → L → List L
  | 0, _ => []
  | k + 1, s => if s = [] then [] else aheadC 10 s :: linesN k (behindC 10 s)
def lines (s : L) : List L := linesN s.length s
theorem linesN_two : ∀ (k m : Nat) (s : L), s.length ≤ k → s.length ≤ m → linesN k s = linesN m s
  | 0, 0, s, _, _ => rfl
  | 0, m + 1, s, h, _ => by
    have : s = [] := List.eq_nil_of_length_eq_zero (by omega)
    subst this
    rfl
  | k + 1, 0, s, _, h => by
    have : s = [] := List.eq_nil_of_length_eq_zero (by omega)
    subst this
    rfl
  | k + 1, m + 1, s, h, h2 => by
    by_cases hs : s = []
    · subst hs; rfl
    · have hb := behind_lt hs
      simp only [linesN, if_neg hs]
      rw [linesN_two k m _ (by omega) (by omega)]
theorem linesN_eq (k : Nat) (s : L) (h : s.length ≤ k) : linesN k s = lines s := linesN_two k s.length s h (Nat.le_refl _)
theorem lines_nil : lines [] = [] := rfl
theorem lines_cons {s : L} (h : s ≠ []) : lines s = aheadC 10 s :: lines (behindC 10 s) := by
  unfold lines
  cases hs : s.length with
  | zero => exact absurd (List.eq_nil_of_length_eq_zero hs) h
  | succ m =>
    have hb := behind_lt h
    simp only [linesN, if_neg h]
    rw [linesN_eq m _ (by omega)]
    rfl
def numL : Nat → List L → List (Nat × L)
  | _, [] => []
  | i, x :: r => (i, x) :: numL (i + 1) r
theorem numL_snoc : ∀ (l : List L) (i : Nat) (x : L), numL i (l ++ [x]) = numL i l ++ [(i + l.length, x)]
  | [], i, x => rfl
  | y :: r, i, x => by
    simp only [List.cons_append, numL, List.length_cons]
    rw [numL_snoc r (i + 1) x, show i + 1 + r.length = i + (r.length + 1) by omega]
theorem numL_len : ∀ (l : List L) (i : Nat), (numL i l).length = l.length
  | [], _ => rfl
  | _ :: r, i => by simp only [numL, List.length_cons, numL_len r]
theorem lines_len : ∀ (k : Nat) (s : L), s.length ≤ k → (lines s).length ≤ s.length := by
  intro k
  induction k with
  | zero =>
    intro s h
    have : s = [] := List.eq_nil_of_length_eq_zero (by omega)
    subst this
    exact Nat.le_refl _
  | succ k ih =>
    intro s h
    by_cases hs : s = []
    · subst hs; exact Nat.le_refl _
    · have hb := behind_lt hs
      rw [lines_cons hs, List.length_cons]
      have := ih _ (by omega : (behindC 10 s).length ≤ k)
      omega
def tx : Nat → Option Ty
  | 25 => some (.slc 9 1)
  | 26 => some (.int .i64)
  | t => ty t
theorem slcOk0 : TyOk Try.prog 25 (.slc 9 1) := by
  have h : (Try.prog.info? 9).map (·.size) = some 1 := by kernel_rfl
  obtain ⟨i0, hi, hz⟩ := Option.map_eq_some_iff.1 h
  exact ⟨Try.underlying25, i0, hi, hz⟩
theorem txs : Tys Try.prog tx := by
  intro t k h
  unfold tx at h
  split at h
  · cases h; exact slcOk0
  · cases h; exact Try.underlying26
  · exact tys t k h
def flds : Nat := 0
def recs : Nat := 0
abbrev encL (x : Nat × L) : Array Value := #[.int .i64 (x.1 : Int), .string (strOfNums x.2)]
theorem cell_lt {w : World} {g k : Nat} {v : Value} (h : w.cell? ⟨g, k, none⟩ = some v) : g < w.heap.size := by
  unfold World.cell? at h
  simp only at h
  split at h
  · rename_i h1
    exact (Array.getElem?_eq_some_iff.1 h1).1
  · cases h
theorem pw_cell_of {n₀ : Nat} {W w' : World} (h : Below n₀ W w') {g : Nat} (hg : g < n₀) {v : Value} (hc : W.cell? ⟨g, 0, none⟩ = some v) : w'.cell? ⟨g, 0, none⟩ = some v := (h.cell (p := ⟨g, 0, none⟩) hg).trans hc
set_option maxRecDepth 100000 in
set_option maxHeartbeats 8000000 in
theorem each1_c (n l Bs n₀ : Nat) (s : L) (hs : Bytes s) (hl : s.length ≤ 1048576) (J Jx : List (Nat × L) → World → Prop)
    (hY : ∀ pre x W, J pre W → pre.length < (lines s).length → YieldAt Fence.wide (n - 1) Try.prog l (encL x) W fun e W' =>
      (e = .returned (.bool true) ∧ J (pre ++ [x]) W' ∧ Below n₀ W W') ∨ (e = .returned (.bool false) ∧ Jx (pre ++ [x]) W'))
    {mx : Int} (W : World) (hB : W.cell? ⟨Bs, 0, none⟩ = some (.string (strOfNums s))) (hM : W.cell? ⟨0, 0, none⟩ = some (.int .i64 mx)) (hMn : 0 < n₀) (hn₀ : n₀ ≤ W.heap.size) (h0 : J [] W)
    (hA : AbidesFrom W.heap.size J) :
    Calls Try.prog 13 #[.func (.yield l) #[] #[], .pointer (some ⟨Bs, 0, none⟩)] W fun e W' => (∃ v, e = .returned v) ∧ ((∃ xs, xs = numL 0 (lines s) ∧ J xs W') ∨ (∃ pre, True ∧ Jx pre W')) := by
  refine enter (args := [.func (.yield l) #[] #[], .pointer (some ⟨Bs, 0, none⟩)]) Try.func13 rfl Try.ntmps13 rfl ?_
  repeat' (with_reducible first | refine wp_seq ?_ | refine w_reg ?_)
  (with_reducible refine is_l ?_); refine l_ld txs rfl rfl hB ?_
  repeat' (first | (first | (first | (with_reducible refine p_tn ?_) | (with_reducible refine p_tx ?_) | (with_reducible refine p_tr ?_) | (with_reducible refine p_bn ?_) | (with_reducible refine p_br ?_) | (with_reducible refine x_hit ?_) | (with_reducible refine x_miss rfl ?_) | (with_reducible refine wp_seq ?_) | (with_reducible refine wp_block ?_) | (with_reducible refine w_reg ?_) | (with_reducible (refine is_if ?_; first | refine w_ift rfl ?_ | refine w_iff rfl ?_)) | ((with_reducible refine is_if ?_); first | refine w_ift rfl ?_ | refine w_iff rfl ?_) | (with_reducible refine wp_skip ?_) | (with_reducible refine wp_exit ?_) | (with_reducible refine wp_ret ?_)) | (with_reducible refine p_sn ?_) | (with_reducible refine p_sr ?_) | (with_reducible refine p_sx ?_) | (with_reducible refine wp_scope_straight ?_) | (with_reducible refine wp_label ?_)) | (first | (with_reducible refine l_nil ?_) | ((with_reducible refine g_on ?_); ((with_reducible refine g_as ?_); refine l_p txs rfl rfl ?_))))
  refine w_loop (σ := List L × L) (S := fun s => [(0, .func (.yield l) #[] #[]), (3, .string (strOfNums s.2)), (4, .int .i64 (s.1.length : Int))]) (J := fun st w' => J (numL 0 st.1) w' ∧ st.1 ++ lines st.2 = lines s ∧ Bytes st.2 ∧ st.2.length ≤ 1048576 ∧ Below n₀ W w') (μ := fun st => st.2.length) ([], s) ⟨rfl, rfl, rfl, trivial⟩ ⟨h0, rfl, hs, hl, Below.refl _ _⟩ ?_
  rintro ⟨dn, t⟩ f w_ ⟨hJ, hD, ht, htl, hW⟩
  simp only at hJ hD ht htl hW ⊢
  repeat' (with_reducible first | refine wp_seq ?_ | refine w_reg ?_)
  repeat' ((with_reducible refine g_on ?_); ((with_reducible refine g_mv ?_); refine l_p txs rfl rfl ?_))
  (with_reducible refine is_l ?_); refine l_t txs rfl rfl (fun h1 => ?_) (fun h1 => ?_)
  · have hne : t ≠ [] := fun e => h1 (by rw [e]; rfl)
    have hc := cutb_k (strOfNums t) 10 (by rw [← bl_length, blS ht]; omega) w_ mx (pw_cell_of hW hMn hM)
    rw [show ((10 : UInt8).toNat : Int) = 10 from rfl, blS ht] at hc
    repeat' (first | (first | (first | (with_reducible refine p_tn ?_) | (with_reducible refine p_tx ?_) | (with_reducible refine p_tr ?_) | (with_reducible refine p_bn ?_) | (with_reducible refine p_br ?_) | (with_reducible refine x_hit ?_) | (with_reducible refine x_miss rfl ?_) | (with_reducible refine wp_seq ?_) | (with_reducible refine wp_block ?_) | (with_reducible refine w_reg ?_) | (with_reducible (refine is_if ?_; first | refine w_ift rfl ?_ | refine w_iff rfl ?_)) | ((with_reducible refine is_if ?_); first | refine w_ift rfl ?_ | refine w_iff rfl ?_) | (with_reducible refine wp_skip ?_) | (with_reducible refine wp_exit ?_) | (with_reducible refine wp_ret ?_)) | (with_reducible refine p_sn ?_) | (with_reducible refine p_sr ?_) | (with_reducible refine p_sx ?_) | (with_reducible refine wp_scope_straight ?_) | (with_reducible refine wp_label ?_)) | (first | (with_reducible refine l_nil ?_) | ((with_reducible refine g_on ?_); ((with_reducible refine g_mv ?_); refine l_p txs rfl rfl ?_))))
    (with_reducible refine is_l ?_); refine l_call rfl rfl (by kernel_rfl) hc (fun e w2 hQ => ?_)
    obtain ⟨⟨kk, hk⟩, rfl⟩ := hQ
    refine ⟨_, rfl, ?_⟩
    have hg : w_.grownBy w2 none := by rw [hk]; exact ⟨rfl, rfl, rfl, Nat.le_refl _, fun _ _ _ => rfl⟩
    have hJ2 : J (numL 0 dn) w2 := hA _ _ _ none hJ hg (fun r e => by cases e)
    have hW2 : Below n₀ W w2 := hW.grown hg (Nat.le_trans hn₀ hW.size) (fun b e => by cases e)
    obtain ⟨fn, tmps, asg, bd, hy, hR⟩ := hY (numL 0 dn) (dn.length, aheadC 10 t) w2 hJ2 (by rw [numL_len, ← hD, List.length_append, lines_cons hne]; simp)
    have hnx : numL 0 dn ++ [(dn.length, aheadC 10 t)] = numL 0 (dn ++ [aheadC 10 t]) := by rw [numL_snoc, Nat.zero_add]
    rw [hnx] at hR
    repeat' (first | (with_reducible refine l_nil ?_) | ((with_reducible refine g_on ?_); (first | ((with_reducible refine g_mv ?_); refine l_p txs rfl rfl ?_) | ((with_reducible refine g_as ?_); refine l_p txs rfl rfl ?_) | ((with_reducible refine g_ex ?_); refine l_p txs rfl rfl ?_))))
    with_reducible refine p_tn ?_
    with_reducible refine wp_seq ?_
    with_reducible refine wp_seq ?_
    refine (wpIn_wide (n := n)).1 (i_region ?_)
    refine i_val (ds := []) (fun _ => trivial) (fun c e => by cases e) rfl (evP_run (o := ⟨_, _, _, _, _, _⟩) txs rfl) ?_
    refine i_val (fun _ => trivial) (fun c e => by cases e) rfl (evP_run (o := ⟨_, _, _, _, _, _⟩) txs rfl) ?_
    refine i_val (fun _ => trivial) (fun c e => by cases e) rfl (evP_run (o := ⟨_, _, _, _, _, _⟩) txs rfl) ?_
    refine i_yield (args := [.int .i64 (dn.length : Int), .string (strOfNums (aheadC 10 t))]) (fun _ => trivial) rfl rfl rfl rfl hy hR (fun e w3 hq => ?_)
    rcases hq with ⟨rfl, hJ3, hB3⟩ | ⟨rfl, hJ3⟩
    · refine ⟨_, rfl, ?_⟩
      refine i_val (fun _ => trivial) (fun c e => by cases e) rfl (evP_run (o := ⟨_, _, _, _, _, _⟩) txs rfl) ?_
      refine i_nil0 ?_
      obtain ⟨ht1, ht2, ht3⟩ := cut_bytes ht
      have hlt := behind_lt hne
      have hdl : dn.length ≤ 1048576 := by
        have h5 := lines_len _ s (Nat.le_refl _)
        rw [← hD, List.length_append] at h5
        omega
      repeat' (first | (first | (first | (with_reducible refine p_tn ?_) | (with_reducible refine p_tx ?_) | (with_reducible refine p_tr ?_) | (with_reducible refine p_bn ?_) | (with_reducible refine p_br ?_) | (with_reducible refine x_hit ?_) | (with_reducible refine x_miss rfl ?_) | (with_reducible refine wp_seq ?_) | (with_reducible refine wp_block ?_) | (with_reducible refine w_reg ?_) | (with_reducible (refine is_if ?_; first | refine w_ift rfl ?_ | refine w_iff rfl ?_)) | ((with_reducible refine is_if ?_); first | refine w_ift rfl ?_ | refine w_iff rfl ?_) | (with_reducible refine wp_skip ?_) | (with_reducible refine wp_exit ?_) | (with_reducible refine wp_ret ?_)) | (with_reducible refine p_sn ?_) | (with_reducible refine p_sr ?_) | (with_reducible refine p_sx ?_) | (with_reducible refine wp_scope_straight ?_) | (with_reducible refine wp_label ?_)) | (first | (with_reducible refine l_nil ?_) | ((with_reducible refine g_on ?_); (first | ((with_reducible refine g_mv ?_); refine l_p txs rfl rfl ?_) | ((with_reducible refine g_as ?_); refine l_p txs rfl rfl ?_) | ((with_reducible refine g_bi ?_); (refine l_a txs rfl rfl (by first | exact in_i64 (by omega) (by omega) | exact in_u8 (by omega) (by omega) | exact in_u64 (by omega) (by omega) | exact in_i32 (by omega) (by omega)) ?_))))))
      exact ⟨(dn ++ [aheadC 10 t], behindC 10 t), _, rfl, ⟨rfl, rfl, by show Value.int .i64 ((dn.length : Int) + 1) = Value.int .i64 ((dn ++ [aheadC 10 t]).length : Int); rw [List.length_append]; rfl, trivial⟩, ⟨hJ3, by show (dn ++ [aheadC 10 t]) ++ lines (behindC 10 t) = _; rw [← hD, lines_cons hne, List.append_assoc]; rfl, ht2, by show (behindC 10 t).length ≤ _; omega, hW2.trans hB3⟩, by show (behindC 10 t).length < t.length; omega⟩
    · refine ⟨_, rfl, ?_⟩
      refine i_val (fun _ => trivial) (fun c e => by cases e) rfl (evP_run (o := ⟨_, _, _, _, _, _⟩) txs rfl) ?_
      refine i_nil0 ?_
      repeat' (first | (first | (first | (with_reducible refine p_tn ?_) | (with_reducible refine p_tx ?_) | (with_reducible refine p_tr ?_) | (with_reducible refine p_bn ?_) | (with_reducible refine p_br ?_) | (with_reducible refine x_hit ?_) | (with_reducible refine x_miss rfl ?_) | (with_reducible refine wp_seq ?_) | (with_reducible refine wp_block ?_) | (with_reducible refine w_reg ?_) | (with_reducible (refine is_if ?_; first | refine w_ift rfl ?_ | refine w_iff rfl ?_)) | ((with_reducible refine is_if ?_); first | refine w_ift rfl ?_ | refine w_iff rfl ?_) | (with_reducible refine wp_skip ?_) | (with_reducible refine wp_exit ?_) | (with_reducible refine wp_ret ?_)) | (with_reducible refine p_sn ?_) | (with_reducible refine p_sr ?_) | (with_reducible refine p_sx ?_) | (with_reducible refine wp_scope_straight ?_) | (with_reducible refine wp_label ?_)) | (first | (with_reducible refine l_nil ?_) | ((with_reducible refine g_on ?_); (first | ((with_reducible refine g_mv ?_); refine l_p txs rfl rfl ?_) | ((with_reducible refine g_as ?_); refine l_p txs rfl rfl ?_) | ((with_reducible refine g_ex ?_); refine l_p txs rfl rfl ?_) | ((with_reducible refine g_pk ?_); refine l_p txs rfl rfl ?_) | ((with_reducible refine g_fa ?_); refine h_fa flds rfl rfl ?_) | ((with_reducible refine g_ld ?_); (first | (refine h_ld txs H 0 rfl rfl rfl rfl ?_) | (refine h_ld txs H 1 rfl rfl rfl rfl ?_) | (refine h_ld txs H 2 rfl rfl rfl rfl ?_) | (refine h_ld txs H 3 rfl rfl rfl rfl ?_) | (refine h_ld txs H 4 rfl rfl rfl rfl ?_) | (refine h_ld txs H 5 rfl rfl rfl rfl ?_) | (refine h_ld txs H 6 rfl rfl rfl rfl ?_) | (refine h_ldR recs H 0 rfl rfl rfl rfl rfl ?_) | (refine h_ldR recs H 1 rfl rfl rfl rfl rfl ?_) | (refine h_ldR recs H 2 rfl rfl rfl rfl rfl ?_) | (refine h_ldR recs H 3 rfl rfl rfl rfl rfl ?_) | (refine h_ldR recs H 4 rfl rfl rfl rfl rfl ?_) | (refine h_ldR recs H 5 rfl rfl rfl rfl rfl ?_) | (refine h_ldR recs H 6 rfl rfl rfl rfl rfl ?_))) | ((with_reducible refine g_st ?_); (first | (refine h_st txs ones H 0 rfl rfl rfl rfl rfl rfl rfl rfl rfl (fun w_ H => ?_)) | (refine h_st txs ones H 1 rfl rfl rfl rfl rfl rfl rfl rfl rfl (fun w_ H => ?_)) | (refine h_st txs ones H 2 rfl rfl rfl rfl rfl rfl rfl rfl rfl (fun w_ H => ?_)) | (refine h_st txs ones H 3 rfl rfl rfl rfl rfl rfl rfl rfl rfl (fun w_ H => ?_)) | (refine h_st txs ones H 4 rfl rfl rfl rfl rfl rfl rfl rfl rfl (fun w_ H => ?_)) | (refine h_st txs ones H 5 rfl rfl rfl rfl rfl rfl rfl rfl rfl (fun w_ H => ?_)) | (refine h_st txs ones H 6 rfl rfl rfl rfl rfl rfl rfl rfl rfl (fun w_ H => ?_)) | (refine h_stR recs H 0 rfl rfl rfl rfl rfl rfl rfl rfl rfl (fun w_ H => ?_)) | (refine h_stR recs H 1 rfl rfl rfl rfl rfl rfl rfl rfl rfl (fun w_ H => ?_)) | (refine h_stR recs H 2 rfl rfl rfl rfl rfl rfl rfl rfl rfl (fun w_ H => ?_)) | (refine h_stR recs H 3 rfl rfl rfl rfl rfl rfl rfl rfl rfl (fun w_ H => ?_)) | (refine h_stR recs H 4 rfl rfl rfl rfl rfl rfl rfl rfl rfl (fun w_ H => ?_)) | (refine h_stR recs H 5 rfl rfl rfl rfl rfl rfl rfl rfl rfl (fun w_ H => ?_)) | (refine h_stR recs H 6 rfl rfl rfl rfl rfl rfl rfl rfl rfl (fun w_ H => ?_)))) | ((with_reducible refine g_al ?_); refine h_alloc recs H rfl rfl (fun g_ w_ H => ?_)) | ((with_reducible refine g_bx ?_); refine h_box H rfl rfl rfl (fun g_ w_ H => ?_)) | ((with_reducible refine g_un ?_); (first | (refine l_p txs rfl rfl ?_) | (refine l_a txs rfl rfl (by first | exact in_i64 (by omega) (by omega) | exact in_u8 (by omega) (by omega) | exact in_u64 (by omega) (by omega) | exact in_i32 (by omega) (by omega)) ?_))) | ((with_reducible refine g_cl ?_); refine l_p txs rfl rfl ?_) | ((with_reducible refine g_ia ?_); refine l_ia txs rfl rfl (by first | omega | assumption | decide) (by first | omega | assumption | decide) ?_) | ((with_reducible refine g_ix ?_); refine l_ix txs rfl rfl (by first | omega | assumption | decide) (by first | omega | assumption | decide) ?_) | ((with_reducible refine g_sl ?_); refine l_sl txs rfl rfl (by first | omega | assumption | decide) (by first | omega | assumption | decide) (by first | omega | assumption | decide) ?_) | ((with_reducible refine g_cv ?_); (first | (refine l_p txs rfl rfl ?_) | (refine l_a txs rfl rfl (by first | exact in_i64 (by omega) (by omega) | exact in_u8 (by omega) (by omega) | exact in_u64 (by omega) (by omega) | exact in_i32 (by omega) (by omega)) ?_))) | ((with_reducible refine g_bi ?_); (first | (refine l_p txs rfl rfl ?_) | (refine l_a txs rfl rfl (by first | exact in_i64 (by omega) (by omega) | exact in_u8 (by omega) (by omega) | exact in_u64 (by omega) (by omega) | exact in_i32 (by omega) (by omega)) ?_))))) | ((with_reducible refine g_if ?_); (first | (refine l_off rfl ?_) | ((with_reducible refine g_mv ?_); refine l_p txs rfl rfl ?_) | ((with_reducible refine g_as ?_); refine l_p txs rfl rfl ?_) | ((with_reducible refine g_ex ?_); refine l_p txs rfl rfl ?_) | ((with_reducible refine g_pk ?_); refine l_p txs rfl rfl ?_) | ((with_reducible refine g_fa ?_); refine h_fa flds rfl rfl ?_) | ((with_reducible refine g_ld ?_); (first | (refine h_ld txs H 0 rfl rfl rfl rfl ?_) | (refine h_ld txs H 1 rfl rfl rfl rfl ?_) | (refine h_ld txs H 2 rfl rfl rfl rfl ?_) | (refine h_ld txs H 3 rfl rfl rfl rfl ?_) | (refine h_ld txs H 4 rfl rfl rfl rfl ?_) | (refine h_ld txs H 5 rfl rfl rfl rfl ?_) | (refine h_ld txs H 6 rfl rfl rfl rfl ?_) | (refine h_ldR recs H 0 rfl rfl rfl rfl rfl ?_) | (refine h_ldR recs H 1 rfl rfl rfl rfl rfl ?_) | (refine h_ldR recs H 2 rfl rfl rfl rfl rfl ?_) | (refine h_ldR recs H 3 rfl rfl rfl rfl rfl ?_) | (refine h_ldR recs H 4 rfl rfl rfl rfl rfl ?_) | (refine h_ldR recs H 5 rfl rfl rfl rfl rfl ?_) | (refine h_ldR recs H 6 rfl rfl rfl rfl rfl ?_))) | ((with_reducible refine g_st ?_); (first | (refine h_st txs ones H 0 rfl rfl rfl rfl rfl rfl rfl rfl rfl (fun w_ H => ?_)) | (refine h_st txs ones H 1 rfl rfl rfl rfl rfl rfl rfl rfl rfl (fun w_ H => ?_)) | (refine h_st txs ones H 2 rfl rfl rfl rfl rfl rfl rfl rfl rfl (fun w_ H => ?_)) | (refine h_st txs ones H 3 rfl rfl rfl rfl rfl rfl rfl rfl rfl (fun w_ H => ?_)) | (refine h_st txs ones H 4 rfl rfl rfl rfl rfl rfl rfl rfl rfl (fun w_ H => ?_)) | (refine h_st txs ones H 5 rfl rfl rfl rfl rfl rfl rfl rfl rfl (fun w_ H => ?_)) | (refine h_st txs ones H 6 rfl rfl rfl rfl rfl rfl rfl rfl rfl (fun w_ H => ?_)) | (refine h_stR recs H 0 rfl rfl rfl rfl rfl rfl rfl rfl rfl (fun w_ H => ?_)) | (refine h_stR recs H 1 rfl rfl rfl rfl rfl rfl rfl rfl rfl (fun w_ H => ?_)) | (refine h_stR recs H 2 rfl rfl rfl rfl rfl rfl rfl rfl rfl (fun w_ H => ?_)) | (refine h_stR recs H 3 rfl rfl rfl rfl rfl rfl rfl rfl rfl (fun w_ H => ?_)) | (refine h_stR recs H 4 rfl rfl rfl rfl rfl rfl rfl rfl rfl (fun w_ H => ?_)) | (refine h_stR recs H 5 rfl rfl rfl rfl rfl rfl rfl rfl rfl (fun w_ H => ?_)) | (refine h_stR recs H 6 rfl rfl rfl rfl rfl rfl rfl rfl rfl (fun w_ H => ?_)))) | ((with_reducible refine g_al ?_); refine h_alloc recs H rfl rfl (fun g_ w_ H => ?_)) | ((with_reducible refine g_bx ?_); refine h_box H rfl rfl rfl (fun g_ w_ H => ?_)) | ((with_reducible refine g_un ?_); (first | (refine l_p txs rfl rfl ?_) | (refine l_a txs rfl rfl (by first | exact in_i64 (by omega) (by omega) | exact in_u8 (by omega) (by omega) | exact in_u64 (by omega) (by omega) | exact in_i32 (by omega) (by omega)) ?_))) | ((with_reducible refine g_cl ?_); refine l_p txs rfl rfl ?_) | ((with_reducible refine g_ia ?_); refine l_ia txs rfl rfl (by first | omega | assumption | decide) (by first | omega | assumption | decide) ?_) | ((with_reducible refine g_ix ?_); refine l_ix txs rfl rfl (by first | omega | assumption | decide) (by first | omega | assumption | decide) ?_) | ((with_reducible refine g_sl ?_); refine l_sl txs rfl rfl (by first | omega | assumption | decide) (by first | omega | assumption | decide) (by first | omega | assumption | decide) ?_) | ((with_reducible refine g_cv ?_); (first | (refine l_p txs rfl rfl ?_) | (refine l_a txs rfl rfl (by first | exact in_i64 (by omega) (by omega) | exact in_u8 (by omega) (by omega) | exact in_u64 (by omega) (by omega) | exact in_i32 (by omega) (by omega)) ?_))) | ((with_reducible refine g_bi ?_); (first | (refine l_p txs rfl rfl ?_) | (refine l_a txs rfl rfl (by first | exact in_i64 (by omega) (by omega) | exact in_u8 (by omega) (by omega) | exact in_u64 (by omega) (by omega) | exact in_i32 (by omega) (by omega)) ?_)))))))
      refine end0r rfl ?_
      exact ⟨⟨_, rfl⟩, .inr ⟨_, trivial, hJ3⟩⟩
  · have ht0 : t = [] := by
      have h2 : bl (strOfNums t) = bl ⟨#[]⟩ := Classical.not_not.1 h1
      rw [blS ht] at h2
      exact h2
    subst ht0
    have hD : dn = lines s := by rw [← hD, lines_nil, List.append_nil]
    repeat' (first | (first | (first | (with_reducible refine p_tn ?_) | (with_reducible refine p_tx ?_) | (with_reducible refine p_tr ?_) | (with_reducible refine p_bn ?_) | (with_reducible refine p_br ?_) | (with_reducible refine x_hit ?_) | (with_reducible refine x_miss rfl ?_) | (with_reducible refine wp_seq ?_) | (with_reducible refine wp_block ?_) | (with_reducible refine w_reg ?_) | (with_reducible (refine is_if ?_; first | refine w_ift rfl ?_ | refine w_iff rfl ?_)) | ((with_reducible refine is_if ?_); first | refine w_ift rfl ?_ | refine w_iff rfl ?_) | (with_reducible refine wp_skip ?_) | (with_reducible refine wp_exit ?_) | (with_reducible refine wp_ret ?_)) | (with_reducible refine p_sn ?_) | (with_reducible refine p_sr ?_) | (with_reducible refine p_sx ?_) | (with_reducible refine wp_scope_straight ?_) | (with_reducible refine wp_label ?_)) | (with_reducible refine l_nil ?_))
    refine end0 rfl ?_
    exact ⟨⟨_, rfl⟩, .inl ⟨_, rfl, hD ▸ hJ⟩⟩
end Go.Proofs.Ytljinjgamgmocaa.K
