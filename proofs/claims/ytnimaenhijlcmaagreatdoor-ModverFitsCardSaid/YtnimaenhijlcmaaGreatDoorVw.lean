/- Base64 read. -/
import Derived.Test.YtnimaenhijlcmaaGreatDoorVu
namespace Go.Proofs.YtnimaenhijlcmaaGreatDoor.K
open Go.RowKit Go.Proofs.YtnimaenhijlcmaaGreatDoor.Q Go.Proofs.YtnimaenhijlcmaaGreatDoor.Mb Go.Proofs.YtnimaenhijlcmaaGreatDoorW.PrintWords
set_option linter.unusedVariables false
set_option linter.unusedSimpArgs false

/-- How DecodeBase64 ends. -/
def DeR (w : World) (o : Option L) (n : Int) (e : Ending) (w' : World) : Prop := match o with
  | none => e = .returned (.tuple #[.slice none 0 0, .int .i64 n]) ∧ Below w.heap.size w w'
  | some l => ∃ A c, e = .returned (.tuple #[.slice A l.length c, .int .i64 0]) ∧ Hp w w' [] [rowB (.slice A l.length c) l]
theorem der_none {w w' : World} {o : Option L} {n : Int} {e : Ending} (ho : o = none) (he : e = .returned (.tuple #[.slice none 0 0, .int .i64 n])) (hb : Below w.heap.size w w') : DeR w o n e w' := by
  subst ho
  exact ⟨he, hb⟩
theorem der_some {w w' : World} {o : Option L} {l : L} {n : Int} {e : Ending} {A : Option Addr} {c : Nat} (ho : o = some l) (he : e = .returned (.tuple #[.slice A l.length c, .int .i64 0])) (H : Hp w w' [] [rowB (.slice A l.length c) l]) : DeR w o n e w' := by
  subst ho
  exact ⟨A, c, he, H⟩
theorem trimE_sub (s : L) : ∀ y ∈ trimE s, y ∈ s := by
  intro y hy
  rcases trimE_cases s with ⟨l, h1, h2⟩ | ⟨_, h2⟩
  · rw [h2] at hy
    rw [h1]
    exact List.mem_append_left _ hy
  · rw [h2] at hy
    exact hy
theorem trimE_len (s : L) : (trimE s).length ≤ s.length := by
  rcases trimE_cases s with ⟨l, h1, h2⟩ | ⟨_, h2⟩
  · rw [h2, h1, List.length_append]; omega
  · rw [h2]; exact Nat.le_refl _
set_option maxRecDepth 100000 in
set_option maxHeartbeats 8000000 in
theorem dec_c (t : ByteArray) (w : World) :
    Calls Tryz.prog 53 #[.string t] w fun e w' => DeR w (if 1048576 < t.size then none else b64D (bl t)) (if 1048576 < t.size then 2 else 60) e w' := by
  have hlen := bl_length t
  refine enter (args := [.string t]) Tryz.func53 rfl Tryz.ntmps53 rfl ?_
  have H := Hp.nil w
  repeat' (first | (with_reducible first | refine p_tn ?_ | refine wp_seq ?_ | refine w_reg ?_ | refine l_nil ?_) | ((with_reducible refine g_on ?_); (first | ((with_reducible refine g_mv ?_); refine l_p txs rfl rfl ?_) | ((with_reducible refine g_as ?_); refine l_p txs rfl rfl ?_) | ((with_reducible refine g_cl ?_); refine l_p txs rfl rfl ?_))))
  (with_reducible refine is_l ?_); refine l_t txs rfl rfl (fun hbig => ?_) (fun hsm => ?_)
  · rw [if_pos (by omega), if_pos (by omega)]
    have hno : (none : Option L) = none := rfl
    repeat' (first | (with_reducible first | refine p_tn ?_ | refine p_tr ?_ | refine wp_seq ?_ | refine w_reg ?_) | (with_reducible (refine is_if ?_; (refine w_ift rfl ?_))) | (with_reducible first | refine wp_ret ?_ | refine l_nil ?_) | ((with_reducible refine g_on ?_); ((with_reducible refine g_as ?_); refine l_p txs rfl rfl ?_)))
    refine end2 rfl rfl rfl ?_
    exact der_none hno rfl H.B
  rw [if_neg (by omega), if_neg (by omega)]
  have hB : b64D (bl t) = if (bl t).length % 4 = 0 then decG (trimE (trimE (bl t))) 0 0 else none := rfl
  repeat' (first | (with_reducible first | refine p_tn ?_ | refine wp_seq ?_ | refine w_reg ?_) | (with_reducible (refine is_if ?_; (refine w_iff rfl ?_))) | (with_reducible first | refine wp_skip ?_ | refine l_nil ?_) | ((with_reducible refine g_on ?_); (first | ((with_reducible refine g_mv ?_); refine l_p txs rfl rfl ?_) | ((with_reducible refine g_cl ?_); refine l_p txs rfl rfl ?_))))
  (with_reducible refine is_l ?_); refine l_rem rfl rfl (by omega) (by decide) ?_
  skip
  (with_reducible refine is_l ?_); refine l_t txs rfl rfl (fun h4 => ?_) (fun h4 => ?_)
  · have hno : b64D (bl t) = none := by rw [hB, if_neg (by omega)]
    repeat' (first | (with_reducible first | refine p_tn ?_ | refine p_tr ?_ | refine wp_seq ?_ | refine w_reg ?_) | (with_reducible (refine is_if ?_; (refine w_ift rfl ?_))) | (with_reducible first | refine wp_ret ?_ | refine l_nil ?_) | ((with_reducible refine g_on ?_); ((with_reducible refine g_as ?_); refine l_p txs rfl rfl ?_)))
    refine end2 rfl rfl rfl ?_
    exact der_none hno rfl H.B
  rw [if_pos (by omega)] at hB
  have b1 : Bytes (trimE (bl t)) := fun y hy => bl_bytes t y (trimE_sub _ y hy)
  have b2 : Bytes (trimE (trimE (bl t))) := fun y hy => b1 y (trimE_sub _ y hy)
  have l1 := trimE_len (bl t)
  have l2 := trimE_len (trimE (bl t))
  have e61 : bl (⟨#[61]⟩ : ByteArray) = [61] := rfl
  have t1 := trimSuf_c t ⟨#[61]⟩ w (by omega)
  rw [e61] at t1
  have t1 : Calls Tryz.prog 84 #[.string t, .string ⟨#[61]⟩] w fun e w' => e = .returned (.string (strOfNums (trimE (bl t)))) ∧ w' = w := t1
  have t2 := trimSuf_c (strOfNums (trimE (bl t))) ⟨#[61]⟩ w (by rw [← bl_length, blS b1]; omega)
  rw [e61, blS b1] at t2
  have t2 : Calls Tryz.prog 84 #[.string (strOfNums (trimE (bl t))), .string ⟨#[61]⟩] w fun e w' => e = .returned (.string (strOfNums (trimE (trimE (bl t))))) ∧ w' = w := t2
  repeat' (first | (with_reducible first | refine p_tn ?_ | refine wp_seq ?_ | refine w_reg ?_) | (with_reducible (refine is_if ?_; (refine w_iff rfl ?_))) | (with_reducible first | refine wp_skip ?_ | refine l_nil ?_) | ((with_reducible refine g_on ?_); ((with_reducible refine g_mv ?_); refine l_p txs rfl rfl ?_)))
  (with_reducible refine is_l ?_); refine l_callp rfl rfl (by kernel_rfl) t1 ?_
  skip
  (with_reducible refine is_l ?_); refine l_callp rfl rfl (by kernel_rfl) t2 ?_
  generalize hs : trimE (trimE (bl t)) = s at hB b2 l2 ⊢
  have hz : (strOfNums s).size = s.length := by rw [← bl_length, blS b2]
  repeat' (first | (with_reducible first | refine p_tn ?_ | refine wp_seq ?_ | refine w_reg ?_ | refine l_nil ?_) | ((with_reducible refine g_on ?_); (first | ((with_reducible refine g_mv ?_); refine l_p txs rfl rfl ?_) | ((with_reducible refine g_as ?_); refine l_p txs rfl rfl ?_) | ((with_reducible refine g_cl ?_); refine l_p txs rfl rfl ?_))))
  (with_reducible refine is_l ?_); refine l_bii rfl rfl rfl (quoZ _ 4 (by omega) (by omega) (by decide) rfl) ?_
  repeat' ((with_reducible refine g_on ?_); ((with_reducible refine g_bi ?_); (refine l_a txs rfl rfl (by first | exact in_i64 (by omega) (by omega) | exact in_u8 (by omega) (by omega) | exact in_u64 (by omega) (by omega) | exact in_i32 (by omega) (by omega)) ?_)))
  (with_reducible refine is_l ?_); refine h_mk0 (c := t.size / 4 * 3) H info_u8 Tryz.underlying34 rfl rfl rfl (by omega) (by omega) (by simp only [maxLen]; omega) (fun gm w_ H => ?_)
  repeat' (first | (with_reducible first | refine p_tn ?_ | refine wp_seq ?_ | refine wp_block ?_ | refine w_reg ?_ | refine l_nil ?_) | ((with_reducible refine g_on ?_); (first | ((with_reducible refine g_mv ?_); refine l_p txs rfl rfl ?_) | ((with_reducible refine g_as ?_); refine l_p txs rfl rfl ?_) | ((with_reducible refine g_cl ?_); refine l_p txs rfl rfl ?_))))
  refine w_loop (σ := Nat × L × Int × Nat × Option Addr × Nat) (S := fun q => [(4, .string (strOfNums s)), (5, .slice q.2.2.2.2.1 q.2.1.length q.2.2.2.2.2), (6, .int .i64 q.2.2.1), (7, .int .i64 (q.2.2.2.1 : Int)), (26, .int .i64 ((strOfNums s).size : Int)), (27, .int .i64 (q.1 : Int))])
    (J := fun q w' => Hp w w' [] [rowB (.slice q.2.2.2.2.1 q.2.1.length q.2.2.2.2.2) q.2.1] ∧ q.1 ≤ s.length ∧ q.2.1.length ≤ q.1 ∧ 0 ≤ q.2.2.1 ∧ ((q.2.2.2.1 = 0 ∧ q.2.2.1 = 0) ∨ ∃ (h : Nat) (p : Int), q.2.2.2.1 = h + 2 ∧ p = 2 ^ h ∧ ((h = 0 ∧ p = 1 ∧ q.2.2.1 < 4) ∨ (h = 2 ∧ p = 4 ∧ q.2.2.1 < 16) ∨ (h = 4 ∧ p = 16 ∧ q.2.2.1 < 64))) ∧ decG s 0 0 = (decG (s.drop q.1) q.2.2.1 q.2.2.2.1).map (q.2.1 ++ ·)) (μ := fun q => s.length - q.1) (0, [], 0, 0, some ⟨gm, 0, none⟩, t.size / 4 * 3) ⟨rfl, rfl, rfl, rfl, rfl, rfl, trivial⟩ ⟨H, by omega, by simp, by show (0 : Int) ≤ 0; omega, .inl ⟨rfl, rfl⟩, by show decG s 0 0 = (decG s 0 0).map (fun z => [] ++ z); cases decG s 0 0 <;> rfl⟩ ?_
  clear H
  rintro ⟨i, acc, bits, held, A2, c2⟩ f w_ ⟨H, hi, hal, hb0, hst, hV⟩
  simp only at H hi hal hb0 hst hV ⊢
  repeat' (with_reducible first | refine wp_seq ?_ | refine w_reg ?_)
  (with_reducible refine is_l ?_); refine l_t txs rfl rfl (fun hlt => ?_) (fun hge => ?_)
  · obtain ⟨x, hx⟩ : ∃ x, s[i]? = some x := ⟨_, List.getElem?_eq_getElem (by omega)⟩
    have hx2 := b2 x (List.mem_of_getElem? hx)
    have hat : at_ (bl (strOfNums s)) (i : Int) = x := by rw [blS b2]; unfold at_; rw [Int.toNat_natCast, List.getD_eq_getElem?_getD, hx]; rfl
    have hdr : s.drop i = x :: s.drop (i + 1) := by
      obtain ⟨h1, h2⟩ := List.getElem?_eq_some_iff.1 hx
      rw [List.drop_eq_getElem_cons h1, h2]
    rw [hdr] at hV
    repeat' (first | (with_reducible first | refine p_tn ?_ | refine wp_seq ?_ | refine wp_block ?_ | refine w_reg ?_) | (with_reducible (refine is_if ?_; (refine w_ift rfl ?_))) | (with_reducible first | refine wp_skip ?_ | refine l_nil ?_) | ((with_reducible refine g_on ?_); (first | ((with_reducible refine g_mv ?_); refine l_p txs rfl rfl ?_) | ((with_reducible refine g_as ?_); refine l_p txs rfl rfl ?_) | ((with_reducible refine g_ix ?_); refine l_ix txs rfl rfl (by first | omega | assumption | decide) (by first | omega | assumption | decide) ?_))))
    rw [hat]
    skip
    (with_reducible refine is_l ?_); refine l_callp rfl rfl (by kernel_rfl) (value_c x hx2.1 hx2.2 _) ?_
    have hvc := val_cases x
    generalize hv : val x = v at hvc ⊢
    repeat' (first | (with_reducible first | refine p_tn ?_ | refine wp_seq ?_ | refine w_reg ?_ | refine l_nil ?_) | ((with_reducible refine g_on ?_); (first | ((with_reducible refine g_mv ?_); refine l_p txs rfl rfl ?_) | ((with_reducible refine g_as ?_); refine l_p txs rfl rfl ?_))))
    (with_reducible refine is_l ?_); refine l_t txs rfl rfl (fun hneg => ?_) (fun hpos => ?_)
    · have hno : b64D (bl t) = none := by rw [hB, hV, decG_bad _ _ _ (by omega)]; rfl
      repeat' (first | (with_reducible first | refine p_tn ?_ | refine p_tr ?_ | refine p_br ?_ | refine wp_seq ?_ | refine w_reg ?_) | (with_reducible (refine is_if ?_; (refine w_ift rfl ?_))) | (with_reducible first | refine wp_ret ?_ | refine l_nil ?_) | ((with_reducible refine g_on ?_); ((with_reducible refine g_as ?_); refine l_p txs rfl rfl ?_)))
      refine end2 rfl rfl rfl ?_
      exact der_none hno rfl H.B
    have hbl : bits < 64 := by rcases hst with ⟨_, h⟩ | ⟨_, _, _, _, ⟨_, _, h⟩ | ⟨_, _, h⟩ | ⟨_, _, h⟩⟩ <;> omega
    have hhl : held ≤ 6 := by rcases hst with ⟨h, _⟩ | ⟨_, _, h, _, ⟨_, _, _⟩ | ⟨_, _, _⟩ | ⟨_, _, _⟩⟩ <;> omega
    repeat' (first | (with_reducible first | refine p_tn ?_ | refine wp_seq ?_ | refine w_reg ?_) | (with_reducible (refine is_if ?_; (refine w_iff rfl ?_))) | (with_reducible first | refine wp_skip ?_ | refine l_nil ?_) | ((with_reducible refine g_on ?_); ((with_reducible refine g_mv ?_); refine l_p txs rfl rfl ?_)))
    (with_reducible refine is_l ?_); refine l_bii (z := .int .i64 (bits * 64)) rfl rfl rfl (shlI _ _ 6 (by decide) (x := bits) (z := bits * 64) rfl (by omega) (by omega)) ?_
    repeat' ((with_reducible refine g_on ?_); ((with_reducible refine g_mv ?_); refine l_p txs rfl rfl ?_))
    (with_reducible refine is_l ?_); refine l_bii (z := .int .i64 (bits * 64 + v)) rfl rfl rfl (orI _ _ 6 (by decide) (x := bits * 64) (y := v) (by omega) (by omega) (by omega) (by omega) (by omega) rfl) ?_
    repeat' (first | (with_reducible first | refine p_tn ?_ | refine wp_seq ?_ | refine w_reg ?_ | refine l_nil ?_) | ((with_reducible refine g_on ?_); (first | ((with_reducible refine g_mv ?_); refine l_p txs rfl rfl ?_) | ((with_reducible refine g_as ?_); refine l_p txs rfl rfl ?_) | ((with_reducible refine g_bi ?_); (refine l_a txs rfl rfl (by first | exact in_i64 (by omega) (by omega) | exact in_u8 (by omega) (by omega) | exact in_u64 (by omega) (by omega) | exact in_i32 (by omega) (by omega)) ?_)))))
    rcases hst with ⟨rfl, rfl⟩ | ⟨h, p, rfl, hp, hpp⟩
    · rw [decG_0 _ _ (by omega), hv] at hV
      (with_reducible refine is_l ?_); refine l_t txs rfl rfl (fun h8 => absurd h8 (by omega)) (fun _ => ?_)
      repeat' (first | (with_reducible first | refine p_tn ?_ | refine p_bn ?_ | refine w_reg ?_) | (with_reducible (refine is_if ?_; (refine w_iff rfl ?_))) | (with_reducible first | refine wp_skip ?_ | refine l_nil ?_) | ((with_reducible refine g_on ?_); (first | ((with_reducible refine g_mv ?_); refine l_p txs rfl rfl ?_) | ((with_reducible refine g_bi ?_); (refine l_a txs rfl rfl (by first | exact in_i64 (by omega) (by omega) | exact in_u8 (by omega) (by omega) | exact in_u64 (by omega) (by omega) | exact in_i32 (by omega) (by omega)) ?_)))))
      exact ⟨(i + 1, acc, 0 * 64 + v, 6, A2, c2), _, rfl, ⟨rfl, rfl, rfl, rfl, rfl, rfl, trivial⟩, ⟨H, by show i + 1 ≤ _; omega, by show acc.length ≤ i + 1; omega, by show 0 ≤ 0 * 64 + v; omega, .inr ⟨4, 16, rfl, by decide, .inr (.inr ⟨rfl, rfl, by show 0 * 64 + v < 64; omega⟩)⟩, hV⟩, by show _ - (i + 1) < _ - i; omega⟩
    · rw [decG_n _ _ (by omega) (by omega), hv, show h + 2 - 2 = h by omega, ← hp, map_map_cons] at hV
      generalize hN : bits * 64 + v = N at hV ⊢
      have hq : 0 ≤ N / p ∧ N / p ≤ 255 := by rcases hpp with ⟨_, rfl, _⟩ | ⟨_, rfl, _⟩ | ⟨_, rfl, _⟩ <;> omega
      have hm : 0 ≤ N % p ∧ N % p < p := by rcases hpp with ⟨_, rfl, _⟩ | ⟨_, rfl, _⟩ | ⟨_, rfl, _⟩ <;> omega
      have hp16 : 1 ≤ p ∧ p ≤ 16 ∧ h ≤ 4 := by rcases hpp with ⟨_, rfl, _⟩ | ⟨_, rfl, _⟩ | ⟨_, rfl, _⟩ <;> omega
      rw [show N / p % 256 = N / p by omega] at hV
      generalize hy : N / p = y at hq hV
      generalize hmm : N % p = m at hm hV
      (with_reducible refine is_l ?_); refine l_t txs rfl rfl (fun _ => ?_) (fun h8 => absurd (by omega) h8)
      have hh8 : ((h + 2 : Nat) : Int) + 6 - 8 = (h : Int) := by omega
      repeat' (first | (with_reducible first | refine p_tn ?_ | refine wp_seq ?_ | refine w_reg ?_) | (with_reducible (refine is_if ?_; (refine w_ift rfl ?_))) | (with_reducible refine l_nil ?_) | ((with_reducible refine g_on ?_); (first | ((with_reducible refine g_mv ?_); refine l_p txs rfl rfl ?_) | ((with_reducible refine g_as ?_); refine l_p txs rfl rfl ?_) | ((with_reducible refine g_bi ?_); (refine l_a txs rfl rfl (by first | exact in_i64 (by omega) (by omega) | exact in_u8 (by omega) (by omega) | exact in_u64 (by omega) (by omega) | exact in_i32 (by omega) (by omega)) ?_)))))
      rw [hh8]
      (with_reducible refine is_l ?_); refine l_bii (z := .int .i64 y) rfl rfl rfl (shrI _ _ h (by omega) (x := N) (z := y) (by omega) (by rw [← hp, hy])) ?_
      repeat' ((with_reducible refine g_on ?_); ((with_reducible refine g_cv ?_); (refine l_a txs rfl rfl (by first | exact in_i64 (by omega) (by omega) | exact in_u8 (by omega) (by omega) | exact in_u64 (by omega) (by omega) | exact in_i32 (by omega) (by omega)) ?_)))
      (with_reducible refine is_l ?_); refine h_bs H info_u8 Tryz.underlying34 (by decide) (by decide) rfl rfl (by kernel_rfl) (fun g_ w_ H => ?_)
      (with_reducible refine is_l ?_); refine h_app H 0 rfl info_u8 Tryz.underlying34 rfl rfl rfl rfl (H.cellRd 0 rfl) rfl rfl (by show (acc.length + 1) * 1 ≤ _; omega) (fun v w_ hv H => ?_)
      obtain ⟨A', c', rfl⟩ := hv
      have H := H.pick [] [0] (by decide) (by decide) rfl rfl
      have H : Hp w w_ [] [rowB (.slice A' (acc.length + 1) c') (acc ++ [y])] := by
        unfold rowB
        rw [nums_snoc, List.length_append, List.length_singleton]
        exact H
      have hal2 : (acc ++ [y]).length = acc.length + 1 := by rw [List.length_append, List.length_singleton]
      repeat' (first | (with_reducible first | refine p_tn ?_ | refine w_reg ?_ | refine l_nil ?_) | ((with_reducible refine g_on ?_); (first | ((with_reducible refine g_mv ?_); refine l_p txs rfl rfl ?_) | ((with_reducible refine g_as ?_); refine l_p txs rfl rfl ?_))))
      (with_reducible refine is_l ?_); refine l_bii (z := .int .i64 p) rfl rfl rfl (shlI _ _ h (by omega) (x := 1) (z := p) (by rw [hp]; omega) (by omega) (by omega)) ?_
      repeat' ((with_reducible refine g_on ?_); ((with_reducible refine g_bi ?_); (refine l_a txs rfl rfl (by first | exact in_i64 (by omega) (by omega) | exact in_u8 (by omega) (by omega) | exact in_u64 (by omega) (by omega) | exact in_i32 (by omega) (by omega)) ?_)))
      (with_reducible refine is_l ?_); refine l_bii (z := .int .i64 m) rfl rfl rfl (andI _ _ h (by omega) (x := N) (m := p - 1) (z := m) (by rw [hp]) (by omega) (by omega) (by rw [← hp, hmm])) ?_
      repeat' (first | (with_reducible first | refine p_tn ?_ | refine p_bn ?_ | refine w_reg ?_ | refine l_nil ?_) | ((with_reducible refine g_on ?_); (first | ((with_reducible refine g_mv ?_); refine l_p txs rfl rfl ?_) | ((with_reducible refine g_as ?_); refine l_p txs rfl rfl ?_) | ((with_reducible refine g_bi ?_); (refine l_a txs rfl rfl (by first | exact in_i64 (by omega) (by omega) | exact in_u8 (by omega) (by omega) | exact in_u64 (by omega) (by omega) | exact in_i32 (by omega) (by omega)) ?_)))))
      refine ⟨(i + 1, acc ++ [y], m, h, A', c'), _, rfl, ⟨rfl, by show _ = Value.slice A' (acc ++ [y]).length c'; rw [hal2]; rfl, rfl, rfl, rfl, rfl, trivial⟩, ⟨by rw [hal2]; exact H, by show i + 1 ≤ _; omega, by show (acc ++ [y]).length ≤ i + 1; omega, hm.1, ?_, hV⟩, by show _ - (i + 1) < _ - i; omega⟩
      show (h = 0 ∧ m = 0) ∨ _
      rcases hpp with ⟨h0, h1, _⟩ | ⟨h0, h1, _⟩ | ⟨h0, h1, _⟩
      · exact .inl ⟨h0, by omega⟩
      · exact .inr ⟨0, 1, h0, by decide, .inl ⟨rfl, rfl, by show m < 4; omega⟩⟩
      · exact .inr ⟨2, 4, h0, by decide, .inr (.inl ⟨rfl, rfl, by show m < 16; omega⟩)⟩
  · have hnil : s.drop i = [] := List.drop_eq_nil_of_le (by omega)
    rw [hnil, decG_nil] at hV
    repeat' (first | (with_reducible first | refine p_tn ?_ | refine p_tx ?_ | refine x_hit ?_ | refine wp_seq ?_ | refine w_reg ?_) | (with_reducible (refine is_if ?_; (refine w_iff rfl ?_))) | (with_reducible first | refine wp_exit ?_ | refine l_nil ?_) | ((with_reducible refine g_on ?_); ((with_reducible refine g_mv ?_); refine l_p txs rfl rfl ?_)))
    (with_reducible refine is_l ?_); refine l_t txs rfl rfl (fun hne => ?_) (fun heq => ?_)
    · have hno : b64D (bl t) = none := by rw [hB, hV, if_neg hne]; rfl
      repeat' (first | (with_reducible first | refine p_tn ?_ | refine p_tr ?_ | refine wp_seq ?_ | refine w_reg ?_) | (with_reducible (refine is_if ?_; (refine w_ift rfl ?_))) | (with_reducible first | refine wp_ret ?_ | refine l_nil ?_) | ((with_reducible refine g_on ?_); ((with_reducible refine g_as ?_); refine l_p txs rfl rfl ?_)))
      refine end2 rfl rfl rfl ?_
      exact der_none hno rfl H.B
    · have hso : b64D (bl t) = some acc := by rw [hB, hV, if_pos (Classical.not_not.1 heq)]; simp
      repeat' (first | (with_reducible first | refine p_tn ?_ | refine wp_seq ?_ | refine w_reg ?_) | (with_reducible (refine is_if ?_; (refine w_iff rfl ?_))) | (with_reducible first | refine wp_skip ?_ | refine wp_ret ?_ | refine l_nil ?_) | ((with_reducible refine g_on ?_); (first | ((with_reducible refine g_mv ?_); refine l_p txs rfl rfl ?_) | ((with_reducible refine g_as ?_); refine l_p txs rfl rfl ?_))))
      refine end2 rfl rfl rfl ?_
      exact der_some hso rfl H
end Go.Proofs.YtnimaenhijlcmaaGreatDoor.K
