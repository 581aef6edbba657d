/- ModverNumbers. -/
import Derived.Test.YtnimaenhijlcmaaDoorNb
namespace Go.Proofs.YtnimaenhijlcmaaDoor.K.Num
open Go.RowKit Go.Proofs.YtnimaenhijlcmaaDoor.Q Go.Proofs.YtnimaenhijlcmaaDoor.K Go.Proofs.YtnimaenhijlcmaaDoor.Mb Go.Proofs.YtnimaenhijlcmaaDoorW.PrintWords
set_option linter.unusedVariables false
set_option linter.unusedSimpArgs false

section
variable {P : Program} {n : Nat} {Q : Exit → Act → World → Prop} {f : Fr} {w : World}
/-- Where several ways meet: what stands in the slots there, and what holds of the world. -/
theorem w_cut {σ : Type} (S : σ → List (Nat × Value)) (J : σ → World → Prop) {x z : Code}
    (h1 : x.wp P (Exit.then (fun a' w' => ∃ s f', a' = act n f' ∧ Slots f' (S s) ∧ J s w') Q) (act n f) w)
    (h2 : ∀ s f w', J s w' → z.wp P Q (act n (over f (S s))) w') : (Code.seq x z).wp P Q (act n f) w := by
  refine wp_seq (wp_mono h1 ?_)
  intro e a' w' hq
  cases e with
  | normal =>
    obtain ⟨s, f', rfl, k2, k3⟩ := hq
    have := h2 s f' w' k3
    rw [over_eq k2] at this
    exact this
  | exit id => exact hq
  | goto l => exact hq
  | ret => exact hq
  | panic ch => exact hq
  | outgrown => exact hq
end
theorem cmp_b {w : World} {mx : Int} (hM : w.cell? ⟨2, 0, none⟩ = some (.int .i64 mx)) {p q : ByteArray} {x y : L} (hx : bl p = x) (hy : bl q = y) {n : Int} (hn : compareS x y = n) :
    Calls Tryd.prog 14 #[.string p, .string q] w fun e w' => e = .returned (.int .i64 n) ∧ Below w.heap.size w w' := by
  have h := Compare_c hM p q
  rw [hx, hy, hn] at h
  exact h
theorem ver_b {w : World} {mx : Int} (hM : w.cell? ⟨2, 0, none⟩ = some (.int .i64 mx)) {p : ByteArray} {x : L} (hx : bl p = x) {n : Int} (hn : (chkV x : Int) = n) :
    Calls Tryd.prog 13 #[.string p] w fun e w' => e = .returned (.int .i64 n) ∧ Below w.heap.size w w' := by
  have h := checkVersion_c hM p
  rw [hx, hn] at h
  exact h
theorem chk_some {s : L} (h : (parseV s).isSome = true) : (chkV s : Int) = 0 := by
  unfold chkV
  cases hp : parseV s with
  | none => rw [hp] at h; cases h
  | some v => rfl
theorem chk_none {s : L} (h : parseV s = none) : (chkV s : Int) = 111 := by
  unfold chkV
  rw [h]
  rfl
set_option maxRecDepth 100000 in
set_option maxHeartbeats 8000000 in
theorem numbers_c {w : World} {mx : Int} (hM : w.cell? ⟨2, 0, none⟩ = some (.int .i64 mx)) (hP : TabP w) (a b c x y z : Nat) (ha : a < 4294967296) (hb : b < 4294967296) (hc : c < 4294967296) (hx : x < 4294967296) (hy : y < 4294967296) (hz : z < 4294967296) :
    Calls Tryd.prog 3 #[.agg (triA a b c).toArray, .agg (triA x y z).toArray] w fun e w' => e = .returned (.bool true) ∧ Below w.heap.size w w' := by
  have F := num_facts (a := a) (b := b) (c := c) (x := x) (y := y) (z := z) ha hb hc hx hy hz
  have hr := side_range a b c x y z
  have c1 := fun (w1 : World) (h1 : TabP w1) => three_c h1 a b c ha hb hc
  have c2 := fun (w1 : World) (h1 : TabP w1) => three_c h1 x y z hx hy hz
  have c3 := fun (w1 : World) => side_c w1 a b c x y z
  have hX : bl (strOfNums (threeS a b c)) = threeS a b c := blS (part_bytes a b c 3)
  have hY : bl (strOfNums (threeS x y z)) = threeS x y z := blS (part_bytes x y z 3)
  have zX : (strOfNums (threeS a b c)).size ≤ 40 := part_size ha hb hc 3
  generalize hs : side3 a b c x y z = s at F hr c3
  obtain ⟨F1, F2, F3, F4, F5, F6, F7⟩ := F
  rw [hs] at F2 F5 F7
  generalize threeS a b c = lX at hX F1 F2 F3 F4 F5 F6 F7 c1 zX
  generalize threeS x y z = lY at hY F2 F5 F7 c2
  generalize strOfNums lX = X at hX c1 zX
  generalize strOfNums lY = Y at hY c2
  have e0 : bl (X ++ ⟨#[45, 48]⟩) = lX ++ p0 := by rw [bl_cat, hX]; rfl
  have e9 : bl (X ++ ⟨#[45, 97, 46, 57]⟩) = lX ++ pa9 := by rw [bl_cat, hX]; rfl
  have e10 : bl (X ++ ⟨#[45, 97, 46, 49, 48]⟩) = lX ++ pa10 := by rw [bl_cat, hX]; rfl
  have erc : bl (X ++ ⟨#[45, 114, 99, 46, 49]⟩) = lX ++ prc := by rw [bl_cat, hX]; rfl
  have einc : bl (X ++ ⟨#[43, 105, 110, 99, 111, 109, 112, 97, 116, 105, 98, 108, 101]⟩) = lX ++ incompat := by rw [bl_cat, hX]; rfl
  have z0 : (⟨#[45, 48]⟩ : ByteArray).size = 2 := rfl
  have z9 : (⟨#[45, 97, 46, 57]⟩ : ByteArray).size = 4 := rfl
  have z10 : (⟨#[45, 97, 46, 49, 48]⟩ : ByteArray).size = 5 := rfl
  have zrc : (⟨#[45, 114, 99, 46, 49]⟩ : ByteArray).size = 5 := rfl
  have zinc : (⟨#[43, 105, 110, 99, 111, 109, 112, 97, 116, 105, 98, 108, 101]⟩ : ByteArray).size = 13 := rfl
  refine enter (args := [.agg (triA a b c).toArray, .agg (triA x y z).toArray]) Tryd.func3 rfl Tryd.ntmps3 rfl ?_
  have H := Hp.nil w
  repeat' (with_reducible first | refine wp_seq ?_ | refine w_reg ?_)
  (with_reducible refine is_l ?_); refine h_box H rfl rfl rfl (fun gX w_ H => ?_)
  (with_reducible refine is_l ?_); refine h_box H rfl rfl rfl (fun gY w_ H => ?_)
  repeat' (first | (with_reducible first | refine p_tn ?_ | refine wp_seq ?_ | refine w_reg ?_ | refine l_nil ?_) | ((with_reducible refine g_on ?_); (first | ((with_reducible refine g_as ?_); refine l_p txs rfl rfl ?_) | ((with_reducible refine g_ld ?_); (refine h_ldR recs H 1 rfl rfl rfl rfl rfl ?_)))))
  (with_reducible refine is_l ?_); refine l_callv rfl rfl (by kernel_rfl) (c1 _ (hP.below H.B)) (fun w_ K => ?_)
  have H := H.call K
  repeat' (first | (with_reducible first | refine p_tn ?_ | refine wp_seq ?_ | refine w_reg ?_ | refine l_nil ?_) | ((with_reducible refine g_on ?_); (first | ((with_reducible refine g_as ?_); refine l_p txs rfl rfl ?_) | ((with_reducible refine g_ld ?_); (refine h_ldR recs H 0 rfl rfl rfl rfl rfl ?_)))))
  (with_reducible refine is_l ?_); refine l_callv rfl rfl (by kernel_rfl) (c2 _ (hP.below H.B)) (fun w_ K => ?_)
  have H := H.call K
  repeat' (first | (with_reducible first | refine p_tn ?_ | refine wp_seq ?_ | refine w_reg ?_ | refine l_nil ?_) | ((with_reducible refine g_on ?_); (first | ((with_reducible refine g_as ?_); refine l_p txs rfl rfl ?_) | ((with_reducible refine g_ld ?_); (first | (refine h_ldR recs H 0 rfl rfl rfl rfl rfl ?_) | (refine h_ldR recs H 1 rfl rfl rfl rfl rfl ?_))))))
  (with_reducible refine is_l ?_); refine l_callv rfl rfl (by kernel_rfl) (c3 _) (fun w_ K => ?_)
  have H := H.call K
  repeat' (first | (with_reducible first | refine p_tn ?_ | refine wp_seq ?_ | refine w_reg ?_ | refine l_nil ?_) | ((with_reducible refine g_on ?_); (first | ((with_reducible refine g_mv ?_); refine l_p txs rfl rfl ?_) | ((with_reducible refine g_as ?_); refine l_p txs rfl rfl ?_))))
  (with_reducible refine is_l ?_); refine l_callv rfl rfl (by kernel_rfl) (ver_b (p := X) (H.old hM) hX (chk_some F1)) (fun w_ K => ?_)
  have H := H.call K
  skip
  (with_reducible refine is_l ?_); refine l_t txs rfl rfl (fun h => absurd rfl h) (fun _ => ?_)
  repeat' (first | ((with_reducible refine g_on ?_); ((with_reducible refine g_mv ?_); refine l_p txs rfl rfl ?_)) | ((with_reducible refine g_if ?_); ((with_reducible refine g_mv ?_); refine l_p txs rfl rfl ?_)))
  (with_reducible refine is_l ?_); refine l_callv rfl rfl (by kernel_rfl) (cmp_b (p := X) (q := Y) (H.old hM) hX hY F2) (fun w_ K => ?_)
  have H := H.call K
  repeat' ((with_reducible refine g_if ?_); ((with_reducible refine g_mv ?_); refine l_p txs rfl rfl ?_))
  (with_reducible refine is_l ?_); refine l_t txs rfl rfl (fun h => absurd rfl h) (fun _ => ?_)
  repeat' (first | ((with_reducible refine g_on ?_); (first | ((with_reducible refine g_mv ?_); refine l_p txs rfl rfl ?_) | ((with_reducible refine g_pk ?_); refine l_p txs rfl rfl ?_))) | ((with_reducible refine g_if ?_); ((with_reducible refine g_mv ?_); refine l_p txs rfl rfl ?_)))
  (with_reducible refine is_l ?_); refine l_cat rfl rfl (by omega) ?_
  generalize X ++ ⟨#[45, 48]⟩ = X0 at e0 ⊢
  repeat' ((with_reducible refine g_if ?_); ((with_reducible refine g_mv ?_); refine l_p txs rfl rfl ?_))
  (with_reducible refine is_l ?_); refine l_callv rfl rfl (by kernel_rfl) (cmp_b (p := X0) (q := X) (H.old hM) e0 hX F3) (fun w_ K => ?_)
  have H := H.call K
  skip
  (with_reducible refine is_l ?_); refine l_t txs rfl rfl (fun h => absurd rfl h) (fun _ => ?_)
  repeat' (first | ((with_reducible refine g_on ?_); (first | ((with_reducible refine g_mv ?_); refine l_p txs rfl rfl ?_) | ((with_reducible refine g_pk ?_); refine l_p txs rfl rfl ?_))) | ((with_reducible refine g_if ?_); ((with_reducible refine g_mv ?_); refine l_p txs rfl rfl ?_)))
  (with_reducible refine is_l ?_); refine l_cat rfl rfl (by omega) ?_
  generalize X ++ ⟨#[45, 97, 46, 57]⟩ = X9 at e9 ⊢
  repeat' ((with_reducible refine g_if ?_); ((with_reducible refine g_mv ?_); refine l_p txs rfl rfl ?_))
  (with_reducible refine is_l ?_); refine l_cat rfl rfl (by omega) ?_
  generalize X ++ ⟨#[45, 97, 46, 49, 48]⟩ = X10 at e10 ⊢
  skip
  (with_reducible refine is_l ?_); refine l_callv rfl rfl (by kernel_rfl) (cmp_b (p := X9) (q := X10) (H.old hM) e9 e10 F4) (fun w_ K => ?_)
  have H := H.call K
  skip
  (with_reducible refine is_l ?_); refine l_t txs rfl rfl (fun h => absurd rfl h) (fun _ => ?_)
  repeat' (first | (with_reducible first | refine p_tn ?_ | refine wp_seq ?_ | refine w_reg ?_) | (with_reducible (refine is_if ?_; (refine w_iff rfl ?_))) | (with_reducible first | refine wp_skip ?_ | refine l_nil ?_) | ((with_reducible refine g_on ?_); (first | ((with_reducible refine g_mv ?_); refine l_p txs rfl rfl ?_) | ((with_reducible refine g_pk ?_); refine l_p txs rfl rfl ?_))))
  (with_reducible refine is_l ?_); refine l_cat rfl rfl (by omega) ?_
  generalize X ++ ⟨#[45, 114, 99, 46, 49]⟩ = Xr at erc ⊢
  repeat' ((with_reducible refine g_on ?_); ((with_reducible refine g_mv ?_); refine l_p txs rfl rfl ?_))
  (with_reducible refine is_l ?_); refine l_callv rfl rfl (by kernel_rfl) (cmp_b (p := Xr) (q := Y) (H.old hM) erc hY F5) (fun w_ K => ?_)
  have H := H.call K
  repeat' (first | (with_reducible refine l_nil ?_) | ((with_reducible refine g_on ?_); ((with_reducible refine g_as ?_); refine l_p txs rfl rfl ?_)))
  with_reducible refine p_tn ?_
  refine w_cut (σ := Unit) (S := fun _ => [(2, .pointer (some ⟨gX, 0, none⟩)), (5, .string X), (6, .string Y), (7, .int .i64 s)]) (J := fun _ w' => Hp w w' [(gX, 23, triA a b c)] []) ?_ ?_
  · repeat' (first | (with_reducible first | refine wp_seq ?_ | refine w_reg ?_) | ((with_reducible refine g_on ?_); ((with_reducible refine g_mv ?_); refine l_p txs rfl rfl ?_)))
    (with_reducible refine is_l ?_); refine l_t txs rfl rfl (fun h1 => ?_) (fun h1 => ?_)
    · rw [if_pos h1]
      repeat' (first | ((with_reducible refine g_on ?_); ((with_reducible refine g_mv ?_); refine l_p txs rfl rfl ?_)) | ((with_reducible refine g_if ?_); ((with_reducible refine g_mv ?_); refine l_p txs rfl rfl ?_)))
      (with_reducible refine is_l ?_); refine l_t txs rfl rfl (fun h => absurd rfl h) (fun _ => ?_)
      repeat' (first | ((with_reducible refine g_on ?_); (first | ((with_reducible refine g_mv ?_); refine l_p txs rfl rfl ?_) | ((with_reducible refine g_pk ?_); refine l_p txs rfl rfl ?_))) | ((with_reducible refine g_if ?_); ((with_reducible refine g_mv ?_); refine l_p txs rfl rfl ?_)))
      (with_reducible refine is_l ?_); refine l_t txs rfl rfl (fun h => absurd h (by omega)) (fun _ => ?_)
      repeat' (first | (with_reducible refine p_tn ?_) | (with_reducible (refine is_if ?_; (refine w_iff rfl ?_))) | (with_reducible first | refine wp_skip ?_ | refine l_nil ?_) | ((with_reducible refine g_on ?_); ((with_reducible refine g_pk ?_); refine l_p txs rfl rfl ?_)) | ((with_reducible refine g_if ?_); (first | (refine l_off rfl ?_) | ((with_reducible refine g_mv ?_); refine l_p txs rfl rfl ?_) | ((with_reducible refine g_pk ?_); refine l_p txs rfl rfl ?_))))
      exact ⟨(), _, rfl, ⟨rfl, rfl, rfl, rfl, trivial⟩, H.pick [1] [] (by decide) (by decide) rfl rfl⟩
    · rw [if_neg h1]
      repeat' (first | ((with_reducible refine g_on ?_); (first | ((with_reducible refine g_mv ?_); refine l_p txs rfl rfl ?_) | ((with_reducible refine g_pk ?_); refine l_p txs rfl rfl ?_))) | ((with_reducible refine g_if ?_); (first | (refine l_off rfl ?_) | ((with_reducible refine g_mv ?_); refine l_p txs rfl rfl ?_))))
      (with_reducible refine is_l ?_); refine l_t txs rfl rfl (fun _ => ?_) (fun h => absurd (by omega) h)
      repeat' ((with_reducible refine g_if ?_); ((with_reducible refine g_mv ?_); refine l_p txs rfl rfl ?_))
      (with_reducible refine is_l ?_); refine l_t txs rfl rfl (fun h => absurd rfl h) (fun _ => ?_)
      repeat' (first | (with_reducible refine p_tn ?_) | (with_reducible (refine is_if ?_; (refine w_iff rfl ?_))) | (with_reducible first | refine wp_skip ?_ | refine l_nil ?_) | ((with_reducible refine g_on ?_); ((with_reducible refine g_pk ?_); refine l_p txs rfl rfl ?_)) | ((with_reducible refine g_if ?_); ((with_reducible refine g_pk ?_); refine l_p txs rfl rfl ?_)))
      exact ⟨(), _, rfl, ⟨rfl, rfl, rfl, rfl, trivial⟩, H.pick [1] [] (by decide) (by decide) rfl rfl⟩
  clear H
  rintro ⟨⟩ f w_ H
  repeat' (first | (with_reducible first | refine wp_seq ?_ | refine w_reg ?_) | ((with_reducible refine g_on ?_); ((with_reducible refine g_mv ?_); refine l_p txs rfl rfl ?_)))
  (with_reducible refine is_l ?_); refine l_cat rfl rfl (by omega) ?_
  generalize X ++ ⟨#[43, 105, 110, 99, 111, 109, 112, 97, 116, 105, 98, 108, 101]⟩ = Xo at einc ⊢
  repeat' (first | (with_reducible first | refine p_tn ?_ | refine wp_seq ?_ | refine w_reg ?_ | refine l_nil ?_) | ((with_reducible refine g_on ?_); ((with_reducible refine g_as ?_); refine l_p txs rfl rfl ?_)))
  (with_reducible refine is_l ?_); refine l_iaa Tryd.underlying23 one32 rfl rfl rfl (by decide) (by decide) ?_
  repeat' ((with_reducible refine g_on ?_); ((with_reducible refine g_ld ?_); (refine h_ld txs H 0 rfl rfl rfl rfl ?_)))
  (with_reducible refine is_l ?_); refine l_t txs rfl rfl (fun h1 => ?_) (fun h1 => ?_)
  · repeat' (first | (with_reducible first | refine p_tn ?_ | refine wp_seq ?_ | refine w_reg ?_) | (with_reducible (refine is_if ?_; (refine w_ift rfl ?_))) | (with_reducible refine l_nil ?_) | ((with_reducible refine g_on ?_); ((with_reducible refine g_mv ?_); refine l_p txs rfl rfl ?_)))
    (with_reducible refine is_l ?_); refine l_callv rfl rfl (by kernel_rfl) (ver_b (p := Xo) (H.old hM) einc (chk_none (F6 (by omega)))) (fun w_ K => ?_)
    have H := H.call K
    skip
    (with_reducible refine is_l ?_); refine l_t txs rfl rfl (fun _ => ?_) (fun h => absurd rfl h)
    repeat' (first | (with_reducible first | refine p_tn ?_ | refine p_tr ?_ | refine wp_ret ?_ | refine l_nil ?_) | ((with_reducible refine g_on ?_); ((with_reducible refine g_as ?_); refine l_p txs rfl rfl ?_)))
    refine end1 rfl rfl ?_
    exact ⟨rfl, H.B⟩
  · obtain ⟨G1, G2, G3⟩ := F7 (by omega)
    repeat' (first | (with_reducible first | refine p_tn ?_ | refine wp_seq ?_ | refine w_reg ?_) | (with_reducible (refine is_if ?_; (refine w_iff rfl ?_))) | (with_reducible first | refine wp_skip ?_ | refine l_nil ?_) | ((with_reducible refine g_on ?_); ((with_reducible refine g_mv ?_); refine l_p txs rfl rfl ?_)))
    (with_reducible refine is_l ?_); refine l_callv rfl rfl (by kernel_rfl) (ver_b (p := Xo) (H.old hM) einc (chk_some G1)) (fun w_ K => ?_)
    have H := H.call K
    skip
    (with_reducible refine is_l ?_); refine l_t txs rfl rfl (fun _ => ?_) (fun h => absurd rfl h)
    repeat' (first | ((with_reducible refine g_on ?_); ((with_reducible refine g_mv ?_); refine l_p txs rfl rfl ?_)) | ((with_reducible refine g_if ?_); ((with_reducible refine g_mv ?_); refine l_p txs rfl rfl ?_)))
    (with_reducible refine is_l ?_); refine l_callv rfl rfl (by kernel_rfl) (cmp_b (p := Xo) (q := X) (H.old hM) einc hX G2) (fun w_ K => ?_)
    have H := H.call K
    skip
    (with_reducible refine is_l ?_); refine l_t txs rfl rfl (fun _ => ?_) (fun h => absurd rfl h)
    repeat' (first | ((with_reducible refine g_on ?_); (first | ((with_reducible refine g_mv ?_); refine l_p txs rfl rfl ?_) | ((with_reducible refine g_pk ?_); refine l_p txs rfl rfl ?_))) | ((with_reducible refine g_if ?_); ((with_reducible refine g_mv ?_); refine l_p txs rfl rfl ?_)))
    (with_reducible refine is_l ?_); refine l_callv rfl rfl (by kernel_rfl) (cmp_b (p := Xo) (q := Y) (H.old hM) einc hY G3) (fun w_ K => ?_)
    have H := H.call K
    repeat' ((with_reducible refine g_if ?_); ((with_reducible refine g_mv ?_); refine l_p txs rfl rfl ?_))
    (with_reducible refine is_l ?_); refine l_t txs rfl rfl (fun _ => ?_) (fun h => absurd rfl h)
    repeat' (first | (with_reducible first | refine p_tn ?_ | refine wp_ret ?_ | refine l_nil ?_) | ((with_reducible refine g_on ?_); (first | ((with_reducible refine g_as ?_); refine l_p txs rfl rfl ?_) | ((with_reducible refine g_pk ?_); refine l_p txs rfl rfl ?_))))
    refine end1 rfl rfl ?_
    exact ⟨rfl, H.B⟩
end Go.Proofs.YtnimaenhijlcmaaDoor.K.Num
