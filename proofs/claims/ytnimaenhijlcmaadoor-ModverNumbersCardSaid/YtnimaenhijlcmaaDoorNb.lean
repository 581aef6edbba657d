/- Three numbers as a version's text; the order of two triples. -/
import Derived.Test.YtnimaenhijlcmaaDoorNa
namespace Go.Proofs.YtnimaenhijlcmaaDoor.K.Num
open Go.RowKit Go.Proofs.YtnimaenhijlcmaaDoor.Q Go.Proofs.YtnimaenhijlcmaaDoor.K Go.Proofs.YtnimaenhijlcmaaDoor.Mb Go.Proofs.YtnimaenhijlcmaaDoorW.PrintWords
set_option linter.unusedVariables false
set_option linter.unusedSimpArgs false

theorem fmtU_c {w : World} (hP : TabP w) (u : Nat) (hu : u < 4294967296) : Calls Tryd.prog 31 #[.int .u64 (u : Int), .int .i64 10] w fun e w' => e = .returned (.string (strOfNums (decS u))) ∧ Below w.heap.size w w' := by
  refine enter (args := [.int .u64 (u : Int), .int .i64 10]) Tryd.func31 rfl Tryd.ntmps31 rfl ?_
  have H := Hp.nil w
  repeat' (first | (with_reducible first | refine p_tn ?_ | refine wp_seq ?_ | refine w_reg ?_ | refine l_nil ?_) | ((with_reducible refine g_on ?_); (first | ((with_reducible refine g_mv ?_); refine l_p txs rfl rfl ?_) | ((with_reducible refine g_as ?_); refine l_p txs rfl rfl ?_))))
  (with_reducible refine is_l ?_); refine l_callv rfl rfl (by kernel_rfl) (formatU_c hP u hu) (fun w_ K => ?_)
  have H := H.call K
  repeat' (first | (with_reducible first | refine p_tn ?_ | refine wp_ret ?_ | refine l_nil ?_) | ((with_reducible refine g_on ?_); ((with_reducible refine g_as ?_); refine l_p txs rfl rfl ?_)))
  refine end1 rfl rfl ?_
  exact ⟨rfl, H.B⟩
theorem dec_bytes (n : Nat) : Bytes (decS n) := fun y hy => by
  have := List.all_eq_true.1 (decS_dig n) y hy
  unfold digB at this
  simp at this
  omega
theorem dec_size {n : Nat} (h : n < 4294967296) : (strOfNums (decS n)).size ≤ 10 := by
  rw [← bl_length, blS (dec_bytes n)]
  exact decS_len (k := 10) (by omega) (by have h10 : (10 : Nat) ^ 10 = 10000000000 := (by decide); omega)
def partL (a b c : Nat) : Nat → L
  | 0 => [118]
  | 1 => 118 :: decS a
  | 2 => 118 :: (decS a ++ 46 :: decS b)
  | _ => threeS a b c
theorem part_bytes (a b c i : Nat) : Bytes (partL a b c i) := by
  intro y hy
  have h1 := dec_bytes a y
  have h2 := dec_bytes b y
  have h3 := dec_bytes c y
  have h4 : y = 118 ∨ y = 46 → 0 ≤ y ∧ y ≤ 255 := by omega
  unfold partL threeS at hy
  split at hy <;> simp only [List.mem_append, List.mem_cons, List.not_mem_nil, or_false] at hy <;> grind
theorem part_size {a b c : Nat} (ha : a < 4294967296) (hb : b < 4294967296) (hc : c < 4294967296) (i : Nat) : (strOfNums (partL a b c i)).size ≤ 40 := by
  rw [← bl_length, blS (part_bytes a b c i)]
  have h1 := dec_size ha
  have h2 := dec_size hb
  have h3 := dec_size hc
  rw [← bl_length, blS (dec_bytes _)] at h1 h2 h3
  unfold partL threeS
  split <;> simp only [List.length_append, List.length_cons, List.length_nil] <;> omega
theorem part_one (a b c : Nat) : strOfNums (partL a b c 0) ++ strOfNums (decS a) = strOfNums (partL a b c 1) := by
  refine bl_inj ?_
  rw [bl_cat, blS (part_bytes a b c 0), blS (part_bytes a b c 1), blS (dec_bytes a)]
  rfl
theorem part_two (a b c : Nat) : strOfNums (partL a b c 1) ++ ⟨#[46]⟩ ++ strOfNums (decS b) = strOfNums (partL a b c 2) := by
  refine bl_inj ?_
  rw [bl_cat, bl_cat, blS (part_bytes a b c 1), blS (part_bytes a b c 2), blS (dec_bytes b), show bl (⟨#[46]⟩ : ByteArray) = [46] from rfl]
  unfold partL
  simp
theorem part_three (a b c : Nat) : strOfNums (partL a b c 2) ++ ⟨#[46]⟩ ++ strOfNums (decS c) = strOfNums (partL a b c 3) := by
  refine bl_inj ?_
  rw [bl_cat, bl_cat, blS (part_bytes a b c 2), blS (part_bytes a b c 3), blS (dec_bytes c), show bl (⟨#[46]⟩ : ByteArray) = [46] from rfl]
  unfold partL threeS
  simp
abbrev triA (a b c : Nat) : List Value := [.int .u32 (a : Int), .int .u32 (b : Int), .int .u32 (c : Int)]
set_option maxRecDepth 100000 in
set_option maxHeartbeats 8000000 in
theorem three_c {w : World} (hP : TabP w) (a b c : Nat) (ha : a < 4294967296) (hb : b < 4294967296) (hc : c < 4294967296) : Calls Tryd.prog 11 #[.agg (triA a b c).toArray] w fun e w' => e = .returned (.string (strOfNums (threeS a b c))) ∧ Below w.heap.size w w' := by
  have z1 : (⟨#[46]⟩ : ByteArray).size = 1 := rfl
  have da := dec_size ha
  have db := dec_size hb
  have dc := dec_size hc
  have hps := part_size ha hb hc
  refine enter (args := [.agg (triA a b c).toArray]) Tryd.func11 rfl Tryd.ntmps11 rfl ?_
  have H := Hp.nil w
  repeat' (with_reducible first | refine wp_seq ?_ | refine w_reg ?_)
  (with_reducible refine is_l ?_); refine h_box H rfl rfl rfl (fun gX w_ H => ?_)
  repeat' (first | (with_reducible first | refine p_tn ?_ | refine wp_seq ?_ | refine wp_block ?_ | refine w_reg ?_ | refine l_nil ?_) | ((with_reducible refine g_on ?_); ((with_reducible refine g_as ?_); refine l_p txs rfl rfl ?_)))
  refine w_loop (σ := Nat) (S := fun s => [(1, .pointer (some ⟨gX, 0, none⟩)), (3, .string (strOfNums (partL a b c s))), (4, .int .i64 (s : Int))]) (J := fun s w' => Hp w w' [(gX, 23, triA a b c)] [] ∧ s ≤ 3) (μ := fun s => 3 - s) 0 ⟨rfl, rfl, rfl, trivial⟩ ⟨H, by omega⟩ ?_
  clear H
  rintro i f w_ ⟨H, hi⟩
  repeat' (first | (with_reducible first | refine wp_seq ?_ | refine w_reg ?_) | ((with_reducible refine g_on ?_); ((with_reducible refine g_mv ?_); refine l_p txs rfl rfl ?_)))
  (with_reducible refine is_l ?_); refine l_t txs rfl rfl (fun hlt => ?_) (fun hge => ?_)
  · have hp0 := hps 0
    have hp1 := hps 1
    have hp2 := hps 2
    rcases (by omega : i = 0 ∨ i = 1 ∨ i = 2) with rfl | rfl | rfl
    · repeat' (first | (with_reducible first | refine p_tn ?_ | refine wp_seq ?_ | refine wp_block ?_ | refine w_reg ?_) | (with_reducible (refine is_if ?_; (refine w_ift rfl ?_))) | (with_reducible first | refine wp_skip ?_ | refine l_nil ?_) | ((with_reducible refine g_on ?_); ((with_reducible refine g_mv ?_); refine l_p txs rfl rfl ?_)))
      (with_reducible refine is_l ?_); refine l_t txs rfl rfl (fun h => absurd h (by omega)) (fun _ => ?_)
      repeat' (first | (with_reducible first | refine p_tn ?_ | refine w_reg ?_) | (with_reducible (refine is_if ?_; (refine w_iff rfl ?_))) | (with_reducible first | refine wp_skip ?_ | refine l_nil ?_) | ((with_reducible refine g_on ?_); ((with_reducible refine g_mv ?_); refine l_p txs rfl rfl ?_)))
      (with_reducible refine is_l ?_); refine l_iaa Tryd.underlying23 one32 rfl rfl rfl (by omega) (by omega) ?_
      repeat' ((with_reducible refine g_on ?_); (first | ((with_reducible refine g_ld ?_); (refine h_ld txs H 0 rfl rfl rfl rfl ?_)) | ((with_reducible refine g_cv ?_); (refine l_a txs rfl rfl (by first | exact in_i64 (by omega) (by omega) | exact in_u8 (by omega) (by omega) | exact in_u64 (by omega) (by omega) | exact in_i32 (by omega) (by omega)) ?_))))
      (with_reducible refine is_l ?_); refine l_callv rfl rfl (by kernel_rfl) (fmtU_c (hP.below H.B) _ (by assumption)) (fun w_ K => ?_)
      have H := H.call K
      skip
      (with_reducible refine is_l ?_); refine l_cat rfl rfl (by first | omega | (simp only [ByteArray.size_append]; omega)) ?_
      repeat' (first | (with_reducible first | refine p_tn ?_ | refine p_bn ?_ | refine w_reg ?_ | refine l_nil ?_) | ((with_reducible refine g_on ?_); (first | ((with_reducible refine g_mv ?_); refine l_p txs rfl rfl ?_) | ((with_reducible refine g_as ?_); refine l_p txs rfl rfl ?_) | ((with_reducible refine g_bi ?_); (refine l_a txs rfl rfl (by first | exact in_i64 (by omega) (by omega) | exact in_u8 (by omega) (by omega) | exact in_u64 (by omega) (by omega) | exact in_i32 (by omega) (by omega)) ?_)))))
      exact ⟨1, _, rfl, ⟨rfl, by show Value.string _ = Value.string _; rw [← part_one], rfl, trivial⟩, ⟨H, by omega⟩, by omega⟩
    · repeat' (first | (with_reducible first | refine p_tn ?_ | refine wp_seq ?_ | refine wp_block ?_ | refine w_reg ?_) | (with_reducible (refine is_if ?_; (refine w_ift rfl ?_))) | (with_reducible first | refine wp_skip ?_ | refine l_nil ?_) | ((with_reducible refine g_on ?_); ((with_reducible refine g_mv ?_); refine l_p txs rfl rfl ?_)))
      (with_reducible refine is_l ?_); refine l_t txs rfl rfl (fun _ => ?_) (fun h => absurd (by omega) h)
      repeat' (first | (with_reducible first | refine p_tn ?_ | refine w_reg ?_) | (with_reducible (refine is_if ?_; (refine w_ift rfl ?_))) | (with_reducible refine l_nil ?_) | ((with_reducible refine g_on ?_); ((with_reducible refine g_mv ?_); refine l_p txs rfl rfl ?_)))
      (with_reducible refine is_l ?_); refine l_cat rfl rfl (by omega) ?_
      repeat' (first | (with_reducible first | refine p_tn ?_ | refine w_reg ?_ | refine l_nil ?_) | ((with_reducible refine g_on ?_); (first | ((with_reducible refine g_mv ?_); refine l_p txs rfl rfl ?_) | ((with_reducible refine g_as ?_); refine l_p txs rfl rfl ?_))))
      (with_reducible refine is_l ?_); refine l_iaa Tryd.underlying23 one32 rfl rfl rfl (by omega) (by omega) ?_
      repeat' ((with_reducible refine g_on ?_); (first | ((with_reducible refine g_ld ?_); (refine h_ld txs H 0 rfl rfl rfl rfl ?_)) | ((with_reducible refine g_cv ?_); (refine l_a txs rfl rfl (by first | exact in_i64 (by omega) (by omega) | exact in_u8 (by omega) (by omega) | exact in_u64 (by omega) (by omega) | exact in_i32 (by omega) (by omega)) ?_))))
      (with_reducible refine is_l ?_); refine l_callv rfl rfl (by kernel_rfl) (fmtU_c (hP.below H.B) _ (by assumption)) (fun w_ K => ?_)
      have H := H.call K
      skip
      (with_reducible refine is_l ?_); refine l_cat rfl rfl (by first | omega | (simp only [ByteArray.size_append]; omega)) ?_
      repeat' (first | (with_reducible first | refine p_tn ?_ | refine p_bn ?_ | refine w_reg ?_ | refine l_nil ?_) | ((with_reducible refine g_on ?_); (first | ((with_reducible refine g_mv ?_); refine l_p txs rfl rfl ?_) | ((with_reducible refine g_as ?_); refine l_p txs rfl rfl ?_) | ((with_reducible refine g_bi ?_); (refine l_a txs rfl rfl (by first | exact in_i64 (by omega) (by omega) | exact in_u8 (by omega) (by omega) | exact in_u64 (by omega) (by omega) | exact in_i32 (by omega) (by omega)) ?_)))))
      exact ⟨2, _, rfl, ⟨rfl, by show Value.string _ = Value.string _; rw [← part_two], rfl, trivial⟩, ⟨H, by omega⟩, by omega⟩
    · repeat' (first | (with_reducible first | refine p_tn ?_ | refine wp_seq ?_ | refine wp_block ?_ | refine w_reg ?_) | (with_reducible (refine is_if ?_; (refine w_ift rfl ?_))) | (with_reducible first | refine wp_skip ?_ | refine l_nil ?_) | ((with_reducible refine g_on ?_); ((with_reducible refine g_mv ?_); refine l_p txs rfl rfl ?_)))
      (with_reducible refine is_l ?_); refine l_t txs rfl rfl (fun _ => ?_) (fun h => absurd (by omega) h)
      repeat' (first | (with_reducible first | refine p_tn ?_ | refine w_reg ?_) | (with_reducible (refine is_if ?_; (refine w_ift rfl ?_))) | (with_reducible refine l_nil ?_) | ((with_reducible refine g_on ?_); ((with_reducible refine g_mv ?_); refine l_p txs rfl rfl ?_)))
      (with_reducible refine is_l ?_); refine l_cat rfl rfl (by omega) ?_
      repeat' (first | (with_reducible first | refine p_tn ?_ | refine w_reg ?_ | refine l_nil ?_) | ((with_reducible refine g_on ?_); (first | ((with_reducible refine g_mv ?_); refine l_p txs rfl rfl ?_) | ((with_reducible refine g_as ?_); refine l_p txs rfl rfl ?_))))
      (with_reducible refine is_l ?_); refine l_iaa Tryd.underlying23 one32 rfl rfl rfl (by omega) (by omega) ?_
      repeat' ((with_reducible refine g_on ?_); (first | ((with_reducible refine g_ld ?_); (refine h_ld txs H 0 rfl rfl rfl rfl ?_)) | ((with_reducible refine g_cv ?_); (refine l_a txs rfl rfl (by first | exact in_i64 (by omega) (by omega) | exact in_u8 (by omega) (by omega) | exact in_u64 (by omega) (by omega) | exact in_i32 (by omega) (by omega)) ?_))))
      (with_reducible refine is_l ?_); refine l_callv rfl rfl (by kernel_rfl) (fmtU_c (hP.below H.B) _ (by assumption)) (fun w_ K => ?_)
      have H := H.call K
      skip
      (with_reducible refine is_l ?_); refine l_cat rfl rfl (by first | omega | (simp only [ByteArray.size_append]; omega)) ?_
      repeat' (first | (with_reducible first | refine p_tn ?_ | refine p_bn ?_ | refine w_reg ?_ | refine l_nil ?_) | ((with_reducible refine g_on ?_); (first | ((with_reducible refine g_mv ?_); refine l_p txs rfl rfl ?_) | ((with_reducible refine g_as ?_); refine l_p txs rfl rfl ?_) | ((with_reducible refine g_bi ?_); (refine l_a txs rfl rfl (by first | exact in_i64 (by omega) (by omega) | exact in_u8 (by omega) (by omega) | exact in_u64 (by omega) (by omega) | exact in_i32 (by omega) (by omega)) ?_)))))
      exact ⟨3, _, rfl, ⟨rfl, by show Value.string _ = Value.string _; rw [← part_three], rfl, trivial⟩, ⟨H, by omega⟩, by omega⟩
  · obtain rfl : i = 3 := by omega
    repeat' (first | (with_reducible first | refine p_tn ?_ | refine p_tx ?_ | refine x_hit ?_ | refine wp_seq ?_ | refine w_reg ?_) | (with_reducible (refine is_if ?_; (refine w_iff rfl ?_))) | (with_reducible first | refine wp_exit ?_ | refine wp_ret ?_ | refine l_nil ?_) | ((with_reducible refine g_on ?_); (first | ((with_reducible refine g_mv ?_); refine l_p txs rfl rfl ?_) | ((with_reducible refine g_as ?_); refine l_p txs rfl rfl ?_))))
    refine end1 rfl rfl ?_
    exact ⟨rfl, H.B⟩
def sideL : List Nat → List Nat → Int
  | x :: a, y :: b => if x < y then -1 else if y < x then 1 else sideL a b
  | _, _ => 0
theorem side_L (a b c x y z : Nat) : sideL [a, b, c] [x, y, z] = side3 a b c x y z := by
  unfold side3 cmpI
  simp only [sideL]
  (repeat' split) <;> omega
abbrev triV (l : List Nat) : List Value := l.map fun (x : Nat) => Value.int .u32 (x : Int)
set_option maxRecDepth 100000 in
set_option maxHeartbeats 8000000 in
theorem side_c (w : World) (a b c x y z : Nat) : Calls Tryd.prog 12 #[.agg (triA a b c).toArray, .agg (triA x y z).toArray] w fun e w' => e = .returned (.int .i64 (side3 a b c x y z)) ∧ Below w.heap.size w w' := by
  refine enter (args := [.agg (triA a b c).toArray, .agg (triA x y z).toArray]) Tryd.func12 rfl Tryd.ntmps12 rfl ?_
  have H := Hp.nil w
  rw [← side_L]
  repeat' (with_reducible first | refine wp_seq ?_ | refine w_reg ?_)
  (with_reducible refine is_l ?_); refine h_box H rfl rfl rfl (fun gX w_ H => ?_)
  (with_reducible refine is_l ?_); refine h_box H rfl rfl rfl (fun gY w_ H => ?_)
  repeat' (first | (with_reducible first | refine p_tn ?_ | refine wp_seq ?_ | refine wp_block ?_ | refine w_reg ?_ | refine l_nil ?_) | ((with_reducible refine g_on ?_); ((with_reducible refine g_as ?_); refine l_p txs rfl rfl ?_)))
  have H : Hp w w_ [(gY, 23, triV [x, y, z]), (gX, 23, triV [a, b, c])] [] := H
  have lp : [a, b, c].length = 3 := rfl
  have lq : [x, y, z].length = 3 := rfl
  generalize [a, b, c] = p at H lp ⊢
  generalize [x, y, z] = q at H lq ⊢
  refine w_loop (σ := Nat) (S := fun s => [(2, .pointer (some ⟨gX, 0, none⟩)), (3, .pointer (some ⟨gY, 0, none⟩)), (5, .int .i64 (s : Int))]) (J := fun s w' => Hp w w' [(gY, 23, triV q), (gX, 23, triV p)] [] ∧ s ≤ 3 ∧ sideL p q = sideL (p.drop s) (q.drop s)) (μ := fun s => 3 - s) 0 ⟨rfl, rfl, rfl, trivial⟩ ⟨H, by omega, rfl⟩ ?_
  clear H
  rintro i f w_ ⟨H, hi, hV⟩
  repeat' (first | (with_reducible first | refine wp_seq ?_ | refine w_reg ?_) | ((with_reducible refine g_on ?_); ((with_reducible refine g_mv ?_); refine l_p txs rfl rfl ?_)))
  (with_reducible refine is_l ?_); refine l_t txs rfl rfl (fun hlt => ?_) (fun hge => ?_)
  · obtain ⟨u, hp⟩ : ∃ u, p[i]? = some u := ⟨_, List.getElem?_eq_getElem (by omega)⟩
    obtain ⟨v, hq⟩ : ∃ v, q[i]? = some v := ⟨_, List.getElem?_eq_getElem (by omega)⟩
    have dp : p.drop i = u :: p.drop (i + 1) := by
      obtain ⟨h1, h2⟩ := List.getElem?_eq_some_iff.1 hp
      rw [List.drop_eq_getElem_cons h1, h2]
    have dq : q.drop i = v :: q.drop (i + 1) := by
      obtain ⟨h1, h2⟩ := List.getElem?_eq_some_iff.1 hq
      rw [List.drop_eq_getElem_cons h1, h2]
    rw [dp, dq] at hV
    have hV : sideL p q = if u < v then -1 else if v < u then 1 else sideL (p.drop (i + 1)) (q.drop (i + 1)) := hV
    repeat' (first | (with_reducible first | refine p_tn ?_ | refine wp_seq ?_ | refine wp_block ?_) | (with_reducible (refine is_if ?_; (refine w_ift rfl ?_))) | (with_reducible first | refine wp_skip ?_ | refine l_nil ?_))
    refine w_draw (C := fun w' => Hp w w' [(gY, 23, triV q), (gX, 23, triV p)] []) (by kernel_rfl) (by kernel_rfl) H.drew ?_
    repeat' (first | (with_reducible refine q_nil ?_) | ((with_reducible refine is_q ?_); first | (refine q_off rfl ?_) | (refine q_p txs rfl rfl ?_)))
    refine q_val rfl (fun w' K => evIaa_run (o := ⟨_, _, _, _, _, _⟩) Tryd.underlying23 one32 rfl rfl rfl (by omega) (by omega)) ?_
    refine q_ld txs rfl rfl (fun w' K => K.cellAt 1 rfl (by rw [Int.toNat_natCast, List.getElem?_map, hp]; rfl)) ?_
    repeat' (first | (with_reducible refine q_nil ?_) | ((with_reducible refine is_q ?_); first | (refine q_off rfl ?_) | (refine q_p txs rfl rfl ?_)))
    refine q_val rfl (fun w' K => evIaa_run (o := ⟨_, _, _, _, _, _⟩) Tryd.underlying23 one32 rfl rfl rfl (by omega) (by omega)) ?_
    refine q_ld txs rfl rfl (fun w' K => K.cellAt 0 rfl (by rw [Int.toNat_natCast, List.getElem?_map, hq]; rfl)) ?_
    by_cases h1 : u < v
    · refine q_val rfl (fun w' K => evT_yes (o := ⟨_, _, _, _, _, _⟩) txs rfl (by show (u : Int) < (v : Int); omega)) ?_
      repeat' (first | (with_reducible refine q_nil ?_) | ((with_reducible refine is_q ?_); first | (refine q_off rfl ?_) | (refine q_p txs rfl rfl ?_)))
      clear H
      intro w_ H
      repeat' (first | (with_reducible first | refine p_tn ?_ | refine p_tr ?_ | refine p_br ?_ | refine wp_seq ?_ | refine w_reg ?_) | (with_reducible (refine is_if ?_; (refine w_ift rfl ?_))) | (with_reducible first | refine wp_ret ?_ | refine l_nil ?_) | ((with_reducible refine g_on ?_); ((with_reducible refine g_as ?_); refine l_p txs rfl rfl ?_)))
      refine end1 rfl rfl ?_
      exact ⟨by rw [hV, if_pos h1], H.B⟩
    · refine q_val rfl (fun w' K => evT_no (o := ⟨_, _, _, _, _, _⟩) txs rfl (by show ¬ (u : Int) < (v : Int); omega)) ?_
      repeat' (first | (with_reducible refine q_nil ?_) | ((with_reducible refine is_q ?_); first | (refine q_off rfl ?_) | (refine q_p txs rfl rfl ?_)))
      clear H
      intro w_ H
      repeat' (first | (with_reducible first | refine p_tn ?_ | refine wp_seq ?_) | (with_reducible (refine is_if ?_; (refine w_iff rfl ?_))) | (with_reducible refine wp_skip ?_))
      refine w_draw (C := fun w' => Hp w w' [(gY, 23, triV q), (gX, 23, triV p)] []) (by kernel_rfl) (by kernel_rfl) H.drew ?_
      repeat' (first | (with_reducible refine q_nil ?_) | ((with_reducible refine is_q ?_); first | (refine q_off rfl ?_) | (refine q_p txs rfl rfl ?_)))
      refine q_val rfl (fun w' K => evIaa_run (o := ⟨_, _, _, _, _, _⟩) Tryd.underlying23 one32 rfl rfl rfl (by omega) (by omega)) ?_
      refine q_ld txs rfl rfl (fun w' K => K.cellAt 1 rfl (by rw [Int.toNat_natCast, List.getElem?_map, hp]; rfl)) ?_
      repeat' (first | (with_reducible refine q_nil ?_) | ((with_reducible refine is_q ?_); first | (refine q_off rfl ?_) | (refine q_p txs rfl rfl ?_)))
      refine q_val rfl (fun w' K => evIaa_run (o := ⟨_, _, _, _, _, _⟩) Tryd.underlying23 one32 rfl rfl rfl (by omega) (by omega)) ?_
      refine q_ld txs rfl rfl (fun w' K => K.cellAt 0 rfl (by rw [Int.toNat_natCast, List.getElem?_map, hq]; rfl)) ?_
      by_cases h2 : v < u
      · refine q_val rfl (fun w' K => evT_yes (o := ⟨_, _, _, _, _, _⟩) txs rfl (by show (v : Int) < (u : Int); omega)) ?_
        repeat' (first | (with_reducible refine q_nil ?_) | ((with_reducible refine is_q ?_); first | (refine q_off rfl ?_) | (refine q_p txs rfl rfl ?_)))
        clear H
        intro w_ H
        repeat' (first | (with_reducible first | refine p_tn ?_ | refine p_tr ?_ | refine p_br ?_ | refine wp_seq ?_ | refine w_reg ?_) | (with_reducible (refine is_if ?_; (refine w_ift rfl ?_))) | (with_reducible first | refine wp_ret ?_ | refine l_nil ?_) | ((with_reducible refine g_on ?_); ((with_reducible refine g_as ?_); refine l_p txs rfl rfl ?_)))
        refine end1 rfl rfl ?_
        exact ⟨by rw [hV, if_neg h1, if_pos h2], H.B⟩
      · refine q_val rfl (fun w' K => evT_no (o := ⟨_, _, _, _, _, _⟩) txs rfl (by show ¬ (v : Int) < (u : Int); omega)) ?_
        repeat' (first | (with_reducible refine q_nil ?_) | ((with_reducible refine is_q ?_); first | (refine q_off rfl ?_) | (refine q_p txs rfl rfl ?_)))
        clear H
        intro w_ H
        repeat' (first | (with_reducible first | refine p_tn ?_ | refine p_bn ?_ | refine w_reg ?_) | (with_reducible (refine is_if ?_; (refine w_iff rfl ?_))) | (with_reducible first | refine wp_skip ?_ | refine l_nil ?_) | ((with_reducible refine g_on ?_); (first | ((with_reducible refine g_mv ?_); refine l_p txs rfl rfl ?_) | ((with_reducible refine g_as ?_); refine l_p txs rfl rfl ?_) | ((with_reducible refine g_bi ?_); (refine l_a txs rfl rfl (by first | exact in_i64 (by omega) (by omega) | exact in_u8 (by omega) (by omega) | exact in_u64 (by omega) (by omega) | exact in_i32 (by omega) (by omega)) ?_)))))
        exact ⟨i + 1, _, rfl, ⟨rfl, rfl, rfl, trivial⟩, ⟨H, by omega, by rw [hV, if_neg h1, if_neg h2]⟩, by omega⟩
  · have e1 : p.drop i = [] := List.drop_eq_nil_of_le (by omega)
    rw [e1] at hV
    repeat' (first | (with_reducible first | refine p_tn ?_ | refine p_tx ?_ | refine x_hit ?_ | refine wp_seq ?_ | refine w_reg ?_) | (with_reducible (refine is_if ?_; (refine w_iff rfl ?_))) | (with_reducible first | refine wp_exit ?_ | refine wp_ret ?_ | refine l_nil ?_) | ((with_reducible refine g_on ?_); ((with_reducible refine g_as ?_); refine l_p txs rfl rfl ?_)))
    refine end1 rfl rfl ?_
    exact ⟨by rw [hV]; rfl, H.B⟩
end Go.Proofs.YtnimaenhijlcmaaDoor.K.Num
