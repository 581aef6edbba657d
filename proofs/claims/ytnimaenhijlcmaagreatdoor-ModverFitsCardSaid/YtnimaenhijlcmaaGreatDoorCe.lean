/- The reference's Compare; ModverCompares. -/
import Derived.Test.YtnimaenhijlcmaaGreatDoorCd
namespace Go.Proofs.YtnimaenhijlcmaaGreatDoor.K.Ref
open Go.RowKit Go.Proofs.YtnimaenhijlcmaaGreatDoor.Q Go.Proofs.YtnimaenhijlcmaaGreatDoor.K Go.Proofs.YtnimaenhijlcmaaGreatDoor.Mb Go.Proofs.YtnimaenhijlcmaaGreatDoorW.PrintWords
set_option linter.unusedVariables false
set_option linter.unusedSimpArgs false

def lexN : List L → List L → Int → Int
  | x :: a, y :: b, k => if cmpN x y ≠ 0 then cmpN x y else lexN a b k
  | _, _, k => k
theorem cmpV_lex (v u : Ver) : cmpV v u = lexN [v.a, v.b, v.c] [u.a, u.b, u.c] (Mb.cmpP v.words u.words) := rfl
theorem words_at {w w' : World} {s : L} {v : Ver} {l : List Ent} {r : List RowD} {A : Option Addr} {c : Nat} (hs : parseV s = some v) (H : Hp w w' l r) (k : Nat) (hk : r[k]? = some (rowT (.slice A v.words.length c) v.words)) : WordsAt w' A v.words := by
  obtain ⟨pre, _, _, _, _, _, hall, _, _⟩ := parseV_text hs
  have hin := ver_in hs
  exact ⟨rowT_at H k hk, fun x hx => ⟨hall x hx, (hin.words x hx).1, (hin.words x hx).2⟩⟩
set_option maxRecDepth 100000 in
set_option maxHeartbeats 16000000 in
theorem Compare_r (a b : ByteArray) (w : World) : Calls Tryz.prog 45 #[.string a, .string b] w fun e w' => e = .returned (.int .i64 (compareS (bl a) (bl b))) ∧ Below w.heap.size w w' := by
  refine enter (args := [.string a, .string b]) Tryz.func45 rfl Tryz.ntmps45 rfl ?_
  have H := Hp.nil w
  have hV : compareS (bl a) (bl b) = (match parseV (bl a), parseV (bl b) with
    | some v, some w => cmpV v w
    | some _, none => 1
    | none, some _ => -1
    | none, none => 0) := rfl
  repeat' (first | (with_reducible first | refine p_tn ?_ | refine wp_seq ?_ | refine w_reg ?_ | refine l_nil ?_) | ((with_reducible refine g_on ?_); (first | ((with_reducible refine g_mv ?_); refine l_p txs rfl rfl ?_) | ((with_reducible refine g_as ?_); refine l_p txs rfl rfl ?_))))
  (with_reducible refine is_l ?_); refine l_call rfl rfl (by kernel_rfl) (Split_c a w) (fun e w_ hR => ?_)
  unfold PaR at hR
  cases hp : parseV (bl a) with
  | none =>
    rw [hp] at hR hV
    obtain ⟨x, y, z, A, n, c, bo, rfl, K⟩ := hR
    refine ⟨_, rfl, ?_⟩
    have H := H.call K
    repeat' (first | (with_reducible first | refine p_tn ?_ | refine wp_seq ?_ | refine w_reg ?_ | refine l_nil ?_) | ((with_reducible refine g_on ?_); (first | ((with_reducible refine g_mv ?_); refine l_p txs rfl rfl ?_) | ((with_reducible refine g_as ?_); refine l_p txs rfl rfl ?_) | ((with_reducible refine g_ex ?_); refine l_p txs rfl rfl ?_) | ((with_reducible refine g_st ?_); (refine h_stR recs H 0 rfl rfl rfl rfl rfl rfl rfl rfl rfl (fun w_ H => ?_))) | ((with_reducible refine g_al ?_); refine h_alloc recs H rfl rfl (fun g_ w_ H => ?_)))))
    (with_reducible refine is_l ?_); refine l_call rfl rfl (by kernel_rfl) (Split_c b _) (fun e w_ hR => ?_)
    unfold PaR at hR
    cases hq : parseV (bl b) with
    | none =>
      rw [hq] at hR hV
      obtain ⟨x, y, z, A, n, c, bo, rfl, K⟩ := hR
      refine ⟨_, rfl, ?_⟩
      have H := H.call K
      have hn : compareS (bl a) (bl b) = 0 := hV
      repeat' (first | (with_reducible first | refine p_tn ?_ | refine p_tr ?_ | refine p_bn ?_ | refine wp_seq ?_ | refine wp_block ?_ | refine w_reg ?_) | (with_reducible (refine is_if ?_; (first | (refine w_ift rfl ?_) | (refine w_iff rfl ?_)))) | (with_reducible first | refine wp_skip ?_ | refine wp_ret ?_ | refine l_nil ?_) | ((with_reducible refine g_on ?_); (first | ((with_reducible refine g_mv ?_); refine l_p txs rfl rfl ?_) | ((with_reducible refine g_as ?_); refine l_p txs rfl rfl ?_) | ((with_reducible refine g_ex ?_); refine l_p txs rfl rfl ?_) | ((with_reducible refine g_pk ?_); refine l_p txs rfl rfl ?_) | ((with_reducible refine g_st ?_); (refine h_stR recs H 0 rfl rfl rfl rfl rfl rfl rfl rfl rfl (fun w_ H => ?_))) | ((with_reducible refine g_al ?_); refine h_alloc recs H rfl rfl (fun g_ w_ H => ?_)) | ((with_reducible refine g_un ?_); (refine l_p txs rfl rfl ?_)))) | ((with_reducible refine g_if ?_); (refine l_off rfl ?_)))
      refine end1 rfl rfl ?_
      exact ⟨by rw [hn], H.B⟩
    | some u =>
      rw [hq] at hR hV
      obtain ⟨A2, c2, rfl, K⟩ := hR
      refine ⟨_, rfl, ?_⟩
      have H := H.call K.B
      have hn : compareS (bl a) (bl b) = -1 := hV
      repeat' (first | (with_reducible first | refine p_tn ?_ | refine p_tr ?_ | refine p_br ?_ | refine wp_seq ?_ | refine wp_block ?_ | refine w_reg ?_) | (with_reducible (refine is_if ?_; (refine w_ift rfl ?_))) | (with_reducible first | refine wp_ret ?_ | refine l_nil ?_) | ((with_reducible refine g_on ?_); (first | ((with_reducible refine g_mv ?_); refine l_p txs rfl rfl ?_) | ((with_reducible refine g_as ?_); refine l_p txs rfl rfl ?_) | ((with_reducible refine g_ex ?_); refine l_p txs rfl rfl ?_) | ((with_reducible refine g_pk ?_); refine l_p txs rfl rfl ?_) | ((with_reducible refine g_st ?_); (refine h_stR recs H 0 rfl rfl rfl rfl rfl rfl rfl rfl rfl (fun w_ H => ?_))) | ((with_reducible refine g_al ?_); refine h_alloc recs H rfl rfl (fun g_ w_ H => ?_)) | ((with_reducible refine g_un ?_); (refine l_p txs rfl rfl ?_)))) | ((with_reducible refine g_if ?_); (refine l_off rfl ?_)))
      refine end1 rfl rfl ?_
      exact ⟨by rw [hn], H.B⟩
  | some v =>
    rw [hp] at hR hV
    obtain ⟨A1, c1, rfl, K⟩ := hR
    refine ⟨_, rfl, ?_⟩
    have H := H.join K
    repeat' (first | (with_reducible first | refine p_tn ?_ | refine wp_seq ?_ | refine w_reg ?_ | refine l_nil ?_) | ((with_reducible refine g_on ?_); (first | ((with_reducible refine g_mv ?_); refine l_p txs rfl rfl ?_) | ((with_reducible refine g_as ?_); refine l_p txs rfl rfl ?_) | ((with_reducible refine g_ex ?_); refine l_p txs rfl rfl ?_) | ((with_reducible refine g_st ?_); (refine h_stR recs H 0 rfl rfl rfl rfl rfl rfl rfl rfl rfl (fun w_ H => ?_))) | ((with_reducible refine g_al ?_); refine h_alloc recs H rfl rfl (fun g_ w_ H => ?_)))))
    obtain ⟨gV, rfl⟩ : ∃ x, x = g_ := ⟨_, rfl⟩
    (with_reducible refine is_l ?_); refine l_call rfl rfl (by kernel_rfl) (Split_c b _) (fun e w_ hR => ?_)
    unfold PaR at hR
    cases hq : parseV (bl b) with
    | none =>
      rw [hq] at hR hV
      obtain ⟨x, y, z, A, n, c, bo, rfl, K⟩ := hR
      refine ⟨_, rfl, ?_⟩
      have H := H.call K
      have hn : compareS (bl a) (bl b) = 1 := hV
      repeat' (first | (with_reducible first | refine p_tn ?_ | refine p_tr ?_ | refine p_br ?_ | refine wp_seq ?_ | refine wp_block ?_ | refine w_reg ?_) | (with_reducible (refine is_if ?_; (first | (refine w_ift rfl ?_) | (refine w_iff rfl ?_)))) | (with_reducible first | refine wp_ret ?_ | refine l_nil ?_) | ((with_reducible refine g_on ?_); (first | ((with_reducible refine g_mv ?_); refine l_p txs rfl rfl ?_) | ((with_reducible refine g_as ?_); refine l_p txs rfl rfl ?_) | ((with_reducible refine g_ex ?_); refine l_p txs rfl rfl ?_) | ((with_reducible refine g_pk ?_); refine l_p txs rfl rfl ?_) | ((with_reducible refine g_st ?_); (refine h_stR recs H 0 rfl rfl rfl rfl rfl rfl rfl rfl rfl (fun w_ H => ?_))) | ((with_reducible refine g_al ?_); refine h_alloc recs H rfl rfl (fun g_ w_ H => ?_)) | ((with_reducible refine g_un ?_); (refine l_p txs rfl rfl ?_)))) | ((with_reducible refine g_if ?_); (first | ((with_reducible refine g_mv ?_); refine l_p txs rfl rfl ?_) | ((with_reducible refine g_un ?_); (refine l_p txs rfl rfl ?_)))))
      refine end1 rfl rfl ?_
      exact ⟨by rw [hn], H.B⟩
    | some u =>
      rw [hq] at hR hV
      obtain ⟨A2, c2, rfl, K⟩ := hR
      refine ⟨_, rfl, ?_⟩
      have H := H.join K
      have hV : compareS (bl a) (bl b) = lexN [v.a, v.b, v.c] [u.a, u.b, u.c] (Mb.cmpP v.words u.words) := hV
      have iv := ver_in hp
      have iu := ver_in hq
      have hN := fun (x y : L) (bx : Bytes x ∧ x.length ≤ 100000000) (by' : Bytes y ∧ y.length ≤ 100000000) (w1 : World) => numbers_c (strOfNums x) (strOfNums y) w1 (by rw [sizeS' bx.1]; exact bx.2) (by rw [sizeS' by'.1]; exact by'.2)
      repeat' (first | (with_reducible first | refine p_tn ?_ | refine wp_seq ?_ | refine wp_block ?_ | refine w_reg ?_) | (with_reducible (refine is_if ?_; (refine w_iff rfl ?_))) | (with_reducible first | refine wp_skip ?_ | refine l_nil ?_) | ((with_reducible refine g_on ?_); (first | ((with_reducible refine g_mv ?_); refine l_p txs rfl rfl ?_) | ((with_reducible refine g_as ?_); refine l_p txs rfl rfl ?_) | ((with_reducible refine g_ex ?_); refine l_p txs rfl rfl ?_) | ((with_reducible refine g_pk ?_); refine l_p txs rfl rfl ?_) | ((with_reducible refine g_st ?_); (refine h_stR recs H 0 rfl rfl rfl rfl rfl rfl rfl rfl rfl (fun w_ H => ?_))) | ((with_reducible refine g_al ?_); refine h_alloc recs H rfl rfl (fun g_ w_ H => ?_)) | ((with_reducible refine g_un ?_); (refine l_p txs rfl rfl ?_)))) | ((with_reducible refine g_if ?_); (first | ((with_reducible refine g_mv ?_); refine l_p txs rfl rfl ?_) | ((with_reducible refine g_un ?_); (refine l_p txs rfl rfl ?_)))))
      obtain ⟨gU, rfl⟩ : ∃ x, x = g_ := ⟨_, rfl⟩
      have H : Hp w w_ [_, eP gV (strOfNums v.a) (strOfNums v.b) (strOfNums v.c) A1 v.words.length c1 v.odd] [rowT (.slice A2 u.words.length c2) u.words, rowT (.slice A1 v.words.length c1) v.words] := H
      refine w_loop (σ := Nat) (S := fun s => [(5, .pointer (some ⟨gV, 0, none⟩)), (7, .pointer (some ⟨gU, 0, none⟩)), (9, .int .i64 (s : Int))]) (J := fun s w' => Hp w w' [eP gU (strOfNums u.a) (strOfNums u.b) (strOfNums u.c) A2 u.words.length c2 u.odd, eP gV (strOfNums v.a) (strOfNums v.b) (strOfNums v.c) A1 v.words.length c1 v.odd] [rowT (.slice A2 u.words.length c2) u.words, rowT (.slice A1 v.words.length c1) v.words] ∧ s ≤ 3 ∧ compareS (bl a) (bl b) = lexN ([v.a, v.b, v.c].drop s) ([u.a, u.b, u.c].drop s) (Mb.cmpP v.words u.words)) (μ := fun s => 3 - s) 0 ⟨rfl, rfl, rfl, trivial⟩ ⟨H, by omega, hV⟩ ?_
      clear H hV
      rintro i f w_ ⟨H, hi, hV⟩
      repeat' (first | (with_reducible first | refine wp_seq ?_ | refine w_reg ?_) | ((with_reducible refine g_on ?_); ((with_reducible refine g_mv ?_); refine l_p txs rfl rfl ?_)))
      (with_reducible refine is_l ?_); refine l_t txs rfl rfl (fun hlt => ?_) (fun hge => ?_)
      · have hc := hN v.a u.a iv.a iu.a
        rw [blS iv.a.1, blS iu.a.1] at hc
        have hc2 := hN v.b u.b iv.b iu.b
        rw [blS iv.b.1, blS iu.b.1] at hc2
        have hc3 := hN v.c u.c iv.c iu.c
        rw [blS iv.c.1, blS iu.c.1] at hc3
        rcases (by omega : i = 0 ∨ i = 1 ∨ i = 2) with rfl | rfl | rfl
        · have hV2 : compareS (bl a) (bl b) = if cmpN v.a u.a ≠ 0 then cmpN v.a u.a else lexN [v.b, v.c] [u.b, u.c] (Mb.cmpP v.words u.words) := hV
          generalize cmpN v.a u.a = j at hc hV2
          repeat' (first | (with_reducible first | refine p_tn ?_ | refine wp_seq ?_ | refine wp_block ?_) | (with_reducible (refine is_if ?_; (refine w_ift rfl ?_))) | (with_reducible first | refine wp_skip ?_ | refine l_nil ?_))
          refine w_draw (C := fun w' => Hp w w' [eP gU (strOfNums u.a) (strOfNums u.b) (strOfNums u.c) A2 u.words.length c2 u.odd, eP gV (strOfNums v.a) (strOfNums v.b) (strOfNums v.c) A1 v.words.length c1 v.odd] [rowT (.slice A2 u.words.length c2) u.words, rowT (.slice A1 v.words.length c1) v.words]) (by kernel_rfl) (by kernel_rfl) H.drew ?_
          repeat' (first | (with_reducible refine q_nil ?_) | ((with_reducible refine is_q ?_); first | (refine q_off rfl ?_) | (refine q_p txs rfl rfl ?_) | (refine q_val rfl (fun w' K => evF_run (o := ⟨_, _, _, _, _, _⟩) flds rfl) ?_)))
          refine q_val rfl (fun w' K => evIaa_run (o := ⟨_, _, _, _, _, _⟩) Tryz.underlying87 info_str1 rfl rfl rfl (by omega) (by omega)) ?_
          refine q_ld txs rfl rfl (fun w' K => K.cellAt 1 rfl rfl) ?_
          repeat' (first | (with_reducible refine q_nil ?_) | ((with_reducible refine is_q ?_); first | (refine q_off rfl ?_) | (refine q_p txs rfl rfl ?_) | (refine q_val rfl (fun w' K => evF_run (o := ⟨_, _, _, _, _, _⟩) flds rfl) ?_)))
          refine q_val rfl (fun w' K => evIaa_run (o := ⟨_, _, _, _, _, _⟩) Tryz.underlying87 info_str1 rfl rfl rfl (by omega) (by omega)) ?_
          refine q_ld txs rfl rfl (fun w' K => K.cellAt 0 rfl rfl) ?_
          refine q_call rfl rfl (by kernel_rfl) (fun w1 K => (hc w1).mono fun e w2 h => ⟨h.1, K.call h.2⟩) ?_
          repeat' (first | (with_reducible refine q_nil ?_) | ((with_reducible refine is_q ?_); first | (refine q_off rfl ?_) | (refine q_p txs rfl rfl ?_) | (refine q_val rfl (fun w' K => evF_run (o := ⟨_, _, _, _, _, _⟩) flds rfl) ?_)))
          clear H
          intro w_ H
          repeat' (first | (with_reducible first | refine p_tn ?_ | refine wp_seq ?_ | refine w_reg ?_) | ((with_reducible refine g_on ?_); ((with_reducible refine g_mv ?_); refine l_p txs rfl rfl ?_)))
          (with_reducible refine is_l ?_); refine l_t txs rfl rfl (fun h3 => ?_) (fun h3 => ?_)
          · have hn : compareS (bl a) (bl b) = j := by rw [hV2, if_pos h3]
            repeat' (first | (with_reducible first | refine p_tn ?_ | refine p_tr ?_ | refine p_br ?_ | refine wp_seq ?_ | refine w_reg ?_) | (with_reducible (refine is_if ?_; (refine w_ift rfl ?_))) | (with_reducible first | refine wp_ret ?_ | refine l_nil ?_) | ((with_reducible refine g_on ?_); (first | ((with_reducible refine g_mv ?_); refine l_p txs rfl rfl ?_) | ((with_reducible refine g_as ?_); refine l_p txs rfl rfl ?_))))
            refine end1 rfl rfl ?_
            exact ⟨by rw [hn], H.B⟩
          · repeat' (first | (with_reducible first | refine p_tn ?_ | refine p_bn ?_ | refine w_reg ?_) | (with_reducible (refine is_if ?_; (refine w_iff rfl ?_))) | (with_reducible first | refine wp_skip ?_ | refine l_nil ?_) | ((with_reducible refine g_on ?_); (first | ((with_reducible refine g_mv ?_); refine l_p txs rfl rfl ?_) | ((with_reducible refine g_as ?_); refine l_p txs rfl rfl ?_) | ((with_reducible refine g_bi ?_); (refine l_a txs rfl rfl (by first | exact in_i64 (by omega) (by omega) | exact in_u8 (by omega) (by omega) | exact in_u64 (by omega) (by omega) | exact in_i32 (by omega) (by omega)) ?_)))))
            exact ⟨_ + 1, _, rfl, ⟨rfl, rfl, rfl, trivial⟩, ⟨H, by omega, by rw [hV2, if_neg h3]; rfl⟩, by omega⟩
        · have hV2 : compareS (bl a) (bl b) = if cmpN v.b u.b ≠ 0 then cmpN v.b u.b else lexN [v.c] [u.c] (Mb.cmpP v.words u.words) := hV
          have hc := hc2
          generalize cmpN v.b u.b = j at hc hV2
          repeat' (first | (with_reducible first | refine p_tn ?_ | refine wp_seq ?_ | refine wp_block ?_) | (with_reducible (refine is_if ?_; (refine w_ift rfl ?_))) | (with_reducible first | refine wp_skip ?_ | refine l_nil ?_))
          refine w_draw (C := fun w' => Hp w w' [eP gU (strOfNums u.a) (strOfNums u.b) (strOfNums u.c) A2 u.words.length c2 u.odd, eP gV (strOfNums v.a) (strOfNums v.b) (strOfNums v.c) A1 v.words.length c1 v.odd] [rowT (.slice A2 u.words.length c2) u.words, rowT (.slice A1 v.words.length c1) v.words]) (by kernel_rfl) (by kernel_rfl) H.drew ?_
          repeat' (first | (with_reducible refine q_nil ?_) | ((with_reducible refine is_q ?_); first | (refine q_off rfl ?_) | (refine q_p txs rfl rfl ?_) | (refine q_val rfl (fun w' K => evF_run (o := ⟨_, _, _, _, _, _⟩) flds rfl) ?_)))
          refine q_val rfl (fun w' K => evIaa_run (o := ⟨_, _, _, _, _, _⟩) Tryz.underlying87 info_str1 rfl rfl rfl (by omega) (by omega)) ?_
          refine q_ld txs rfl rfl (fun w' K => K.cellAt 1 rfl rfl) ?_
          repeat' (first | (with_reducible refine q_nil ?_) | ((with_reducible refine is_q ?_); first | (refine q_off rfl ?_) | (refine q_p txs rfl rfl ?_) | (refine q_val rfl (fun w' K => evF_run (o := ⟨_, _, _, _, _, _⟩) flds rfl) ?_)))
          refine q_val rfl (fun w' K => evIaa_run (o := ⟨_, _, _, _, _, _⟩) Tryz.underlying87 info_str1 rfl rfl rfl (by omega) (by omega)) ?_
          refine q_ld txs rfl rfl (fun w' K => K.cellAt 0 rfl rfl) ?_
          refine q_call rfl rfl (by kernel_rfl) (fun w1 K => (hc w1).mono fun e w2 h => ⟨h.1, K.call h.2⟩) ?_
          repeat' (first | (with_reducible refine q_nil ?_) | ((with_reducible refine is_q ?_); first | (refine q_off rfl ?_) | (refine q_p txs rfl rfl ?_) | (refine q_val rfl (fun w' K => evF_run (o := ⟨_, _, _, _, _, _⟩) flds rfl) ?_)))
          clear H
          intro w_ H
          repeat' (first | (with_reducible first | refine p_tn ?_ | refine wp_seq ?_ | refine w_reg ?_) | ((with_reducible refine g_on ?_); ((with_reducible refine g_mv ?_); refine l_p txs rfl rfl ?_)))
          (with_reducible refine is_l ?_); refine l_t txs rfl rfl (fun h3 => ?_) (fun h3 => ?_)
          · have hn : compareS (bl a) (bl b) = j := by rw [hV2, if_pos h3]
            repeat' (first | (with_reducible first | refine p_tn ?_ | refine p_tr ?_ | refine p_br ?_ | refine wp_seq ?_ | refine w_reg ?_) | (with_reducible (refine is_if ?_; (refine w_ift rfl ?_))) | (with_reducible first | refine wp_ret ?_ | refine l_nil ?_) | ((with_reducible refine g_on ?_); (first | ((with_reducible refine g_mv ?_); refine l_p txs rfl rfl ?_) | ((with_reducible refine g_as ?_); refine l_p txs rfl rfl ?_))))
            refine end1 rfl rfl ?_
            exact ⟨by rw [hn], H.B⟩
          · repeat' (first | (with_reducible first | refine p_tn ?_ | refine p_bn ?_ | refine w_reg ?_) | (with_reducible (refine is_if ?_; (refine w_iff rfl ?_))) | (with_reducible first | refine wp_skip ?_ | refine l_nil ?_) | ((with_reducible refine g_on ?_); (first | ((with_reducible refine g_mv ?_); refine l_p txs rfl rfl ?_) | ((with_reducible refine g_as ?_); refine l_p txs rfl rfl ?_) | ((with_reducible refine g_bi ?_); (refine l_a txs rfl rfl (by first | exact in_i64 (by omega) (by omega) | exact in_u8 (by omega) (by omega) | exact in_u64 (by omega) (by omega) | exact in_i32 (by omega) (by omega)) ?_)))))
            exact ⟨_ + 1, _, rfl, ⟨rfl, rfl, rfl, trivial⟩, ⟨H, by omega, by rw [hV2, if_neg h3]; rfl⟩, by omega⟩
        · have hV2 : compareS (bl a) (bl b) = if cmpN v.c u.c ≠ 0 then cmpN v.c u.c else lexN [] [] (Mb.cmpP v.words u.words) := hV
          have hc := hc3
          generalize cmpN v.c u.c = j at hc hV2
          repeat' (first | (with_reducible first | refine p_tn ?_ | refine wp_seq ?_ | refine wp_block ?_) | (with_reducible (refine is_if ?_; (refine w_ift rfl ?_))) | (with_reducible first | refine wp_skip ?_ | refine l_nil ?_))
          refine w_draw (C := fun w' => Hp w w' [eP gU (strOfNums u.a) (strOfNums u.b) (strOfNums u.c) A2 u.words.length c2 u.odd, eP gV (strOfNums v.a) (strOfNums v.b) (strOfNums v.c) A1 v.words.length c1 v.odd] [rowT (.slice A2 u.words.length c2) u.words, rowT (.slice A1 v.words.length c1) v.words]) (by kernel_rfl) (by kernel_rfl) H.drew ?_
          repeat' (first | (with_reducible refine q_nil ?_) | ((with_reducible refine is_q ?_); first | (refine q_off rfl ?_) | (refine q_p txs rfl rfl ?_) | (refine q_val rfl (fun w' K => evF_run (o := ⟨_, _, _, _, _, _⟩) flds rfl) ?_)))
          refine q_val rfl (fun w' K => evIaa_run (o := ⟨_, _, _, _, _, _⟩) Tryz.underlying87 info_str1 rfl rfl rfl (by omega) (by omega)) ?_
          refine q_ld txs rfl rfl (fun w' K => K.cellAt 1 rfl rfl) ?_
          repeat' (first | (with_reducible refine q_nil ?_) | ((with_reducible refine is_q ?_); first | (refine q_off rfl ?_) | (refine q_p txs rfl rfl ?_) | (refine q_val rfl (fun w' K => evF_run (o := ⟨_, _, _, _, _, _⟩) flds rfl) ?_)))
          refine q_val rfl (fun w' K => evIaa_run (o := ⟨_, _, _, _, _, _⟩) Tryz.underlying87 info_str1 rfl rfl rfl (by omega) (by omega)) ?_
          refine q_ld txs rfl rfl (fun w' K => K.cellAt 0 rfl rfl) ?_
          refine q_call rfl rfl (by kernel_rfl) (fun w1 K => (hc w1).mono fun e w2 h => ⟨h.1, K.call h.2⟩) ?_
          repeat' (first | (with_reducible refine q_nil ?_) | ((with_reducible refine is_q ?_); first | (refine q_off rfl ?_) | (refine q_p txs rfl rfl ?_) | (refine q_val rfl (fun w' K => evF_run (o := ⟨_, _, _, _, _, _⟩) flds rfl) ?_)))
          clear H
          intro w_ H
          repeat' (first | (with_reducible first | refine p_tn ?_ | refine wp_seq ?_ | refine w_reg ?_) | ((with_reducible refine g_on ?_); ((with_reducible refine g_mv ?_); refine l_p txs rfl rfl ?_)))
          (with_reducible refine is_l ?_); refine l_t txs rfl rfl (fun h3 => ?_) (fun h3 => ?_)
          · have hn : compareS (bl a) (bl b) = j := by rw [hV2, if_pos h3]
            repeat' (first | (with_reducible first | refine p_tn ?_ | refine p_tr ?_ | refine p_br ?_ | refine wp_seq ?_ | refine w_reg ?_) | (with_reducible (refine is_if ?_; (refine w_ift rfl ?_))) | (with_reducible first | refine wp_ret ?_ | refine l_nil ?_) | ((with_reducible refine g_on ?_); (first | ((with_reducible refine g_mv ?_); refine l_p txs rfl rfl ?_) | ((with_reducible refine g_as ?_); refine l_p txs rfl rfl ?_))))
            refine end1 rfl rfl ?_
            exact ⟨by rw [hn], H.B⟩
          · repeat' (first | (with_reducible first | refine p_tn ?_ | refine p_bn ?_ | refine w_reg ?_) | (with_reducible (refine is_if ?_; (refine w_iff rfl ?_))) | (with_reducible first | refine wp_skip ?_ | refine l_nil ?_) | ((with_reducible refine g_on ?_); (first | ((with_reducible refine g_mv ?_); refine l_p txs rfl rfl ?_) | ((with_reducible refine g_as ?_); refine l_p txs rfl rfl ?_) | ((with_reducible refine g_bi ?_); (refine l_a txs rfl rfl (by first | exact in_i64 (by omega) (by omega) | exact in_u8 (by omega) (by omega) | exact in_u64 (by omega) (by omega) | exact in_i32 (by omega) (by omega)) ?_)))))
            exact ⟨_ + 1, _, rfl, ⟨rfl, rfl, rfl, trivial⟩, ⟨H, by omega, by rw [hV2, if_neg h3]; rfl⟩, by omega⟩
      · obtain rfl : i = 3 := by omega
        have hn : compareS (bl a) (bl b) = Mb.cmpP v.words u.words := hV
        repeat' (first | (with_reducible first | refine p_tn ?_ | refine p_tx ?_ | refine x_hit ?_ | refine wp_seq ?_ | refine w_reg ?_) | (with_reducible (refine is_if ?_; (refine w_iff rfl ?_))) | (with_reducible first | refine wp_exit ?_ | refine l_nil ?_) | ((with_reducible refine g_on ?_); (first | ((with_reducible refine g_fa ?_); refine h_fa flds rfl rfl ?_) | ((with_reducible refine g_ld ?_); (first | (refine h_ld txs H 0 rfl rfl rfl rfl ?_) | (refine h_ld txs H 1 rfl rfl rfl rfl ?_))))))
        (with_reducible refine is_l ?_); refine l_callv rfl rfl (by kernel_rfl) (releases_c (words_at hp H 1 rfl) (words_at hq H 0 rfl) iv.len iu.len) (fun w_ K => ?_)
        have H := H.call K
        repeat' (first | (with_reducible first | refine p_tn ?_ | refine wp_ret ?_ | refine l_nil ?_) | ((with_reducible refine g_on ?_); ((with_reducible refine g_as ?_); refine l_p txs rfl rfl ?_)))
        refine end1 rfl rfl ?_
        exact ⟨by rw [hn], H.B⟩
end Go.Proofs.YtnimaenhijlcmaaGreatDoor.K.Ref
