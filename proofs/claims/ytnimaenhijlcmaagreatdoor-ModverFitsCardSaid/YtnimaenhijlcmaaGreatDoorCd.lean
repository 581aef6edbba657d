/- The reference's Split: a version taken apart. -/
import Derived.Test.YtnimaenhijlcmaaGreatDoorCc
namespace Go.Proofs.YtnimaenhijlcmaaGreatDoor.K.Ref
open Go.RowKit Go.Proofs.YtnimaenhijlcmaaGreatDoor.Q Go.Proofs.YtnimaenhijlcmaaGreatDoor.K Go.Proofs.YtnimaenhijlcmaaGreatDoor.Mb Go.Proofs.YtnimaenhijlcmaaGreatDoorW.PrintWords
set_option linter.unusedVariables false
set_option linter.unusedSimpArgs false

def rt : Nat → Option (List Value)
  | 102 => some zV
  | t => K.rt t
theorem recOkP : RecOk Tryz.prog 102 zV := ⟨⟨_, Tryz.underlying102, rfl⟩, by kernel_rfl⟩
theorem recs : Recs Tryz.prog rt := by
  intro t zs h
  unfold rt at h
  split at h
  · cases h; exact recOkP
  · exact K.recs t zs h
def fo : Nat → Nat → Option Nat
  | 102, 0 => some 0
  | 102, 1 => some 3
  | 102, 2 => some 4
  | t, k => K.fo t k
theorem fldP0 : fldB Tryz.prog 102 0 = some 0 := by kernel_rfl
theorem fldP1 : fldB Tryz.prog 102 1 = some 3 := by kernel_rfl
theorem fldP2 : fldB Tryz.prog 102 2 = some 4 := by kernel_rfl
theorem flds : Flds Tryz.prog fo := by
  intro t k o h
  unfold fo at h
  split at h
  · cases h; exact fldP0
  · cases h; exact fldP1
  · cases h; exact fldP2
  · exact K.flds t k o h
section
variable {P : Program} {n : Nat} {Q : Exit → Act → World → Prop} {f : Fr} {w : World}
/-- Where several ways meet: what stands in the slots there, and what holds of the world. -/
theorem w_cut {σ : Type} (S : σ → List (Nat × Value)) (J : σ → World → Prop) {x z : Code}
    (h1 : x.wp P (Exit.then (fun a' w' => ∃ s f', a' = act n f' ∧ Slots f' (S s) ∧ J s w') Q) (act n f) w)
    (h2 : ∀ s f w', J s w' → z.wp P Q (act n (over f (S s))) w') : (Code.seq x z).wp P Q (act n f) w := by
  refine wp_seq (wp_mono h1 ?_)
  intro e a' w' hq
  cases e with
  | normal =>
    obtain ⟨s, f', rfl, k2, k3⟩ := hq
    have := h2 s f' w' k3
    rw [over_eq k2] at this
    exact this
  | exit id => exact hq
  | goto l => exact hq
  | ret => exact hq
  | panic ch => exact hq
  | outgrown => exact hq
end
abbrev eP (g : Nat) (x y z : ByteArray) (A : Option Addr) (n c : Nat) (b : Bool) : Ent := (g, 102, [.string x, .string y, .string z, .slice A n c, .bool b])
set_option maxRecDepth 100000 in
set_option maxHeartbeats 16000000 in
theorem Split_c (t : ByteArray) (w : World) : Calls Tryz.prog 70 #[.string t] w (PaR w (bl t)) := by
  have hlen := bl_length t
  have hbt := bl_bytes t
  refine enter (args := [.string t]) Tryz.func70 rfl Tryz.ntmps70 rfl ?_
  have H := Hp.nil w
  repeat' (with_reducible first | refine wp_seq ?_ | refine w_reg ?_)
  (with_reducible refine is_l ?_); refine h_alloc recs H rfl rfl (fun g2 w_ H => ?_)
  refine g_on ?_; ((with_reducible refine g_as ?_); refine l_p txs rfl rfl ?_)
  with_reducible refine l_nil ?_
  repeat' (with_reducible first | refine p_tn ?_ | refine wp_seq ?_ | refine w_reg ?_)
  (with_reducible refine is_l ?_); refine h_alloc recs H rfl rfl (fun g4 w_ H => ?_)
  repeat' (first | (with_reducible first | refine p_tn ?_ | refine wp_seq ?_ | refine w_reg ?_ | refine l_nil ?_) | ((with_reducible refine g_on ?_); (first | ((with_reducible refine g_mv ?_); refine l_p txs rfl rfl ?_) | ((with_reducible refine g_cl ?_); refine l_p txs rfl rfl ?_))))
  (with_reducible refine is_l ?_); refine l_t txs rfl rfl (fun h1 => ?_) (fun h1 => ?_)
  · have hres : parseV (bl t) = none := by unfold parseV; rw [if_pos (by omega)]
    repeat' (first | (with_reducible first | refine p_tn ?_ | refine p_tr ?_ | refine wp_seq ?_ | refine w_reg ?_) | (with_reducible (refine is_if ?_; (refine w_ift rfl ?_))) | (with_reducible first | refine wp_ret ?_ | refine l_nil ?_) | ((with_reducible refine g_on ?_); (first | ((with_reducible refine g_mv ?_); refine l_p txs rfl rfl ?_) | ((with_reducible refine g_as ?_); refine l_p txs rfl rfl ?_) | ((with_reducible refine g_pk ?_); refine l_p txs rfl rfl ?_) | ((with_reducible refine g_ld ?_); (refine h_ldR recs H 0 rfl rfl rfl rfl rfl ?_)) | ((with_reducible refine g_st ?_); (refine h_stR recs H 1 rfl rfl rfl rfl rfl rfl rfl rfl rfl (fun w_ H => ?_))))) | ((with_reducible refine g_if ?_); (refine l_off rfl ?_)))
    refine end_ct recs H 1 rfl rfl rfl rfl rfl rfl ?_
    exact pa_none hres _ _ _ _ _ _ _ H.B
  have ht : t.size ≤ 128 := by omega
  repeat' (first | ((with_reducible refine g_on ?_); ((with_reducible refine g_mv ?_); refine l_p txs rfl rfl ?_)) | ((with_reducible refine g_if ?_); ((with_reducible refine g_mv ?_); refine l_p txs rfl rfl ?_)))
  (with_reducible refine is_l ?_); refine l_t txs rfl rfl (fun h2 => ?_) (fun h2 => ?_)
  · have h2 : bl t = [] := h2
    have hres := parseV_o (s := bl t) (by rw [h2]; simp)
    repeat' (first | (with_reducible first | refine p_tn ?_ | refine p_tr ?_ | refine wp_seq ?_ | refine w_reg ?_) | (with_reducible (refine is_if ?_; (refine w_ift rfl ?_))) | (with_reducible first | refine wp_ret ?_ | refine l_nil ?_) | ((with_reducible refine g_on ?_); (first | ((with_reducible refine g_mv ?_); refine l_p txs rfl rfl ?_) | ((with_reducible refine g_as ?_); refine l_p txs rfl rfl ?_) | ((with_reducible refine g_pk ?_); refine l_p txs rfl rfl ?_) | ((with_reducible refine g_ld ?_); (refine h_ldR recs H 0 rfl rfl rfl rfl rfl ?_)) | ((with_reducible refine g_st ?_); (refine h_stR recs H 1 rfl rfl rfl rfl rfl rfl rfl rfl rfl (fun w_ H => ?_))))) | ((with_reducible refine g_if ?_); (refine l_off rfl ?_)))
    refine end_ct recs H 1 rfl rfl rfl rfl rfl rfl ?_
    exact pa_none hres _ _ _ _ _ _ _ H.B
  have h2 : ¬ bl t = [] := h2
  have hpos : 0 < t.size := by rw [← hlen]; exact List.length_pos_iff.2 h2
  have hh := head_at h2
  repeat' (first | ((with_reducible refine g_on ?_); (first | ((with_reducible refine g_mv ?_); refine l_p txs rfl rfl ?_) | ((with_reducible refine g_pk ?_); refine l_p txs rfl rfl ?_))) | ((with_reducible refine g_if ?_); (first | ((with_reducible refine g_mv ?_); refine l_p txs rfl rfl ?_) | ((with_reducible refine g_ix ?_); refine l_ix txs rfl rfl (by first | omega | assumption | decide) (by first | omega | assumption | decide) ?_))))
  (with_reducible refine is_l ?_); refine l_t txs rfl rfl (fun h3 => ?_) (fun h3 => ?_)
  · have hres := parseV_o (s := bl t) (by rw [hh]; intro e; injection e with e; exact h3 e)
    repeat' (first | (with_reducible first | refine p_tn ?_ | refine p_tr ?_ | refine wp_seq ?_ | refine w_reg ?_) | (with_reducible (refine is_if ?_; (refine w_ift rfl ?_))) | (with_reducible first | refine wp_ret ?_ | refine l_nil ?_) | ((with_reducible refine g_on ?_); (first | ((with_reducible refine g_as ?_); refine l_p txs rfl rfl ?_) | ((with_reducible refine g_pk ?_); refine l_p txs rfl rfl ?_) | ((with_reducible refine g_ld ?_); (refine h_ldR recs H 0 rfl rfl rfl rfl rfl ?_)) | ((with_reducible refine g_st ?_); (refine h_stR recs H 1 rfl rfl rfl rfl rfl rfl rfl rfl rfl (fun w_ H => ?_))))))
    refine end_ct recs H 1 rfl rfl rfl rfl rfl rfl ?_
    exact pa_none hres _ _ _ _ _ _ _ H.B
  have h3 : at_ (bl t) 0 = 118 := Classical.not_not.1 h3
  rw [h3] at hh
  obtain ⟨r, hr⟩ : ∃ r, bl t = 118 :: r := by
    cases hb : bl t with
    | nil => rw [hb] at hh; cases hh
    | cons x r => rw [hb] at hh; injection hh with hh; subst hh; exact ⟨r, rfl⟩
  have hV := parseV_v (by omega) hr
  have hrl : r.length + 1 = t.size := by rw [← hlen, hr]; rfl
  repeat' (first | (with_reducible refine l_nil ?_) | ((with_reducible refine g_on ?_); ((with_reducible refine g_pk ?_); refine l_p txs rfl rfl ?_)))
  repeat' (first | (first | (with_reducible refine p_tn ?_) | (with_reducible refine p_tx ?_) | (with_reducible refine p_tr ?_) | (with_reducible refine p_bn ?_) | (with_reducible refine p_br ?_) | (with_reducible refine x_hit ?_) | (with_reducible refine x_miss rfl ?_) | (with_reducible refine wp_seq ?_) | (with_reducible refine wp_block ?_) | (with_reducible refine w_reg ?_) | (with_reducible (refine is_if ?_; first | refine w_ift rfl ?_ | refine w_iff rfl ?_)) | ((with_reducible refine is_if ?_); first | refine w_ift rfl ?_ | refine w_iff rfl ?_) | (with_reducible refine wp_skip ?_) | (with_reducible refine wp_exit ?_) | (with_reducible refine wp_ret ?_)) | (with_reducible refine p_sn ?_) | (with_reducible refine p_sr ?_) | (with_reducible refine p_sx ?_) | (with_reducible refine wp_scope_straight ?_) | (with_reducible refine wp_label ?_))
  repeat' (first | (with_reducible refine l_nil ?_) | ((with_reducible refine g_on ?_); (first | ((with_reducible refine g_mv ?_); refine l_p txs rfl rfl ?_) | ((with_reducible refine g_as ?_); refine l_p txs rfl rfl ?_) | ((with_reducible refine g_sl ?_); refine l_sl txs rfl rfl (by first | omega | assumption | decide) (by first | omega | assumption | decide) (by first | omega | assumption | decide) ?_))))
  with_reducible refine p_tn ?_
  have hx : bl (t.extract (1 : Int).toNat ((t.size : Int)).toNat) = r := by
    rw [blE, hr, Int.toNat_natCast]
    show (r.take (t.size - 1)) = r
    exact List.take_of_length_le (by omega)
  generalize t.extract (1 : Int).toNat ((t.size : Int)).toNat = u at hx ⊢
  have hus : u.size = r.length := by rw [← bl_length, hx]
  have z13 : (⟨#[43, 105, 110, 99, 111, 109, 112, 97, 116, 105, 98, 108, 101]⟩ : ByteArray).size = 13 := rfl
  have hen := fun w1 => ends_c u ⟨#[43, 105, 110, 99, 111, 109, 112, 97, 116, 105, 98, 108, 101]⟩ w1 (by omega) (by omega)
  rw [hx, show bl (⟨#[43, 105, 110, 99, 111, 109, 112, 97, 116, 105, 98, 108, 101]⟩ : ByteArray) = incompat from rfl] at hen
  obtain ⟨hs1, hs2⟩ := endCut_sub (r := r) (e := incompat)
  obtain ⟨body, hbody⟩ : ∃ b, b = (endCut r incompat).getD r := ⟨_, rfl⟩
  obtain ⟨odd, hodd⟩ : ∃ b, b = (endCut r incompat).isSome := ⟨_, rfl⟩
  rw [← hbody] at hs1 hs2 hV
  rw [← hodd] at hV
  have bbo : Bytes body := fun y hy => hbt y (by rw [hr]; exact List.mem_cons_of_mem _ (hs1 y hy))
  have zbo := sizeS' bbo
  refine w_cut (σ := Unit) (S := fun _ => [(0, .string (strOfNums body)), (2, .pointer (some ⟨g2, 0, none⟩)), (4, .pointer (some ⟨g4, 0, none⟩))]) (J := fun _ w' => Hp w w' [eP g4 ⟨#[]⟩ ⟨#[]⟩ ⟨#[]⟩ none 0 0 odd, (g2, 102, zV)] []) ?_ ?_
  · repeat' (first | (with_reducible first | refine wp_seq ?_ | refine w_reg ?_) | ((with_reducible refine g_on ?_); ((with_reducible refine g_mv ?_); refine l_p txs rfl rfl ?_)))
    (with_reducible refine is_l ?_); refine l_callp rfl rfl (by kernel_rfl) (hen _) ?_
    cases he : endCut r incompat with
    | none =>
      rw [he] at hbody hodd
      have hbody : body = r := hbody
      have hodd : odd = false := hodd
      subst hbody hodd
      rw [show (none : Option L).isSome = false from rfl]
      repeat' (first | (with_reducible refine p_tn ?_) | (with_reducible (refine is_if ?_; (refine w_iff rfl ?_))) | (with_reducible first | refine wp_skip ?_ | refine l_nil ?_))
      exact ⟨(), _, rfl, ⟨by show Value.string u = _; rw [← hx, strS], rfl, rfl, trivial⟩, H⟩
    | some b =>
      rw [he] at hbody hodd
      have hbody : body = b := hbody
      have hodd : odd = true := hodd
      subst hbody hodd
      have hrb := endCut_some he
      have hrl2 : r.length = body.length + 13 := by rw [hrb, List.length_append]; rfl
      rw [show (some body).isSome = true from rfl]
      repeat' (first | (with_reducible first | refine p_tn ?_ | refine wp_seq ?_ | refine w_reg ?_) | (with_reducible (refine is_if ?_; (refine w_ift rfl ?_))) | (with_reducible refine l_nil ?_) | ((with_reducible refine g_on ?_); (first | ((with_reducible refine g_mv ?_); refine l_p txs rfl rfl ?_) | ((with_reducible refine g_as ?_); refine l_p txs rfl rfl ?_) | ((with_reducible refine g_fa ?_); refine h_fa flds rfl rfl ?_) | ((with_reducible refine g_st ?_); (refine h_st txs ones H 0 rfl rfl rfl rfl rfl rfl rfl rfl rfl (fun w_ H => ?_))) | ((with_reducible refine g_cl ?_); refine l_p txs rfl rfl ?_) | ((with_reducible refine g_sl ?_); refine l_sl txs rfl rfl (by first | omega | assumption | decide) (by first | omega | assumption | decide) (by first | omega | assumption | decide) ?_) | ((with_reducible refine g_bi ?_); (refine l_a txs rfl rfl (by first | exact in_i64 (by omega) (by omega) | exact in_u8 (by omega) (by omega) | exact in_u64 (by omega) (by omega) | exact in_i32 (by omega) (by omega)) ?_)))))
      refine ⟨(), _, rfl, ⟨?_, rfl, rfl, trivial⟩, H⟩
      show Value.string (u.extract (0 : Int).toNat ((u.size : Int) - 13).toNat) = .string (strOfNums body)
      congr 1
      refine bl_inj ?_
      rw [blE, hx, blS bbo, hrb]
      show (List.drop 0 (body ++ incompat)).take (((u.size : Int) - 13).toNat - 0) = body
      rw [List.drop_zero, show ((u.size : Int) - 13).toNat - 0 = body.length by omega, List.take_left]
  clear H
  rintro ⟨⟩ f w_ H
  repeat' (first | (with_reducible first | refine wp_seq ?_ | refine w_reg ?_) | ((with_reducible refine g_on ?_); ((with_reducible refine g_mv ?_); refine l_p txs rfl rfl ?_)))
  have hah := ahead_c (strOfNums body) 45 w_ (by omega)
  rw [blS bbo] at hah
  (with_reducible refine is_l ?_); refine l_callv rfl rfl (by kernel_rfl) hah (fun w_ K => ?_)
  have H := H.call K
  repeat' (first | (with_reducible refine l_nil ?_) | ((with_reducible refine g_on ?_); ((with_reducible refine g_as ?_); refine l_p txs rfl rfl ?_)))
  with_reducible refine p_tn ?_
  obtain ⟨core, hcore⟩ : ∃ b, b = aheadC 45 body := ⟨_, rfl⟩
  obtain ⟨ws, hws⟩ : ∃ b, b = wordsOf (cutC 45 body) := ⟨_, rfl⟩
  rw [← hcore] at hV ⊢
  rw [← hws] at hV
  have hco : (cutC 45 body = none ∧ core = body ∧ ws = []) ∨ ∃ pre, body = core ++ 45 :: pre ∧ ws = splitC 46 pre := by
    cases hc : cutC 45 body with
    | none =>
      refine .inl ⟨rfl, ?_, by rw [hws, hc]; rfl⟩
      rw [hcore]; unfold aheadC; rw [hc]
    | some pr =>
      obtain ⟨a, pre⟩ := pr
      refine .inr ⟨pre, ?_, by rw [hws, hc]; rfl⟩
      have : core = a := by rw [hcore]; unfold aheadC; rw [hc]
      rw [this]
      exact (cutC_some hc).1
  have bco : Bytes core := by
    rcases hco with ⟨_, h, _⟩ | ⟨pre, h, _⟩
    · rw [h]; exact bbo
    · exact fun y hy => bbo y (by rw [h]; exact List.mem_append_left _ hy)
  have zco := sizeS' bco
  have lco : core.length ≤ body.length := by
    rcases hco with ⟨_, h, _⟩ | ⟨pre, h, _⟩
    · rw [h]; exact Nat.le_refl _
    · rw [h, List.length_append]; omega
  clear hcore hws
  refine w_cut (σ := Option Addr × Nat) (S := fun _ => [(2, .pointer (some ⟨g2, 0, none⟩)), (4, .pointer (some ⟨g4, 0, none⟩)), (5, .string (strOfNums core))]) (J := fun s w' => Hp w w' [eP g4 ⟨#[]⟩ ⟨#[]⟩ ⟨#[]⟩ s.1 ws.length s.2 odd, (g2, 102, zV)] [rowT (.slice s.1 ws.length s.2) ws] ∧ ws.all wordB = true) ?_ ?_
  · repeat' (first | (with_reducible first | refine wp_seq ?_ | refine w_reg ?_) | ((with_reducible refine g_on ?_); (first | ((with_reducible refine g_mv ?_); refine l_p txs rfl rfl ?_) | ((with_reducible refine g_cl ?_); refine l_p txs rfl rfl ?_))))
    rcases hco with ⟨hc, rfl, rfl⟩ | ⟨pre, hbp, rfl⟩
    · (with_reducible refine is_l ?_); refine l_t txs rfl rfl (fun h => absurd h (by omega)) (fun _ => ?_)
      repeat' (first | (with_reducible refine p_tn ?_) | (with_reducible (refine is_if ?_; (refine w_iff rfl ?_))) | (with_reducible first | refine wp_skip ?_ | refine l_nil ?_))
      exact ⟨(none, 0), _, rfl, ⟨rfl, rfl, rfl, trivial⟩, ⟨H.nilRow 9 1, rfl⟩⟩
    · have bpr : Bytes pre := fun y hy => bbo y (by rw [hbp]; exact List.mem_append_right _ (List.mem_cons_of_mem _ hy))
      have hll : body.length = core.length + pre.length + 1 := by rw [hbp]; simp; omega
      have zpr := sizeS' bpr
      (with_reducible refine is_l ?_); refine l_t txs rfl rfl (fun _ => ?_) (fun h => absurd (by omega) h)
      repeat' (first | (with_reducible first | refine p_tn ?_ | refine wp_seq ?_ | refine w_reg ?_) | (with_reducible (refine is_if ?_; (refine w_ift rfl ?_))) | (with_reducible refine l_nil ?_) | ((with_reducible refine g_on ?_); (first | ((with_reducible refine g_mv ?_); refine l_p txs rfl rfl ?_) | ((with_reducible refine g_cl ?_); refine l_p txs rfl rfl ?_) | ((with_reducible refine g_sl ?_); refine l_sl txs rfl rfl (by first | omega | assumption | decide) (by first | omega | assumption | decide) (by first | omega | assumption | decide) ?_) | ((with_reducible refine g_bi ?_); (refine l_a txs rfl rfl (by first | exact in_i64 (by omega) (by omega) | exact in_u8 (by omega) (by omega) | exact in_u64 (by omega) (by omega) | exact in_i32 (by omega) (by omega)) ?_)))))
      have hx2 : bl ((strOfNums body).extract (((strOfNums core).size : Int) + 1).toNat ((strOfNums body).size : Int).toNat) = pre := by
        rw [blE, blS bbo, hbp]
        have e1 : (((strOfNums core).size : Int) + 1).toNat = core.length + 1 := by omega
        rw [e1, List.drop_append, List.drop_of_length_le (by omega), List.nil_append, show core.length + 1 - core.length = 1 by omega]
        show (List.drop 1 (45 :: pre)).take _ = pre
        exact List.take_of_length_le (by show pre.length ≤ _; rw [← hbp]; omega)
      generalize (strOfNums body).extract (((strOfNums core).size : Int) + 1).toNat ((strOfNums body).size : Int).toNat = v at hx2 ⊢
      have zv : v.size = pre.length := by rw [← bl_length, hx2]
      have hpi := pieces_c v 46 w_ (by omega)
      rw [hx2] at hpi
      (with_reducible refine is_l ?_); refine l_call rfl rfl (by kernel_rfl) hpi (fun e w_ hR => ?_)
      have hsm := split_mem 46 pre
      have hsl := split_len 46 pre
      have hne := splitC_ne (c := 46) pre
      generalize splitC 46 pre = W at hR hsm hsl hne hV ⊢
      obtain ⟨A1, c1, rfl, K⟩ := hR
      refine ⟨_, rfl, ?_⟩
      have hWl := List.length_pos_iff.2 hne
      obtain ⟨A3, c3, e3, _, hRd, hAn⟩ := K.rd 0 rfl
      cases e3
      obtain ⟨ad, rfl⟩ : ∃ ad, A1 = some ad := by
        cases A1 with
        | some ad => exact ⟨ad, rfl⟩
        | none => exact absurd (hAn rfl).2 (by show W.length ≠ 0; omega)
      have H := H.join K
      repeat' (first | (with_reducible first | refine p_tn ?_ | refine wp_seq ?_ | refine wp_block ?_ | refine w_reg ?_ | refine l_nil ?_) | ((with_reducible refine g_on ?_); (first | ((with_reducible refine g_as ?_); refine l_p txs rfl rfl ?_) | ((with_reducible refine g_fa ?_); refine h_fa flds rfl rfl ?_) | ((with_reducible refine g_st ?_); (refine h_st txs ones H 0 rfl rfl rfl rfl rfl rfl rfl rfl rfl (fun w_ H => ?_))))))
      refine w_loop (σ := Nat) (S := fun s => [(2, .pointer (some ⟨g2, 0, none⟩)), (4, .pointer (some ⟨g4, 0, none⟩)), (5, .string (strOfNums core)), (6, .int .i64 (s : Int))])
        (J := fun s w' => Hp w w' [eP g4 ⟨#[]⟩ ⟨#[]⟩ ⟨#[]⟩ (some ad) W.length c1 odd, (g2, 102, zV)] [rowT (.slice (some ad) W.length c1) W] ∧ s ≤ W.length ∧ (W.take s).all wordB = true) (μ := fun s => W.length - s) 0 ⟨rfl, rfl, rfl, rfl, trivial⟩ ⟨H, Nat.zero_le _, rfl⟩ ?_
      clear H
      rintro i f w_ ⟨H, hi, ha⟩
      repeat' (first | (with_reducible first | refine wp_seq ?_ | refine w_reg ?_) | ((with_reducible refine g_on ?_); (first | ((with_reducible refine g_mv ?_); refine l_p txs rfl rfl ?_) | ((with_reducible refine g_fa ?_); refine h_fa flds rfl rfl ?_) | ((with_reducible refine g_ld ?_); (refine h_ld txs H 0 rfl rfl rfl rfl ?_)) | ((with_reducible refine g_cl ?_); refine l_p txs rfl rfl ?_))))
      (with_reducible refine is_l ?_); refine l_t txs rfl rfl (fun hlt => ?_) (fun hge => ?_)
      · obtain ⟨y, hy⟩ : ∃ y, W[i]? = some y := ⟨_, List.getElem?_eq_getElem (by omega)⟩
        obtain ⟨m1, m2⟩ := hsm y (List.mem_of_getElem? hy)
        have by' : Bytes y := fun z hz => bpr z (m1 z hz)
        have zy := sizeS' by'
        have hcell := rdT_cell (rowT_at H 0 rfl) hy
        repeat' (first | (with_reducible first | refine p_tn ?_ | refine wp_seq ?_ | refine wp_block ?_ | refine w_reg ?_) | (with_reducible (refine is_if ?_; (refine w_ift rfl ?_))) | (with_reducible first | refine wp_skip ?_ | refine l_nil ?_) | ((with_reducible refine g_on ?_); (first | ((with_reducible refine g_mv ?_); refine l_p txs rfl rfl ?_) | ((with_reducible refine g_fa ?_); refine h_fa flds rfl rfl ?_) | ((with_reducible refine g_ld ?_); (refine h_ld txs H 0 rfl rfl rfl rfl ?_)) | ((with_reducible refine g_ia ?_); refine l_ia txs rfl rfl (by first | omega | assumption | decide) (by first | omega | assumption | decide) ?_))))
        (with_reducible refine is_l ?_); refine l_ld txs rfl rfl (by rw [Int.toNat_natCast]; exact hcell) ?_
        skip
        have hw := word_c (strOfNums y) w_ (by omega)
        rw [blS by'] at hw
        (with_reducible refine is_l ?_); refine l_callp rfl rfl (by kernel_rfl) hw ?_
        cases hwb : wordB y
        · have hWa : W.all wordB = false := by
            rw [List.all_eq_false]
            exact ⟨y, List.mem_of_getElem? hy, by rw [hwb]; simp⟩
          have hres : parseV (bl t) = none := by rw [hV, if_pos hWa]
          repeat' (first | (with_reducible first | refine p_tn ?_ | refine p_tr ?_ | refine p_br ?_ | refine wp_seq ?_ | refine w_reg ?_) | (with_reducible (refine is_if ?_; (refine w_ift rfl ?_))) | (with_reducible first | refine wp_ret ?_ | refine l_nil ?_) | ((with_reducible refine g_on ?_); (first | ((with_reducible refine g_as ?_); refine l_p txs rfl rfl ?_) | ((with_reducible refine g_ld ?_); (refine h_ldR recs H 0 rfl rfl rfl rfl rfl ?_)) | ((with_reducible refine g_st ?_); (refine h_stR recs H 1 rfl rfl rfl rfl rfl rfl rfl rfl rfl (fun w_ H => ?_))) | ((with_reducible refine g_un ?_); (refine l_p txs rfl rfl ?_)))))
          refine end_ct recs H 1 rfl rfl rfl rfl rfl rfl ?_
          exact pa_none hres _ _ _ _ _ _ _ H.B
        · repeat' (first | (with_reducible first | refine p_tn ?_ | refine p_bn ?_ | refine w_reg ?_) | (with_reducible (refine is_if ?_; (refine w_iff rfl ?_))) | (with_reducible first | refine wp_skip ?_ | refine l_nil ?_) | ((with_reducible refine g_on ?_); (first | ((with_reducible refine g_mv ?_); refine l_p txs rfl rfl ?_) | ((with_reducible refine g_as ?_); refine l_p txs rfl rfl ?_) | ((with_reducible refine g_un ?_); (refine l_p txs rfl rfl ?_)) | ((with_reducible refine g_bi ?_); (refine l_a txs rfl rfl (by first | exact in_i64 (by omega) (by omega) | exact in_u8 (by omega) (by omega) | exact in_u64 (by omega) (by omega) | exact in_i32 (by omega) (by omega)) ?_)))))
          refine ⟨i + 1, _, rfl, ⟨rfl, rfl, rfl, rfl, trivial⟩, ⟨H, by omega, ?_⟩, by omega⟩
          rw [List.take_succ_eq_append_getElem (by omega), List.all_append, ha, (List.getElem?_eq_some_iff.1 hy).2]
          simp [hwb]
      · have hWa : W.all wordB = true := by rw [← List.take_of_length_le (l := W) (i := i) (by omega)]; exact ha
        repeat' (first | (with_reducible first | refine p_tn ?_ | refine p_tx ?_ | refine x_hit ?_) | (with_reducible (refine is_if ?_; (refine w_iff rfl ?_))) | (with_reducible first | refine wp_exit ?_ | refine l_nil ?_))
        exact ⟨(some ad, c1), _, rfl, ⟨rfl, rfl, rfl, trivial⟩, ⟨H, hWa⟩⟩
  clear H
  rintro ⟨A, c⟩ f w_ ⟨H, hwa⟩
  simp only at H
  have hV : parseV (bl t) = tailV (splitC 46 core) ws odd := by rw [hV, if_neg (by rw [hwa]; simp)]
  repeat' (first | (with_reducible first | refine wp_seq ?_ | refine w_reg ?_) | ((with_reducible refine g_on ?_); ((with_reducible refine g_mv ?_); refine l_p txs rfl rfl ?_)))
  have hpi := pieces_c (strOfNums core) 46 w_ (by omega)
  rw [blS bco] at hpi
  (with_reducible refine is_l ?_); refine l_call rfl rfl (by kernel_rfl) hpi (fun e w_ hR => ?_)
  have hsm := split_mem 46 core
  have hsl := split_len 46 core
  have hne := splitC_ne (c := 46) core
  generalize splitC 46 core = N at hR hsm hsl hne hV ⊢
  obtain ⟨A1, c1, rfl, K⟩ := hR
  refine ⟨_, rfl, ?_⟩
  have hNl := List.length_pos_iff.2 hne
  obtain ⟨A3, c3, e3, _, hRd, hAn⟩ := K.rd 0 rfl
  cases e3
  obtain ⟨ad, rfl⟩ : ∃ ad, A1 = some ad := by
    cases A1 with
    | some ad => exact ⟨ad, rfl⟩
    | none => exact absurd (hAn rfl).2 (by show N.length ≠ 0; omega)
  have H := H.join K
  have H : Hp w w_ _ [rowT (.slice (some ad) N.length c1) N, rowT (.slice A ws.length c) ws] := H
  clear hRd hAn
  repeat' (first | (with_reducible first | refine p_tn ?_ | refine wp_seq ?_ | refine w_reg ?_ | refine l_nil ?_) | ((with_reducible refine g_on ?_); (first | ((with_reducible refine g_mv ?_); refine l_p txs rfl rfl ?_) | ((with_reducible refine g_as ?_); refine l_p txs rfl rfl ?_) | ((with_reducible refine g_cl ?_); refine l_p txs rfl rfl ?_))))
  (with_reducible refine is_l ?_); refine l_t txs rfl rfl (fun hne => ?_) (fun heq => ?_)
  · have hres : parseV (bl t) = none := by
      rw [hV]
      unfold tailV
      split
      · exact absurd (by simp) hne
      · rfl
    repeat' (first | (with_reducible first | refine p_tn ?_ | refine p_tr ?_ | refine wp_seq ?_ | refine w_reg ?_) | (with_reducible (refine is_if ?_; (refine w_ift rfl ?_))) | (with_reducible first | refine wp_ret ?_ | refine l_nil ?_) | ((with_reducible refine g_on ?_); (first | ((with_reducible refine g_as ?_); refine l_p txs rfl rfl ?_) | ((with_reducible refine g_ld ?_); (refine h_ldR recs H 0 rfl rfl rfl rfl rfl ?_)) | ((with_reducible refine g_st ?_); (refine h_stR recs H 1 rfl rfl rfl rfl rfl rfl rfl rfl rfl (fun w_ H => ?_))))))
    refine end_ct recs H 1 rfl rfl rfl rfl rfl rfl ?_
    exact pa_none hres _ _ _ _ _ _ _ H.B
  obtain ⟨a, b, d, hN⟩ : ∃ a b d, N = [a, b, d] := by
    match N, heq with
    | [a, b, d], _ => exact ⟨a, b, d, rfl⟩
    | [], h1 => exact absurd (by simp) h1
    | [_], h1 => exact absurd (by simp) h1
    | [_, _], h1 => exact absurd (by simp) h1
    | _ :: _ :: _ :: _ :: _, h1 => exact absurd (by simp; omega) h1
  subst hN
  obtain ⟨ma1, ma2⟩ := hsm a (by simp)
  obtain ⟨mb1, mb2⟩ := hsm b (by simp)
  obtain ⟨md1, md2⟩ := hsm d (by simp)
  have ba : Bytes a := fun y hy => bco y (ma1 y hy)
  have bb : Bytes b := fun y hy => bco y (mb1 y hy)
  have bd : Bytes d := fun y hy => bco y (md1 y hy)
  have za := sizeS' ba
  have zb := sizeS' bb
  have zd := sizeS' bd
  have hl3 : [a, b, d].length = 3 := rfl
  repeat' (first | (with_reducible first | refine p_tn ?_ | refine wp_seq ?_ | refine wp_block ?_ | refine w_reg ?_) | (with_reducible (refine is_if ?_; (refine w_iff rfl ?_))) | (with_reducible first | refine wp_skip ?_ | refine l_nil ?_) | ((with_reducible refine g_on ?_); ((with_reducible refine g_as ?_); refine l_p txs rfl rfl ?_)))
  refine w_loop (σ := Nat) (S := fun s => [(2, .pointer (some ⟨g2, 0, none⟩)), (4, .pointer (some ⟨g4, 0, none⟩)), (7, .slice (some ad) [a, b, d].length c1), (8, .int .i64 (s : Int))])
    (J := fun s w' => Hp w w' [eP g4 (if 1 ≤ s then strOfNums a else ⟨#[]⟩) (if 2 ≤ s then strOfNums b else ⟨#[]⟩) (if 3 ≤ s then strOfNums d else ⟨#[]⟩) A ws.length c odd, (g2, 102, zV)] [rowT (.slice (some ad) [a, b, d].length c1) [a, b, d], rowT (.slice A ws.length c) ws] ∧ s ≤ 3 ∧ (1 ≤ s → numB a = true) ∧ (2 ≤ s → numB b = true) ∧ (3 ≤ s → numB d = true)) (μ := fun s => 3 - s) 0 ⟨rfl, rfl, rfl, rfl, trivial⟩ ⟨H, by omega, fun h => by omega, fun h => by omega, fun h => by omega⟩ ?_
  clear H
  rintro s f w_ ⟨H, hs, k1, k2, k3⟩
  by_cases hs3 : s = 3
  · subst hs3
    have k1 := k1 (by omega)
    have k2 := k2 (by omega)
    have k3 := k3 (by omega)
    have H : Hp w w_ [eP g4 (strOfNums a) (strOfNums b) (strOfNums d) A ws.length c odd, (g2, 102, zV)] [rowT (.slice (some ad) [a, b, d].length c1) [a, b, d], rowT (.slice A ws.length c) ws] := H
    have hV2 : parseV (bl t) = if (!odd || (decide (a ≠ [48]) && decide (a ≠ [49]))) then some ⟨a, b, d, ws, odd⟩ else none := by
      rw [hV]
      unfold tailV
      simp only [k1, k2, k3, Bool.true_and]
    have e48 : bl (⟨#[48]⟩ : ByteArray) = [48] := rfl
    have e49 : bl (⟨#[49]⟩ : ByteArray) = [49] := rfl
    repeat' (first | (with_reducible first | refine wp_seq ?_ | refine w_reg ?_) | ((with_reducible refine g_on ?_); ((with_reducible refine g_mv ?_); refine l_p txs rfl rfl ?_)))
    (with_reducible refine is_l ?_); refine l_t txs rfl rfl (fun hh => absurd hh (by omega)) (fun _ => ?_)
    have fin : ∀ q : Bool, q = (!odd || (decide (a ≠ [48]) && decide (a ≠ [49]))) → ∀ w', Hp w w' [eP g4 (strOfNums a) (strOfNums b) (strOfNums d) A ws.length c odd, eP g2 (strOfNums a) (strOfNums b) (strOfNums d) A ws.length c odd] [rowT (.slice (some ad) [a, b, d].length c1) [a, b, d], rowT (.slice A ws.length c) ws] → PaR w (bl t) (.returned (.tuple #[.agg #[.string (strOfNums a), .string (strOfNums b), .string (strOfNums d), .slice A ws.length c, .bool odd], .bool q])) w' := fun q hq w' H => by
      rw [← hq] at hV2
      cases q
      · rw [if_neg (by simp)] at hV2
        exact pa_none hV2 _ _ _ _ _ _ _ H.B
      · rw [if_pos rfl] at hV2
        exact pa_some hV2 A c (H.pick [] [1] (by decide) (by decide) rfl rfl)
    have hq : (odd = false) ∨ (odd = true ∧ a = [48]) ∨ (odd = true ∧ a ≠ [48] ∧ a = [49]) ∨ (odd = true ∧ a ≠ [48] ∧ a ≠ [49]) := by
      cases odd
      · exact .inl rfl
      · by_cases h1 : a = [48]
        · exact .inr (.inl ⟨rfl, h1⟩)
        · by_cases h2 : a = [49]
          · exact .inr (.inr (.inl ⟨rfl, h1, h2⟩))
          · exact .inr (.inr (.inr ⟨rfl, h1, h2⟩))
    clear hodd
    rcases hq with rfl | ⟨rfl, hA⟩ | ⟨rfl, hA, hB⟩ | ⟨rfl, hA, hB⟩
    all_goals
      repeat' (first | (with_reducible first | refine p_tn ?_ | refine p_tx ?_ | refine x_hit ?_ | refine wp_seq ?_) | (with_reducible (refine is_if ?_; (refine w_iff rfl ?_))) | (with_reducible first | refine wp_exit ?_ | refine l_nil ?_))
      have HS := H.pick [0] [0, 1] (by decide) (by decide) rfl rfl
      refine d_start (fun w_ => Hp w w_ _ _) #[false, false, false, false, false, false, false, false, false, false, false, false, false, false, false, false, false, false] (by kernel_rfl) rfl rfl HS.drew ?_
      have H := H.drew
      have HS := HS.drew
      first | (refine d_take (i := 0) #[true, false, false, false, false, false, false, false, false, false, false, false, false, false, false, false, false, false] rfl (by kernel_rfl) (fun _ _ _ h => h) rfl (fun w_ K => evLR_run (o := ⟨_, _, _, _, _, _⟩) recs rfl rfl (K.range 0 rfl) rfl) HS ?_)
      first | (refine d_pure (i := 1) #[true, true, false, false, false, false, false, false, false, false, false, false, false, false, false, false, false, false] rfl (by kernel_rfl) (fun _ _ _ h => h) rfl (fun w_ => evF_run (o := ⟨_, _, _, _, _, _⟩) flds rfl) ?_) | (refine d_pure (i := 1) #[true, true, false, false, false, false, false, false, false, false, false, false, false, false, false, false, false, false] rfl (by kernel_rfl) (fun _ _ _ h => h) rfl (fun w_ => evG_run (o := ⟨_, _, _, _, _, _⟩) flds rfl) ?_)
      first | (refine d_take (i := 2) #[true, true, true, false, false, false, false, false, false, false, false, false, false, false, false, false, false, false] rfl (by kernel_rfl) (fun _ _ _ h => h) rfl (fun w_ K => evL_run (o := ⟨_, _, _, _, _, _⟩) txs rfl (K.cellAt 0 rfl rfl)) HS ?_)
      first | (refine d_pure (i := 3) #[true, true, true, true, false, false, false, false, false, false, false, false, false, false, false, false, false, false] rfl (by kernel_rfl) (fun _ _ _ h => h) rfl (fun w_ => evP_run (o := ⟨_, _, _, _, _, _⟩) txs rfl) ?_)
      first | (refine d_pure (i := 4) #[true, true, true, true, true, false, false, false, false, false, false, false, false, false, false, false, false, false] rfl (by kernel_rfl) (fun _ _ _ h => h) rfl (fun w_ => evP_run (o := ⟨_, _, _, _, _, _⟩) txs rfl) ?_)
      first | (refine d_off (i := 5) #[true, true, true, true, true, true, false, false, false, false, false, false, false, false, false, false, false, false] rfl (by kernel_rfl) (fun _ _ _ h => h) rfl ?_) | (first | (refine d_pure (i := 5) #[true, true, true, true, true, true, false, false, false, false, false, false, false, false, false, false, false, false] rfl (by kernel_rfl) (fun _ _ _ h => h) rfl (fun w_ => evF_run (o := ⟨_, _, _, _, _, _⟩) flds rfl) ?_) | (refine d_pure (i := 5) #[true, true, true, true, true, true, false, false, false, false, false, false, false, false, false, false, false, false] rfl (by kernel_rfl) (fun _ _ _ h => h) rfl (fun w_ => evG_run (o := ⟨_, _, _, _, _, _⟩) flds rfl) ?_))
      first | (refine d_off (i := 6) #[true, true, true, true, true, true, true, false, false, false, false, false, false, false, false, false, false, false] rfl (by kernel_rfl) (fun _ _ _ h => h) rfl ?_) | (first | (refine d_pure (i := 6) #[true, true, true, true, true, true, true, false, false, false, false, false, false, false, false, false, false, false] rfl (by kernel_rfl) (fun _ _ _ h => h) rfl (fun w_ => evIaa_run (o := ⟨_, _, _, _, _, _⟩) Tryz.underlying87 info_str1 rfl rfl rfl (by decide) (by decide)) ?_))
      first | (refine d_off (i := 7) #[true, true, true, true, true, true, true, true, false, false, false, false, false, false, false, false, false, false] rfl (by kernel_rfl) (fun _ _ _ h => h) rfl ?_) | (first | (refine d_take (i := 7) #[true, true, true, true, true, true, true, true, false, false, false, false, false, false, false, false, false, false] rfl (by kernel_rfl) (fun _ _ _ h => h) rfl (fun w_ K => evL_run (o := ⟨_, _, _, _, _, _⟩) txs rfl (K.cellAt 0 rfl rfl)) HS ?_))
      first | (refine d_off (i := 8) #[true, true, true, true, true, true, true, true, true, false, false, false, false, false, false, false, false, false] rfl (by kernel_rfl) (fun _ _ _ h => h) rfl ?_) | (first | (refine d_pure (i := 8) #[true, true, true, true, true, true, true, true, true, false, false, false, false, false, false, false, false, false] rfl (by kernel_rfl) (fun _ _ _ h => h) rfl (fun w_ => (by first | exact evT_yes (o := ⟨_, _, _, _, _, _⟩) txs rfl (by rw [blS ba, e48]; exact hA) | exact evT_no (o := ⟨_, _, _, _, _, _⟩) txs rfl (by rw [blS ba, e48, hA]; exact fun h => h rfl))) ?_))
      first | (refine d_off (i := 9) #[true, true, true, true, true, true, true, true, true, true, false, false, false, false, false, false, false, false] rfl (by kernel_rfl) (fun _ _ _ h => h) rfl ?_) | (first | (refine d_pure (i := 9) #[true, true, true, true, true, true, true, true, true, true, false, false, false, false, false, false, false, false] rfl (by kernel_rfl) (fun _ _ _ h => h) rfl (fun w_ => evP_run (o := ⟨_, _, _, _, _, _⟩) txs rfl) ?_))
      first | (refine d_off (i := 10) #[true, true, true, true, true, true, true, true, true, true, true, false, false, false, false, false, false, false] rfl (by kernel_rfl) (fun _ _ _ h => h) rfl ?_) | (first | (refine d_pure (i := 10) #[true, true, true, true, true, true, true, true, true, true, true, false, false, false, false, false, false, false] rfl (by kernel_rfl) (fun _ _ _ h => h) rfl (fun w_ => evF_run (o := ⟨_, _, _, _, _, _⟩) flds rfl) ?_) | (refine d_pure (i := 10) #[true, true, true, true, true, true, true, true, true, true, true, false, false, false, false, false, false, false] rfl (by kernel_rfl) (fun _ _ _ h => h) rfl (fun w_ => evG_run (o := ⟨_, _, _, _, _, _⟩) flds rfl) ?_))
      first | (refine d_off (i := 11) #[true, true, true, true, true, true, true, true, true, true, true, true, false, false, false, false, false, false] rfl (by kernel_rfl) (fun _ _ _ h => h) rfl ?_) | (first | (refine d_pure (i := 11) #[true, true, true, true, true, true, true, true, true, true, true, true, false, false, false, false, false, false] rfl (by kernel_rfl) (fun _ _ _ h => h) rfl (fun w_ => evIaa_run (o := ⟨_, _, _, _, _, _⟩) Tryz.underlying87 info_str1 rfl rfl rfl (by decide) (by decide)) ?_))
      first | (refine d_off (i := 12) #[true, true, true, true, true, true, true, true, true, true, true, true, true, false, false, false, false, false] rfl (by kernel_rfl) (fun _ _ _ h => h) rfl ?_) | (first | (refine d_take (i := 12) #[true, true, true, true, true, true, true, true, true, true, true, true, true, false, false, false, false, false] rfl (by kernel_rfl) (fun _ _ _ h => h) rfl (fun w_ K => evL_run (o := ⟨_, _, _, _, _, _⟩) txs rfl (K.cellAt 0 rfl rfl)) HS ?_))
      first | (refine d_off (i := 13) #[true, true, true, true, true, true, true, true, true, true, true, true, true, true, false, false, false, false] rfl (by kernel_rfl) (fun _ _ _ h => h) rfl ?_) | (first | (refine d_pure (i := 13) #[true, true, true, true, true, true, true, true, true, true, true, true, true, true, false, false, false, false] rfl (by kernel_rfl) (fun _ _ _ h => h) rfl (fun w_ => (by first | exact evT_yes (o := ⟨_, _, _, _, _, _⟩) txs rfl (by rw [blS ba, e49]; exact hB) | exact evT_no (o := ⟨_, _, _, _, _, _⟩) txs rfl (by rw [blS ba, e49, hB]; exact fun h => h rfl))) ?_))
      first | (refine d_off (i := 14) #[true, true, true, true, true, true, true, true, true, true, true, true, true, true, true, false, false, false] rfl (by kernel_rfl) (fun _ _ _ h => h) rfl ?_) | (first | (refine d_pure (i := 14) #[true, true, true, true, true, true, true, true, true, true, true, true, true, true, true, false, false, false] rfl (by kernel_rfl) (fun _ _ _ h => h) rfl (fun w_ => evP_run (o := ⟨_, _, _, _, _, _⟩) txs rfl) ?_))
      first | (refine d_pure (i := 15) #[true, true, true, true, true, true, true, true, true, true, true, true, true, true, true, true, false, false] rfl (by kernel_rfl) (fun _ _ _ h => h) rfl (fun w_ => evP_run (o := ⟨_, _, _, _, _, _⟩) txs rfl) ?_)
      refine d_one (i := 16) #[true, true, true, true, true, true, true, true, true, true, true, true, true, true, true, true, true, false] rfl (by kernel_rfl) rfl ?_
      refine g_on ?_; ((with_reducible refine g_st ?_); (refine h_stR recs H 1 rfl rfl rfl rfl rfl rfl rfl rfl rfl (fun w_ H => ?_)))
      refine l_nil ?_
      have HS := H.pick [0] [0, 1] (by decide) (by decide) rfl rfl
      refine ⟨rfl, HS, ?_⟩
      first | (refine d_pure (i := 17) #[true, true, true, true, true, true, true, true, true, true, true, true, true, true, true, true, true, true] rfl (by kernel_rfl) (fun _ _ _ h => h) rfl (fun w_ => evP_run (o := ⟨_, _, _, _, _, _⟩) txs rfl) ?_)
      refine d_done rfl ?_
      repeat' (with_reducible first | refine p_tn ?_ | refine wp_ret ?_)
      refine end_ct recs H 1 rfl rfl rfl rfl rfl rfl ?_
      refine fin _ ?_ _ H
      first
      | rfl
      | (rw [hA]; rfl)
      | (rw [hB]; rfl)
      | (rw [decide_eq_true hA, decide_eq_true hB]; rfl)
  · have h012 : s = 0 ∨ s = 1 ∨ s = 2 := by omega
    rcases h012 with rfl | rfl | rfl
    have ny := fun w1 => number_c (strOfNums a) w1
    rw [blS ba] at ny
    have hcell := rdT_cell (rowT_at H 0 rfl) (y := a) (i := 0) rfl
    obtain ⟨y, hy⟩ : ∃ y, y = a := ⟨_, rfl⟩
    rw [← hy] at ny hcell
    rotate_left
    have ny := fun w1 => number_c (strOfNums b) w1
    rw [blS bb] at ny
    have hcell := rdT_cell (rowT_at H 0 rfl) (y := b) (i := 1) rfl
    obtain ⟨y, hy⟩ : ∃ y, y = b := ⟨_, rfl⟩
    rw [← hy] at ny hcell
    rotate_left
    have ny := fun w1 => number_c (strOfNums d) w1
    rw [blS bd] at ny
    have hcell := rdT_cell (rowT_at H 0 rfl) (y := d) (i := 2) rfl
    obtain ⟨y, hy⟩ : ∃ y, y = d := ⟨_, rfl⟩
    rw [← hy] at ny hcell
    rotate_left
    all_goals
      repeat' (first | (with_reducible first | refine wp_seq ?_ | refine w_reg ?_) | ((with_reducible refine g_on ?_); ((with_reducible refine g_mv ?_); refine l_p txs rfl rfl ?_)))
      (with_reducible refine is_l ?_); refine l_t txs rfl rfl (fun _ => ?_) (fun hh => absurd (by omega) hh)
      repeat' (first | (with_reducible first | refine p_tn ?_ | refine wp_seq ?_ | refine wp_block ?_ | refine w_reg ?_) | (with_reducible (refine is_if ?_; (refine w_ift rfl ?_))) | (with_reducible first | refine wp_skip ?_ | refine l_nil ?_) | ((with_reducible refine g_on ?_); (first | ((with_reducible refine g_mv ?_); refine l_p txs rfl rfl ?_) | ((with_reducible refine g_ia ?_); refine l_ia txs rfl rfl (by first | omega | assumption | decide) (by first | omega | assumption | decide) ?_))))
      (with_reducible refine is_l ?_); refine l_ld txs rfl rfl hcell ?_
      skip
      (with_reducible refine is_l ?_); refine l_callp rfl rfl (by kernel_rfl) (ny _ (by rw [hy]; omega)) ?_
      cases hnb : numB y
      · have hres : parseV (bl t) = none := by
          rw [hV]
          unfold tailV
          rw [hy] at hnb
          simp [hnb]
        repeat' (first | (with_reducible first | refine p_tn ?_ | refine p_tr ?_ | refine p_br ?_ | refine wp_seq ?_ | refine w_reg ?_) | (with_reducible (refine is_if ?_; (refine w_ift rfl ?_))) | (with_reducible first | refine wp_ret ?_ | refine l_nil ?_) | ((with_reducible refine g_on ?_); (first | ((with_reducible refine g_as ?_); refine l_p txs rfl rfl ?_) | ((with_reducible refine g_ld ?_); (refine h_ldR recs H 0 rfl rfl rfl rfl rfl ?_)) | ((with_reducible refine g_st ?_); (refine h_stR recs H 1 rfl rfl rfl rfl rfl rfl rfl rfl rfl (fun w_ H => ?_))) | ((with_reducible refine g_un ?_); (refine l_p txs rfl rfl ?_)))))
        refine end_ct recs H 1 rfl rfl rfl rfl rfl rfl ?_
        exact pa_none hres _ _ _ _ _ _ _ H.B
      · repeat' (first | (with_reducible first | refine p_tn ?_ | refine w_reg ?_) | (with_reducible (refine is_if ?_; (refine w_iff rfl ?_))) | (with_reducible first | refine wp_skip ?_ | refine l_nil ?_) | ((with_reducible refine g_on ?_); (first | ((with_reducible refine g_mv ?_); refine l_p txs rfl rfl ?_) | ((with_reducible refine g_un ?_); (refine l_p txs rfl rfl ?_)) | ((with_reducible refine g_ia ?_); refine l_ia txs rfl rfl (by first | omega | assumption | decide) (by first | omega | assumption | decide) ?_))))
        (with_reducible refine is_l ?_); refine l_ld txs rfl rfl hcell ?_
        repeat' ((with_reducible refine g_on ?_); ((with_reducible refine g_fa ?_); refine h_fa flds rfl rfl ?_))
        (with_reducible refine is_l ?_); refine l_iaa Tryz.underlying87 info_str1 rfl rfl rfl (by decide) (by decide) ?_
        repeat' (first | (with_reducible first | refine p_tn ?_ | refine p_bn ?_ | refine w_reg ?_ | refine l_nil ?_) | ((with_reducible refine g_on ?_); (first | ((with_reducible refine g_mv ?_); refine l_p txs rfl rfl ?_) | ((with_reducible refine g_as ?_); refine l_p txs rfl rfl ?_) | ((with_reducible refine g_st ?_); (refine h_st txs ones H 0 rfl rfl rfl rfl rfl rfl rfl rfl rfl (fun w_ H => ?_))) | ((with_reducible refine g_bi ?_); (refine l_a txs rfl rfl (by first | exact in_i64 (by omega) (by omega) | exact in_u8 (by omega) (by omega) | exact in_u64 (by omega) (by omega) | exact in_i32 (by omega) (by omega)) ?_)))))
        subst hy
        exact ⟨_ + 1, _, rfl, ⟨rfl, rfl, rfl, rfl, trivial⟩, ⟨H.pick [0, 1] [0, 1] (by decide) (by decide) rfl rfl, by decide, fun _ => by first | exact hnb | exact k1 (by decide), fun h => by first | exact hnb | exact k2 (by decide) | omega, fun h => by first | exact hnb | omega⟩, by decide⟩
end Go.Proofs.YtnimaenhijlcmaaGreatDoor.K.Ref
