/- Joined texts of mine, 5: Ri, Rj, Rk, Rl, Rm, Ro, Rp. -/
import Derived.Test.YthgojbdpmcccaaaGreatDoorXq4
section
namespace Go.Proofs.YthgojbdpmcccaaaGreatDoor.K.Ref
open Go.RowKit Go.Proofs.YthgojbdpmcccaaaGreatDoor.Q Go.Proofs.YthgojbdpmcccaaaGreatDoor.Wb Go.Proofs.YthgojbdpmcccaaaGreatDoorW.PrintWords Go.Proofs.YthgojbdpmcccaaaGreatDoor.K
set_option linter.unusedVariables false
set_option linter.unusedSimpArgs false
def outUn (b : L) : L × Nat × Nat := match unchunkS b with | .ok (x, n) => (x, n, 0) | .error k => ([], 0, k)
def UcR (w : World) (b : L) (e : Ending) (w' : World) : Prop := ∃ A c, e = .returned (.tuple #[.slice A (outUn b).1.length c, .int .i64 ((outUn b).2.1 : Int), .int .i64 ((outUn b).2.2 : Int)]) ∧ Hp w w' [] [rowB (.slice A (outUn b).1.length c) (outUn b).1]
theorem endS_err {b : L} {e : Nat} (h : endS b = .error e) : e = 140 ∨ e = 146 := by
  unfold endS at h
  split at h <;> first | (cases h; done) | (injection h with h; omega)
theorem un_err {b : L} {k : Nat} (h : unchS (b.length + 1) [] b = .error k) : outUn b = ([], 0, k) := by unfold outUn unchunkS; rw [h]
theorem un_ok {b x r : L} (h : unchS (b.length + 1) [] b = .ok (x, r)) : outUn b = (x, b.length - r.length, 0) := by unfold outUn unchunkS; rw [h]
set_option maxRecDepth 100000 in
set_option maxHeartbeats 8000000 in
theorem rUnchunk_c {w : World} {B : Option Addr} {c : Nat} {b : L} (h : ReadsInt w .u8 B b.length b) (hb : Bytes b) (hs : b.length ≤ 1000000000000) :
    Calls Tryz.prog 73 #[.slice B b.length c] w (UcR w b) := by
  refine enter (args := [.slice B b.length c]) Tryz.func73 rfl Tryz.ntmps73 rfl ?_
  have hbs := blS hb
  have zb := sizeS' hb
  have H := (Hp.nil w).nilRow 5 1
  repeat' (first | (first | (with_reducible refine p_tn ?_) | (with_reducible refine wp_seq ?_) | (with_reducible refine w_reg ?_)) | (first | (with_reducible refine l_nil ?_) | ((with_reducible refine g_on ?_); (first | ((with_reducible refine g_mv ?_); refine l_p txs rfl rfl ?_) | ((with_reducible refine g_as ?_); refine l_p txs rfl rfl ?_)))))
  (with_reducible refine is_l ?_); refine l_text rfl rfl Tryz.underlying23 Tryz.underlying5 Tryz.underlying9 (h.below H.B) ?_
  repeat' (first | (first | (with_reducible refine p_tn ?_) | (with_reducible refine wp_seq ?_) | (with_reducible refine wp_block ?_) | (with_reducible refine w_reg ?_)) | (first | (with_reducible refine l_nil ?_) | ((with_reducible refine g_on ?_); ((with_reducible refine g_as ?_); refine l_p txs rfl rfl ?_))))
  refine w_loop (σ := Nat × L × Option Addr × Nat) (S := fun t => [(5, .string (strOfNums b)), (6, .slice t.2.2.1 t.2.1.length t.2.2.2), (7, .int .i64 (t.1 : Int))])
    (J := fun t w' => Hp w w' [] [rowB (.slice t.2.2.1 t.2.1.length t.2.2.2) t.2.1] ∧ t.1 ≤ b.length ∧ t.2.1.length ≤ 1048576 ∧ ∃ f, (b.drop t.1).length < f ∧ unchS (b.length + 1) [] b = unchS f t.2.1 (b.drop t.1)) (μ := fun t => b.length - t.1) (0, [], none, 0) ⟨rfl, rfl, rfl, trivial⟩ ⟨H, Nat.zero_le _, Nat.zero_le _, b.length + 1, by simp, rfl⟩ ?_
  rintro ⟨k, acc, A2, c2⟩ f w_ ⟨H, hk, hac, g, hg, hD⟩
  simp only at H hk hac hg hD ⊢
  obtain ⟨g', rfl⟩ : ∃ m, g = m + 1 := ⟨g - 1, by omega⟩
  rw [unchS_succ g' acc (b.drop k)] at hD
  have hln := rline_c (strOfNums b) k w_ (by omega) (by omega)
  unfold lineV2 at hln
  rw [hbs] at hln
  have hdl := List.length_drop (i := k) (l := b)
  repeat' (first | (first | (with_reducible refine wp_seq ?_) | (with_reducible refine wp_block ?_) | (with_reducible refine w_reg ?_)) | ((with_reducible refine g_on ?_); ((with_reducible refine g_mv ?_); refine l_p txs rfl rfl ?_)))
  cases hl : lineS (b.drop k) with
  | none =>
    rw [hl] at hln hD
    simp only at hD
    (with_reducible refine is_l ?_); refine l_callv rfl rfl (by kernel_rfl) hln (fun w_ K => ?_)
    have H := H.call K
    repeat' (first | (first | (with_reducible refine p_tn ?_) | (with_reducible refine wp_seq ?_) | (with_reducible refine w_reg ?_)) | (first | (with_reducible refine l_nil ?_) | ((with_reducible refine g_on ?_); (first | ((with_reducible refine g_mv ?_); refine l_p txs rfl rfl ?_) | ((with_reducible refine g_as ?_); refine l_p txs rfl rfl ?_) | ((with_reducible refine g_ex ?_); refine l_p txs rfl rfl ?_)))))
    (with_reducible refine is_l ?_); refine l_t txs rfl rfl (fun _ => ?_) (fun hh => absurd (by decide) hh)
    repeat' (first | (first | (with_reducible refine p_tn ?_) | (with_reducible refine wp_seq ?_) | (with_reducible refine w_reg ?_) | (with_reducible (refine is_if ?_; (refine w_ift rfl ?_)))) | (first | (with_reducible refine l_nil ?_) | ((with_reducible refine g_on ?_); (first | ((with_reducible refine g_mv ?_); refine l_p txs rfl rfl ?_) | ((with_reducible refine g_cl ?_); refine l_p txs rfl rfl ?_) | ((with_reducible refine g_bi ?_); (refine l_a txs rfl rfl (by first | exact in_i64 (by omega) (by omega) | exact in_u8 (by omega) (by omega) | exact in_u64 (by omega) (by omega) | exact in_i32 (by omega) (by omega)) ?_))))))
    (with_reducible refine is_l ?_); refine l_t txs rfl rfl (fun h2 => ?_) (fun h2 => ?_)
    · rw [if_pos (by omega)] at hD
      have hres := hD
      repeat' (first | (first | (with_reducible refine p_tn ?_) | (with_reducible refine p_tr ?_) | (with_reducible refine p_br ?_) | (with_reducible refine wp_seq ?_) | (with_reducible refine w_reg ?_) | (with_reducible (refine is_if ?_; (refine w_ift rfl ?_))) | (with_reducible refine wp_ret ?_)) | (first | (with_reducible refine l_nil ?_) | ((with_reducible refine g_on ?_); ((with_reducible refine g_as ?_); refine l_p txs rfl rfl ?_))))
      refine end3 rfl rfl rfl rfl ?_
      have ho := un_err hres
      exact ⟨none, 0, by rw [ho]; rfl, by rw [ho]; exact (H.nilRow 5 1).pick [] [0] (by decide) (by decide) rfl rfl⟩
    · rw [if_neg (by omega)] at hD
      have hres := hD
      repeat' (first | (first | (with_reducible refine p_tn ?_) | (with_reducible refine p_tr ?_) | (with_reducible refine p_br ?_) | (with_reducible refine wp_seq ?_) | (with_reducible refine w_reg ?_) | (with_reducible (refine is_if ?_; (refine w_iff rfl ?_))) | (with_reducible refine wp_skip ?_) | (with_reducible refine wp_ret ?_)) | (first | (with_reducible refine l_nil ?_) | ((with_reducible refine g_on ?_); ((with_reducible refine g_as ?_); refine l_p txs rfl rfl ?_))))
      refine end3 rfl rfl rfl rfl ?_
      have ho := un_err hres
      exact ⟨none, 0, by rw [ho]; rfl, by rw [ho]; exact (H.nilRow 5 1).pick [] [0] (by decide) (by decide) rfl rfl⟩
  | some z =>
    obtain ⟨x, r⟩ := z
    rw [hl] at hln hD
    simp only at hD
    have hxb := line_bytes (fun y hy => hb y (List.mem_of_mem_drop hy)) hl
    have hnx := line_next hl
    have hbx := blS hxb.1
    have zx := sizeS' hxb.1
    (with_reducible refine is_l ?_); refine l_callv rfl rfl (by kernel_rfl) hln (fun w_ K => ?_)
    have H := H.call K
    rw [zb]
    repeat' (first | (first | (with_reducible refine p_tn ?_) | (with_reducible refine wp_seq ?_) | (with_reducible refine w_reg ?_)) | (first | (with_reducible refine l_nil ?_) | ((with_reducible refine g_on ?_); (first | ((with_reducible refine g_mv ?_); refine l_p txs rfl rfl ?_) | ((with_reducible refine g_as ?_); refine l_p txs rfl rfl ?_) | ((with_reducible refine g_ex ?_); refine l_p txs rfl rfl ?_)))))
    (with_reducible refine is_l ?_); refine l_t txs rfl rfl (fun hh => absurd hh (by omega)) (fun _ => ?_)
    repeat' (first | (first | (with_reducible refine p_tn ?_) | (with_reducible refine wp_seq ?_) | (with_reducible refine w_reg ?_) | (with_reducible (refine is_if ?_; (refine w_iff rfl ?_))) | (with_reducible refine wp_skip ?_)) | (first | (with_reducible refine l_nil ?_) | ((with_reducible refine g_on ?_); ((with_reducible refine g_mv ?_); refine l_p txs rfl rfl ?_))))
    have hcl := rchunkLine_c (strOfNums x) w_ (by omega)
    cases hn : sizeS x with
    | none =>
      rw [hn] at hD
      have hm : sizI (strOfNums x) = -1 := by unfold sizI; rw [hbx, hn]
      rw [hm] at hcl
      have hres := hD
      (with_reducible refine is_l ?_); refine l_callv rfl rfl (by kernel_rfl) hcl (fun w_ K => ?_)
      have H := H.call K
      repeat' (first | (first | (with_reducible refine p_tn ?_) | (with_reducible refine wp_seq ?_) | (with_reducible refine w_reg ?_)) | (first | (with_reducible refine l_nil ?_) | ((with_reducible refine g_on ?_); (first | ((with_reducible refine g_mv ?_); refine l_p txs rfl rfl ?_) | ((with_reducible refine g_as ?_); refine l_p txs rfl rfl ?_)))))
      (with_reducible refine is_l ?_); refine l_t txs rfl rfl (fun _ => ?_) (fun hh => absurd (by decide) hh)
      repeat' (first | (first | (with_reducible refine p_tn ?_) | (with_reducible refine p_tr ?_) | (with_reducible refine p_br ?_) | (with_reducible refine wp_seq ?_) | (with_reducible refine w_reg ?_) | (with_reducible (refine is_if ?_; (refine w_ift rfl ?_))) | (with_reducible refine wp_ret ?_)) | (first | (with_reducible refine l_nil ?_) | ((with_reducible refine g_on ?_); ((with_reducible refine g_as ?_); refine l_p txs rfl rfl ?_))))
      refine end3 rfl rfl rfl rfl ?_
      have ho := un_err hres
      exact ⟨none, 0, by rw [ho]; rfl, by rw [ho]; exact (H.nilRow 5 1).pick [] [0] (by decide) (by decide) rfl rfl⟩
    | some n =>
      rw [hn] at hD
      simp only at hD
      have hm : sizI (strOfNums x) = (n : Int) := by unfold sizI; rw [hbx, hn]
      rw [hm] at hcl
      have hn32 := size_lt hn
      (with_reducible refine is_l ?_); refine l_callv rfl rfl (by kernel_rfl) hcl (fun w_ K => ?_)
      have H := H.call K
      repeat' (first | (first | (with_reducible refine p_tn ?_) | (with_reducible refine wp_seq ?_) | (with_reducible refine w_reg ?_)) | (first | (with_reducible refine l_nil ?_) | ((with_reducible refine g_on ?_); (first | ((with_reducible refine g_mv ?_); refine l_p txs rfl rfl ?_) | ((with_reducible refine g_as ?_); refine l_p txs rfl rfl ?_)))))
      (with_reducible refine is_l ?_); refine l_t txs rfl rfl (fun hh => absurd hh (by omega)) (fun _ => ?_)
      repeat' (first | (first | (with_reducible refine p_tn ?_) | (with_reducible refine wp_seq ?_) | (with_reducible refine w_reg ?_) | (with_reducible (refine is_if ?_; (refine w_iff rfl ?_))) | (with_reducible refine wp_skip ?_)) | (first | (with_reducible refine l_nil ?_) | ((with_reducible refine g_on ?_); (first | ((with_reducible refine g_mv ?_); refine l_p txs rfl rfl ?_) | ((with_reducible refine g_cl ?_); refine l_p txs rfl rfl ?_) | ((with_reducible refine g_bi ?_); (refine l_a txs rfl rfl (by first | exact in_i64 (by omega) (by omega) | exact in_u8 (by omega) (by omega) | exact in_u64 (by omega) (by omega) | exact in_i32 (by omega) (by omega)) ?_))))))
      (with_reducible refine is_l ?_); refine l_t txs rfl rfl (fun h3 => ?_) (fun h3 => ?_)
      · rw [if_pos (by omega)] at hD
        have hres := hD
        repeat' (first | (first | (with_reducible refine p_tn ?_) | (with_reducible refine p_tr ?_) | (with_reducible refine p_br ?_) | (with_reducible refine wp_seq ?_) | (with_reducible refine w_reg ?_) | (with_reducible (refine is_if ?_; (refine w_ift rfl ?_))) | (with_reducible refine wp_ret ?_)) | (first | (with_reducible refine l_nil ?_) | ((with_reducible refine g_on ?_); ((with_reducible refine g_as ?_); refine l_p txs rfl rfl ?_))))
        refine end3 rfl rfl rfl rfl ?_
        have ho := un_err hres
        exact ⟨none, 0, by rw [ho]; rfl, by rw [ho]; exact (H.nilRow 5 1).pick [] [0] (by decide) (by decide) rfl rfl⟩
      rw [if_neg (by omega)] at hD
      repeat' (first | (first | (with_reducible refine p_tn ?_) | (with_reducible refine wp_seq ?_) | (with_reducible refine w_reg ?_) | (with_reducible (refine is_if ?_; (refine w_iff rfl ?_))) | (with_reducible refine wp_skip ?_)) | (first | (with_reducible refine l_nil ?_) | ((with_reducible refine g_on ?_); (first | ((with_reducible refine g_mv ?_); refine l_p txs rfl rfl ?_) | ((with_reducible refine g_cl ?_); refine l_p txs rfl rfl ?_) | ((with_reducible refine g_bi ?_); (refine l_a txs rfl rfl (by first | exact in_i64 (by omega) (by omega) | exact in_u8 (by omega) (by omega) | exact in_u64 (by omega) (by omega) | exact in_i32 (by omega) (by omega)) ?_))))))
      (with_reducible refine is_l ?_); refine l_t txs rfl rfl (fun h4 => ?_) (fun h4 => ?_)
      · rw [if_pos (by omega)] at hD
        have hres := hD
        repeat' (first | (first | (with_reducible refine p_tn ?_) | (with_reducible refine p_tr ?_) | (with_reducible refine p_br ?_) | (with_reducible refine wp_seq ?_) | (with_reducible refine w_reg ?_) | (with_reducible (refine is_if ?_; (refine w_ift rfl ?_))) | (with_reducible refine wp_ret ?_)) | (first | (with_reducible refine l_nil ?_) | ((with_reducible refine g_on ?_); ((with_reducible refine g_as ?_); refine l_p txs rfl rfl ?_))))
        refine end3 rfl rfl rfl rfl ?_
        have ho := un_err hres
        exact ⟨none, 0, by rw [ho]; rfl, by rw [ho]; exact (H.nilRow 5 1).pick [] [0] (by decide) (by decide) rfl rfl⟩
      rw [if_neg (by omega)] at hD
      have hnr : n ≤ r.length := by omega
      repeat' (first | (first | (with_reducible refine p_tn ?_) | (with_reducible refine wp_seq ?_) | (with_reducible refine w_reg ?_) | (with_reducible (refine is_if ?_; (refine w_iff rfl ?_))) | (with_reducible refine wp_skip ?_)) | (first | (with_reducible refine l_nil ?_) | ((with_reducible refine g_on ?_); (first | ((with_reducible refine g_mv ?_); refine l_p txs rfl rfl ?_) | ((with_reducible refine g_sl ?_); refine l_sl txs rfl rfl (by first | omega | assumption | decide) (by first | omega | assumption | decide) (by first | omega | assumption | decide) ?_) | ((with_reducible refine g_bi ?_); (refine l_a txs rfl rfl (by first | exact in_i64 (by omega) (by omega) | exact in_u8 (by omega) (by omega) | exact in_u64 (by omega) (by omega) | exact in_i32 (by omega) (by omega)) ?_))))))
      have hkn : ((b.length - r.length : Nat) : Int) + (n : Int) = ((b.length - r.length + n : Nat) : Int) := by omega
      rw [hkn]
      have hext : bl ((strOfNums b).extract (((b.length - r.length : Nat) : Int)).toNat (((b.length - r.length + n : Nat) : Int)).toNat) = r.take n := by rw [Int.toNat_natCast, Int.toNat_natCast, blE, hbs, ← hnx.1, show b.length - r.length + n - (b.length - r.length) = n by omega]
      have hes : ((strOfNums b).extract (((b.length - r.length : Nat) : Int)).toNat (((b.length - r.length + n : Nat) : Int)).toNat).size = n := by rw [← bl_length, hext, List.length_take]; omega
      have htk : (r.take n).length = n := by rw [List.length_take]; omega
      have hacl : (acc ++ r.take n).length = acc.length + n := by rw [List.length_append, htk]
      (with_reducible refine is_l ?_); refine h_appS H 0 info_u8 Tryz.underlying23 Tryz.underlying9 rfl rfl rfl (by rw [hes]; omega) (fun v w_ hv H => ?_)
      obtain ⟨D, dd, rfl⟩ := hv
      have H := H.pick [] [0] (by decide) (by decide) rfl rfl
      rw [hext] at H ⊢
      repeat' (first | (first | (with_reducible refine p_tn ?_) | (with_reducible refine wp_seq ?_) | (with_reducible refine w_reg ?_)) | (first | (with_reducible refine l_nil ?_) | ((with_reducible refine g_on ?_); (first | ((with_reducible refine g_mv ?_); refine l_p txs rfl rfl ?_) | ((with_reducible refine g_as ?_); refine l_p txs rfl rfl ?_) | ((with_reducible refine g_bi ?_); (refine l_a txs rfl rfl (by first | exact in_i64 (by omega) (by omega) | exact in_u8 (by omega) (by omega) | exact in_u64 (by omega) (by omega) | exact in_i32 (by omega) (by omega)) ?_))))))
      rw [hkn]
      have hen := rend_c (strOfNums b) (b.length - r.length + n) w_ (by omega) (by omega)
      have hdn : b.drop (b.length - r.length + n) = r.drop n := by rw [← List.drop_drop, ← hnx.1]
      cases he : endS (r.drop n) with
      | error e =>
        rw [he] at hD
        simp only at hD
        have hres := hD
        have hmI : endI (strOfNums b) (b.length - r.length + n) = if e = 140 then -2 else -1 := by unfold endI; rw [hbs, hdn, he]
        rcases endS_err he with e1 | e1
        · rw [hmI, if_pos e1] at hen
          subst e1
          (with_reducible refine is_l ?_); refine l_callv rfl rfl (by kernel_rfl) hen (fun w_ K => ?_)
          have H := H.call K
          repeat' (first | (first | (with_reducible refine p_tn ?_) | (with_reducible refine wp_seq ?_) | (with_reducible refine w_reg ?_)) | (first | (with_reducible refine l_nil ?_) | ((with_reducible refine g_on ?_); (first | ((with_reducible refine g_mv ?_); refine l_p txs rfl rfl ?_) | ((with_reducible refine g_as ?_); refine l_p txs rfl rfl ?_)))))
          (with_reducible refine is_l ?_); refine l_t txs rfl rfl (fun _ => ?_) (fun hh => absurd rfl hh)
          repeat' (first | (first | (with_reducible refine p_tn ?_) | (with_reducible refine p_tr ?_) | (with_reducible refine p_br ?_) | (with_reducible refine wp_seq ?_) | (with_reducible refine w_reg ?_) | (with_reducible (refine is_if ?_; (refine w_ift rfl ?_))) | (with_reducible refine wp_ret ?_)) | (first | (with_reducible refine l_nil ?_) | ((with_reducible refine g_on ?_); ((with_reducible refine g_as ?_); refine l_p txs rfl rfl ?_))))
          refine end3 rfl rfl rfl rfl ?_
          have ho := un_err hres
          exact ⟨none, 0, by rw [ho]; rfl, by rw [ho]; exact (H.nilRow 5 1).pick [] [0] (by decide) (by decide) rfl rfl⟩
        · rw [hmI, if_neg (by omega)] at hen
          subst e1
          (with_reducible refine is_l ?_); refine l_callv rfl rfl (by kernel_rfl) hen (fun w_ K => ?_)
          have H := H.call K
          repeat' (first | (first | (with_reducible refine p_tn ?_) | (with_reducible refine wp_seq ?_) | (with_reducible refine w_reg ?_)) | (first | (with_reducible refine l_nil ?_) | ((with_reducible refine g_on ?_); (first | ((with_reducible refine g_mv ?_); refine l_p txs rfl rfl ?_) | ((with_reducible refine g_as ?_); refine l_p txs rfl rfl ?_)))))
          (with_reducible refine is_l ?_); refine l_t txs rfl rfl (fun hh => absurd hh (by decide)) (fun _ => ?_)
          repeat' (first | (first | (with_reducible refine p_tn ?_) | (with_reducible refine wp_seq ?_) | (with_reducible refine w_reg ?_) | (with_reducible (refine is_if ?_; (refine w_iff rfl ?_))) | (with_reducible refine wp_skip ?_)) | (first | (with_reducible refine l_nil ?_) | ((with_reducible refine g_on ?_); ((with_reducible refine g_mv ?_); refine l_p txs rfl rfl ?_))))
          (with_reducible refine is_l ?_); refine l_t txs rfl rfl (fun _ => ?_) (fun hh => absurd (by decide) hh)
          repeat' (first | (first | (with_reducible refine p_tn ?_) | (with_reducible refine p_tr ?_) | (with_reducible refine p_br ?_) | (with_reducible refine wp_seq ?_) | (with_reducible refine w_reg ?_) | (with_reducible (refine is_if ?_; (refine w_ift rfl ?_))) | (with_reducible refine wp_ret ?_)) | (first | (with_reducible refine l_nil ?_) | ((with_reducible refine g_on ?_); ((with_reducible refine g_as ?_); refine l_p txs rfl rfl ?_))))
          refine end3 rfl rfl rfl rfl ?_
          have ho := un_err hres
          exact ⟨none, 0, by rw [ho]; rfl, by rw [ho]; exact (H.nilRow 5 1).pick [] [0] (by decide) (by decide) rfl rfl⟩
      | ok r2 =>
        rw [he] at hD
        simp only at hD
        have hmI : endI (strOfNums b) (b.length - r.length + n) = ((b.length - r2.length : Nat) : Int) := by unfold endI; rw [hbs, hdn, he, zb]
        rw [hmI] at hen
        obtain ⟨hr2, p, hp⟩ := (endS_app [] he).2
        rw [List.length_drop] at hr2
        have hsuf : b.drop (b.length - r2.length) = r2 := by
          have h1 : b.drop (b.length - r.length + n) = p ++ r2 := by rw [hdn, hp]
          have h2 := congrArg List.length h1
          rw [List.length_drop, List.length_append] at h2
          rw [show b.length - r2.length = (b.length - r.length + n) + p.length by omega, ← List.drop_drop, h1, List.drop_left]
        (with_reducible refine is_l ?_); refine l_callv rfl rfl (by kernel_rfl) hen (fun w_ K => ?_)
        have H := H.call K
        repeat' (first | (first | (with_reducible refine p_tn ?_) | (with_reducible refine wp_seq ?_) | (with_reducible refine w_reg ?_)) | (first | (with_reducible refine l_nil ?_) | ((with_reducible refine g_on ?_); (first | ((with_reducible refine g_mv ?_); refine l_p txs rfl rfl ?_) | ((with_reducible refine g_as ?_); refine l_p txs rfl rfl ?_)))))
        (with_reducible refine is_l ?_); refine l_t txs rfl rfl (fun hh => absurd hh (by omega)) (fun _ => ?_)
        repeat' (first | (first | (with_reducible refine p_tn ?_) | (with_reducible refine wp_seq ?_) | (with_reducible refine w_reg ?_) | (with_reducible (refine is_if ?_; (refine w_iff rfl ?_))) | (with_reducible refine wp_skip ?_)) | (first | (with_reducible refine l_nil ?_) | ((with_reducible refine g_on ?_); ((with_reducible refine g_mv ?_); refine l_p txs rfl rfl ?_))))
        (with_reducible refine is_l ?_); refine l_t txs rfl rfl (fun hh => absurd hh (by omega)) (fun _ => ?_)
        repeat' (first | (first | (with_reducible refine p_tn ?_) | (with_reducible refine wp_seq ?_) | (with_reducible refine w_reg ?_) | (with_reducible (refine is_if ?_; (refine w_iff rfl ?_))) | (with_reducible refine wp_skip ?_)) | (first | (with_reducible refine l_nil ?_) | ((with_reducible refine g_on ?_); ((with_reducible refine g_mv ?_); refine l_p txs rfl rfl ?_))))
        (with_reducible refine is_l ?_); refine l_t txs rfl rfl (fun h5 => ?_) (fun h5 => ?_)
        · rw [if_pos (by omega)] at hD
          have hn0 : n = 0 := by omega
          have ho := un_ok hD
          have ha0 : acc ++ r.take n = acc := by rw [hn0]; simp
          rw [ha0] at H ⊢
          repeat' (first | (first | (with_reducible refine p_tn ?_) | (with_reducible refine p_tr ?_) | (with_reducible refine p_br ?_) | (with_reducible refine wp_seq ?_) | (with_reducible refine w_reg ?_) | (with_reducible (refine is_if ?_; (refine w_ift rfl ?_))) | (with_reducible refine wp_ret ?_)) | (first | (with_reducible refine l_nil ?_) | ((with_reducible refine g_on ?_); (first | ((with_reducible refine g_mv ?_); refine l_p txs rfl rfl ?_) | ((with_reducible refine g_as ?_); refine l_p txs rfl rfl ?_)))))
          refine end3 rfl rfl rfl rfl ?_
          exact ⟨D, dd, by rw [ho]; rfl, by rw [ho]; exact H⟩
        · rw [if_neg (by omega)] at hD
          repeat' (first | (first | (with_reducible refine p_tn ?_) | (with_reducible refine p_bn ?_) | (with_reducible (refine is_if ?_; (refine w_iff rfl ?_))) | (with_reducible refine wp_skip ?_)) | (with_reducible refine l_nil ?_))
          exact ⟨(b.length - r2.length, acc ++ r.take n, D, dd), _, rfl, ⟨rfl, rfl, rfl, trivial⟩, ⟨H, by show b.length - r2.length ≤ _; omega, by show (acc ++ r.take n).length ≤ _; rw [hacl]; omega, g', by show (b.drop (b.length - r2.length)).length < _; rw [hsuf]; omega, by show _ = unchS g' (acc ++ r.take n) (b.drop (b.length - r2.length)); rw [hsuf]; exact hD⟩, by show b.length - (b.length - r2.length) < b.length - k; omega⟩
end Go.Proofs.YthgojbdpmcccaaaGreatDoor.K.Ref
end
section
namespace Go.Proofs.YthgojbdpmcccaaaGreatDoor.K.Ref
open Go.RowKit Go.Proofs.YthgojbdpmcccaaaGreatDoor.Q Go.Proofs.YthgojbdpmcccaaaGreatDoor.Wb Go.Proofs.YthgojbdpmcccaaaGreatDoorW.PrintWords Go.Proofs.YthgojbdpmcccaaaGreatDoor.K
set_option linter.unusedVariables false
set_option linter.unusedSimpArgs false
def verI (s : L) : Int × Int := match versS s with | some p => p | none => (-1, -1)
theorem verI_none {s : L} (h : versS s = none) : verI s = (-1, -1) := by unfold verI; rw [h]
theorem verI_some {s : L} {p : Int × Int} (h : versS s = some p) : verI s = p := by unfold verI; rw [h]
set_option maxHeartbeats 4000000 in
theorem rversion_c (s : ByteArray) (w : World) : Calls Tryz.prog 126 #[.string s] w fun e w' => e = .returned (.tuple #[.int .i64 (verI (bl s)).1, .int .i64 (verI (bl s)).2]) ∧ Below w.heap.size w w' := by
  have hlen := bl_length s
  refine enter (args := [.string s]) Tryz.func126 rfl Tryz.ntmps126 rfl ?_
  have H := Hp.nil w
  repeat' (first | (first | (with_reducible refine p_tn ?_) | (with_reducible refine wp_seq ?_) | (with_reducible refine w_reg ?_)) | (first | (with_reducible refine l_nil ?_) | ((with_reducible refine g_on ?_); (first | ((with_reducible refine g_mv ?_); refine l_p txs rfl rfl ?_) | ((with_reducible refine g_as ?_); refine l_p txs rfl rfl ?_) | ((with_reducible refine g_cl ?_); refine l_p txs rfl rfl ?_)))))
  (with_reducible refine is_l ?_); refine l_t txs rfl rfl (fun h => ?_) (fun h => ?_)
  · have hn : versS (bl s) = none := by
      unfold versS
      split
      · rename_i x y heq
        rw [heq] at hlen
        simp at hlen
        omega
      · rfl
    repeat' (first | (first | (with_reducible refine p_tn ?_) | (with_reducible refine p_tr ?_) | (with_reducible refine wp_seq ?_) | (with_reducible refine w_reg ?_) | (with_reducible (refine is_if ?_; (refine w_ift rfl ?_))) | (with_reducible refine wp_ret ?_)) | (first | (with_reducible refine l_nil ?_) | ((with_reducible refine g_on ?_); (first | ((with_reducible refine g_mv ?_); refine l_p txs rfl rfl ?_) | ((with_reducible refine g_as ?_); refine l_p txs rfl rfl ?_) | ((with_reducible refine g_pk ?_); refine l_p txs rfl rfl ?_))) | ((with_reducible refine g_if ?_); (refine l_off rfl ?_))))
    refine end2 rfl rfl rfl ?_
    exact ⟨by rw [verI_none hn], H.B⟩
  have h8 : s.size = 8 := by omega
  obtain ⟨a, b, c, d, e, g, i, j, hb⟩ := eight (l := bl s) (by omega)
  have a5 : at_ (bl s) 5 = g := by rw [hb]; rfl
  have a6 : at_ (bl s) 6 = i := by rw [hb]; rfl
  have a7 : at_ (bl s) 7 = j := by rw [hb]; rfl
  have hx : bl (s.extract (0 : Int).toNat (5 : Int).toNat) = [a, b, c, d, e] := by rw [blE, hb]; rfl
  have hy : bl ⟨#[72, 84, 84, 80, 47]⟩ = [72, 84, 84, 80, 47] := rfl
  repeat' (first | ((with_reducible refine g_on ?_); ((with_reducible refine g_mv ?_); refine l_p txs rfl rfl ?_)) | ((with_reducible refine g_if ?_); (first | ((with_reducible refine g_mv ?_); refine l_p txs rfl rfl ?_) | ((with_reducible refine g_sl ?_); refine l_sl txs rfl rfl (by first | omega | assumption | decide) (by first | omega | assumption | decide) (by first | omega | assumption | decide) ?_))))
  (with_reducible refine is_l ?_); refine l_t txs rfl rfl (fun h1 => ?_) (fun h1 => ?_)
  · have hn : versS (bl s) = none := by
      rw [hb]
      exact vers_none (fun hh => h1 (by rw [hx, hy]; exact hh.1))
    repeat' (first | (first | (with_reducible refine p_tn ?_) | (with_reducible refine p_tr ?_) | (with_reducible refine wp_seq ?_) | (with_reducible refine w_reg ?_) | (with_reducible (refine is_if ?_; (refine w_ift rfl ?_))) | (with_reducible refine wp_ret ?_)) | (first | (with_reducible refine l_nil ?_) | ((with_reducible refine g_on ?_); (first | ((with_reducible refine g_mv ?_); refine l_p txs rfl rfl ?_) | ((with_reducible refine g_as ?_); refine l_p txs rfl rfl ?_) | ((with_reducible refine g_pk ?_); refine l_p txs rfl rfl ?_))) | ((with_reducible refine g_if ?_); (refine l_off rfl ?_))))
    refine end2 rfl rfl rfl ?_
    exact ⟨by rw [verI_none hn], H.B⟩
  have h1' : [a, b, c, d, e] = [72, 84, 84, 80, 47] := by
    have := Classical.not_not.1 h1
    rw [hx, hy] at this
    exact this
  repeat' (first | ((with_reducible refine g_on ?_); (first | ((with_reducible refine g_mv ?_); refine l_p txs rfl rfl ?_) | ((with_reducible refine g_pk ?_); refine l_p txs rfl rfl ?_))) | ((with_reducible refine g_if ?_); (first | ((with_reducible refine g_mv ?_); refine l_p txs rfl rfl ?_) | ((with_reducible refine g_ix ?_); refine l_ix txs rfl rfl (by first | omega | assumption | decide) (by first | omega | assumption | decide) ?_))))
  rw [a5]
  (with_reducible refine is_l ?_); refine l_callv rfl rfl (by kernel_rfl) (rdigit_c g _) (fun w_ K => ?_)
  have H := H.call K
  cases hg : digB g
  · have hn : versS (bl s) = none := by
      rw [hb]
      exact vers_none (fun hh => by rw [hg] at hh; exact absurd hh.2.1 (by simp))
    repeat' (first | (first | (with_reducible refine p_tn ?_) | (with_reducible refine p_tr ?_) | (with_reducible refine wp_seq ?_) | (with_reducible refine w_reg ?_) | (with_reducible (refine is_if ?_; (refine w_ift rfl ?_))) | (with_reducible refine wp_ret ?_)) | (first | (with_reducible refine l_nil ?_) | ((with_reducible refine g_on ?_); (first | ((with_reducible refine g_mv ?_); refine l_p txs rfl rfl ?_) | ((with_reducible refine g_as ?_); refine l_p txs rfl rfl ?_) | ((with_reducible refine g_pk ?_); refine l_p txs rfl rfl ?_))) | ((with_reducible refine g_if ?_); (first | (refine l_off rfl ?_) | ((with_reducible refine g_un ?_); (refine l_p txs rfl rfl ?_))))))
    refine end2 rfl rfl rfl ?_
    exact ⟨by rw [verI_none hn], H.B⟩
  repeat' (first | ((with_reducible refine g_on ?_); (first | ((with_reducible refine g_mv ?_); refine l_p txs rfl rfl ?_) | ((with_reducible refine g_pk ?_); refine l_p txs rfl rfl ?_))) | ((with_reducible refine g_if ?_); (first | ((with_reducible refine g_mv ?_); refine l_p txs rfl rfl ?_) | ((with_reducible refine g_un ?_); (refine l_p txs rfl rfl ?_)) | ((with_reducible refine g_ix ?_); refine l_ix txs rfl rfl (by first | omega | assumption | decide) (by first | omega | assumption | decide) ?_))))
  rw [a6]
  (with_reducible refine is_l ?_); refine l_t txs rfl rfl (fun h2 => ?_) (fun h2 => ?_)
  · have hn : versS (bl s) = none := by
      rw [hb]
      exact vers_none (fun hh => h2 hh.2.2.1)
    repeat' (first | (first | (with_reducible refine p_tn ?_) | (with_reducible refine p_tr ?_) | (with_reducible refine wp_seq ?_) | (with_reducible refine w_reg ?_) | (with_reducible (refine is_if ?_; (refine w_ift rfl ?_))) | (with_reducible refine wp_ret ?_)) | (first | (with_reducible refine l_nil ?_) | ((with_reducible refine g_on ?_); (first | ((with_reducible refine g_mv ?_); refine l_p txs rfl rfl ?_) | ((with_reducible refine g_as ?_); refine l_p txs rfl rfl ?_) | ((with_reducible refine g_pk ?_); refine l_p txs rfl rfl ?_))) | ((with_reducible refine g_if ?_); (refine l_off rfl ?_))))
    refine end2 rfl rfl rfl ?_
    exact ⟨by rw [verI_none hn], H.B⟩
  repeat' (first | ((with_reducible refine g_on ?_); (first | ((with_reducible refine g_mv ?_); refine l_p txs rfl rfl ?_) | ((with_reducible refine g_pk ?_); refine l_p txs rfl rfl ?_))) | ((with_reducible refine g_if ?_); (first | ((with_reducible refine g_mv ?_); refine l_p txs rfl rfl ?_) | ((with_reducible refine g_ix ?_); refine l_ix txs rfl rfl (by first | omega | assumption | decide) (by first | omega | assumption | decide) ?_))))
  rw [a7]
  (with_reducible refine is_l ?_); refine l_callv rfl rfl (by kernel_rfl) (rdigit_c j _) (fun w_ K => ?_)
  have H := H.call K
  cases hj : digB j
  · have hn : versS (bl s) = none := by
      rw [hb]
      exact vers_none (fun hh => by rw [hj] at hh; exact absurd hh.2.2.2 (by simp))
    repeat' (first | (first | (with_reducible refine p_tn ?_) | (with_reducible refine p_tr ?_) | (with_reducible refine wp_seq ?_) | (with_reducible refine w_reg ?_) | (with_reducible (refine is_if ?_; (refine w_ift rfl ?_))) | (with_reducible refine wp_ret ?_)) | (first | (with_reducible refine l_nil ?_) | ((with_reducible refine g_on ?_); (first | ((with_reducible refine g_as ?_); refine l_p txs rfl rfl ?_) | ((with_reducible refine g_pk ?_); refine l_p txs rfl rfl ?_))) | ((with_reducible refine g_if ?_); ((with_reducible refine g_un ?_); (refine l_p txs rfl rfl ?_)))))
    refine end2 rfl rfl rfl ?_
    exact ⟨by rw [verI_none hn], H.B⟩
  have hv : versS (bl s) = some (g - 48, j - 48) := by
    have h2' := Classical.not_not.1 h2
    simp only [List.cons.injEq, and_true] at h1'
    obtain ⟨rfl, rfl, rfl, rfl, rfl⟩ := h1'
    rw [hb, h2']
    simp [versS, hg, hj]
  have rg : 48 ≤ at_ (bl s) 5 ∧ at_ (bl s) 5 ≤ 57 := by rw [a5]; unfold digB at hg; simpa using hg
  have rj : 48 ≤ at_ (bl s) 7 ∧ at_ (bl s) 7 ≤ 57 := by rw [a7]; unfold digB at hj; simpa using hj
  repeat' (first | (first | (with_reducible refine p_tn ?_) | (with_reducible refine wp_seq ?_) | (with_reducible (refine is_if ?_; (refine w_iff rfl ?_))) | (with_reducible refine wp_skip ?_)) | (first | (with_reducible refine l_nil ?_) | ((with_reducible refine g_on ?_); ((with_reducible refine g_pk ?_); refine l_p txs rfl rfl ?_)) | ((with_reducible refine g_if ?_); ((with_reducible refine g_un ?_); (refine l_p txs rfl rfl ?_)))))
  have HS := H.pick [] [] (by decide) (by decide) rfl rfl
  refine d_start (fun w_ => Hp w w_ _ _) #[false, false, false, false, false, false, false, false, false, false] (by kernel_rfl) rfl rfl HS.drew ?_
  have H := H.drew
  have HS := HS.drew
  first | (refine d_pure (i := 0) #[true, false, false, false, false, false, false, false, false, false] rfl (by kernel_rfl) (fun _ _ _ h => h) rfl (fun w_ => evP_run (o := ⟨_, _, _, _, _, _⟩) txs rfl) ?_)
  first | (refine d_pure (i := 1) #[true, true, false, false, false, false, false, false, false, false] rfl (by kernel_rfl) (fun _ _ _ h => h) rfl (fun w_ => evI_run (o := ⟨_, _, _, _, _, _⟩) txs rfl (by omega) (by omega)) ?_)
  first | (refine d_pure (i := 2) #[true, true, true, false, false, false, false, false, false, false] rfl (by kernel_rfl) (fun _ _ _ h => h) rfl (fun w_ => evP_run (o := ⟨_, _, _, _, _, _⟩) txs rfl) ?_) | (refine d_pure (i := 2) #[true, true, true, false, false, false, false, false, false, false] rfl (by kernel_rfl) (fun _ _ _ h => h) rfl (fun w_ => (evA_run (o := ⟨_, _, _, _, _, _⟩) txs rfl).trans (by rw [wrap_in (by first | exact in_i64 (by omega) (by omega) | exact in_u8 (by omega) (by omega) | exact in_u64 (by omega) (by omega) | exact in_i32 (by omega) (by omega))])) ?_)
  first | (refine d_pure (i := 3) #[true, true, true, true, false, false, false, false, false, false] rfl (by kernel_rfl) (fun _ _ _ h => h) rfl (fun w_ => evP_run (o := ⟨_, _, _, _, _, _⟩) txs rfl) ?_) | (refine d_pure (i := 3) #[true, true, true, true, false, false, false, false, false, false] rfl (by kernel_rfl) (fun _ _ _ h => h) rfl (fun w_ => (evA_run (o := ⟨_, _, _, _, _, _⟩) txs rfl).trans (by rw [wrap_in (by first | exact in_i64 (by omega) (by omega) | exact in_u8 (by omega) (by omega) | exact in_u64 (by omega) (by omega) | exact in_i32 (by omega) (by omega))])) ?_)
  first | (refine d_pure (i := 4) #[true, true, true, true, true, false, false, false, false, false] rfl (by kernel_rfl) (fun _ _ _ h => h) rfl (fun w_ => evP_run (o := ⟨_, _, _, _, _, _⟩) txs rfl) ?_)
  first | (refine d_pure (i := 5) #[true, true, true, true, true, true, false, false, false, false] rfl (by kernel_rfl) (fun _ _ _ h => h) rfl (fun w_ => evI_run (o := ⟨_, _, _, _, _, _⟩) txs rfl (by omega) (by omega)) ?_)
  first | (refine d_pure (i := 6) #[true, true, true, true, true, true, true, false, false, false] rfl (by kernel_rfl) (fun _ _ _ h => h) rfl (fun w_ => evP_run (o := ⟨_, _, _, _, _, _⟩) txs rfl) ?_) | (refine d_pure (i := 6) #[true, true, true, true, true, true, true, false, false, false] rfl (by kernel_rfl) (fun _ _ _ h => h) rfl (fun w_ => (evA_run (o := ⟨_, _, _, _, _, _⟩) txs rfl).trans (by rw [wrap_in (by first | exact in_i64 (by omega) (by omega) | exact in_u8 (by omega) (by omega) | exact in_u64 (by omega) (by omega) | exact in_i32 (by omega) (by omega))])) ?_)
  first | (refine d_pure (i := 7) #[true, true, true, true, true, true, true, true, false, false] rfl (by kernel_rfl) (fun _ _ _ h => h) rfl (fun w_ => evP_run (o := ⟨_, _, _, _, _, _⟩) txs rfl) ?_) | (refine d_pure (i := 7) #[true, true, true, true, true, true, true, true, false, false] rfl (by kernel_rfl) (fun _ _ _ h => h) rfl (fun w_ => (evA_run (o := ⟨_, _, _, _, _, _⟩) txs rfl).trans (by rw [wrap_in (by first | exact in_i64 (by omega) (by omega) | exact in_u8 (by omega) (by omega) | exact in_u64 (by omega) (by omega) | exact in_i32 (by omega) (by omega))])) ?_)
  first | (refine d_pure (i := 8) #[true, true, true, true, true, true, true, true, true, false] rfl (by kernel_rfl) (fun _ _ _ h => h) rfl (fun w_ => evP_run (o := ⟨_, _, _, _, _, _⟩) txs rfl) ?_)
  first | (refine d_pure (i := 9) #[true, true, true, true, true, true, true, true, true, true] rfl (by kernel_rfl) (fun _ _ _ h => h) rfl (fun w_ => evP_run (o := ⟨_, _, _, _, _, _⟩) txs rfl) ?_)
  refine d_done rfl ?_
  repeat' (first | (with_reducible refine p_tn ?_) | (with_reducible refine wp_ret ?_))
  refine end2 rfl rfl rfl ?_
  exact ⟨by rw [verI_some hv, a5, a7], H.B⟩
/-- A text's bytes, in a block of their own: what it is for readers. -/
theorem h_tob {n : Nat} {ops : Array Oper} {Q : Exit → Act → World → Prop} {rest : List Oper} {f : Fr} {w0 w : World} {l : List Ent} {r : List RowD} (H : Hp w0 w l r) {d : Option Nat} {tt : TypeId} {ps : String} {af : Array Edge} {gd : Option (Nat × Bool)} {x : Operand} {s : ByteArray}
    (hw : want n ops f ⟨d, .convert 9 23 x, tt, ps, af, gd⟩ = true) (hx : nf (X n f x) = some (.string s)) (hs : s.size ≤ 1000000000)
    (h : ∀ g c w', Hp w0 w' l r → ReadsInt w' .u8 (some ⟨g, 0, none⟩) (bl s).length (bl s) → (bl s).length ≤ c → w0.heap.size ≤ g → WL Tryz.prog ops Q rest (act n (put f d (.slice (some ⟨g, 0, none⟩) (bl s).length c))) w') : WL Tryz.prog ops Q (⟨d, .convert 9 23 x, tt, ps, af, gd⟩ :: rest) (act n f) w := by
  have hlen := bl_length s
  have hge := grownCap_ge w s.size 0 5
  refine l_cvb Tryz.underlying9 Tryz.underlying23 Tryz.underlying5 hw hx ?_
  have K : Below w.heap.size w (Lib.bytesWorld w 5 s) := bytes_below (Below.refl _ w) (Nat.le_refl _) _ s
  have hr : ReadsInt (Lib.bytesWorld w 5 s) .u8 (some ⟨w.heap.size, 0, none⟩) (bl s).length (bl s) := by
    refine reads_of_rd ⟨fun e => (by cases e), fun ad e i v hv => ?_⟩ (by omega)
    cases e
    have hi : i < s.size := by have := (List.getElem?_eq_some_iff.1 hv).1; simp [nums] at this; omega
    rw [add_lit, Nat.zero_add, Lib.bytesWorld_cell w 5 s i hi, ← hv]
    have h2 : i < s.data.toList.length := by simpa using hi
    simp [nums, bl, List.getD_eq_getElem?_getD, List.getElem?_eq_getElem h2]
  have h3 := h _ _ _ (H.call K) hr (show _ ≤ grownCap w s.size 0 5 by omega) H.B.size
  rw [hlen] at h3
  exact h3
def frI : Wb.Frame → Int
  | .none => 0
  | .chunks => -2
  | .len n => (n : Int)
/-- What body ends in. -/
def BoR (w : World) (rest : L) (fr : Wb.Frame) (e : Ending) (w' : World) : Prop := match bodyS rest fr with
  | .error k => ∃ (A : Option Addr) (m c : Nat) (n : Int), e = .returned (.tuple #[.slice A m c, .int .i64 n, .int .i64 (k : Int)]) ∧ Below w.heap.size w w'
  | .ok (b, k) => ∃ A c, e = .returned (.tuple #[.slice A b.length c, .int .i64 (k : Int), .int .i64 0]) ∧ Below w.heap.size w w' ∧ ReadsInt w' .u8 A b.length b ∧ ∀ ad, A = some ad → w.heap.size ≤ ad.block
theorem bo_err {w w' : World} {rest : L} {fr : Wb.Frame} {k : Nat} (h : bodyS rest fr = .error k) (A : Option Addr) (m c : Nat) (n : Int) (K : Below w.heap.size w w') : BoR w rest fr (.returned (.tuple #[.slice A m c, .int .i64 n, .int .i64 (k : Int)])) w' := by unfold BoR; rw [h]; exact ⟨A, m, c, n, rfl, K⟩
theorem bo_ok {w w' : World} {rest b : L} {fr : Wb.Frame} {k : Nat} (h : bodyS rest fr = .ok (b, k)) {A : Option Addr} {c : Nat} (K : Below w.heap.size w w') (hR : ReadsInt w' .u8 A b.length b) (hA : ∀ ad, A = some ad → w.heap.size ≤ ad.block) : BoR w rest fr (.returned (.tuple #[.slice A b.length c, .int .i64 (k : Int), .int .i64 0])) w' := by unfold BoR; rw [h]; exact ⟨A, c, rfl, K, hR, hA⟩
set_option maxHeartbeats 8000000 in
theorem rbody_c (s : ByteArray) (w : World) (hs : s.size ≤ 100000000) (fr : Wb.Frame) (hfr : frI fr ≤ 9000000000000000000) : Calls Tryz.prog 129 #[.string s, .int .i64 (frI fr)] w (BoR w (bl s) fr) := by
  have hlen := bl_length s
  refine enter (args := [.string s, .int .i64 (frI fr)]) Tryz.func129 rfl Tryz.ntmps129 rfl ?_
  have H := Hp.nil w
  by_cases hch : fr = .chunks
  · subst hch
    have hI : frI .chunks = -2 := rfl
    rw [hI]
    repeat' (first | (first | (with_reducible refine p_tn ?_) | (with_reducible refine wp_seq ?_) | (with_reducible refine w_reg ?_)) | (first | (with_reducible refine l_nil ?_) | ((with_reducible refine g_on ?_); (first | ((with_reducible refine g_mv ?_); refine l_p txs rfl rfl ?_) | ((with_reducible refine g_as ?_); refine l_p txs rfl rfl ?_)))))
    (with_reducible refine is_l ?_); refine l_t txs rfl rfl (fun _ => ?_) (fun hh => absurd rfl hh)
    repeat' (first | (first | (with_reducible refine p_tn ?_) | (with_reducible refine wp_seq ?_) | (with_reducible refine w_reg ?_) | (with_reducible (refine is_if ?_; (refine w_ift rfl ?_)))) | (first | (with_reducible refine l_nil ?_) | ((with_reducible refine g_on ?_); ((with_reducible refine g_mv ?_); refine l_p txs rfl rfl ?_))))
    (with_reducible refine is_l ?_); refine h_tob H rfl rfl (by omega) (fun g c w_ H hR hc hg => ?_)
    skip
    (with_reducible refine is_l ?_); refine l_call rfl rfl (by kernel_rfl) (rUnchunk_c hR (bl_bytes s) (by omega)) (fun e w_ hR => ?_)
    obtain ⟨A1, c1, rfl, K⟩ := hR
    refine ⟨_, rfl, ?_⟩
    have H := H.join K
    have hrd := (rowB_rd H 0 rfl).1
    repeat' (first | (first | (with_reducible refine p_tn ?_) | (with_reducible refine wp_seq ?_) | (with_reducible refine w_reg ?_)) | (first | (with_reducible refine l_nil ?_) | ((with_reducible refine g_on ?_); (first | ((with_reducible refine g_mv ?_); refine l_p txs rfl rfl ?_) | ((with_reducible refine g_as ?_); refine l_p txs rfl rfl ?_) | ((with_reducible refine g_ex ?_); refine l_p txs rfl rfl ?_)))))
    cases hu : unchunkS (bl s) with
    | error k =>
      have ho : outUn (bl s) = ([], 0, k) := by unfold outUn; rw [hu]
      rw [ho]
      rcases un_errs hu with rfl | rfl | rfl
      · have hbo : bodyS (bl s) .chunks = .error 145 := by simp only [bodyS, hu]; rfl
        (with_reducible refine is_l ?_); refine l_t txs rfl rfl (fun _ => ?_) (fun hh => absurd rfl hh)
        repeat' (first | (first | (with_reducible refine p_tn ?_) | (with_reducible refine p_tr ?_) | (with_reducible refine wp_seq ?_) | (with_reducible refine w_reg ?_) | (with_reducible (refine is_if ?_; (refine w_ift rfl ?_))) | (with_reducible refine wp_ret ?_)) | (first | (with_reducible refine l_nil ?_) | ((with_reducible refine g_on ?_); (first | ((with_reducible refine g_mv ?_); refine l_p txs rfl rfl ?_) | ((with_reducible refine g_as ?_); refine l_p txs rfl rfl ?_)))))
        refine end3 rfl rfl rfl rfl ?_
        exact bo_err hbo _ _ _ _ H.B
      · have hbo : bodyS (bl s) .chunks = .error 140 := by simp only [bodyS, hu]; rfl
        (with_reducible refine is_l ?_); refine l_t txs rfl rfl (fun hh => absurd hh (by decide)) (fun _ => ?_)
        repeat' (first | (first | (with_reducible refine p_tn ?_) | (with_reducible refine p_tr ?_) | (with_reducible refine wp_seq ?_) | (with_reducible refine w_reg ?_) | (with_reducible (refine is_if ?_; (refine w_iff rfl ?_))) | (with_reducible refine wp_skip ?_) | (with_reducible refine wp_ret ?_)) | (first | (with_reducible refine l_nil ?_) | ((with_reducible refine g_on ?_); (first | ((with_reducible refine g_mv ?_); refine l_p txs rfl rfl ?_) | ((with_reducible refine g_as ?_); refine l_p txs rfl rfl ?_)))))
        refine end3 rfl rfl rfl rfl ?_
        exact bo_err hbo _ _ _ _ H.B
      · have hbo : bodyS (bl s) .chunks = .error 146 := by simp only [bodyS, hu]; rfl
        (with_reducible refine is_l ?_); refine l_t txs rfl rfl (fun hh => absurd hh (by decide)) (fun _ => ?_)
        repeat' (first | (first | (with_reducible refine p_tn ?_) | (with_reducible refine p_tr ?_) | (with_reducible refine wp_seq ?_) | (with_reducible refine w_reg ?_) | (with_reducible (refine is_if ?_; (refine w_iff rfl ?_))) | (with_reducible refine wp_skip ?_) | (with_reducible refine wp_ret ?_)) | (first | (with_reducible refine l_nil ?_) | ((with_reducible refine g_on ?_); (first | ((with_reducible refine g_mv ?_); refine l_p txs rfl rfl ?_) | ((with_reducible refine g_as ?_); refine l_p txs rfl rfl ?_)))))
        refine end3 rfl rfl rfl rfl ?_
        exact bo_err hbo _ _ _ _ H.B
    | ok z =>
      obtain ⟨b, n⟩ := z
      have ho : outUn (bl s) = (b, n, 0) := by unfold outUn; rw [hu]
      have hbo : bodyS (bl s) .chunks = .ok (b, n) := by simp only [bodyS, hu]
      rw [ho] at hrd ⊢
      (with_reducible refine is_l ?_); refine l_t txs rfl rfl (fun hh => absurd hh (show ¬ ((0 : Nat) : Int) = 2 by decide)) (fun _ => ?_)
      repeat' (first | (first | (with_reducible refine p_tn ?_) | (with_reducible refine p_tr ?_) | (with_reducible refine wp_seq ?_) | (with_reducible refine w_reg ?_) | (with_reducible (refine is_if ?_; (refine w_iff rfl ?_))) | (with_reducible refine wp_skip ?_) | (with_reducible refine wp_ret ?_)) | (first | (with_reducible refine l_nil ?_) | ((with_reducible refine g_on ?_); (first | ((with_reducible refine g_mv ?_); refine l_p txs rfl rfl ?_) | ((with_reducible refine g_as ?_); refine l_p txs rfl rfl ?_)))))
      refine end3 rfl rfl rfl rfl ?_
      exact bo_ok hbo H.B hrd (fun ad e => by subst e; exact own_base (H.row 0 _ rfl) _ rfl)
  · obtain ⟨n, hn, hb1⟩ : ∃ n : Nat, frI fr = (n : Int) ∧ bodyS (bl s) fr = if (bl s).length < n then .error 140 else .ok ((bl s).take n, n) := by
      cases fr with
      | none => exact ⟨0, rfl, by simp [bodyS]⟩
      | chunks => exact absurd rfl hch
      | len n => exact ⟨n, rfl, rfl⟩
    rw [hn] at hfr ⊢
    repeat' (first | (first | (with_reducible refine p_tn ?_) | (with_reducible refine wp_seq ?_) | (with_reducible refine w_reg ?_)) | (first | (with_reducible refine l_nil ?_) | ((with_reducible refine g_on ?_); (first | ((with_reducible refine g_mv ?_); refine l_p txs rfl rfl ?_) | ((with_reducible refine g_as ?_); refine l_p txs rfl rfl ?_)))))
    (with_reducible refine is_l ?_); refine l_t txs rfl rfl (fun hh => absurd hh (by omega)) (fun _ => ?_)
    repeat' (first | (first | (with_reducible refine p_tn ?_) | (with_reducible refine wp_seq ?_) | (with_reducible refine w_reg ?_) | (with_reducible (refine is_if ?_; (refine w_iff rfl ?_))) | (with_reducible refine wp_skip ?_)) | (first | (with_reducible refine l_nil ?_) | ((with_reducible refine g_on ?_); (first | ((with_reducible refine g_mv ?_); refine l_p txs rfl rfl ?_) | ((with_reducible refine g_cl ?_); refine l_p txs rfl rfl ?_)))))
    (with_reducible refine is_l ?_); refine l_t txs rfl rfl (fun h1 => ?_) (fun h1 => ?_)
    · rw [if_pos (by omega)] at hb1
      repeat' (first | (first | (with_reducible refine p_tn ?_) | (with_reducible refine p_tr ?_) | (with_reducible refine wp_seq ?_) | (with_reducible refine w_reg ?_) | (with_reducible (refine is_if ?_; (refine w_ift rfl ?_))) | (with_reducible refine wp_ret ?_)) | (first | (with_reducible refine l_nil ?_) | ((with_reducible refine g_on ?_); ((with_reducible refine g_as ?_); refine l_p txs rfl rfl ?_))))
      refine end3 rfl rfl rfl rfl ?_
      exact bo_err hb1 _ _ _ _ H.B
    · rw [if_neg (by omega)] at hb1
      repeat' (first | (first | (with_reducible refine p_tn ?_) | (with_reducible refine wp_seq ?_) | (with_reducible refine w_reg ?_) | (with_reducible (refine is_if ?_; (refine w_iff rfl ?_))) | (with_reducible refine wp_skip ?_)) | (first | (with_reducible refine l_nil ?_) | ((with_reducible refine g_on ?_); (first | ((with_reducible refine g_mv ?_); refine l_p txs rfl rfl ?_) | ((with_reducible refine g_sl ?_); refine l_sl txs rfl rfl (by first | omega | assumption | decide) (by first | omega | assumption | decide) (by first | omega | assumption | decide) ?_)))))
      have hx : bl (s.extract (0 : Int).toNat (n : Int).toNat) = (bl s).take n := by rw [blE, Int.toNat_natCast]; simp
      have hxl : (s.extract (0 : Int).toNat (n : Int).toNat).size ≤ s.size := by rw [← bl_length, hx, ← hlen]; simp; omega
      (with_reducible refine is_l ?_); refine h_tob H rfl rfl (by omega) (fun g c w_ H hR hc hg => ?_)
      rw [hx] at hR ⊢
      repeat' (first | (first | (with_reducible refine p_tn ?_) | (with_reducible refine wp_ret ?_)) | (first | (with_reducible refine l_nil ?_) | ((with_reducible refine g_on ?_); (first | ((with_reducible refine g_mv ?_); refine l_p txs rfl rfl ?_) | ((with_reducible refine g_as ?_); refine l_p txs rfl rfl ?_)))))
      refine end3 rfl rfl rfl rfl ?_
      exact bo_ok hb1 H.B hR (fun ad e => by cases e; exact hg)
end Go.Proofs.YthgojbdpmcccaaaGreatDoor.K.Ref
end
section
namespace Go.Proofs.YthgojbdpmcccaaaGreatDoor.K.Ref
open Go.RowKit Go.Proofs.YthgojbdpmcccaaaGreatDoor.Q Go.Proofs.YthgojbdpmcccaaaGreatDoor.Wb Go.Proofs.YthgojbdpmcccaaaGreatDoorW.PrintWords Go.Proofs.YthgojbdpmcccaaaGreatDoor.K
set_option linter.unusedVariables false
set_option linter.unusedSimpArgs false
def wOf (v : L) : List L := (splitC 44 v).map fun w => lowS (trimS w)
theorem closes_eq (l : List Fld) (minor : Int) : closesS l minor = (((vals l nConn).flatMap wOf).contains wClose || (minor != 1 && !((vals l nConn).flatMap wOf).contains wKeep)) := rfl
theorem has_app (a b : List L) (c : L) : (a ++ b).contains c = (a.contains c || b.contains c) := by
  induction a with
  | nil => simp
  | cons x r ih => simp only [List.cons_append, List.contains_cons, ih, Bool.or_assoc]
theorem has_one (a q : L) : ([a] : List L).contains q = decide (a = q) := by
  by_cases h : a = q
  · subst h; simp
  · have h2 : ¬ q = a := fun e => h e.symm
    simp [h, h2]
theorem map_take {α β : Type} (g : α → β) {l : List α} {j : Nat} {y : α} (h : l[j]? = some y) : (l.map g).take (j + 1) = (l.map g).take j ++ [g y] := by
  have hj : j < l.length := (List.getElem?_eq_some_iff.1 h).1
  have e : l[j] = y := (List.getElem?_eq_some_iff.1 h).2
  rw [List.take_succ_eq_append_getElem (by simpa using hj)]
  simp [e]
set_option maxRecDepth 100000 in
set_option maxHeartbeats 8000000 in
theorem rcloses_c {w : World} {B : Option Addr} {c : Nat} {l : List Fld} (h : Rd w B (fldC l)) (hb : BytesF l) (hl : l.length ≤ 100000000) (minor : Int) (hm : minor = 0 ∨ minor = 1) :
    Calls Tryz.prog 130 #[.slice B l.length c, .int .i64 minor] w fun e w' => e = .returned (.bool (closesS l minor)) ∧ Below w.heap.size w w' := by
  refine enter (args := [.slice B l.length c, .int .i64 minor]) Tryz.func130 rfl Tryz.ntmps130 rfl ?_
  have H := Hp.nil w
  repeat' (first | (first | (with_reducible refine p_tn ?_) | (with_reducible refine wp_seq ?_) | (with_reducible refine w_reg ?_)) | (first | (with_reducible refine l_nil ?_) | ((with_reducible refine g_on ?_); (first | ((with_reducible refine g_mv ?_); refine l_p txs rfl rfl ?_) | ((with_reducible refine g_as ?_); refine l_p txs rfl rfl ?_)))))
  (with_reducible refine is_l ?_); refine l_call rfl rfl (by kernel_rfl) (rall_c (h.below H.B) hb hl _) (fun e w_ hR => ?_)
  obtain ⟨A1, c1, rfl, K⟩ := hR
  refine ⟨_, rfl, ?_⟩
  have e0 : bl (⟨#[99, 111, 110, 110, 101, 99, 116, 105, 111, 110]⟩ : ByteArray) = nConn := rfl
  rw [e0] at K ⊢
  have H := H.join K
  have hmem : ∀ v ∈ vals l nConn, Bytes v ∧ v.length ≤ 100000000 := fun v hv => by
    obtain ⟨f, hf, hv⟩ := List.mem_filterMap.1 hv
    have := hb f hf
    split at hv
    · injection hv with hv; subst hv; exact ⟨this.2.1, this.2.2.2⟩
    · cases hv
  have hvl := vals_le l nConn
  have hce := closes_eq l minor
  generalize vals l nConn = vs at hmem hvl hce H ⊢
  repeat' (first | (first | (with_reducible refine p_tn ?_) | (with_reducible refine wp_seq ?_) | (with_reducible refine wp_block ?_) | (with_reducible refine w_reg ?_)) | (first | (with_reducible refine l_nil ?_) | ((with_reducible refine g_on ?_); ((with_reducible refine g_as ?_); refine l_p txs rfl rfl ?_))))
  refine w_loop (σ := Nat × Bool × Bool) (S := fun t => [(1, .int .i64 minor), (5, .bool t.2.1), (6, .bool t.2.2), (7, .slice A1 vs.length c1), (8, .int .i64 (t.1 : Int))])
    (J := fun t w' => Hp w w' [] [rowT (.slice A1 vs.length c1) vs] ∧ t.1 ≤ vs.length ∧ t.2.1 = ((vs.take t.1).flatMap wOf).contains wClose ∧ t.2.2 = ((vs.take t.1).flatMap wOf).contains wKeep) (μ := fun t => vs.length - t.1) (0, false, false) ⟨rfl, rfl, rfl, rfl, rfl, trivial⟩ ⟨H.pick [] [0] (by decide) (by decide) rfl rfl, Nat.zero_le _, rfl, rfl⟩ ?_
  rintro ⟨i, sh, kp⟩ f w_ ⟨H, hi, hsh, hkp⟩
  simp only at H hi hsh hkp ⊢
  repeat' (first | (first | (with_reducible refine wp_seq ?_) | (with_reducible refine w_reg ?_)) | ((with_reducible refine g_on ?_); (first | ((with_reducible refine g_mv ?_); refine l_p txs rfl rfl ?_) | ((with_reducible refine g_cl ?_); refine l_p txs rfl rfl ?_))))
  (with_reducible refine is_l ?_); refine l_t txs rfl rfl (fun hlt => ?_) (fun hge => ?_)
  · obtain ⟨x, hx⟩ : ∃ x, vs[i]? = some x := ⟨_, List.getElem?_eq_getElem (by omega)⟩
    obtain ⟨hbx, hlx⟩ := hmem x (List.mem_of_getElem? hx)
    have zx := sizeS' hbx
    have hrT := rowT_at H 0 rfl
    obtain ⟨a1, ha1⟩ := rdT_some hrT hx
    subst ha1
    have hcell := rdT_cell hrT hx
    have htk : (vs.take (i + 1)).flatMap wOf = (vs.take i).flatMap wOf ++ wOf x := by rw [List.take_succ_eq_append_getElem (by omega), (List.getElem?_eq_some_iff.1 hx).2]; simp
    generalize (vs.take i).flatMap wOf = W at hsh hkp htk
    repeat' (first | (first | (with_reducible refine p_tn ?_) | (with_reducible refine wp_seq ?_) | (with_reducible refine wp_block ?_) | (with_reducible refine w_reg ?_) | (with_reducible (refine is_if ?_; (refine w_ift rfl ?_))) | (with_reducible refine wp_skip ?_)) | (first | (with_reducible refine l_nil ?_) | ((with_reducible refine g_on ?_); (first | ((with_reducible refine g_mv ?_); refine l_p txs rfl rfl ?_) | ((with_reducible refine g_ia ?_); refine l_ia txs rfl rfl (by first | omega | assumption | decide) (by first | omega | assumption | decide) ?_)))))
    (with_reducible refine is_l ?_); refine l_ld txs rfl rfl (by rw [Int.toNat_natCast]; exact hcell) ?_
    skip
    (with_reducible refine is_l ?_); refine l_call rfl rfl (by kernel_rfl) (pieces_c (strOfNums x) 44 _ (by omega)) (fun e w_ hR => ?_)
    obtain ⟨A2, c2, rfl, K⟩ := hR
    refine ⟨_, rfl, ?_⟩
    rw [blS hbx] at K ⊢
    have H := H.join K
    have hps : wOf x = (splitC 44 x).map fun w => lowS (trimS w) := rfl
    have hpm := split_mem 44 x
    have hpl := split_len 44 x
    generalize splitC 44 x = ps at hps hpm hpl H ⊢
    repeat' (first | (first | (with_reducible refine p_tn ?_) | (with_reducible refine wp_seq ?_) | (with_reducible refine wp_block ?_) | (with_reducible refine w_reg ?_)) | (first | (with_reducible refine l_nil ?_) | ((with_reducible refine g_on ?_); ((with_reducible refine g_as ?_); refine l_p txs rfl rfl ?_))))
    refine w_loop (σ := Nat × Bool × Bool) (S := fun t => [(1, .int .i64 minor), (5, .bool t.2.1), (6, .bool t.2.2), (7, .slice (some a1) vs.length c1), (8, .int .i64 (i : Int)), (9, .slice A2 ps.length c2), (10, .int .i64 (t.1 : Int))])
      (J := fun t w' => Hp w w' [] [rowT (.slice A2 ps.length c2) ps, rowT (.slice (some a1) vs.length c1) vs] ∧ t.1 ≤ ps.length ∧ t.2.1 = (W ++ (wOf x).take t.1).contains wClose ∧ t.2.2 = (W ++ (wOf x).take t.1).contains wKeep) (μ := fun t => ps.length - t.1) (0, sh, kp) ⟨rfl, rfl, rfl, rfl, rfl, rfl, rfl, trivial⟩ ⟨H.pick [] [0, 1] (by decide) (by decide) rfl rfl, Nat.zero_le _, by simpa using hsh, by simpa using hkp⟩ ?_
    clear hsh hkp sh kp
    rintro ⟨j, sh, kp⟩ f w_ ⟨H, hj, hsh, hkp⟩
    simp only at H hj hsh hkp ⊢
    repeat' (first | (first | (with_reducible refine wp_seq ?_) | (with_reducible refine w_reg ?_)) | ((with_reducible refine g_on ?_); (first | ((with_reducible refine g_mv ?_); refine l_p txs rfl rfl ?_) | ((with_reducible refine g_cl ?_); refine l_p txs rfl rfl ?_))))
    (with_reducible refine is_l ?_); refine l_t txs rfl rfl (fun hlt2 => ?_) (fun hge2 => ?_)
    · obtain ⟨y, hy⟩ : ∃ y, ps[j]? = some y := ⟨_, List.getElem?_eq_getElem (by omega)⟩
      obtain ⟨hy1, hy2⟩ := hpm y (List.mem_of_getElem? hy)
      have hby : Bytes y := fun z hz => hbx z (hy1 z hz)
      have zy := sizeS' hby
      have hbt := bytes_trim hby
      have zt := sizeS' hbt
      have htl := trim_len y
      have hrT := rowT_at H 0 rfl
      obtain ⟨a2, ha2⟩ := rdT_some hrT hy
      subst ha2
      have hcell := rdT_cell hrT hy
      have hst : ∀ q : L, (W ++ (wOf x).take (j + 1)).contains q = ((W ++ (wOf x).take j).contains q || decide (lowS (trimS y) = q)) := fun q => by
        rw [hps, map_take _ hy, ← List.append_assoc, has_app, has_one]
      repeat' (first | (first | (with_reducible refine p_tn ?_) | (with_reducible refine wp_seq ?_) | (with_reducible refine wp_block ?_) | (with_reducible refine w_reg ?_) | (with_reducible (refine is_if ?_; (refine w_ift rfl ?_))) | (with_reducible refine wp_skip ?_)) | (first | (with_reducible refine l_nil ?_) | ((with_reducible refine g_on ?_); (first | ((with_reducible refine g_mv ?_); refine l_p txs rfl rfl ?_) | ((with_reducible refine g_ia ?_); refine l_ia txs rfl rfl (by first | omega | assumption | decide) (by first | omega | assumption | decide) ?_)))))
      (with_reducible refine is_l ?_); refine l_ld txs rfl rfl (by rw [Int.toNat_natCast]; exact hcell) ?_
      skip
      have htr := rtrim_c (strOfNums y) w_ (by omega)
      rw [blS hby] at htr
      (with_reducible refine is_l ?_); refine l_callv rfl rfl (by kernel_rfl) htr (fun w_ K => ?_)
      have H := H.call K
      skip
      have hlo := rsmall_c (strOfNums (trimS y)) w_ (by omega)
      rw [blS hbt] at hlo
      (with_reducible refine is_l ?_); refine l_callv rfl rfl (by kernel_rfl) hlo (fun w_ K => ?_)
      have H := H.call K
      have e1 := blS (bytes_low hbt)
      have e2 : bl (⟨#[99, 108, 111, 115, 101]⟩ : ByteArray) = wClose := rfl
      have e3 : bl (⟨#[107, 101, 101, 112, 45, 97, 108, 105, 118, 101]⟩ : ByteArray) = wKeep := rfl
      cases sh
      · repeat' (first | (first | (with_reducible refine p_tn ?_) | (with_reducible refine wp_seq ?_) | (with_reducible refine w_reg ?_)) | (first | (with_reducible refine l_nil ?_) | ((with_reducible refine g_on ?_); (first | ((with_reducible refine g_mv ?_); refine l_p txs rfl rfl ?_) | ((with_reducible refine g_as ?_); refine l_p txs rfl rfl ?_))) | ((with_reducible refine g_if ?_); ((with_reducible refine g_mv ?_); refine l_p txs rfl rfl ?_))))
        (with_reducible refine is_l ?_); refine l_t txs rfl rfl (fun hclo => ?_) (fun hclo => ?_)
        · rw [e1, e2] at hclo
          cases kp
          · repeat' (first | (first | (with_reducible refine p_tn ?_) | (with_reducible refine w_reg ?_)) | (first | (with_reducible refine l_nil ?_) | ((with_reducible refine g_on ?_); (first | ((with_reducible refine g_mv ?_); refine l_p txs rfl rfl ?_) | ((with_reducible refine g_as ?_); refine l_p txs rfl rfl ?_) | ((with_reducible refine g_pk ?_); refine l_p txs rfl rfl ?_))) | ((with_reducible refine g_if ?_); ((with_reducible refine g_mv ?_); refine l_p txs rfl rfl ?_))))
            (with_reducible refine is_l ?_); refine l_t txs rfl rfl (fun h2 => ?_) (fun h2 => ?_)
            · rw [e1, e3] at h2
              repeat' (first | (first | (with_reducible refine p_tn ?_) | (with_reducible refine p_bn ?_) | (with_reducible refine w_reg ?_)) | (first | (with_reducible refine l_nil ?_) | ((with_reducible refine g_on ?_); (first | ((with_reducible refine g_mv ?_); refine l_p txs rfl rfl ?_) | ((with_reducible refine g_as ?_); refine l_p txs rfl rfl ?_) | ((with_reducible refine g_pk ?_); refine l_p txs rfl rfl ?_) | ((with_reducible refine g_bi ?_); (refine l_a txs rfl rfl (by first | exact in_i64 (by omega) (by omega) | exact in_u8 (by omega) (by omega) | exact in_u64 (by omega) (by omega) | exact in_i32 (by omega) (by omega)) ?_))))))
              exact ⟨(j + 1, true, true), _, rfl, ⟨rfl, rfl, rfl, rfl, rfl, rfl, rfl, trivial⟩, ⟨H, by show j + 1 ≤ _; omega, by rw [hst, ← hsh]; simp [hclo], by rw [hst, ← hkp]; simp [h2]⟩, by show _ - (j + 1) < _ - j; omega⟩
            · rw [e1, e3] at h2
              repeat' (first | (first | (with_reducible refine p_tn ?_) | (with_reducible refine p_bn ?_) | (with_reducible refine w_reg ?_)) | (first | (with_reducible refine l_nil ?_) | ((with_reducible refine g_on ?_); (first | ((with_reducible refine g_mv ?_); refine l_p txs rfl rfl ?_) | ((with_reducible refine g_as ?_); refine l_p txs rfl rfl ?_) | ((with_reducible refine g_pk ?_); refine l_p txs rfl rfl ?_) | ((with_reducible refine g_bi ?_); (refine l_a txs rfl rfl (by first | exact in_i64 (by omega) (by omega) | exact in_u8 (by omega) (by omega) | exact in_u64 (by omega) (by omega) | exact in_i32 (by omega) (by omega)) ?_))))))
              exact ⟨(j + 1, true, false), _, rfl, ⟨rfl, rfl, rfl, rfl, rfl, rfl, rfl, trivial⟩, ⟨H, by show j + 1 ≤ _; omega, by rw [hst, ← hsh]; simp [hclo], by rw [hst, ← hkp]; simp [h2]⟩, by show _ - (j + 1) < _ - j; omega⟩
          · repeat' (first | (first | (with_reducible refine p_tn ?_) | (with_reducible refine p_bn ?_) | (with_reducible refine w_reg ?_)) | (first | (with_reducible refine l_nil ?_) | ((with_reducible refine g_on ?_); (first | ((with_reducible refine g_mv ?_); refine l_p txs rfl rfl ?_) | ((with_reducible refine g_as ?_); refine l_p txs rfl rfl ?_) | ((with_reducible refine g_pk ?_); refine l_p txs rfl rfl ?_) | ((with_reducible refine g_bi ?_); (refine l_a txs rfl rfl (by first | exact in_i64 (by omega) (by omega) | exact in_u8 (by omega) (by omega) | exact in_u64 (by omega) (by omega) | exact in_i32 (by omega) (by omega)) ?_)))) | ((with_reducible refine g_if ?_); (refine l_off rfl ?_))))
            exact ⟨(j + 1, true, true), _, rfl, ⟨rfl, rfl, rfl, rfl, rfl, rfl, rfl, trivial⟩, ⟨H, by show j + 1 ≤ _; omega, by rw [hst, ← hsh]; simp [hclo], by rw [hst, ← hkp]; simp⟩, by show _ - (j + 1) < _ - j; omega⟩
        · rw [e1, e2] at hclo
          cases kp
          · repeat' (first | (first | (with_reducible refine p_tn ?_) | (with_reducible refine w_reg ?_)) | (first | (with_reducible refine l_nil ?_) | ((with_reducible refine g_on ?_); (first | ((with_reducible refine g_mv ?_); refine l_p txs rfl rfl ?_) | ((with_reducible refine g_as ?_); refine l_p txs rfl rfl ?_) | ((with_reducible refine g_pk ?_); refine l_p txs rfl rfl ?_))) | ((with_reducible refine g_if ?_); ((with_reducible refine g_mv ?_); refine l_p txs rfl rfl ?_))))
            (with_reducible refine is_l ?_); refine l_t txs rfl rfl (fun h2 => ?_) (fun h2 => ?_)
            · rw [e1, e3] at h2
              repeat' (first | (first | (with_reducible refine p_tn ?_) | (with_reducible refine p_bn ?_) | (with_reducible refine w_reg ?_)) | (first | (with_reducible refine l_nil ?_) | ((with_reducible refine g_on ?_); (first | ((with_reducible refine g_mv ?_); refine l_p txs rfl rfl ?_) | ((with_reducible refine g_as ?_); refine l_p txs rfl rfl ?_) | ((with_reducible refine g_pk ?_); refine l_p txs rfl rfl ?_) | ((with_reducible refine g_bi ?_); (refine l_a txs rfl rfl (by first | exact in_i64 (by omega) (by omega) | exact in_u8 (by omega) (by omega) | exact in_u64 (by omega) (by omega) | exact in_i32 (by omega) (by omega)) ?_))))))
              exact ⟨(j + 1, false, true), _, rfl, ⟨rfl, rfl, rfl, rfl, rfl, rfl, rfl, trivial⟩, ⟨H, by show j + 1 ≤ _; omega, by rw [hst, ← hsh]; simp [hclo], by rw [hst, ← hkp]; simp [h2]⟩, by show _ - (j + 1) < _ - j; omega⟩
            · rw [e1, e3] at h2
              repeat' (first | (first | (with_reducible refine p_tn ?_) | (with_reducible refine p_bn ?_) | (with_reducible refine w_reg ?_)) | (first | (with_reducible refine l_nil ?_) | ((with_reducible refine g_on ?_); (first | ((with_reducible refine g_mv ?_); refine l_p txs rfl rfl ?_) | ((with_reducible refine g_as ?_); refine l_p txs rfl rfl ?_) | ((with_reducible refine g_pk ?_); refine l_p txs rfl rfl ?_) | ((with_reducible refine g_bi ?_); (refine l_a txs rfl rfl (by first | exact in_i64 (by omega) (by omega) | exact in_u8 (by omega) (by omega) | exact in_u64 (by omega) (by omega) | exact in_i32 (by omega) (by omega)) ?_))))))
              exact ⟨(j + 1, false, false), _, rfl, ⟨rfl, rfl, rfl, rfl, rfl, rfl, rfl, trivial⟩, ⟨H, by show j + 1 ≤ _; omega, by rw [hst, ← hsh]; simp [hclo], by rw [hst, ← hkp]; simp [h2]⟩, by show _ - (j + 1) < _ - j; omega⟩
          · repeat' (first | (first | (with_reducible refine p_tn ?_) | (with_reducible refine p_bn ?_) | (with_reducible refine w_reg ?_)) | (first | (with_reducible refine l_nil ?_) | ((with_reducible refine g_on ?_); (first | ((with_reducible refine g_mv ?_); refine l_p txs rfl rfl ?_) | ((with_reducible refine g_as ?_); refine l_p txs rfl rfl ?_) | ((with_reducible refine g_pk ?_); refine l_p txs rfl rfl ?_) | ((with_reducible refine g_bi ?_); (refine l_a txs rfl rfl (by first | exact in_i64 (by omega) (by omega) | exact in_u8 (by omega) (by omega) | exact in_u64 (by omega) (by omega) | exact in_i32 (by omega) (by omega)) ?_)))) | ((with_reducible refine g_if ?_); (refine l_off rfl ?_))))
            exact ⟨(j + 1, false, true), _, rfl, ⟨rfl, rfl, rfl, rfl, rfl, rfl, rfl, trivial⟩, ⟨H, by show j + 1 ≤ _; omega, by rw [hst, ← hsh]; simp [hclo], by rw [hst, ← hkp]; simp⟩, by show _ - (j + 1) < _ - j; omega⟩
      · have hclo := trivial
        cases kp
        · repeat' (first | (first | (with_reducible refine p_tn ?_) | (with_reducible refine wp_seq ?_) | (with_reducible refine w_reg ?_)) | (first | (with_reducible refine l_nil ?_) | ((with_reducible refine g_on ?_); (first | ((with_reducible refine g_mv ?_); refine l_p txs rfl rfl ?_) | ((with_reducible refine g_as ?_); refine l_p txs rfl rfl ?_) | ((with_reducible refine g_pk ?_); refine l_p txs rfl rfl ?_))) | ((with_reducible refine g_if ?_); (first | (refine l_off rfl ?_) | ((with_reducible refine g_mv ?_); refine l_p txs rfl rfl ?_)))))
          (with_reducible refine is_l ?_); refine l_t txs rfl rfl (fun h2 => ?_) (fun h2 => ?_)
          · rw [e1, e3] at h2
            repeat' (first | (first | (with_reducible refine p_tn ?_) | (with_reducible refine p_bn ?_) | (with_reducible refine w_reg ?_)) | (first | (with_reducible refine l_nil ?_) | ((with_reducible refine g_on ?_); (first | ((with_reducible refine g_mv ?_); refine l_p txs rfl rfl ?_) | ((with_reducible refine g_as ?_); refine l_p txs rfl rfl ?_) | ((with_reducible refine g_pk ?_); refine l_p txs rfl rfl ?_) | ((with_reducible refine g_bi ?_); (refine l_a txs rfl rfl (by first | exact in_i64 (by omega) (by omega) | exact in_u8 (by omega) (by omega) | exact in_u64 (by omega) (by omega) | exact in_i32 (by omega) (by omega)) ?_))))))
            exact ⟨(j + 1, true, true), _, rfl, ⟨rfl, rfl, rfl, rfl, rfl, rfl, rfl, trivial⟩, ⟨H, by show j + 1 ≤ _; omega, by rw [hst, ← hsh]; simp [hclo], by rw [hst, ← hkp]; simp [h2]⟩, by show _ - (j + 1) < _ - j; omega⟩
          · rw [e1, e3] at h2
            repeat' (first | (first | (with_reducible refine p_tn ?_) | (with_reducible refine p_bn ?_) | (with_reducible refine w_reg ?_)) | (first | (with_reducible refine l_nil ?_) | ((with_reducible refine g_on ?_); (first | ((with_reducible refine g_mv ?_); refine l_p txs rfl rfl ?_) | ((with_reducible refine g_as ?_); refine l_p txs rfl rfl ?_) | ((with_reducible refine g_pk ?_); refine l_p txs rfl rfl ?_) | ((with_reducible refine g_bi ?_); (refine l_a txs rfl rfl (by first | exact in_i64 (by omega) (by omega) | exact in_u8 (by omega) (by omega) | exact in_u64 (by omega) (by omega) | exact in_i32 (by omega) (by omega)) ?_))))))
            exact ⟨(j + 1, true, false), _, rfl, ⟨rfl, rfl, rfl, rfl, rfl, rfl, rfl, trivial⟩, ⟨H, by show j + 1 ≤ _; omega, by rw [hst, ← hsh]; simp [hclo], by rw [hst, ← hkp]; simp [h2]⟩, by show _ - (j + 1) < _ - j; omega⟩
        · repeat' (first | (first | (with_reducible refine p_tn ?_) | (with_reducible refine p_bn ?_) | (with_reducible refine wp_seq ?_) | (with_reducible refine w_reg ?_)) | (first | (with_reducible refine l_nil ?_) | ((with_reducible refine g_on ?_); (first | ((with_reducible refine g_mv ?_); refine l_p txs rfl rfl ?_) | ((with_reducible refine g_as ?_); refine l_p txs rfl rfl ?_) | ((with_reducible refine g_pk ?_); refine l_p txs rfl rfl ?_) | ((with_reducible refine g_bi ?_); (refine l_a txs rfl rfl (by first | exact in_i64 (by omega) (by omega) | exact in_u8 (by omega) (by omega) | exact in_u64 (by omega) (by omega) | exact in_i32 (by omega) (by omega)) ?_)))) | ((with_reducible refine g_if ?_); (refine l_off rfl ?_))))
          exact ⟨(j + 1, true, true), _, rfl, ⟨rfl, rfl, rfl, rfl, rfl, rfl, rfl, trivial⟩, ⟨H, by show j + 1 ≤ _; omega, by rw [hst, ← hsh]; simp [hclo], by rw [hst, ← hkp]; simp⟩, by show _ - (j + 1) < _ - j; omega⟩
    · have hall : (wOf x).take j = wOf x := List.take_of_length_le (by rw [hps, List.length_map]; omega)
      rw [hall, ← htk] at hsh hkp
      repeat' (first | (first | (with_reducible refine p_tn ?_) | (with_reducible refine p_tx ?_) | (with_reducible refine p_bn ?_) | (with_reducible refine x_hit ?_) | (with_reducible refine w_reg ?_) | (with_reducible (refine is_if ?_; (refine w_iff rfl ?_))) | (with_reducible refine wp_exit ?_)) | (first | (with_reducible refine l_nil ?_) | ((with_reducible refine g_on ?_); (first | ((with_reducible refine g_mv ?_); refine l_p txs rfl rfl ?_) | ((with_reducible refine g_as ?_); refine l_p txs rfl rfl ?_) | ((with_reducible refine g_bi ?_); (refine l_a txs rfl rfl (by first | exact in_i64 (by omega) (by omega) | exact in_u8 (by omega) (by omega) | exact in_u64 (by omega) (by omega) | exact in_i32 (by omega) (by omega)) ?_))))))
      exact ⟨(i + 1, sh, kp), _, rfl, ⟨rfl, rfl, rfl, rfl, rfl, trivial⟩, ⟨H.pick [] [1] (by decide) (by decide) rfl rfl, by show i + 1 ≤ _; omega, hsh, hkp⟩, by show _ - (i + 1) < _ - i; omega⟩
  · have hall : vs.take i = vs := List.take_of_length_le (by omega)
    rw [hall] at hsh hkp
    rw [← hsh, ← hkp] at hce
    cases sh
    · repeat' (first | (first | (with_reducible refine p_tn ?_) | (with_reducible refine p_tx ?_) | (with_reducible refine x_hit ?_) | (with_reducible refine wp_seq ?_) | (with_reducible refine w_reg ?_) | (with_reducible (refine is_if ?_; (refine w_iff rfl ?_))) | (with_reducible refine wp_exit ?_)) | (first | (with_reducible refine l_nil ?_) | ((with_reducible refine g_on ?_); ((with_reducible refine g_mv ?_); refine l_p txs rfl rfl ?_)) | ((with_reducible refine g_if ?_); ((with_reducible refine g_mv ?_); refine l_p txs rfl rfl ?_))))
      (with_reducible refine is_l ?_); refine l_t txs rfl rfl (fun h0 => ?_) (fun h0 => ?_)
      · cases kp
        all_goals
          repeat' (first | (first | (with_reducible refine p_tn ?_) | (with_reducible refine wp_ret ?_)) | (first | (with_reducible refine l_nil ?_) | ((with_reducible refine g_on ?_); (first | ((with_reducible refine g_as ?_); refine l_p txs rfl rfl ?_) | ((with_reducible refine g_pk ?_); refine l_p txs rfl rfl ?_))) | ((with_reducible refine g_if ?_); (first | ((with_reducible refine g_mv ?_); refine l_p txs rfl rfl ?_) | ((with_reducible refine g_pk ?_); refine l_p txs rfl rfl ?_) | ((with_reducible refine g_un ?_); (refine l_p txs rfl rfl ?_))))))
          refine end1 rfl rfl ?_
          exact ⟨by rw [hce, h0]; rfl, H.B⟩
      · have h1 : minor = 1 := by omega
        repeat' (first | (first | (with_reducible refine p_tn ?_) | (with_reducible refine wp_ret ?_)) | (first | (with_reducible refine l_nil ?_) | ((with_reducible refine g_on ?_); (first | ((with_reducible refine g_as ?_); refine l_p txs rfl rfl ?_) | ((with_reducible refine g_pk ?_); refine l_p txs rfl rfl ?_))) | ((with_reducible refine g_if ?_); (first | (refine l_off rfl ?_) | (first | ((with_reducible refine g_mv ?_); refine l_p txs rfl rfl ?_) | ((with_reducible refine g_pk ?_); refine l_p txs rfl rfl ?_))))))
        refine end1 rfl rfl ?_
        exact ⟨by rw [hce, h1]; rfl, H.B⟩
    · repeat' (first | (first | (with_reducible refine p_tn ?_) | (with_reducible refine p_tx ?_) | (with_reducible refine x_hit ?_) | (with_reducible refine wp_seq ?_) | (with_reducible refine w_reg ?_) | (with_reducible (refine is_if ?_; (refine w_iff rfl ?_))) | (with_reducible refine wp_exit ?_) | (with_reducible refine wp_ret ?_)) | (first | (with_reducible refine l_nil ?_) | ((with_reducible refine g_on ?_); (first | ((with_reducible refine g_mv ?_); refine l_p txs rfl rfl ?_) | ((with_reducible refine g_as ?_); refine l_p txs rfl rfl ?_) | ((with_reducible refine g_pk ?_); refine l_p txs rfl rfl ?_))) | ((with_reducible refine g_if ?_); (refine l_off rfl ?_))))
      refine end1 rfl rfl ?_
      exact ⟨by rw [hce]; rfl, H.B⟩
end Go.Proofs.YthgojbdpmcccaaaGreatDoor.K.Ref
end
section
namespace Go.Proofs.YthgojbdpmcccaaaGreatDoor.K.Ref
open Go.RowKit Go.Proofs.YthgojbdpmcccaaaGreatDoor.Q Go.Proofs.YthgojbdpmcccaaaGreatDoor.Wb Go.Proofs.YthgojbdpmcccaaaGreatDoorW.PrintWords Go.Proofs.YthgojbdpmcccaaaGreatDoor.K
set_option linter.unusedVariables false
set_option linter.unusedSimpArgs false
theorem rowG_at {w0 w : World} {l : List Ent} {r : List RowD} (H : Hp w0 w l r) (k : Nat) {A : Option Addr} {c : Nat} {x : List Fld} (hk : r[k]? = some (rowG (.slice A x.length c) x)) : Rd w A (fldC x) := by
  obtain ⟨A', c', e, _, hrd, _⟩ := H.rd k hk
  simp only [Value.slice.injEq] at e
  rw [e.1]
  exact hrd
theorem built_zR : Tryz.prog.built 86 [] = some zReq := by kernel_rfl
theorem built_rr (a b : ByteArray) (i : Int) (A : Option Addr) (n c : Nat) (A2 : Option Addr) (n2 c2 : Nat) (z : Bool) : Tryz.prog.built 86 [(0, .string a), (1, .string b), (2, .int .i64 i), (3, .slice A n c), (4, .slice A2 n2 c2), (5, .bool z)] = some #[.string a, .string b, .int .i64 i, .slice A n c, .slice A2 n2 c2, .bool z] := by kernel_rfl
theorem vers_rng {s : L} {a b : Int} (h : versS s = some (a, b)) : (0 ≤ a ∧ a ≤ 9) ∧ 0 ≤ b ∧ b ≤ 9 := by
  unfold versS at h
  split at h
  · split at h
    · rename_i hd
      simp only [Option.some.injEq, Prod.mk.injEq] at h
      obtain ⟨h1, h2⟩ := hd
      unfold digB at h1 h2
      simp at h1 h2
      omega
    · cases h
  · cases h
theorem frI_le {l : List Fld} {minor : Int} {fr : Wb.Frame} (h : frameS l minor = .ok fr) : frI fr ≤ 1048576 := by
  cases fr with
  | none => decide
  | chunks => decide
  | len n =>
    show (n : Int) ≤ _
    unfold frameS at h
    split at h
    · split at h
      · cases h
      · split at h
        · cases h
        · split at h
          · cases h
          · injection h with h; injection h with h; omega
      · cases h
    · split at h <;> cases h
    · cases h
def frN : Wb.Frame → Int
  | .none => -1
  | .chunks => -2
  | .len n => (n : Int)
theorem lenV_ok {l : List Fld} {minor : Int} {fr : Wb.Frame} (h : frameS l minor = .ok fr) : lenV l minor = .tuple #[.int .i64 (frN fr), .int .i64 0] := by unfold lenV; rw [h]; cases fr <;> rfl
theorem frN_none {fr : Wb.Frame} (h : frN fr = -1) : fr = .none := by cases fr with
  | none => rfl
  | chunks => cases h
  | len n => exact absurd h (by show ¬ (n : Int) = -1; omega)
theorem frN_some {fr : Wb.Frame} (h : ¬ frN fr = -1) : frN fr = frI fr := by cases fr with
  | none => exact absurd rfl h
  | chunks => rfl
  | len n => rfl
theorem addr_blk (ad : Addr) (j : Nat) : (ad.add j).block = ad.block := by unfold Addr.add; split <;> rfl
theorem reads_other {w w' : World} {k : IntKind} {A : Option Addr} {n g : Nat} {xs : List Int} (h : ReadsInt w k A n xs) (hg : w.grownBy w' (some g)) (hA : ∀ ad, A = some ad → ad.block ≠ g) : ReadsInt w' k A n xs := by
  refine ⟨h.1, h.2.1, fun h0 => ?_⟩
  obtain ⟨ad, h1, h2⟩ := h.2.2 h0
  refine ⟨ad, h1, fun j hj => ?_⟩
  have h3 := h2 j hj
  have hne := hA ad h1
  have hlt : (ad.add j).block < w.heap.size := by
    rcases Nat.lt_or_ge (ad.add j).block w.heap.size with h4 | h4
    · exact h4
    · exfalso
      have : w.heap[(ad.add j).block]? = none := Array.getElem?_eq_none h4
      simp [World.cell?, this] at h3
  have h5 := hg.block _ hlt (fun e => hne (by rw [← Option.some.inj e]; exact (addr_blk ad j).symm))
  unfold World.cell? at h3 ⊢
  rw [h5]
  exact h3
theorem h_stRg {rt : Nat → Option (List Value)} {n : Nat} {ops : Array Oper} {Q : Exit → Act → World → Prop} {rest : List Oper} {f : Fr} {w0 w : World} {l l' : List Ent} {r : List RowD} {tt : TypeId} {ps : String} {af : Array Edge} {gd : Option (Nat × Bool)} {op : Op} {P : Program} (hrt : Recs P rt) (H : Hp w0 w l r) (k : Nat) {g : Nat} {t t2 : TypeId} {cs cs' zs : List Value} {a : Array Value} (hw : want n ops f ⟨none, op, tt, ps, af, gd⟩ = true) (he : evSt n f op = some (t, g, 0, .agg a)) (hz : rt t = some zs) (hk : l[k]? = some (g, t2, cs)) (hs : cs.length = zs.length) (hc : nfL a.toList some = some cs') (hs2 : cs'.length = zs.length) (h1 : cs'.all (·.oneCell') = true)
    (hl : nfL (l.set k (g, t2, cs')) some = some l') (h : ∀ w', Hp w0 w' l' r → w.grownBy w' (some g) → WL P ops Q rest (act n f) w') : WL P ops Q (⟨none, op, tt, ps, af, gd⟩ :: rest) (act n f) w := by
  have e1 := nfL_some hc
  have e2 := nfL_some hl
  subst e1 e2
  unfold evSt at he
  split at he
  · rename_i t0 x y
    split at he
    · rename_i g0 i0 v0 hx hy
      simp only [Option.some.injEq, Prod.mk.injEq] at he
      obtain ⟨rfl, rfl, rfl, rfl⟩ := he
      have hy := nf_eq hy
      have hb := H.get k hk
      obtain ⟨_, h3⟩ := hrt _ _ hz
      have hsz : (P.info? t0).map (·.size) = some a.toList.length := by
        obtain ⟨i0, hi, h4⟩ := Option.map_eq_some_iff.1 h3
        simp only [Prod.mk.injEq] at h4
        rw [hi, hs2, ← h4.2]; rfl
      have hr := run_store_run (P := P) (o := 0) t0 (.agg a) a.toList hb (by simp [Value.cells]) hsz (by rw [List.size_toArray]; omega) (fun q hq => List.all_eq_true.1 h1 q hq)
      have hh := heap_setCells (fr := (0, 0)) a.toList 0 w cs hb (by omega)
      have e3 : cs.take 0 ++ a.toList ++ cs.drop (0 + a.toList.length) = a.toList := by
        rw [List.drop_eq_nil_of_le (by omega)]; simp
      rw [e3] at hh
      refine h_skip hw ?_ (h _ (H.upd k hk (grown_setCells a.toList 0 w) hh) (grown_setCells a.toList 0 w))
      unfold execOp
      simp [hx, ← hy, hr]
    · cases he
  · cases he
theorem rbody_code {rest : L} {fr : Wb.Frame} {k : Nat} (h : bodyS rest fr = .error k) : k ≠ 0 := by
  cases fr with
  | none => simp only [bodyS] at h; cases h
  | chunks =>
    simp only [bodyS] at h
    cases hu : unchunkS rest with
    | error e =>
      rw [hu] at h
      simp only [Except.error.injEq] at h
      have := un_errs hu
      split at h <;> omega
    | ok z => rw [hu] at h; cases h
  | len n =>
    simp only [bodyS] at h
    split at h
    · injection h with h; omega
    · cases h
/-- What the reference's ParseRequest ends in. -/
def RqR (w : World) (b : L) (e : Ending) (w' : World) : Prop := match parseReqS b with
  | .error k => e = .returned (.tuple #[.agg zReq, .int .i64 0, .int .i64 (k : Int)]) ∧ Below w.heap.size w w'
  | .ok (r, n) => ∃ Bf cf Bb cb, e = .returned (.tuple #[.agg (reqA r Bf cf Bb cb), .int .i64 (n : Int), .int .i64 0]) ∧ Below w.heap.size w w' ∧ Rd w' Bf (fldC r.fields) ∧ ReadsInt w' .u8 Bb r.body.length r.body
theorem rqR_err {w w' : World} {b : L} {k : Nat} (h : parseReqS b = .error k) (K : Below w.heap.size w w') : RqR w b (.returned (.tuple #[.agg zReq, .int .i64 0, .int .i64 (k : Int)])) w' := by unfold RqR; rw [h]; exact ⟨rfl, K⟩
set_option maxRecDepth 100000 in
set_option maxHeartbeats 8000000 in
theorem rParseRequest_c {w : World} {tM : TypeId} {frM : Nat × Nat} (hT : w.heap[14]? = some (.cells meC tM frM)) {B : Option Addr} {c : Nat} {b : L} (h : ReadsInt w .u8 B b.length b) (hb : Bytes b) (hs : b.length ≤ 100000000) :
    Calls Tryz.prog 70 #[.slice B b.length c] w (RqR w b) := by
  have hTb : ∀ w1, Below w.heap.size w w1 → w1.heap[14]? = some (.cells meC tM frM) := fun w1 K => (K.block _ (blk_lt hT)).trans hT
  refine enter (args := [.slice B b.length c]) Tryz.func70 rfl Tryz.ntmps70 rfl ?_
  have hbs := blS hb
  have zb := sizeS' hb
  have H := Hp.nil w
  repeat' (first | (first | (with_reducible refine p_tn ?_) | (with_reducible refine wp_seq ?_) | (with_reducible refine w_reg ?_)) | (first | (with_reducible refine l_nil ?_) | ((with_reducible refine g_on ?_); (first | ((with_reducible refine g_mv ?_); refine l_p txs rfl rfl ?_) | ((with_reducible refine g_as ?_); refine l_p txs rfl rfl ?_) | ((with_reducible refine g_al ?_); refine h_alloc recs H rfl rfl (fun g_ w_ H => ?_))))))
  (with_reducible refine is_l ?_); refine l_text rfl rfl Tryz.underlying23 Tryz.underlying5 Tryz.underlying9 (h.below H.B) ?_
  repeat' (first | (first | (with_reducible refine p_tn ?_) | (with_reducible refine wp_seq ?_) | (with_reducible refine w_reg ?_)) | (first | (with_reducible refine l_nil ?_) | ((with_reducible refine g_on ?_); (first | ((with_reducible refine g_mv ?_); refine l_p txs rfl rfl ?_) | ((with_reducible refine g_as ?_); refine l_p txs rfl rfl ?_)))))
  (with_reducible refine is_l ?_); refine l_call rfl rfl (by kernel_rfl) (cutHead_c (strOfNums b) 147 _ (by omega)) (fun e w_ hR => ?_)
  unfold CtR at hR
  rw [hbs, zb] at hR
  cases hcut : cutS 147 b with
  | error k =>
    rw [hcut] at hR
    obtain ⟨A1, n1, c1, rfl, K⟩ := hR
    refine ⟨_, rfl, ?_⟩
    have H := H.call K
    have hres := pq_head hcut
    have hk0 := cut_code (by decide) hcut
    repeat' (first | (first | (with_reducible refine p_tn ?_) | (with_reducible refine wp_seq ?_) | (with_reducible refine w_reg ?_)) | (first | (with_reducible refine l_nil ?_) | ((with_reducible refine g_on ?_); (first | ((with_reducible refine g_mv ?_); refine l_p txs rfl rfl ?_) | ((with_reducible refine g_as ?_); refine l_p txs rfl rfl ?_) | ((with_reducible refine g_ex ?_); refine l_p txs rfl rfl ?_)))))
    (with_reducible refine is_l ?_); refine l_t txs rfl rfl (fun _ => ?_) (fun hh => absurd (by omega) hh)
    repeat' (first | (first | (with_reducible refine p_tn ?_) | (with_reducible refine wp_seq ?_) | (with_reducible refine w_reg ?_) | (with_reducible (refine is_if ?_; (refine w_ift rfl ?_)))) | (with_reducible refine l_nil ?_))
    (with_reducible refine is_l ?_); refine h_bld rfl rfl built_zR ?_
    repeat' (first | (first | (with_reducible refine p_tn ?_) | (with_reducible refine p_tr ?_) | (with_reducible refine wp_ret ?_)) | (first | (with_reducible refine l_nil ?_) | ((with_reducible refine g_on ?_); (first | ((with_reducible refine g_mv ?_); refine l_p txs rfl rfl ?_) | ((with_reducible refine g_as ?_); refine l_p txs rfl rfl ?_) | ((with_reducible refine g_st ?_); (refine h_stR recs H 0 rfl rfl rfl rfl rfl rfl rfl rfl rfl (fun w_ H => ?_)))))))
    refine end_ctt recs H 0 rfl rfl rfl rfl rfl rfl rfl ?_
    exact rqR_err hres H.B
  | ok z =>
    obtain ⟨first, ls, rest⟩ := z
    rw [hcut] at hR
    obtain ⟨A1, c1, rfl, K⟩ := hR
    refine ⟨_, rfl, ?_⟩
    obtain ⟨hb1, hl1, hb2, hb3, hl3⟩ := cut_bytes hb (by omega) hcut
    obtain ⟨_, pre, hpre⟩ := cutS_rest hcut
    have hrest : b.drop (b.length - rest.length) = rest := by
      have h2 := congrArg List.length hpre
      rw [List.length_append] at h2
      rw [hpre, List.length_append, Nat.add_sub_cancel, List.drop_left]
    have z1 := sizeS' hb1
    have H := H.join K
    repeat' (first | (first | (with_reducible refine p_tn ?_) | (with_reducible refine wp_seq ?_) | (with_reducible refine w_reg ?_)) | (first | (with_reducible refine l_nil ?_) | ((with_reducible refine g_on ?_); (first | ((with_reducible refine g_mv ?_); refine l_p txs rfl rfl ?_) | ((with_reducible refine g_as ?_); refine l_p txs rfl rfl ?_) | ((with_reducible refine g_ex ?_); refine l_p txs rfl rfl ?_)))))
    (with_reducible refine is_l ?_); refine l_t txs rfl rfl (fun hh => absurd rfl hh) (fun _ => ?_)
    repeat' (first | (first | (with_reducible refine p_tn ?_) | (with_reducible refine wp_seq ?_) | (with_reducible refine w_reg ?_) | (with_reducible (refine is_if ?_; (refine w_iff rfl ?_))) | (with_reducible refine wp_skip ?_)) | (first | (with_reducible refine l_nil ?_) | ((with_reducible refine g_on ?_); ((with_reducible refine g_mv ?_); refine l_p txs rfl rfl ?_))))
    have hsm := split_mem 32 first
    have hpc := pieces_c (strOfNums first) 32 w_ (by omega)
    rw [blS hb1] at hpc
    obtain ⟨ws, hws⟩ : ∃ p, p = splitC 32 first := ⟨_, rfl⟩
    rw [← hws] at hpc hsm
    (with_reducible refine is_l ?_); refine l_call rfl rfl (by kernel_rfl) hpc (fun e w_ hR => ?_)
    obtain ⟨A2, c2, rfl, K⟩ := hR
    refine ⟨_, rfl, ?_⟩
    have H := H.join K
    repeat' (first | (first | (with_reducible refine p_tn ?_) | (with_reducible refine wp_seq ?_) | (with_reducible refine w_reg ?_)) | (first | (with_reducible refine l_nil ?_) | ((with_reducible refine g_on ?_); (first | ((with_reducible refine g_mv ?_); refine l_p txs rfl rfl ?_) | ((with_reducible refine g_as ?_); refine l_p txs rfl rfl ?_) | ((with_reducible refine g_cl ?_); refine l_p txs rfl rfl ?_)))))
    (with_reducible refine is_l ?_); refine l_t txs rfl rfl (fun h1 => ?_) (fun h1 => ?_)
    · have hres := pq_start hcut (st_other (by rw [← hws]; omega))
      repeat' (first | (first | (with_reducible refine p_tn ?_) | (with_reducible refine wp_seq ?_) | (with_reducible refine w_reg ?_) | (with_reducible (refine is_if ?_; (refine w_ift rfl ?_)))) | (first | (with_reducible refine l_nil ?_) | ((with_reducible refine g_on ?_); (first | ((with_reducible refine g_mv ?_); refine l_p txs rfl rfl ?_) | ((with_reducible refine g_pk ?_); refine l_p txs rfl rfl ?_))) | ((with_reducible refine g_if ?_); (refine l_off rfl ?_))))
      (with_reducible refine is_l ?_); refine h_bld rfl rfl built_zR ?_
      repeat' (first | (first | (with_reducible refine p_tn ?_) | (with_reducible refine p_tr ?_) | (with_reducible refine wp_ret ?_)) | (first | (with_reducible refine l_nil ?_) | ((with_reducible refine g_on ?_); (first | ((with_reducible refine g_as ?_); refine l_p txs rfl rfl ?_) | ((with_reducible refine g_st ?_); (refine h_stR recs H 0 rfl rfl rfl rfl rfl rfl rfl rfl rfl (fun w_ H => ?_)))))))
      refine end_ctt recs H 0 rfl rfl rfl rfl rfl rfl rfl ?_
      exact rqR_err hres H.B
    obtain ⟨m, t, v, hmtv⟩ : ∃ m t v, ws = [m, t, v] := by
      match ws, h1 with
      | [m, t, v], _ => exact ⟨m, t, v, rfl⟩
      | [], h1 => exact absurd (by simp) h1
      | [_], h1 => exact absurd (by simp) h1
      | [_, _], h1 => exact absurd (by simp) h1
      | _ :: _ :: _ :: _ :: _, h1 => exact absurd (by simp; omega) h1
    subst hmtv
    have hst := st_three hws.symm
    obtain ⟨hm1, hm2⟩ := hsm m (by simp)
    obtain ⟨ht1, ht2⟩ := hsm t (by simp)
    obtain ⟨hv1, hv2⟩ := hsm v (by simp)
    have bm : Bytes m := fun y hy => hb1 y (hm1 y hy)
    have bt : Bytes t := fun y hy => hb1 y (ht1 y hy)
    have bv : Bytes v := fun y hy => hb1 y (hv1 y hy)
    have zm := sizeS' bm
    have zt := sizeS' bt
    have hrT := rowT_at H 0 rfl
    obtain ⟨a2, ha2⟩ := rdT_some hrT (y := m) (i := 0) rfl
    subst ha2
    repeat' (first | ((with_reducible refine g_on ?_); ((with_reducible refine g_mv ?_); refine l_p txs rfl rfl ?_)) | ((with_reducible refine g_if ?_); (first | ((with_reducible refine g_mv ?_); refine l_p txs rfl rfl ?_) | ((with_reducible refine g_ia ?_); refine l_ia txs rfl rfl (by first | omega | assumption | decide) (by first | omega | assumption | decide) ?_))))
    (with_reducible refine is_l ?_); refine l_ld txs rfl rfl (rdT_cell (rowT_at H 0 rfl) (y := m) (i := 0) rfl) ?_
    skip
    have htok := rtoken_c (strOfNums m) w_ (by omega)
    rw [blS bm] at htok
    (with_reducible refine is_l ?_); refine l_callv rfl rfl (by kernel_rfl) htok (fun w_ K => ?_)
    have H := H.call K
    cases htk : tokS m
    · have hres := pq_start hcut (k := 141) (by rw [hst, if_pos (.inl htk)])
      repeat' (first | (first | (with_reducible refine p_tn ?_) | (with_reducible refine wp_seq ?_) | (with_reducible refine w_reg ?_) | (with_reducible (refine is_if ?_; (refine w_ift rfl ?_)))) | (first | (with_reducible refine l_nil ?_) | ((with_reducible refine g_on ?_); (first | ((with_reducible refine g_mv ?_); refine l_p txs rfl rfl ?_) | ((with_reducible refine g_pk ?_); refine l_p txs rfl rfl ?_))) | ((with_reducible refine g_if ?_); (first | (refine l_off rfl ?_) | ((with_reducible refine g_un ?_); (refine l_p txs rfl rfl ?_))))))
      (with_reducible refine is_l ?_); refine h_bld rfl rfl built_zR ?_
      repeat' (first | (first | (with_reducible refine p_tn ?_) | (with_reducible refine p_tr ?_) | (with_reducible refine wp_ret ?_)) | (first | (with_reducible refine l_nil ?_) | ((with_reducible refine g_on ?_); (first | ((with_reducible refine g_as ?_); refine l_p txs rfl rfl ?_) | ((with_reducible refine g_st ?_); (refine h_stR recs H 0 rfl rfl rfl rfl rfl rfl rfl rfl rfl (fun w_ H => ?_)))))))
      refine end_ctt recs H 0 rfl rfl rfl rfl rfl rfl rfl ?_
      exact rqR_err hres H.B
    repeat' (first | ((with_reducible refine g_on ?_); (first | ((with_reducible refine g_mv ?_); refine l_p txs rfl rfl ?_) | ((with_reducible refine g_pk ?_); refine l_p txs rfl rfl ?_))) | ((with_reducible refine g_if ?_); (first | ((with_reducible refine g_mv ?_); refine l_p txs rfl rfl ?_) | ((with_reducible refine g_un ?_); (refine l_p txs rfl rfl ?_)) | ((with_reducible refine g_ia ?_); refine l_ia txs rfl rfl (by first | omega | assumption | decide) (by first | omega | assumption | decide) ?_))))
    (with_reducible refine is_l ?_); refine l_ld txs rfl rfl (rdT_cell (rowT_at H 0 rfl) (y := t) (i := 1) rfl) ?_
    skip
    have hvis := rvisible_c (strOfNums t) w_ (by omega)
    rw [blS bt] at hvis
    (with_reducible refine is_l ?_); refine l_callv rfl rfl (by kernel_rfl) hvis (fun w_ K => ?_)
    have H := H.call K
    cases htv : (!t.isEmpty && t.all visB)
    · have hres := pq_start hcut (k := 141) (by
        rw [hst, if_pos]
        cases t with
        | nil => exact .inr (.inl rfl)
        | cons x r => exact .inr (.inr htv))
      repeat' (first | (first | (with_reducible refine p_tn ?_) | (with_reducible refine wp_seq ?_) | (with_reducible refine w_reg ?_) | (with_reducible (refine is_if ?_; (refine w_ift rfl ?_)))) | (first | (with_reducible refine l_nil ?_) | ((with_reducible refine g_on ?_); ((with_reducible refine g_pk ?_); refine l_p txs rfl rfl ?_)) | ((with_reducible refine g_if ?_); ((with_reducible refine g_un ?_); (refine l_p txs rfl rfl ?_)))))
      (with_reducible refine is_l ?_); refine h_bld rfl rfl built_zR ?_
      repeat' (first | (first | (with_reducible refine p_tn ?_) | (with_reducible refine p_tr ?_) | (with_reducible refine wp_ret ?_)) | (first | (with_reducible refine l_nil ?_) | ((with_reducible refine g_on ?_); (first | ((with_reducible refine g_as ?_); refine l_p txs rfl rfl ?_) | ((with_reducible refine g_st ?_); (refine h_stR recs H 0 rfl rfl rfl rfl rfl rfl rfl rfl rfl (fun w_ H => ?_)))))))
      refine end_ctt recs H 0 rfl rfl rfl rfl rfl rfl rfl ?_
      exact rqR_err hres H.B
    rw [if_neg (by
      rintro (a | a | a)
      · rw [htk] at a; cases a
      · rw [a] at htv; cases htv
      · rw [a, Bool.and_false] at htv; cases htv)] at hst
    repeat' (first | (first | (with_reducible refine p_tn ?_) | (with_reducible refine wp_seq ?_) | (with_reducible refine w_reg ?_) | (with_reducible (refine is_if ?_; (refine w_iff rfl ?_))) | (with_reducible refine wp_skip ?_)) | (first | (with_reducible refine l_nil ?_) | ((with_reducible refine g_on ?_); (first | ((with_reducible refine g_mv ?_); refine l_p txs rfl rfl ?_) | ((with_reducible refine g_pk ?_); refine l_p txs rfl rfl ?_) | ((with_reducible refine g_ia ?_); refine l_ia txs rfl rfl (by first | omega | assumption | decide) (by first | omega | assumption | decide) ?_))) | ((with_reducible refine g_if ?_); ((with_reducible refine g_un ?_); (refine l_p txs rfl rfl ?_)))))
    (with_reducible refine is_l ?_); refine l_ld txs rfl rfl (rdT_cell (rowT_at H 0 rfl) (y := v) (i := 2) rfl) ?_
    skip
    have hver := rversion_c (strOfNums v) w_
    rw [blS bv] at hver
    cases hvs : versS v with
    | none =>
      rw [verI_none hvs] at hver
      rw [hvs] at hst
      have hres := pq_start hcut hst
      (with_reducible refine is_l ?_); refine l_callv rfl rfl (by kernel_rfl) hver (fun w_ K => ?_)
      have H := H.call K
      repeat' (first | (first | (with_reducible refine p_tn ?_) | (with_reducible refine wp_seq ?_) | (with_reducible refine w_reg ?_)) | (first | (with_reducible refine l_nil ?_) | ((with_reducible refine g_on ?_); (first | ((with_reducible refine g_mv ?_); refine l_p txs rfl rfl ?_) | ((with_reducible refine g_as ?_); refine l_p txs rfl rfl ?_) | ((with_reducible refine g_ex ?_); refine l_p txs rfl rfl ?_)))))
      (with_reducible refine is_l ?_); refine l_t txs rfl rfl (fun _ => ?_) (fun hh => absurd (by decide) hh)
      repeat' (first | (first | (with_reducible refine p_tn ?_) | (with_reducible refine wp_seq ?_) | (with_reducible refine w_reg ?_) | (with_reducible (refine is_if ?_; (refine w_ift rfl ?_)))) | (with_reducible refine l_nil ?_))
      (with_reducible refine is_l ?_); refine h_bld rfl rfl built_zR ?_
      repeat' (first | (first | (with_reducible refine p_tn ?_) | (with_reducible refine p_tr ?_) | (with_reducible refine wp_ret ?_)) | (first | (with_reducible refine l_nil ?_) | ((with_reducible refine g_on ?_); (first | ((with_reducible refine g_as ?_); refine l_p txs rfl rfl ?_) | ((with_reducible refine g_st ?_); (refine h_stR recs H 0 rfl rfl rfl rfl rfl rfl rfl rfl rfl (fun w_ H => ?_)))))))
      refine end_ctt recs H 0 rfl rfl rfl rfl rfl rfl rfl ?_
      exact rqR_err hres H.B
    | some ab =>
      obtain ⟨va, minor⟩ := ab
      rw [verI_some hvs] at hver
      have hrng := vers_rng hvs
      rw [hvs] at hst
      simp only at hst
      (with_reducible refine is_l ?_); refine l_callv rfl rfl (by kernel_rfl) hver (fun w_ K => ?_)
      have H := H.call K
      repeat' (first | (first | (with_reducible refine p_tn ?_) | (with_reducible refine wp_seq ?_) | (with_reducible refine w_reg ?_)) | (first | (with_reducible refine l_nil ?_) | ((with_reducible refine g_on ?_); (first | ((with_reducible refine g_mv ?_); refine l_p txs rfl rfl ?_) | ((with_reducible refine g_as ?_); refine l_p txs rfl rfl ?_) | ((with_reducible refine g_ex ?_); refine l_p txs rfl rfl ?_)))))
      (with_reducible refine is_l ?_); refine l_t txs rfl rfl (fun hh => absurd hh (by omega)) (fun _ => ?_)
      repeat' (first | (first | (with_reducible refine p_tn ?_) | (with_reducible refine wp_seq ?_) | (with_reducible refine w_reg ?_) | (with_reducible (refine is_if ?_; (refine w_iff rfl ?_))) | (with_reducible refine wp_skip ?_)) | (first | (with_reducible refine l_nil ?_) | ((with_reducible refine g_on ?_); (first | ((with_reducible refine g_mv ?_); refine l_p txs rfl rfl ?_) | ((with_reducible refine g_ia ?_); refine l_ia txs rfl rfl (by first | omega | assumption | decide) (by first | omega | assumption | decide) ?_)))))
      (with_reducible refine is_l ?_); refine l_ld txs rfl rfl (rdT_cell (rowT_at H 0 rfl) (y := m) (i := 0) rfl) ?_
      skip
      have hkn := rknown_c (hTb _ H.B) (strOfNums m)
      rw [blS bm] at hkn
      (with_reducible refine is_l ?_); refine l_callv rfl rfl (by kernel_rfl) hkn (fun w_ K => ?_)
      have H := H.call K
      cases hme : methodsS.contains m
      · rw [hme] at hst
        have hres := pq_start hcut hst
        repeat' (first | (first | (with_reducible refine p_tn ?_) | (with_reducible refine wp_seq ?_) | (with_reducible refine w_reg ?_) | (with_reducible (refine is_if ?_; (refine w_ift rfl ?_)))) | (first | (with_reducible refine l_nil ?_) | ((with_reducible refine g_on ?_); ((with_reducible refine g_un ?_); (refine l_p txs rfl rfl ?_)))))
        (with_reducible refine is_l ?_); refine h_bld rfl rfl built_zR ?_
        repeat' (first | (first | (with_reducible refine p_tn ?_) | (with_reducible refine p_tr ?_) | (with_reducible refine wp_ret ?_)) | (first | (with_reducible refine l_nil ?_) | ((with_reducible refine g_on ?_); (first | ((with_reducible refine g_as ?_); refine l_p txs rfl rfl ?_) | ((with_reducible refine g_st ?_); (refine h_stR recs H 0 rfl rfl rfl rfl rfl rfl rfl rfl rfl (fun w_ H => ?_)))))))
        refine end_ctt recs H 0 rfl rfl rfl rfl rfl rfl rfl ?_
        exact rqR_err hres H.B
      rw [hme] at hst
      rw [if_neg (by simp)] at hst
      repeat' (first | (first | (with_reducible refine p_tn ?_) | (with_reducible refine wp_seq ?_) | (with_reducible refine w_reg ?_) | (with_reducible (refine is_if ?_; (refine w_iff rfl ?_))) | (with_reducible refine wp_skip ?_)) | (first | (with_reducible refine l_nil ?_) | ((with_reducible refine g_on ?_); (first | ((with_reducible refine g_mv ?_); refine l_p txs rfl rfl ?_) | ((with_reducible refine g_un ?_); (refine l_p txs rfl rfl ?_))))))
      (with_reducible refine is_l ?_); refine l_t txs rfl rfl (fun h3 => ?_) (fun h3 => ?_)
      · rw [if_neg (fun a => h3 a.1)] at hst
        have hres := pq_start hcut hst
        repeat' (first | (first | (with_reducible refine p_tn ?_) | (with_reducible refine wp_seq ?_) | (with_reducible refine w_reg ?_) | (with_reducible (refine is_if ?_; (refine w_ift rfl ?_)))) | (first | (with_reducible refine l_nil ?_) | ((with_reducible refine g_on ?_); (first | ((with_reducible refine g_mv ?_); refine l_p txs rfl rfl ?_) | ((with_reducible refine g_pk ?_); refine l_p txs rfl rfl ?_))) | ((with_reducible refine g_if ?_); (refine l_off rfl ?_))))
        (with_reducible refine is_l ?_); refine h_bld rfl rfl built_zR ?_
        repeat' (first | (first | (with_reducible refine p_tn ?_) | (with_reducible refine p_tr ?_) | (with_reducible refine wp_ret ?_)) | (first | (with_reducible refine l_nil ?_) | ((with_reducible refine g_on ?_); (first | ((with_reducible refine g_as ?_); refine l_p txs rfl rfl ?_) | ((with_reducible refine g_st ?_); (refine h_stR recs H 0 rfl rfl rfl rfl rfl rfl rfl rfl rfl (fun w_ H => ?_)))))))
        refine end_ctt recs H 0 rfl rfl rfl rfl rfl rfl rfl ?_
        exact rqR_err hres H.B
      repeat' (first | ((with_reducible refine g_on ?_); ((with_reducible refine g_mv ?_); refine l_p txs rfl rfl ?_)) | ((with_reducible refine g_if ?_); ((with_reducible refine g_mv ?_); refine l_p txs rfl rfl ?_)))
      (with_reducible refine is_l ?_); refine l_t txs rfl rfl (fun h4 => ?_) (fun h4 => ?_)
      · rw [if_neg (fun a => by omega)] at hst
        have hres := pq_start hcut hst
        repeat' (first | (first | (with_reducible refine p_tn ?_) | (with_reducible refine wp_seq ?_) | (with_reducible refine w_reg ?_) | (with_reducible (refine is_if ?_; (refine w_ift rfl ?_)))) | (first | (with_reducible refine l_nil ?_) | ((with_reducible refine g_on ?_); ((with_reducible refine g_pk ?_); refine l_p txs rfl rfl ?_))))
        (with_reducible refine is_l ?_); refine h_bld rfl rfl built_zR ?_
        repeat' (first | (first | (with_reducible refine p_tn ?_) | (with_reducible refine p_tr ?_) | (with_reducible refine wp_ret ?_)) | (first | (with_reducible refine l_nil ?_) | ((with_reducible refine g_on ?_); (first | ((with_reducible refine g_as ?_); refine l_p txs rfl rfl ?_) | ((with_reducible refine g_st ?_); (refine h_stR recs H 0 rfl rfl rfl rfl rfl rfl rfl rfl rfl (fun w_ H => ?_)))))))
        refine end_ctt recs H 0 rfl rfl rfl rfl rfl rfl rfl ?_
        exact rqR_err hres H.B
      rw [if_pos (by constructor <;> omega)] at hst
      repeat' (first | (first | (with_reducible refine p_tn ?_) | (with_reducible refine wp_seq ?_) | (with_reducible refine w_reg ?_) | (with_reducible (refine is_if ?_; (refine w_iff rfl ?_))) | (with_reducible refine wp_skip ?_)) | (first | (with_reducible refine l_nil ?_) | ((with_reducible refine g_on ?_); (first | ((with_reducible refine g_mv ?_); refine l_p txs rfl rfl ?_) | ((with_reducible refine g_pk ?_); refine l_p txs rfl rfl ?_)))))
      (with_reducible refine is_l ?_); refine l_call rfl rfl (by kernel_rfl) (rfields_c (rowT_at H 1 rfl) hb2) (fun e w_ hR => ?_)
      unfold FsT at hR
      cases hfe : fieldsE ls with
      | error k =>
        rw [hfe] at hR
        obtain ⟨A3, n3, c3, rfl, K⟩ := hR
        refine ⟨_, rfl, ?_⟩
        have hres := pq_fields hcut hst hfe
        have H := H.call K
        have hke : k = 2 ∨ k = 143 := by
          unfold fieldsE at hfe
          split at hfe
          · simp only [Except.error.injEq] at hfe; omega
          · split at hfe
            · simp only [Except.error.injEq] at hfe; omega
            · cases hfe
        repeat' (first | (first | (with_reducible refine p_tn ?_) | (with_reducible refine wp_seq ?_) | (with_reducible refine w_reg ?_)) | (first | (with_reducible refine l_nil ?_) | ((with_reducible refine g_on ?_); (first | ((with_reducible refine g_mv ?_); refine l_p txs rfl rfl ?_) | ((with_reducible refine g_as ?_); refine l_p txs rfl rfl ?_) | ((with_reducible refine g_ex ?_); refine l_p txs rfl rfl ?_)))))
        (with_reducible refine is_l ?_); refine l_t txs rfl rfl (fun hh => absurd hh (by omega)) (fun _ => ?_)
        repeat' (first | (first | (with_reducible refine p_tn ?_) | (with_reducible refine wp_seq ?_) | (with_reducible refine w_reg ?_) | (with_reducible (refine is_if ?_; (refine w_iff rfl ?_))) | (with_reducible refine wp_skip ?_)) | (first | (with_reducible refine l_nil ?_) | ((with_reducible refine g_on ?_); ((with_reducible refine g_mv ?_); refine l_p txs rfl rfl ?_))))
        (with_reducible refine is_l ?_); refine l_t txs rfl rfl (fun _ => ?_) (fun hh => absurd (by omega) hh)
        repeat' (first | (first | (with_reducible refine p_tn ?_) | (with_reducible refine wp_seq ?_) | (with_reducible refine w_reg ?_) | (with_reducible (refine is_if ?_; (refine w_ift rfl ?_)))) | (with_reducible refine l_nil ?_))
        (with_reducible refine is_l ?_); refine h_bld rfl rfl built_zR ?_
        repeat' (first | (first | (with_reducible refine p_tn ?_) | (with_reducible refine p_tr ?_) | (with_reducible refine wp_ret ?_)) | (first | (with_reducible refine l_nil ?_) | ((with_reducible refine g_on ?_); (first | ((with_reducible refine g_mv ?_); refine l_p txs rfl rfl ?_) | ((with_reducible refine g_as ?_); refine l_p txs rfl rfl ?_) | ((with_reducible refine g_st ?_); (refine h_stR recs H 0 rfl rfl rfl rfl rfl rfl rfl rfl rfl (fun w_ H => ?_)))))))
        refine end_ctt recs H 0 rfl rfl rfl rfl rfl rfl rfl ?_
        exact rqR_err hres H.B
      | ok l =>
        rw [hfe] at hR
        obtain ⟨A3, c3, rfl, K⟩ := hR
        refine ⟨_, rfl, ?_⟩
        obtain ⟨hbl, hll⟩ := fieldsE_bytes hb2 hfe
        have H := H.join K
        repeat' (first | (first | (with_reducible refine p_tn ?_) | (with_reducible refine wp_seq ?_) | (with_reducible refine w_reg ?_)) | (first | (with_reducible refine l_nil ?_) | ((with_reducible refine g_on ?_); (first | ((with_reducible refine g_mv ?_); refine l_p txs rfl rfl ?_) | ((with_reducible refine g_as ?_); refine l_p txs rfl rfl ?_) | ((with_reducible refine g_ex ?_); refine l_p txs rfl rfl ?_)))))
        (with_reducible refine is_l ?_); refine l_t txs rfl rfl (fun _ => ?_) (fun hh => absurd rfl hh)
        repeat' (first | (first | (with_reducible refine p_tn ?_) | (with_reducible refine w_reg ?_) | (with_reducible (refine is_if ?_; (refine w_ift rfl ?_)))) | (first | (with_reducible refine l_nil ?_) | ((with_reducible refine g_on ?_); ((with_reducible refine g_mv ?_); refine l_p txs rfl rfl ?_))))
        (with_reducible refine is_l ?_); refine l_callv rfl rfl (by kernel_rfl) (rhost_c (rowG_at H 0 rfl) hbl (by omega) minor) (fun w_ K => ?_)
        have H := H.call K
        cases hh : hostOk l minor
        · have hres := pq_host hcut hst hfe hh
          have e1 : (if false = true then (0 : Int) else 144) = 144 := rfl
          rw [e1]
          repeat' (first | (first | (with_reducible refine p_tn ?_) | (with_reducible refine wp_seq ?_) | (with_reducible refine w_reg ?_)) | (first | (with_reducible refine l_nil ?_) | ((with_reducible refine g_on ?_); (first | ((with_reducible refine g_mv ?_); refine l_p txs rfl rfl ?_) | ((with_reducible refine g_as ?_); refine l_p txs rfl rfl ?_)))))
          (with_reducible refine is_l ?_); refine l_t txs rfl rfl (fun _ => ?_) (fun hh => absurd (by decide) hh)
          repeat' (first | (first | (with_reducible refine p_tn ?_) | (with_reducible refine wp_seq ?_) | (with_reducible refine w_reg ?_) | (with_reducible (refine is_if ?_; (refine w_ift rfl ?_)))) | (with_reducible refine l_nil ?_))
          (with_reducible refine is_l ?_); refine h_bld rfl rfl built_zR ?_
          repeat' (first | (first | (with_reducible refine p_tn ?_) | (with_reducible refine p_tr ?_) | (with_reducible refine wp_ret ?_)) | (first | (with_reducible refine l_nil ?_) | ((with_reducible refine g_on ?_); (first | ((with_reducible refine g_mv ?_); refine l_p txs rfl rfl ?_) | ((with_reducible refine g_as ?_); refine l_p txs rfl rfl ?_) | ((with_reducible refine g_st ?_); (refine h_stR recs H 0 rfl rfl rfl rfl rfl rfl rfl rfl rfl (fun w_ H => ?_)))))))
          refine end_ctt recs H 0 rfl rfl rfl rfl rfl rfl rfl ?_
          exact rqR_err hres H.B
        have e1 : (if true = true then (0 : Int) else 144) = 0 := rfl
        rw [e1]
        repeat' (first | (first | (with_reducible refine p_tn ?_) | (with_reducible refine wp_seq ?_) | (with_reducible refine w_reg ?_)) | (first | (with_reducible refine l_nil ?_) | ((with_reducible refine g_on ?_); (first | ((with_reducible refine g_mv ?_); refine l_p txs rfl rfl ?_) | ((with_reducible refine g_as ?_); refine l_p txs rfl rfl ?_)))))
        (with_reducible refine is_l ?_); refine l_t txs rfl rfl (fun hh => absurd rfl hh) (fun _ => ?_)
        repeat' (first | (first | (with_reducible refine p_tn ?_) | (with_reducible refine wp_seq ?_) | (with_reducible refine w_reg ?_) | (with_reducible (refine is_if ?_; (refine w_iff rfl ?_))) | (with_reducible refine wp_skip ?_)) | (first | (with_reducible refine l_nil ?_) | ((with_reducible refine g_on ?_); ((with_reducible refine g_mv ?_); refine l_p txs rfl rfl ?_))))
        have hlen := rlength_c (c := c3) (rowG_at H 0 rfl) hbl (by omega) minor
        cases hfs : frameS l minor with
        | error k =>
          rw [lenV_err hfs] at hlen
          have hres := pq_frame hcut hst hfe hh hfs
          have hk0 := frame_code hfs
          (with_reducible refine is_l ?_); refine l_callv rfl rfl (by kernel_rfl) hlen (fun w_ K => ?_)
          have H := H.call K
          repeat' (first | (first | (with_reducible refine p_tn ?_) | (with_reducible refine wp_seq ?_) | (with_reducible refine w_reg ?_)) | (first | (with_reducible refine l_nil ?_) | ((with_reducible refine g_on ?_); (first | ((with_reducible refine g_mv ?_); refine l_p txs rfl rfl ?_) | ((with_reducible refine g_as ?_); refine l_p txs rfl rfl ?_) | ((with_reducible refine g_ex ?_); refine l_p txs rfl rfl ?_)))))
          (with_reducible refine is_l ?_); refine l_t txs rfl rfl (fun _ => ?_) (fun hh => absurd (by omega) hh)
          repeat' (first | (first | (with_reducible refine p_tn ?_) | (with_reducible refine wp_seq ?_) | (with_reducible refine w_reg ?_) | (with_reducible (refine is_if ?_; (refine w_ift rfl ?_)))) | (with_reducible refine l_nil ?_))
          (with_reducible refine is_l ?_); refine h_bld rfl rfl built_zR ?_
          repeat' (first | (first | (with_reducible refine p_tn ?_) | (with_reducible refine p_tr ?_) | (with_reducible refine wp_ret ?_)) | (first | (with_reducible refine l_nil ?_) | ((with_reducible refine g_on ?_); (first | ((with_reducible refine g_mv ?_); refine l_p txs rfl rfl ?_) | ((with_reducible refine g_as ?_); refine l_p txs rfl rfl ?_) | ((with_reducible refine g_st ?_); (refine h_stR recs H 0 rfl rfl rfl rfl rfl rfl rfl rfl rfl (fun w_ H => ?_)))))))
          refine end_ctt recs H 0 rfl rfl rfl rfl rfl rfl rfl ?_
          exact rqR_err hres H.B
        | ok fr =>
          rw [lenV_ok hfs] at hlen
          have hfi := frI_le hfs
          (with_reducible refine is_l ?_); refine l_callv rfl rfl (by kernel_rfl) hlen (fun w_ K => ?_)
          have H := H.call K
          repeat' (first | (first | (with_reducible refine p_tn ?_) | (with_reducible refine wp_seq ?_) | (with_reducible refine w_reg ?_)) | (first | (with_reducible refine l_nil ?_) | ((with_reducible refine g_on ?_); (first | ((with_reducible refine g_mv ?_); refine l_p txs rfl rfl ?_) | ((with_reducible refine g_as ?_); refine l_p txs rfl rfl ?_) | ((with_reducible refine g_ex ?_); refine l_p txs rfl rfl ?_)))))
          (with_reducible refine is_l ?_); refine l_t txs rfl rfl (fun hh => absurd rfl hh) (fun _ => ?_)
          repeat' (first | (first | (with_reducible refine p_tn ?_) | (with_reducible refine wp_seq ?_) | (with_reducible refine w_reg ?_) | (with_reducible (refine is_if ?_; (refine w_iff rfl ?_))) | (with_reducible refine wp_skip ?_)) | (first | (with_reducible refine l_nil ?_) | ((with_reducible refine g_on ?_); ((with_reducible refine g_mv ?_); refine l_p txs rfl rfl ?_))))
          (with_reducible refine is_l ?_); refine l_t txs rfl rfl (fun h5 => ?_) (fun h5 => ?_)
          · have := frN_none h5
            subst this
            have hbody : ∀ (s : ByteArray) (w : World), s.size ≤ 100000000 → Calls Tryz.prog 129 #[.string s, .int .i64 0] w (BoR w (bl s) .none) := fun s w hs => rbody_c s w hs .none (by decide)
            obtain ⟨gr, hgr⟩ : ∃ g : Wb.Frame, g = .none := ⟨_, rfl⟩
            rw [← hgr] at hfs hbody
            repeat' (first | (first | (with_reducible refine p_tn ?_) | (with_reducible refine wp_seq ?_) | (with_reducible refine w_reg ?_) | (with_reducible (refine is_if ?_; (refine w_ift rfl ?_)))) | (first | (with_reducible refine l_nil ?_) | ((with_reducible refine g_on ?_); (first | ((with_reducible refine g_mv ?_); refine l_p txs rfl rfl ?_) | ((with_reducible refine g_as ?_); refine l_p txs rfl rfl ?_) | ((with_reducible refine g_sl ?_); refine l_sl txs rfl rfl (by first | omega | assumption | decide) (by first | omega | assumption | decide) (by first | omega | assumption | decide) ?_)))))
            have hx : bl ((strOfNums b).extract (((b.length - rest.length : Nat) : Int)).toNat (((strOfNums b).size : Int)).toNat) = rest := by
              rw [blE, hbs, Int.toNat_natCast, Int.toNat_natCast, zb, hrest, List.take_of_length_le (by omega)]
            have hxs : ((strOfNums b).extract (((b.length - rest.length : Nat) : Int)).toNat (((strOfNums b).size : Int)).toNat).size = rest.length := by rw [← bl_length, hx]
            (with_reducible refine is_l ?_); refine l_call rfl rfl (by kernel_rfl) (hbody _ _ (by omega)) (fun e w_ hR => ?_)
            unfold BoR at hR
            rw [hx] at hR
            cases hbo : bodyS rest gr with
            | error k =>
              rw [hbo] at hR
              obtain ⟨A7, m7, c7, n7, rfl, K⟩ := hR
              refine ⟨_, rfl, ?_⟩
              have hres := pq_body hcut hst hfe hh hfs hbo
              have hk0 := rbody_code hbo
              have H := H.call K
              repeat' (first | (first | (with_reducible refine p_tn ?_) | (with_reducible refine wp_seq ?_) | (with_reducible refine w_reg ?_)) | (first | (with_reducible refine l_nil ?_) | ((with_reducible refine g_on ?_); (first | ((with_reducible refine g_mv ?_); refine l_p txs rfl rfl ?_) | ((with_reducible refine g_as ?_); refine l_p txs rfl rfl ?_) | ((with_reducible refine g_ex ?_); refine l_p txs rfl rfl ?_)))))
              (with_reducible refine is_l ?_); refine l_t txs rfl rfl (fun _ => ?_) (fun hh => absurd (by omega) hh)
              repeat' (first | (first | (with_reducible refine p_tn ?_) | (with_reducible refine wp_seq ?_) | (with_reducible refine w_reg ?_) | (with_reducible (refine is_if ?_; (refine w_ift rfl ?_)))) | (with_reducible refine l_nil ?_))
              (with_reducible refine is_l ?_); refine h_bld rfl rfl built_zR ?_
              repeat' (first | (first | (with_reducible refine p_tn ?_) | (with_reducible refine p_tr ?_) | (with_reducible refine wp_ret ?_)) | (first | (with_reducible refine l_nil ?_) | ((with_reducible refine g_on ?_); (first | ((with_reducible refine g_mv ?_); refine l_p txs rfl rfl ?_) | ((with_reducible refine g_as ?_); refine l_p txs rfl rfl ?_) | ((with_reducible refine g_st ?_); (refine h_stR recs H 0 rfl rfl rfl rfl rfl rfl rfl rfl rfl (fun w_ H => ?_)))))))
              refine end_ctt recs H 0 rfl rfl rfl rfl rfl rfl rfl ?_
              exact rqR_err hres H.B
            | ok z =>
              obtain ⟨bd, k⟩ := z
              rw [hbo] at hR
              obtain ⟨Bb, cb, rfl, K, hBd, hBk⟩ := hR
              refine ⟨_, rfl, ?_⟩
              have hres := pq_ok hcut hst hfe hh hfs hbo
              have hkl := bodyS_le hbo
              have hgl := H.lt (i := 0) rfl
              have hmi : minor = 0 ∨ minor = 1 := by omega
              have H := H.call K
              repeat' (first | (first | (with_reducible refine p_tn ?_) | (with_reducible refine wp_seq ?_) | (with_reducible refine w_reg ?_)) | (first | (with_reducible refine l_nil ?_) | ((with_reducible refine g_on ?_); (first | ((with_reducible refine g_mv ?_); refine l_p txs rfl rfl ?_) | ((with_reducible refine g_as ?_); refine l_p txs rfl rfl ?_) | ((with_reducible refine g_ex ?_); refine l_p txs rfl rfl ?_)))))
              (with_reducible refine is_l ?_); refine l_t txs rfl rfl (fun hh => absurd rfl hh) (fun _ => ?_)
              repeat' (first | (first | (with_reducible refine p_tn ?_) | (with_reducible refine wp_seq ?_) | (with_reducible (refine is_if ?_; (refine w_iff rfl ?_))) | (with_reducible refine wp_skip ?_)) | (with_reducible refine l_nil ?_))
              have hcm := rdT_cell (rowT_at H 1 rfl) (y := m) (i := 0) rfl
              have hct := rdT_cell (rowT_at H 1 rfl) (y := t) (i := 1) rfl
              have hFd := rowG_at H 0 rfl
              obtain ⟨w, hwf⟩ : ∃ wf, wf = w_ := ⟨_, rfl⟩
              rw [← hwf] at H hcm hct hFd hBd ⊢
              have H0 := H
              have H : Hp w w [] [] := Hp.nil _
              have HS := H.pick [] [] (by decide) (by decide) rfl rfl
              refine e_start (fun w_ => Hp w w_ _ _) [16] #[false, false, false, false, false, false, false, false, false, false, false, false, false, false, false, false, false, false, false] (by kernel_rfl) rfl rfl HS.drew ?_
              have H := H.drew
              have HS := HS.drew
              first | (refine e_pure (i := 0) #[true, false, false, false, false, false, false, false, false, false, false, false, false, false, false, false, false, false, false] rfl (by kernel_rfl) (fun _ _ _ h => h) rfl (fun w_ => evP_run (o := ⟨_, _, _, _, _, _⟩) txs rfl) ?_)
              first | (refine e_pure (i := 1) #[true, true, false, false, false, false, false, false, false, false, false, false, false, false, false, false, false, false, false] rfl (by kernel_rfl) (fun _ _ _ h => h) rfl (fun w_ => evIA_run (o := ⟨_, _, _, _, _, _⟩) txs rfl (by omega) (by omega)) ?_)
              first | (refine e_take (i := 2) #[true, true, true, false, false, false, false, false, false, false, false, false, false, false, false, false, false, false, false] rfl (by kernel_rfl) (fun _ _ _ h => h) rfl (fun w_ K => evL_run (o := ⟨_, _, _, _, _, _⟩) txs rfl (K.old hcm)) HS ?_)
              first | (refine e_pure (i := 3) #[true, true, true, true, false, false, false, false, false, false, false, false, false, false, false, false, false, false, false] rfl (by kernel_rfl) (fun _ _ _ h => h) rfl (fun w_ => evP_run (o := ⟨_, _, _, _, _, _⟩) txs rfl) ?_)
              first | (refine e_pure (i := 4) #[true, true, true, true, true, false, false, false, false, false, false, false, false, false, false, false, false, false, false] rfl (by kernel_rfl) (fun _ _ _ h => h) rfl (fun w_ => evIA_run (o := ⟨_, _, _, _, _, _⟩) txs rfl (by omega) (by omega)) ?_)
              first | (refine e_take (i := 5) #[true, true, true, true, true, true, false, false, false, false, false, false, false, false, false, false, false, false, false] rfl (by kernel_rfl) (fun _ _ _ h => h) rfl (fun w_ K => evL_run (o := ⟨_, _, _, _, _, _⟩) txs rfl (K.old hct)) HS ?_)
              first | (refine e_pure (i := 6) #[true, true, true, true, true, true, true, false, false, false, false, false, false, false, false, false, false, false, false] rfl (by kernel_rfl) (fun _ _ _ h => h) rfl (fun w_ => evP_run (o := ⟨_, _, _, _, _, _⟩) txs rfl) ?_)
              first | (refine e_pure (i := 7) #[true, true, true, true, true, true, true, true, false, false, false, false, false, false, false, false, false, false, false] rfl (by kernel_rfl) (fun _ _ _ h => h) rfl (fun w_ => evP_run (o := ⟨_, _, _, _, _, _⟩) txs rfl) ?_)
              first | (refine e_pure (i := 8) #[true, true, true, true, true, true, true, true, true, false, false, false, false, false, false, false, false, false, false] rfl (by kernel_rfl) (fun _ _ _ h => h) rfl (fun w_ => evP_run (o := ⟨_, _, _, _, _, _⟩) txs rfl) ?_)
              first | (refine e_pure (i := 9) #[true, true, true, true, true, true, true, true, true, true, false, false, false, false, false, false, false, false, false] rfl (by kernel_rfl) (fun _ _ _ h => h) rfl (fun w_ => evP_run (o := ⟨_, _, _, _, _, _⟩) txs rfl) ?_)
              first | (refine e_pure (i := 10) #[true, true, true, true, true, true, true, true, true, true, true, false, false, false, false, false, false, false, false] rfl (by kernel_rfl) (fun _ _ _ h => h) rfl (fun w_ => evP_run (o := ⟨_, _, _, _, _, _⟩) txs rfl) ?_)
              first | (refine e_pure (i := 13) #[true, true, true, true, true, true, true, true, true, true, true, false, false, true, false, false, false, false, false] rfl (by kernel_rfl) (fun _ _ _ h => h) rfl (fun w_ => evP_run (o := ⟨_, _, _, _, _, _⟩) txs rfl) ?_)
              first | (refine e_pure (i := 14) #[true, true, true, true, true, true, true, true, true, true, true, false, false, true, true, false, false, false, false] rfl (by kernel_rfl) (fun _ _ _ h => h) rfl (fun w_ => evP_run (o := ⟨_, _, _, _, _, _⟩) txs rfl) ?_)
              first | (refine e_pure (i := 15) #[true, true, true, true, true, true, true, true, true, true, true, false, false, true, true, true, false, false, false] rfl (by kernel_rfl) (fun _ _ _ h => h) rfl (fun w_ => evP_run (o := ⟨_, _, _, _, _, _⟩) txs rfl) ?_) | (refine e_pure (i := 15) #[true, true, true, true, true, true, true, true, true, true, true, false, false, true, true, true, false, false, false] rfl (by kernel_rfl) (fun _ _ _ h => h) rfl (fun w_ => (evA_run (o := ⟨_, _, _, _, _, _⟩) txs rfl).trans (by rw [wrap_in (by first | exact in_i64 (by omega) (by omega) | exact in_u8 (by omega) (by omega) | exact in_u64 (by omega) (by omega) | exact in_i32 (by omega) (by omega))])) ?_)
              refine e_one (i := 11) #[true, true, true, true, true, true, true, true, true, true, true, true, false, true, true, true, false, false, false] rfl (by kernel_rfl) (by decide) rfl ?_
              refine l_callv rfl rfl (by kernel_rfl) (rcloses_c (c := c3) (hFd.below H.B) hbl (by omega) minor hmi) (fun w_ K => ?_); have H := H.call K
              refine l_nil ?_
              have HS := H.pick [] [] (by decide) (by decide) rfl rfl
              refine ⟨rfl, HS, ?_⟩
              first | (refine e_pure (i := 12) #[true, true, true, true, true, true, true, true, true, true, true, true, true, true, true, true, false, false, false] rfl (by kernel_rfl) (fun _ _ _ h => h) rfl (fun w_ => evBld_run (o := ⟨_, _, _, _, _, _⟩) rfl (built_rr _ _ _ _ _ _ _ _ _ _)) ?_)
              refine e_last (i := 16) #[true, true, true, true, true, true, true, true, true, true, true, true, true, true, true, true, true, false, false] rfl (by kernel_rfl) (by decide) rfl ?_
              have HB := H.B; refine h_stRg recs (H0.join H) 0 rfl rfl rfl rfl rfl rfl rfl rfl rfl (fun w_ H hg => ?_)
              refine l_nil ?_
              refine ⟨rfl, ?_⟩
              first | (refine e_pure (i := 17) #[true, true, true, true, true, true, true, true, true, true, true, true, true, true, true, true, true, true, false] rfl (by kernel_rfl) (fun _ _ _ h => h) rfl (fun w_ => evP_run (o := ⟨_, _, _, _, _, _⟩) txs rfl) ?_)
              first | (refine e_pure (i := 18) #[true, true, true, true, true, true, true, true, true, true, true, true, true, true, true, true, true, true, true] rfl (by kernel_rfl) (fun _ _ _ h => h) rfl (fun w_ => evP_run (o := ⟨_, _, _, _, _, _⟩) txs rfl) ?_)
              refine e_done rfl ?_
              repeat' (first | (with_reducible refine p_tn ?_) | (with_reducible refine wp_ret ?_))
              refine end_ctt recs H 0 rfl rfl rfl rfl rfl rfl rfl ?_
              have e : (((b.length - rest.length : Nat) : Int) + (k : Int)) = ((b.length - rest.length + k : Nat) : Int) := by omega
              rw [e]
              unfold RqR
              rw [hres]
              exact ⟨A3, c3, Bb, cb, rfl, H.B, rowG_at H 0 rfl, reads_other (hBd.below HB) hg (fun ad e => by have := hBk ad e; omega)⟩
          · rw [frN_some h5]
            have hbody : ∀ (s : ByteArray) (w : World), s.size ≤ 100000000 → Calls Tryz.prog 129 #[.string s, .int .i64 (frI fr)] w (BoR w (bl s) fr) := fun s w hs => rbody_c s w hs fr (Int.le_trans hfi (by decide))
            obtain ⟨gr, hgr⟩ : ∃ g : Wb.Frame, g = fr := ⟨_, rfl⟩
            rw [← hgr] at hfs hbody
            rw [← hgr]
            repeat' (first | (first | (with_reducible refine p_tn ?_) | (with_reducible refine wp_seq ?_) | (with_reducible refine w_reg ?_) | (with_reducible (refine is_if ?_; (refine w_iff rfl ?_))) | (with_reducible refine wp_skip ?_)) | (first | (with_reducible refine l_nil ?_) | ((with_reducible refine g_on ?_); (first | ((with_reducible refine g_mv ?_); refine l_p txs rfl rfl ?_) | ((with_reducible refine g_sl ?_); refine l_sl txs rfl rfl (by first | omega | assumption | decide) (by first | omega | assumption | decide) (by first | omega | assumption | decide) ?_)))))
            have hx : bl ((strOfNums b).extract (((b.length - rest.length : Nat) : Int)).toNat (((strOfNums b).size : Int)).toNat) = rest := by
              rw [blE, hbs, Int.toNat_natCast, Int.toNat_natCast, zb, hrest, List.take_of_length_le (by omega)]
            have hxs : ((strOfNums b).extract (((b.length - rest.length : Nat) : Int)).toNat (((strOfNums b).size : Int)).toNat).size = rest.length := by rw [← bl_length, hx]
            (with_reducible refine is_l ?_); refine l_call rfl rfl (by kernel_rfl) (hbody _ _ (by omega)) (fun e w_ hR => ?_)
            unfold BoR at hR
            rw [hx] at hR
            cases hbo : bodyS rest gr with
            | error k =>
              rw [hbo] at hR
              obtain ⟨A7, m7, c7, n7, rfl, K⟩ := hR
              refine ⟨_, rfl, ?_⟩
              have hres := pq_body hcut hst hfe hh hfs hbo
              have hk0 := rbody_code hbo
              have H := H.call K
              repeat' (first | (first | (with_reducible refine p_tn ?_) | (with_reducible refine wp_seq ?_) | (with_reducible refine w_reg ?_)) | (first | (with_reducible refine l_nil ?_) | ((with_reducible refine g_on ?_); (first | ((with_reducible refine g_mv ?_); refine l_p txs rfl rfl ?_) | ((with_reducible refine g_as ?_); refine l_p txs rfl rfl ?_) | ((with_reducible refine g_ex ?_); refine l_p txs rfl rfl ?_)))))
              (with_reducible refine is_l ?_); refine l_t txs rfl rfl (fun _ => ?_) (fun hh => absurd (by omega) hh)
              repeat' (first | (first | (with_reducible refine p_tn ?_) | (with_reducible refine wp_seq ?_) | (with_reducible refine w_reg ?_) | (with_reducible (refine is_if ?_; (refine w_ift rfl ?_)))) | (with_reducible refine l_nil ?_))
              (with_reducible refine is_l ?_); refine h_bld rfl rfl built_zR ?_
              repeat' (first | (first | (with_reducible refine p_tn ?_) | (with_reducible refine p_tr ?_) | (with_reducible refine wp_ret ?_)) | (first | (with_reducible refine l_nil ?_) | ((with_reducible refine g_on ?_); (first | ((with_reducible refine g_mv ?_); refine l_p txs rfl rfl ?_) | ((with_reducible refine g_as ?_); refine l_p txs rfl rfl ?_) | ((with_reducible refine g_st ?_); (refine h_stR recs H 0 rfl rfl rfl rfl rfl rfl rfl rfl rfl (fun w_ H => ?_)))))))
              refine end_ctt recs H 0 rfl rfl rfl rfl rfl rfl rfl ?_
              exact rqR_err hres H.B
            | ok z =>
              obtain ⟨bd, k⟩ := z
              rw [hbo] at hR
              obtain ⟨Bb, cb, rfl, K, hBd, hBk⟩ := hR
              refine ⟨_, rfl, ?_⟩
              have hres := pq_ok hcut hst hfe hh hfs hbo
              have hkl := bodyS_le hbo
              have hgl := H.lt (i := 0) rfl
              have hmi : minor = 0 ∨ minor = 1 := by omega
              have H := H.call K
              repeat' (first | (first | (with_reducible refine p_tn ?_) | (with_reducible refine wp_seq ?_) | (with_reducible refine w_reg ?_)) | (first | (with_reducible refine l_nil ?_) | ((with_reducible refine g_on ?_); (first | ((with_reducible refine g_mv ?_); refine l_p txs rfl rfl ?_) | ((with_reducible refine g_as ?_); refine l_p txs rfl rfl ?_) | ((with_reducible refine g_ex ?_); refine l_p txs rfl rfl ?_)))))
              (with_reducible refine is_l ?_); refine l_t txs rfl rfl (fun hh => absurd rfl hh) (fun _ => ?_)
              repeat' (first | (first | (with_reducible refine p_tn ?_) | (with_reducible refine wp_seq ?_) | (with_reducible (refine is_if ?_; (refine w_iff rfl ?_))) | (with_reducible refine wp_skip ?_)) | (with_reducible refine l_nil ?_))
              have hcm := rdT_cell (rowT_at H 1 rfl) (y := m) (i := 0) rfl
              have hct := rdT_cell (rowT_at H 1 rfl) (y := t) (i := 1) rfl
              have hFd := rowG_at H 0 rfl
              obtain ⟨w, hwf⟩ : ∃ wf, wf = w_ := ⟨_, rfl⟩
              rw [← hwf] at H hcm hct hFd hBd ⊢
              have H0 := H
              have H : Hp w w [] [] := Hp.nil _
              have HS := H.pick [] [] (by decide) (by decide) rfl rfl
              refine e_start (fun w_ => Hp w w_ _ _) [16] #[false, false, false, false, false, false, false, false, false, false, false, false, false, false, false, false, false, false, false] (by kernel_rfl) rfl rfl HS.drew ?_
              have H := H.drew
              have HS := HS.drew
              first | (refine e_pure (i := 0) #[true, false, false, false, false, false, false, false, false, false, false, false, false, false, false, false, false, false, false] rfl (by kernel_rfl) (fun _ _ _ h => h) rfl (fun w_ => evP_run (o := ⟨_, _, _, _, _, _⟩) txs rfl) ?_)
              first | (refine e_pure (i := 1) #[true, true, false, false, false, false, false, false, false, false, false, false, false, false, false, false, false, false, false] rfl (by kernel_rfl) (fun _ _ _ h => h) rfl (fun w_ => evIA_run (o := ⟨_, _, _, _, _, _⟩) txs rfl (by omega) (by omega)) ?_)
              first | (refine e_take (i := 2) #[true, true, true, false, false, false, false, false, false, false, false, false, false, false, false, false, false, false, false] rfl (by kernel_rfl) (fun _ _ _ h => h) rfl (fun w_ K => evL_run (o := ⟨_, _, _, _, _, _⟩) txs rfl (K.old hcm)) HS ?_)
              first | (refine e_pure (i := 3) #[true, true, true, true, false, false, false, false, false, false, false, false, false, false, false, false, false, false, false] rfl (by kernel_rfl) (fun _ _ _ h => h) rfl (fun w_ => evP_run (o := ⟨_, _, _, _, _, _⟩) txs rfl) ?_)
              first | (refine e_pure (i := 4) #[true, true, true, true, true, false, false, false, false, false, false, false, false, false, false, false, false, false, false] rfl (by kernel_rfl) (fun _ _ _ h => h) rfl (fun w_ => evIA_run (o := ⟨_, _, _, _, _, _⟩) txs rfl (by omega) (by omega)) ?_)
              first | (refine e_take (i := 5) #[true, true, true, true, true, true, false, false, false, false, false, false, false, false, false, false, false, false, false] rfl (by kernel_rfl) (fun _ _ _ h => h) rfl (fun w_ K => evL_run (o := ⟨_, _, _, _, _, _⟩) txs rfl (K.old hct)) HS ?_)
              first | (refine e_pure (i := 6) #[true, true, true, true, true, true, true, false, false, false, false, false, false, false, false, false, false, false, false] rfl (by kernel_rfl) (fun _ _ _ h => h) rfl (fun w_ => evP_run (o := ⟨_, _, _, _, _, _⟩) txs rfl) ?_)
              first | (refine e_pure (i := 7) #[true, true, true, true, true, true, true, true, false, false, false, false, false, false, false, false, false, false, false] rfl (by kernel_rfl) (fun _ _ _ h => h) rfl (fun w_ => evP_run (o := ⟨_, _, _, _, _, _⟩) txs rfl) ?_)
              first | (refine e_pure (i := 8) #[true, true, true, true, true, true, true, true, true, false, false, false, false, false, false, false, false, false, false] rfl (by kernel_rfl) (fun _ _ _ h => h) rfl (fun w_ => evP_run (o := ⟨_, _, _, _, _, _⟩) txs rfl) ?_)
              first | (refine e_pure (i := 9) #[true, true, true, true, true, true, true, true, true, true, false, false, false, false, false, false, false, false, false] rfl (by kernel_rfl) (fun _ _ _ h => h) rfl (fun w_ => evP_run (o := ⟨_, _, _, _, _, _⟩) txs rfl) ?_)
              first | (refine e_pure (i := 10) #[true, true, true, true, true, true, true, true, true, true, true, false, false, false, false, false, false, false, false] rfl (by kernel_rfl) (fun _ _ _ h => h) rfl (fun w_ => evP_run (o := ⟨_, _, _, _, _, _⟩) txs rfl) ?_)
              first | (refine e_pure (i := 13) #[true, true, true, true, true, true, true, true, true, true, true, false, false, true, false, false, false, false, false] rfl (by kernel_rfl) (fun _ _ _ h => h) rfl (fun w_ => evP_run (o := ⟨_, _, _, _, _, _⟩) txs rfl) ?_)
              first | (refine e_pure (i := 14) #[true, true, true, true, true, true, true, true, true, true, true, false, false, true, true, false, false, false, false] rfl (by kernel_rfl) (fun _ _ _ h => h) rfl (fun w_ => evP_run (o := ⟨_, _, _, _, _, _⟩) txs rfl) ?_)
              first | (refine e_pure (i := 15) #[true, true, true, true, true, true, true, true, true, true, true, false, false, true, true, true, false, false, false] rfl (by kernel_rfl) (fun _ _ _ h => h) rfl (fun w_ => evP_run (o := ⟨_, _, _, _, _, _⟩) txs rfl) ?_) | (refine e_pure (i := 15) #[true, true, true, true, true, true, true, true, true, true, true, false, false, true, true, true, false, false, false] rfl (by kernel_rfl) (fun _ _ _ h => h) rfl (fun w_ => (evA_run (o := ⟨_, _, _, _, _, _⟩) txs rfl).trans (by rw [wrap_in (by first | exact in_i64 (by omega) (by omega) | exact in_u8 (by omega) (by omega) | exact in_u64 (by omega) (by omega) | exact in_i32 (by omega) (by omega))])) ?_)
              refine e_one (i := 11) #[true, true, true, true, true, true, true, true, true, true, true, true, false, true, true, true, false, false, false] rfl (by kernel_rfl) (by decide) rfl ?_
              refine l_callv rfl rfl (by kernel_rfl) (rcloses_c (c := c3) (hFd.below H.B) hbl (by omega) minor hmi) (fun w_ K => ?_); have H := H.call K
              refine l_nil ?_
              have HS := H.pick [] [] (by decide) (by decide) rfl rfl
              refine ⟨rfl, HS, ?_⟩
              first | (refine e_pure (i := 12) #[true, true, true, true, true, true, true, true, true, true, true, true, true, true, true, true, false, false, false] rfl (by kernel_rfl) (fun _ _ _ h => h) rfl (fun w_ => evBld_run (o := ⟨_, _, _, _, _, _⟩) rfl (built_rr _ _ _ _ _ _ _ _ _ _)) ?_)
              refine e_last (i := 16) #[true, true, true, true, true, true, true, true, true, true, true, true, true, true, true, true, true, false, false] rfl (by kernel_rfl) (by decide) rfl ?_
              have HB := H.B; refine h_stRg recs (H0.join H) 0 rfl rfl rfl rfl rfl rfl rfl rfl rfl (fun w_ H hg => ?_)
              refine l_nil ?_
              refine ⟨rfl, ?_⟩
              first | (refine e_pure (i := 17) #[true, true, true, true, true, true, true, true, true, true, true, true, true, true, true, true, true, true, false] rfl (by kernel_rfl) (fun _ _ _ h => h) rfl (fun w_ => evP_run (o := ⟨_, _, _, _, _, _⟩) txs rfl) ?_)
              first | (refine e_pure (i := 18) #[true, true, true, true, true, true, true, true, true, true, true, true, true, true, true, true, true, true, true] rfl (by kernel_rfl) (fun _ _ _ h => h) rfl (fun w_ => evP_run (o := ⟨_, _, _, _, _, _⟩) txs rfl) ?_)
              refine e_done rfl ?_
              repeat' (first | (with_reducible refine p_tn ?_) | (with_reducible refine wp_ret ?_))
              refine end_ctt recs H 0 rfl rfl rfl rfl rfl rfl rfl ?_
              have e : (((b.length - rest.length : Nat) : Int) + (k : Int)) = ((b.length - rest.length + k : Nat) : Int) := by omega
              rw [e]
              unfold RqR
              rw [hres]
              exact ⟨A3, c3, Bb, cb, rfl, H.B, rowG_at H 0 rfl, reads_other (hBd.below HB) hg (fun ad e => by have := hBk ad e; omega)⟩
end Go.Proofs.YthgojbdpmcccaaaGreatDoor.K.Ref
end
section
namespace Go.Proofs.YthgojbdpmcccaaaGreatDoor.K.Ref
open Go.RowKit Go.Proofs.YthgojbdpmcccaaaGreatDoor.Q Go.Proofs.YthgojbdpmcccaaaGreatDoor.Wb Go.Proofs.YthgojbdpmcccaaaGreatDoorW.PrintWords Go.Proofs.YthgojbdpmcccaaaGreatDoor.K
set_option linter.unusedVariables false
set_option linter.unusedSimpArgs false
section
variable {P : Program} {ty : Nat → Option Ty} {n : Nat} {f : Fr} {w : World} {o : Oper}
theorem evT_no (hty : Tys P ty) {p : Prop} (h : evT ty n f o.op = some p) (hp : ¬ p) : (execOp (X n f) o).run P w = .ok (.value (.bool false)) w := by
  obtain ⟨t, hr, ht⟩ := evT_run (w := w) hty h
  cases t with
  | true => exact absurd (ht.1 rfl) hp
  | false => exact hr
end
end Go.Proofs.YthgojbdpmcccaaaGreatDoor.K.Ref
end
section
namespace Go.Proofs.YthgojbdpmcccaaaGreatDoor.K.Ref
open Go.RowKit Go.Proofs.YthgojbdpmcccaaaGreatDoor.Q Go.Proofs.YthgojbdpmcccaaaGreatDoor.Wb Go.Proofs.YthgojbdpmcccaaaGreatDoorW.PrintWords Go.Proofs.YthgojbdpmcccaaaGreatDoor.K
set_option linter.unusedVariables false
set_option linter.unusedSimpArgs false
set_option maxHeartbeats 4000000 in
theorem sameFields_c {w : World} {B1 B2 : Option Addr} {c1 c2 : Nat} {l : List Fld} (h1 : Rd w B1 (fldC l)) (h2 : Rd w B2 (fldC l)) (hl : l.length ≤ 100000000) :
    Calls Tryz.prog 85 #[.slice B1 l.length c1, .slice B2 l.length c2] w fun e w' => e = .returned (.bool true) ∧ Below w.heap.size w w' := by
  refine enter (args := [.slice B1 l.length c1, .slice B2 l.length c2]) Tryz.func85 rfl Tryz.ntmps85 rfl ?_
  have H := Hp.nil w
  repeat' (first | (first | (with_reducible refine p_tn ?_) | (with_reducible refine wp_seq ?_) | (with_reducible refine w_reg ?_)) | (first | (with_reducible refine l_nil ?_) | ((with_reducible refine g_on ?_); (first | ((with_reducible refine g_mv ?_); refine l_p txs rfl rfl ?_) | ((with_reducible refine g_as ?_); refine l_p txs rfl rfl ?_) | ((with_reducible refine g_cl ?_); refine l_p txs rfl rfl ?_)))))
  (with_reducible refine is_l ?_); refine l_t txs rfl rfl (fun hh => absurd rfl hh) (fun _ => ?_)
  repeat' (first | (first | (with_reducible refine p_tn ?_) | (with_reducible refine wp_seq ?_) | (with_reducible refine wp_block ?_) | (with_reducible refine w_reg ?_) | (with_reducible (refine is_if ?_; (refine w_iff rfl ?_))) | (with_reducible refine wp_skip ?_)) | (first | (with_reducible refine l_nil ?_) | ((with_reducible refine g_on ?_); ((with_reducible refine g_as ?_); refine l_p txs rfl rfl ?_))))
  refine w_loop (σ := Nat) (S := fun s => [(0, .slice B1 l.length c1), (1, .slice B2 l.length c2), (5, .int .i64 (s : Int))]) (J := fun s w' => Hp w w' [] [] ∧ s ≤ l.length) (μ := fun s => l.length - s) 0 ⟨rfl, rfl, rfl, trivial⟩ ⟨H, by omega⟩ ?_
  rintro i f w_ ⟨H, hi⟩
  repeat' (first | (first | (with_reducible refine wp_seq ?_) | (with_reducible refine w_reg ?_)) | ((with_reducible refine g_on ?_); (first | ((with_reducible refine g_mv ?_); refine l_p txs rfl rfl ?_) | ((with_reducible refine g_cl ?_); refine l_p txs rfl rfl ?_))))
  (with_reducible refine is_l ?_); refine l_t txs rfl rfl (fun hlt => ?_) (fun hge => ?_)
  · obtain ⟨x, hx⟩ : ∃ x, l[i]? = some x := ⟨_, List.getElem?_eq_getElem (by omega)⟩
    obtain ⟨a1, rfl⟩ := rd_some h1 (i := i) (by omega)
    obtain ⟨a2, rfl⟩ := rd_some h2 (i := i) (by omega)
    have q10 := fld_part h1 hx 0 _ rfl
    have q11 := fld_part h1 hx 1 _ rfl
    have q20 := fld_part h2 hx 0 _ rfl
    have q21 := fld_part h2 hx 1 _ rfl
    repeat' (first | (first | (with_reducible refine p_tn ?_) | (with_reducible refine wp_seq ?_) | (with_reducible refine wp_block ?_) | (with_reducible (refine is_if ?_; (refine w_ift rfl ?_))) | (with_reducible refine wp_skip ?_)) | (with_reducible refine l_nil ?_))
    have HS := H.pick [] [] (by decide) (by decide) rfl rfl
    refine d_start (fun w_ => Hp w w_ _ _) #[false, false, false, false, false, false, false, false, false, false, false, false, false, false, false, false, false, false, false, false, false, false, false, false] (by kernel_rfl) rfl rfl HS.drew ?_
    have H := H.drew
    have HS := HS.drew
    first | (refine d_pure (i := 0) #[true, false, false, false, false, false, false, false, false, false, false, false, false, false, false, false, false, false, false, false, false, false, false, false] rfl (by kernel_rfl) (fun _ _ _ h => h) rfl (fun w_ => evP_run (o := ⟨_, _, _, _, _, _⟩) txs rfl) ?_)
    first | (refine d_pure (i := 1) #[true, true, false, false, false, false, false, false, false, false, false, false, false, false, false, false, false, false, false, false, false, false, false, false] rfl (by kernel_rfl) (fun _ _ _ h => h) rfl (fun w_ => evP_run (o := ⟨_, _, _, _, _, _⟩) txs rfl) ?_)
    first | (refine d_pure (i := 2) #[true, true, true, false, false, false, false, false, false, false, false, false, false, false, false, false, false, false, false, false, false, false, false, false] rfl (by kernel_rfl) (fun _ _ _ h => h) rfl (fun w_ => evIA_run (o := ⟨_, _, _, _, _, _⟩) txs rfl (by omega) (by omega)) ?_)
    first | (refine d_pure (i := 3) #[true, true, true, true, false, false, false, false, false, false, false, false, false, false, false, false, false, false, false, false, false, false, false, false] rfl (by kernel_rfl) (fun _ _ _ h => h) rfl (fun w_ => evF_run (o := ⟨_, _, _, _, _, _⟩) flds rfl) ?_) | (refine d_pure (i := 3) #[true, true, true, true, false, false, false, false, false, false, false, false, false, false, false, false, false, false, false, false, false, false, false, false] rfl (by kernel_rfl) (fun _ _ _ h => h) rfl (fun w_ => evG_run (o := ⟨_, _, _, _, _, _⟩) flds rfl) ?_)
    first | (refine d_take (i := 4) #[true, true, true, true, true, false, false, false, false, false, false, false, false, false, false, false, false, false, false, false, false, false, false, false] rfl (by kernel_rfl) (fun _ _ _ h => h) rfl (fun w_ K => evL_run (o := ⟨_, _, _, _, _, _⟩) txs rfl (by rw [Int.toNat_natCast]; exact K.old q10)) HS ?_)
    first | (refine d_pure (i := 5) #[true, true, true, true, true, true, false, false, false, false, false, false, false, false, false, false, false, false, false, false, false, false, false, false] rfl (by kernel_rfl) (fun _ _ _ h => h) rfl (fun w_ => evP_run (o := ⟨_, _, _, _, _, _⟩) txs rfl) ?_)
    first | (refine d_pure (i := 6) #[true, true, true, true, true, true, true, false, false, false, false, false, false, false, false, false, false, false, false, false, false, false, false, false] rfl (by kernel_rfl) (fun _ _ _ h => h) rfl (fun w_ => evP_run (o := ⟨_, _, _, _, _, _⟩) txs rfl) ?_)
    first | (refine d_pure (i := 7) #[true, true, true, true, true, true, true, true, false, false, false, false, false, false, false, false, false, false, false, false, false, false, false, false] rfl (by kernel_rfl) (fun _ _ _ h => h) rfl (fun w_ => evIA_run (o := ⟨_, _, _, _, _, _⟩) txs rfl (by omega) (by omega)) ?_)
    first | (refine d_pure (i := 8) #[true, true, true, true, true, true, true, true, true, false, false, false, false, false, false, false, false, false, false, false, false, false, false, false] rfl (by kernel_rfl) (fun _ _ _ h => h) rfl (fun w_ => evF_run (o := ⟨_, _, _, _, _, _⟩) flds rfl) ?_) | (refine d_pure (i := 8) #[true, true, true, true, true, true, true, true, true, false, false, false, false, false, false, false, false, false, false, false, false, false, false, false] rfl (by kernel_rfl) (fun _ _ _ h => h) rfl (fun w_ => evG_run (o := ⟨_, _, _, _, _, _⟩) flds rfl) ?_)
    first | (refine d_take (i := 9) #[true, true, true, true, true, true, true, true, true, true, false, false, false, false, false, false, false, false, false, false, false, false, false, false] rfl (by kernel_rfl) (fun _ _ _ h => h) rfl (fun w_ K => evL_run (o := ⟨_, _, _, _, _, _⟩) txs rfl (by rw [Int.toNat_natCast]; exact K.old q20)) HS ?_)
    first | (refine d_pure (i := 10) #[true, true, true, true, true, true, true, true, true, true, true, false, false, false, false, false, false, false, false, false, false, false, false, false] rfl (by kernel_rfl) (fun _ _ _ h => h) rfl (fun w_ => evT_no (o := ⟨_, _, _, _, _, _⟩) txs rfl (fun h => h rfl)) ?_)
    first | (refine d_pure (i := 11) #[true, true, true, true, true, true, true, true, true, true, true, true, false, false, false, false, false, false, false, false, false, false, false, false] rfl (by kernel_rfl) (fun _ _ _ h => h) rfl (fun w_ => evP_run (o := ⟨_, _, _, _, _, _⟩) txs rfl) ?_)
    first | (refine d_off (i := 12) #[true, true, true, true, true, true, true, true, true, true, true, true, true, false, false, false, false, false, false, false, false, false, false, false] rfl (by kernel_rfl) (fun _ _ _ h => h) rfl ?_) | (first | (refine d_pure (i := 12) #[true, true, true, true, true, true, true, true, true, true, true, true, true, false, false, false, false, false, false, false, false, false, false, false] rfl (by kernel_rfl) (fun _ _ _ h => h) rfl (fun w_ => evP_run (o := ⟨_, _, _, _, _, _⟩) txs rfl) ?_))
    first | (refine d_off (i := 13) #[true, true, true, true, true, true, true, true, true, true, true, true, true, true, false, false, false, false, false, false, false, false, false, false] rfl (by kernel_rfl) (fun _ _ _ h => h) rfl ?_) | (first | (refine d_pure (i := 13) #[true, true, true, true, true, true, true, true, true, true, true, true, true, true, false, false, false, false, false, false, false, false, false, false] rfl (by kernel_rfl) (fun _ _ _ h => h) rfl (fun w_ => evP_run (o := ⟨_, _, _, _, _, _⟩) txs rfl) ?_))
    first | (refine d_off (i := 14) #[true, true, true, true, true, true, true, true, true, true, true, true, true, true, true, false, false, false, false, false, false, false, false, false] rfl (by kernel_rfl) (fun _ _ _ h => h) rfl ?_) | (first | (refine d_pure (i := 14) #[true, true, true, true, true, true, true, true, true, true, true, true, true, true, true, false, false, false, false, false, false, false, false, false] rfl (by kernel_rfl) (fun _ _ _ h => h) rfl (fun w_ => evIA_run (o := ⟨_, _, _, _, _, _⟩) txs rfl (by omega) (by omega)) ?_))
    first | (refine d_off (i := 15) #[true, true, true, true, true, true, true, true, true, true, true, true, true, true, true, true, false, false, false, false, false, false, false, false] rfl (by kernel_rfl) (fun _ _ _ h => h) rfl ?_) | (first | (refine d_pure (i := 15) #[true, true, true, true, true, true, true, true, true, true, true, true, true, true, true, true, false, false, false, false, false, false, false, false] rfl (by kernel_rfl) (fun _ _ _ h => h) rfl (fun w_ => evF_run (o := ⟨_, _, _, _, _, _⟩) flds rfl) ?_) | (refine d_pure (i := 15) #[true, true, true, true, true, true, true, true, true, true, true, true, true, true, true, true, false, false, false, false, false, false, false, false] rfl (by kernel_rfl) (fun _ _ _ h => h) rfl (fun w_ => evG_run (o := ⟨_, _, _, _, _, _⟩) flds rfl) ?_))
    first | (refine d_off (i := 16) #[true, true, true, true, true, true, true, true, true, true, true, true, true, true, true, true, true, false, false, false, false, false, false, false] rfl (by kernel_rfl) (fun _ _ _ h => h) rfl ?_) | (first | (refine d_take (i := 16) #[true, true, true, true, true, true, true, true, true, true, true, true, true, true, true, true, true, false, false, false, false, false, false, false] rfl (by kernel_rfl) (fun _ _ _ h => h) rfl (fun w_ K => evL_run (o := ⟨_, _, _, _, _, _⟩) txs rfl (by rw [Int.toNat_natCast]; exact K.old q11)) HS ?_))
    first | (refine d_off (i := 17) #[true, true, true, true, true, true, true, true, true, true, true, true, true, true, true, true, true, true, false, false, false, false, false, false] rfl (by kernel_rfl) (fun _ _ _ h => h) rfl ?_) | (first | (refine d_pure (i := 17) #[true, true, true, true, true, true, true, true, true, true, true, true, true, true, true, true, true, true, false, false, false, false, false, false] rfl (by kernel_rfl) (fun _ _ _ h => h) rfl (fun w_ => evP_run (o := ⟨_, _, _, _, _, _⟩) txs rfl) ?_))
    first | (refine d_off (i := 18) #[true, true, true, true, true, true, true, true, true, true, true, true, true, true, true, true, true, true, true, false, false, false, false, false] rfl (by kernel_rfl) (fun _ _ _ h => h) rfl ?_) | (first | (refine d_pure (i := 18) #[true, true, true, true, true, true, true, true, true, true, true, true, true, true, true, true, true, true, true, false, false, false, false, false] rfl (by kernel_rfl) (fun _ _ _ h => h) rfl (fun w_ => evP_run (o := ⟨_, _, _, _, _, _⟩) txs rfl) ?_))
    first | (refine d_off (i := 19) #[true, true, true, true, true, true, true, true, true, true, true, true, true, true, true, true, true, true, true, true, false, false, false, false] rfl (by kernel_rfl) (fun _ _ _ h => h) rfl ?_) | (first | (refine d_pure (i := 19) #[true, true, true, true, true, true, true, true, true, true, true, true, true, true, true, true, true, true, true, true, false, false, false, false] rfl (by kernel_rfl) (fun _ _ _ h => h) rfl (fun w_ => evIA_run (o := ⟨_, _, _, _, _, _⟩) txs rfl (by omega) (by omega)) ?_))
    first | (refine d_off (i := 20) #[true, true, true, true, true, true, true, true, true, true, true, true, true, true, true, true, true, true, true, true, true, false, false, false] rfl (by kernel_rfl) (fun _ _ _ h => h) rfl ?_) | (first | (refine d_pure (i := 20) #[true, true, true, true, true, true, true, true, true, true, true, true, true, true, true, true, true, true, true, true, true, false, false, false] rfl (by kernel_rfl) (fun _ _ _ h => h) rfl (fun w_ => evF_run (o := ⟨_, _, _, _, _, _⟩) flds rfl) ?_) | (refine d_pure (i := 20) #[true, true, true, true, true, true, true, true, true, true, true, true, true, true, true, true, true, true, true, true, true, false, false, false] rfl (by kernel_rfl) (fun _ _ _ h => h) rfl (fun w_ => evG_run (o := ⟨_, _, _, _, _, _⟩) flds rfl) ?_))
    first | (refine d_off (i := 21) #[true, true, true, true, true, true, true, true, true, true, true, true, true, true, true, true, true, true, true, true, true, true, false, false] rfl (by kernel_rfl) (fun _ _ _ h => h) rfl ?_) | (first | (refine d_take (i := 21) #[true, true, true, true, true, true, true, true, true, true, true, true, true, true, true, true, true, true, true, true, true, true, false, false] rfl (by kernel_rfl) (fun _ _ _ h => h) rfl (fun w_ K => evL_run (o := ⟨_, _, _, _, _, _⟩) txs rfl (by rw [Int.toNat_natCast]; exact K.old q21)) HS ?_))
    first | (refine d_off (i := 22) #[true, true, true, true, true, true, true, true, true, true, true, true, true, true, true, true, true, true, true, true, true, true, true, false] rfl (by kernel_rfl) (fun _ _ _ h => h) rfl ?_) | (first | (refine d_pure (i := 22) #[true, true, true, true, true, true, true, true, true, true, true, true, true, true, true, true, true, true, true, true, true, true, true, false] rfl (by kernel_rfl) (fun _ _ _ h => h) rfl (fun w_ => evT_no (o := ⟨_, _, _, _, _, _⟩) txs rfl (fun h => h rfl)) ?_))
    first | (refine d_pure (i := 23) #[true, true, true, true, true, true, true, true, true, true, true, true, true, true, true, true, true, true, true, true, true, true, true, true] rfl (by kernel_rfl) (fun _ _ _ h => h) rfl (fun w_ => evP_run (o := ⟨_, _, _, _, _, _⟩) txs rfl) ?_)
    refine d_done rfl ?_
    repeat' (first | (first | (with_reducible refine p_tn ?_) | (with_reducible refine p_bn ?_) | (with_reducible refine w_reg ?_) | (with_reducible (refine is_if ?_; (refine w_iff rfl ?_))) | (with_reducible refine wp_skip ?_)) | (first | (with_reducible refine l_nil ?_) | ((with_reducible refine g_on ?_); (first | ((with_reducible refine g_mv ?_); refine l_p txs rfl rfl ?_) | ((with_reducible refine g_as ?_); refine l_p txs rfl rfl ?_) | ((with_reducible refine g_bi ?_); (refine l_a txs rfl rfl (by first | exact in_i64 (by omega) (by omega) | exact in_u8 (by omega) (by omega) | exact in_u64 (by omega) (by omega) | exact in_i32 (by omega) (by omega)) ?_))))))
    refine ⟨i + 1, _, rfl, ⟨rfl, rfl, rfl, trivial⟩, ⟨H, by omega⟩, by omega⟩
  · repeat' (first | (first | (with_reducible refine p_tn ?_) | (with_reducible refine p_tx ?_) | (with_reducible refine x_hit ?_) | (with_reducible refine wp_seq ?_) | (with_reducible refine w_reg ?_) | (with_reducible (refine is_if ?_; (refine w_iff rfl ?_))) | (with_reducible refine wp_exit ?_) | (with_reducible refine wp_ret ?_)) | (first | (with_reducible refine l_nil ?_) | ((with_reducible refine g_on ?_); ((with_reducible refine g_as ?_); refine l_p txs rfl rfl ?_))))
    refine end1 rfl rfl ?_
    exact ⟨rfl, H.B⟩
theorem l_neq {P : Program} {n : Nat} {ops : Array Oper} {Q : Exit → Act → World → Prop} {rest : List Oper} {f : Fr} {w : World} {d : Option Nat} {tt : TypeId} {ps : String} {af : Array Edge} {gd : Option (Nat × Bool)} {t t2 : TypeId} {x y : Operand} {u v : Value} {b : Bool} (hw : want n ops f ⟨d, .binOp .neq t x y t2, tt, ps, af, gd⟩ = true) (hx : nf (X n f x) = some u) (hy : nf (X n f y) = some v) (hg : ∀ c1 c2 : Array Value, u ≠ .agg c1 ∨ v ≠ .agg c2) (hn : u ≠ .nilIface ∨ v ≠ .nilIface)
    (hr : (binOp .neq t u v).run P w = .ok (.bool b) w) (h : WL P ops Q rest (act n (put f d (.bool b))) w) : WL P ops Q (⟨d, .binOp .neq t x y t2, tt, ps, af, gd⟩ :: rest) (act n f) w := by
  refine l_val hw ?_ h
  have e1 := nf_eq hx
  have e2 := nf_eq hy
  have hge : (eqGuard .neq t x y u v).run P w = .ok () w := by
    unfold eqGuard
    cases u <;> cases v <;> first | rfl | (exfalso; rcases hn with h | h <;> exact h rfl) | (exfalso; rcases hg _ _ with h | h <;> exact h rfl)
  unfold execOp
  simp [← e1, ← e2, hge, hr]
theorem neq_bool (a : Bool) (w : World) : (binOp .neq 4 (.bool a) (.bool a)).run Tryz.prog w = .ok (.bool false) w := by
  rw [run_neq_bool w _ a a Tryz.underlying4]
  simp
set_option maxRecDepth 100000 in
set_option maxHeartbeats 4000000 in
theorem sameRequest_c {w : World} (r : ReqS) {F1 F2 B1 B2 : Option Addr} {f1 f2 b1 b2 : Nat} (h1 : Rd w F1 (fldC r.fields)) (h2 : Rd w F2 (fldC r.fields)) (k1 : ReadsInt w .u8 B1 r.body.length r.body) (k2 : ReadsInt w .u8 B2 r.body.length r.body) (hl : r.fields.length ≤ 100000000) :
    Calls Tryz.prog 42 #[.agg (reqA r F1 f1 B1 b1), .agg (reqA r F2 f2 B2 b2)] w fun e w' => e = .returned (.bool true) ∧ Below w.heap.size w w' := by
  refine enter (args := [.agg (reqA r F1 f1 B1 b1), .agg (reqA r F2 f2 B2 b2)]) Tryz.func42 rfl Tryz.ntmps42 rfl ?_
  have H := Hp.nil w
  repeat' (first | (first | (with_reducible refine p_tn ?_) | (with_reducible refine wp_seq ?_) | (with_reducible refine w_reg ?_)) | (first | (with_reducible refine l_nil ?_) | ((with_reducible refine g_on ?_); (first | ((with_reducible refine g_as ?_); refine l_p txs rfl rfl ?_) | ((with_reducible refine g_fa ?_); refine h_fa flds rfl rfl ?_) | ((with_reducible refine g_ld ?_); (first | (refine h_ld txs H 0 rfl rfl rfl rfl ?_) | (refine h_ld txs H 1 rfl rfl rfl rfl ?_))) | ((with_reducible refine g_bx ?_); refine h_box H rfl rfl rfl (fun g_ w_ H => ?_))))))
  (with_reducible refine is_l ?_); refine l_t txs rfl rfl (fun hh => absurd rfl hh) (fun _ => ?_)
  repeat' (first | ((with_reducible refine g_on ?_); ((with_reducible refine g_mv ?_); refine l_p txs rfl rfl ?_)) | ((with_reducible refine g_if ?_); (first | ((with_reducible refine g_fa ?_); refine h_fa flds rfl rfl ?_) | ((with_reducible refine g_ld ?_); (first | (refine h_ld txs H 0 rfl rfl rfl rfl ?_) | (refine h_ld txs H 1 rfl rfl rfl rfl ?_))))))
  (with_reducible refine is_l ?_); refine l_t txs rfl rfl (fun hh => absurd rfl hh) (fun _ => ?_)
  repeat' (first | ((with_reducible refine g_on ?_); (first | ((with_reducible refine g_mv ?_); refine l_p txs rfl rfl ?_) | ((with_reducible refine g_pk ?_); refine l_p txs rfl rfl ?_))) | ((with_reducible refine g_if ?_); (first | ((with_reducible refine g_fa ?_); refine h_fa flds rfl rfl ?_) | ((with_reducible refine g_ld ?_); (first | (refine h_ld txs H 0 rfl rfl rfl rfl ?_) | (refine h_ld txs H 1 rfl rfl rfl rfl ?_))))))
  (with_reducible refine is_l ?_); refine l_t txs rfl rfl (fun hh => absurd rfl hh) (fun _ => ?_)
  repeat' (first | ((with_reducible refine g_on ?_); (first | ((with_reducible refine g_mv ?_); refine l_p txs rfl rfl ?_) | ((with_reducible refine g_pk ?_); refine l_p txs rfl rfl ?_))) | ((with_reducible refine g_if ?_); (first | ((with_reducible refine g_fa ?_); refine h_fa flds rfl rfl ?_) | ((with_reducible refine g_ld ?_); (first | (refine h_ld txs H 0 rfl rfl rfl rfl ?_) | (refine h_ld txs H 1 rfl rfl rfl rfl ?_))))))
  (with_reducible refine is_l ?_); refine l_neq rfl rfl rfl (fun _ _ => .inl (by simp)) (.inl (by simp)) (neq_bool r.close _) ?_
  repeat' (first | (first | (with_reducible refine p_tn ?_) | (with_reducible refine wp_seq ?_) | (with_reducible refine w_reg ?_) | (with_reducible (refine is_if ?_; (refine w_iff rfl ?_))) | (with_reducible refine wp_skip ?_)) | (first | (with_reducible refine l_nil ?_) | ((with_reducible refine g_on ?_); (first | ((with_reducible refine g_pk ?_); refine l_p txs rfl rfl ?_) | ((with_reducible refine g_fa ?_); refine h_fa flds rfl rfl ?_) | ((with_reducible refine g_ld ?_); (first | (refine h_ld txs H 0 rfl rfl rfl rfl ?_) | (refine h_ld txs H 1 rfl rfl rfl rfl ?_)))))))
  (with_reducible refine is_l ?_); refine l_callv rfl rfl (by kernel_rfl) (sameFields_c (h1.below H.B) (h2.below H.B) hl) (fun w_ K => ?_)
  have H := H.call K
  repeat' (first | ((with_reducible refine g_on ?_); ((with_reducible refine g_mv ?_); refine l_p txs rfl rfl ?_)) | ((with_reducible refine g_if ?_); (first | ((with_reducible refine g_fa ?_); refine h_fa flds rfl rfl ?_) | ((with_reducible refine g_ld ?_); (refine h_ld txs H 1 rfl rfl rfl rfl ?_)))))
  (with_reducible refine is_l ?_); refine l_text rfl rfl Tryz.underlying23 Tryz.underlying5 Tryz.underlying9 (k1.below H.B) ?_
  repeat' ((with_reducible refine g_if ?_); (first | ((with_reducible refine g_fa ?_); refine h_fa flds rfl rfl ?_) | ((with_reducible refine g_ld ?_); (refine h_ld txs H 0 rfl rfl rfl rfl ?_))))
  (with_reducible refine is_l ?_); refine l_text rfl rfl Tryz.underlying23 Tryz.underlying5 Tryz.underlying9 (k2.below H.B) ?_
  (with_reducible refine is_l ?_); refine l_t txs rfl rfl (fun _ => ?_) (fun hh => absurd rfl hh)
  repeat' (first | (first | (with_reducible refine p_tn ?_) | (with_reducible refine wp_ret ?_)) | (first | (with_reducible refine l_nil ?_) | ((with_reducible refine g_on ?_); (first | ((with_reducible refine g_as ?_); refine l_p txs rfl rfl ?_) | ((with_reducible refine g_pk ?_); refine l_p txs rfl rfl ?_)))))
  refine end1 rfl rfl ?_
  exact ⟨rfl, H.B⟩
end Go.Proofs.YthgojbdpmcccaaaGreatDoor.K.Ref
end
section
namespace Go.Proofs.YthgojbdpmcccaaaGreatDoor.K.Ref
open Go.RowKit Go.Proofs.YthgojbdpmcccaaaGreatDoor.Q Go.Proofs.YthgojbdpmcccaaaGreatDoor.Wb Go.Proofs.YthgojbdpmcccaaaGreatDoorW.PrintWords Go.Proofs.YthgojbdpmcccaaaGreatDoor.K
set_option linter.unusedVariables false
set_option linter.unusedSimpArgs false
theorem reads_nil (w : World) : ReadsInt w .u8 none 0 [] := ⟨rfl, Nat.zero_le _, fun h0 => absurd h0 (Nat.lt_irrefl 0)⟩
theorem rd_nil (w : World) : Rd w none [] := ⟨fun _ => rfl, fun ad e => by cases e⟩
theorem rqR_out {w : World} {b : L} {e : Ending} {w' : World} (h : RqR w b e w') : ∃ F f B c, e = .returned (.tuple #[.agg (reqA (outReq b).1 F f B c), .int .i64 ((outReq b).2.1 : Int), .int .i64 ((outReq b).2.2 : Int)]) ∧ Below w.heap.size w w' ∧ Rd w' F (fldC (outReq b).1.fields) ∧ ReadsInt w' .u8 B (outReq b).1.body.length (outReq b).1.body := by
  unfold RqR at h
  unfold outReq
  cases hp : parseReqS b with
  | error k =>
    rw [hp] at h
    obtain ⟨rfl, K⟩ := h
    exact ⟨none, 0, none, 0, rfl, K, rd_nil w', reads_nil w'⟩
  | ok z =>
    obtain ⟨r, n⟩ := z
    rw [hp] at h
    exact h
theorem built_op (k : Int) (B : Option Addr) (n c : Nat) : Tryz.prog.built 56 [(0, .int .i64 k), (1, .slice B n c)] = some #[.int .i64 k, .slice B n c, .int .i64 0, .int .i64 0, .string ⟨#[]⟩, .string ⟨#[]⟩, .string ⟨#[]⟩, .int .i64 0, .slice none 0 0, .slice none 0 0, .slice none 0 0, .int .i64 0, .int .i64 0, .int .i64 0, .slice none 0 0, .slice none 0 0, .slice none 0 0, .int .i64 0] := by kernel_rfl
set_option maxRecDepth 100000 in
set_option maxHeartbeats 16000000 in
theorem parsesQ_c {A : Nat → Addr} {w : World} (hE : LayS A w) {mx : Int} (hM : w.cell? ⟨20, 0, none⟩ = some (.int .i64 mx)) {tM : TypeId} {frM : Nat × Nat} (hT : w.heap[17]? = some (.cells meC tM frM)) {tN : TypeId} {frN : Nat × Nat} (hN : w.heap[14]? = some (.cells meC tN frN))
    {B1 : Option Addr} {k1 : Nat} {b : L} (h1 : ReadsInt w .u8 B1 b.length b) (hb : Bytes b) (hs : b.length ≤ 10000000) (pad n : Int) (t m1 m2 : ByteArray) (i1 i2 i3 i4 : Int) (s1 s2 s3 s4 s5 s6 : Option Addr) (l1 l2 l3 l4 l5 l6 d1 d2 d3 d4 d5 d6 : Nat) (i5 : Int) :
    Calls Tryz.prog 31 #[.agg #[.int .i64 1, .slice B1 b.length k1, .int .i64 pad, .int .i64 n, .string t, .string m1, .string m2, .int .i64 i1, .slice s1 l1 d1, .slice s2 l2 d2, .slice s3 l3 d3, .int .i64 i2, .int .i64 i3, .int .i64 i4, .slice s4 l4 d4, .slice s5 l5 d5, .slice s6 l6 d6, .int .i64 i5]] w fun e w' => e = .returned (.bool true) ∧ Below w.heap.size w w' := by
  have hTb : ∀ w1, Below w.heap.size w w1 → w1.heap[17]? = some (.cells meC tM frM) := fun w1 K => (K.block _ (blk_lt hT)).trans hT
  have hNb : ∀ w1, Below w.heap.size w w1 → w1.heap[14]? = some (.cells meC tN frN) := fun w1 K => (K.block _ (blk_lt hN)).trans hN
  refine enter (args := [.agg #[.int .i64 1, .slice B1 b.length k1, .int .i64 pad, .int .i64 n, .string t, .string m1, .string m2, .int .i64 i1, .slice s1 l1 d1, .slice s2 l2 d2, .slice s3 l3 d3, .int .i64 i2, .int .i64 i3, .int .i64 i4, .slice s4 l4 d4, .slice s5 l5 d5, .slice s6 l6 d6, .int .i64 i5]]) Tryz.func31 rfl Tryz.ntmps31 rfl ?_
  have H := Hp.nil w
  repeat' (first | (with_reducible refine wp_seq ?_) | (with_reducible refine w_reg ?_))
  (with_reducible refine is_l ?_); refine h_box H rfl rfl rfl (fun gX w_ H => ?_)
  repeat' (first | (first | (with_reducible refine p_tn ?_) | (with_reducible refine wp_seq ?_) | (with_reducible refine w_reg ?_)) | (first | (with_reducible refine l_nil ?_) | ((with_reducible refine g_on ?_); (first | ((with_reducible refine g_as ?_); refine l_p txs rfl rfl ?_) | ((with_reducible refine g_fa ?_); refine h_fa flds rfl rfl ?_) | ((with_reducible refine g_ld ?_); (refine h_ld txs H 0 rfl rfl rfl rfl ?_))))))
  (with_reducible refine is_l ?_); refine l_call rfl rfl (by kernel_rfl) (padded_c (h1.below H.B) pad (by omega)) (fun e w_ hR => ?_)
  obtain ⟨A0, c0, rfl, K⟩ := hR
  refine ⟨_, rfl, ?_⟩
  have H := H.join K
  have hpb : Bytes (padS b pad) := fun x hx => (List.mem_append.1 hx).elim (hb x) (fun hx => by have := List.eq_of_mem_replicate hx; omega)
  have hpl : (padS b pad).length ≤ 11100000 := by unfold padS padN; rw [List.length_append, List.length_replicate]; split <;> omega
  have H : Hp w w_ _ [rowB (.slice A0 (padS b pad).length c0) (padS b pad)] := H
  generalize padS b pad = X at H hpb hpl ⊢
  repeat' (first | (first | (with_reducible refine p_tn ?_) | (with_reducible refine wp_seq ?_) | (with_reducible refine wp_block ?_) | (with_reducible refine w_reg ?_)) | (first | (with_reducible refine l_nil ?_) | ((with_reducible refine g_on ?_); (first | ((with_reducible refine g_as ?_); refine l_p txs rfl rfl ?_) | ((with_reducible refine g_fa ?_); refine h_fa flds rfl rfl ?_) | ((with_reducible refine g_ld ?_); (refine h_ld txs H 0 rfl rfl rfl rfl ?_))))))
  (with_reducible refine is_l ?_); refine l_t txs rfl rfl (fun _ => ?_) (fun hh => absurd rfl hh)
  repeat' (first | (first | (with_reducible refine p_tn ?_) | (with_reducible refine wp_seq ?_) | (with_reducible refine w_reg ?_) | (with_reducible (refine is_if ?_; (refine w_ift rfl ?_)))) | (first | (with_reducible refine l_nil ?_) | ((with_reducible refine g_on ?_); (first | ((with_reducible refine g_mv ?_); refine l_p txs rfl rfl ?_) | ((with_reducible refine g_as ?_); refine l_p txs rfl rfl ?_)))))
  obtain ⟨ra, ra2, ra3⟩ := rowB_rd H 0 (F := A0) (f := c0) (x := X) rfl
  (with_reducible refine is_l ?_); refine l_call rfl rfl (by kernel_rfl) (rParseRequest_c (hNb _ H.B) ra hpb (by omega)) (fun e w_ hR => ?_)
  obtain ⟨F1, f1, P1, p1, rfl, K, hF1, hP1⟩ := rqR_out hR
  refine ⟨_, rfl, ?_⟩
  have ra := ra.below K
  have H0 := H.call K
  have hEf := hE.below H0.B
  have hMf := H0.old hM
  have hTf := hTb _ H0.B
  obtain ⟨w, hwf⟩ : ∃ wf, wf = w_ := ⟨_, rfl⟩
  rw [← hwf] at H0 hEf hMf hTf ra hF1 hP1
  have H : Hp w w_ [] [] := by rw [hwf]; exact Hp.nil _
  clear hwf
  have hTfb : ∀ w1, Below w.heap.size w w1 → w1.heap[17]? = some (.cells meC tM frM) := fun w1 K => (K.block _ (blk_lt hTf)).trans hTf
  obtain ⟨hbm1, hlm1⟩ : BytesF (outReq X).1.fields ∧ (outReq X).1.fields.length ≤ 64 := outReq_bytes hpb (by omega)
  generalize hq : outReq X = q at hF1 hP1 hbm1 hlm1 ⊢
  repeat' (first | (first | (with_reducible refine p_tn ?_) | (with_reducible refine wp_seq ?_) | (with_reducible refine w_reg ?_)) | (first | (with_reducible refine l_nil ?_) | ((with_reducible refine g_on ?_); (first | ((with_reducible refine g_mv ?_); refine l_p txs rfl rfl ?_) | ((with_reducible refine g_as ?_); refine l_p txs rfl rfl ?_) | ((with_reducible refine g_ex ?_); refine l_p txs rfl rfl ?_) | ((with_reducible refine g_st ?_); (refine h_stR recs H 0 rfl rfl rfl rfl rfl rfl rfl rfl rfl (fun w_ H => ?_))) | ((with_reducible refine g_al ?_); refine h_alloc recs H rfl rfl (fun g_ w_ H => ?_))))))
  (with_reducible refine is_l ?_); refine l_call rfl rfl (by kernel_rfl) (ParseRequest_c (hEf.below H.B) (H.old hMf) (hTfb _ H.B) (ra.below H.B) ra2 ra3 hpb (by omega)) (fun e w_ hR => ?_)
  have hR := prR_out hR
  rw [hq] at hR
  obtain ⟨F2, f2, P2, p2, rfl, K⟩ := hR
  refine ⟨_, rfl, ?_⟩
  have H := H.join K
  repeat' (first | (first | (with_reducible refine p_tn ?_) | (with_reducible refine wp_seq ?_) | (with_reducible refine w_reg ?_)) | (first | (with_reducible refine l_nil ?_) | ((with_reducible refine g_on ?_); (first | ((with_reducible refine g_mv ?_); refine l_p txs rfl rfl ?_) | ((with_reducible refine g_as ?_); refine l_p txs rfl rfl ?_) | ((with_reducible refine g_ex ?_); refine l_p txs rfl rfl ?_) | ((with_reducible refine g_st ?_); (refine h_stR recs H 0 rfl rfl rfl rfl rfl rfl rfl rfl rfl (fun w_ H => ?_))) | ((with_reducible refine g_al ?_); refine h_alloc recs H rfl rfl (fun g_ w_ H => ?_))))))
  (with_reducible refine is_l ?_); refine l_t txs rfl rfl (fun _ => ?_) (fun hh => absurd rfl hh)
  repeat' (first | ((with_reducible refine g_on ?_); ((with_reducible refine g_mv ?_); refine l_p txs rfl rfl ?_)) | ((with_reducible refine g_if ?_); ((with_reducible refine g_mv ?_); refine l_p txs rfl rfl ?_)))
  (with_reducible refine is_l ?_); refine l_t txs rfl rfl (fun _ => ?_) (fun hh => absurd rfl hh)
  repeat' (first | ((with_reducible refine g_on ?_); (first | ((with_reducible refine g_mv ?_); refine l_p txs rfl rfl ?_) | ((with_reducible refine g_pk ?_); refine l_p txs rfl rfl ?_))) | ((with_reducible refine g_if ?_); ((with_reducible refine g_ld ?_); (first | (refine h_ldR recs H 0 rfl rfl rfl rfl rfl ?_) | (refine h_ldR recs H 1 rfl rfl rfl rfl rfl ?_)))))
  (with_reducible refine is_l ?_); refine l_callv rfl rfl (by kernel_rfl) (sameRequest_c q.1 (rowF_rd H 0 rfl) (hF1.below H.B) (rowB_rd H 1 (x := q.1.body) rfl).1 (hP1.below H.B) (by omega)) (fun w_ K => ?_)
  have H := H.call K
  repeat' (first | (first | (with_reducible refine p_tn ?_) | (with_reducible refine p_tr ?_) | (with_reducible refine p_br ?_) | (with_reducible refine wp_ret ?_)) | (first | (with_reducible refine l_nil ?_) | ((with_reducible refine g_on ?_); (first | ((with_reducible refine g_as ?_); refine l_p txs rfl rfl ?_) | ((with_reducible refine g_pk ?_); refine l_p txs rfl rfl ?_)))))
  refine end1 rfl rfl ?_
  exact ⟨rfl, Bt H0.B H.B⟩
set_option maxHeartbeats 4000000 in
theorem requests_c {A : Nat → Addr} {w : World} (hE : LayS A w) {mx : Int} (hM : w.cell? ⟨20, 0, none⟩ = some (.int .i64 mx)) {tM : TypeId} {frM : Nat × Nat} (hT : w.heap[17]? = some (.cells meC tM frM)) {tN : TypeId} {frN : Nat × Nat} (hN : w.heap[14]? = some (.cells meC tN frN))
    {B1 : Option Addr} {k1 : Nat} {b : L} (h1 : ReadsInt w .u8 B1 b.length b) (hb : Bytes b) (hs : b.length ≤ 10000000) :
    Calls Tryz.prog 9 #[.slice B1 b.length k1] w fun e w' => e = .returned (.bool true) ∧ Below w.heap.size w w' := by
  have hTb : ∀ w1, Below w.heap.size w w1 → w1.heap[17]? = some (.cells meC tM frM) := fun w1 K => (K.block _ (blk_lt hT)).trans hT
  have hNb : ∀ w1, Below w.heap.size w w1 → w1.heap[14]? = some (.cells meC tN frN) := fun w1 K => (K.block _ (blk_lt hN)).trans hN
  refine enter (args := [.slice B1 b.length k1]) Tryz.func9 rfl Tryz.ntmps9 rfl ?_
  have H := Hp.nil w
  repeat' (first | (first | (with_reducible refine p_tn ?_) | (with_reducible refine wp_seq ?_) | (with_reducible refine w_reg ?_)) | (first | (with_reducible refine l_nil ?_) | ((with_reducible refine g_on ?_); ((with_reducible refine g_as ?_); refine l_p txs rfl rfl ?_))))
  (with_reducible refine is_l ?_); refine l_callv rfl rfl (by kernel_rfl) (known_c (hE.below H.B) (H.old hM) (hTb _ H.B)) (fun w_ K => ?_)
  have H := H.call K
  repeat' (first | ((with_reducible refine g_on ?_); ((with_reducible refine g_mv ?_); refine l_p txs rfl rfl ?_)) | ((with_reducible refine g_if ?_); ((with_reducible refine g_mv ?_); refine l_p txs rfl rfl ?_)))
  (with_reducible refine is_l ?_); refine h_bld rfl rfl (built_op _ _ _ _) ?_
  skip
  (with_reducible refine is_l ?_); refine l_callv rfl rfl (by kernel_rfl) (parsesQ_c (hE.below H.B) (H.old hM) (hTb _ H.B) (hNb _ H.B) (h1.below H.B) hb hs 0 0 ⟨#[]⟩ ⟨#[]⟩ ⟨#[]⟩ 0 0 0 0 none none none none none none 0 0 0 0 0 0 0 0 0 0 0 0 0) (fun w_ K => ?_)
  have H := H.call K
  repeat' (first | (first | (with_reducible refine p_tn ?_) | (with_reducible refine wp_ret ?_)) | (first | (with_reducible refine l_nil ?_) | ((with_reducible refine g_on ?_); (first | ((with_reducible refine g_as ?_); refine l_p txs rfl rfl ?_) | ((with_reducible refine g_pk ?_); refine l_p txs rfl rfl ?_)))))
  refine end1 rfl rfl ?_
  exact ⟨rfl, H.B⟩
end Go.Proofs.YthgojbdpmcccaaaGreatDoor.K.Ref
end
