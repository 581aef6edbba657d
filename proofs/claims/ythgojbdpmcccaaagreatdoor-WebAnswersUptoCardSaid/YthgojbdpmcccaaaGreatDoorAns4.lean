/- Joined texts of mine, 4: Xi, Xj, Xk, Xl, Xm, Xo, Ya, Yb. -/
import Derived.Laws.StructEq
import Derived.Test.YthgojbdpmcccaaaGreatDoorAns3
section
namespace Go.Proofs.YthgojbdpmcccaaaGreatDoor.K
open Go.RowKit Go.Proofs.YthgojbdpmcccaaaGreatDoor.Q Go.Proofs.YthgojbdpmcccaaaGreatDoor.Wb Go.Proofs.YthgojbdpmcccaaaGreatDoorW.PrintWords
set_option linter.unusedVariables false
set_option linter.unusedSimpArgs false
theorem frm_host (l : List Fld) (hb : BytesF l) : (frmS l).host.size ≤ 100000000 := by
  obtain ⟨_, a2, _⟩ := frm_fold l frm0
  change (frmS l).host = _ at a2
  rw [a2]
  cases hv : (vals l nHost).getLast? with
  | none => exact Nat.zero_le _
  | some v =>
    obtain ⟨h1, h2⟩ := vals_bytes hb (n := nHost) (v := v) (List.mem_of_getLast? hv)
    show (strOfNums v).size ≤ _
    rw [sizeS' h1]
    exact h2
theorem frm_framed (l : List Fld) : (frmS l).framed = (!(vals l nCode).isEmpty || !(vals l nLen).isEmpty) := by
  obtain ⟨_, _, _, _, _, _, a7, _⟩ := frm_fold l frm0
  change (frmS l).framed = _ at a7
  rw [a7]
  simp [frm0]
theorem frame_none_of {l : List Fld} {v : Int} (h : (frmS l).framed = false) : frameS l v = .ok .none := by
  rw [frm_framed] at h
  simp only [Bool.or_eq_false_iff, Bool.not_eq_false', List.isEmpty_iff] at h
  unfold frameS
  rw [h.1, h.2]
theorem framed_of {l : List Fld} (h : (frmS l).framed = true) : vals l nCode ≠ [] ∨ vals l nLen ≠ [] := by
  rw [frm_framed] at h
  simp only [Bool.or_eq_true, Bool.not_eq_true', List.isEmpty_eq_false_iff] at h
  exact h
theorem line_bytes {b x r : L} (hb : Bytes b) (h : lineS b = some (x, r)) : Bytes x ∧ Bytes r ∧ x.length ≤ b.length ∧ r.length < b.length := by
  obtain ⟨q, hq, _, hxq⟩ := lineS_some h
  have hlen : q.length + 1 + r.length = b.length := by rw [hq]; simp; omega
  refine ⟨fun y hy => ?_, fun y hy => hb y (by rw [hq]; simp [hy]), by rw [hxq]; have := chop_le q; omega, by omega⟩
  rw [hxq, chop_take] at hy
  exact hb y (by rw [hq]; simp [List.mem_of_mem_take hy])
theorem lines_bytes : ∀ (f : Nat) {b r : L} {ls : List L}, Bytes b → b.length ≤ 100000000 → linesS f b = some (ls, r) → BytesL ls ∧ Bytes r ∧ r.length < b.length ∧ ls.length ≤ b.length
  | 0, b, r, ls, hb, hl, h => by simp [linesS] at h
  | f + 1, b, r, ls, hb, hl, h => by
    rw [linesS_succ] at h
    cases hc : lineS b with
    | none => rw [hc] at h; cases h
    | some z =>
      obtain ⟨x, s⟩ := z
      obtain ⟨h1, h2, h3, h4⟩ := line_bytes hb hc
      rw [hc] at h
      cases x with
      | nil =>
        simp only [Option.some.injEq, Prod.mk.injEq] at h
        obtain ⟨rfl, rfl⟩ := h
        exact ⟨fun _ h => (by cases h), h2, h4, by simp⟩
      | cons y ys =>
        simp only at h
        cases hr : linesS f s with
        | none => rw [hr] at h; cases h
        | some z =>
          obtain ⟨ms, q⟩ := z
          rw [hr] at h
          simp only [Option.some.injEq, Prod.mk.injEq] at h
          obtain ⟨rfl, rfl⟩ := h
          obtain ⟨a1, a2, a3, a4⟩ := lines_bytes f h2 (by omega) hr
          refine ⟨fun z hz => ?_, a2, by omega, by simp; omega⟩
          rcases List.mem_cons.1 hz with rfl | hz
          · exact ⟨h1, by omega⟩
          · exact a1 z hz
theorem cut_bytes {tl : Nat} {b first r : L} {ls : List L} (hb : Bytes b) (hl : b.length ≤ 100000000) (h : cutS tl b = .ok (first, ls, r)) : Bytes first ∧ first.length ≤ 8000 ∧ BytesL ls ∧ Bytes r ∧ r.length < b.length := by
  cases hc : lineS b with
  | none => rw [cutS_none hc] at h; split at h <;> cases h
  | some z =>
    obtain ⟨x, s⟩ := z
    obtain ⟨h1, h2, h3, h4⟩ := line_bytes hb hc
    by_cases hx : 8000 < x.length
    · rw [cutS_long hc hx] at h; cases h
    · rw [cutS_lines hc hx] at h
      cases hr : linesS (s.length + 1) s with
      | none => rw [hr] at h; simp only at h; split at h <;> cases h
      | some z =>
        obtain ⟨ms, q⟩ := z
        rw [hr] at h
        simp only at h
        split at h
        · cases h
        · simp only [Except.ok.injEq, Prod.mk.injEq] at h
          obtain ⟨rfl, rfl, rfl⟩ := h
          obtain ⟨a1, a2, a3, a4⟩ := lines_bytes _ h2 (by omega) hr
          exact ⟨h1, by omega, a1, a2, by omega⟩
theorem fieldsS_bytes : ∀ {ls : List L} {l : List Fld}, BytesL ls → fieldsS ls = some l → BytesF l ∧ l.length = ls.length
  | [], l, _, h => by simp [fieldsS] at h; subst h; exact ⟨fun _ h => (by cases h), rfl⟩
  | x :: r, l, hb, h => by
    rw [fieldsS_cons] at h
    cases hx : fieldS x with
    | none => rw [hx] at h; cases h
    | some f =>
      rw [hx] at h
      cases hr : fieldsS r with
      | none => rw [hr] at h; cases h
      | some m =>
        rw [hr] at h
        simp only [Option.some.injEq] at h
        subst h
        obtain ⟨h1, h2⟩ := fieldsS_bytes (fun y hy => hb y (by simp [hy])) hr
        refine ⟨fun y hy => ?_, by simp [h2]⟩
        rcases List.mem_cons.1 hy with rfl | hy
        · exact fieldS_bytes (hb x (by simp)) hx
        · exact h1 y hy
theorem fieldsE_bytes {ls : List L} {l : List Fld} (hb : BytesL ls) (h : fieldsE ls = .ok l) : BytesF l ∧ l.length ≤ 64 := by
  unfold fieldsE at h
  split at h
  · cases h
  · split at h
    · cases h
    · rename_i m hm
      simp only [Except.ok.injEq] at h
      subst h
      obtain ⟨h1, h2⟩ := fieldsS_bytes hb hm
      exact ⟨h1, by omega⟩
theorem pq_head {b : L} {k : Nat} (h : cutS 147 b = .error k) : parseReqS b = .error k := by unfold parseReqS; rw [h]
theorem pq_start {b first rest : L} {ls : List L} {k : Nat} (h : cutS 147 b = .ok (first, ls, rest)) (h2 : startS first = .error k) : parseReqS b = .error k := by unfold parseReqS; rw [h]; simp only [h2]
theorem pq_fields {b first rest m t : L} {ls : List L} {v : Int} {k : Nat} (h : cutS 147 b = .ok (first, ls, rest)) (h2 : startS first = .ok (m, t, v)) (h3 : fieldsE ls = .error k) : parseReqS b = .error k := by unfold parseReqS; rw [h]; simp only [h2, h3]
theorem pq_host {b first rest m t : L} {ls : List L} {v : Int} {l : List Fld} (h : cutS 147 b = .ok (first, ls, rest)) (h2 : startS first = .ok (m, t, v)) (h3 : fieldsE ls = .ok l) (h4 : hostOk l v = false) : parseReqS b = .error 144 := by unfold parseReqS; rw [h]; simp only [h2, h3, h4, if_true]
theorem pq_frame {b first rest m t : L} {ls : List L} {v : Int} {l : List Fld} {k : Nat} (h : cutS 147 b = .ok (first, ls, rest)) (h2 : startS first = .ok (m, t, v)) (h3 : fieldsE ls = .ok l) (h4 : hostOk l v = true) (h5 : frameS l v = .error k) : parseReqS b = .error k := by unfold parseReqS; rw [h]; simp only [h2, h3, h4, h5, Bool.true_eq_false, if_false]
theorem pq_body {b first rest m t : L} {ls : List L} {v : Int} {l : List Fld} {k : Nat} {fr : Wb.Frame} (h : cutS 147 b = .ok (first, ls, rest)) (h2 : startS first = .ok (m, t, v)) (h3 : fieldsE ls = .ok l) (h4 : hostOk l v = true) (h5 : frameS l v = .ok fr) (h6 : bodyS rest fr = .error k) : parseReqS b = .error k := by unfold parseReqS; rw [h]; simp only [h2, h3, h4, h5, h6, Bool.true_eq_false, if_false]
theorem pq_ok {b first rest m t bd : L} {ls : List L} {v : Int} {l : List Fld} {k : Nat} {fr : Wb.Frame} (h : cutS 147 b = .ok (first, ls, rest)) (h2 : startS first = .ok (m, t, v)) (h3 : fieldsE ls = .ok l) (h4 : hostOk l v = true) (h5 : frameS l v = .ok fr) (h6 : bodyS rest fr = .ok (bd, k)) : parseReqS b = .ok (⟨m, t, v, l, bd, closesS l v⟩, b.length - rest.length + k) := by unfold parseReqS; rw [h]; simp only [h2, h3, h4, h5, h6, Bool.true_eq_false, if_false]
theorem st_other {first : L} (h : (splitC 32 first).length ≠ 3) : startS first = .error 141 := by
  unfold startS
  split
  · rename_i m t v e; rw [e] at h; exact absurd rfl h
  · rfl
theorem st_three {first m t v : L} (h : splitC 32 first = [m, t, v]) : startS first = if tokS m = false ∨ t = [] ∨ t.all visB = false then .error 141
    else match versS v with
      | none => .error 141
      | some (a, b) => if methodsS.contains m = false then .error 148 else if a = 1 ∧ b ≤ 1 then .ok (m, t, b) else .error 142 := by unfold startS; rw [h]; cases hv : versS v <;> simp only [hv]
abbrev zReq : Array Value := #[.string ⟨#[]⟩, .string ⟨#[]⟩, .int .i64 0, .slice none 0 0, .slice none 0 0, .bool false]
abbrev reqA (r : ReqS) (Bf : Option Addr) (cf : Nat) (Bb : Option Addr) (cb : Nat) : Array Value := #[.string (strOfNums r.method), .string (strOfNums r.target), .int .i64 r.minor, .slice Bf r.fields.length cf, .slice Bb r.body.length cb, .bool r.close]
/-- What parseRequest ends in. -/
def PqR (A : Nat → Addr) (w : World) (b : L) (e : Ending) (w' : World) : Prop := match parseReqS b with
  | .error k => ∃ v, ErrOf A v k ∧ e = .returned (.tuple #[.agg zReq, .int .i64 0, v]) ∧ Hp w w' [] []
  | .ok (r, n) => ∃ Bf cf Bb cb, e = .returned (.tuple #[.agg (reqA r Bf cf Bb cb), .int .i64 (n : Int), .nilIface]) ∧ Hp w w' [] [rowF (.slice Bf r.fields.length cf) r.fields, rowB (.slice Bb r.body.length cb) r.body]
theorem pqR_err {A : Nat → Addr} {w : World} {b : L} {w' : World} {k : Nat} {v : Value} (h : parseReqS b = .error k) (hv : ErrOf A v k) (H : Hp w w' [] []) : PqR A w b (.returned (.tuple #[.agg zReq, .int .i64 0, v])) w' := by
  unfold PqR; rw [h]; exact ⟨v, hv, rfl, H⟩
abbrev tHead : ByteArray := ⟨#[104, 101, 97, 100]⟩
abbrev tFields : ByteArray := ⟨#[102, 105, 101, 108, 100, 115]⟩
set_option maxRecDepth 100000 in
set_option maxHeartbeats 8000000 in
theorem parseRequest_c {A : Nat → Addr} {w : World} (hE : LayS A w) {mx : Int} (hM : w.cell? ⟨20, 0, none⟩ = some (.int .i64 mx)) {tM : TypeId} {frM : Nat × Nat} (hT : w.heap[17]? = some (.cells meC tM frM))
    {B : Option Addr} {c : Nat} {b : L} (h : ReadsInt w .u8 B b.length b) (hc : b.length ≤ c) (hn : B = none → c = 0 ∧ b.length = 0) (hb : Bytes b) (hs : b.length ≤ 100000000) :
    Calls Tryz.prog 54 #[.slice B b.length c] w (PqR A w b) := by
  have c2 := (hE.sent 2 (by decide) (by decide)).cell
  have c6 := (hE.sent 6 (by decide) (by decide)).cell
  have c7 := (hE.sent 7 (by decide) (by decide)).cell
  have c12 := (hE.sent 12 (by decide) (by decide)).cell
  have e6 : ErrOf A (errV (A 6)) 141 := ⟨6, by decide, by decide, rfl, .inl rfl⟩
  have e7 : ErrOf A (errV (A 7)) 142 := ⟨7, by decide, by decide, rfl, .inl rfl⟩
  have e12 : ErrOf A (errV (A 12)) 148 := ⟨12, by decide, by decide, rfl, .inl rfl⟩
  have e9 : ErrOf A (errV (A 9)) 144 := ⟨9, by decide, by decide, rfl, .inl rfl⟩
  have hTb : ∀ w1, Below w.heap.size w w1 → w1.heap[17]? = some (.cells meC tM frM) := fun w1 K => (K.block _ (blk_lt hT)).trans hT
  refine enter (args := [.slice B b.length c]) Tryz.func54 rfl Tryz.ntmps54 rfl ?_
  have H := Hp.nil w
  repeat' (first | (first | (with_reducible refine p_tn ?_) | (with_reducible refine wp_seq ?_) | (with_reducible refine w_reg ?_)) | (first | (with_reducible refine l_nil ?_) | ((with_reducible refine g_on ?_); (first | ((with_reducible refine g_mv ?_); refine l_p txs rfl rfl ?_) | ((with_reducible refine g_as ?_); refine l_p txs rfl rfl ?_) | ((with_reducible refine g_al ?_); refine h_alloc recs H rfl rfl (fun g_ w_ H => ?_))))))
  (with_reducible refine is_l ?_); refine l_ld txs rfl rfl (H.old c2) ?_
  have hcall := head_c (hE.below H.B) (g := 2) (by decide) (by decide) (tl := 147) rfl (h.below H.B) hc hn hb hs
  (with_reducible refine is_l ?_); refine l_call rfl rfl (by kernel_rfl) hcall (fun e w_ hR => ?_)
  unfold HdR at hR
  cases hcut : cutS 147 b with
  | error k =>
    rw [hcut] at hR
    obtain ⟨s0, a1, l1, k1, a2, l2, k2, v, hv, rfl, K⟩ := hR
    refine ⟨_, rfl, ?_⟩
    have H := H.join K
    have hres := pq_head hcut
    have hvp := hv.placed tHead
    obtain ⟨g, _, _, _, rfl⟩ := hv
    repeat' (first | (first | (with_reducible refine p_tn ?_) | (with_reducible refine wp_seq ?_) | (with_reducible refine w_reg ?_)) | (first | (with_reducible refine l_nil ?_) | ((with_reducible refine g_on ?_); (first | ((with_reducible refine g_mv ?_); refine l_p txs rfl rfl ?_) | ((with_reducible refine g_as ?_); refine l_p txs rfl rfl ?_) | ((with_reducible refine g_ex ?_); refine l_p txs rfl rfl ?_) | ((with_reducible refine g_st ?_); (refine h_stR recs H 0 rfl rfl rfl rfl rfl rfl rfl rfl rfl (fun w_ H => ?_))) | ((with_reducible refine g_al ?_); refine h_alloc recs H rfl rfl (fun g_ w_ H => ?_))))))
    (with_reducible refine is_l ?_); refine l_t txs rfl rfl (fun _ => ?_) (fun hh => absurd trivial hh)
    repeat' (first | (first | (with_reducible refine p_tn ?_) | (with_reducible refine wp_seq ?_) | (with_reducible (refine is_if ?_; (refine w_ift rfl ?_)))) | (with_reducible refine l_nil ?_))
    have HS := H.pick [1] [] (by decide) (by decide) rfl rfl
    refine d_start (fun w_ => Hp w w_ _ _) #[false, false, false, false, false, false] (by kernel_rfl) rfl rfl HS.drew ?_
    have H := H.drew
    have HS := HS.drew
    first | (refine d_take (i := 0) #[true, false, false, false, false, false] rfl (by kernel_rfl) (fun _ _ _ h => h) rfl (fun w_ K => evLR_run (o := ⟨_, _, _, _, _, _⟩) recs rfl rfl (K.range 0 rfl) rfl) HS ?_)
    first | (refine d_pure (i := 1) #[true, true, false, false, false, false] rfl (by kernel_rfl) (fun _ _ _ h => h) rfl (fun w_ => evP_run (o := ⟨_, _, _, _, _, _⟩) txs rfl) ?_)
    refine d_one (i := 2) #[true, true, true, false, false, false] rfl (by kernel_rfl) rfl ?_
    refine l_callp rfl rfl (by kernel_rfl) (in_c tHead _ _ _) ?_
    refine l_nil ?_
    have HS := H.pick [1] [] (by decide) (by decide) rfl rfl
    refine ⟨rfl, HS, ?_⟩
    refine d_one (i := 3) #[true, true, true, true, false, false] rfl (by kernel_rfl) rfl ?_
    refine g_on ?_; ((with_reducible refine g_st ?_); (refine h_stR recs H 2 rfl rfl rfl rfl rfl rfl rfl rfl rfl (fun w_ H => ?_)))
    refine l_nil ?_
    have HS := H.pick [1] [] (by decide) (by decide) rfl rfl
    refine ⟨rfl, HS, ?_⟩
    first | (refine d_pure (i := 4) #[true, true, true, true, true, false] rfl (by kernel_rfl) (fun _ _ _ h => h) rfl (fun w_ => evP_run (o := ⟨_, _, _, _, _, _⟩) txs rfl) ?_)
    first | (refine d_pure (i := 5) #[true, true, true, true, true, true] rfl (by kernel_rfl) (fun _ _ _ h => h) rfl (fun w_ => evP_run (o := ⟨_, _, _, _, _, _⟩) txs rfl) ?_)
    refine d_done rfl ?_
    repeat' (first | (with_reducible refine p_tn ?_) | (with_reducible refine p_tr ?_) | (with_reducible refine wp_ret ?_))
    refine end_ctt recs H 2 rfl rfl rfl rfl rfl rfl rfl ?_
    exact pqR_err hres hvp (H.pick [] [] (by decide) (by decide) rfl rfl)
  | ok z =>
    obtain ⟨first, ls, rest⟩ := z
    rw [hcut] at hR
    obtain ⟨Bf, cf, Br, cr, rfl, K, r1, r2, r3⟩ := hR
    refine ⟨_, rfl, ?_⟩
    obtain ⟨hb1, hl1, hb2, hb3, hl3⟩ := cut_bytes hb hs hcut
    have z1 := sizeS' hb1
    have H := H.join K
    repeat' (first | (first | (with_reducible refine p_tn ?_) | (with_reducible refine wp_seq ?_) | (with_reducible refine w_reg ?_)) | (first | (with_reducible refine l_nil ?_) | ((with_reducible refine g_on ?_); (first | ((with_reducible refine g_mv ?_); refine l_p txs rfl rfl ?_) | ((with_reducible refine g_as ?_); refine l_p txs rfl rfl ?_) | ((with_reducible refine g_ex ?_); refine l_p txs rfl rfl ?_) | ((with_reducible refine g_st ?_); (refine h_stR recs H 0 rfl rfl rfl rfl rfl rfl rfl rfl rfl (fun w_ H => ?_))) | ((with_reducible refine g_al ?_); refine h_alloc recs H rfl rfl (fun g_ w_ H => ?_))))))
    (with_reducible refine is_l ?_); refine l_t txs rfl rfl (fun hh => absurd hh (by simp)) (fun _ => ?_)
    repeat' (first | (first | (with_reducible refine p_tn ?_) | (with_reducible refine wp_seq ?_) | (with_reducible refine w_reg ?_) | (with_reducible (refine is_if ?_; (refine w_iff rfl ?_))) | (with_reducible refine wp_skip ?_)) | (first | (with_reducible refine l_nil ?_) | ((with_reducible refine g_on ?_); (first | ((with_reducible refine g_fa ?_); refine h_fa flds rfl rfl ?_) | ((with_reducible refine g_ld ?_); (refine h_ld txs H 0 rfl rfl rfl rfl ?_))))))
    have hsp := split_c (strOfNums first) 32 (by omega) w_ mx (H.old hM)
    rw [blS hb1] at hsp
    simp only [show ((32 : UInt8).toNat : Int) = 32 from rfl] at hsp
    have hsm := split_mem 32 first
    obtain ⟨ws, hws⟩ : ∃ p, p = splitC 32 first := ⟨_, rfl⟩
    rw [← hws] at hsp hsm
    (with_reducible refine is_l ?_); refine l_call rfl rfl (by kernel_rfl) hsp (fun e w_ hR => ?_)
    obtain ⟨gw, rfl, K⟩ := hR
    refine ⟨_, rfl, ?_⟩
    have H := (H.join K).pick [0, 1, 2, 3] [0] (by decide) (by decide) rfl rfl
    repeat' (first | (first | (with_reducible refine p_tn ?_) | (with_reducible refine wp_seq ?_) | (with_reducible refine w_reg ?_)) | (first | (with_reducible refine l_nil ?_) | ((with_reducible refine g_on ?_); (first | ((with_reducible refine g_mv ?_); refine l_p txs rfl rfl ?_) | ((with_reducible refine g_as ?_); refine l_p txs rfl rfl ?_) | ((with_reducible refine g_cl ?_); refine l_p txs rfl rfl ?_)))))
    (with_reducible refine is_l ?_); refine l_t txs rfl rfl (fun h1 => ?_) (fun h1 => ?_)
    · have hres := pq_start hcut (st_other (by rw [← hws]; omega))
      repeat' (first | (first | (with_reducible refine p_tn ?_) | (with_reducible refine wp_seq ?_) | (with_reducible (refine is_if ?_; (refine w_ift rfl ?_)))) | (first | (with_reducible refine l_nil ?_) | ((with_reducible refine g_on ?_); (first | ((with_reducible refine g_mv ?_); refine l_p txs rfl rfl ?_) | ((with_reducible refine g_pk ?_); refine l_p txs rfl rfl ?_))) | ((with_reducible refine g_if ?_); (refine l_off rfl ?_))))
      have HS := H.pick [2] [] (by decide) (by decide) rfl rfl
      refine d_start (fun w_ => Hp w w_ _ _) #[false, false, false, false, false] (by kernel_rfl) rfl rfl HS.drew ?_
      have H := H.drew
      have HS := HS.drew
      first | (refine d_take (i := 0) #[true, false, false, false, false] rfl (by kernel_rfl) (fun _ _ _ h => h) rfl (fun w_ K => evLR_run (o := ⟨_, _, _, _, _, _⟩) recs rfl rfl (K.range 0 rfl) rfl) HS ?_)
      first | (refine d_take (i := 1) #[true, true, false, false, false] rfl (by kernel_rfl) (fun _ _ _ h => h) rfl (fun w_ K => evL_run (o := ⟨_, _, _, _, _, _⟩) txs rfl (K.old c6)) HS ?_)
      refine d_one (i := 2) #[true, true, true, false, false] rfl (by kernel_rfl) rfl ?_
      refine g_on ?_; ((with_reducible refine g_st ?_); (refine h_stR recs H 3 rfl rfl rfl rfl rfl rfl rfl rfl rfl (fun w_ H => ?_)))
      refine l_nil ?_
      have HS := H.pick [2] [] (by decide) (by decide) rfl rfl
      refine ⟨rfl, HS, ?_⟩
      first | (refine d_pure (i := 3) #[true, true, true, true, false] rfl (by kernel_rfl) (fun _ _ _ h => h) rfl (fun w_ => evP_run (o := ⟨_, _, _, _, _, _⟩) txs rfl) ?_)
      first | (refine d_pure (i := 4) #[true, true, true, true, true] rfl (by kernel_rfl) (fun _ _ _ h => h) rfl (fun w_ => evP_run (o := ⟨_, _, _, _, _, _⟩) txs rfl) ?_)
      refine d_done rfl ?_
      repeat' (first | (with_reducible refine p_tn ?_) | (with_reducible refine p_tr ?_) | (with_reducible refine wp_ret ?_))
      refine end_ctt recs H 3 rfl rfl rfl rfl rfl rfl rfl ?_
      exact pqR_err hres e6 (H.pick [] [] (by decide) (by decide) rfl rfl)
    obtain ⟨m, t, v, hmtv⟩ : ∃ m t v, ws = [m, t, v] := by
      match ws, h1 with
      | [m, t, v], _ => exact ⟨m, t, v, rfl⟩
      | [], h1 => exact absurd (by simp) h1
      | [_], h1 => exact absurd (by simp) h1
      | [_, _], h1 => exact absurd (by simp) h1
      | _ :: _ :: _ :: _ :: _, h1 => exact absurd (by simp; omega) h1
    subst hmtv
    have hst := st_three hws.symm
    obtain ⟨hm1, hm2⟩ := hsm m (by simp)
    obtain ⟨ht1, ht2⟩ := hsm t (by simp)
    obtain ⟨hv1, hv2⟩ := hsm v (by simp)
    have bm : Bytes m := fun y hy => hb1 y (hm1 y hy)
    have bt : Bytes t := fun y hy => hb1 y (ht1 y hy)
    have bv : Bytes v := fun y hy => hb1 y (hv1 y hy)
    have zm := sizeS' bm
    have zt := sizeS' bt
    repeat' (first | ((with_reducible refine g_on ?_); ((with_reducible refine g_mv ?_); refine l_p txs rfl rfl ?_)) | ((with_reducible refine g_if ?_); (first | ((with_reducible refine g_mv ?_); refine l_p txs rfl rfl ?_) | ((with_reducible refine g_ld ?_); (refine h_ld txs H 0 rfl rfl rfl rfl ?_)) | ((with_reducible refine g_ia ?_); refine l_ia txs rfl rfl (by first | omega | assumption | decide) (by first | omega | assumption | decide) ?_))))
    have htok := fun w1 => token_c (strOfNums m) w1 (by omega)
    rw [blS bm] at htok
    cases htk : tokS m
    · rw [htk] at htok
      have hres := pq_start hcut (k := 141) (by rw [hst, if_pos (.inl htk)])
      (with_reducible refine is_l ?_); refine l_callp rfl rfl (by kernel_rfl) (htok _) ?_
      repeat' (first | (first | (with_reducible refine p_tn ?_) | (with_reducible refine wp_seq ?_) | (with_reducible (refine is_if ?_; (refine w_ift rfl ?_)))) | (first | (with_reducible refine l_nil ?_) | ((with_reducible refine g_on ?_); (first | ((with_reducible refine g_mv ?_); refine l_p txs rfl rfl ?_) | ((with_reducible refine g_pk ?_); refine l_p txs rfl rfl ?_))) | ((with_reducible refine g_if ?_); (first | (refine l_off rfl ?_) | ((with_reducible refine g_un ?_); (refine l_p txs rfl rfl ?_))))))
      have HS := H.pick [2] [] (by decide) (by decide) rfl rfl
      refine d_start (fun w_ => Hp w w_ _ _) #[false, false, false, false, false] (by kernel_rfl) rfl rfl HS.drew ?_
      have H := H.drew
      have HS := HS.drew
      first | (refine d_take (i := 0) #[true, false, false, false, false] rfl (by kernel_rfl) (fun _ _ _ h => h) rfl (fun w_ K => evLR_run (o := ⟨_, _, _, _, _, _⟩) recs rfl rfl (K.range 0 rfl) rfl) HS ?_)
      first | (refine d_take (i := 1) #[true, true, false, false, false] rfl (by kernel_rfl) (fun _ _ _ h => h) rfl (fun w_ K => evL_run (o := ⟨_, _, _, _, _, _⟩) txs rfl (K.old c6)) HS ?_)
      refine d_one (i := 2) #[true, true, true, false, false] rfl (by kernel_rfl) rfl ?_
      refine g_on ?_; ((with_reducible refine g_st ?_); (refine h_stR recs H 3 rfl rfl rfl rfl rfl rfl rfl rfl rfl (fun w_ H => ?_)))
      refine l_nil ?_
      have HS := H.pick [2] [] (by decide) (by decide) rfl rfl
      refine ⟨rfl, HS, ?_⟩
      first | (refine d_pure (i := 3) #[true, true, true, true, false] rfl (by kernel_rfl) (fun _ _ _ h => h) rfl (fun w_ => evP_run (o := ⟨_, _, _, _, _, _⟩) txs rfl) ?_)
      first | (refine d_pure (i := 4) #[true, true, true, true, true] rfl (by kernel_rfl) (fun _ _ _ h => h) rfl (fun w_ => evP_run (o := ⟨_, _, _, _, _, _⟩) txs rfl) ?_)
      refine d_done rfl ?_
      repeat' (first | (with_reducible refine p_tn ?_) | (with_reducible refine p_tr ?_) | (with_reducible refine wp_ret ?_))
      refine end_ctt recs H 3 rfl rfl rfl rfl rfl rfl rfl ?_
      exact pqR_err hres e6 (H.pick [] [] (by decide) (by decide) rfl rfl)
    rw [htk] at htok
    (with_reducible refine is_l ?_); refine l_callp rfl rfl (by kernel_rfl) (htok _) ?_
    repeat' (first | ((with_reducible refine g_on ?_); (first | ((with_reducible refine g_mv ?_); refine l_p txs rfl rfl ?_) | ((with_reducible refine g_pk ?_); refine l_p txs rfl rfl ?_))) | ((with_reducible refine g_if ?_); (first | ((with_reducible refine g_mv ?_); refine l_p txs rfl rfl ?_) | ((with_reducible refine g_ld ?_); (refine h_ld txs H 0 rfl rfl rfl rfl ?_)) | ((with_reducible refine g_un ?_); (refine l_p txs rfl rfl ?_)) | ((with_reducible refine g_ia ?_); refine l_ia txs rfl rfl (by first | omega | assumption | decide) (by first | omega | assumption | decide) ?_))))
    have hbt := blS bt
    (with_reducible refine is_l ?_); refine l_t txs rfl rfl (fun h2 => ?_) (fun h2 => ?_)
    · have h2' : t = [] := by rw [← hbt]; exact h2
      have hres := pq_start hcut (k := 141) (by rw [hst, if_pos (.inr (.inl h2'))])
      repeat' (first | (first | (with_reducible refine p_tn ?_) | (with_reducible refine wp_seq ?_) | (with_reducible (refine is_if ?_; (refine w_ift rfl ?_)))) | (first | (with_reducible refine l_nil ?_) | ((with_reducible refine g_on ?_); (first | ((with_reducible refine g_mv ?_); refine l_p txs rfl rfl ?_) | ((with_reducible refine g_pk ?_); refine l_p txs rfl rfl ?_))) | ((with_reducible refine g_if ?_); (refine l_off rfl ?_))))
      have HS := H.pick [2] [] (by decide) (by decide) rfl rfl
      refine d_start (fun w_ => Hp w w_ _ _) #[false, false, false, false, false] (by kernel_rfl) rfl rfl HS.drew ?_
      have H := H.drew
      have HS := HS.drew
      first | (refine d_take (i := 0) #[true, false, false, false, false] rfl (by kernel_rfl) (fun _ _ _ h => h) rfl (fun w_ K => evLR_run (o := ⟨_, _, _, _, _, _⟩) recs rfl rfl (K.range 0 rfl) rfl) HS ?_)
      first | (refine d_take (i := 1) #[true, true, false, false, false] rfl (by kernel_rfl) (fun _ _ _ h => h) rfl (fun w_ K => evL_run (o := ⟨_, _, _, _, _, _⟩) txs rfl (K.old c6)) HS ?_)
      refine d_one (i := 2) #[true, true, true, false, false] rfl (by kernel_rfl) rfl ?_
      refine g_on ?_; ((with_reducible refine g_st ?_); (refine h_stR recs H 3 rfl rfl rfl rfl rfl rfl rfl rfl rfl (fun w_ H => ?_)))
      refine l_nil ?_
      have HS := H.pick [2] [] (by decide) (by decide) rfl rfl
      refine ⟨rfl, HS, ?_⟩
      first | (refine d_pure (i := 3) #[true, true, true, true, false] rfl (by kernel_rfl) (fun _ _ _ h => h) rfl (fun w_ => evP_run (o := ⟨_, _, _, _, _, _⟩) txs rfl) ?_)
      first | (refine d_pure (i := 4) #[true, true, true, true, true] rfl (by kernel_rfl) (fun _ _ _ h => h) rfl (fun w_ => evP_run (o := ⟨_, _, _, _, _, _⟩) txs rfl) ?_)
      refine d_done rfl ?_
      repeat' (first | (with_reducible refine p_tn ?_) | (with_reducible refine p_tr ?_) | (with_reducible refine wp_ret ?_))
      refine end_ctt recs H 3 rfl rfl rfl rfl rfl rfl rfl ?_
      exact pqR_err hres e6 (H.pick [] [] (by decide) (by decide) rfl rfl)
    have h2' : ¬ t = [] := fun e => h2 (by rw [hbt, e]; rfl)
    repeat' (first | ((with_reducible refine g_on ?_); (first | ((with_reducible refine g_mv ?_); refine l_p txs rfl rfl ?_) | ((with_reducible refine g_pk ?_); refine l_p txs rfl rfl ?_))) | ((with_reducible refine g_if ?_); (first | ((with_reducible refine g_mv ?_); refine l_p txs rfl rfl ?_) | ((with_reducible refine g_ld ?_); (refine h_ld txs H 0 rfl rfl rfl rfl ?_)) | ((with_reducible refine g_ia ?_); refine l_ia txs rfl rfl (by first | omega | assumption | decide) (by first | omega | assumption | decide) ?_))))
    have hall := fun w1 => all_c (strOfNums t) 100 visB kind_visible w1 (by omega)
    rw [hbt] at hall
    cases hvi : t.all visB
    · rw [hvi] at hall
      have hres := pq_start hcut (k := 141) (by rw [hst, if_pos (.inr (.inr hvi))])
      (with_reducible refine is_l ?_); refine l_callp rfl rfl (by kernel_rfl) (hall _) ?_
      repeat' (first | (first | (with_reducible refine p_tn ?_) | (with_reducible refine wp_seq ?_) | (with_reducible (refine is_if ?_; (refine w_ift rfl ?_)))) | (first | (with_reducible refine l_nil ?_) | ((with_reducible refine g_on ?_); ((with_reducible refine g_pk ?_); refine l_p txs rfl rfl ?_)) | ((with_reducible refine g_if ?_); ((with_reducible refine g_un ?_); (refine l_p txs rfl rfl ?_)))))
      have HS := H.pick [2] [] (by decide) (by decide) rfl rfl
      refine d_start (fun w_ => Hp w w_ _ _) #[false, false, false, false, false] (by kernel_rfl) rfl rfl HS.drew ?_
      have H := H.drew
      have HS := HS.drew
      first | (refine d_take (i := 0) #[true, false, false, false, false] rfl (by kernel_rfl) (fun _ _ _ h => h) rfl (fun w_ K => evLR_run (o := ⟨_, _, _, _, _, _⟩) recs rfl rfl (K.range 0 rfl) rfl) HS ?_)
      first | (refine d_take (i := 1) #[true, true, false, false, false] rfl (by kernel_rfl) (fun _ _ _ h => h) rfl (fun w_ K => evL_run (o := ⟨_, _, _, _, _, _⟩) txs rfl (K.old c6)) HS ?_)
      refine d_one (i := 2) #[true, true, true, false, false] rfl (by kernel_rfl) rfl ?_
      refine g_on ?_; ((with_reducible refine g_st ?_); (refine h_stR recs H 3 rfl rfl rfl rfl rfl rfl rfl rfl rfl (fun w_ H => ?_)))
      refine l_nil ?_
      have HS := H.pick [2] [] (by decide) (by decide) rfl rfl
      refine ⟨rfl, HS, ?_⟩
      first | (refine d_pure (i := 3) #[true, true, true, true, false] rfl (by kernel_rfl) (fun _ _ _ h => h) rfl (fun w_ => evP_run (o := ⟨_, _, _, _, _, _⟩) txs rfl) ?_)
      first | (refine d_pure (i := 4) #[true, true, true, true, true] rfl (by kernel_rfl) (fun _ _ _ h => h) rfl (fun w_ => evP_run (o := ⟨_, _, _, _, _, _⟩) txs rfl) ?_)
      refine d_done rfl ?_
      repeat' (first | (with_reducible refine p_tn ?_) | (with_reducible refine p_tr ?_) | (with_reducible refine wp_ret ?_))
      refine end_ctt recs H 3 rfl rfl rfl rfl rfl rfl rfl ?_
      exact pqR_err hres e6 (H.pick [] [] (by decide) (by decide) rfl rfl)
    rw [hvi] at hall
    rw [if_neg (by rintro (h | h | h); · rw [htk] at h; cases h
                   · exact h2' h
                   · rw [hvi] at h; cases h)] at hst
    (with_reducible refine is_l ?_); refine l_callp rfl rfl (by kernel_rfl) (hall _) ?_
    repeat' (first | (first | (with_reducible refine p_tn ?_) | (with_reducible refine wp_seq ?_) | (with_reducible refine w_reg ?_) | (with_reducible (refine is_if ?_; (refine w_iff rfl ?_))) | (with_reducible refine wp_skip ?_)) | (first | (with_reducible refine l_nil ?_) | ((with_reducible refine g_on ?_); (first | ((with_reducible refine g_mv ?_); refine l_p txs rfl rfl ?_) | ((with_reducible refine g_pk ?_); refine l_p txs rfl rfl ?_) | ((with_reducible refine g_ld ?_); (refine h_ld txs H 0 rfl rfl rfl rfl ?_)) | ((with_reducible refine g_ia ?_); refine l_ia txs rfl rfl (by first | omega | assumption | decide) (by first | omega | assumption | decide) ?_))) | ((with_reducible refine g_if ?_); ((with_reducible refine g_un ?_); (refine l_p txs rfl rfl ?_)))))
    have hver := fun w1 => version_c (strOfNums v) w1
    rw [blS bv] at hver
    cases hvs : versS v with
    | none =>
      rw [versV_none hvs] at hver
      rw [hvs] at hst
      have hres := pq_start hcut hst
      (with_reducible refine is_l ?_); refine l_callp rfl rfl (by kernel_rfl) (hver _) ?_
      repeat' (first | (first | (with_reducible refine p_tn ?_) | (with_reducible refine wp_seq ?_) | (with_reducible refine wp_block ?_) | (with_reducible refine w_reg ?_) | (with_reducible (refine is_if ?_; (refine w_ift rfl ?_)))) | (first | (with_reducible refine l_nil ?_) | ((with_reducible refine g_on ?_); (first | ((with_reducible refine g_mv ?_); refine l_p txs rfl rfl ?_) | ((with_reducible refine g_as ?_); refine l_p txs rfl rfl ?_) | ((with_reducible refine g_ex ?_); refine l_p txs rfl rfl ?_) | ((with_reducible refine g_un ?_); (refine l_p txs rfl rfl ?_))))))
      have HS := H.pick [2] [] (by decide) (by decide) rfl rfl
      refine d_start (fun w_ => Hp w w_ _ _) #[false, false, false, false, false] (by kernel_rfl) rfl rfl HS.drew ?_
      have H := H.drew
      have HS := HS.drew
      first | (refine d_take (i := 0) #[true, false, false, false, false] rfl (by kernel_rfl) (fun _ _ _ h => h) rfl (fun w_ K => evLR_run (o := ⟨_, _, _, _, _, _⟩) recs rfl rfl (K.range 0 rfl) rfl) HS ?_)
      first | (refine d_take (i := 1) #[true, true, false, false, false] rfl (by kernel_rfl) (fun _ _ _ h => h) rfl (fun w_ K => evL_run (o := ⟨_, _, _, _, _, _⟩) txs rfl (K.old c6)) HS ?_)
      refine d_one (i := 2) #[true, true, true, false, false] rfl (by kernel_rfl) rfl ?_
      refine g_on ?_; ((with_reducible refine g_st ?_); (refine h_stR recs H 3 rfl rfl rfl rfl rfl rfl rfl rfl rfl (fun w_ H => ?_)))
      refine l_nil ?_
      have HS := H.pick [2] [] (by decide) (by decide) rfl rfl
      refine ⟨rfl, HS, ?_⟩
      first | (refine d_pure (i := 3) #[true, true, true, true, false] rfl (by kernel_rfl) (fun _ _ _ h => h) rfl (fun w_ => evP_run (o := ⟨_, _, _, _, _, _⟩) txs rfl) ?_)
      first | (refine d_pure (i := 4) #[true, true, true, true, true] rfl (by kernel_rfl) (fun _ _ _ h => h) rfl (fun w_ => evP_run (o := ⟨_, _, _, _, _, _⟩) txs rfl) ?_)
      refine d_done rfl ?_
      repeat' (first | (with_reducible refine p_tn ?_) | (with_reducible refine p_tr ?_) | (with_reducible refine p_br ?_) | (with_reducible refine wp_ret ?_))
      refine end_ctt recs H 3 rfl rfl rfl rfl rfl rfl rfl ?_
      exact pqR_err hres e6 (H.pick [] [] (by decide) (by decide) rfl rfl)
    | some ab =>
      obtain ⟨va, minor⟩ := ab
      rw [versV_some hvs] at hver
      rw [hvs] at hst
      simp only at hst
      obtain ⟨kn, hkn⟩ : ∃ kn, kn = (decide (va = 1) && decide (minor ≤ 1)) := ⟨_, rfl⟩
      rw [← hkn] at hver
      (with_reducible refine is_l ?_); refine l_callp rfl rfl (by kernel_rfl) (hver _) ?_
      repeat' (first | (first | (with_reducible refine p_tn ?_) | (with_reducible refine wp_seq ?_) | (with_reducible refine wp_block ?_) | (with_reducible refine w_reg ?_) | (with_reducible (refine is_if ?_; (refine w_iff rfl ?_)))) | (first | (with_reducible refine l_nil ?_) | ((with_reducible refine g_on ?_); (first | ((with_reducible refine g_mv ?_); refine l_p txs rfl rfl ?_) | ((with_reducible refine g_as ?_); refine l_p txs rfl rfl ?_) | ((with_reducible refine g_ex ?_); refine l_p txs rfl rfl ?_) | ((with_reducible refine g_ld ?_); (refine h_ld txs H 0 rfl rfl rfl rfl ?_)) | ((with_reducible refine g_un ?_); (refine l_p txs rfl rfl ?_)) | ((with_reducible refine g_ia ?_); refine l_ia txs rfl rfl (by first | omega | assumption | decide) (by first | omega | assumption | decide) ?_)))))
      have him := isMethod_c (hTb _ H.B) (strOfNums m)
      rw [blS bm] at him
      cases hme : methodsS.contains m
      · rw [hme] at him hst
        have hres := pq_start hcut hst
        (with_reducible refine is_l ?_); refine l_callp rfl rfl (by kernel_rfl) him ?_
        repeat' (first | (first | (with_reducible refine p_tn ?_) | (with_reducible refine wp_seq ?_) | (with_reducible (refine is_if ?_; (refine w_ift rfl ?_)))) | (first | (with_reducible refine l_nil ?_) | ((with_reducible refine g_on ?_); (first | ((with_reducible refine g_as ?_); refine l_p txs rfl rfl ?_) | ((with_reducible refine g_un ?_); (refine l_p txs rfl rfl ?_))))))
        have HS := H.pick [2] [] (by decide) (by decide) rfl rfl
        refine d_start (fun w_ => Hp w w_ _ _) #[false, false, false, false, false] (by kernel_rfl) rfl rfl HS.drew ?_
        have H := H.drew
        have HS := HS.drew
        first | (refine d_take (i := 0) #[true, false, false, false, false] rfl (by kernel_rfl) (fun _ _ _ h => h) rfl (fun w_ K => evLR_run (o := ⟨_, _, _, _, _, _⟩) recs rfl rfl (K.range 0 rfl) rfl) HS ?_)
        first | (refine d_take (i := 1) #[true, true, false, false, false] rfl (by kernel_rfl) (fun _ _ _ h => h) rfl (fun w_ K => evL_run (o := ⟨_, _, _, _, _, _⟩) txs rfl (K.old c12)) HS ?_)
        refine d_one (i := 2) #[true, true, true, false, false] rfl (by kernel_rfl) rfl ?_
        refine g_on ?_; ((with_reducible refine g_st ?_); (refine h_stR recs H 3 rfl rfl rfl rfl rfl rfl rfl rfl rfl (fun w_ H => ?_)))
        refine l_nil ?_
        have HS := H.pick [2] [] (by decide) (by decide) rfl rfl
        refine ⟨rfl, HS, ?_⟩
        first | (refine d_pure (i := 3) #[true, true, true, true, false] rfl (by kernel_rfl) (fun _ _ _ h => h) rfl (fun w_ => evP_run (o := ⟨_, _, _, _, _, _⟩) txs rfl) ?_)
        first | (refine d_pure (i := 4) #[true, true, true, true, true] rfl (by kernel_rfl) (fun _ _ _ h => h) rfl (fun w_ => evP_run (o := ⟨_, _, _, _, _, _⟩) txs rfl) ?_)
        refine d_done rfl ?_
        repeat' (first | (with_reducible refine p_tn ?_) | (with_reducible refine p_tr ?_) | (with_reducible refine p_br ?_) | (with_reducible refine wp_ret ?_))
        refine end_ctt recs H 3 rfl rfl rfl rfl rfl rfl rfl ?_
        exact pqR_err hres e12 (H.pick [] [] (by decide) (by decide) rfl rfl)
      rw [hme] at him hst
      rw [if_neg (by simp)] at hst
      (with_reducible refine is_l ?_); refine l_callp rfl rfl (by kernel_rfl) him ?_
      cases kn
      · have hst2 : startS first = .error 142 := by
          rw [hst, if_neg]
          rintro ⟨h3, h4⟩
          simp [h3, h4] at hkn
        have hres := pq_start hcut hst2
        repeat' (first | (first | (with_reducible refine p_tn ?_) | (with_reducible refine wp_seq ?_) | (with_reducible refine w_reg ?_) | (with_reducible (refine is_if ?_; (first | (refine w_ift rfl ?_) | (refine w_iff rfl ?_))))) | (first | (with_reducible refine l_nil ?_) | ((with_reducible refine g_on ?_); (first | ((with_reducible refine g_mv ?_); refine l_p txs rfl rfl ?_) | ((with_reducible refine g_as ?_); refine l_p txs rfl rfl ?_) | ((with_reducible refine g_un ?_); (refine l_p txs rfl rfl ?_))))))
        have HS := H.pick [2] [] (by decide) (by decide) rfl rfl
        refine d_start (fun w_ => Hp w w_ _ _) #[false, false, false, false, false] (by kernel_rfl) rfl rfl HS.drew ?_
        have H := H.drew
        have HS := HS.drew
        first | (refine d_take (i := 0) #[true, false, false, false, false] rfl (by kernel_rfl) (fun _ _ _ h => h) rfl (fun w_ K => evLR_run (o := ⟨_, _, _, _, _, _⟩) recs rfl rfl (K.range 0 rfl) rfl) HS ?_)
        first | (refine d_take (i := 1) #[true, true, false, false, false] rfl (by kernel_rfl) (fun _ _ _ h => h) rfl (fun w_ K => evL_run (o := ⟨_, _, _, _, _, _⟩) txs rfl (K.old c7)) HS ?_)
        refine d_one (i := 2) #[true, true, true, false, false] rfl (by kernel_rfl) rfl ?_
        refine g_on ?_; ((with_reducible refine g_st ?_); (refine h_stR recs H 3 rfl rfl rfl rfl rfl rfl rfl rfl rfl (fun w_ H => ?_)))
        refine l_nil ?_
        have HS := H.pick [2] [] (by decide) (by decide) rfl rfl
        refine ⟨rfl, HS, ?_⟩
        first | (refine d_pure (i := 3) #[true, true, true, true, false] rfl (by kernel_rfl) (fun _ _ _ h => h) rfl (fun w_ => evP_run (o := ⟨_, _, _, _, _, _⟩) txs rfl) ?_)
        first | (refine d_pure (i := 4) #[true, true, true, true, true] rfl (by kernel_rfl) (fun _ _ _ h => h) rfl (fun w_ => evP_run (o := ⟨_, _, _, _, _, _⟩) txs rfl) ?_)
        refine d_done rfl ?_
        repeat' (first | (with_reducible refine p_tn ?_) | (with_reducible refine p_tr ?_) | (with_reducible refine p_br ?_) | (with_reducible refine wp_ret ?_))
        refine end_ctt recs H 3 rfl rfl rfl rfl rfl rfl rfl ?_
        exact pqR_err hres e7 (H.pick [] [] (by decide) (by decide) rfl rfl)
      have hst2 : startS first = .ok (m, t, minor) := by
        rw [hst, if_pos]
        have h3 := hkn.symm
        simp only [Bool.and_eq_true, decide_eq_true_eq] at h3
        exact h3
      repeat' (first | (first | (with_reducible refine p_tn ?_) | (with_reducible refine p_bn ?_) | (with_reducible refine wp_seq ?_) | (with_reducible refine w_reg ?_) | (with_reducible (refine is_if ?_; (refine w_iff rfl ?_))) | (with_reducible refine wp_skip ?_)) | (first | (with_reducible refine l_nil ?_) | ((with_reducible refine g_on ?_); (first | ((with_reducible refine g_mv ?_); refine l_p txs rfl rfl ?_) | ((with_reducible refine g_as ?_); refine l_p txs rfl rfl ?_) | ((with_reducible refine g_fa ?_); refine h_fa flds rfl rfl ?_) | ((with_reducible refine g_ld ?_); (refine h_ld txs H 1 rfl rfl rfl rfl ?_)) | ((with_reducible refine g_un ?_); (refine l_p txs rfl rfl ?_))))))
      -- the fields
      obtain ⟨A0, c0, he0, _, hrd, _⟩ := H.rd 0 rfl
      cases he0
      have hfo := fieldsOf_c (c := cf) (hE.below H.B) (H.old hM) hrd hb2
      (with_reducible refine is_l ?_); refine l_call rfl rfl (by kernel_rfl) hfo (fun e w_ hR => ?_)
      unfold FsR at hR
      cases hfe : fieldsE ls with
      | error k =>
        rw [hfe] at hR
        obtain ⟨rfl, K⟩ := hR
        refine ⟨_, rfl, ?_⟩
        have hres := pq_fields hcut hst2 hfe
        have H := H.join K
        have hke : k = 2 ∨ k = 143 := by
          unfold fieldsE at hfe
          split at hfe
          · simp only [Except.error.injEq] at hfe; omega
          · split at hfe
            · simp only [Except.error.injEq] at hfe; omega
            · cases hfe
        have hvp : ErrOf A (placV tFields (errV (A (if k = 2 then 4 else 8)))) k := by
          rcases hke with rfl | rfl
          · exact ⟨4, by decide, by decide, rfl, .inr ⟨by decide, _, rfl⟩⟩
          · exact ⟨8, by decide, by decide, rfl, .inr ⟨by decide, _, rfl⟩⟩
        repeat' (first | (first | (with_reducible refine p_tn ?_) | (with_reducible refine wp_seq ?_) | (with_reducible refine w_reg ?_)) | (first | (with_reducible refine l_nil ?_) | ((with_reducible refine g_on ?_); (first | ((with_reducible refine g_mv ?_); refine l_p txs rfl rfl ?_) | ((with_reducible refine g_as ?_); refine l_p txs rfl rfl ?_) | ((with_reducible refine g_ex ?_); refine l_p txs rfl rfl ?_)))))
        (with_reducible refine is_l ?_); refine l_t txs rfl rfl (fun _ => ?_) (fun hh => absurd trivial hh)
        repeat' (first | (first | (with_reducible refine p_tn ?_) | (with_reducible refine wp_seq ?_) | (with_reducible (refine is_if ?_; (refine w_ift rfl ?_)))) | (with_reducible refine l_nil ?_))
        have HS := H.pick [2] [] (by decide) (by decide) rfl rfl
        refine d_start (fun w_ => Hp w w_ _ _) #[false, false, false, false, false, false] (by kernel_rfl) rfl rfl HS.drew ?_
        have H := H.drew
        have HS := HS.drew
        first | (refine d_take (i := 0) #[true, false, false, false, false, false] rfl (by kernel_rfl) (fun _ _ _ h => h) rfl (fun w_ K => evLR_run (o := ⟨_, _, _, _, _, _⟩) recs rfl rfl (K.range 0 rfl) rfl) HS ?_)
        first | (refine d_pure (i := 1) #[true, true, false, false, false, false] rfl (by kernel_rfl) (fun _ _ _ h => h) rfl (fun w_ => evP_run (o := ⟨_, _, _, _, _, _⟩) txs rfl) ?_)
        refine d_one (i := 2) #[true, true, true, false, false, false] rfl (by kernel_rfl) rfl ?_
        refine l_callp rfl rfl (by kernel_rfl) (in_c tFields _ _ _) ?_
        refine l_nil ?_
        have HS := H.pick [2] [] (by decide) (by decide) rfl rfl
        refine ⟨rfl, HS, ?_⟩
        refine d_one (i := 3) #[true, true, true, true, false, false] rfl (by kernel_rfl) rfl ?_
        refine g_on ?_; ((with_reducible refine g_st ?_); (refine h_stR recs H 3 rfl rfl rfl rfl rfl rfl rfl rfl rfl (fun w_ H => ?_)))
        refine l_nil ?_
        have HS := H.pick [2] [] (by decide) (by decide) rfl rfl
        refine ⟨rfl, HS, ?_⟩
        first | (refine d_pure (i := 4) #[true, true, true, true, true, false] rfl (by kernel_rfl) (fun _ _ _ h => h) rfl (fun w_ => evP_run (o := ⟨_, _, _, _, _, _⟩) txs rfl) ?_)
        first | (refine d_pure (i := 5) #[true, true, true, true, true, true] rfl (by kernel_rfl) (fun _ _ _ h => h) rfl (fun w_ => evP_run (o := ⟨_, _, _, _, _, _⟩) txs rfl) ?_)
        refine d_done rfl ?_
        repeat' (first | (with_reducible refine p_tn ?_) | (with_reducible refine p_tr ?_) | (with_reducible refine wp_ret ?_))
        refine end_ctt recs H 3 rfl rfl rfl rfl rfl rfl rfl ?_
        exact pqR_err hres hvp (H.pick [] [] (by decide) (by decide) rfl rfl)
      | ok l =>
        rw [hfe] at hR
        obtain ⟨Bl, cl, rfl, K⟩ := hR
        refine ⟨_, rfl, ?_⟩
        obtain ⟨bl1, bl2⟩ := fieldsE_bytes hb2 hfe
        have H := (H.join K).pick [0, 1, 2, 3] [0] (by decide) (by decide) rfl rfl
        repeat' (first | (first | (with_reducible refine p_tn ?_) | (with_reducible refine wp_seq ?_) | (with_reducible refine w_reg ?_)) | (first | (with_reducible refine l_nil ?_) | ((with_reducible refine g_on ?_); (first | ((with_reducible refine g_mv ?_); refine l_p txs rfl rfl ?_) | ((with_reducible refine g_as ?_); refine l_p txs rfl rfl ?_) | ((with_reducible refine g_ex ?_); refine l_p txs rfl rfl ?_)))))
        (with_reducible refine is_l ?_); refine l_t txs rfl rfl (fun hh => absurd hh (by simp)) (fun _ => ?_)
        repeat' (first | (first | (with_reducible refine p_tn ?_) | (with_reducible refine wp_seq ?_) | (with_reducible refine w_reg ?_) | (with_reducible (refine is_if ?_; (refine w_iff rfl ?_))) | (with_reducible refine wp_skip ?_)) | (first | (with_reducible refine l_nil ?_) | ((with_reducible refine g_on ?_); ((with_reducible refine g_mv ?_); refine l_p txs rfl rfl ?_))))
        obtain ⟨A0, c0, he0, _, hrd, _⟩ := H.rd 0 rfl
        cases he0
        have hfr := framingOf_c (c := cl) (H.old hM) hrd bl1 (by omega)
        (with_reducible refine is_l ?_); refine l_callv rfl rfl (by kernel_rfl) hfr (fun w_ K => ?_)
        have H := H.call K
        repeat' (first | (first | (with_reducible refine p_tn ?_) | (with_reducible refine wp_seq ?_) | (with_reducible refine w_reg ?_)) | (first | (with_reducible refine l_nil ?_) | ((with_reducible refine g_on ?_); (first | ((with_reducible refine g_mv ?_); refine l_p txs rfl rfl ?_) | ((with_reducible refine g_ld ?_); (refine h_ldR recs H 0 rfl rfl rfl rfl rfl ?_)) | ((with_reducible refine g_st ?_); (refine h_stR recs H 0 rfl rfl rfl rfl rfl rfl rfl rfl rfl (fun w_ H => ?_))) | ((with_reducible refine g_al ?_); refine h_alloc recs H rfl rfl (fun g_ w_ H => ?_))))))
        have hho := checkHost_c (hE.below H.B) (frmS l) (frm_host l bl1) minor
        rw [host_bad bl1] at hho
        cases hh : hostOk l minor
        · rw [hh] at hho
          have hres := pq_host hcut hst2 hfe hh
          (with_reducible refine is_l ?_); refine l_callv rfl rfl (by kernel_rfl) hho (fun w_ K => ?_)
          have H := H.call K
          repeat' (first | (first | (with_reducible refine p_tn ?_) | (with_reducible refine wp_seq ?_) | (with_reducible refine w_reg ?_)) | (first | (with_reducible refine l_nil ?_) | ((with_reducible refine g_on ?_); (first | ((with_reducible refine g_mv ?_); refine l_p txs rfl rfl ?_) | ((with_reducible refine g_as ?_); refine l_p txs rfl rfl ?_)))))
          (with_reducible refine is_l ?_); refine l_t txs rfl rfl (fun _ => ?_) (fun hh => absurd trivial hh)
          repeat' (first | (first | (with_reducible refine p_tn ?_) | (with_reducible refine p_tr ?_) | (with_reducible refine wp_seq ?_) | (with_reducible refine w_reg ?_) | (with_reducible (refine is_if ?_; (refine w_ift rfl ?_))) | (with_reducible refine wp_ret ?_)) | (first | (with_reducible refine l_nil ?_) | ((with_reducible refine g_on ?_); (first | ((with_reducible refine g_mv ?_); refine l_p txs rfl rfl ?_) | ((with_reducible refine g_as ?_); refine l_p txs rfl rfl ?_) | ((with_reducible refine g_ld ?_); (refine h_ldR recs H 3 rfl rfl rfl rfl rfl ?_)) | ((with_reducible refine g_st ?_); (refine h_stR recs H 4 rfl rfl rfl rfl rfl rfl rfl rfl rfl (fun w_ H => ?_)))))))
          refine end_ctt recs H 4 rfl rfl rfl rfl rfl rfl rfl ?_
          exact pqR_err hres e9 (H.pick [] [] (by decide) (by decide) rfl rfl)
        rw [hh] at hho
        (with_reducible refine is_l ?_); refine l_callv rfl rfl (by kernel_rfl) hho (fun w_ K => ?_)
        have H := H.call K
        repeat' (first | (first | (with_reducible refine p_tn ?_) | (with_reducible refine wp_seq ?_) | (with_reducible refine w_reg ?_)) | (first | (with_reducible refine l_nil ?_) | ((with_reducible refine g_on ?_); (first | ((with_reducible refine g_mv ?_); refine l_p txs rfl rfl ?_) | ((with_reducible refine g_as ?_); refine l_p txs rfl rfl ?_)))))
        (with_reducible refine is_l ?_); refine l_t txs rfl rfl (fun hh => absurd hh (by simp)) (fun _ => ?_)
        repeat' (first | (first | (with_reducible refine p_tn ?_) | (with_reducible refine wp_seq ?_) | (with_reducible refine w_reg ?_) | (with_reducible (refine is_if ?_; (refine w_iff rfl ?_))) | (with_reducible refine wp_skip ?_)) | (first | (with_reducible refine l_nil ?_) | ((with_reducible refine g_on ?_); (first | ((with_reducible refine g_as ?_); refine l_p txs rfl rfl ?_) | ((with_reducible refine g_fa ?_); refine h_fa flds rfl rfl ?_) | ((with_reducible refine g_ld ?_); (refine h_ld txs H 0 rfl rfl rfl rfl ?_))))))
        have hclo := fun w1 => close_c (frmS l) minor w1
        rw [closes_eq] at hclo
        replace hclo := fun {w1} => hclo w1
        cases hfm : (frmS l).framed
        · have hfs : frameS l minor = .ok .none := frame_none_of hfm
          have hres := pq_ok (bd := []) (k := 0) hcut hst2 hfe hh hfs rfl
          repeat' (first | (with_reducible refine p_tn ?_) | (with_reducible refine wp_seq ?_) | (with_reducible (refine is_if ?_; (refine w_iff rfl ?_))) | (with_reducible refine wp_skip ?_))
          have HS := H.pick [0, 1, 2] [] (by decide) (by decide) rfl rfl
          refine d_start (fun w_ => Hp w w_ _ _) #[false, false, false, false, false, false, false, false, false, false, false, false, false, false, false, false, false, false, false, false, false] (by kernel_rfl) rfl rfl HS.drew ?_
          have H := H.drew
          have HS := HS.drew
          first | (refine d_pure (i := 0) #[true, false, false, false, false, false, false, false, false, false, false, false, false, false, false, false, false, false, false, false, false] rfl (by kernel_rfl) (fun _ _ _ h => h) rfl (fun w_ => evP_run (o := ⟨_, _, _, _, _, _⟩) txs rfl) ?_)
          first | (refine d_pure (i := 1) #[true, true, false, false, false, false, false, false, false, false, false, false, false, false, false, false, false, false, false, false, false] rfl (by kernel_rfl) (fun _ _ _ h => h) rfl (fun w_ => evIA_run (o := ⟨_, _, _, _, _, _⟩) txs rfl (by omega) (by omega)) ?_)
          first | (refine d_take (i := 2) #[true, true, true, false, false, false, false, false, false, false, false, false, false, false, false, false, false, false, false, false, false] rfl (by kernel_rfl) (fun _ _ _ h => h) rfl (fun w_ K => evL_run (o := ⟨_, _, _, _, _, _⟩) txs rfl (K.cellAt 0 rfl rfl)) HS ?_) | (refine d_take (i := 2) #[true, true, true, false, false, false, false, false, false, false, false, false, false, false, false, false, false, false, false, false, false] rfl (by kernel_rfl) (fun _ _ _ h => h) rfl (fun w_ K => evL_run (o := ⟨_, _, _, _, _, _⟩) txs rfl (K.cellAt 1 rfl rfl)) HS ?_) | (refine d_take (i := 2) #[true, true, true, false, false, false, false, false, false, false, false, false, false, false, false, false, false, false, false, false, false] rfl (by kernel_rfl) (fun _ _ _ h => h) rfl (fun w_ K => evL_run (o := ⟨_, _, _, _, _, _⟩) txs rfl (K.cellAt 2 rfl rfl)) HS ?_)
          first | (refine d_pure (i := 3) #[true, true, true, true, false, false, false, false, false, false, false, false, false, false, false, false, false, false, false, false, false] rfl (by kernel_rfl) (fun _ _ _ h => h) rfl (fun w_ => evP_run (o := ⟨_, _, _, _, _, _⟩) txs rfl) ?_)
          first | (refine d_pure (i := 4) #[true, true, true, true, true, false, false, false, false, false, false, false, false, false, false, false, false, false, false, false, false] rfl (by kernel_rfl) (fun _ _ _ h => h) rfl (fun w_ => evIA_run (o := ⟨_, _, _, _, _, _⟩) txs rfl (by omega) (by omega)) ?_)
          first | (refine d_take (i := 5) #[true, true, true, true, true, true, false, false, false, false, false, false, false, false, false, false, false, false, false, false, false] rfl (by kernel_rfl) (fun _ _ _ h => h) rfl (fun w_ K => evL_run (o := ⟨_, _, _, _, _, _⟩) txs rfl (K.cellAt 0 rfl rfl)) HS ?_) | (refine d_take (i := 5) #[true, true, true, true, true, true, false, false, false, false, false, false, false, false, false, false, false, false, false, false, false] rfl (by kernel_rfl) (fun _ _ _ h => h) rfl (fun w_ K => evL_run (o := ⟨_, _, _, _, _, _⟩) txs rfl (K.cellAt 1 rfl rfl)) HS ?_) | (refine d_take (i := 5) #[true, true, true, true, true, true, false, false, false, false, false, false, false, false, false, false, false, false, false, false, false] rfl (by kernel_rfl) (fun _ _ _ h => h) rfl (fun w_ K => evL_run (o := ⟨_, _, _, _, _, _⟩) txs rfl (K.cellAt 2 rfl rfl)) HS ?_)
          first | (refine d_pure (i := 6) #[true, true, true, true, true, true, true, false, false, false, false, false, false, false, false, false, false, false, false, false, false] rfl (by kernel_rfl) (fun _ _ _ h => h) rfl (fun w_ => evP_run (o := ⟨_, _, _, _, _, _⟩) txs rfl) ?_)
          first | (refine d_pure (i := 7) #[true, true, true, true, true, true, true, true, false, false, false, false, false, false, false, false, false, false, false, false, false] rfl (by kernel_rfl) (fun _ _ _ h => h) rfl (fun w_ => evP_run (o := ⟨_, _, _, _, _, _⟩) txs rfl) ?_)
          first | (refine d_take (i := 8) #[true, true, true, true, true, true, true, true, true, false, false, false, false, false, false, false, false, false, false, false, false] rfl (by kernel_rfl) (fun _ _ _ h => h) rfl (fun w_ K => evLR_run (o := ⟨_, _, _, _, _, _⟩) recs rfl rfl (K.range 0 rfl) rfl) HS ?_) | (refine d_take (i := 8) #[true, true, true, true, true, true, true, true, true, false, false, false, false, false, false, false, false, false, false, false, false] rfl (by kernel_rfl) (fun _ _ _ h => h) rfl (fun w_ K => evLR_run (o := ⟨_, _, _, _, _, _⟩) recs rfl rfl (K.range 1 rfl) rfl) HS ?_) | (refine d_take (i := 8) #[true, true, true, true, true, true, true, true, true, false, false, false, false, false, false, false, false, false, false, false, false] rfl (by kernel_rfl) (fun _ _ _ h => h) rfl (fun w_ K => evLR_run (o := ⟨_, _, _, _, _, _⟩) recs rfl rfl (K.range 2 rfl) rfl) HS ?_)
          first | (refine d_pure (i := 9) #[true, true, true, true, true, true, true, true, true, true, false, false, false, false, false, false, false, false, false, false, false] rfl (by kernel_rfl) (fun _ _ _ h => h) rfl (fun w_ => evP_run (o := ⟨_, _, _, _, _, _⟩) txs rfl) ?_)
          first | (refine d_pure (i := 11) #[true, true, true, true, true, true, true, true, true, true, false, true, false, false, false, false, false, false, false, false, false] rfl (by kernel_rfl) (fun _ _ _ h => h) rfl (fun w_ => evF_run (o := ⟨_, _, _, _, _, _⟩) flds rfl) ?_) | (refine d_pure (i := 11) #[true, true, true, true, true, true, true, true, true, true, false, true, false, false, false, false, false, false, false, false, false] rfl (by kernel_rfl) (fun _ _ _ h => h) rfl (fun w_ => evG_run (o := ⟨_, _, _, _, _, _⟩) flds rfl) ?_)
          refine d_one (i := 10) #[true, true, true, true, true, true, true, true, true, true, true, true, false, false, false, false, false, false, false, false, false] rfl (by kernel_rfl) rfl ?_
          refine l_callv rfl rfl (by kernel_rfl) hclo (fun w_ K => ?_); have H := H.call K
          refine l_nil ?_
          have HS := H.pick [0, 1, 2] [] (by decide) (by decide) rfl rfl
          refine ⟨rfl, HS, ?_⟩
          refine d_one (i := 12) #[true, true, true, true, true, true, true, true, true, true, true, true, true, false, false, false, false, false, false, false, false] rfl (by kernel_rfl) rfl ?_
          refine g_on ?_; ((with_reducible refine g_st ?_); (refine h_st txs ones H 3 rfl rfl rfl rfl rfl rfl rfl rfl rfl (fun w_ H => ?_)))
          refine l_nil ?_
          have HS := H.pick [0, 1, 2] [] (by decide) (by decide) rfl rfl
          refine ⟨rfl, HS, ?_⟩
          first | (refine d_pure (i := 13) #[true, true, true, true, true, true, true, true, true, true, true, true, true, true, false, false, false, false, false, false, false] rfl (by kernel_rfl) (fun _ _ _ h => h) rfl (fun w_ => evF_run (o := ⟨_, _, _, _, _, _⟩) flds rfl) ?_) | (refine d_pure (i := 13) #[true, true, true, true, true, true, true, true, true, true, true, true, true, true, false, false, false, false, false, false, false] rfl (by kernel_rfl) (fun _ _ _ h => h) rfl (fun w_ => evG_run (o := ⟨_, _, _, _, _, _⟩) flds rfl) ?_)
          refine d_one (i := 14) #[true, true, true, true, true, true, true, true, true, true, true, true, true, true, true, false, false, false, false, false, false] rfl (by kernel_rfl) rfl ?_
          refine g_on ?_; ((with_reducible refine g_st ?_); (refine h_st txs ones H 3 rfl rfl rfl rfl rfl rfl rfl rfl rfl (fun w_ H => ?_)))
          refine l_nil ?_
          have HS := H.pick [0, 1, 2] [] (by decide) (by decide) rfl rfl
          refine ⟨rfl, HS, ?_⟩
          first | (refine d_pure (i := 15) #[true, true, true, true, true, true, true, true, true, true, true, true, true, true, true, true, false, false, false, false, false] rfl (by kernel_rfl) (fun _ _ _ h => h) rfl (fun w_ => evF_run (o := ⟨_, _, _, _, _, _⟩) flds rfl) ?_) | (refine d_pure (i := 15) #[true, true, true, true, true, true, true, true, true, true, true, true, true, true, true, true, false, false, false, false, false] rfl (by kernel_rfl) (fun _ _ _ h => h) rfl (fun w_ => evG_run (o := ⟨_, _, _, _, _, _⟩) flds rfl) ?_)
          refine d_one (i := 16) #[true, true, true, true, true, true, true, true, true, true, true, true, true, true, true, true, true, false, false, false, false] rfl (by kernel_rfl) rfl ?_
          refine g_on ?_; ((with_reducible refine g_st ?_); (refine h_st txs ones H 3 rfl rfl rfl rfl rfl rfl rfl rfl rfl (fun w_ H => ?_)))
          refine l_nil ?_
          have HS := H.pick [0, 1, 2] [] (by decide) (by decide) rfl rfl
          refine ⟨rfl, HS, ?_⟩
          first | (refine d_pure (i := 17) #[true, true, true, true, true, true, true, true, true, true, true, true, true, true, true, true, true, true, false, false, false] rfl (by kernel_rfl) (fun _ _ _ h => h) rfl (fun w_ => evF_run (o := ⟨_, _, _, _, _, _⟩) flds rfl) ?_) | (refine d_pure (i := 17) #[true, true, true, true, true, true, true, true, true, true, true, true, true, true, true, true, true, true, false, false, false] rfl (by kernel_rfl) (fun _ _ _ h => h) rfl (fun w_ => evG_run (o := ⟨_, _, _, _, _, _⟩) flds rfl) ?_)
          refine d_one (i := 18) #[true, true, true, true, true, true, true, true, true, true, true, true, true, true, true, true, true, true, true, false, false] rfl (by kernel_rfl) rfl ?_
          refine g_on ?_; ((with_reducible refine g_st ?_); (refine h_st txs ones H 3 rfl rfl rfl rfl rfl rfl rfl rfl rfl (fun w_ H => ?_)))
          refine l_nil ?_
          have HS := H.pick [0, 1, 2] [] (by decide) (by decide) rfl rfl
          refine ⟨rfl, HS, ?_⟩
          first | (refine d_pure (i := 19) #[true, true, true, true, true, true, true, true, true, true, true, true, true, true, true, true, true, true, true, true, false] rfl (by kernel_rfl) (fun _ _ _ h => h) rfl (fun w_ => evF_run (o := ⟨_, _, _, _, _, _⟩) flds rfl) ?_) | (refine d_pure (i := 19) #[true, true, true, true, true, true, true, true, true, true, true, true, true, true, true, true, true, true, true, true, false] rfl (by kernel_rfl) (fun _ _ _ h => h) rfl (fun w_ => evG_run (o := ⟨_, _, _, _, _, _⟩) flds rfl) ?_)
          refine d_one (i := 20) #[true, true, true, true, true, true, true, true, true, true, true, true, true, true, true, true, true, true, true, true, true] rfl (by kernel_rfl) rfl ?_
          refine g_on ?_; ((with_reducible refine g_st ?_); (refine h_st txs ones H 3 rfl rfl rfl rfl rfl rfl rfl rfl rfl (fun w_ H => ?_)))
          refine l_nil ?_
          have HS := H.pick [0, 1, 2] [] (by decide) (by decide) rfl rfl
          refine ⟨rfl, HS, ?_⟩
          refine d_done rfl ?_
          repeat' (first | (with_reducible refine p_tn ?_) | (with_reducible refine wp_seq ?_))
          have HS := H.pick [2, 3] [] (by decide) (by decide) rfl rfl
          refine d_start (fun w_ => Hp w w_ _ _) #[false, false, false, false, false, false, false, false, false, false, false, false] (by kernel_rfl) rfl rfl HS.drew ?_
          have H := H.drew
          have HS := HS.drew
          first | (refine d_take (i := 0) #[true, false, false, false, false, false, false, false, false, false, false, false] rfl (by kernel_rfl) (fun _ _ _ h => h) rfl (fun w_ K => evLR_run (o := ⟨_, _, _, _, _, _⟩) recs rfl rfl (K.range 0 rfl) rfl) HS ?_) | (refine d_take (i := 0) #[true, false, false, false, false, false, false, false, false, false, false, false] rfl (by kernel_rfl) (fun _ _ _ h => h) rfl (fun w_ K => evLR_run (o := ⟨_, _, _, _, _, _⟩) recs rfl rfl (K.range 1 rfl) rfl) HS ?_)
          first | (refine d_pure (i := 1) #[true, true, false, false, false, false, false, false, false, false, false, false] rfl (by kernel_rfl) (fun _ _ _ h => h) rfl (fun w_ => evP_run (o := ⟨_, _, _, _, _, _⟩) txs rfl) ?_)
          first | (refine d_pure (i := 2) #[true, true, true, false, false, false, false, false, false, false, false, false] rfl (by kernel_rfl) (fun _ _ _ h => h) rfl (fun w_ => evP_run (o := ⟨_, _, _, _, _, _⟩) txs rfl) ?_)
          first | (refine d_pure (i := 3) #[true, true, true, true, false, false, false, false, false, false, false, false] rfl (by kernel_rfl) (fun _ _ _ h => h) rfl (fun w_ => evF_run (o := ⟨_, _, _, _, _, _⟩) flds rfl) ?_) | (refine d_pure (i := 3) #[true, true, true, true, false, false, false, false, false, false, false, false] rfl (by kernel_rfl) (fun _ _ _ h => h) rfl (fun w_ => evG_run (o := ⟨_, _, _, _, _, _⟩) flds rfl) ?_)
          first | (refine d_take (i := 4) #[true, true, true, true, true, false, false, false, false, false, false, false] rfl (by kernel_rfl) (fun _ _ _ h => h) rfl (fun w_ K => evL_run (o := ⟨_, _, _, _, _, _⟩) txs rfl (K.cellAt 0 rfl rfl)) HS ?_) | (refine d_take (i := 4) #[true, true, true, true, true, false, false, false, false, false, false, false] rfl (by kernel_rfl) (fun _ _ _ h => h) rfl (fun w_ K => evL_run (o := ⟨_, _, _, _, _, _⟩) txs rfl (K.cellAt 1 rfl rfl)) HS ?_)
          first | (refine d_pure (i := 5) #[true, true, true, true, true, true, false, false, false, false, false, false] rfl (by kernel_rfl) (fun _ _ _ h => h) rfl (fun w_ => evP_run (o := ⟨_, _, _, _, _, _⟩) txs rfl) ?_)
          first | (refine d_pure (i := 6) #[true, true, true, true, true, true, true, false, false, false, false, false] rfl (by kernel_rfl) (fun _ _ _ h => h) rfl (fun w_ => evP_run (o := ⟨_, _, _, _, _, _⟩) txs rfl) ?_) | (refine d_pure (i := 6) #[true, true, true, true, true, true, true, false, false, false, false, false] rfl (by kernel_rfl) (fun _ _ _ h => h) rfl (fun w_ => (evA_run (o := ⟨_, _, _, _, _, _⟩) txs rfl).trans (by rw [wrap_in (by first | exact in_i64 (by omega) (by omega) | exact in_u8 (by omega) (by omega) | exact in_u64 (by omega) (by omega) | exact in_i32 (by omega) (by omega))])) ?_)
          first | (refine d_pure (i := 7) #[true, true, true, true, true, true, true, true, false, false, false, false] rfl (by kernel_rfl) (fun _ _ _ h => h) rfl (fun w_ => evP_run (o := ⟨_, _, _, _, _, _⟩) txs rfl) ?_)
          first | (refine d_pure (i := 8) #[true, true, true, true, true, true, true, true, true, false, false, false] rfl (by kernel_rfl) (fun _ _ _ h => h) rfl (fun w_ => evP_run (o := ⟨_, _, _, _, _, _⟩) txs rfl) ?_) | (refine d_pure (i := 8) #[true, true, true, true, true, true, true, true, true, false, false, false] rfl (by kernel_rfl) (fun _ _ _ h => h) rfl (fun w_ => (evA_run (o := ⟨_, _, _, _, _, _⟩) txs rfl).trans (by rw [wrap_in (by first | exact in_i64 (by omega) (by omega) | exact in_u8 (by omega) (by omega) | exact in_u64 (by omega) (by omega) | exact in_i32 (by omega) (by omega))])) ?_)
          refine d_one (i := 9) #[true, true, true, true, true, true, true, true, true, true, false, false] rfl (by kernel_rfl) rfl ?_
          refine g_on ?_; ((with_reducible refine g_st ?_); (refine h_stR recs H 4 rfl rfl rfl rfl rfl rfl rfl rfl rfl (fun w_ H => ?_)))
          refine l_nil ?_
          have HS := H.pick [2, 3] [] (by decide) (by decide) rfl rfl
          refine ⟨rfl, HS, ?_⟩
          first | (refine d_pure (i := 10) #[true, true, true, true, true, true, true, true, true, true, true, false] rfl (by kernel_rfl) (fun _ _ _ h => h) rfl (fun w_ => evP_run (o := ⟨_, _, _, _, _, _⟩) txs rfl) ?_)
          first | (refine d_pure (i := 11) #[true, true, true, true, true, true, true, true, true, true, true, true] rfl (by kernel_rfl) (fun _ _ _ h => h) rfl (fun w_ => evP_run (o := ⟨_, _, _, _, _, _⟩) txs rfl) ?_)
          refine d_done rfl ?_
          repeat' (first | (with_reducible refine p_tn ?_) | (with_reducible refine wp_ret ?_))
          refine end_ctt recs H 4 rfl rfl rfl rfl rfl rfl rfl ?_
          have e : ((b.length : Int) - (rest.length : Int) + 0) = ((b.length - rest.length + 0 : Nat) : Int) := by omega
          rw [e]
          unfold PqR
          rw [hres]
          exact ⟨Bl, cl, none, 0, rfl, (H.nilRow 5 1).pick [] [1, 0] (by decide) (by decide) rfl rfl⟩
        · repeat' (first | (first | (with_reducible refine wp_seq ?_) | (with_reducible refine w_reg ?_) | (with_reducible (refine is_if ?_; (refine w_ift rfl ?_)))) | ((with_reducible refine g_on ?_); (first | ((with_reducible refine g_mv ?_); refine l_p txs rfl rfl ?_) | ((with_reducible refine g_fa ?_); refine h_fa flds rfl rfl ?_) | ((with_reducible refine g_ld ?_); (first | (refine h_ld txs H 2 rfl rfl rfl rfl ?_) | (refine h_ldR recs H 0 rfl rfl rfl rfl rfl ?_))))))
          have hbc := body_c (hE.below H.B) (H.old hM) l bl1 (by omega) (framed_of hfm) ((r1 w h).below H.B) r2 r3 hb3 (by omega) minor
          (with_reducible refine is_l ?_); refine l_call rfl rfl (by kernel_rfl) hbc (fun e w_ hR => ?_)
          unfold BdR at hR
          cases hfs : frameS l minor with
          | error k =>
            rw [hfs] at hR
            obtain ⟨v, hv, rfl, K⟩ := hR
            refine ⟨_, rfl, ?_⟩
            have hres := pq_frame hcut hst2 hfe hh hfs
            have H := H.join K
            obtain ⟨_, _, rfl⟩ := errOf_iface hv
            repeat' (first | (first | (with_reducible refine p_tn ?_) | (with_reducible refine wp_seq ?_) | (with_reducible refine w_reg ?_)) | (first | (with_reducible refine l_nil ?_) | ((with_reducible refine g_on ?_); (first | ((with_reducible refine g_mv ?_); refine l_p txs rfl rfl ?_) | ((with_reducible refine g_as ?_); refine l_p txs rfl rfl ?_) | ((with_reducible refine g_ex ?_); refine l_p txs rfl rfl ?_) | ((with_reducible refine g_fa ?_); refine h_fa flds rfl rfl ?_) | ((with_reducible refine g_st ?_); (refine h_st txs ones H 3 rfl rfl rfl rfl rfl rfl rfl rfl rfl (fun w_ H => ?_)))))))
            (with_reducible refine is_l ?_); refine l_t txs rfl rfl (fun _ => ?_) (fun hh => absurd trivial hh)
            repeat' (first | (first | (with_reducible refine p_tn ?_) | (with_reducible refine p_tr ?_) | (with_reducible refine wp_seq ?_) | (with_reducible refine w_reg ?_) | (with_reducible (refine is_if ?_; (refine w_ift rfl ?_))) | (with_reducible refine wp_ret ?_)) | (first | (with_reducible refine l_nil ?_) | ((with_reducible refine g_on ?_); (first | ((with_reducible refine g_mv ?_); refine l_p txs rfl rfl ?_) | ((with_reducible refine g_as ?_); refine l_p txs rfl rfl ?_) | ((with_reducible refine g_ld ?_); (refine h_ldR recs H 3 rfl rfl rfl rfl rfl ?_)) | ((with_reducible refine g_st ?_); (refine h_stR recs H 4 rfl rfl rfl rfl rfl rfl rfl rfl rfl (fun w_ H => ?_)))))))
            refine end_ctt recs H 4 rfl rfl rfl rfl rfl rfl rfl ?_
            exact pqR_err hres hv (H.pick [] [] (by decide) (by decide) rfl rfl)
          | ok fr =>
            rw [hfs] at hR
            simp only at hR
            cases hbo : bodyS rest fr with
            | error k =>
              rw [hbo] at hR
              obtain ⟨v, hv, rfl, K⟩ := hR
              refine ⟨_, rfl, ?_⟩
              have hres := pq_body hcut hst2 hfe hh hfs hbo
              have H := H.join K
              obtain ⟨_, _, rfl⟩ := errOf_iface hv
              repeat' (first | (first | (with_reducible refine p_tn ?_) | (with_reducible refine wp_seq ?_) | (with_reducible refine w_reg ?_)) | (first | (with_reducible refine l_nil ?_) | ((with_reducible refine g_on ?_); (first | ((with_reducible refine g_mv ?_); refine l_p txs rfl rfl ?_) | ((with_reducible refine g_as ?_); refine l_p txs rfl rfl ?_) | ((with_reducible refine g_ex ?_); refine l_p txs rfl rfl ?_) | ((with_reducible refine g_fa ?_); refine h_fa flds rfl rfl ?_) | ((with_reducible refine g_st ?_); (refine h_st txs ones H 3 rfl rfl rfl rfl rfl rfl rfl rfl rfl (fun w_ H => ?_)))))))
              (with_reducible refine is_l ?_); refine l_t txs rfl rfl (fun _ => ?_) (fun hh => absurd trivial hh)
              repeat' (first | (first | (with_reducible refine p_tn ?_) | (with_reducible refine p_tr ?_) | (with_reducible refine wp_seq ?_) | (with_reducible refine w_reg ?_) | (with_reducible (refine is_if ?_; (refine w_ift rfl ?_))) | (with_reducible refine wp_ret ?_)) | (first | (with_reducible refine l_nil ?_) | ((with_reducible refine g_on ?_); (first | ((with_reducible refine g_mv ?_); refine l_p txs rfl rfl ?_) | ((with_reducible refine g_as ?_); refine l_p txs rfl rfl ?_) | ((with_reducible refine g_ld ?_); (refine h_ldR recs H 3 rfl rfl rfl rfl rfl ?_)) | ((with_reducible refine g_st ?_); (refine h_stR recs H 4 rfl rfl rfl rfl rfl rfl rfl rfl rfl (fun w_ H => ?_)))))))
              refine end_ctt recs H 4 rfl rfl rfl rfl rfl rfl rfl ?_
              exact pqR_err hres hv (H.pick [] [] (by decide) (by decide) rfl rfl)
            | ok z =>
              obtain ⟨bd, k⟩ := z
              rw [hbo] at hR
              obtain ⟨Bb, cb, rfl, K⟩ := hR
              refine ⟨_, rfl, ?_⟩
              have hres := pq_ok hcut hst2 hfe hh hfs hbo
              have hkl := bodyS_le hbo
              have H := (H.join K).pick [0, 1, 2, 3, 4] [0, 1] (by decide) (by decide) rfl rfl
              repeat' (first | (first | (with_reducible refine p_tn ?_) | (with_reducible refine wp_seq ?_) | (with_reducible refine w_reg ?_)) | (first | (with_reducible refine l_nil ?_) | ((with_reducible refine g_on ?_); (first | ((with_reducible refine g_mv ?_); refine l_p txs rfl rfl ?_) | ((with_reducible refine g_as ?_); refine l_p txs rfl rfl ?_) | ((with_reducible refine g_ex ?_); refine l_p txs rfl rfl ?_) | ((with_reducible refine g_fa ?_); refine h_fa flds rfl rfl ?_) | ((with_reducible refine g_st ?_); (refine h_st txs ones H 3 rfl rfl rfl rfl rfl rfl rfl rfl rfl (fun w_ H => ?_)))))))
              (with_reducible refine is_l ?_); refine l_t txs rfl rfl (fun hh => absurd hh (by simp)) (fun _ => ?_)
              repeat' (first | (first | (with_reducible refine p_tn ?_) | (with_reducible refine wp_seq ?_) | (with_reducible (refine is_if ?_; (refine w_iff rfl ?_))) | (with_reducible refine wp_skip ?_)) | (with_reducible refine l_nil ?_))
              have HS := H.pick [0, 1, 2] [] (by decide) (by decide) rfl rfl
              refine d_start (fun w_ => Hp w w_ _ _) #[false, false, false, false, false, false, false, false, false, false, false, false, false, false, false, false, false, false, false, false, false] (by kernel_rfl) rfl rfl HS.drew ?_
              have H := H.drew
              have HS := HS.drew
              first | (refine d_pure (i := 0) #[true, false, false, false, false, false, false, false, false, false, false, false, false, false, false, false, false, false, false, false, false] rfl (by kernel_rfl) (fun _ _ _ h => h) rfl (fun w_ => evP_run (o := ⟨_, _, _, _, _, _⟩) txs rfl) ?_)
              first | (refine d_pure (i := 1) #[true, true, false, false, false, false, false, false, false, false, false, false, false, false, false, false, false, false, false, false, false] rfl (by kernel_rfl) (fun _ _ _ h => h) rfl (fun w_ => evIA_run (o := ⟨_, _, _, _, _, _⟩) txs rfl (by omega) (by omega)) ?_)
              first | (refine d_take (i := 2) #[true, true, true, false, false, false, false, false, false, false, false, false, false, false, false, false, false, false, false, false, false] rfl (by kernel_rfl) (fun _ _ _ h => h) rfl (fun w_ K => evL_run (o := ⟨_, _, _, _, _, _⟩) txs rfl (K.cellAt 0 rfl rfl)) HS ?_) | (refine d_take (i := 2) #[true, true, true, false, false, false, false, false, false, false, false, false, false, false, false, false, false, false, false, false, false] rfl (by kernel_rfl) (fun _ _ _ h => h) rfl (fun w_ K => evL_run (o := ⟨_, _, _, _, _, _⟩) txs rfl (K.cellAt 1 rfl rfl)) HS ?_) | (refine d_take (i := 2) #[true, true, true, false, false, false, false, false, false, false, false, false, false, false, false, false, false, false, false, false, false] rfl (by kernel_rfl) (fun _ _ _ h => h) rfl (fun w_ K => evL_run (o := ⟨_, _, _, _, _, _⟩) txs rfl (K.cellAt 2 rfl rfl)) HS ?_)
              first | (refine d_pure (i := 3) #[true, true, true, true, false, false, false, false, false, false, false, false, false, false, false, false, false, false, false, false, false] rfl (by kernel_rfl) (fun _ _ _ h => h) rfl (fun w_ => evP_run (o := ⟨_, _, _, _, _, _⟩) txs rfl) ?_)
              first | (refine d_pure (i := 4) #[true, true, true, true, true, false, false, false, false, false, false, false, false, false, false, false, false, false, false, false, false] rfl (by kernel_rfl) (fun _ _ _ h => h) rfl (fun w_ => evIA_run (o := ⟨_, _, _, _, _, _⟩) txs rfl (by omega) (by omega)) ?_)
              first | (refine d_take (i := 5) #[true, true, true, true, true, true, false, false, false, false, false, false, false, false, false, false, false, false, false, false, false] rfl (by kernel_rfl) (fun _ _ _ h => h) rfl (fun w_ K => evL_run (o := ⟨_, _, _, _, _, _⟩) txs rfl (K.cellAt 0 rfl rfl)) HS ?_) | (refine d_take (i := 5) #[true, true, true, true, true, true, false, false, false, false, false, false, false, false, false, false, false, false, false, false, false] rfl (by kernel_rfl) (fun _ _ _ h => h) rfl (fun w_ K => evL_run (o := ⟨_, _, _, _, _, _⟩) txs rfl (K.cellAt 1 rfl rfl)) HS ?_) | (refine d_take (i := 5) #[true, true, true, true, true, true, false, false, false, false, false, false, false, false, false, false, false, false, false, false, false] rfl (by kernel_rfl) (fun _ _ _ h => h) rfl (fun w_ K => evL_run (o := ⟨_, _, _, _, _, _⟩) txs rfl (K.cellAt 2 rfl rfl)) HS ?_)
              first | (refine d_pure (i := 6) #[true, true, true, true, true, true, true, false, false, false, false, false, false, false, false, false, false, false, false, false, false] rfl (by kernel_rfl) (fun _ _ _ h => h) rfl (fun w_ => evP_run (o := ⟨_, _, _, _, _, _⟩) txs rfl) ?_)
              first | (refine d_pure (i := 7) #[true, true, true, true, true, true, true, true, false, false, false, false, false, false, false, false, false, false, false, false, false] rfl (by kernel_rfl) (fun _ _ _ h => h) rfl (fun w_ => evP_run (o := ⟨_, _, _, _, _, _⟩) txs rfl) ?_)
              first | (refine d_take (i := 8) #[true, true, true, true, true, true, true, true, true, false, false, false, false, false, false, false, false, false, false, false, false] rfl (by kernel_rfl) (fun _ _ _ h => h) rfl (fun w_ K => evLR_run (o := ⟨_, _, _, _, _, _⟩) recs rfl rfl (K.range 0 rfl) rfl) HS ?_) | (refine d_take (i := 8) #[true, true, true, true, true, true, true, true, true, false, false, false, false, false, false, false, false, false, false, false, false] rfl (by kernel_rfl) (fun _ _ _ h => h) rfl (fun w_ K => evLR_run (o := ⟨_, _, _, _, _, _⟩) recs rfl rfl (K.range 1 rfl) rfl) HS ?_) | (refine d_take (i := 8) #[true, true, true, true, true, true, true, true, true, false, false, false, false, false, false, false, false, false, false, false, false] rfl (by kernel_rfl) (fun _ _ _ h => h) rfl (fun w_ K => evLR_run (o := ⟨_, _, _, _, _, _⟩) recs rfl rfl (K.range 2 rfl) rfl) HS ?_)
              first | (refine d_pure (i := 9) #[true, true, true, true, true, true, true, true, true, true, false, false, false, false, false, false, false, false, false, false, false] rfl (by kernel_rfl) (fun _ _ _ h => h) rfl (fun w_ => evP_run (o := ⟨_, _, _, _, _, _⟩) txs rfl) ?_)
              first | (refine d_pure (i := 11) #[true, true, true, true, true, true, true, true, true, true, false, true, false, false, false, false, false, false, false, false, false] rfl (by kernel_rfl) (fun _ _ _ h => h) rfl (fun w_ => evF_run (o := ⟨_, _, _, _, _, _⟩) flds rfl) ?_) | (refine d_pure (i := 11) #[true, true, true, true, true, true, true, true, true, true, false, true, false, false, false, false, false, false, false, false, false] rfl (by kernel_rfl) (fun _ _ _ h => h) rfl (fun w_ => evG_run (o := ⟨_, _, _, _, _, _⟩) flds rfl) ?_)
              refine d_one (i := 10) #[true, true, true, true, true, true, true, true, true, true, true, true, false, false, false, false, false, false, false, false, false] rfl (by kernel_rfl) rfl ?_
              refine l_callv rfl rfl (by kernel_rfl) hclo (fun w_ K => ?_); have H := H.call K
              refine l_nil ?_
              have HS := H.pick [0, 1, 2] [] (by decide) (by decide) rfl rfl
              refine ⟨rfl, HS, ?_⟩
              refine d_one (i := 12) #[true, true, true, true, true, true, true, true, true, true, true, true, true, false, false, false, false, false, false, false, false] rfl (by kernel_rfl) rfl ?_
              refine g_on ?_; ((with_reducible refine g_st ?_); (refine h_st txs ones H 3 rfl rfl rfl rfl rfl rfl rfl rfl rfl (fun w_ H => ?_)))
              refine l_nil ?_
              have HS := H.pick [0, 1, 2] [] (by decide) (by decide) rfl rfl
              refine ⟨rfl, HS, ?_⟩
              first | (refine d_pure (i := 13) #[true, true, true, true, true, true, true, true, true, true, true, true, true, true, false, false, false, false, false, false, false] rfl (by kernel_rfl) (fun _ _ _ h => h) rfl (fun w_ => evF_run (o := ⟨_, _, _, _, _, _⟩) flds rfl) ?_) | (refine d_pure (i := 13) #[true, true, true, true, true, true, true, true, true, true, true, true, true, true, false, false, false, false, false, false, false] rfl (by kernel_rfl) (fun _ _ _ h => h) rfl (fun w_ => evG_run (o := ⟨_, _, _, _, _, _⟩) flds rfl) ?_)
              refine d_one (i := 14) #[true, true, true, true, true, true, true, true, true, true, true, true, true, true, true, false, false, false, false, false, false] rfl (by kernel_rfl) rfl ?_
              refine g_on ?_; ((with_reducible refine g_st ?_); (refine h_st txs ones H 3 rfl rfl rfl rfl rfl rfl rfl rfl rfl (fun w_ H => ?_)))
              refine l_nil ?_
              have HS := H.pick [0, 1, 2] [] (by decide) (by decide) rfl rfl
              refine ⟨rfl, HS, ?_⟩
              first | (refine d_pure (i := 15) #[true, true, true, true, true, true, true, true, true, true, true, true, true, true, true, true, false, false, false, false, false] rfl (by kernel_rfl) (fun _ _ _ h => h) rfl (fun w_ => evF_run (o := ⟨_, _, _, _, _, _⟩) flds rfl) ?_) | (refine d_pure (i := 15) #[true, true, true, true, true, true, true, true, true, true, true, true, true, true, true, true, false, false, false, false, false] rfl (by kernel_rfl) (fun _ _ _ h => h) rfl (fun w_ => evG_run (o := ⟨_, _, _, _, _, _⟩) flds rfl) ?_)
              refine d_one (i := 16) #[true, true, true, true, true, true, true, true, true, true, true, true, true, true, true, true, true, false, false, false, false] rfl (by kernel_rfl) rfl ?_
              refine g_on ?_; ((with_reducible refine g_st ?_); (refine h_st txs ones H 3 rfl rfl rfl rfl rfl rfl rfl rfl rfl (fun w_ H => ?_)))
              refine l_nil ?_
              have HS := H.pick [0, 1, 2] [] (by decide) (by decide) rfl rfl
              refine ⟨rfl, HS, ?_⟩
              first | (refine d_pure (i := 17) #[true, true, true, true, true, true, true, true, true, true, true, true, true, true, true, true, true, true, false, false, false] rfl (by kernel_rfl) (fun _ _ _ h => h) rfl (fun w_ => evF_run (o := ⟨_, _, _, _, _, _⟩) flds rfl) ?_) | (refine d_pure (i := 17) #[true, true, true, true, true, true, true, true, true, true, true, true, true, true, true, true, true, true, false, false, false] rfl (by kernel_rfl) (fun _ _ _ h => h) rfl (fun w_ => evG_run (o := ⟨_, _, _, _, _, _⟩) flds rfl) ?_)
              refine d_one (i := 18) #[true, true, true, true, true, true, true, true, true, true, true, true, true, true, true, true, true, true, true, false, false] rfl (by kernel_rfl) rfl ?_
              refine g_on ?_; ((with_reducible refine g_st ?_); (refine h_st txs ones H 3 rfl rfl rfl rfl rfl rfl rfl rfl rfl (fun w_ H => ?_)))
              refine l_nil ?_
              have HS := H.pick [0, 1, 2] [] (by decide) (by decide) rfl rfl
              refine ⟨rfl, HS, ?_⟩
              first | (refine d_pure (i := 19) #[true, true, true, true, true, true, true, true, true, true, true, true, true, true, true, true, true, true, true, true, false] rfl (by kernel_rfl) (fun _ _ _ h => h) rfl (fun w_ => evF_run (o := ⟨_, _, _, _, _, _⟩) flds rfl) ?_) | (refine d_pure (i := 19) #[true, true, true, true, true, true, true, true, true, true, true, true, true, true, true, true, true, true, true, true, false] rfl (by kernel_rfl) (fun _ _ _ h => h) rfl (fun w_ => evG_run (o := ⟨_, _, _, _, _, _⟩) flds rfl) ?_)
              refine d_one (i := 20) #[true, true, true, true, true, true, true, true, true, true, true, true, true, true, true, true, true, true, true, true, true] rfl (by kernel_rfl) rfl ?_
              refine g_on ?_; ((with_reducible refine g_st ?_); (refine h_st txs ones H 3 rfl rfl rfl rfl rfl rfl rfl rfl rfl (fun w_ H => ?_)))
              refine l_nil ?_
              have HS := H.pick [0, 1, 2] [] (by decide) (by decide) rfl rfl
              refine ⟨rfl, HS, ?_⟩
              refine d_done rfl ?_
              repeat' (first | (with_reducible refine p_tn ?_) | (with_reducible refine wp_seq ?_))
              have HS := H.pick [2, 3] [] (by decide) (by decide) rfl rfl
              refine d_start (fun w_ => Hp w w_ _ _) #[false, false, false, false, false, false, false, false, false, false, false, false] (by kernel_rfl) rfl rfl HS.drew ?_
              have H := H.drew
              have HS := HS.drew
              first | (refine d_take (i := 0) #[true, false, false, false, false, false, false, false, false, false, false, false] rfl (by kernel_rfl) (fun _ _ _ h => h) rfl (fun w_ K => evLR_run (o := ⟨_, _, _, _, _, _⟩) recs rfl rfl (K.range 0 rfl) rfl) HS ?_) | (refine d_take (i := 0) #[true, false, false, false, false, false, false, false, false, false, false, false] rfl (by kernel_rfl) (fun _ _ _ h => h) rfl (fun w_ K => evLR_run (o := ⟨_, _, _, _, _, _⟩) recs rfl rfl (K.range 1 rfl) rfl) HS ?_)
              first | (refine d_pure (i := 1) #[true, true, false, false, false, false, false, false, false, false, false, false] rfl (by kernel_rfl) (fun _ _ _ h => h) rfl (fun w_ => evP_run (o := ⟨_, _, _, _, _, _⟩) txs rfl) ?_)
              first | (refine d_pure (i := 2) #[true, true, true, false, false, false, false, false, false, false, false, false] rfl (by kernel_rfl) (fun _ _ _ h => h) rfl (fun w_ => evP_run (o := ⟨_, _, _, _, _, _⟩) txs rfl) ?_)
              first | (refine d_pure (i := 3) #[true, true, true, true, false, false, false, false, false, false, false, false] rfl (by kernel_rfl) (fun _ _ _ h => h) rfl (fun w_ => evF_run (o := ⟨_, _, _, _, _, _⟩) flds rfl) ?_) | (refine d_pure (i := 3) #[true, true, true, true, false, false, false, false, false, false, false, false] rfl (by kernel_rfl) (fun _ _ _ h => h) rfl (fun w_ => evG_run (o := ⟨_, _, _, _, _, _⟩) flds rfl) ?_)
              first | (refine d_take (i := 4) #[true, true, true, true, true, false, false, false, false, false, false, false] rfl (by kernel_rfl) (fun _ _ _ h => h) rfl (fun w_ K => evL_run (o := ⟨_, _, _, _, _, _⟩) txs rfl (K.cellAt 0 rfl rfl)) HS ?_) | (refine d_take (i := 4) #[true, true, true, true, true, false, false, false, false, false, false, false] rfl (by kernel_rfl) (fun _ _ _ h => h) rfl (fun w_ K => evL_run (o := ⟨_, _, _, _, _, _⟩) txs rfl (K.cellAt 1 rfl rfl)) HS ?_)
              first | (refine d_pure (i := 5) #[true, true, true, true, true, true, false, false, false, false, false, false] rfl (by kernel_rfl) (fun _ _ _ h => h) rfl (fun w_ => evP_run (o := ⟨_, _, _, _, _, _⟩) txs rfl) ?_)
              first | (refine d_pure (i := 6) #[true, true, true, true, true, true, true, false, false, false, false, false] rfl (by kernel_rfl) (fun _ _ _ h => h) rfl (fun w_ => evP_run (o := ⟨_, _, _, _, _, _⟩) txs rfl) ?_) | (refine d_pure (i := 6) #[true, true, true, true, true, true, true, false, false, false, false, false] rfl (by kernel_rfl) (fun _ _ _ h => h) rfl (fun w_ => (evA_run (o := ⟨_, _, _, _, _, _⟩) txs rfl).trans (by rw [wrap_in (by first | exact in_i64 (by omega) (by omega) | exact in_u8 (by omega) (by omega) | exact in_u64 (by omega) (by omega) | exact in_i32 (by omega) (by omega))])) ?_)
              first | (refine d_pure (i := 7) #[true, true, true, true, true, true, true, true, false, false, false, false] rfl (by kernel_rfl) (fun _ _ _ h => h) rfl (fun w_ => evP_run (o := ⟨_, _, _, _, _, _⟩) txs rfl) ?_)
              first | (refine d_pure (i := 8) #[true, true, true, true, true, true, true, true, true, false, false, false] rfl (by kernel_rfl) (fun _ _ _ h => h) rfl (fun w_ => evP_run (o := ⟨_, _, _, _, _, _⟩) txs rfl) ?_) | (refine d_pure (i := 8) #[true, true, true, true, true, true, true, true, true, false, false, false] rfl (by kernel_rfl) (fun _ _ _ h => h) rfl (fun w_ => (evA_run (o := ⟨_, _, _, _, _, _⟩) txs rfl).trans (by rw [wrap_in (by first | exact in_i64 (by omega) (by omega) | exact in_u8 (by omega) (by omega) | exact in_u64 (by omega) (by omega) | exact in_i32 (by omega) (by omega))])) ?_)
              refine d_one (i := 9) #[true, true, true, true, true, true, true, true, true, true, false, false] rfl (by kernel_rfl) rfl ?_
              refine g_on ?_; ((with_reducible refine g_st ?_); (refine h_stR recs H 4 rfl rfl rfl rfl rfl rfl rfl rfl rfl (fun w_ H => ?_)))
              refine l_nil ?_
              have HS := H.pick [2, 3] [] (by decide) (by decide) rfl rfl
              refine ⟨rfl, HS, ?_⟩
              first | (refine d_pure (i := 10) #[true, true, true, true, true, true, true, true, true, true, true, false] rfl (by kernel_rfl) (fun _ _ _ h => h) rfl (fun w_ => evP_run (o := ⟨_, _, _, _, _, _⟩) txs rfl) ?_)
              first | (refine d_pure (i := 11) #[true, true, true, true, true, true, true, true, true, true, true, true] rfl (by kernel_rfl) (fun _ _ _ h => h) rfl (fun w_ => evP_run (o := ⟨_, _, _, _, _, _⟩) txs rfl) ?_)
              refine d_done rfl ?_
              repeat' (first | (with_reducible refine p_tn ?_) | (with_reducible refine wp_ret ?_))
              refine end_ctt recs H 4 rfl rfl rfl rfl rfl rfl rfl ?_
              have e : ((b.length : Int) - (rest.length : Int) + (k : Int)) = ((b.length - rest.length + k : Nat) : Int) := by omega
              rw [e]
              unfold PqR
              rw [hres]
              exact ⟨Bl, cl, Bb, cb, rfl, H.pick [] [1, 0] (by decide) (by decide) rfl rfl⟩
end Go.Proofs.YthgojbdpmcccaaaGreatDoor.K
end
section
namespace Go.Proofs.YthgojbdpmcccaaaGreatDoor.K
open Go.RowKit Go.Proofs.YthgojbdpmcccaaaGreatDoor.Q Go.Proofs.YthgojbdpmcccaaaGreatDoor.Wb Go.Proofs.YthgojbdpmcccaaaGreatDoorW.PrintWords
set_option linter.unusedVariables false
set_option linter.unusedSimpArgs false
theorem built_zReq : Tryz.prog.built 29 [] = some zReq := by kernel_rfl
/-- What ParseRequest ends in. -/
def PrR (w : World) (b : L) (e : Ending) (w' : World) : Prop := match parseReqS b with
  | .error k => e = .returned (.tuple #[.agg zReq, .int .i64 0, .int .i64 (k : Int)]) ∧ Hp w w' [] []
  | .ok (r, n) => ∃ Bf cf Bb cb, e = .returned (.tuple #[.agg (reqA r Bf cf Bb cb), .int .i64 (n : Int), .int .i64 0]) ∧ Hp w w' [] [rowF (.slice Bf r.fields.length cf) r.fields, rowB (.slice Bb r.body.length cb) r.body]
set_option maxHeartbeats 4000000 in
theorem ParseRequest_c {A : Nat → Addr} {w : World} (hE : LayS A w) {mx : Int} (hM : w.cell? ⟨20, 0, none⟩ = some (.int .i64 mx)) {tM : TypeId} {frM : Nat × Nat} (hT : w.heap[17]? = some (.cells meC tM frM))
    {B : Option Addr} {c : Nat} {b : L} (h : ReadsInt w .u8 B b.length b) (hc : b.length ≤ c) (hn : B = none → c = 0 ∧ b.length = 0) (hb : Bytes b) (hs : b.length ≤ 100000000) :
    Calls Tryz.prog 16 #[.slice B b.length c] w (PrR w b) := by
  have hTb : ∀ w1, Below w.heap.size w w1 → w1.heap[17]? = some (.cells meC tM frM) := fun w1 K => (K.block _ (blk_lt hT)).trans hT
  refine enter (args := [.slice B b.length c]) Tryz.func16 rfl Tryz.ntmps16 rfl ?_
  have H := Hp.nil w
  repeat' (first | (first | (with_reducible refine p_tn ?_) | (with_reducible refine wp_seq ?_) | (with_reducible refine w_reg ?_)) | (first | (with_reducible refine l_nil ?_) | ((with_reducible refine g_on ?_); (first | ((with_reducible refine g_mv ?_); refine l_p txs rfl rfl ?_) | ((with_reducible refine g_as ?_); refine l_p txs rfl rfl ?_) | ((with_reducible refine g_al ?_); refine h_alloc recs H rfl rfl (fun g_ w_ H => ?_))))))
  have hcall := parseRequest_c (hE.below H.B) (H.old hM) (hTb _ H.B) (h.below H.B) hc hn hb hs
  (with_reducible refine is_l ?_); refine l_call rfl rfl (by kernel_rfl) hcall (fun e w_ hR => ?_)
  unfold PqR at hR
  cases hp : parseReqS b with
  | error k =>
    rw [hp] at hR
    obtain ⟨v, hv, rfl, K⟩ := hR
    refine ⟨_, rfl, ?_⟩
    have H := H.join K
    obtain ⟨tv, uv, rfl⟩ := errOf_iface hv
    repeat' (first | (first | (with_reducible refine p_tn ?_) | (with_reducible refine wp_seq ?_) | (with_reducible refine w_reg ?_)) | (first | (with_reducible refine l_nil ?_) | ((with_reducible refine g_on ?_); (first | ((with_reducible refine g_mv ?_); refine l_p txs rfl rfl ?_) | ((with_reducible refine g_as ?_); refine l_p txs rfl rfl ?_) | ((with_reducible refine g_ex ?_); refine l_p txs rfl rfl ?_) | ((with_reducible refine g_st ?_); (refine h_stR recs H 0 rfl rfl rfl rfl rfl rfl rfl rfl rfl (fun w_ H => ?_))) | ((with_reducible refine g_al ?_); refine h_alloc recs H rfl rfl (fun g_ w_ H => ?_))))))
    (with_reducible refine is_l ?_); refine l_t txs rfl rfl (fun _ => ?_) (fun hh => absurd trivial hh)
    repeat' (first | (first | (with_reducible refine p_tn ?_) | (with_reducible refine wp_seq ?_) | (with_reducible refine w_reg ?_) | (with_reducible (refine is_if ?_; (refine w_ift rfl ?_)))) | (with_reducible refine l_nil ?_))
    (with_reducible refine is_l ?_); refine h_bld rfl rfl built_zReq ?_
    repeat' ((with_reducible refine g_on ?_); ((with_reducible refine g_mv ?_); refine l_p txs rfl rfl ?_))
    (with_reducible refine is_l ?_); refine l_callv rfl rfl (by kernel_rfl) (errOf_c (hE.below H.B) hv) (fun w_ K => ?_)
    have H := H.call K
    repeat' (first | (first | (with_reducible refine p_tn ?_) | (with_reducible refine p_tr ?_) | (with_reducible refine wp_ret ?_)) | (first | (with_reducible refine l_nil ?_) | ((with_reducible refine g_on ?_); (first | ((with_reducible refine g_as ?_); refine l_p txs rfl rfl ?_) | ((with_reducible refine g_st ?_); (refine h_stR recs H 1 rfl rfl rfl rfl rfl rfl rfl rfl rfl (fun w_ H => ?_)))))))
    refine end_ctt recs H 1 rfl rfl rfl rfl rfl rfl rfl ?_
    unfold PrR
    rw [hp]
    exact ⟨rfl, H.pick [] [] (by decide) (by decide) rfl rfl⟩
  | ok z =>
    obtain ⟨r, n⟩ := z
    rw [hp] at hR
    obtain ⟨Bf, cf, Bb, cb, rfl, K⟩ := hR
    refine ⟨_, rfl, ?_⟩
    have H := H.join K
    repeat' (first | (first | (with_reducible refine p_tn ?_) | (with_reducible refine wp_seq ?_) | (with_reducible refine w_reg ?_)) | (first | (with_reducible refine l_nil ?_) | ((with_reducible refine g_on ?_); (first | ((with_reducible refine g_mv ?_); refine l_p txs rfl rfl ?_) | ((with_reducible refine g_as ?_); refine l_p txs rfl rfl ?_) | ((with_reducible refine g_ex ?_); refine l_p txs rfl rfl ?_) | ((with_reducible refine g_st ?_); (refine h_stR recs H 0 rfl rfl rfl rfl rfl rfl rfl rfl rfl (fun w_ H => ?_))) | ((with_reducible refine g_al ?_); refine h_alloc recs H rfl rfl (fun g_ w_ H => ?_))))))
    (with_reducible refine is_l ?_); refine l_t txs rfl rfl (fun hh => absurd hh (by simp)) (fun _ => ?_)
    repeat' (first | (first | (with_reducible refine p_tn ?_) | (with_reducible refine wp_seq ?_) | (with_reducible refine w_reg ?_) | (with_reducible (refine is_if ?_; (refine w_iff rfl ?_))) | (with_reducible refine wp_skip ?_) | (with_reducible refine wp_ret ?_)) | (first | (with_reducible refine l_nil ?_) | ((with_reducible refine g_on ?_); (first | ((with_reducible refine g_mv ?_); refine l_p txs rfl rfl ?_) | ((with_reducible refine g_as ?_); refine l_p txs rfl rfl ?_) | ((with_reducible refine g_ld ?_); (refine h_ldR recs H 0 rfl rfl rfl rfl rfl ?_)) | ((with_reducible refine g_st ?_); (refine h_stR recs H 1 rfl rfl rfl rfl rfl rfl rfl rfl rfl (fun w_ H => ?_)))))))
    refine end_ctt recs H 1 rfl rfl rfl rfl rfl rfl rfl ?_
    unfold PrR
    rw [hp]
    exact ⟨Bf, cf, Bb, cb, rfl, H.pick [] [0, 1] (by decide) (by decide) rfl rfl⟩
theorem bodiless_c (st : Int) (w : World) : Calls Tryz.prog 64 #[.int .i64 st] w fun e w' => e = .returned (.bool (bareS st)) ∧ w' = w := by
  refine enter (args := [.int .i64 st]) Tryz.func64 rfl Tryz.ntmps64 rfl ?_
  repeat' (first | (first | (with_reducible refine p_tn ?_) | (with_reducible refine wp_seq ?_) | (with_reducible refine w_reg ?_) | (with_reducible refine wp_ret ?_)) | (first | (with_reducible refine l_nil ?_) | (with_reducible (refine is_l ?_; (first | (refine l_off rfl ?_) | (refine l_p tys rfl rfl ?_) | (refine l_t tys rfl rfl (fun _ => ?_) (fun _ => ?_)))))))
  all_goals (refine end1 rfl rfl ?_; exact ⟨by simp [bareS, *], rfl⟩)
/-- What status reads: code, minor, known. -/
def statRaw (s : L) : Option (Int × Int × Bool) := match s.drop 8 with
  | 32 :: a :: b :: c :: reason =>
    if digB a = true ∧ digB b = true ∧ digB c = true ∧ (reason = [] ∨ reason.head? = some 32) ∧ reason.all valB = true then
      match versS (s.take 8) with
      | none => none
      | some (x, y) => some (100 * (a - 48) + 10 * (b - 48) + (c - 48), y, decide (x = 1) && decide (y ≤ 1))
    else none
  | _ => none
theorem stat_raw (s : L) : statS s = match statRaw s with
    | none => .error 141
    | some (code, y, kn) => if kn = true then (if 100 ≤ code ∧ code ≤ 599 then .ok (code, y) else .error 149) else .error 142 := by
  unfold statS statRaw
  generalize s.drop 8 = d
  split
  · rename_i a b c r
    by_cases hc : digB a = true ∧ digB b = true ∧ digB c = true ∧ (r = [] ∨ r.head? = some 32) ∧ r.all valB = true
    · simp only [if_pos hc]
      cases versS (s.take 8) with
      | none => rfl
      | some p => obtain ⟨x, y⟩ := p; simp
    · simp only [if_neg hc]
  · rename_i h
    split
    · rename_i h2
      split at h2
      · exact absurd rfl (h _ _ _ _)
      · rfl
    · rename_i h2
      split at h2
      · exact absurd rfl (h _ _ _ _)
      · cases h2
def statV (C : Addr) (s : L) : Value := match statRaw s with
  | some (code, y, kn) => .tuple #[.int .i64 code, .int .i64 y, .bool kn, .nilIface]
  | none => .tuple #[.int .i64 0, .int .i64 0, .bool false, errV C]
theorem statV_none {C : Addr} {s : L} (h : statRaw s = none) : statV C s = .tuple #[.int .i64 0, .int .i64 0, .bool false, errV C] := by unfold statV; rw [h]
theorem statV_some {C : Addr} {s : L} {code y : Int} {kn : Bool} (h : statRaw s = some (code, y, kn)) : statV C s = .tuple #[.int .i64 code, .int .i64 y, .bool kn, .nilIface] := by unfold statV; rw [h]
theorem twelve {l : L} (h : 12 ≤ l.length) : ∃ p0 p1 p2 p3 p4 p5 p6 p7 x a b c r, l = p0 :: p1 :: p2 :: p3 :: p4 :: p5 :: p6 :: p7 :: x :: a :: b :: c :: r := by
  match l, h with
  | p0 :: p1 :: p2 :: p3 :: p4 :: p5 :: p6 :: p7 :: x :: a :: b :: c :: r, _ => exact ⟨p0, p1, p2, p3, p4, p5, p6, p7, x, a, b, c, r, rfl⟩
set_option maxRecDepth 100000 in
set_option maxHeartbeats 4000000 in
theorem status_c {A : Nat → Addr} {w : World} (hE : LayS A w) (t : ByteArray) (ht : t.size ≤ 100000000) :
    Calls Tryz.prog 122 #[.string t] w fun e w' => e = .returned (statV (A 6) (bl t)) ∧ Below w.heap.size w w' := by
  have c6 := (hE.sent 6 (by decide) (by decide)).cell
  have hlen := bl_length t
  refine enter (args := [.string t]) Tryz.func122 rfl Tryz.ntmps122 rfl ?_
  have H := Hp.nil w
  repeat' (first | (first | (with_reducible refine p_tn ?_) | (with_reducible refine wp_seq ?_) | (with_reducible refine w_reg ?_)) | (first | (with_reducible refine l_nil ?_) | ((with_reducible refine g_on ?_); (first | ((with_reducible refine g_mv ?_); refine l_p txs rfl rfl ?_) | ((with_reducible refine g_as ?_); refine l_p txs rfl rfl ?_) | ((with_reducible refine g_cl ?_); refine l_p txs rfl rfl ?_)))))
  (with_reducible refine is_l ?_); refine l_t txs rfl rfl (fun h1 => ?_) (fun h1 => ?_)
  · have hs : statRaw (bl t) = none := by
      unfold statRaw
      split
      · rename_i a b c r e
        have := congrArg List.length e
        simp only [List.length_drop, List.length_cons] at this
        omega
      · rfl
    repeat' (first | (first | (with_reducible refine p_tn ?_) | (with_reducible refine wp_seq ?_) | (with_reducible (refine is_if ?_; (refine w_ift rfl ?_)))) | (first | (with_reducible refine l_nil ?_) | ((with_reducible refine g_on ?_); (first | ((with_reducible refine g_mv ?_); refine l_p txs rfl rfl ?_) | ((with_reducible refine g_pk ?_); refine l_p txs rfl rfl ?_))) | ((with_reducible refine g_if ?_); (refine l_off rfl ?_))))
    have HS := H.pick [] [] (by decide) (by decide) rfl rfl
    refine d_start (fun w_ => Hp w w_ _ _) #[false, false, false, false, false] (by kernel_rfl) rfl rfl HS.drew ?_
    have H := H.drew
    have HS := HS.drew
    first | (refine d_take (i := 0) #[true, false, false, false, false] rfl (by kernel_rfl) (fun _ _ _ h => h) rfl (fun w_ K => evL_run (o := ⟨_, _, _, _, _, _⟩) txs rfl (K.old c6)) HS ?_)
    first | (refine d_pure (i := 1) #[true, true, false, false, false] rfl (by kernel_rfl) (fun _ _ _ h => h) rfl (fun w_ => evP_run (o := ⟨_, _, _, _, _, _⟩) txs rfl) ?_)
    first | (refine d_pure (i := 2) #[true, true, true, false, false] rfl (by kernel_rfl) (fun _ _ _ h => h) rfl (fun w_ => evP_run (o := ⟨_, _, _, _, _, _⟩) txs rfl) ?_)
    first | (refine d_pure (i := 3) #[true, true, true, true, false] rfl (by kernel_rfl) (fun _ _ _ h => h) rfl (fun w_ => evP_run (o := ⟨_, _, _, _, _, _⟩) txs rfl) ?_)
    first | (refine d_pure (i := 4) #[true, true, true, true, true] rfl (by kernel_rfl) (fun _ _ _ h => h) rfl (fun w_ => evP_run (o := ⟨_, _, _, _, _, _⟩) txs rfl) ?_)
    refine d_done rfl ?_
    repeat' (first | (with_reducible refine p_tn ?_) | (with_reducible refine p_tr ?_) | (with_reducible refine wp_ret ?_))
    refine end4 rfl rfl rfl rfl rfl ?_
    exact ⟨by rw [statV_none hs], H.B⟩
  obtain ⟨p0, p1, p2, p3, p4, p5, p6, p7, x, a, b, c, r, hl⟩ := twelve (l := bl t) (by omega)
  have a8 : at_ (bl t) 8 = x := by rw [hl]; rfl
  have a9 : at_ (bl t) 9 = a := by rw [hl]; rfl
  have a10 : at_ (bl t) 10 = b := by rw [hl]; rfl
  have a11 : at_ (bl t) 11 = c := by rw [hl]; rfl
  have x1 : bl (t.extract 9 12) = [a, b, c] := by rw [blE, hl]; rfl
  have x2 : bl (t.extract 0 8) = [p0, p1, p2, p3, p4, p5, p6, p7] := by rw [blE, hl]; rfl
  have x3 : bl (t.extract 12 t.size) = r := by
    rw [blE, hl]
    have : r.length = t.size - 12 := by rw [← hlen, hl]; simp
    rw [← this]
    simp
  have hraw : statRaw (bl t) = if x = 32 then (if digB a = true ∧ digB b = true ∧ digB c = true ∧ (r = [] ∨ r.head? = some 32) ∧ r.all valB = true then
      match versS [p0, p1, p2, p3, p4, p5, p6, p7] with
      | none => none
      | some (x, y) => some (100 * (a - 48) + 10 * (b - 48) + (c - 48), y, decide (x = 1) && decide (y ≤ 1))
    else none) else none := by
    unfold statRaw
    rw [hl]
    by_cases hx : x = 32
    · subst hx; rfl
    · rw [if_neg hx]
      show (match x :: a :: b :: c :: r with | 32 :: a :: b :: c :: reason => _ | _ => none) = none
      split
      · rename_i e; simp only [List.cons.injEq] at e; exact absurd e.1 hx
      · rfl
  have e3 := x3
  repeat' (first | ((with_reducible refine g_on ?_); ((with_reducible refine g_mv ?_); refine l_p txs rfl rfl ?_)) | ((with_reducible refine g_if ?_); (first | ((with_reducible refine g_mv ?_); refine l_p txs rfl rfl ?_) | ((with_reducible refine g_ix ?_); refine l_ix txs rfl rfl (by first | omega | assumption | decide) (by first | omega | assumption | decide) ?_))))
  (with_reducible refine is_l ?_); refine l_t txs rfl rfl (fun h2 => ?_) (fun h2 => ?_)
  · have hs : statRaw (bl t) = none := by rw [hraw, if_neg]; rw [← a8]; exact h2
    repeat' (first | (first | (with_reducible refine p_tn ?_) | (with_reducible refine wp_seq ?_) | (with_reducible (refine is_if ?_; (refine w_ift rfl ?_)))) | (first | (with_reducible refine l_nil ?_) | ((with_reducible refine g_on ?_); (first | ((with_reducible refine g_mv ?_); refine l_p txs rfl rfl ?_) | ((with_reducible refine g_pk ?_); refine l_p txs rfl rfl ?_))) | ((with_reducible refine g_if ?_); (refine l_off rfl ?_))))
    have HS := H.pick [] [] (by decide) (by decide) rfl rfl
    refine d_start (fun w_ => Hp w w_ _ _) #[false, false, false, false, false] (by kernel_rfl) rfl rfl HS.drew ?_
    have H := H.drew
    have HS := HS.drew
    first | (refine d_take (i := 0) #[true, false, false, false, false] rfl (by kernel_rfl) (fun _ _ _ h => h) rfl (fun w_ K => evL_run (o := ⟨_, _, _, _, _, _⟩) txs rfl (K.old c6)) HS ?_)
    first | (refine d_pure (i := 1) #[true, true, false, false, false] rfl (by kernel_rfl) (fun _ _ _ h => h) rfl (fun w_ => evP_run (o := ⟨_, _, _, _, _, _⟩) txs rfl) ?_)
    first | (refine d_pure (i := 2) #[true, true, true, false, false] rfl (by kernel_rfl) (fun _ _ _ h => h) rfl (fun w_ => evP_run (o := ⟨_, _, _, _, _, _⟩) txs rfl) ?_)
    first | (refine d_pure (i := 3) #[true, true, true, true, false] rfl (by kernel_rfl) (fun _ _ _ h => h) rfl (fun w_ => evP_run (o := ⟨_, _, _, _, _, _⟩) txs rfl) ?_)
    first | (refine d_pure (i := 4) #[true, true, true, true, true] rfl (by kernel_rfl) (fun _ _ _ h => h) rfl (fun w_ => evP_run (o := ⟨_, _, _, _, _, _⟩) txs rfl) ?_)
    refine d_done rfl ?_
    repeat' (first | (with_reducible refine p_tn ?_) | (with_reducible refine p_tr ?_) | (with_reducible refine wp_ret ?_))
    refine end4 rfl rfl rfl rfl rfl ?_
    exact ⟨by rw [statV_none hs], H.B⟩
  have hx : x = 32 := by rw [← a8]; exact Classical.byContradiction h2
  rw [if_pos hx] at hraw
  have n1 : (t.extract 9 12).size = 3 := by rw [← bl_length, x1]; rfl
  have n2 : (t.extract 0 8).size = 8 := by rw [← bl_length, x2]; rfl
  have n3 : (t.extract 12 t.size).size = r.length := by rw [← bl_length, x3]
  have hr12 : r.length + 12 = t.size := by rw [← hlen, hl]; simp
  repeat' (first | ((with_reducible refine g_on ?_); (first | ((with_reducible refine g_mv ?_); refine l_p txs rfl rfl ?_) | ((with_reducible refine g_pk ?_); refine l_p txs rfl rfl ?_))) | ((with_reducible refine g_if ?_); (first | ((with_reducible refine g_mv ?_); refine l_p txs rfl rfl ?_) | ((with_reducible refine g_sl ?_); refine l_sl txs rfl rfl (by first | omega | assumption | decide) (by first | omega | assumption | decide) (by first | omega | assumption | decide) ?_))))
  have hd := fun w1 => all_c (t.extract 9 12) 157 digB kind_digit w1 (by omega)
  rw [x1] at hd
  cases hdg : ([a, b, c] : L).all digB
  · have hs : statRaw (bl t) = none := by
      rw [hraw, if_neg]
      rintro ⟨d1, d2, d3, _⟩
      simp [d1, d2, d3] at hdg
    rw [hdg] at hd
    (with_reducible refine is_l ?_); refine l_callp rfl rfl (by kernel_rfl) (hd _) ?_
    repeat' (first | (first | (with_reducible refine p_tn ?_) | (with_reducible refine wp_seq ?_) | (with_reducible (refine is_if ?_; (refine w_ift rfl ?_)))) | (first | (with_reducible refine l_nil ?_) | ((with_reducible refine g_on ?_); ((with_reducible refine g_pk ?_); refine l_p txs rfl rfl ?_)) | ((with_reducible refine g_if ?_); ((with_reducible refine g_un ?_); (refine l_p txs rfl rfl ?_)))))
    have HS := H.pick [] [] (by decide) (by decide) rfl rfl
    refine d_start (fun w_ => Hp w w_ _ _) #[false, false, false, false, false] (by kernel_rfl) rfl rfl HS.drew ?_
    have H := H.drew
    have HS := HS.drew
    first | (refine d_take (i := 0) #[true, false, false, false, false] rfl (by kernel_rfl) (fun _ _ _ h => h) rfl (fun w_ K => evL_run (o := ⟨_, _, _, _, _, _⟩) txs rfl (K.old c6)) HS ?_)
    first | (refine d_pure (i := 1) #[true, true, false, false, false] rfl (by kernel_rfl) (fun _ _ _ h => h) rfl (fun w_ => evP_run (o := ⟨_, _, _, _, _, _⟩) txs rfl) ?_)
    first | (refine d_pure (i := 2) #[true, true, true, false, false] rfl (by kernel_rfl) (fun _ _ _ h => h) rfl (fun w_ => evP_run (o := ⟨_, _, _, _, _, _⟩) txs rfl) ?_)
    first | (refine d_pure (i := 3) #[true, true, true, true, false] rfl (by kernel_rfl) (fun _ _ _ h => h) rfl (fun w_ => evP_run (o := ⟨_, _, _, _, _, _⟩) txs rfl) ?_)
    first | (refine d_pure (i := 4) #[true, true, true, true, true] rfl (by kernel_rfl) (fun _ _ _ h => h) rfl (fun w_ => evP_run (o := ⟨_, _, _, _, _, _⟩) txs rfl) ?_)
    refine d_done rfl ?_
    repeat' (first | (with_reducible refine p_tn ?_) | (with_reducible refine p_tr ?_) | (with_reducible refine wp_ret ?_))
    refine end4 rfl rfl rfl rfl rfl ?_
    exact ⟨by rw [statV_none hs], H.B⟩
  rw [hdg] at hd
  have hdd : digB a = true ∧ digB b = true ∧ digB c = true := by simpa using hdg
  have ra : 48 ≤ at_ (bl t) 9 ∧ at_ (bl t) 9 ≤ 57 := by rw [a9]; have := hdd.1; unfold digB at this; simpa using this
  have rb : 48 ≤ at_ (bl t) 10 ∧ at_ (bl t) 10 ≤ 57 := by rw [a10]; have := hdd.2.1; unfold digB at this; simpa using this
  have rc : 48 ≤ at_ (bl t) 11 ∧ at_ (bl t) 11 ≤ 57 := by rw [a11]; have := hdd.2.2; unfold digB at this; simpa using this
  (with_reducible refine is_l ?_); refine l_callp rfl rfl (by kernel_rfl) (hd _) ?_
  repeat' (first | (first | (with_reducible refine p_tn ?_) | (with_reducible refine wp_seq ?_) | (with_reducible refine w_reg ?_) | (with_reducible (refine is_if ?_; (refine w_iff rfl ?_))) | (with_reducible refine wp_skip ?_)) | (first | (with_reducible refine l_nil ?_) | ((with_reducible refine g_on ?_); (first | ((with_reducible refine g_mv ?_); refine l_p txs rfl rfl ?_) | ((with_reducible refine g_pk ?_); refine l_p txs rfl rfl ?_) | ((with_reducible refine g_sl ?_); refine l_sl txs rfl rfl (by first | omega | assumption | decide) (by first | omega | assumption | decide) (by first | omega | assumption | decide) ?_))) | ((with_reducible refine g_if ?_); ((with_reducible refine g_un ?_); (refine l_p txs rfl rfl ?_)))))
  have hver := fun w1 => version_c (t.extract 0 8) w1
  rw [x2] at hver
  cases hvs : versS [p0, p1, p2, p3, p4, p5, p6, p7] with
  | none =>
    have hs : statRaw (bl t) = none := by rw [hraw, hvs]; simp
    rw [versV_none hvs] at hver
    (with_reducible refine is_l ?_); refine l_callp rfl rfl (by kernel_rfl) (hver _) ?_
    repeat' (first | (first | (with_reducible refine p_tn ?_) | (with_reducible refine wp_seq ?_) | (with_reducible refine w_reg ?_) | (with_reducible (refine is_if ?_; (refine w_ift rfl ?_)))) | (first | (with_reducible refine l_nil ?_) | ((with_reducible refine g_on ?_); (first | ((with_reducible refine g_mv ?_); refine l_p txs rfl rfl ?_) | ((with_reducible refine g_as ?_); refine l_p txs rfl rfl ?_) | ((with_reducible refine g_ex ?_); refine l_p txs rfl rfl ?_) | ((with_reducible refine g_pk ?_); refine l_p txs rfl rfl ?_) | ((with_reducible refine g_un ?_); (refine l_p txs rfl rfl ?_)) | ((with_reducible refine g_sl ?_); refine l_sl txs rfl rfl (by first | omega | assumption | decide) (by first | omega | assumption | decide) (by first | omega | assumption | decide) ?_))) | ((with_reducible refine g_if ?_); (refine l_off rfl ?_))))
    have HS := H.pick [] [] (by decide) (by decide) rfl rfl
    refine d_start (fun w_ => Hp w w_ _ _) #[false, false, false, false, false] (by kernel_rfl) rfl rfl HS.drew ?_
    have H := H.drew
    have HS := HS.drew
    first | (refine d_take (i := 0) #[true, false, false, false, false] rfl (by kernel_rfl) (fun _ _ _ h => h) rfl (fun w_ K => evL_run (o := ⟨_, _, _, _, _, _⟩) txs rfl (K.old c6)) HS ?_)
    first | (refine d_pure (i := 1) #[true, true, false, false, false] rfl (by kernel_rfl) (fun _ _ _ h => h) rfl (fun w_ => evP_run (o := ⟨_, _, _, _, _, _⟩) txs rfl) ?_)
    first | (refine d_pure (i := 2) #[true, true, true, false, false] rfl (by kernel_rfl) (fun _ _ _ h => h) rfl (fun w_ => evP_run (o := ⟨_, _, _, _, _, _⟩) txs rfl) ?_)
    first | (refine d_pure (i := 3) #[true, true, true, true, false] rfl (by kernel_rfl) (fun _ _ _ h => h) rfl (fun w_ => evP_run (o := ⟨_, _, _, _, _, _⟩) txs rfl) ?_)
    first | (refine d_pure (i := 4) #[true, true, true, true, true] rfl (by kernel_rfl) (fun _ _ _ h => h) rfl (fun w_ => evP_run (o := ⟨_, _, _, _, _, _⟩) txs rfl) ?_)
    refine d_done rfl ?_
    repeat' (first | (with_reducible refine p_tn ?_) | (with_reducible refine p_tr ?_) | (with_reducible refine wp_ret ?_))
    refine end4 rfl rfl rfl rfl rfl ?_
    exact ⟨by rw [statV_none hs], H.B⟩
  | some p =>
    obtain ⟨va, y⟩ := p
    rw [versV_some hvs] at hver
    rw [hvs] at hraw
    (with_reducible refine is_l ?_); refine l_callp rfl rfl (by kernel_rfl) (hver _) ?_
    repeat' (first | (first | (with_reducible refine p_tn ?_) | (with_reducible refine wp_seq ?_) | (with_reducible refine w_reg ?_)) | (first | (with_reducible refine l_nil ?_) | ((with_reducible refine g_on ?_); (first | ((with_reducible refine g_mv ?_); refine l_p txs rfl rfl ?_) | ((with_reducible refine g_as ?_); refine l_p txs rfl rfl ?_) | ((with_reducible refine g_ex ?_); refine l_p txs rfl rfl ?_) | ((with_reducible refine g_un ?_); (refine l_p txs rfl rfl ?_)) | ((with_reducible refine g_sl ?_); refine l_sl txs rfl rfl (by first | omega | assumption | decide) (by first | omega | assumption | decide) (by first | omega | assumption | decide) ?_))) | ((with_reducible refine g_if ?_); ((with_reducible refine g_mv ?_); refine l_p txs rfl rfl ?_))))
    (with_reducible refine is_l ?_); refine l_t txs rfl rfl (fun h3 => ?_) (fun h3 => ?_)
    · have h3' : ¬ r = [] := fun e => h3 (by show bl (t.extract 12 t.size) = _; rw [x3, e]; rfl)
      have hrl : 0 < r.length := List.length_pos_iff.2 h3'
      have a0 : at_ (bl (t.extract (12 : Int).toNat ((t.size : Int)).toNat)) 0 = r.head h3' := by
        show at_ (bl (t.extract 12 t.size)) 0 = _
        rw [x3]
        cases r with
        | nil => exact absurd rfl h3'
        | cons z zs => rfl
      have n3' : (t.extract (12 : Int).toNat ((t.size : Int)).toNat).size = r.length := n3
      repeat' ((with_reducible refine g_if ?_); (first | ((with_reducible refine g_mv ?_); refine l_p txs rfl rfl ?_) | ((with_reducible refine g_ix ?_); refine l_ix txs rfl rfl (by first | omega | assumption | decide) (by first | omega | assumption | decide) ?_)))
      (with_reducible refine is_l ?_); refine l_t txs rfl rfl (fun h4 => ?_) (fun h4 => ?_)
      · have hs : statRaw (bl t) = none := by
          rw [hraw, if_neg]
          rintro ⟨_, _, _, hh | hh, _⟩
          · exact h3' hh
          · rw [List.head?_eq_some_head h3'] at hh
            rw [a0] at h4
            exact h4 (Option.some.inj hh)
        repeat' (first | (first | (with_reducible refine p_tn ?_) | (with_reducible refine wp_seq ?_) | (with_reducible (refine is_if ?_; (refine w_ift rfl ?_)))) | (first | (with_reducible refine l_nil ?_) | ((with_reducible refine g_on ?_); (first | ((with_reducible refine g_mv ?_); refine l_p txs rfl rfl ?_) | ((with_reducible refine g_pk ?_); refine l_p txs rfl rfl ?_))) | ((with_reducible refine g_if ?_); (first | (refine l_off rfl ?_) | ((with_reducible refine g_pk ?_); refine l_p txs rfl rfl ?_)))))
        have HS := H.pick [] [] (by decide) (by decide) rfl rfl
        refine d_start (fun w_ => Hp w w_ _ _) #[false, false, false, false, false] (by kernel_rfl) rfl rfl HS.drew ?_
        have H := H.drew
        have HS := HS.drew
        first | (refine d_take (i := 0) #[true, false, false, false, false] rfl (by kernel_rfl) (fun _ _ _ h => h) rfl (fun w_ K => evL_run (o := ⟨_, _, _, _, _, _⟩) txs rfl (K.old c6)) HS ?_)
        first | (refine d_pure (i := 1) #[true, true, false, false, false] rfl (by kernel_rfl) (fun _ _ _ h => h) rfl (fun w_ => evP_run (o := ⟨_, _, _, _, _, _⟩) txs rfl) ?_)
        first | (refine d_pure (i := 2) #[true, true, true, false, false] rfl (by kernel_rfl) (fun _ _ _ h => h) rfl (fun w_ => evP_run (o := ⟨_, _, _, _, _, _⟩) txs rfl) ?_)
        first | (refine d_pure (i := 3) #[true, true, true, true, false] rfl (by kernel_rfl) (fun _ _ _ h => h) rfl (fun w_ => evP_run (o := ⟨_, _, _, _, _, _⟩) txs rfl) ?_)
        first | (refine d_pure (i := 4) #[true, true, true, true, true] rfl (by kernel_rfl) (fun _ _ _ h => h) rfl (fun w_ => evP_run (o := ⟨_, _, _, _, _, _⟩) txs rfl) ?_)
        refine d_done rfl ?_
        repeat' (first | (with_reducible refine p_tn ?_) | (with_reducible refine p_tr ?_) | (with_reducible refine wp_ret ?_))
        refine end4 rfl rfl rfl rfl rfl ?_
        exact ⟨by rw [statV_none hs], H.B⟩
      have hh : r.head? = some 32 := by
        rw [a0] at h4
        rw [List.head?_eq_some_head h3']
        exact congrArg some (Classical.byContradiction h4)
      repeat' (first | ((with_reducible refine g_on ?_); (first | ((with_reducible refine g_mv ?_); refine l_p txs rfl rfl ?_) | ((with_reducible refine g_pk ?_); refine l_p txs rfl rfl ?_))) | ((with_reducible refine g_if ?_); (first | ((with_reducible refine g_mv ?_); refine l_p txs rfl rfl ?_) | ((with_reducible refine g_pk ?_); refine l_p txs rfl rfl ?_))))
      have hva := fun w1 => all_c (t.extract (12 : Int).toNat ((t.size : Int)).toNat) 121 valB kind_value w1 (by have n3' : (t.extract (12 : Int).toNat ((t.size : Int)).toNat).size = r.length := n3; omega)
      have x3' : bl (t.extract (12 : Int).toNat ((t.size : Int)).toNat) = r := x3
      rw [x3'] at hva
      cases hvl : r.all valB
      · have hs : statRaw (bl t) = none := by
          rw [hraw, if_neg]
          rintro ⟨_, _, _, _, hh⟩
          rw [hvl] at hh
          cases hh
        rw [hvl] at hva
        (with_reducible refine is_l ?_); refine l_callp rfl rfl (by kernel_rfl) (hva _) ?_
        repeat' (first | (first | (with_reducible refine p_tn ?_) | (with_reducible refine wp_seq ?_) | (with_reducible (refine is_if ?_; (refine w_ift rfl ?_)))) | (first | (with_reducible refine l_nil ?_) | ((with_reducible refine g_on ?_); ((with_reducible refine g_pk ?_); refine l_p txs rfl rfl ?_)) | ((with_reducible refine g_if ?_); ((with_reducible refine g_un ?_); (refine l_p txs rfl rfl ?_)))))
        have HS := H.pick [] [] (by decide) (by decide) rfl rfl
        refine d_start (fun w_ => Hp w w_ _ _) #[false, false, false, false, false] (by kernel_rfl) rfl rfl HS.drew ?_
        have H := H.drew
        have HS := HS.drew
        first | (refine d_take (i := 0) #[true, false, false, false, false] rfl (by kernel_rfl) (fun _ _ _ h => h) rfl (fun w_ K => evL_run (o := ⟨_, _, _, _, _, _⟩) txs rfl (K.old c6)) HS ?_)
        first | (refine d_pure (i := 1) #[true, true, false, false, false] rfl (by kernel_rfl) (fun _ _ _ h => h) rfl (fun w_ => evP_run (o := ⟨_, _, _, _, _, _⟩) txs rfl) ?_)
        first | (refine d_pure (i := 2) #[true, true, true, false, false] rfl (by kernel_rfl) (fun _ _ _ h => h) rfl (fun w_ => evP_run (o := ⟨_, _, _, _, _, _⟩) txs rfl) ?_)
        first | (refine d_pure (i := 3) #[true, true, true, true, false] rfl (by kernel_rfl) (fun _ _ _ h => h) rfl (fun w_ => evP_run (o := ⟨_, _, _, _, _, _⟩) txs rfl) ?_)
        first | (refine d_pure (i := 4) #[true, true, true, true, true] rfl (by kernel_rfl) (fun _ _ _ h => h) rfl (fun w_ => evP_run (o := ⟨_, _, _, _, _, _⟩) txs rfl) ?_)
        refine d_done rfl ?_
        repeat' (first | (with_reducible refine p_tn ?_) | (with_reducible refine p_tr ?_) | (with_reducible refine wp_ret ?_))
        refine end4 rfl rfl rfl rfl rfl ?_
        exact ⟨by rw [statV_none hs], H.B⟩
      · have hs : statRaw (bl t) = some (100 * (a - 48) + 10 * (b - 48) + (c - 48), y, decide (va = 1) && decide (y ≤ 1)) := by
          rw [hraw, if_pos ⟨hdd.1, hdd.2.1, hdd.2.2, .inr hh, hvl⟩]
        rw [hvl] at hva
        (with_reducible refine is_l ?_); refine l_callp rfl rfl (by kernel_rfl) (hva _) ?_
        repeat' (first | (first | (with_reducible refine p_tn ?_) | (with_reducible refine wp_seq ?_) | (with_reducible (refine is_if ?_; (refine w_iff rfl ?_))) | (with_reducible refine wp_skip ?_)) | (first | (with_reducible refine l_nil ?_) | ((with_reducible refine g_on ?_); ((with_reducible refine g_pk ?_); refine l_p txs rfl rfl ?_)) | ((with_reducible refine g_if ?_); ((with_reducible refine g_un ?_); (refine l_p txs rfl rfl ?_)))))
        have HS := H.pick [] [] (by decide) (by decide) rfl rfl
        refine d_start (fun w_ => Hp w w_ _ _) #[false, false, false, false, false, false, false, false, false, false, false, false, false, false, false, false, false, false, false, false, false, false] (by kernel_rfl) rfl rfl HS.drew ?_
        have H := H.drew
        have HS := HS.drew
        first | (refine d_pure (i := 0) #[true, false, false, false, false, false, false, false, false, false, false, false, false, false, false, false, false, false, false, false, false, false] rfl (by kernel_rfl) (fun _ _ _ h => h) rfl (fun w_ => evP_run (o := ⟨_, _, _, _, _, _⟩) txs rfl) ?_)
        first | (refine d_pure (i := 1) #[true, true, false, false, false, false, false, false, false, false, false, false, false, false, false, false, false, false, false, false, false, false] rfl (by kernel_rfl) (fun _ _ _ h => h) rfl (fun w_ => evI_run (o := ⟨_, _, _, _, _, _⟩) txs rfl (by omega) (by omega)) ?_)
        first | (refine d_pure (i := 2) #[true, true, true, false, false, false, false, false, false, false, false, false, false, false, false, false, false, false, false, false, false, false] rfl (by kernel_rfl) (fun _ _ _ h => h) rfl (fun w_ => evP_run (o := ⟨_, _, _, _, _, _⟩) txs rfl) ?_) | (refine d_pure (i := 2) #[true, true, true, false, false, false, false, false, false, false, false, false, false, false, false, false, false, false, false, false, false, false] rfl (by kernel_rfl) (fun _ _ _ h => h) rfl (fun w_ => (evA_run (o := ⟨_, _, _, _, _, _⟩) txs rfl).trans (by rw [wrap_in (by first | exact in_i64 (by omega) (by omega) | exact in_u8 (by omega) (by omega) | exact in_u64 (by omega) (by omega) | exact in_i32 (by omega) (by omega))])) ?_)
        first | (refine d_pure (i := 3) #[true, true, true, true, false, false, false, false, false, false, false, false, false, false, false, false, false, false, false, false, false, false] rfl (by kernel_rfl) (fun _ _ _ h => h) rfl (fun w_ => evP_run (o := ⟨_, _, _, _, _, _⟩) txs rfl) ?_) | (refine d_pure (i := 3) #[true, true, true, true, false, false, false, false, false, false, false, false, false, false, false, false, false, false, false, false, false, false] rfl (by kernel_rfl) (fun _ _ _ h => h) rfl (fun w_ => (evA_run (o := ⟨_, _, _, _, _, _⟩) txs rfl).trans (by rw [wrap_in (by first | exact in_i64 (by omega) (by omega) | exact in_u8 (by omega) (by omega) | exact in_u64 (by omega) (by omega) | exact in_i32 (by omega) (by omega))])) ?_)
        first | (refine d_pure (i := 4) #[true, true, true, true, true, false, false, false, false, false, false, false, false, false, false, false, false, false, false, false, false, false] rfl (by kernel_rfl) (fun _ _ _ h => h) rfl (fun w_ => evP_run (o := ⟨_, _, _, _, _, _⟩) txs rfl) ?_) | (refine d_pure (i := 4) #[true, true, true, true, true, false, false, false, false, false, false, false, false, false, false, false, false, false, false, false, false, false] rfl (by kernel_rfl) (fun _ _ _ h => h) rfl (fun w_ => (evA_run (o := ⟨_, _, _, _, _, _⟩) txs rfl).trans (by rw [wrap_in (by first | exact in_i64 (by omega) (by omega) | exact in_u8 (by omega) (by omega) | exact in_u64 (by omega) (by omega) | exact in_i32 (by omega) (by omega))])) ?_)
        first | (refine d_pure (i := 5) #[true, true, true, true, true, true, false, false, false, false, false, false, false, false, false, false, false, false, false, false, false, false] rfl (by kernel_rfl) (fun _ _ _ h => h) rfl (fun w_ => evP_run (o := ⟨_, _, _, _, _, _⟩) txs rfl) ?_)
        first | (refine d_pure (i := 6) #[true, true, true, true, true, true, true, false, false, false, false, false, false, false, false, false, false, false, false, false, false, false] rfl (by kernel_rfl) (fun _ _ _ h => h) rfl (fun w_ => evI_run (o := ⟨_, _, _, _, _, _⟩) txs rfl (by omega) (by omega)) ?_)
        first | (refine d_pure (i := 7) #[true, true, true, true, true, true, true, true, false, false, false, false, false, false, false, false, false, false, false, false, false, false] rfl (by kernel_rfl) (fun _ _ _ h => h) rfl (fun w_ => evP_run (o := ⟨_, _, _, _, _, _⟩) txs rfl) ?_) | (refine d_pure (i := 7) #[true, true, true, true, true, true, true, true, false, false, false, false, false, false, false, false, false, false, false, false, false, false] rfl (by kernel_rfl) (fun _ _ _ h => h) rfl (fun w_ => (evA_run (o := ⟨_, _, _, _, _, _⟩) txs rfl).trans (by rw [wrap_in (by first | exact in_i64 (by omega) (by omega) | exact in_u8 (by omega) (by omega) | exact in_u64 (by omega) (by omega) | exact in_i32 (by omega) (by omega))])) ?_)
        first | (refine d_pure (i := 8) #[true, true, true, true, true, true, true, true, true, false, false, false, false, false, false, false, false, false, false, false, false, false] rfl (by kernel_rfl) (fun _ _ _ h => h) rfl (fun w_ => evP_run (o := ⟨_, _, _, _, _, _⟩) txs rfl) ?_) | (refine d_pure (i := 8) #[true, true, true, true, true, true, true, true, true, false, false, false, false, false, false, false, false, false, false, false, false, false] rfl (by kernel_rfl) (fun _ _ _ h => h) rfl (fun w_ => (evA_run (o := ⟨_, _, _, _, _, _⟩) txs rfl).trans (by rw [wrap_in (by first | exact in_i64 (by omega) (by omega) | exact in_u8 (by omega) (by omega) | exact in_u64 (by omega) (by omega) | exact in_i32 (by omega) (by omega))])) ?_)
        first | (refine d_pure (i := 9) #[true, true, true, true, true, true, true, true, true, true, false, false, false, false, false, false, false, false, false, false, false, false] rfl (by kernel_rfl) (fun _ _ _ h => h) rfl (fun w_ => evP_run (o := ⟨_, _, _, _, _, _⟩) txs rfl) ?_) | (refine d_pure (i := 9) #[true, true, true, true, true, true, true, true, true, true, false, false, false, false, false, false, false, false, false, false, false, false] rfl (by kernel_rfl) (fun _ _ _ h => h) rfl (fun w_ => (evA_run (o := ⟨_, _, _, _, _, _⟩) txs rfl).trans (by rw [wrap_in (by first | exact in_i64 (by omega) (by omega) | exact in_u8 (by omega) (by omega) | exact in_u64 (by omega) (by omega) | exact in_i32 (by omega) (by omega))])) ?_)
        first | (refine d_pure (i := 10) #[true, true, true, true, true, true, true, true, true, true, true, false, false, false, false, false, false, false, false, false, false, false] rfl (by kernel_rfl) (fun _ _ _ h => h) rfl (fun w_ => evP_run (o := ⟨_, _, _, _, _, _⟩) txs rfl) ?_) | (refine d_pure (i := 10) #[true, true, true, true, true, true, true, true, true, true, true, false, false, false, false, false, false, false, false, false, false, false] rfl (by kernel_rfl) (fun _ _ _ h => h) rfl (fun w_ => (evA_run (o := ⟨_, _, _, _, _, _⟩) txs rfl).trans (by rw [wrap_in (by first | exact in_i64 (by omega) (by omega) | exact in_u8 (by omega) (by omega) | exact in_u64 (by omega) (by omega) | exact in_i32 (by omega) (by omega))])) ?_)
        first | (refine d_pure (i := 11) #[true, true, true, true, true, true, true, true, true, true, true, true, false, false, false, false, false, false, false, false, false, false] rfl (by kernel_rfl) (fun _ _ _ h => h) rfl (fun w_ => evP_run (o := ⟨_, _, _, _, _, _⟩) txs rfl) ?_)
        first | (refine d_pure (i := 12) #[true, true, true, true, true, true, true, true, true, true, true, true, true, false, false, false, false, false, false, false, false, false] rfl (by kernel_rfl) (fun _ _ _ h => h) rfl (fun w_ => evI_run (o := ⟨_, _, _, _, _, _⟩) txs rfl (by omega) (by omega)) ?_)
        first | (refine d_pure (i := 13) #[true, true, true, true, true, true, true, true, true, true, true, true, true, true, false, false, false, false, false, false, false, false] rfl (by kernel_rfl) (fun _ _ _ h => h) rfl (fun w_ => evP_run (o := ⟨_, _, _, _, _, _⟩) txs rfl) ?_) | (refine d_pure (i := 13) #[true, true, true, true, true, true, true, true, true, true, true, true, true, true, false, false, false, false, false, false, false, false] rfl (by kernel_rfl) (fun _ _ _ h => h) rfl (fun w_ => (evA_run (o := ⟨_, _, _, _, _, _⟩) txs rfl).trans (by rw [wrap_in (by first | exact in_i64 (by omega) (by omega) | exact in_u8 (by omega) (by omega) | exact in_u64 (by omega) (by omega) | exact in_i32 (by omega) (by omega))])) ?_)
        first | (refine d_pure (i := 14) #[true, true, true, true, true, true, true, true, true, true, true, true, true, true, true, false, false, false, false, false, false, false] rfl (by kernel_rfl) (fun _ _ _ h => h) rfl (fun w_ => evP_run (o := ⟨_, _, _, _, _, _⟩) txs rfl) ?_) | (refine d_pure (i := 14) #[true, true, true, true, true, true, true, true, true, true, true, true, true, true, true, false, false, false, false, false, false, false] rfl (by kernel_rfl) (fun _ _ _ h => h) rfl (fun w_ => (evA_run (o := ⟨_, _, _, _, _, _⟩) txs rfl).trans (by rw [wrap_in (by first | exact in_i64 (by omega) (by omega) | exact in_u8 (by omega) (by omega) | exact in_u64 (by omega) (by omega) | exact in_i32 (by omega) (by omega))])) ?_)
        first | (refine d_pure (i := 15) #[true, true, true, true, true, true, true, true, true, true, true, true, true, true, true, true, false, false, false, false, false, false] rfl (by kernel_rfl) (fun _ _ _ h => h) rfl (fun w_ => evP_run (o := ⟨_, _, _, _, _, _⟩) txs rfl) ?_) | (refine d_pure (i := 15) #[true, true, true, true, true, true, true, true, true, true, true, true, true, true, true, true, false, false, false, false, false, false] rfl (by kernel_rfl) (fun _ _ _ h => h) rfl (fun w_ => (evA_run (o := ⟨_, _, _, _, _, _⟩) txs rfl).trans (by rw [wrap_in (by first | exact in_i64 (by omega) (by omega) | exact in_u8 (by omega) (by omega) | exact in_u64 (by omega) (by omega) | exact in_i32 (by omega) (by omega))])) ?_)
        first | (refine d_pure (i := 16) #[true, true, true, true, true, true, true, true, true, true, true, true, true, true, true, true, true, false, false, false, false, false] rfl (by kernel_rfl) (fun _ _ _ h => h) rfl (fun w_ => evP_run (o := ⟨_, _, _, _, _, _⟩) txs rfl) ?_)
        first | (refine d_pure (i := 17) #[true, true, true, true, true, true, true, true, true, true, true, true, true, true, true, true, true, true, false, false, false, false] rfl (by kernel_rfl) (fun _ _ _ h => h) rfl (fun w_ => evP_run (o := ⟨_, _, _, _, _, _⟩) txs rfl) ?_)
        first | (refine d_pure (i := 18) #[true, true, true, true, true, true, true, true, true, true, true, true, true, true, true, true, true, true, true, false, false, false] rfl (by kernel_rfl) (fun _ _ _ h => h) rfl (fun w_ => evP_run (o := ⟨_, _, _, _, _, _⟩) txs rfl) ?_)
        first | (refine d_pure (i := 19) #[true, true, true, true, true, true, true, true, true, true, true, true, true, true, true, true, true, true, true, true, false, false] rfl (by kernel_rfl) (fun _ _ _ h => h) rfl (fun w_ => evP_run (o := ⟨_, _, _, _, _, _⟩) txs rfl) ?_)
        first | (refine d_pure (i := 20) #[true, true, true, true, true, true, true, true, true, true, true, true, true, true, true, true, true, true, true, true, true, false] rfl (by kernel_rfl) (fun _ _ _ h => h) rfl (fun w_ => evP_run (o := ⟨_, _, _, _, _, _⟩) txs rfl) ?_)
        first | (refine d_pure (i := 21) #[true, true, true, true, true, true, true, true, true, true, true, true, true, true, true, true, true, true, true, true, true, true] rfl (by kernel_rfl) (fun _ _ _ h => h) rfl (fun w_ => evP_run (o := ⟨_, _, _, _, _, _⟩) txs rfl) ?_)
        refine d_done rfl ?_
        repeat' (first | (with_reducible refine p_tn ?_) | (with_reducible refine wp_ret ?_))
        refine end4 rfl rfl rfl rfl rfl ?_
        refine ⟨?_, H.B⟩
        rw [statV_some hs, a9, a10, a11]
    · have h3' : r = [] := by
        rw [← x3]
        exact Classical.byContradiction h3
      repeat' (first | ((with_reducible refine g_on ?_); (first | ((with_reducible refine g_mv ?_); refine l_p txs rfl rfl ?_) | ((with_reducible refine g_pk ?_); refine l_p txs rfl rfl ?_))) | ((with_reducible refine g_if ?_); (first | (refine l_off rfl ?_) | (first | ((with_reducible refine g_mv ?_); refine l_p txs rfl rfl ?_) | ((with_reducible refine g_pk ?_); refine l_p txs rfl rfl ?_)))))
      have hva := fun w1 => all_c (t.extract (12 : Int).toNat ((t.size : Int)).toNat) 121 valB kind_value w1 (by have n3' : (t.extract (12 : Int).toNat ((t.size : Int)).toNat).size = r.length := n3; omega)
      have x3' : bl (t.extract (12 : Int).toNat ((t.size : Int)).toNat) = r := x3
      rw [x3'] at hva
      cases hvl : r.all valB
      · have hs : statRaw (bl t) = none := by
          rw [hraw, if_neg]
          rintro ⟨_, _, _, _, hh⟩
          rw [hvl] at hh
          cases hh
        rw [hvl] at hva
        (with_reducible refine is_l ?_); refine l_callp rfl rfl (by kernel_rfl) (hva _) ?_
        repeat' (first | (first | (with_reducible refine p_tn ?_) | (with_reducible refine wp_seq ?_) | (with_reducible (refine is_if ?_; (refine w_ift rfl ?_)))) | (first | (with_reducible refine l_nil ?_) | ((with_reducible refine g_on ?_); ((with_reducible refine g_pk ?_); refine l_p txs rfl rfl ?_)) | ((with_reducible refine g_if ?_); ((with_reducible refine g_un ?_); (refine l_p txs rfl rfl ?_)))))
        have HS := H.pick [] [] (by decide) (by decide) rfl rfl
        refine d_start (fun w_ => Hp w w_ _ _) #[false, false, false, false, false] (by kernel_rfl) rfl rfl HS.drew ?_
        have H := H.drew
        have HS := HS.drew
        first | (refine d_take (i := 0) #[true, false, false, false, false] rfl (by kernel_rfl) (fun _ _ _ h => h) rfl (fun w_ K => evL_run (o := ⟨_, _, _, _, _, _⟩) txs rfl (K.old c6)) HS ?_)
        first | (refine d_pure (i := 1) #[true, true, false, false, false] rfl (by kernel_rfl) (fun _ _ _ h => h) rfl (fun w_ => evP_run (o := ⟨_, _, _, _, _, _⟩) txs rfl) ?_)
        first | (refine d_pure (i := 2) #[true, true, true, false, false] rfl (by kernel_rfl) (fun _ _ _ h => h) rfl (fun w_ => evP_run (o := ⟨_, _, _, _, _, _⟩) txs rfl) ?_)
        first | (refine d_pure (i := 3) #[true, true, true, true, false] rfl (by kernel_rfl) (fun _ _ _ h => h) rfl (fun w_ => evP_run (o := ⟨_, _, _, _, _, _⟩) txs rfl) ?_)
        first | (refine d_pure (i := 4) #[true, true, true, true, true] rfl (by kernel_rfl) (fun _ _ _ h => h) rfl (fun w_ => evP_run (o := ⟨_, _, _, _, _, _⟩) txs rfl) ?_)
        refine d_done rfl ?_
        repeat' (first | (with_reducible refine p_tn ?_) | (with_reducible refine p_tr ?_) | (with_reducible refine wp_ret ?_))
        refine end4 rfl rfl rfl rfl rfl ?_
        exact ⟨by rw [statV_none hs], H.B⟩
      · have hs : statRaw (bl t) = some (100 * (a - 48) + 10 * (b - 48) + (c - 48), y, decide (va = 1) && decide (y ≤ 1)) := by
          rw [hraw, if_pos ⟨hdd.1, hdd.2.1, hdd.2.2, .inl h3', hvl⟩]
        rw [hvl] at hva
        (with_reducible refine is_l ?_); refine l_callp rfl rfl (by kernel_rfl) (hva _) ?_
        repeat' (first | (first | (with_reducible refine p_tn ?_) | (with_reducible refine wp_seq ?_) | (with_reducible (refine is_if ?_; (refine w_iff rfl ?_))) | (with_reducible refine wp_skip ?_)) | (first | (with_reducible refine l_nil ?_) | ((with_reducible refine g_on ?_); ((with_reducible refine g_pk ?_); refine l_p txs rfl rfl ?_)) | ((with_reducible refine g_if ?_); ((with_reducible refine g_un ?_); (refine l_p txs rfl rfl ?_)))))
        have HS := H.pick [] [] (by decide) (by decide) rfl rfl
        refine d_start (fun w_ => Hp w w_ _ _) #[false, false, false, false, false, false, false, false, false, false, false, false, false, false, false, false, false, false, false, false, false, false] (by kernel_rfl) rfl rfl HS.drew ?_
        have H := H.drew
        have HS := HS.drew
        first | (refine d_pure (i := 0) #[true, false, false, false, false, false, false, false, false, false, false, false, false, false, false, false, false, false, false, false, false, false] rfl (by kernel_rfl) (fun _ _ _ h => h) rfl (fun w_ => evP_run (o := ⟨_, _, _, _, _, _⟩) txs rfl) ?_)
        first | (refine d_pure (i := 1) #[true, true, false, false, false, false, false, false, false, false, false, false, false, false, false, false, false, false, false, false, false, false] rfl (by kernel_rfl) (fun _ _ _ h => h) rfl (fun w_ => evI_run (o := ⟨_, _, _, _, _, _⟩) txs rfl (by omega) (by omega)) ?_)
        first | (refine d_pure (i := 2) #[true, true, true, false, false, false, false, false, false, false, false, false, false, false, false, false, false, false, false, false, false, false] rfl (by kernel_rfl) (fun _ _ _ h => h) rfl (fun w_ => evP_run (o := ⟨_, _, _, _, _, _⟩) txs rfl) ?_) | (refine d_pure (i := 2) #[true, true, true, false, false, false, false, false, false, false, false, false, false, false, false, false, false, false, false, false, false, false] rfl (by kernel_rfl) (fun _ _ _ h => h) rfl (fun w_ => (evA_run (o := ⟨_, _, _, _, _, _⟩) txs rfl).trans (by rw [wrap_in (by first | exact in_i64 (by omega) (by omega) | exact in_u8 (by omega) (by omega) | exact in_u64 (by omega) (by omega) | exact in_i32 (by omega) (by omega))])) ?_)
        first | (refine d_pure (i := 3) #[true, true, true, true, false, false, false, false, false, false, false, false, false, false, false, false, false, false, false, false, false, false] rfl (by kernel_rfl) (fun _ _ _ h => h) rfl (fun w_ => evP_run (o := ⟨_, _, _, _, _, _⟩) txs rfl) ?_) | (refine d_pure (i := 3) #[true, true, true, true, false, false, false, false, false, false, false, false, false, false, false, false, false, false, false, false, false, false] rfl (by kernel_rfl) (fun _ _ _ h => h) rfl (fun w_ => (evA_run (o := ⟨_, _, _, _, _, _⟩) txs rfl).trans (by rw [wrap_in (by first | exact in_i64 (by omega) (by omega) | exact in_u8 (by omega) (by omega) | exact in_u64 (by omega) (by omega) | exact in_i32 (by omega) (by omega))])) ?_)
        first | (refine d_pure (i := 4) #[true, true, true, true, true, false, false, false, false, false, false, false, false, false, false, false, false, false, false, false, false, false] rfl (by kernel_rfl) (fun _ _ _ h => h) rfl (fun w_ => evP_run (o := ⟨_, _, _, _, _, _⟩) txs rfl) ?_) | (refine d_pure (i := 4) #[true, true, true, true, true, false, false, false, false, false, false, false, false, false, false, false, false, false, false, false, false, false] rfl (by kernel_rfl) (fun _ _ _ h => h) rfl (fun w_ => (evA_run (o := ⟨_, _, _, _, _, _⟩) txs rfl).trans (by rw [wrap_in (by first | exact in_i64 (by omega) (by omega) | exact in_u8 (by omega) (by omega) | exact in_u64 (by omega) (by omega) | exact in_i32 (by omega) (by omega))])) ?_)
        first | (refine d_pure (i := 5) #[true, true, true, true, true, true, false, false, false, false, false, false, false, false, false, false, false, false, false, false, false, false] rfl (by kernel_rfl) (fun _ _ _ h => h) rfl (fun w_ => evP_run (o := ⟨_, _, _, _, _, _⟩) txs rfl) ?_)
        first | (refine d_pure (i := 6) #[true, true, true, true, true, true, true, false, false, false, false, false, false, false, false, false, false, false, false, false, false, false] rfl (by kernel_rfl) (fun _ _ _ h => h) rfl (fun w_ => evI_run (o := ⟨_, _, _, _, _, _⟩) txs rfl (by omega) (by omega)) ?_)
        first | (refine d_pure (i := 7) #[true, true, true, true, true, true, true, true, false, false, false, false, false, false, false, false, false, false, false, false, false, false] rfl (by kernel_rfl) (fun _ _ _ h => h) rfl (fun w_ => evP_run (o := ⟨_, _, _, _, _, _⟩) txs rfl) ?_) | (refine d_pure (i := 7) #[true, true, true, true, true, true, true, true, false, false, false, false, false, false, false, false, false, false, false, false, false, false] rfl (by kernel_rfl) (fun _ _ _ h => h) rfl (fun w_ => (evA_run (o := ⟨_, _, _, _, _, _⟩) txs rfl).trans (by rw [wrap_in (by first | exact in_i64 (by omega) (by omega) | exact in_u8 (by omega) (by omega) | exact in_u64 (by omega) (by omega) | exact in_i32 (by omega) (by omega))])) ?_)
        first | (refine d_pure (i := 8) #[true, true, true, true, true, true, true, true, true, false, false, false, false, false, false, false, false, false, false, false, false, false] rfl (by kernel_rfl) (fun _ _ _ h => h) rfl (fun w_ => evP_run (o := ⟨_, _, _, _, _, _⟩) txs rfl) ?_) | (refine d_pure (i := 8) #[true, true, true, true, true, true, true, true, true, false, false, false, false, false, false, false, false, false, false, false, false, false] rfl (by kernel_rfl) (fun _ _ _ h => h) rfl (fun w_ => (evA_run (o := ⟨_, _, _, _, _, _⟩) txs rfl).trans (by rw [wrap_in (by first | exact in_i64 (by omega) (by omega) | exact in_u8 (by omega) (by omega) | exact in_u64 (by omega) (by omega) | exact in_i32 (by omega) (by omega))])) ?_)
        first | (refine d_pure (i := 9) #[true, true, true, true, true, true, true, true, true, true, false, false, false, false, false, false, false, false, false, false, false, false] rfl (by kernel_rfl) (fun _ _ _ h => h) rfl (fun w_ => evP_run (o := ⟨_, _, _, _, _, _⟩) txs rfl) ?_) | (refine d_pure (i := 9) #[true, true, true, true, true, true, true, true, true, true, false, false, false, false, false, false, false, false, false, false, false, false] rfl (by kernel_rfl) (fun _ _ _ h => h) rfl (fun w_ => (evA_run (o := ⟨_, _, _, _, _, _⟩) txs rfl).trans (by rw [wrap_in (by first | exact in_i64 (by omega) (by omega) | exact in_u8 (by omega) (by omega) | exact in_u64 (by omega) (by omega) | exact in_i32 (by omega) (by omega))])) ?_)
        first | (refine d_pure (i := 10) #[true, true, true, true, true, true, true, true, true, true, true, false, false, false, false, false, false, false, false, false, false, false] rfl (by kernel_rfl) (fun _ _ _ h => h) rfl (fun w_ => evP_run (o := ⟨_, _, _, _, _, _⟩) txs rfl) ?_) | (refine d_pure (i := 10) #[true, true, true, true, true, true, true, true, true, true, true, false, false, false, false, false, false, false, false, false, false, false] rfl (by kernel_rfl) (fun _ _ _ h => h) rfl (fun w_ => (evA_run (o := ⟨_, _, _, _, _, _⟩) txs rfl).trans (by rw [wrap_in (by first | exact in_i64 (by omega) (by omega) | exact in_u8 (by omega) (by omega) | exact in_u64 (by omega) (by omega) | exact in_i32 (by omega) (by omega))])) ?_)
        first | (refine d_pure (i := 11) #[true, true, true, true, true, true, true, true, true, true, true, true, false, false, false, false, false, false, false, false, false, false] rfl (by kernel_rfl) (fun _ _ _ h => h) rfl (fun w_ => evP_run (o := ⟨_, _, _, _, _, _⟩) txs rfl) ?_)
        first | (refine d_pure (i := 12) #[true, true, true, true, true, true, true, true, true, true, true, true, true, false, false, false, false, false, false, false, false, false] rfl (by kernel_rfl) (fun _ _ _ h => h) rfl (fun w_ => evI_run (o := ⟨_, _, _, _, _, _⟩) txs rfl (by omega) (by omega)) ?_)
        first | (refine d_pure (i := 13) #[true, true, true, true, true, true, true, true, true, true, true, true, true, true, false, false, false, false, false, false, false, false] rfl (by kernel_rfl) (fun _ _ _ h => h) rfl (fun w_ => evP_run (o := ⟨_, _, _, _, _, _⟩) txs rfl) ?_) | (refine d_pure (i := 13) #[true, true, true, true, true, true, true, true, true, true, true, true, true, true, false, false, false, false, false, false, false, false] rfl (by kernel_rfl) (fun _ _ _ h => h) rfl (fun w_ => (evA_run (o := ⟨_, _, _, _, _, _⟩) txs rfl).trans (by rw [wrap_in (by first | exact in_i64 (by omega) (by omega) | exact in_u8 (by omega) (by omega) | exact in_u64 (by omega) (by omega) | exact in_i32 (by omega) (by omega))])) ?_)
        first | (refine d_pure (i := 14) #[true, true, true, true, true, true, true, true, true, true, true, true, true, true, true, false, false, false, false, false, false, false] rfl (by kernel_rfl) (fun _ _ _ h => h) rfl (fun w_ => evP_run (o := ⟨_, _, _, _, _, _⟩) txs rfl) ?_) | (refine d_pure (i := 14) #[true, true, true, true, true, true, true, true, true, true, true, true, true, true, true, false, false, false, false, false, false, false] rfl (by kernel_rfl) (fun _ _ _ h => h) rfl (fun w_ => (evA_run (o := ⟨_, _, _, _, _, _⟩) txs rfl).trans (by rw [wrap_in (by first | exact in_i64 (by omega) (by omega) | exact in_u8 (by omega) (by omega) | exact in_u64 (by omega) (by omega) | exact in_i32 (by omega) (by omega))])) ?_)
        first | (refine d_pure (i := 15) #[true, true, true, true, true, true, true, true, true, true, true, true, true, true, true, true, false, false, false, false, false, false] rfl (by kernel_rfl) (fun _ _ _ h => h) rfl (fun w_ => evP_run (o := ⟨_, _, _, _, _, _⟩) txs rfl) ?_) | (refine d_pure (i := 15) #[true, true, true, true, true, true, true, true, true, true, true, true, true, true, true, true, false, false, false, false, false, false] rfl (by kernel_rfl) (fun _ _ _ h => h) rfl (fun w_ => (evA_run (o := ⟨_, _, _, _, _, _⟩) txs rfl).trans (by rw [wrap_in (by first | exact in_i64 (by omega) (by omega) | exact in_u8 (by omega) (by omega) | exact in_u64 (by omega) (by omega) | exact in_i32 (by omega) (by omega))])) ?_)
        first | (refine d_pure (i := 16) #[true, true, true, true, true, true, true, true, true, true, true, true, true, true, true, true, true, false, false, false, false, false] rfl (by kernel_rfl) (fun _ _ _ h => h) rfl (fun w_ => evP_run (o := ⟨_, _, _, _, _, _⟩) txs rfl) ?_)
        first | (refine d_pure (i := 17) #[true, true, true, true, true, true, true, true, true, true, true, true, true, true, true, true, true, true, false, false, false, false] rfl (by kernel_rfl) (fun _ _ _ h => h) rfl (fun w_ => evP_run (o := ⟨_, _, _, _, _, _⟩) txs rfl) ?_)
        first | (refine d_pure (i := 18) #[true, true, true, true, true, true, true, true, true, true, true, true, true, true, true, true, true, true, true, false, false, false] rfl (by kernel_rfl) (fun _ _ _ h => h) rfl (fun w_ => evP_run (o := ⟨_, _, _, _, _, _⟩) txs rfl) ?_)
        first | (refine d_pure (i := 19) #[true, true, true, true, true, true, true, true, true, true, true, true, true, true, true, true, true, true, true, true, false, false] rfl (by kernel_rfl) (fun _ _ _ h => h) rfl (fun w_ => evP_run (o := ⟨_, _, _, _, _, _⟩) txs rfl) ?_)
        first | (refine d_pure (i := 20) #[true, true, true, true, true, true, true, true, true, true, true, true, true, true, true, true, true, true, true, true, true, false] rfl (by kernel_rfl) (fun _ _ _ h => h) rfl (fun w_ => evP_run (o := ⟨_, _, _, _, _, _⟩) txs rfl) ?_)
        first | (refine d_pure (i := 21) #[true, true, true, true, true, true, true, true, true, true, true, true, true, true, true, true, true, true, true, true, true, true] rfl (by kernel_rfl) (fun _ _ _ h => h) rfl (fun w_ => evP_run (o := ⟨_, _, _, _, _, _⟩) txs rfl) ?_)
        refine d_done rfl ?_
        repeat' (first | (with_reducible refine p_tn ?_) | (with_reducible refine wp_ret ?_))
        refine end4 rfl rfl rfl rfl rfl ?_
        refine ⟨?_, H.B⟩
        rw [statV_some hs, a9, a10, a11]
end Go.Proofs.YthgojbdpmcccaaaGreatDoor.K
end
section
namespace Go.Proofs.YthgojbdpmcccaaaGreatDoor.K
open Go.RowKit Go.Proofs.YthgojbdpmcccaaaGreatDoor.Q Go.Proofs.YthgojbdpmcccaaaGreatDoor.Wb Go.Proofs.YthgojbdpmcccaaaGreatDoorW.PrintWords
set_option linter.unusedVariables false
set_option linter.unusedSimpArgs false
theorem ps_head {b : L} {k : Nat} (h : cutS 141 b = .error k) : parseResS b = .error k := by unfold parseResS; rw [h]
theorem ps_stat {b first rest : L} {ls : List L} {k : Nat} (h : cutS 141 b = .ok (first, ls, rest)) (h2 : statS first = .error k) : parseResS b = .error k := by unfold parseResS; rw [h]; simp only [h2]
theorem ps_fields {b first rest : L} {ls : List L} {st v : Int} {k : Nat} (h : cutS 141 b = .ok (first, ls, rest)) (h2 : statS first = .ok (st, v)) (h3 : fieldsE ls = .error k) : parseResS b = .error k := by unfold parseResS; rw [h]; simp only [h2, h3]
theorem ps_bare {b first rest : L} {ls : List L} {st v : Int} {l : List Fld} (h : cutS 141 b = .ok (first, ls, rest)) (h2 : statS first = .ok (st, v)) (h3 : fieldsE ls = .ok l) (h4 : bareS st = true) : parseResS b = .ok (⟨st, v, l, [], closesS l v⟩, b.length - rest.length) := by unfold parseResS; rw [h]; simp only [h2, h3, h4, if_true]
theorem ps_frame {b first rest : L} {ls : List L} {st v : Int} {l : List Fld} {k : Nat} (h : cutS 141 b = .ok (first, ls, rest)) (h2 : statS first = .ok (st, v)) (h3 : fieldsE ls = .ok l) (h4 : bareS st = false) (h5 : frameS l v = .error k) : parseResS b = .error k := by unfold parseResS; rw [h]; simp only [h2, h3, h4, h5, Bool.false_eq_true, if_false]
theorem ps_long {b first rest : L} {ls : List L} {st v : Int} {l : List Fld} (h : cutS 141 b = .ok (first, ls, rest)) (h2 : statS first = .ok (st, v)) (h3 : fieldsE ls = .ok l) (h4 : bareS st = false) (h5 : frameS l v = .ok .none) (h6 : 1048576 < rest.length) : parseResS b = .error 145 := by unfold parseResS; rw [h]; simp only [h2, h3, h4, h5, Bool.false_eq_true, if_false, if_pos h6]
theorem ps_none {b first rest : L} {ls : List L} {st v : Int} {l : List Fld} (h : cutS 141 b = .ok (first, ls, rest)) (h2 : statS first = .ok (st, v)) (h3 : fieldsE ls = .ok l) (h4 : bareS st = false) (h5 : frameS l v = .ok .none) (h6 : ¬ 1048576 < rest.length) : parseResS b = .ok (⟨st, v, l, rest, true⟩, b.length - rest.length + rest.length) := by unfold parseResS; rw [h]; simp only [h2, h3, h4, h5, Bool.false_eq_true, if_false, if_neg h6]
theorem ps_body {b first rest : L} {ls : List L} {st v : Int} {l : List Fld} {k : Nat} {fr : Wb.Frame} (h : cutS 141 b = .ok (first, ls, rest)) (h2 : statS first = .ok (st, v)) (h3 : fieldsE ls = .ok l) (h4 : bareS st = false) (h5 : frameS l v = .ok fr) (hf : fr ≠ .none) (h6 : bodyS rest fr = .error k) : parseResS b = .error k := by
  unfold parseResS; rw [h]; simp only [h2, h3, h4, h5, Bool.false_eq_true, if_false]
  cases fr with
  | none => exact absurd rfl hf
  | chunks => simp only [h6]
  | len n => simp only [h6]
theorem ps_ok {b first rest bd : L} {ls : List L} {st v : Int} {l : List Fld} {k : Nat} {fr : Wb.Frame} (h : cutS 141 b = .ok (first, ls, rest)) (h2 : statS first = .ok (st, v)) (h3 : fieldsE ls = .ok l) (h4 : bareS st = false) (h5 : frameS l v = .ok fr) (hf : fr ≠ .none) (h6 : bodyS rest fr = .ok (bd, k)) : parseResS b = .ok (⟨st, v, l, bd, closesS l v⟩, b.length - rest.length + k) := by
  unfold parseResS; rw [h]; simp only [h2, h3, h4, h5, Bool.false_eq_true, if_false]
  cases fr with
  | none => exact absurd rfl hf
  | chunks => simp only [h6]
  | len n => simp only [h6]
theorem frame_some {l : List Fld} {v : Int} {fr : Wb.Frame} (h : (frmS l).framed = true) (h2 : frameS l v = .ok fr) : fr ≠ .none := by
  intro e
  subst e
  have := frame_none h2
  rcases framed_of h with h3 | h3
  · exact h3 this.1
  · exact h3 this.2
abbrev zRes : Array Value := #[.int .i64 0, .int .i64 0, .slice none 0 0, .slice none 0 0, .bool false]
abbrev resA (r : ResS) (Bf : Option Addr) (cf : Nat) (Bb : Option Addr) (cb : Nat) : Array Value := #[.int .i64 r.status, .int .i64 r.minor, .slice Bf r.fields.length cf, .slice Bb r.body.length cb, .bool r.close]
/-- What parseResponse ends in. -/
def PsR (A : Nat → Addr) (w : World) (b : L) (e : Ending) (w' : World) : Prop := match parseResS b with
  | .error k => ∃ v, ErrOf A v k ∧ e = .returned (.tuple #[.agg zRes, .int .i64 0, v]) ∧ Hp w w' [] []
  | .ok (r, n) => ∃ Bf cf Bb cb, e = .returned (.tuple #[.agg (resA r Bf cf Bb cb), .int .i64 (n : Int), .nilIface]) ∧ Hp w w' [] [rowF (.slice Bf r.fields.length cf) r.fields, rowB (.slice Bb r.body.length cb) r.body]
theorem psR_err {A : Nat → Addr} {w : World} {b : L} {w' : World} {k : Nat} {v : Value} (h : parseResS b = .error k) (hv : ErrOf A v k) (H : Hp w w' [] []) : PsR A w b (.returned (.tuple #[.agg zRes, .int .i64 0, v])) w' := by
  unfold PsR; rw [h]; exact ⟨v, hv, rfl, H⟩
set_option maxRecDepth 100000 in
set_option maxHeartbeats 8000000 in
theorem parseResponse_c {A : Nat → Addr} {w : World} (hE : LayS A w) (h13 : Sent w (gE 13) (A 13)) {mx : Int} (hM : w.cell? ⟨20, 0, none⟩ = some (.int .i64 mx))
    {B : Option Addr} {c : Nat} {b : L} (h : ReadsInt w .u8 B b.length b) (hc : b.length ≤ c) (hn : B = none → c = 0 ∧ b.length = 0) (hb : Bytes b) (hs : b.length ≤ 100000000) :
    Calls Tryz.prog 69 #[.slice B b.length c] w (PsR A w b) := by
  have c6 := (hE.sent 6 (by decide) (by decide)).cell
  have c7 := (hE.sent 7 (by decide) (by decide)).cell
  have c10 := (hE.sent 10 (by decide) (by decide)).cell
  have c13 := h13.cell
  have e6 : ErrOf A (errV (A 6)) 141 := ⟨6, by decide, by decide, rfl, .inl rfl⟩
  have e7 : ErrOf A (errV (A 7)) 142 := ⟨7, by decide, by decide, rfl, .inl rfl⟩
  have e10 : ErrOf A (errV (A 10)) 145 := ⟨10, by decide, by decide, rfl, .inl rfl⟩
  have e13 : ErrOf A (errV (A 13)) 149 := ⟨13, by decide, by decide, rfl, .inl rfl⟩
  refine enter (args := [.slice B b.length c]) Tryz.func69 rfl Tryz.ntmps69 rfl ?_
  have H := Hp.nil w
  repeat' (first | (first | (with_reducible refine p_tn ?_) | (with_reducible refine wp_seq ?_) | (with_reducible refine w_reg ?_)) | (first | (with_reducible refine l_nil ?_) | ((with_reducible refine g_on ?_); (first | ((with_reducible refine g_mv ?_); refine l_p txs rfl rfl ?_) | ((with_reducible refine g_as ?_); refine l_p txs rfl rfl ?_) | ((with_reducible refine g_al ?_); refine h_alloc recs H rfl rfl (fun g_ w_ H => ?_))))))
  (with_reducible refine is_l ?_); refine l_ld txs rfl rfl (H.old c6) ?_
  have hcall := head_c (hE.below H.B) (g := 6) (by decide) (by decide) (tl := 141) rfl (h.below H.B) hc hn hb hs
  (with_reducible refine is_l ?_); refine l_call rfl rfl (by kernel_rfl) hcall (fun e w_ hR => ?_)
  unfold HdR at hR
  cases hcut : cutS 141 b with
  | error k =>
    rw [hcut] at hR
    obtain ⟨s0, a1, l1, k1, a2, l2, k2, v, hv, rfl, K⟩ := hR
    refine ⟨_, rfl, ?_⟩
    have H := H.join K
    have hres := ps_head hcut
    have hvp := hv.placed tHead
    obtain ⟨g, _, _, _, rfl⟩ := hv
    repeat' (first | (first | (with_reducible refine p_tn ?_) | (with_reducible refine wp_seq ?_) | (with_reducible refine w_reg ?_)) | (first | (with_reducible refine l_nil ?_) | ((with_reducible refine g_on ?_); (first | ((with_reducible refine g_mv ?_); refine l_p txs rfl rfl ?_) | ((with_reducible refine g_as ?_); refine l_p txs rfl rfl ?_) | ((with_reducible refine g_ex ?_); refine l_p txs rfl rfl ?_) | ((with_reducible refine g_st ?_); (refine h_stR recs H 0 rfl rfl rfl rfl rfl rfl rfl rfl rfl (fun w_ H => ?_))) | ((with_reducible refine g_al ?_); refine h_alloc recs H rfl rfl (fun g_ w_ H => ?_))))))
    (with_reducible refine is_l ?_); refine l_t txs rfl rfl (fun _ => ?_) (fun hh => absurd trivial hh)
    repeat' (first | (first | (with_reducible refine p_tn ?_) | (with_reducible refine wp_seq ?_) | (with_reducible (refine is_if ?_; (refine w_ift rfl ?_)))) | (with_reducible refine l_nil ?_))
    have HS := H.pick [1] [] (by decide) (by decide) rfl rfl
    refine d_start (fun w_ => Hp w w_ _ _) #[false, false, false, false, false, false] (by kernel_rfl) rfl rfl HS.drew ?_
    have H := H.drew
    have HS := HS.drew
    first | (refine d_take (i := 0) #[true, false, false, false, false, false] rfl (by kernel_rfl) (fun _ _ _ h => h) rfl (fun w_ K => evLR_run (o := ⟨_, _, _, _, _, _⟩) recs rfl rfl (K.range 0 rfl) rfl) HS ?_)
    first | (refine d_pure (i := 1) #[true, true, false, false, false, false] rfl (by kernel_rfl) (fun _ _ _ h => h) rfl (fun w_ => evP_run (o := ⟨_, _, _, _, _, _⟩) txs rfl) ?_)
    refine d_one (i := 2) #[true, true, true, false, false, false] rfl (by kernel_rfl) rfl ?_
    refine l_callp rfl rfl (by kernel_rfl) (in_c tHead _ _ _) ?_
    refine l_nil ?_
    have HS := H.pick [1] [] (by decide) (by decide) rfl rfl
    refine ⟨rfl, HS, ?_⟩
    refine d_one (i := 3) #[true, true, true, true, false, false] rfl (by kernel_rfl) rfl ?_
    refine g_on ?_; ((with_reducible refine g_st ?_); (refine h_stR recs H 2 rfl rfl rfl rfl rfl rfl rfl rfl rfl (fun w_ H => ?_)))
    refine l_nil ?_
    have HS := H.pick [1] [] (by decide) (by decide) rfl rfl
    refine ⟨rfl, HS, ?_⟩
    first | (refine d_pure (i := 4) #[true, true, true, true, true, false] rfl (by kernel_rfl) (fun _ _ _ h => h) rfl (fun w_ => evP_run (o := ⟨_, _, _, _, _, _⟩) txs rfl) ?_)
    first | (refine d_pure (i := 5) #[true, true, true, true, true, true] rfl (by kernel_rfl) (fun _ _ _ h => h) rfl (fun w_ => evP_run (o := ⟨_, _, _, _, _, _⟩) txs rfl) ?_)
    refine d_done rfl ?_
    repeat' (first | (with_reducible refine p_tn ?_) | (with_reducible refine p_tr ?_) | (with_reducible refine wp_ret ?_))
    refine end_ctt recs H 2 rfl rfl rfl rfl rfl rfl rfl ?_
    exact psR_err hres hvp (H.pick [] [] (by decide) (by decide) rfl rfl)
  | ok z =>
    obtain ⟨first, ls, rest⟩ := z
    rw [hcut] at hR
    obtain ⟨Bf, cf, Br, cr, rfl, K, r1, r2, r3⟩ := hR
    refine ⟨_, rfl, ?_⟩
    obtain ⟨hb1, hl1, hb2, hb3, hl3⟩ := cut_bytes hb hs hcut
    have z1 := sizeS' hb1
    have H := H.join K
    repeat' (first | (first | (with_reducible refine p_tn ?_) | (with_reducible refine wp_seq ?_) | (with_reducible refine w_reg ?_)) | (first | (with_reducible refine l_nil ?_) | ((with_reducible refine g_on ?_); (first | ((with_reducible refine g_mv ?_); refine l_p txs rfl rfl ?_) | ((with_reducible refine g_as ?_); refine l_p txs rfl rfl ?_) | ((with_reducible refine g_ex ?_); refine l_p txs rfl rfl ?_) | ((with_reducible refine g_st ?_); (refine h_stR recs H 0 rfl rfl rfl rfl rfl rfl rfl rfl rfl (fun w_ H => ?_))) | ((with_reducible refine g_al ?_); refine h_alloc recs H rfl rfl (fun g_ w_ H => ?_))))))
    (with_reducible refine is_l ?_); refine l_t txs rfl rfl (fun hh => absurd hh (by simp)) (fun _ => ?_)
    repeat' (first | (first | (with_reducible refine p_tn ?_) | (with_reducible refine wp_seq ?_) | (with_reducible refine w_reg ?_) | (with_reducible (refine is_if ?_; (refine w_iff rfl ?_))) | (with_reducible refine wp_skip ?_)) | (first | (with_reducible refine l_nil ?_) | ((with_reducible refine g_on ?_); (first | ((with_reducible refine g_fa ?_); refine h_fa flds rfl rfl ?_) | ((with_reducible refine g_ld ?_); (refine h_ld txs H 0 rfl rfl rfl rfl ?_))))))
    have hst := status_c (hE.below H.B) (strOfNums first) (by omega)
    rw [blS hb1] at hst
    have hsr := stat_raw first
    cases hraw : statRaw first with
    | none =>
      rw [statV_none hraw] at hst
      rw [hraw] at hsr
      have hres := ps_stat hcut hsr
      (with_reducible refine is_l ?_); refine l_callv rfl rfl (by kernel_rfl) hst (fun w_ K => ?_)
      have H := H.call K
      repeat' (first | (first | (with_reducible refine p_tn ?_) | (with_reducible refine wp_seq ?_) | (with_reducible refine wp_block ?_) | (with_reducible refine w_reg ?_)) | (first | (with_reducible refine l_nil ?_) | ((with_reducible refine g_on ?_); (first | ((with_reducible refine g_mv ?_); refine l_p txs rfl rfl ?_) | ((with_reducible refine g_as ?_); refine l_p txs rfl rfl ?_) | ((with_reducible refine g_ex ?_); refine l_p txs rfl rfl ?_)))))
      (with_reducible refine is_l ?_); refine l_t txs rfl rfl (fun _ => ?_) (fun hh => absurd trivial hh)
      repeat' (first | (first | (with_reducible refine p_tn ?_) | (with_reducible refine p_tr ?_) | (with_reducible refine p_br ?_) | (with_reducible refine wp_seq ?_) | (with_reducible refine w_reg ?_) | (with_reducible (refine is_if ?_; (refine w_ift rfl ?_))) | (with_reducible refine wp_ret ?_)) | (first | (with_reducible refine l_nil ?_) | ((with_reducible refine g_on ?_); (first | ((with_reducible refine g_mv ?_); refine l_p txs rfl rfl ?_) | ((with_reducible refine g_as ?_); refine l_p txs rfl rfl ?_) | ((with_reducible refine g_ld ?_); (refine h_ldR recs H 1 rfl rfl rfl rfl rfl ?_)) | ((with_reducible refine g_st ?_); (refine h_stR recs H 2 rfl rfl rfl rfl rfl rfl rfl rfl rfl (fun w_ H => ?_)))))))
      refine end_ctt recs H 2 rfl rfl rfl rfl rfl rfl rfl ?_
      exact psR_err hres e6 (H.pick [] [] (by decide) (by decide) rfl rfl)
    | some q =>
      obtain ⟨st, minor, kn⟩ := q
      rw [statV_some hraw] at hst
      rw [hraw] at hsr
      simp only at hsr
      (with_reducible refine is_l ?_); refine l_callv rfl rfl (by kernel_rfl) hst (fun w_ K => ?_)
      have H := H.call K
      repeat' (first | (first | (with_reducible refine p_tn ?_) | (with_reducible refine wp_seq ?_) | (with_reducible refine wp_block ?_) | (with_reducible refine w_reg ?_)) | (first | (with_reducible refine l_nil ?_) | ((with_reducible refine g_on ?_); (first | ((with_reducible refine g_mv ?_); refine l_p txs rfl rfl ?_) | ((with_reducible refine g_as ?_); refine l_p txs rfl rfl ?_) | ((with_reducible refine g_ex ?_); refine l_p txs rfl rfl ?_)))))
      (with_reducible refine is_l ?_); refine l_t txs rfl rfl (fun hh => absurd hh (by simp)) (fun _ => ?_)
      cases kn
      · rw [if_neg (by simp)] at hsr
        have hres := ps_stat hcut hsr
        repeat' (first | (first | (with_reducible refine p_tn ?_) | (with_reducible refine wp_seq ?_) | (with_reducible refine w_reg ?_) | (with_reducible (refine is_if ?_; (first | (refine w_ift rfl ?_) | (refine w_iff rfl ?_))))) | (first | (with_reducible refine l_nil ?_) | ((with_reducible refine g_on ?_); (first | ((with_reducible refine g_mv ?_); refine l_p txs rfl rfl ?_) | ((with_reducible refine g_as ?_); refine l_p txs rfl rfl ?_) | ((with_reducible refine g_un ?_); (refine l_p txs rfl rfl ?_))))))
        have HS := H.pick [1] [] (by decide) (by decide) rfl rfl
        refine d_start (fun w_ => Hp w w_ _ _) #[false, false, false, false, false] (by kernel_rfl) rfl rfl HS.drew ?_
        have H := H.drew
        have HS := HS.drew
        first | (refine d_take (i := 0) #[true, false, false, false, false] rfl (by kernel_rfl) (fun _ _ _ h => h) rfl (fun w_ K => evLR_run (o := ⟨_, _, _, _, _, _⟩) recs rfl rfl (K.range 0 rfl) rfl) HS ?_)
        first | (refine d_take (i := 1) #[true, true, false, false, false] rfl (by kernel_rfl) (fun _ _ _ h => h) rfl (fun w_ K => evL_run (o := ⟨_, _, _, _, _, _⟩) txs rfl (K.old c7)) HS ?_)
        refine d_one (i := 2) #[true, true, true, false, false] rfl (by kernel_rfl) rfl ?_
        refine g_on ?_; ((with_reducible refine g_st ?_); (refine h_stR recs H 2 rfl rfl rfl rfl rfl rfl rfl rfl rfl (fun w_ H => ?_)))
        refine l_nil ?_
        have HS := H.pick [1] [] (by decide) (by decide) rfl rfl
        refine ⟨rfl, HS, ?_⟩
        first | (refine d_pure (i := 3) #[true, true, true, true, false] rfl (by kernel_rfl) (fun _ _ _ h => h) rfl (fun w_ => evP_run (o := ⟨_, _, _, _, _, _⟩) txs rfl) ?_)
        first | (refine d_pure (i := 4) #[true, true, true, true, true] rfl (by kernel_rfl) (fun _ _ _ h => h) rfl (fun w_ => evP_run (o := ⟨_, _, _, _, _, _⟩) txs rfl) ?_)
        refine d_done rfl ?_
        repeat' (first | (with_reducible refine p_tn ?_) | (with_reducible refine p_tr ?_) | (with_reducible refine p_br ?_) | (with_reducible refine wp_ret ?_))
        refine end_ctt recs H 2 rfl rfl rfl rfl rfl rfl rfl ?_
        exact psR_err hres e7 (H.pick [] [] (by decide) (by decide) rfl rfl)
      rw [if_pos rfl] at hsr
      repeat' (first | (first | (with_reducible refine p_tn ?_) | (with_reducible refine wp_seq ?_) | (with_reducible refine w_reg ?_) | (with_reducible (refine is_if ?_; (refine w_iff rfl ?_)))) | (first | (with_reducible refine l_nil ?_) | ((with_reducible refine g_on ?_); (first | ((with_reducible refine g_mv ?_); refine l_p txs rfl rfl ?_) | ((with_reducible refine g_as ?_); refine l_p txs rfl rfl ?_) | ((with_reducible refine g_un ?_); (refine l_p txs rfl rfl ?_))))))
      (with_reducible refine is_l ?_); refine l_t txs rfl rfl (fun h1 => ?_) (fun h1 => ?_)
      · rw [if_neg (by omega)] at hsr
        have hres := ps_stat hcut hsr
        repeat' (first | (first | (with_reducible refine p_tn ?_) | (with_reducible refine wp_seq ?_) | (with_reducible (refine is_if ?_; (refine w_ift rfl ?_)))) | (first | (with_reducible refine l_nil ?_) | ((with_reducible refine g_on ?_); (first | ((with_reducible refine g_mv ?_); refine l_p txs rfl rfl ?_) | ((with_reducible refine g_as ?_); refine l_p txs rfl rfl ?_) | ((with_reducible refine g_pk ?_); refine l_p txs rfl rfl ?_))) | ((with_reducible refine g_if ?_); (refine l_off rfl ?_))))
        have HS := H.pick [1] [] (by decide) (by decide) rfl rfl
        refine d_start (fun w_ => Hp w w_ _ _) #[false, false, false, false, false] (by kernel_rfl) rfl rfl HS.drew ?_
        have H := H.drew
        have HS := HS.drew
        first | (refine d_take (i := 0) #[true, false, false, false, false] rfl (by kernel_rfl) (fun _ _ _ h => h) rfl (fun w_ K => evLR_run (o := ⟨_, _, _, _, _, _⟩) recs rfl rfl (K.range 0 rfl) rfl) HS ?_)
        first | (refine d_take (i := 1) #[true, true, false, false, false] rfl (by kernel_rfl) (fun _ _ _ h => h) rfl (fun w_ K => evL_run (o := ⟨_, _, _, _, _, _⟩) txs rfl (K.old c13)) HS ?_)
        refine d_one (i := 2) #[true, true, true, false, false] rfl (by kernel_rfl) rfl ?_
        refine g_on ?_; ((with_reducible refine g_st ?_); (refine h_stR recs H 2 rfl rfl rfl rfl rfl rfl rfl rfl rfl (fun w_ H => ?_)))
        refine l_nil ?_
        have HS := H.pick [1] [] (by decide) (by decide) rfl rfl
        refine ⟨rfl, HS, ?_⟩
        first | (refine d_pure (i := 3) #[true, true, true, true, false] rfl (by kernel_rfl) (fun _ _ _ h => h) rfl (fun w_ => evP_run (o := ⟨_, _, _, _, _, _⟩) txs rfl) ?_)
        first | (refine d_pure (i := 4) #[true, true, true, true, true] rfl (by kernel_rfl) (fun _ _ _ h => h) rfl (fun w_ => evP_run (o := ⟨_, _, _, _, _, _⟩) txs rfl) ?_)
        refine d_done rfl ?_
        repeat' (first | (with_reducible refine p_tn ?_) | (with_reducible refine p_tr ?_) | (with_reducible refine p_br ?_) | (with_reducible refine wp_ret ?_))
        refine end_ctt recs H 2 rfl rfl rfl rfl rfl rfl rfl ?_
        exact psR_err hres e13 (H.pick [] [] (by decide) (by decide) rfl rfl)
      repeat' (first | ((with_reducible refine g_on ?_); ((with_reducible refine g_mv ?_); refine l_p txs rfl rfl ?_)) | ((with_reducible refine g_if ?_); ((with_reducible refine g_mv ?_); refine l_p txs rfl rfl ?_)))
      (with_reducible refine is_l ?_); refine l_t txs rfl rfl (fun h2 => ?_) (fun h2 => ?_)
      · rw [if_neg (by omega)] at hsr
        have hres := ps_stat hcut hsr
        repeat' (first | (first | (with_reducible refine p_tn ?_) | (with_reducible refine wp_seq ?_) | (with_reducible (refine is_if ?_; (refine w_ift rfl ?_)))) | (first | (with_reducible refine l_nil ?_) | ((with_reducible refine g_on ?_); (first | ((with_reducible refine g_as ?_); refine l_p txs rfl rfl ?_) | ((with_reducible refine g_pk ?_); refine l_p txs rfl rfl ?_)))))
        have HS := H.pick [1] [] (by decide) (by decide) rfl rfl
        refine d_start (fun w_ => Hp w w_ _ _) #[false, false, false, false, false] (by kernel_rfl) rfl rfl HS.drew ?_
        have H := H.drew
        have HS := HS.drew
        first | (refine d_take (i := 0) #[true, false, false, false, false] rfl (by kernel_rfl) (fun _ _ _ h => h) rfl (fun w_ K => evLR_run (o := ⟨_, _, _, _, _, _⟩) recs rfl rfl (K.range 0 rfl) rfl) HS ?_)
        first | (refine d_take (i := 1) #[true, true, false, false, false] rfl (by kernel_rfl) (fun _ _ _ h => h) rfl (fun w_ K => evL_run (o := ⟨_, _, _, _, _, _⟩) txs rfl (K.old c13)) HS ?_)
        refine d_one (i := 2) #[true, true, true, false, false] rfl (by kernel_rfl) rfl ?_
        refine g_on ?_; ((with_reducible refine g_st ?_); (refine h_stR recs H 2 rfl rfl rfl rfl rfl rfl rfl rfl rfl (fun w_ H => ?_)))
        refine l_nil ?_
        have HS := H.pick [1] [] (by decide) (by decide) rfl rfl
        refine ⟨rfl, HS, ?_⟩
        first | (refine d_pure (i := 3) #[true, true, true, true, false] rfl (by kernel_rfl) (fun _ _ _ h => h) rfl (fun w_ => evP_run (o := ⟨_, _, _, _, _, _⟩) txs rfl) ?_)
        first | (refine d_pure (i := 4) #[true, true, true, true, true] rfl (by kernel_rfl) (fun _ _ _ h => h) rfl (fun w_ => evP_run (o := ⟨_, _, _, _, _, _⟩) txs rfl) ?_)
        refine d_done rfl ?_
        repeat' (first | (with_reducible refine p_tn ?_) | (with_reducible refine p_tr ?_) | (with_reducible refine p_br ?_) | (with_reducible refine wp_ret ?_))
        refine end_ctt recs H 2 rfl rfl rfl rfl rfl rfl rfl ?_
        exact psR_err hres e13 (H.pick [] [] (by decide) (by decide) rfl rfl)
      rw [if_pos (by omega)] at hsr
      repeat' (first | (first | (with_reducible refine p_tn ?_) | (with_reducible refine p_bn ?_) | (with_reducible refine wp_seq ?_) | (with_reducible refine w_reg ?_) | (with_reducible (refine is_if ?_; (refine w_iff rfl ?_))) | (with_reducible refine wp_skip ?_)) | (first | (with_reducible refine l_nil ?_) | ((with_reducible refine g_on ?_); (first | ((with_reducible refine g_as ?_); refine l_p txs rfl rfl ?_) | ((with_reducible refine g_pk ?_); refine l_p txs rfl rfl ?_) | ((with_reducible refine g_fa ?_); refine h_fa flds rfl rfl ?_) | ((with_reducible refine g_ld ?_); (refine h_ld txs H 0 rfl rfl rfl rfl ?_))))))
      obtain ⟨A0, c0, he0, _, hrd, _⟩ := H.rd 0 rfl
      cases he0
      have hfo := fieldsOf_c (c := cf) (hE.below H.B) (H.old hM) hrd hb2
      (with_reducible refine is_l ?_); refine l_call rfl rfl (by kernel_rfl) hfo (fun e w_ hR => ?_)
      unfold FsR at hR
      cases hfe : fieldsE ls with
      | error k =>
        rw [hfe] at hR
        obtain ⟨rfl, K⟩ := hR
        refine ⟨_, rfl, ?_⟩
        have hres := ps_fields hcut hsr hfe
        have H := H.join K
        have hke : k = 2 ∨ k = 143 := by
          unfold fieldsE at hfe
          split at hfe
          · simp only [Except.error.injEq] at hfe; omega
          · split at hfe
            · simp only [Except.error.injEq] at hfe; omega
            · cases hfe
        have hvp : ErrOf A (placV tFields (errV (A (if k = 2 then 4 else 8)))) k := by
          rcases hke with rfl | rfl
          · exact ⟨4, by decide, by decide, rfl, .inr ⟨by decide, _, rfl⟩⟩
          · exact ⟨8, by decide, by decide, rfl, .inr ⟨by decide, _, rfl⟩⟩
        repeat' (first | (first | (with_reducible refine p_tn ?_) | (with_reducible refine wp_seq ?_) | (with_reducible refine w_reg ?_)) | (first | (with_reducible refine l_nil ?_) | ((with_reducible refine g_on ?_); (first | ((with_reducible refine g_mv ?_); refine l_p txs rfl rfl ?_) | ((with_reducible refine g_as ?_); refine l_p txs rfl rfl ?_) | ((with_reducible refine g_ex ?_); refine l_p txs rfl rfl ?_)))))
        (with_reducible refine is_l ?_); refine l_t txs rfl rfl (fun _ => ?_) (fun hh => absurd trivial hh)
        repeat' (first | (first | (with_reducible refine p_tn ?_) | (with_reducible refine wp_seq ?_) | (with_reducible (refine is_if ?_; (refine w_ift rfl ?_)))) | (with_reducible refine l_nil ?_))
        have HS := H.pick [1] [] (by decide) (by decide) rfl rfl
        refine d_start (fun w_ => Hp w w_ _ _) #[false, false, false, false, false, false] (by kernel_rfl) rfl rfl HS.drew ?_
        have H := H.drew
        have HS := HS.drew
        first | (refine d_take (i := 0) #[true, false, false, false, false, false] rfl (by kernel_rfl) (fun _ _ _ h => h) rfl (fun w_ K => evLR_run (o := ⟨_, _, _, _, _, _⟩) recs rfl rfl (K.range 0 rfl) rfl) HS ?_)
        first | (refine d_pure (i := 1) #[true, true, false, false, false, false] rfl (by kernel_rfl) (fun _ _ _ h => h) rfl (fun w_ => evP_run (o := ⟨_, _, _, _, _, _⟩) txs rfl) ?_)
        refine d_one (i := 2) #[true, true, true, false, false, false] rfl (by kernel_rfl) rfl ?_
        refine l_callp rfl rfl (by kernel_rfl) (in_c tFields _ _ _) ?_
        refine l_nil ?_
        have HS := H.pick [1] [] (by decide) (by decide) rfl rfl
        refine ⟨rfl, HS, ?_⟩
        refine d_one (i := 3) #[true, true, true, true, false, false] rfl (by kernel_rfl) rfl ?_
        refine g_on ?_; ((with_reducible refine g_st ?_); (refine h_stR recs H 2 rfl rfl rfl rfl rfl rfl rfl rfl rfl (fun w_ H => ?_)))
        refine l_nil ?_
        have HS := H.pick [1] [] (by decide) (by decide) rfl rfl
        refine ⟨rfl, HS, ?_⟩
        first | (refine d_pure (i := 4) #[true, true, true, true, true, false] rfl (by kernel_rfl) (fun _ _ _ h => h) rfl (fun w_ => evP_run (o := ⟨_, _, _, _, _, _⟩) txs rfl) ?_)
        first | (refine d_pure (i := 5) #[true, true, true, true, true, true] rfl (by kernel_rfl) (fun _ _ _ h => h) rfl (fun w_ => evP_run (o := ⟨_, _, _, _, _, _⟩) txs rfl) ?_)
        refine d_done rfl ?_
        repeat' (first | (with_reducible refine p_tn ?_) | (with_reducible refine p_tr ?_) | (with_reducible refine wp_ret ?_))
        refine end_ctt recs H 2 rfl rfl rfl rfl rfl rfl rfl ?_
        exact psR_err hres hvp (H.pick [] [] (by decide) (by decide) rfl rfl)
      | ok l =>
        rw [hfe] at hR
        obtain ⟨Bl, cl, rfl, K⟩ := hR
        refine ⟨_, rfl, ?_⟩
        obtain ⟨bl1, bl2⟩ := fieldsE_bytes hb2 hfe
        have H := (H.join K).pick [0, 1, 2] [0] (by decide) (by decide) rfl rfl
        repeat' (first | (first | (with_reducible refine p_tn ?_) | (with_reducible refine wp_seq ?_) | (with_reducible refine w_reg ?_)) | (first | (with_reducible refine l_nil ?_) | ((with_reducible refine g_on ?_); (first | ((with_reducible refine g_mv ?_); refine l_p txs rfl rfl ?_) | ((with_reducible refine g_as ?_); refine l_p txs rfl rfl ?_) | ((with_reducible refine g_ex ?_); refine l_p txs rfl rfl ?_)))))
        (with_reducible refine is_l ?_); refine l_t txs rfl rfl (fun hh => absurd hh (by simp)) (fun _ => ?_)
        repeat' (first | (first | (with_reducible refine p_tn ?_) | (with_reducible refine wp_seq ?_) | (with_reducible refine w_reg ?_) | (with_reducible (refine is_if ?_; (refine w_iff rfl ?_))) | (with_reducible refine wp_skip ?_)) | (first | (with_reducible refine l_nil ?_) | ((with_reducible refine g_on ?_); ((with_reducible refine g_mv ?_); refine l_p txs rfl rfl ?_))))
        obtain ⟨A0, c0, he0, _, hrd, _⟩ := H.rd 0 rfl
        cases he0
        have hfr := framingOf_c (c := cl) (H.old hM) hrd bl1 (by omega)
        (with_reducible refine is_l ?_); refine l_callv rfl rfl (by kernel_rfl) hfr (fun w_ K => ?_)
        have H := H.call K
        repeat' (first | (first | (with_reducible refine p_tn ?_) | (with_reducible refine wp_seq ?_) | (with_reducible refine w_reg ?_)) | (first | (with_reducible refine l_nil ?_) | ((with_reducible refine g_on ?_); (first | ((with_reducible refine g_mv ?_); refine l_p txs rfl rfl ?_) | ((with_reducible refine g_ld ?_); (refine h_ldR recs H 0 rfl rfl rfl rfl rfl ?_)) | ((with_reducible refine g_st ?_); (refine h_stR recs H 0 rfl rfl rfl rfl rfl rfl rfl rfl rfl (fun w_ H => ?_))) | ((with_reducible refine g_al ?_); refine h_alloc recs H rfl rfl (fun g_ w_ H => ?_))))))
        have hclo := fun w1 => close_c (frmS l) minor w1
        rw [closes_eq] at hclo
        (with_reducible refine is_l ?_); refine l_callv rfl rfl (by kernel_rfl) (hclo _) (fun w_ K => ?_)
        have H := H.call K
        repeat' (first | (first | (with_reducible refine p_tn ?_) | (with_reducible refine wp_seq ?_) | (with_reducible refine wp_block ?_) | (with_reducible refine w_reg ?_)) | (first | (with_reducible refine l_nil ?_) | ((with_reducible refine g_on ?_); (first | ((with_reducible refine g_mv ?_); refine l_p txs rfl rfl ?_) | ((with_reducible refine g_as ?_); refine l_p txs rfl rfl ?_)))))
        have hbare := fun w1 => bodiless_c st w1
        cases hba : bareS st
        · rw [hba] at hbare
          (with_reducible refine is_l ?_); refine l_callp rfl rfl (by kernel_rfl) (hbare _) ?_
          repeat' (first | (first | (with_reducible refine p_tn ?_) | (with_reducible refine wp_seq ?_) | (with_reducible refine w_reg ?_) | (with_reducible (refine is_if ?_; (refine w_iff rfl ?_)))) | (first | (with_reducible refine l_nil ?_) | ((with_reducible refine g_on ?_); (first | ((with_reducible refine g_as ?_); refine l_p txs rfl rfl ?_) | ((with_reducible refine g_fa ?_); refine h_fa flds rfl rfl ?_) | ((with_reducible refine g_ld ?_); (refine h_ld txs H 0 rfl rfl rfl rfl ?_))))))
          cases hfm : (frmS l).framed
          · have hfs : frameS l minor = .ok .none := frame_none_of hfm
            repeat' (first | (first | (with_reducible refine wp_seq ?_) | (with_reducible refine w_reg ?_) | (with_reducible (refine is_if ?_; (refine w_iff rfl ?_)))) | ((with_reducible refine g_on ?_); (first | ((with_reducible refine g_fa ?_); refine h_fa flds rfl rfl ?_) | ((with_reducible refine g_ld ?_); (refine h_ld txs H 1 rfl rfl rfl rfl ?_)) | ((with_reducible refine g_cl ?_); refine l_p txs rfl rfl ?_))))
            (with_reducible refine is_l ?_); refine l_t txs rfl rfl (fun h3 => ?_) (fun h3 => ?_)
            · have hres := ps_long hcut hsr hfe hba hfs (by omega)
              repeat' (first | (first | (with_reducible refine p_tn ?_) | (with_reducible refine wp_seq ?_) | (with_reducible (refine is_if ?_; (refine w_ift rfl ?_)))) | (first | (with_reducible refine l_nil ?_) | ((with_reducible refine g_on ?_); ((with_reducible refine g_as ?_); refine l_p txs rfl rfl ?_))))
              have HS := H.pick [2] [] (by decide) (by decide) rfl rfl
              refine d_start (fun w_ => Hp w w_ _ _) #[false, false, false, false, false] (by kernel_rfl) rfl rfl HS.drew ?_
              have H := H.drew
              have HS := HS.drew
              first | (refine d_take (i := 0) #[true, false, false, false, false] rfl (by kernel_rfl) (fun _ _ _ h => h) rfl (fun w_ K => evLR_run (o := ⟨_, _, _, _, _, _⟩) recs rfl rfl (K.range 0 rfl) rfl) HS ?_)
              first | (refine d_take (i := 1) #[true, true, false, false, false] rfl (by kernel_rfl) (fun _ _ _ h => h) rfl (fun w_ K => evL_run (o := ⟨_, _, _, _, _, _⟩) txs rfl (K.old c10)) HS ?_)
              refine d_one (i := 2) #[true, true, true, false, false] rfl (by kernel_rfl) rfl ?_
              refine g_on ?_; ((with_reducible refine g_st ?_); (refine h_stR recs H 3 rfl rfl rfl rfl rfl rfl rfl rfl rfl (fun w_ H => ?_)))
              refine l_nil ?_
              have HS := H.pick [2] [] (by decide) (by decide) rfl rfl
              refine ⟨rfl, HS, ?_⟩
              first | (refine d_pure (i := 3) #[true, true, true, true, false] rfl (by kernel_rfl) (fun _ _ _ h => h) rfl (fun w_ => evP_run (o := ⟨_, _, _, _, _, _⟩) txs rfl) ?_)
              first | (refine d_pure (i := 4) #[true, true, true, true, true] rfl (by kernel_rfl) (fun _ _ _ h => h) rfl (fun w_ => evP_run (o := ⟨_, _, _, _, _, _⟩) txs rfl) ?_)
              refine d_done rfl ?_
              repeat' (first | (with_reducible refine p_tn ?_) | (with_reducible refine p_tr ?_) | (with_reducible refine p_br ?_) | (with_reducible refine wp_ret ?_))
              refine end_ctt recs H 3 rfl rfl rfl rfl rfl rfl rfl ?_
              exact psR_err hres e10 (H.pick [] [] (by decide) (by decide) rfl rfl)
            · have hres := ps_none hcut hsr hfe hba hfs (by omega)
              repeat' (first | (first | (with_reducible refine p_tn ?_) | (with_reducible (refine is_if ?_; (refine w_iff rfl ?_)))) | (first | (with_reducible refine l_nil ?_) | ((with_reducible refine g_on ?_); ((with_reducible refine g_as ?_); refine l_p txs rfl rfl ?_))))
              cases Br with
              | none =>
                have hr0 : rest = [] := List.eq_nil_of_length_eq_zero (r3 rfl).2
                have HS := H.pick [1] [] (by decide) (by decide) rfl rfl
                refine d_start (fun w_ => Hp w w_ _ _) #[false, false, false, false, false, false, false, false, false, false] (by kernel_rfl) rfl rfl HS.drew ?_
                have H := H.drew
                have HS := HS.drew
                first | (refine d_pure (i := 0) #[true, false, false, false, false, false, false, false, false, false] rfl (by kernel_rfl) (fun _ _ _ h => h) rfl (fun w_ => evF_run (o := ⟨_, _, _, _, _, _⟩) flds rfl) ?_) | (refine d_pure (i := 0) #[true, false, false, false, false, false, false, false, false, false] rfl (by kernel_rfl) (fun _ _ _ h => h) rfl (fun w_ => evG_run (o := ⟨_, _, _, _, _, _⟩) flds rfl) ?_)
                first | (refine d_take (i := 1) #[true, true, false, false, false, false, false, false, false, false] rfl (by kernel_rfl) (fun _ _ _ h => h) rfl (fun w_ K => evL_run (o := ⟨_, _, _, _, _, _⟩) txs rfl (K.cellAt 0 rfl rfl)) HS ?_)
                first | (refine d_pure (i := 3) #[true, true, false, true, false, false, false, false, false, false] rfl (by kernel_rfl) (fun _ _ _ h => h) rfl (fun w_ => evF_run (o := ⟨_, _, _, _, _, _⟩) flds rfl) ?_) | (refine d_pure (i := 3) #[true, true, false, true, false, false, false, false, false, false] rfl (by kernel_rfl) (fun _ _ _ h => h) rfl (fun w_ => evG_run (o := ⟨_, _, _, _, _, _⟩) flds rfl) ?_)
                first | (refine d_take (i := 4) #[true, true, false, true, true, false, false, false, false, false] rfl (by kernel_rfl) (fun _ _ _ h => h) rfl (fun w_ K => evL_run (o := ⟨_, _, _, _, _, _⟩) txs rfl (K.cellAt 0 rfl rfl)) HS ?_)
                first | (refine d_pure (i := 5) #[true, true, false, true, true, true, false, false, false, false] rfl (by kernel_rfl) (fun _ _ _ h => h) rfl (fun w_ => evP_run (o := ⟨_, _, _, _, _, _⟩) txs rfl) ?_)
                refine d_one (i := 2) #[true, true, true, true, true, true, false, false, false, false] rfl (by kernel_rfl) rfl ?_
                refine l_callp rfl rfl (by kernel_rfl) (Tryz.bytes_Clone_nil _ _ _) ?_
                refine l_nil ?_
                have HS := H.pick [1] [] (by decide) (by decide) rfl rfl
                refine ⟨rfl, HS, ?_⟩
                first | (refine d_pure (i := 6) #[true, true, true, true, true, true, true, false, false, false] rfl (by kernel_rfl) (fun _ _ _ h => h) rfl (fun w_ => evF_run (o := ⟨_, _, _, _, _, _⟩) flds rfl) ?_) | (refine d_pure (i := 6) #[true, true, true, true, true, true, true, false, false, false] rfl (by kernel_rfl) (fun _ _ _ h => h) rfl (fun w_ => evG_run (o := ⟨_, _, _, _, _, _⟩) flds rfl) ?_)
                refine d_one (i := 7) #[true, true, true, true, true, true, true, true, false, false] rfl (by kernel_rfl) rfl ?_
                refine g_on ?_; ((with_reducible refine g_st ?_); (refine h_st txs ones H 2 rfl rfl rfl rfl rfl rfl rfl rfl rfl (fun w_ H => ?_)))
                refine l_nil ?_
                have HS := H.pick [1] [] (by decide) (by decide) rfl rfl
                refine ⟨rfl, HS, ?_⟩
                first | (refine d_pure (i := 8) #[true, true, true, true, true, true, true, true, true, false] rfl (by kernel_rfl) (fun _ _ _ h => h) rfl (fun w_ => evP_run (o := ⟨_, _, _, _, _, _⟩) txs rfl) ?_)
                first | (refine d_pure (i := 9) #[true, true, true, true, true, true, true, true, true, true] rfl (by kernel_rfl) (fun _ _ _ h => h) rfl (fun w_ => evP_run (o := ⟨_, _, _, _, _, _⟩) txs rfl) ?_)
                refine d_done rfl ?_
                repeat' (first | (first | (with_reducible refine p_tn ?_) | (with_reducible refine p_bn ?_) | (with_reducible refine wp_seq ?_) | (with_reducible refine w_reg ?_)) | (first | (with_reducible refine l_nil ?_) | ((with_reducible refine g_on ?_); (first | ((with_reducible refine g_mv ?_); refine l_p txs rfl rfl ?_) | ((with_reducible refine g_fa ?_); refine h_fa flds rfl rfl ?_) | ((with_reducible refine g_st ?_); (refine h_st txs ones H 2 rfl rfl rfl rfl rfl rfl rfl rfl rfl (fun w_ H => ?_)))))))
                have HS := H.pick [1, 2] [] (by decide) (by decide) rfl rfl
                refine d_start (fun w_ => Hp w w_ _ _) #[false, false, false, false, false, false, false, false, false, false, false, false] (by kernel_rfl) rfl rfl HS.drew ?_
                have H := H.drew
                have HS := HS.drew
                first | (refine d_take (i := 0) #[true, false, false, false, false, false, false, false, false, false, false, false] rfl (by kernel_rfl) (fun _ _ _ h => h) rfl (fun w_ K => evLR_run (o := ⟨_, _, _, _, _, _⟩) recs rfl rfl (K.range 0 rfl) rfl) HS ?_) | (refine d_take (i := 0) #[true, false, false, false, false, false, false, false, false, false, false, false] rfl (by kernel_rfl) (fun _ _ _ h => h) rfl (fun w_ K => evLR_run (o := ⟨_, _, _, _, _, _⟩) recs rfl rfl (K.range 1 rfl) rfl) HS ?_)
                first | (refine d_pure (i := 1) #[true, true, false, false, false, false, false, false, false, false, false, false] rfl (by kernel_rfl) (fun _ _ _ h => h) rfl (fun w_ => evP_run (o := ⟨_, _, _, _, _, _⟩) txs rfl) ?_)
                first | (refine d_pure (i := 2) #[true, true, true, false, false, false, false, false, false, false, false, false] rfl (by kernel_rfl) (fun _ _ _ h => h) rfl (fun w_ => evP_run (o := ⟨_, _, _, _, _, _⟩) txs rfl) ?_)
                first | (refine d_pure (i := 3) #[true, true, true, true, false, false, false, false, false, false, false, false] rfl (by kernel_rfl) (fun _ _ _ h => h) rfl (fun w_ => evF_run (o := ⟨_, _, _, _, _, _⟩) flds rfl) ?_) | (refine d_pure (i := 3) #[true, true, true, true, false, false, false, false, false, false, false, false] rfl (by kernel_rfl) (fun _ _ _ h => h) rfl (fun w_ => evG_run (o := ⟨_, _, _, _, _, _⟩) flds rfl) ?_)
                first | (refine d_take (i := 4) #[true, true, true, true, true, false, false, false, false, false, false, false] rfl (by kernel_rfl) (fun _ _ _ h => h) rfl (fun w_ K => evL_run (o := ⟨_, _, _, _, _, _⟩) txs rfl (K.cellAt 0 rfl rfl)) HS ?_) | (refine d_take (i := 4) #[true, true, true, true, true, false, false, false, false, false, false, false] rfl (by kernel_rfl) (fun _ _ _ h => h) rfl (fun w_ K => evL_run (o := ⟨_, _, _, _, _, _⟩) txs rfl (K.cellAt 1 rfl rfl)) HS ?_)
                first | (refine d_pure (i := 5) #[true, true, true, true, true, true, false, false, false, false, false, false] rfl (by kernel_rfl) (fun _ _ _ h => h) rfl (fun w_ => evP_run (o := ⟨_, _, _, _, _, _⟩) txs rfl) ?_)
                first | (refine d_pure (i := 6) #[true, true, true, true, true, true, true, false, false, false, false, false] rfl (by kernel_rfl) (fun _ _ _ h => h) rfl (fun w_ => evP_run (o := ⟨_, _, _, _, _, _⟩) txs rfl) ?_) | (refine d_pure (i := 6) #[true, true, true, true, true, true, true, false, false, false, false, false] rfl (by kernel_rfl) (fun _ _ _ h => h) rfl (fun w_ => (evA_run (o := ⟨_, _, _, _, _, _⟩) txs rfl).trans (by rw [wrap_in (by first | exact in_i64 (by omega) (by omega) | exact in_u8 (by omega) (by omega) | exact in_u64 (by omega) (by omega) | exact in_i32 (by omega) (by omega))])) ?_)
                first | (refine d_pure (i := 7) #[true, true, true, true, true, true, true, true, false, false, false, false] rfl (by kernel_rfl) (fun _ _ _ h => h) rfl (fun w_ => evP_run (o := ⟨_, _, _, _, _, _⟩) txs rfl) ?_)
                first | (refine d_pure (i := 8) #[true, true, true, true, true, true, true, true, true, false, false, false] rfl (by kernel_rfl) (fun _ _ _ h => h) rfl (fun w_ => evP_run (o := ⟨_, _, _, _, _, _⟩) txs rfl) ?_) | (refine d_pure (i := 8) #[true, true, true, true, true, true, true, true, true, false, false, false] rfl (by kernel_rfl) (fun _ _ _ h => h) rfl (fun w_ => (evA_run (o := ⟨_, _, _, _, _, _⟩) txs rfl).trans (by rw [wrap_in (by first | exact in_i64 (by omega) (by omega) | exact in_u8 (by omega) (by omega) | exact in_u64 (by omega) (by omega) | exact in_i32 (by omega) (by omega))])) ?_)
                refine d_one (i := 9) #[true, true, true, true, true, true, true, true, true, true, false, false] rfl (by kernel_rfl) rfl ?_
                refine g_on ?_; ((with_reducible refine g_st ?_); (refine h_stR recs H 3 rfl rfl rfl rfl rfl rfl rfl rfl rfl (fun w_ H => ?_)))
                refine l_nil ?_
                have HS := H.pick [1, 2] [] (by decide) (by decide) rfl rfl
                refine ⟨rfl, HS, ?_⟩
                first | (refine d_pure (i := 10) #[true, true, true, true, true, true, true, true, true, true, true, false] rfl (by kernel_rfl) (fun _ _ _ h => h) rfl (fun w_ => evP_run (o := ⟨_, _, _, _, _, _⟩) txs rfl) ?_)
                first | (refine d_pure (i := 11) #[true, true, true, true, true, true, true, true, true, true, true, true] rfl (by kernel_rfl) (fun _ _ _ h => h) rfl (fun w_ => evP_run (o := ⟨_, _, _, _, _, _⟩) txs rfl) ?_)
                refine d_done rfl ?_
                repeat' (first | (with_reducible refine p_tn ?_) | (with_reducible refine wp_ret ?_))
                refine end_ctt recs H 3 rfl rfl rfl rfl rfl rfl rfl ?_
                have e : ((b.length : Int) - (rest.length : Int) + (rest.length : Int)) = ((b.length - rest.length + rest.length : Nat) : Int) := by omega
                rw [e]
                unfold PsR
                rw [hres]
                have H9 := (H.nilRow 5 1).pick [] [1, 0] (by decide) (by decide) rfl rfl
                subst hr0
                exact ⟨Bl, cl, none, 0, rfl, H9⟩
              | some ad =>
                have hcl := fun w1 (K1 : Below w.heap.size w w1) => Tryz.bytes_Clone_at ad rest.length cr rest w1 rfl (by omega) (fun i hi => by
                  obtain ⟨ad', e, hcc⟩ := ((r1 w h).below K1).2.2 (by omega)
                  cases e
                  exact hcc i hi)
                have HS := H.pick [1] [] (by decide) (by decide) rfl rfl
                refine d_start (fun w_ => Hp w w_ _ _) #[false, false, false, false, false, false, false, false, false, false] (by kernel_rfl) rfl rfl HS.drew ?_
                have H := H.drew
                have HS := HS.drew
                first | (refine d_pure (i := 0) #[true, false, false, false, false, false, false, false, false, false] rfl (by kernel_rfl) (fun _ _ _ h => h) rfl (fun w_ => evF_run (o := ⟨_, _, _, _, _, _⟩) flds rfl) ?_) | (refine d_pure (i := 0) #[true, false, false, false, false, false, false, false, false, false] rfl (by kernel_rfl) (fun _ _ _ h => h) rfl (fun w_ => evG_run (o := ⟨_, _, _, _, _, _⟩) flds rfl) ?_)
                first | (refine d_take (i := 1) #[true, true, false, false, false, false, false, false, false, false] rfl (by kernel_rfl) (fun _ _ _ h => h) rfl (fun w_ K => evL_run (o := ⟨_, _, _, _, _, _⟩) txs rfl (K.cellAt 0 rfl rfl)) HS ?_)
                first | (refine d_pure (i := 3) #[true, true, false, true, false, false, false, false, false, false] rfl (by kernel_rfl) (fun _ _ _ h => h) rfl (fun w_ => evF_run (o := ⟨_, _, _, _, _, _⟩) flds rfl) ?_) | (refine d_pure (i := 3) #[true, true, false, true, false, false, false, false, false, false] rfl (by kernel_rfl) (fun _ _ _ h => h) rfl (fun w_ => evG_run (o := ⟨_, _, _, _, _, _⟩) flds rfl) ?_)
                first | (refine d_take (i := 4) #[true, true, false, true, true, false, false, false, false, false] rfl (by kernel_rfl) (fun _ _ _ h => h) rfl (fun w_ K => evL_run (o := ⟨_, _, _, _, _, _⟩) txs rfl (K.cellAt 0 rfl rfl)) HS ?_)
                first | (refine d_pure (i := 5) #[true, true, false, true, true, true, false, false, false, false] rfl (by kernel_rfl) (fun _ _ _ h => h) rfl (fun w_ => evP_run (o := ⟨_, _, _, _, _, _⟩) txs rfl) ?_)
                refine d_one (i := 2) #[true, true, true, true, true, true, false, false, false, false] rfl (by kernel_rfl) rfl ?_
                (refine l_call rfl rfl (by kernel_rfl) (hcl _ H.B) (fun e w_ hR => ?_)); obtain ⟨v', rfl, hO, _, K⟩ := hR; obtain ⟨A', c', rfl⟩ := own_slice hO; refine ⟨_, rfl, ?_⟩; have H := H.join (Hp.ofOwn hO K)
                refine l_nil ?_
                have HS := H.pick [1] [] (by decide) (by decide) rfl rfl
                refine ⟨rfl, HS, ?_⟩
                first | (refine d_pure (i := 6) #[true, true, true, true, true, true, true, false, false, false] rfl (by kernel_rfl) (fun _ _ _ h => h) rfl (fun w_ => evF_run (o := ⟨_, _, _, _, _, _⟩) flds rfl) ?_) | (refine d_pure (i := 6) #[true, true, true, true, true, true, true, false, false, false] rfl (by kernel_rfl) (fun _ _ _ h => h) rfl (fun w_ => evG_run (o := ⟨_, _, _, _, _, _⟩) flds rfl) ?_)
                refine d_one (i := 7) #[true, true, true, true, true, true, true, true, false, false] rfl (by kernel_rfl) rfl ?_
                refine g_on ?_; ((with_reducible refine g_st ?_); (refine h_st txs ones H 2 rfl rfl rfl rfl rfl rfl rfl rfl rfl (fun w_ H => ?_)))
                refine l_nil ?_
                have HS := H.pick [1] [] (by decide) (by decide) rfl rfl
                refine ⟨rfl, HS, ?_⟩
                first | (refine d_pure (i := 8) #[true, true, true, true, true, true, true, true, true, false] rfl (by kernel_rfl) (fun _ _ _ h => h) rfl (fun w_ => evP_run (o := ⟨_, _, _, _, _, _⟩) txs rfl) ?_)
                first | (refine d_pure (i := 9) #[true, true, true, true, true, true, true, true, true, true] rfl (by kernel_rfl) (fun _ _ _ h => h) rfl (fun w_ => evP_run (o := ⟨_, _, _, _, _, _⟩) txs rfl) ?_)
                refine d_done rfl ?_
                repeat' (first | (first | (with_reducible refine p_tn ?_) | (with_reducible refine p_bn ?_) | (with_reducible refine wp_seq ?_) | (with_reducible refine w_reg ?_)) | (first | (with_reducible refine l_nil ?_) | ((with_reducible refine g_on ?_); (first | ((with_reducible refine g_mv ?_); refine l_p txs rfl rfl ?_) | ((with_reducible refine g_fa ?_); refine h_fa flds rfl rfl ?_) | ((with_reducible refine g_st ?_); (refine h_st txs ones H 2 rfl rfl rfl rfl rfl rfl rfl rfl rfl (fun w_ H => ?_)))))))
                have HS := H.pick [1, 2] [] (by decide) (by decide) rfl rfl
                refine d_start (fun w_ => Hp w w_ _ _) #[false, false, false, false, false, false, false, false, false, false, false, false] (by kernel_rfl) rfl rfl HS.drew ?_
                have H := H.drew
                have HS := HS.drew
                first | (refine d_take (i := 0) #[true, false, false, false, false, false, false, false, false, false, false, false] rfl (by kernel_rfl) (fun _ _ _ h => h) rfl (fun w_ K => evLR_run (o := ⟨_, _, _, _, _, _⟩) recs rfl rfl (K.range 0 rfl) rfl) HS ?_) | (refine d_take (i := 0) #[true, false, false, false, false, false, false, false, false, false, false, false] rfl (by kernel_rfl) (fun _ _ _ h => h) rfl (fun w_ K => evLR_run (o := ⟨_, _, _, _, _, _⟩) recs rfl rfl (K.range 1 rfl) rfl) HS ?_)
                first | (refine d_pure (i := 1) #[true, true, false, false, false, false, false, false, false, false, false, false] rfl (by kernel_rfl) (fun _ _ _ h => h) rfl (fun w_ => evP_run (o := ⟨_, _, _, _, _, _⟩) txs rfl) ?_)
                first | (refine d_pure (i := 2) #[true, true, true, false, false, false, false, false, false, false, false, false] rfl (by kernel_rfl) (fun _ _ _ h => h) rfl (fun w_ => evP_run (o := ⟨_, _, _, _, _, _⟩) txs rfl) ?_)
                first | (refine d_pure (i := 3) #[true, true, true, true, false, false, false, false, false, false, false, false] rfl (by kernel_rfl) (fun _ _ _ h => h) rfl (fun w_ => evF_run (o := ⟨_, _, _, _, _, _⟩) flds rfl) ?_) | (refine d_pure (i := 3) #[true, true, true, true, false, false, false, false, false, false, false, false] rfl (by kernel_rfl) (fun _ _ _ h => h) rfl (fun w_ => evG_run (o := ⟨_, _, _, _, _, _⟩) flds rfl) ?_)
                first | (refine d_take (i := 4) #[true, true, true, true, true, false, false, false, false, false, false, false] rfl (by kernel_rfl) (fun _ _ _ h => h) rfl (fun w_ K => evL_run (o := ⟨_, _, _, _, _, _⟩) txs rfl (K.cellAt 0 rfl rfl)) HS ?_) | (refine d_take (i := 4) #[true, true, true, true, true, false, false, false, false, false, false, false] rfl (by kernel_rfl) (fun _ _ _ h => h) rfl (fun w_ K => evL_run (o := ⟨_, _, _, _, _, _⟩) txs rfl (K.cellAt 1 rfl rfl)) HS ?_)
                first | (refine d_pure (i := 5) #[true, true, true, true, true, true, false, false, false, false, false, false] rfl (by kernel_rfl) (fun _ _ _ h => h) rfl (fun w_ => evP_run (o := ⟨_, _, _, _, _, _⟩) txs rfl) ?_)
                first | (refine d_pure (i := 6) #[true, true, true, true, true, true, true, false, false, false, false, false] rfl (by kernel_rfl) (fun _ _ _ h => h) rfl (fun w_ => evP_run (o := ⟨_, _, _, _, _, _⟩) txs rfl) ?_) | (refine d_pure (i := 6) #[true, true, true, true, true, true, true, false, false, false, false, false] rfl (by kernel_rfl) (fun _ _ _ h => h) rfl (fun w_ => (evA_run (o := ⟨_, _, _, _, _, _⟩) txs rfl).trans (by rw [wrap_in (by first | exact in_i64 (by omega) (by omega) | exact in_u8 (by omega) (by omega) | exact in_u64 (by omega) (by omega) | exact in_i32 (by omega) (by omega))])) ?_)
                first | (refine d_pure (i := 7) #[true, true, true, true, true, true, true, true, false, false, false, false] rfl (by kernel_rfl) (fun _ _ _ h => h) rfl (fun w_ => evP_run (o := ⟨_, _, _, _, _, _⟩) txs rfl) ?_)
                first | (refine d_pure (i := 8) #[true, true, true, true, true, true, true, true, true, false, false, false] rfl (by kernel_rfl) (fun _ _ _ h => h) rfl (fun w_ => evP_run (o := ⟨_, _, _, _, _, _⟩) txs rfl) ?_) | (refine d_pure (i := 8) #[true, true, true, true, true, true, true, true, true, false, false, false] rfl (by kernel_rfl) (fun _ _ _ h => h) rfl (fun w_ => (evA_run (o := ⟨_, _, _, _, _, _⟩) txs rfl).trans (by rw [wrap_in (by first | exact in_i64 (by omega) (by omega) | exact in_u8 (by omega) (by omega) | exact in_u64 (by omega) (by omega) | exact in_i32 (by omega) (by omega))])) ?_)
                refine d_one (i := 9) #[true, true, true, true, true, true, true, true, true, true, false, false] rfl (by kernel_rfl) rfl ?_
                refine g_on ?_; ((with_reducible refine g_st ?_); (refine h_stR recs H 3 rfl rfl rfl rfl rfl rfl rfl rfl rfl (fun w_ H => ?_)))
                refine l_nil ?_
                have HS := H.pick [1, 2] [] (by decide) (by decide) rfl rfl
                refine ⟨rfl, HS, ?_⟩
                first | (refine d_pure (i := 10) #[true, true, true, true, true, true, true, true, true, true, true, false] rfl (by kernel_rfl) (fun _ _ _ h => h) rfl (fun w_ => evP_run (o := ⟨_, _, _, _, _, _⟩) txs rfl) ?_)
                first | (refine d_pure (i := 11) #[true, true, true, true, true, true, true, true, true, true, true, true] rfl (by kernel_rfl) (fun _ _ _ h => h) rfl (fun w_ => evP_run (o := ⟨_, _, _, _, _, _⟩) txs rfl) ?_)
                refine d_done rfl ?_
                repeat' (first | (with_reducible refine p_tn ?_) | (with_reducible refine wp_ret ?_))
                refine end_ctt recs H 3 rfl rfl rfl rfl rfl rfl rfl ?_
                have e : ((b.length : Int) - (rest.length : Int) + (rest.length : Int)) = ((b.length - rest.length + rest.length : Nat) : Int) := by omega
                rw [e]
                unfold PsR
                rw [hres]
                exact ⟨Bl, cl, A', c', rfl, H.pick [] [1, 0] (by decide) (by decide) rfl rfl⟩
          · repeat' (first | (first | (with_reducible refine wp_seq ?_) | (with_reducible refine w_reg ?_) | (with_reducible (refine is_if ?_; (refine w_ift rfl ?_)))) | ((with_reducible refine g_on ?_); (first | ((with_reducible refine g_mv ?_); refine l_p txs rfl rfl ?_) | ((with_reducible refine g_fa ?_); refine h_fa flds rfl rfl ?_) | ((with_reducible refine g_ld ?_); (first | (refine h_ld txs H 1 rfl rfl rfl rfl ?_) | (refine h_ldR recs H 0 rfl rfl rfl rfl rfl ?_))))))
            have hbc := body_c (hE.below H.B) (H.old hM) l bl1 (by omega) (framed_of hfm) ((r1 w h).below H.B) r2 r3 hb3 (by omega) minor
            (with_reducible refine is_l ?_); refine l_call rfl rfl (by kernel_rfl) hbc (fun e w_ hR => ?_)
            unfold BdR at hR
            cases hfs : frameS l minor with
            | error k =>
              rw [hfs] at hR
              obtain ⟨v, hv, rfl, K⟩ := hR
              refine ⟨_, rfl, ?_⟩
              have hres := ps_frame hcut hsr hfe hba hfs
              have H := H.join K
              obtain ⟨_, _, rfl⟩ := errOf_iface hv
              repeat' (first | (first | (with_reducible refine p_tn ?_) | (with_reducible refine wp_seq ?_) | (with_reducible refine w_reg ?_)) | (first | (with_reducible refine l_nil ?_) | ((with_reducible refine g_on ?_); (first | ((with_reducible refine g_mv ?_); refine l_p txs rfl rfl ?_) | ((with_reducible refine g_as ?_); refine l_p txs rfl rfl ?_) | ((with_reducible refine g_ex ?_); refine l_p txs rfl rfl ?_) | ((with_reducible refine g_fa ?_); refine h_fa flds rfl rfl ?_) | ((with_reducible refine g_st ?_); (refine h_st txs ones H 2 rfl rfl rfl rfl rfl rfl rfl rfl rfl (fun w_ H => ?_)))))))
              (with_reducible refine is_l ?_); refine l_t txs rfl rfl (fun _ => ?_) (fun hh => absurd trivial hh)
              repeat' (first | (first | (with_reducible refine p_tn ?_) | (with_reducible refine p_tr ?_) | (with_reducible refine p_br ?_) | (with_reducible refine wp_seq ?_) | (with_reducible refine w_reg ?_) | (with_reducible (refine is_if ?_; (refine w_ift rfl ?_))) | (with_reducible refine wp_ret ?_)) | (first | (with_reducible refine l_nil ?_) | ((with_reducible refine g_on ?_); (first | ((with_reducible refine g_mv ?_); refine l_p txs rfl rfl ?_) | ((with_reducible refine g_as ?_); refine l_p txs rfl rfl ?_) | ((with_reducible refine g_ld ?_); (refine h_ldR recs H 2 rfl rfl rfl rfl rfl ?_)) | ((with_reducible refine g_st ?_); (refine h_stR recs H 3 rfl rfl rfl rfl rfl rfl rfl rfl rfl (fun w_ H => ?_)))))))
              refine end_ctt recs H 3 rfl rfl rfl rfl rfl rfl rfl ?_
              exact psR_err hres hv (H.pick [] [] (by decide) (by decide) rfl rfl)
            | ok fr =>
              rw [hfs] at hR
              simp only at hR
              have hfne := frame_some hfm hfs
              cases hbo : bodyS rest fr with
              | error k =>
                rw [hbo] at hR
                obtain ⟨v, hv, rfl, K⟩ := hR
                refine ⟨_, rfl, ?_⟩
                have hres := ps_body hcut hsr hfe hba hfs hfne hbo
                have H := H.join K
                obtain ⟨_, _, rfl⟩ := errOf_iface hv
                repeat' (first | (first | (with_reducible refine p_tn ?_) | (with_reducible refine wp_seq ?_) | (with_reducible refine w_reg ?_)) | (first | (with_reducible refine l_nil ?_) | ((with_reducible refine g_on ?_); (first | ((with_reducible refine g_mv ?_); refine l_p txs rfl rfl ?_) | ((with_reducible refine g_as ?_); refine l_p txs rfl rfl ?_) | ((with_reducible refine g_ex ?_); refine l_p txs rfl rfl ?_) | ((with_reducible refine g_fa ?_); refine h_fa flds rfl rfl ?_) | ((with_reducible refine g_st ?_); (refine h_st txs ones H 2 rfl rfl rfl rfl rfl rfl rfl rfl rfl (fun w_ H => ?_)))))))
                (with_reducible refine is_l ?_); refine l_t txs rfl rfl (fun _ => ?_) (fun hh => absurd trivial hh)
                repeat' (first | (first | (with_reducible refine p_tn ?_) | (with_reducible refine p_tr ?_) | (with_reducible refine p_br ?_) | (with_reducible refine wp_seq ?_) | (with_reducible refine w_reg ?_) | (with_reducible (refine is_if ?_; (refine w_ift rfl ?_))) | (with_reducible refine wp_ret ?_)) | (first | (with_reducible refine l_nil ?_) | ((with_reducible refine g_on ?_); (first | ((with_reducible refine g_mv ?_); refine l_p txs rfl rfl ?_) | ((with_reducible refine g_as ?_); refine l_p txs rfl rfl ?_) | ((with_reducible refine g_ld ?_); (refine h_ldR recs H 2 rfl rfl rfl rfl rfl ?_)) | ((with_reducible refine g_st ?_); (refine h_stR recs H 3 rfl rfl rfl rfl rfl rfl rfl rfl rfl (fun w_ H => ?_)))))))
                refine end_ctt recs H 3 rfl rfl rfl rfl rfl rfl rfl ?_
                exact psR_err hres hv (H.pick [] [] (by decide) (by decide) rfl rfl)
              | ok z =>
                obtain ⟨bd, k⟩ := z
                rw [hbo] at hR
                obtain ⟨Bb, cb, rfl, K⟩ := hR
                refine ⟨_, rfl, ?_⟩
                have hres := ps_ok hcut hsr hfe hba hfs hfne hbo
                have hkl := bodyS_le hbo
                have H := (H.join K).pick [0, 1, 2, 3] [0, 1] (by decide) (by decide) rfl rfl
                repeat' (first | (first | (with_reducible refine p_tn ?_) | (with_reducible refine wp_seq ?_) | (with_reducible refine w_reg ?_)) | (first | (with_reducible refine l_nil ?_) | ((with_reducible refine g_on ?_); (first | ((with_reducible refine g_mv ?_); refine l_p txs rfl rfl ?_) | ((with_reducible refine g_as ?_); refine l_p txs rfl rfl ?_) | ((with_reducible refine g_ex ?_); refine l_p txs rfl rfl ?_) | ((with_reducible refine g_fa ?_); refine h_fa flds rfl rfl ?_) | ((with_reducible refine g_st ?_); (refine h_st txs ones H 2 rfl rfl rfl rfl rfl rfl rfl rfl rfl (fun w_ H => ?_)))))))
                (with_reducible refine is_l ?_); refine l_t txs rfl rfl (fun hh => absurd hh (by simp)) (fun _ => ?_)
                repeat' (first | (first | (with_reducible refine p_tn ?_) | (with_reducible refine p_bn ?_) | (with_reducible refine wp_seq ?_) | (with_reducible refine w_reg ?_) | (with_reducible (refine is_if ?_; (refine w_iff rfl ?_))) | (with_reducible refine wp_skip ?_)) | (first | (with_reducible refine l_nil ?_) | ((with_reducible refine g_on ?_); (first | ((with_reducible refine g_mv ?_); refine l_p txs rfl rfl ?_) | ((with_reducible refine g_fa ?_); refine h_fa flds rfl rfl ?_) | ((with_reducible refine g_st ?_); (refine h_st txs ones H 2 rfl rfl rfl rfl rfl rfl rfl rfl rfl (fun w_ H => ?_)))))))
                have HS := H.pick [1, 2] [] (by decide) (by decide) rfl rfl
                refine d_start (fun w_ => Hp w w_ _ _) #[false, false, false, false, false, false, false, false, false, false, false, false] (by kernel_rfl) rfl rfl HS.drew ?_
                have H := H.drew
                have HS := HS.drew
                first | (refine d_take (i := 0) #[true, false, false, false, false, false, false, false, false, false, false, false] rfl (by kernel_rfl) (fun _ _ _ h => h) rfl (fun w_ K => evLR_run (o := ⟨_, _, _, _, _, _⟩) recs rfl rfl (K.range 0 rfl) rfl) HS ?_) | (refine d_take (i := 0) #[true, false, false, false, false, false, false, false, false, false, false, false] rfl (by kernel_rfl) (fun _ _ _ h => h) rfl (fun w_ K => evLR_run (o := ⟨_, _, _, _, _, _⟩) recs rfl rfl (K.range 1 rfl) rfl) HS ?_)
                first | (refine d_pure (i := 1) #[true, true, false, false, false, false, false, false, false, false, false, false] rfl (by kernel_rfl) (fun _ _ _ h => h) rfl (fun w_ => evP_run (o := ⟨_, _, _, _, _, _⟩) txs rfl) ?_)
                first | (refine d_pure (i := 2) #[true, true, true, false, false, false, false, false, false, false, false, false] rfl (by kernel_rfl) (fun _ _ _ h => h) rfl (fun w_ => evP_run (o := ⟨_, _, _, _, _, _⟩) txs rfl) ?_)
                first | (refine d_pure (i := 3) #[true, true, true, true, false, false, false, false, false, false, false, false] rfl (by kernel_rfl) (fun _ _ _ h => h) rfl (fun w_ => evF_run (o := ⟨_, _, _, _, _, _⟩) flds rfl) ?_) | (refine d_pure (i := 3) #[true, true, true, true, false, false, false, false, false, false, false, false] rfl (by kernel_rfl) (fun _ _ _ h => h) rfl (fun w_ => evG_run (o := ⟨_, _, _, _, _, _⟩) flds rfl) ?_)
                first | (refine d_take (i := 4) #[true, true, true, true, true, false, false, false, false, false, false, false] rfl (by kernel_rfl) (fun _ _ _ h => h) rfl (fun w_ K => evL_run (o := ⟨_, _, _, _, _, _⟩) txs rfl (K.cellAt 0 rfl rfl)) HS ?_) | (refine d_take (i := 4) #[true, true, true, true, true, false, false, false, false, false, false, false] rfl (by kernel_rfl) (fun _ _ _ h => h) rfl (fun w_ K => evL_run (o := ⟨_, _, _, _, _, _⟩) txs rfl (K.cellAt 1 rfl rfl)) HS ?_)
                first | (refine d_pure (i := 5) #[true, true, true, true, true, true, false, false, false, false, false, false] rfl (by kernel_rfl) (fun _ _ _ h => h) rfl (fun w_ => evP_run (o := ⟨_, _, _, _, _, _⟩) txs rfl) ?_)
                first | (refine d_pure (i := 6) #[true, true, true, true, true, true, true, false, false, false, false, false] rfl (by kernel_rfl) (fun _ _ _ h => h) rfl (fun w_ => evP_run (o := ⟨_, _, _, _, _, _⟩) txs rfl) ?_) | (refine d_pure (i := 6) #[true, true, true, true, true, true, true, false, false, false, false, false] rfl (by kernel_rfl) (fun _ _ _ h => h) rfl (fun w_ => (evA_run (o := ⟨_, _, _, _, _, _⟩) txs rfl).trans (by rw [wrap_in (by first | exact in_i64 (by omega) (by omega) | exact in_u8 (by omega) (by omega) | exact in_u64 (by omega) (by omega) | exact in_i32 (by omega) (by omega))])) ?_)
                first | (refine d_pure (i := 7) #[true, true, true, true, true, true, true, true, false, false, false, false] rfl (by kernel_rfl) (fun _ _ _ h => h) rfl (fun w_ => evP_run (o := ⟨_, _, _, _, _, _⟩) txs rfl) ?_)
                first | (refine d_pure (i := 8) #[true, true, true, true, true, true, true, true, true, false, false, false] rfl (by kernel_rfl) (fun _ _ _ h => h) rfl (fun w_ => evP_run (o := ⟨_, _, _, _, _, _⟩) txs rfl) ?_) | (refine d_pure (i := 8) #[true, true, true, true, true, true, true, true, true, false, false, false] rfl (by kernel_rfl) (fun _ _ _ h => h) rfl (fun w_ => (evA_run (o := ⟨_, _, _, _, _, _⟩) txs rfl).trans (by rw [wrap_in (by first | exact in_i64 (by omega) (by omega) | exact in_u8 (by omega) (by omega) | exact in_u64 (by omega) (by omega) | exact in_i32 (by omega) (by omega))])) ?_)
                refine d_one (i := 9) #[true, true, true, true, true, true, true, true, true, true, false, false] rfl (by kernel_rfl) rfl ?_
                refine g_on ?_; ((with_reducible refine g_st ?_); (refine h_stR recs H 3 rfl rfl rfl rfl rfl rfl rfl rfl rfl (fun w_ H => ?_)))
                refine l_nil ?_
                have HS := H.pick [1, 2] [] (by decide) (by decide) rfl rfl
                refine ⟨rfl, HS, ?_⟩
                first | (refine d_pure (i := 10) #[true, true, true, true, true, true, true, true, true, true, true, false] rfl (by kernel_rfl) (fun _ _ _ h => h) rfl (fun w_ => evP_run (o := ⟨_, _, _, _, _, _⟩) txs rfl) ?_)
                first | (refine d_pure (i := 11) #[true, true, true, true, true, true, true, true, true, true, true, true] rfl (by kernel_rfl) (fun _ _ _ h => h) rfl (fun w_ => evP_run (o := ⟨_, _, _, _, _, _⟩) txs rfl) ?_)
                refine d_done rfl ?_
                repeat' (first | (with_reducible refine p_tn ?_) | (with_reducible refine wp_ret ?_))
                refine end_ctt recs H 3 rfl rfl rfl rfl rfl rfl rfl ?_
                have e : ((b.length : Int) - (rest.length : Int) + (k : Int)) = ((b.length - rest.length + k : Nat) : Int) := by omega
                rw [e]
                unfold PsR
                rw [hres]
                exact ⟨Bl, cl, Bb, cb, rfl, H.pick [] [1, 0] (by decide) (by decide) rfl rfl⟩
        · rw [hba] at hbare
          have hres := ps_bare hcut hsr hfe hba
          (with_reducible refine is_l ?_); refine l_callp rfl rfl (by kernel_rfl) (hbare _) ?_
          repeat' (first | (first | (with_reducible refine p_tn ?_) | (with_reducible refine p_bn ?_) | (with_reducible refine wp_seq ?_) | (with_reducible refine w_reg ?_) | (with_reducible (refine is_if ?_; (refine w_ift rfl ?_))) | (with_reducible refine wp_skip ?_)) | (first | (with_reducible refine l_nil ?_) | ((with_reducible refine g_on ?_); (first | ((with_reducible refine g_mv ?_); refine l_p txs rfl rfl ?_) | ((with_reducible refine g_as ?_); refine l_p txs rfl rfl ?_) | ((with_reducible refine g_fa ?_); refine h_fa flds rfl rfl ?_) | ((with_reducible refine g_st ?_); (refine h_st txs ones H 2 rfl rfl rfl rfl rfl rfl rfl rfl rfl (fun w_ H => ?_)))))))
          have HS := H.pick [1, 2] [] (by decide) (by decide) rfl rfl
          refine d_start (fun w_ => Hp w w_ _ _) #[false, false, false, false, false, false, false, false, false, false, false, false] (by kernel_rfl) rfl rfl HS.drew ?_
          have H := H.drew
          have HS := HS.drew
          first | (refine d_take (i := 0) #[true, false, false, false, false, false, false, false, false, false, false, false] rfl (by kernel_rfl) (fun _ _ _ h => h) rfl (fun w_ K => evLR_run (o := ⟨_, _, _, _, _, _⟩) recs rfl rfl (K.range 0 rfl) rfl) HS ?_) | (refine d_take (i := 0) #[true, false, false, false, false, false, false, false, false, false, false, false] rfl (by kernel_rfl) (fun _ _ _ h => h) rfl (fun w_ K => evLR_run (o := ⟨_, _, _, _, _, _⟩) recs rfl rfl (K.range 1 rfl) rfl) HS ?_)
          first | (refine d_pure (i := 1) #[true, true, false, false, false, false, false, false, false, false, false, false] rfl (by kernel_rfl) (fun _ _ _ h => h) rfl (fun w_ => evP_run (o := ⟨_, _, _, _, _, _⟩) txs rfl) ?_)
          first | (refine d_pure (i := 2) #[true, true, true, false, false, false, false, false, false, false, false, false] rfl (by kernel_rfl) (fun _ _ _ h => h) rfl (fun w_ => evP_run (o := ⟨_, _, _, _, _, _⟩) txs rfl) ?_)
          first | (refine d_pure (i := 3) #[true, true, true, true, false, false, false, false, false, false, false, false] rfl (by kernel_rfl) (fun _ _ _ h => h) rfl (fun w_ => evF_run (o := ⟨_, _, _, _, _, _⟩) flds rfl) ?_) | (refine d_pure (i := 3) #[true, true, true, true, false, false, false, false, false, false, false, false] rfl (by kernel_rfl) (fun _ _ _ h => h) rfl (fun w_ => evG_run (o := ⟨_, _, _, _, _, _⟩) flds rfl) ?_)
          first | (refine d_take (i := 4) #[true, true, true, true, true, false, false, false, false, false, false, false] rfl (by kernel_rfl) (fun _ _ _ h => h) rfl (fun w_ K => evL_run (o := ⟨_, _, _, _, _, _⟩) txs rfl (K.cellAt 0 rfl rfl)) HS ?_) | (refine d_take (i := 4) #[true, true, true, true, true, false, false, false, false, false, false, false] rfl (by kernel_rfl) (fun _ _ _ h => h) rfl (fun w_ K => evL_run (o := ⟨_, _, _, _, _, _⟩) txs rfl (K.cellAt 1 rfl rfl)) HS ?_)
          first | (refine d_pure (i := 5) #[true, true, true, true, true, true, false, false, false, false, false, false] rfl (by kernel_rfl) (fun _ _ _ h => h) rfl (fun w_ => evP_run (o := ⟨_, _, _, _, _, _⟩) txs rfl) ?_)
          first | (refine d_pure (i := 6) #[true, true, true, true, true, true, true, false, false, false, false, false] rfl (by kernel_rfl) (fun _ _ _ h => h) rfl (fun w_ => evP_run (o := ⟨_, _, _, _, _, _⟩) txs rfl) ?_) | (refine d_pure (i := 6) #[true, true, true, true, true, true, true, false, false, false, false, false] rfl (by kernel_rfl) (fun _ _ _ h => h) rfl (fun w_ => (evA_run (o := ⟨_, _, _, _, _, _⟩) txs rfl).trans (by rw [wrap_in (by first | exact in_i64 (by omega) (by omega) | exact in_u8 (by omega) (by omega) | exact in_u64 (by omega) (by omega) | exact in_i32 (by omega) (by omega))])) ?_)
          first | (refine d_pure (i := 7) #[true, true, true, true, true, true, true, true, false, false, false, false] rfl (by kernel_rfl) (fun _ _ _ h => h) rfl (fun w_ => evP_run (o := ⟨_, _, _, _, _, _⟩) txs rfl) ?_)
          first | (refine d_pure (i := 8) #[true, true, true, true, true, true, true, true, true, false, false, false] rfl (by kernel_rfl) (fun _ _ _ h => h) rfl (fun w_ => evP_run (o := ⟨_, _, _, _, _, _⟩) txs rfl) ?_) | (refine d_pure (i := 8) #[true, true, true, true, true, true, true, true, true, false, false, false] rfl (by kernel_rfl) (fun _ _ _ h => h) rfl (fun w_ => (evA_run (o := ⟨_, _, _, _, _, _⟩) txs rfl).trans (by rw [wrap_in (by first | exact in_i64 (by omega) (by omega) | exact in_u8 (by omega) (by omega) | exact in_u64 (by omega) (by omega) | exact in_i32 (by omega) (by omega))])) ?_)
          refine d_one (i := 9) #[true, true, true, true, true, true, true, true, true, true, false, false] rfl (by kernel_rfl) rfl ?_
          refine g_on ?_; ((with_reducible refine g_st ?_); (refine h_stR recs H 3 rfl rfl rfl rfl rfl rfl rfl rfl rfl (fun w_ H => ?_)))
          refine l_nil ?_
          have HS := H.pick [1, 2] [] (by decide) (by decide) rfl rfl
          refine ⟨rfl, HS, ?_⟩
          first | (refine d_pure (i := 10) #[true, true, true, true, true, true, true, true, true, true, true, false] rfl (by kernel_rfl) (fun _ _ _ h => h) rfl (fun w_ => evP_run (o := ⟨_, _, _, _, _, _⟩) txs rfl) ?_)
          first | (refine d_pure (i := 11) #[true, true, true, true, true, true, true, true, true, true, true, true] rfl (by kernel_rfl) (fun _ _ _ h => h) rfl (fun w_ => evP_run (o := ⟨_, _, _, _, _, _⟩) txs rfl) ?_)
          refine d_done rfl ?_
          repeat' (first | (with_reducible refine p_tn ?_) | (with_reducible refine wp_ret ?_))
          refine end_ctt recs H 3 rfl rfl rfl rfl rfl rfl rfl ?_
          have e : ((b.length : Int) - (rest.length : Int) + 0) = ((b.length - rest.length : Nat) : Int) := by omega
          rw [e]
          unfold PsR
          rw [hres]
          exact ⟨Bl, cl, none, 0, rfl, (H.nilRow 5 1).pick [] [1, 0] (by decide) (by decide) rfl rfl⟩
theorem built_zRes : Tryz.prog.built 59 [] = some zRes := by kernel_rfl
/-- What ParseResponse ends in. -/
def PtR (w : World) (b : L) (e : Ending) (w' : World) : Prop := match parseResS b with
  | .error k => e = .returned (.tuple #[.agg zRes, .int .i64 0, .int .i64 (k : Int)]) ∧ Hp w w' [] []
  | .ok (r, n) => ∃ Bf cf Bb cb, e = .returned (.tuple #[.agg (resA r Bf cf Bb cb), .int .i64 (n : Int), .int .i64 0]) ∧ Hp w w' [] [rowF (.slice Bf r.fields.length cf) r.fields, rowB (.slice Bb r.body.length cb) r.body]
set_option maxHeartbeats 4000000 in
theorem ParseResponse_c {A : Nat → Addr} {w : World} (hE : LayS A w) (h13 : Sent w (gE 13) (A 13)) {mx : Int} (hM : w.cell? ⟨20, 0, none⟩ = some (.int .i64 mx))
    {B : Option Addr} {c : Nat} {b : L} (h : ReadsInt w .u8 B b.length b) (hc : b.length ≤ c) (hn : B = none → c = 0 ∧ b.length = 0) (hb : Bytes b) (hs : b.length ≤ 100000000) :
    Calls Tryz.prog 29 #[.slice B b.length c] w (PtR w b) := by
  refine enter (args := [.slice B b.length c]) Tryz.func29 rfl Tryz.ntmps29 rfl ?_
  have H := Hp.nil w
  repeat' (first | (first | (with_reducible refine p_tn ?_) | (with_reducible refine wp_seq ?_) | (with_reducible refine w_reg ?_)) | (first | (with_reducible refine l_nil ?_) | ((with_reducible refine g_on ?_); (first | ((with_reducible refine g_mv ?_); refine l_p txs rfl rfl ?_) | ((with_reducible refine g_as ?_); refine l_p txs rfl rfl ?_) | ((with_reducible refine g_al ?_); refine h_alloc recs H rfl rfl (fun g_ w_ H => ?_))))))
  have hcall := parseResponse_c (hE.below H.B) (h13.below H.B) (H.old hM) (h.below H.B) hc hn hb hs
  (with_reducible refine is_l ?_); refine l_call rfl rfl (by kernel_rfl) hcall (fun e w_ hR => ?_)
  unfold PsR at hR
  cases hp : parseResS b with
  | error k =>
    rw [hp] at hR
    obtain ⟨v, hv, rfl, K⟩ := hR
    refine ⟨_, rfl, ?_⟩
    have H := H.join K
    obtain ⟨tv, uv, rfl⟩ := errOf_iface hv
    repeat' (first | (first | (with_reducible refine p_tn ?_) | (with_reducible refine wp_seq ?_) | (with_reducible refine w_reg ?_)) | (first | (with_reducible refine l_nil ?_) | ((with_reducible refine g_on ?_); (first | ((with_reducible refine g_mv ?_); refine l_p txs rfl rfl ?_) | ((with_reducible refine g_as ?_); refine l_p txs rfl rfl ?_) | ((with_reducible refine g_ex ?_); refine l_p txs rfl rfl ?_) | ((with_reducible refine g_st ?_); (refine h_stR recs H 0 rfl rfl rfl rfl rfl rfl rfl rfl rfl (fun w_ H => ?_))) | ((with_reducible refine g_al ?_); refine h_alloc recs H rfl rfl (fun g_ w_ H => ?_))))))
    (with_reducible refine is_l ?_); refine l_t txs rfl rfl (fun _ => ?_) (fun hh => absurd trivial hh)
    repeat' (first | (first | (with_reducible refine p_tn ?_) | (with_reducible refine wp_seq ?_) | (with_reducible refine w_reg ?_) | (with_reducible (refine is_if ?_; (refine w_ift rfl ?_)))) | (with_reducible refine l_nil ?_))
    (with_reducible refine is_l ?_); refine h_bld rfl rfl built_zRes ?_
    repeat' ((with_reducible refine g_on ?_); ((with_reducible refine g_mv ?_); refine l_p txs rfl rfl ?_))
    (with_reducible refine is_l ?_); refine l_callv rfl rfl (by kernel_rfl) (errOf_c (hE.below H.B) hv) (fun w_ K => ?_)
    have H := H.call K
    repeat' (first | (first | (with_reducible refine p_tn ?_) | (with_reducible refine p_tr ?_) | (with_reducible refine wp_ret ?_)) | (first | (with_reducible refine l_nil ?_) | ((with_reducible refine g_on ?_); (first | ((with_reducible refine g_as ?_); refine l_p txs rfl rfl ?_) | ((with_reducible refine g_st ?_); (refine h_stR recs H 1 rfl rfl rfl rfl rfl rfl rfl rfl rfl (fun w_ H => ?_)))))))
    refine end_ctt recs H 1 rfl rfl rfl rfl rfl rfl rfl ?_
    unfold PtR
    rw [hp]
    exact ⟨rfl, H.pick [] [] (by decide) (by decide) rfl rfl⟩
  | ok z =>
    obtain ⟨r, n⟩ := z
    rw [hp] at hR
    obtain ⟨Bf, cf, Bb, cb, rfl, K⟩ := hR
    refine ⟨_, rfl, ?_⟩
    have H := H.join K
    repeat' (first | (first | (with_reducible refine p_tn ?_) | (with_reducible refine wp_seq ?_) | (with_reducible refine w_reg ?_)) | (first | (with_reducible refine l_nil ?_) | ((with_reducible refine g_on ?_); (first | ((with_reducible refine g_mv ?_); refine l_p txs rfl rfl ?_) | ((with_reducible refine g_as ?_); refine l_p txs rfl rfl ?_) | ((with_reducible refine g_ex ?_); refine l_p txs rfl rfl ?_) | ((with_reducible refine g_st ?_); (refine h_stR recs H 0 rfl rfl rfl rfl rfl rfl rfl rfl rfl (fun w_ H => ?_))) | ((with_reducible refine g_al ?_); refine h_alloc recs H rfl rfl (fun g_ w_ H => ?_))))))
    (with_reducible refine is_l ?_); refine l_t txs rfl rfl (fun hh => absurd hh (by simp)) (fun _ => ?_)
    repeat' (first | (first | (with_reducible refine p_tn ?_) | (with_reducible refine wp_seq ?_) | (with_reducible refine w_reg ?_) | (with_reducible (refine is_if ?_; (refine w_iff rfl ?_))) | (with_reducible refine wp_skip ?_) | (with_reducible refine wp_ret ?_)) | (first | (with_reducible refine l_nil ?_) | ((with_reducible refine g_on ?_); (first | ((with_reducible refine g_mv ?_); refine l_p txs rfl rfl ?_) | ((with_reducible refine g_as ?_); refine l_p txs rfl rfl ?_) | ((with_reducible refine g_ld ?_); (refine h_ldR recs H 0 rfl rfl rfl rfl rfl ?_)) | ((with_reducible refine g_st ?_); (refine h_stR recs H 1 rfl rfl rfl rfl rfl rfl rfl rfl rfl (fun w_ H => ?_)))))))
    refine end_ctt recs H 1 rfl rfl rfl rfl rfl rfl rfl ?_
    unfold PtR
    rw [hp]
    exact ⟨Bf, cf, Bb, cb, rfl, H.pick [] [0, 1] (by decide) (by decide) rfl rfl⟩
end Go.Proofs.YthgojbdpmcccaaaGreatDoor.K
end
section
namespace Go.Proofs.YthgojbdpmcccaaaGreatDoor.K
open Go.RowKit Go.Proofs.YthgojbdpmcccaaaGreatDoor.Q Go.Proofs.YthgojbdpmcccaaaGreatDoor.Wb Go.Proofs.YthgojbdpmcccaaaGreatDoorW.PrintWords
set_option linter.unusedVariables false
set_option linter.unusedSimpArgs false
theorem fields_fld : (Tryz.prog.fieldsOf 95).toList.map (fun f => (f.name, f.type, f.offset)) = [("Name", 9, 0), ("Value", 9, 1)] := by kernel_rfl
theorem under_fld : Tryz.prog.underlying 95 = some (.struct (Tryz.prog.fieldsOf 95)) := by kernel_rfl
theorem stood_fld : Tryz.prog.stoodInHeld 95 = false := by kernel_rfl
theorem guard_fld : Tryz.prog.eqGuardType Tryz.prog.depth 95 = false := by kernel_rfl
theorem part_str (xs : Array Value) (k : Nat) (v : Value) (h : xs[k]? = some v) (w : World) : (part 9 xs k).run Tryz.prog w = .ok v w := by
  have hu := Tryz.underlying9
  simp [part, isAgg, run_underlying hu, h, go_sem]
theorem neq_fld (a b c d : ByteArray) (w : World) : (binOp .neq 95 (.agg #[.string a, .string b]) (.agg #[.string c, .string d])).run Tryz.prog w = .ok (.bool (!((a.toList == c.toList) && (b.toList == d.toList)))) w := by
  rw [run_neq_struct, run_equalIn_struct w 9999 _ _ _ under_fld stood_fld]
  have hl := fields_fld
  generalize (Tryz.prog.fieldsOf 95).toList = fs at hl
  obtain ⟨f, g, rfl⟩ : ∃ f g, fs = [f, g] := by
    cases fs with
    | nil => simp at hl
    | cons f r =>
      cases r with
      | nil => simp at hl
      | cons g r2 =>
        cases r2 with
        | nil => exact ⟨f, g, rfl⟩
        | cons _ _ => simp at hl
  simp only [List.map_cons, List.map_nil, List.cons.injEq, Prod.mk.injEq, and_true] at hl
  obtain ⟨⟨n1, t1, o1⟩, n2, t2, o2⟩ := hl
  have e1 : ∀ w, (Op.equalIn 9999 9 (.string a) (.string c)).run Tryz.prog w = .ok (a.toList == c.toList) w := fun w => run_equalIn_string w 9998 _ a c Tryz.underlying9
  have e2 : ∀ w, (Op.equalIn 9999 9 (.string b) (.string d)).run Tryz.prog w = .ok (b.toList == d.toList) w := fun w => run_equalIn_string w 9998 _ b d Tryz.underlying9
  have p1 := part_str #[.string a, .string b] 0 (.string a) rfl
  have p2 := part_str #[.string a, .string b] 1 (.string b) rfl
  have p3 := part_str #[.string c, .string d] 0 (.string c) rfl
  have p4 := part_str #[.string c, .string d] 1 (.string d) rfl
  simp only [Op.eqFields, n1, t1, o1, n2, t2, o2, Sem.run_bind, p1, p2, p3, p4, e1, e2, Result.andThen_ok, Sem.run_ite, Sem.run_pure]
  cases (a.toList == c.toList) <;> cases (b.toList == d.toList) <;> simp
theorem neqF_run {n : Nat} {f : Fr} {w : World} {o : Oper} {x y : Operand} {t2 : TypeId} {a b c d : ByteArray} (ho : o.op = .binOp .neq 95 x y t2) (hx : nf (X n f x) = some (.agg [.string a, .string b].toArray)) (hy : nf (X n f y) = some (.agg [.string c, .string d].toArray)) (ha : a = c) (hb : b = d) : (execOp (X n f) o).run Tryz.prog w = .ok (.value (.bool false)) w := by
  have e1 := nf_eq hx
  have e2 := nf_eq hy
  subst ha hb
  have hr := neq_fld a b a b w
  have hg := run_eqGuard_agg (P := Tryz.prog) w .neq 95 x y #[.string a, .string b] #[.string a, .string b] guard_fld
  unfold execOp
  simp only [ho, ← e1, ← e2]
  rw [Sem.run_bind, Sem.run_bind, hg, Result.andThen_ok, hr]
  simp
theorem fld_part {w : World} {ad : Addr} {l : List Fld} (h : Rd w (some ad) (fldC l)) {i : Nat} {x : Fld} (hx : l[i]? = some x) : ∀ (j : Nat) (v : Value), [Value.string (strOfNums x.1), .string (strOfNums x.2)][j]? = some v → w.cell? ((ad.add (i * 2)).add j) = some v := by
  obtain ⟨at1, at2⟩ := fldC_at hx
  refine h.part (i * 2) (vs := [Value.string (strOfNums x.1), .string (strOfNums x.2)]) ?_
  intro j v hj
  match j, hj with
  | 0, hj => simp only [List.getElem?_cons_zero, Option.some.injEq] at hj; subst hj; exact at1
  | 1, hj => simp only [List.getElem?_cons_succ, List.getElem?_cons_zero, Option.some.injEq] at hj; subst hj; exact at2
  | j + 2, hj => simp at hj
theorem rd_some {w : World} {B : Option Addr} {l : List Fld} (h : Rd w B (fldC l)) {i : Nat} (hi : i < l.length) : ∃ ad, B = some ad := by
  cases B with
  | none =>
    have := congrArg List.length (h.1 rfl)
    rw [fldC_len] at this
    simp only [List.length_nil] at this
    omega
  | some ad => exact ⟨ad, rfl⟩
set_option maxHeartbeats 4000000 in
theorem alike_c {w : World} {B1 B2 : Option Addr} {c1 c2 : Nat} {l : List Fld} (h1 : Rd w B1 (fldC l)) (h2 : Rd w B2 (fldC l)) (hl : l.length ≤ 100000000) :
    Calls Tryz.prog 17 #[.slice B1 l.length c1, .slice B2 l.length c2] w fun e w' => e = .returned (.bool true) ∧ Below w.heap.size w w' := by
  refine enter (args := [.slice B1 l.length c1, .slice B2 l.length c2]) Tryz.func17 rfl Tryz.ntmps17 rfl ?_
  have H := Hp.nil w
  repeat' (first | (first | (with_reducible refine p_tn ?_) | (with_reducible refine wp_seq ?_) | (with_reducible refine w_reg ?_)) | (first | (with_reducible refine l_nil ?_) | ((with_reducible refine g_on ?_); (first | ((with_reducible refine g_mv ?_); refine l_p txs rfl rfl ?_) | ((with_reducible refine g_as ?_); refine l_p txs rfl rfl ?_) | ((with_reducible refine g_cl ?_); refine l_p txs rfl rfl ?_)))))
  (with_reducible refine is_l ?_); refine l_t txs rfl rfl (fun hh => absurd rfl hh) (fun _ => ?_)
  repeat' (first | (first | (with_reducible refine p_tn ?_) | (with_reducible refine wp_seq ?_) | (with_reducible refine wp_block ?_) | (with_reducible refine w_reg ?_) | (with_reducible (refine is_if ?_; (refine w_iff rfl ?_))) | (with_reducible refine wp_skip ?_)) | (first | (with_reducible refine l_nil ?_) | ((with_reducible refine g_on ?_); ((with_reducible refine g_as ?_); refine l_p txs rfl rfl ?_))))
  refine w_loop (σ := Nat) (S := fun s => [(0, .slice B1 l.length c1), (1, .slice B2 l.length c2), (5, .int .i64 (s : Int))]) (J := fun s w' => Hp w w' [] [] ∧ s ≤ l.length) (μ := fun s => l.length - s) 0 ⟨rfl, rfl, rfl, trivial⟩ ⟨H, by omega⟩ ?_
  rintro i f w_ ⟨H, hi⟩
  repeat' (first | (first | (with_reducible refine wp_seq ?_) | (with_reducible refine w_reg ?_)) | ((with_reducible refine g_on ?_); (first | ((with_reducible refine g_mv ?_); refine l_p txs rfl rfl ?_) | ((with_reducible refine g_cl ?_); refine l_p txs rfl rfl ?_))))
  (with_reducible refine is_l ?_); refine l_t txs rfl rfl (fun hlt => ?_) (fun hge => ?_)
  · obtain ⟨x, hx⟩ : ∃ x, l[i]? = some x := ⟨_, List.getElem?_eq_getElem (by omega)⟩
    obtain ⟨a1, rfl⟩ := rd_some h1 (i := i) (by omega)
    obtain ⟨a2, rfl⟩ := rd_some h2 (i := i) (by omega)
    have q1 : ∀ (w1 : World), Below w.heap.size w w1 → ∀ (j : Nat) (v : Value), [Value.string (strOfNums x.1), .string (strOfNums x.2)][j]? = some v → w1.cell? ((a1.add ((i : Int).toNat * 2)).add j) = some v := fun w1 K => by rw [Int.toNat_natCast]; exact fld_part (h1.below K) hx
    have q2 : ∀ (w1 : World), Below w.heap.size w w1 → ∀ (j : Nat) (v : Value), [Value.string (strOfNums x.1), .string (strOfNums x.2)][j]? = some v → w1.cell? ((a2.add ((i : Int).toNat * 2)).add j) = some v := fun w1 K => by rw [Int.toNat_natCast]; exact fld_part (h2.below K) hx
    repeat' (first | (first | (with_reducible refine p_tn ?_) | (with_reducible refine wp_seq ?_) | (with_reducible refine wp_block ?_) | (with_reducible (refine is_if ?_; (refine w_ift rfl ?_))) | (with_reducible refine wp_skip ?_)) | (with_reducible refine l_nil ?_))
    have HS := H.pick [] [] (by decide) (by decide) rfl rfl
    refine d_start (fun w_ => Hp w w_ _ _) #[false, false, false, false, false, false, false, false, false] (by kernel_rfl) rfl rfl HS.drew ?_
    have H := H.drew
    have HS := HS.drew
    first | (refine d_pure (i := 0) #[true, false, false, false, false, false, false, false, false] rfl (by kernel_rfl) (fun _ _ _ h => h) rfl (fun w_ => evP_run (o := ⟨_, _, _, _, _, _⟩) txs rfl) ?_)
    first | (refine d_pure (i := 1) #[true, true, false, false, false, false, false, false, false] rfl (by kernel_rfl) (fun _ _ _ h => h) rfl (fun w_ => evP_run (o := ⟨_, _, _, _, _, _⟩) txs rfl) ?_)
    first | (refine d_pure (i := 2) #[true, true, true, false, false, false, false, false, false] rfl (by kernel_rfl) (fun _ _ _ h => h) rfl (fun w_ => evIA_run (o := ⟨_, _, _, _, _, _⟩) txs rfl (by omega) (by omega)) ?_)
    first | (refine d_take (i := 3) #[true, true, true, true, false, false, false, false, false] rfl (by kernel_rfl) (fun _ _ _ h => h) rfl (fun w_ K => evLA_run (o := ⟨_, _, _, _, _, _⟩) recs rfl rfl (q1 _ K.B) rfl) HS ?_)
    first | (refine d_pure (i := 4) #[true, true, true, true, true, false, false, false, false] rfl (by kernel_rfl) (fun _ _ _ h => h) rfl (fun w_ => evP_run (o := ⟨_, _, _, _, _, _⟩) txs rfl) ?_)
    first | (refine d_pure (i := 5) #[true, true, true, true, true, true, false, false, false] rfl (by kernel_rfl) (fun _ _ _ h => h) rfl (fun w_ => evP_run (o := ⟨_, _, _, _, _, _⟩) txs rfl) ?_)
    first | (refine d_pure (i := 6) #[true, true, true, true, true, true, true, false, false] rfl (by kernel_rfl) (fun _ _ _ h => h) rfl (fun w_ => evIA_run (o := ⟨_, _, _, _, _, _⟩) txs rfl (by omega) (by omega)) ?_)
    first | (refine d_take (i := 7) #[true, true, true, true, true, true, true, true, false] rfl (by kernel_rfl) (fun _ _ _ h => h) rfl (fun w_ K => evLA_run (o := ⟨_, _, _, _, _, _⟩) recs rfl rfl (q2 _ K.B) rfl) HS ?_)
    first | (refine d_pure (i := 8) #[true, true, true, true, true, true, true, true, true] rfl (by kernel_rfl) (fun _ _ _ h => h) rfl (fun w_ => neqF_run (o := ⟨_, _, _, _, _, _⟩) rfl rfl rfl rfl rfl) ?_)
    refine d_done rfl ?_
    repeat' (first | (first | (with_reducible refine p_tn ?_) | (with_reducible refine p_bn ?_) | (with_reducible refine w_reg ?_) | (with_reducible (refine is_if ?_; (refine w_iff rfl ?_))) | (with_reducible refine wp_skip ?_)) | (first | (with_reducible refine l_nil ?_) | ((with_reducible refine g_on ?_); (first | ((with_reducible refine g_mv ?_); refine l_p txs rfl rfl ?_) | ((with_reducible refine g_as ?_); refine l_p txs rfl rfl ?_) | ((with_reducible refine g_bi ?_); (refine l_a txs rfl rfl (by first | exact in_i64 (by omega) (by omega) | exact in_u8 (by omega) (by omega) | exact in_u64 (by omega) (by omega) | exact in_i32 (by omega) (by omega)) ?_))))))
    refine ⟨i + 1, _, rfl, ⟨rfl, rfl, rfl, trivial⟩, ⟨H, by omega⟩, by omega⟩
  · repeat' (first | (first | (with_reducible refine p_tn ?_) | (with_reducible refine p_tx ?_) | (with_reducible refine x_hit ?_) | (with_reducible refine wp_seq ?_) | (with_reducible refine w_reg ?_) | (with_reducible (refine is_if ?_; (refine w_iff rfl ?_))) | (with_reducible refine wp_exit ?_) | (with_reducible refine wp_ret ?_)) | (first | (with_reducible refine l_nil ?_) | ((with_reducible refine g_on ?_); ((with_reducible refine g_as ?_); refine l_p txs rfl rfl ?_))))
    refine end1 rfl rfl ?_
    exact ⟨rfl, H.B⟩
end Go.Proofs.YthgojbdpmcccaaaGreatDoor.K
end
section
namespace Go.Proofs.YthgojbdpmcccaaaGreatDoor.K
open Go.RowKit Go.Proofs.YthgojbdpmcccaaaGreatDoor.Q Go.Proofs.YthgojbdpmcccaaaGreatDoor.Wb Go.Proofs.YthgojbdpmcccaaaGreatDoorW.PrintWords
set_option linter.unusedVariables false
set_option linter.unusedSimpArgs false
theorem eq_bool (a : Bool) (w : World) : (binOp .eql 4 (.bool a) (.bool a)).run Tryz.prog w = .ok (.bool true) w := by
  rw [run_eql_bool w _ a a Tryz.underlying4]
  simp
set_option maxRecDepth 100000 in
set_option maxHeartbeats 4000000 in
theorem pairs_c {w : World} (r : ResS) {F1 F2 B1 B2 : Option Addr} {f1 f2 b1 b2 : Nat} (h1 : Rd w F1 (fldC r.fields)) (h2 : Rd w F2 (fldC r.fields)) (k1 : ReadsInt w .u8 B1 r.body.length r.body) (k2 : ReadsInt w .u8 B2 r.body.length r.body) (hl : r.fields.length ≤ 100000000) :
    Calls Tryz.prog 30 #[.agg (resA r F1 f1 B1 b1), .agg (resA r F2 f2 B2 b2)] w fun e w' => e = .returned (.bool true) ∧ Below w.heap.size w w' := by
  refine enter (args := [.agg (resA r F1 f1 B1 b1), .agg (resA r F2 f2 B2 b2)]) Tryz.func30 rfl Tryz.ntmps30 rfl ?_
  have H := Hp.nil w
  repeat' (first | (first | (with_reducible refine p_tn ?_) | (with_reducible refine wp_seq ?_) | (with_reducible refine w_reg ?_)) | (first | (with_reducible refine l_nil ?_) | ((with_reducible refine g_on ?_); (first | ((with_reducible refine g_as ?_); refine l_p txs rfl rfl ?_) | ((with_reducible refine g_fa ?_); refine h_fa flds rfl rfl ?_) | ((with_reducible refine g_ld ?_); (first | (refine h_ld txs H 0 rfl rfl rfl rfl ?_) | (refine h_ld txs H 1 rfl rfl rfl rfl ?_))) | ((with_reducible refine g_bx ?_); refine h_box H rfl rfl rfl (fun g_ w_ H => ?_))))))
  (with_reducible refine is_l ?_); refine l_t txs rfl rfl (fun _ => ?_) (fun hh => absurd rfl hh)
  repeat' (first | ((with_reducible refine g_on ?_); ((with_reducible refine g_mv ?_); refine l_p txs rfl rfl ?_)) | ((with_reducible refine g_if ?_); (first | ((with_reducible refine g_fa ?_); refine h_fa flds rfl rfl ?_) | ((with_reducible refine g_ld ?_); (first | (refine h_ld txs H 0 rfl rfl rfl rfl ?_) | (refine h_ld txs H 1 rfl rfl rfl rfl ?_))))))
  (with_reducible refine is_l ?_); refine l_t txs rfl rfl (fun _ => ?_) (fun hh => absurd rfl hh)
  repeat' (first | ((with_reducible refine g_on ?_); (first | ((with_reducible refine g_mv ?_); refine l_p txs rfl rfl ?_) | ((with_reducible refine g_pk ?_); refine l_p txs rfl rfl ?_))) | ((with_reducible refine g_if ?_); (first | ((with_reducible refine g_fa ?_); refine h_fa flds rfl rfl ?_) | ((with_reducible refine g_ld ?_); (first | (refine h_ld txs H 0 rfl rfl rfl rfl ?_) | (refine h_ld txs H 1 rfl rfl rfl rfl ?_))))))
  (with_reducible refine is_l ?_); refine l_eq rfl rfl rfl (fun _ _ => .inl (by simp)) (.inl (by simp)) (eq_bool r.close _) ?_
  repeat' (first | ((with_reducible refine g_on ?_); (first | ((with_reducible refine g_mv ?_); refine l_p txs rfl rfl ?_) | ((with_reducible refine g_pk ?_); refine l_p txs rfl rfl ?_))) | ((with_reducible refine g_if ?_); (first | ((with_reducible refine g_fa ?_); refine h_fa flds rfl rfl ?_) | ((with_reducible refine g_ld ?_); (first | (refine h_ld txs H 0 rfl rfl rfl rfl ?_) | (refine h_ld txs H 1 rfl rfl rfl rfl ?_))))))
  (with_reducible refine is_l ?_); refine l_callv rfl rfl (by kernel_rfl) (alike_c (h1.below H.B) (h2.below H.B) hl) (fun w_ K => ?_)
  have H := H.call K
  repeat' (first | ((with_reducible refine g_on ?_); (first | ((with_reducible refine g_mv ?_); refine l_p txs rfl rfl ?_) | ((with_reducible refine g_pk ?_); refine l_p txs rfl rfl ?_))) | ((with_reducible refine g_if ?_); (first | ((with_reducible refine g_fa ?_); refine h_fa flds rfl rfl ?_) | ((with_reducible refine g_ld ?_); (refine h_ld txs H 1 rfl rfl rfl rfl ?_)))))
  (with_reducible refine is_l ?_); refine l_text rfl rfl Tryz.underlying23 Tryz.underlying5 Tryz.underlying9 (k1.below H.B) ?_
  repeat' ((with_reducible refine g_if ?_); (first | ((with_reducible refine g_fa ?_); refine h_fa flds rfl rfl ?_) | ((with_reducible refine g_ld ?_); (refine h_ld txs H 0 rfl rfl rfl rfl ?_))))
  (with_reducible refine is_l ?_); refine l_text rfl rfl Tryz.underlying23 Tryz.underlying5 Tryz.underlying9 (k2.below H.B) ?_
  (with_reducible refine is_l ?_); refine l_t txs rfl rfl (fun _ => ?_) (fun hh => absurd rfl hh)
  repeat' (first | (first | (with_reducible refine p_tn ?_) | (with_reducible refine wp_ret ?_)) | (first | (with_reducible refine l_nil ?_) | ((with_reducible refine g_on ?_); (first | ((with_reducible refine g_as ?_); refine l_p txs rfl rfl ?_) | ((with_reducible refine g_pk ?_); refine l_p txs rfl rfl ?_)))))
  refine end1 rfl rfl ?_
  exact ⟨rfl, H.B⟩
/-- The bytes with x behind them. -/
def padN (pad : Int) : Nat := if pad < 1100000 then pad.toNat else 1100000
def padS (b : L) (pad : Int) : L := b ++ List.replicate (padN pad) 120
set_option maxHeartbeats 4000000 in
theorem padded_c {w : World} {B : Option Addr} {c : Nat} {b : L} (h : ReadsInt w .u8 B b.length b) (pad : Int) (hs : b.length ≤ 1000000000) :
    Calls Tryz.prog 20 #[.slice B b.length c, .int .i64 pad] w fun e w' => ∃ A1 c1, e = .returned (.slice A1 (padS b pad).length c1) ∧ Hp w w' [] [rowB (.slice A1 (padS b pad).length c1) (padS b pad)] := by
  refine enter (args := [.slice B b.length c, .int .i64 pad]) Tryz.func20 rfl Tryz.ntmps20 rfl ?_
  have H := (Hp.nil w).nilRow 5 1
  repeat' (first | (first | (with_reducible refine p_tn ?_) | (with_reducible refine wp_seq ?_) | (with_reducible refine w_reg ?_)) | (first | (with_reducible refine l_nil ?_) | ((with_reducible refine g_on ?_); (first | ((with_reducible refine g_mv ?_); refine l_p txs rfl rfl ?_) | ((with_reducible refine g_as ?_); refine l_p txs rfl rfl ?_)))))
  (with_reducible refine is_l ?_); refine h_app H 0 rfl info_u8 Tryz.underlying23 rfl rfl rfl rfl (rd_of_reads (h.below H.B)) (by simp [nums]) (by simp [nums, List.all_map]; intros; rfl) (by show (0 + b.length) * 1 ≤ _; omega) (fun v w_ hv H => ?_)
  obtain ⟨A1, c1, rfl⟩ := hv
  have H := H.pick [] [0] (by decide) (by decide) rfl rfl
  simp only [Nat.zero_add, List.nil_append] at H
  rw [Nat.zero_add]
  repeat' (first | (first | (with_reducible refine p_tn ?_) | (with_reducible refine wp_seq ?_) | (with_reducible refine wp_block ?_) | (with_reducible refine w_reg ?_)) | (first | (with_reducible refine l_nil ?_) | ((with_reducible refine g_on ?_); ((with_reducible refine g_as ?_); refine l_p txs rfl rfl ?_))))
  refine w_loop (σ := Nat × Option Addr × Nat) (S := fun s => [(1, .int .i64 pad), (5, .slice s.2.1 (b ++ List.replicate s.1 120).length s.2.2), (6, .int .i64 (s.1 : Int))])
    (J := fun s w' => Hp w w' [] [rowB (.slice s.2.1 (b ++ List.replicate s.1 120).length s.2.2) (b ++ List.replicate s.1 120)] ∧ s.1 ≤ padN pad) (μ := fun s => padN pad - s.1) (0, A1, c1) ⟨rfl, by show Value.slice A1 b.length c1 = _; simp, rfl, trivial⟩ ⟨by simpa using H, by omega⟩ ?_
  rintro ⟨k, A2, c2⟩ f w_ ⟨H, hk⟩
  simp only at H hk ⊢
  have hp : padN pad ≤ 1100000 := by unfold padN; split <;> omega
  have fin : padN pad ≤ k → ∃ A1' c1', Value.slice A2 (b ++ List.replicate k 120).length c2 = Value.slice A1' (padS b pad).length c1' ∧ Hp w w_ [] [rowB (.slice A1' (padS b pad).length c1') (padS b pad)] := by
    intro hle
    have : k = padN pad := by omega
    subst this
    exact ⟨A2, c2, rfl, H⟩
  repeat' (first | (first | (with_reducible refine wp_seq ?_) | (with_reducible refine w_reg ?_)) | ((with_reducible refine g_on ?_); ((with_reducible refine g_mv ?_); refine l_p txs rfl rfl ?_)))
  (with_reducible refine is_l ?_); refine l_t txs rfl rfl (fun h1 => ?_) (fun h1 => ?_)
  · repeat' (first | ((with_reducible refine g_on ?_); ((with_reducible refine g_mv ?_); refine l_p txs rfl rfl ?_)) | ((with_reducible refine g_if ?_); ((with_reducible refine g_mv ?_); refine l_p txs rfl rfl ?_)))
    (with_reducible refine is_l ?_); refine l_t txs rfl rfl (fun h2 => ?_) (fun h2 => ?_)
    · have hlt : k < padN pad := by unfold padN; split <;> omega
      have hlen : (b ++ List.replicate k (120 : Int)).length = b.length + k := by simp
      repeat' (first | (first | (with_reducible refine p_tn ?_) | (with_reducible refine wp_seq ?_) | (with_reducible refine wp_block ?_) | (with_reducible refine w_reg ?_) | (with_reducible (refine is_if ?_; (refine w_ift rfl ?_))) | (with_reducible refine wp_skip ?_)) | (first | (with_reducible refine l_nil ?_) | ((with_reducible refine g_on ?_); (first | ((with_reducible refine g_mv ?_); refine l_p txs rfl rfl ?_) | ((with_reducible refine g_pk ?_); refine l_p txs rfl rfl ?_)))))
      (with_reducible refine is_l ?_); refine h_bs H info_u8 Tryz.underlying23 (by decide) (by decide) rfl rfl (by kernel_rfl) (fun g_ w_ H => ?_)
      (with_reducible refine is_l ?_); refine h_app H 0 rfl info_u8 Tryz.underlying23 rfl rfl rfl rfl (H.cellRd 0 rfl) rfl rfl (by show ((b ++ List.replicate k (120 : Int)).length + 1) * 1 ≤ _; omega) (fun v w_ hv H => ?_)
      obtain ⟨A', c', rfl⟩ := hv
      have e1 : b ++ List.replicate (k + 1) (120 : Int) = (b ++ List.replicate k 120) ++ [120] := by rw [List.append_assoc, List.replicate_succ']
      have e2 : (b ++ List.replicate (k + 1) (120 : Int)).length = (b ++ List.replicate k (120 : Int)).length + 1 := by simp; omega
      have H := H.pick [] [0] (by decide) (by decide) rfl rfl
      repeat' (first | (first | (with_reducible refine p_tn ?_) | (with_reducible refine p_bn ?_) | (with_reducible refine w_reg ?_)) | (first | (with_reducible refine l_nil ?_) | ((with_reducible refine g_on ?_); (first | ((with_reducible refine g_mv ?_); refine l_p txs rfl rfl ?_) | ((with_reducible refine g_as ?_); refine l_p txs rfl rfl ?_) | ((with_reducible refine g_bi ?_); (refine l_a txs rfl rfl (by first | exact in_i64 (by omega) (by omega) | exact in_u8 (by omega) (by omega) | exact in_u64 (by omega) (by omega) | exact in_i32 (by omega) (by omega)) ?_))))))
      refine ⟨(k + 1, A', c'), _, rfl, ⟨rfl, ?_, rfl, trivial⟩, ⟨?_, by show k + 1 ≤ _; omega⟩, by show _ - (k + 1) < _ - k; omega⟩
      · show Value.slice A' ((b ++ List.replicate k (120 : Int)).length + 1) c' = Value.slice A' (b ++ List.replicate (k + 1) (120 : Int)).length c'
        rw [e2]
      · show Hp w _ [] [rowB (.slice A' (b ++ List.replicate (k + 1) (120 : Int)).length c') (b ++ List.replicate (k + 1) (120 : Int))]
        unfold rowB
        rw [e2, e1]
        have e3 : nums .u8 ((b ++ List.replicate k (120 : Int)) ++ [120]) = nums .u8 (b ++ List.replicate k 120) ++ [.int .u8 120] := by rw [nums_append]; rfl
        rw [e3]
        exact H
    · repeat' (first | (first | (with_reducible refine p_tn ?_) | (with_reducible refine p_tx ?_) | (with_reducible refine x_hit ?_) | (with_reducible refine wp_seq ?_) | (with_reducible refine w_reg ?_) | (with_reducible (refine is_if ?_; (refine w_iff rfl ?_))) | (with_reducible refine wp_exit ?_) | (with_reducible refine wp_ret ?_)) | (first | (with_reducible refine l_nil ?_) | ((with_reducible refine g_on ?_); (first | ((with_reducible refine g_mv ?_); refine l_p txs rfl rfl ?_) | ((with_reducible refine g_as ?_); refine l_p txs rfl rfl ?_) | ((with_reducible refine g_pk ?_); refine l_p txs rfl rfl ?_)))))
      refine end1 rfl rfl ?_
      obtain ⟨A', c', e1, e2⟩ := fin (by unfold padN; split <;> omega)
      exact ⟨A', c', by rw [e1], e2⟩
  · repeat' (first | (first | (with_reducible refine p_tn ?_) | (with_reducible refine p_tx ?_) | (with_reducible refine x_hit ?_) | (with_reducible refine wp_seq ?_) | (with_reducible refine w_reg ?_) | (with_reducible (refine is_if ?_; (refine w_iff rfl ?_))) | (with_reducible refine wp_exit ?_) | (with_reducible refine wp_ret ?_)) | (first | (with_reducible refine l_nil ?_) | ((with_reducible refine g_on ?_); (first | ((with_reducible refine g_mv ?_); refine l_p txs rfl rfl ?_) | ((with_reducible refine g_as ?_); refine l_p txs rfl rfl ?_) | ((with_reducible refine g_pk ?_); refine l_p txs rfl rfl ?_))) | ((with_reducible refine g_if ?_); (refine l_off rfl ?_))))
    refine end1 rfl rfl ?_
    obtain ⟨A', c', e1, e2⟩ := fin (by unfold padN; split <;> omega)
    exact ⟨A', c', by rw [e1], e2⟩
def knownB : L := [80, 85, 84, 32, 47, 97, 32, 72, 84, 84, 80, 47, 49, 46, 49, 13, 10, 72, 111, 115, 116, 58, 32, 98, 13, 10, 67, 111, 110, 116, 101, 110, 116, 45, 76, 101, 110, 103, 116, 104, 58, 32, 50, 13, 10, 13, 10, 104, 105, 33]
theorem known_parse : parseReqS knownB = .ok (⟨[80, 85, 84], [47, 97], 1, [([72, 111, 115, 116], [98]), ([67, 111, 110, 116, 101, 110, 116, 45, 76, 101, 110, 103, 116, 104], [50])], [104, 105], false⟩, 49) := by kernel_rfl
theorem info_u8a : (Tryz.prog.info? 5).map (·.size) = some 1 := by kernel_rfl
theorem info_u8b : ((Tryz.prog.info? 5).bind (·.zero)).isSome = true := by kernel_rfl
set_option maxRecDepth 100000 in
set_option maxHeartbeats 8000000 in
theorem known_c {A : Nat → Addr} {w : World} (hE : LayS A w) {mx : Int} (hM : w.cell? ⟨20, 0, none⟩ = some (.int .i64 mx)) {tM : TypeId} {frM : Nat × Nat} (hT : w.heap[17]? = some (.cells meC tM frM)) :
    Calls Tryz.prog 13 #[] w fun e w' => e = .returned (.bool true) ∧ Below w.heap.size w w' := by
  have hTb : ∀ w1, Below w.heap.size w w1 → w1.heap[17]? = some (.cells meC tM frM) := fun w1 K => (K.block _ (blk_lt hT)).trans hT
  refine enter (args := []) Tryz.func13 rfl Tryz.ntmps13 rfl ?_
  have H := Hp.nil w
  repeat' (first | (first | (with_reducible refine p_tn ?_) | (with_reducible refine wp_seq ?_) | (with_reducible refine w_reg ?_)) | (first | (with_reducible refine l_nil ?_) | ((with_reducible refine g_on ?_); ((with_reducible refine g_as ?_); refine l_p txs rfl rfl ?_))))
  refine h_bytes H knownB Tryz.underlying23 Tryz.underlying5 info_u8a info_u8b rfl (by decide) (by decide) (by kernel_rfl) rfl (fun g_ w_ H hR => ?_)
  have hcall := ParseRequest_c (hE.below H.B) (H.old hM) (hTb _ H.B) (b := knownB) (c := 50) hR (by decide) (fun e => by cases e) (by unfold Bytes; decide) (by decide)
  (with_reducible refine is_l ?_); refine l_call rfl rfl (by kernel_rfl) hcall (fun e w_ hR => ?_)
  unfold PrR at hR
  rw [known_parse] at hR
  obtain ⟨Bf, cf, Bb, cb, rfl, K⟩ := hR
  refine ⟨_, rfl, ?_⟩
  have H := H.join K
  have O1 := H.row 1 _ rfl
  repeat' (first | (first | (with_reducible refine p_tn ?_) | (with_reducible refine wp_seq ?_) | (with_reducible refine w_reg ?_)) | (first | (with_reducible refine l_nil ?_) | ((with_reducible refine g_on ?_); (first | ((with_reducible refine g_mv ?_); refine l_p txs rfl rfl ?_) | ((with_reducible refine g_as ?_); refine l_p txs rfl rfl ?_) | ((with_reducible refine g_ex ?_); refine l_p txs rfl rfl ?_) | ((with_reducible refine g_st ?_); (refine h_stR recs H 0 rfl rfl rfl rfl rfl rfl rfl rfl rfl (fun w_ H => ?_))) | ((with_reducible refine g_al ?_); refine h_alloc recs H rfl rfl (fun g_ w_ H => ?_))))))
  (with_reducible refine is_l ?_); refine l_t txs rfl rfl (fun _ => ?_) (fun hh => absurd rfl hh)
  repeat' (first | ((with_reducible refine g_on ?_); ((with_reducible refine g_mv ?_); refine l_p txs rfl rfl ?_)) | ((with_reducible refine g_if ?_); ((with_reducible refine g_mv ?_); refine l_p txs rfl rfl ?_)))
  (with_reducible refine is_l ?_); refine l_t txs rfl rfl (fun _ => ?_) (fun hh => absurd rfl hh)
  repeat' (first | ((with_reducible refine g_on ?_); (first | ((with_reducible refine g_mv ?_); refine l_p txs rfl rfl ?_) | ((with_reducible refine g_pk ?_); refine l_p txs rfl rfl ?_))) | ((with_reducible refine g_if ?_); (first | ((with_reducible refine g_fa ?_); refine h_fa flds rfl rfl ?_) | ((with_reducible refine g_ld ?_); (refine h_ld txs H 0 rfl rfl rfl rfl ?_)))))
  (with_reducible refine is_l ?_); refine l_t txs rfl rfl (fun _ => ?_) (fun hh => absurd rfl hh)
  repeat' (first | ((with_reducible refine g_on ?_); (first | ((with_reducible refine g_mv ?_); refine l_p txs rfl rfl ?_) | ((with_reducible refine g_pk ?_); refine l_p txs rfl rfl ?_))) | ((with_reducible refine g_if ?_); (first | ((with_reducible refine g_fa ?_); refine h_fa flds rfl rfl ?_) | ((with_reducible refine g_ld ?_); (refine h_ld txs H 0 rfl rfl rfl rfl ?_)))))
  (with_reducible refine is_l ?_); refine l_t txs rfl rfl (fun _ => ?_) (fun hh => absurd rfl hh)
  repeat' (first | ((with_reducible refine g_on ?_); (first | ((with_reducible refine g_mv ?_); refine l_p txs rfl rfl ?_) | ((with_reducible refine g_pk ?_); refine l_p txs rfl rfl ?_))) | ((with_reducible refine g_if ?_); (first | ((with_reducible refine g_fa ?_); refine h_fa flds rfl rfl ?_) | ((with_reducible refine g_ld ?_); (refine h_ld txs H 0 rfl rfl rfl rfl ?_)))))
  (with_reducible refine is_l ?_); refine l_t txs rfl rfl (fun _ => ?_) (fun hh => absurd rfl hh)
  repeat' (first | ((with_reducible refine g_on ?_); (first | ((with_reducible refine g_mv ?_); refine l_p txs rfl rfl ?_) | ((with_reducible refine g_pk ?_); refine l_p txs rfl rfl ?_))) | ((with_reducible refine g_if ?_); (first | ((with_reducible refine g_fa ?_); refine h_fa flds rfl rfl ?_) | ((with_reducible refine g_ld ?_); (refine h_ld txs H 0 rfl rfl rfl rfl ?_)) | ((with_reducible refine g_cl ?_); refine l_p txs rfl rfl ?_))))
  (with_reducible refine is_l ?_); refine l_t txs rfl rfl (fun _ => ?_) (fun hh => absurd rfl hh)
  repeat' (first | ((with_reducible refine g_on ?_); (first | ((with_reducible refine g_mv ?_); refine l_p txs rfl rfl ?_) | ((with_reducible refine g_pk ?_); refine l_p txs rfl rfl ?_))) | ((with_reducible refine g_if ?_); (first | ((with_reducible refine g_fa ?_); refine h_fa flds rfl rfl ?_) | ((with_reducible refine g_ld ?_); (refine h_ld txs H 0 rfl rfl rfl rfl ?_)))))
  obtain ⟨A3, c3, e3, _, R3⟩ := own_reads_of_le (enc := Value.int .u8) (d := (0 : Int)) (xs := [104, 105]) (H.row 1 _ rfl)
  cases e3
  (with_reducible refine is_l ?_); refine l_text rfl rfl Tryz.underlying23 Tryz.underlying5 Tryz.underlying9 (readsInt_of.2 R3) ?_
  skip
  (with_reducible refine is_l ?_); refine l_t txs rfl rfl (fun _ => ?_) (fun hh => absurd rfl hh)
  repeat' (first | (first | (with_reducible refine p_tn ?_) | (with_reducible refine wp_ret ?_)) | (first | (with_reducible refine l_nil ?_) | ((with_reducible refine g_on ?_); (first | ((with_reducible refine g_mv ?_); refine l_p txs rfl rfl ?_) | ((with_reducible refine g_as ?_); refine l_p txs rfl rfl ?_) | ((with_reducible refine g_pk ?_); refine l_p txs rfl rfl ?_))) | ((with_reducible refine g_if ?_); (first | ((with_reducible refine g_fa ?_); refine h_fa flds rfl rfl ?_) | ((with_reducible refine g_ld ?_); (refine h_ld txs H 0 rfl rfl rfl rfl ?_)) | ((with_reducible refine g_un ?_); (refine l_p txs rfl rfl ?_))))))
  refine end1 rfl rfl ?_
  exact ⟨rfl, H.B⟩
end Go.Proofs.YthgojbdpmcccaaaGreatDoor.K
end
section
namespace Go.Proofs.YthgojbdpmcccaaaGreatDoor.K
open Go.RowKit Go.Proofs.YthgojbdpmcccaaaGreatDoor.Q Go.Proofs.YthgojbdpmcccaaaGreatDoor.Wb Go.Proofs.YthgojbdpmcccaaaGreatDoorW.PrintWords
set_option linter.unusedVariables false
set_option linter.unusedSimpArgs false
def zS : ResS := ⟨0, 0, [], [], false⟩
def outRes (b : L) : ResS × Nat × Nat := match parseResS b with | .ok (r, n) => (r, n, 0) | .error k => (zS, 0, k)
abbrev rowsR (F : Option Addr) (f : Nat) (l : List Fld) (B : Option Addr) (c : Nat) (b : L) : List RowD := [rowF (.slice F l.length f) l, rowB (.slice B b.length c) b]
theorem ptR_out {w : World} {b : L} {e : Ending} {w' : World} (h : PtR w b e w') : ∃ F f B c, e = .returned (.tuple #[.agg (resA (outRes b).1 F f B c), .int .i64 ((outRes b).2.1 : Int), .int .i64 ((outRes b).2.2 : Int)]) ∧ Hp w w' [] (rowsR F f (outRes b).1.fields B c (outRes b).1.body) := by
  unfold PtR at h
  unfold outRes
  cases hp : parseResS b with
  | error k =>
    rw [hp] at h
    obtain ⟨rfl, H⟩ := h
    exact ⟨none, 0, none, 0, rfl, ((H.nilRow 5 1).nilRow 95 2).pick [] [0, 1] (by decide) (by decide) rfl rfl⟩
  | ok z =>
    obtain ⟨r, n⟩ := z
    rw [hp] at h
    obtain ⟨F, f, B, c, rfl, H⟩ := h
    exact ⟨F, f, B, c, rfl, H⟩
theorem rowF_rd {w0 w : World} {l : List Ent} {r : List RowD} (H : Hp w0 w l r) (k : Nat) {F : Option Addr} {f : Nat} {x : List Fld} (hk : r[k]? = some (rowF (.slice F x.length f) x)) : Rd w F (fldC x) := by
  obtain ⟨A0, c0, he, _, hr, _⟩ := H.rd k hk
  cases he
  exact hr
theorem rowB_rd {w0 w : World} {l : List Ent} {r : List RowD} (H : Hp w0 w l r) (k : Nat) {F : Option Addr} {f : Nat} {x : L} (hk : r[k]? = some (rowB (.slice F x.length f) x)) : ReadsInt w .u8 F x.length x ∧ x.length ≤ f ∧ (F = none → f = 0 ∧ x.length = 0) := by
  obtain ⟨A0, c0, he, hle, hr, hn⟩ := H.rd k hk
  cases he
  obtain ⟨A3, c3, e3, _, R3⟩ := own_reads_of_le (enc := Value.int .u8) (d := (0 : Int)) (xs := x) (H.row k _ hk)
  cases e3
  exact ⟨readsInt_of.2 R3, hle, hn⟩
end Go.Proofs.YthgojbdpmcccaaaGreatDoor.K
end
section
namespace Go.Proofs.YthgojbdpmcccaaaGreatDoor.K
open Go.RowKit Go.Proofs.YthgojbdpmcccaaaGreatDoor.Q Go.Proofs.YthgojbdpmcccaaaGreatDoor.Wb Go.Proofs.YthgojbdpmcccaaaGreatDoorW.PrintWords
set_option linter.unusedVariables false
set_option linter.unusedSimpArgs false
theorem headLen_cons (x : Fld) (l : List Fld) : headLen (x :: l) = (x.1.length + 2 + x.2.length + 2) + headLen l := by
  unfold headLen; simp only [List.map_cons, List.sum_cons]; omega
theorem headLen_take {l : List Fld} {i : Nat} {x : Fld} (h : l[i]? = some x) : headLen (l.take (i + 1)) = headLen (l.take i) + (x.1.length + 2 + x.2.length + 2) := by
  have hi : i < l.length := (List.getElem?_eq_some_iff.1 h).1
  have hx : l[i] = x := (List.getElem?_eq_some_iff.1 h).2
  unfold headLen
  rw [List.take_succ_eq_append_getElem hi, hx]
  simp only [List.map_append, List.map_cons, List.map_nil, List.sum_append, List.sum_cons, List.sum_nil]
  omega
theorem headLen_le {l : List Fld} (hb : BytesF l) : headLen l ≤ 2 + l.length * 200000004 := by
  induction l with
  | nil => simp [headLen]
  | cons x l ih =>
    have hx := hb x (by simp)
    have := ih (fun y hy => hb y (by simp [hy]))
    rw [headLen_cons, List.length_cons]
    omega
set_option maxHeartbeats 4000000 in
theorem long_c {w : World} {B : Option Addr} {c : Nat} {l : List Fld} (h : Rd w B (fldC l)) (hb : BytesF l) (hl : l.length ≤ 10000000) :
    Calls Tryz.prog 66 #[.slice B l.length c] w fun e w' => e = .returned (.bool (decide (16384 < headLen l))) ∧ Below w.heap.size w w' := by
  refine enter (args := [.slice B l.length c]) Tryz.func66 rfl Tryz.ntmps66 rfl ?_
  have H := Hp.nil w
  repeat' (first | (first | (with_reducible refine p_tn ?_) | (with_reducible refine wp_seq ?_) | (with_reducible refine wp_block ?_) | (with_reducible refine w_reg ?_)) | (first | (with_reducible refine l_nil ?_) | ((with_reducible refine g_on ?_); (first | ((with_reducible refine g_mv ?_); refine l_p txs rfl rfl ?_) | ((with_reducible refine g_as ?_); refine l_p txs rfl rfl ?_) | ((with_reducible refine g_cl ?_); refine l_p txs rfl rfl ?_)))))
  refine w_loop (σ := Nat) (S := fun s => [(3, .int .i64 (headLen (l.take s) : Int)), (6, .slice B l.length c), (7, .int .i64 (l.length : Int)), (8, .int .i64 (s : Int))]) (J := fun s w' => Hp w w' [] [] ∧ s ≤ l.length) (μ := fun s => l.length - s) 0 ⟨rfl, rfl, rfl, rfl, trivial⟩ ⟨H, by omega⟩ ?_
  rintro i f w_ ⟨H, hi⟩
  repeat' (first | (with_reducible refine wp_seq ?_) | (with_reducible refine w_reg ?_))
  (with_reducible refine is_l ?_); refine l_t txs rfl rfl (fun hlt => ?_) (fun hge => ?_)
  · obtain ⟨x, hx⟩ : ∃ x, l[i]? = some x := ⟨_, List.getElem?_eq_getElem (by omega)⟩
    obtain ⟨a1, rfl⟩ := rd_some h (i := i) (by omega)
    obtain ⟨bx1, bx2, lx1, lx2⟩ := hb x (List.mem_of_getElem? hx)
    have zx1 := sizeS' bx1
    have zx2 := sizeS' bx2
    have ht := headLen_take hx
    have hle := headLen_le (l := l.take i) (fun y hy => hb y (List.mem_of_mem_take hy))
    rw [List.length_take_of_le (by omega)] at hle
    repeat' (first | (first | (with_reducible refine p_tn ?_) | (with_reducible refine wp_seq ?_) | (with_reducible refine wp_block ?_) | (with_reducible refine w_reg ?_) | (with_reducible (refine is_if ?_; (refine w_ift rfl ?_))) | (with_reducible refine wp_skip ?_)) | (first | (with_reducible refine l_nil ?_) | ((with_reducible refine g_on ?_); ((with_reducible refine g_ia ?_); refine l_ia txs rfl rfl (by first | omega | assumption | decide) (by first | omega | assumption | decide) ?_))))
    rw [Int.toNat_natCast]
    (with_reducible refine is_l ?_); refine h_ldA recs (fld_part (h.below H.B) hx) rfl rfl rfl rfl ?_
    repeat' (first | (first | (with_reducible refine p_tn ?_) | (with_reducible refine p_bn ?_) | (with_reducible refine w_reg ?_)) | (first | (with_reducible refine l_nil ?_) | ((with_reducible refine g_on ?_); (first | ((with_reducible refine g_mv ?_); refine l_p txs rfl rfl ?_) | ((with_reducible refine g_as ?_); refine l_p txs rfl rfl ?_) | ((with_reducible refine g_fa ?_); refine h_fa flds rfl rfl ?_) | ((with_reducible refine g_ld ?_); (refine h_ld txs H 0 rfl rfl rfl rfl ?_)) | ((with_reducible refine g_st ?_); (refine h_stR recs H 0 rfl rfl rfl rfl rfl rfl rfl rfl rfl (fun w_ H => ?_))) | ((with_reducible refine g_al ?_); refine h_alloc recs H rfl rfl (fun g_ w_ H => ?_)) | ((with_reducible refine g_cl ?_); refine l_p txs rfl rfl ?_) | ((with_reducible refine g_bi ?_); (refine l_a txs rfl rfl (by first | exact in_i64 (by omega) (by omega) | exact in_u8 (by omega) (by omega) | exact in_u64 (by omega) (by omega) | exact in_i32 (by omega) (by omega)) ?_))))))
    refine ⟨i + 1, _, rfl, ⟨?_, rfl, rfl, rfl, trivial⟩, ⟨H.pick [] [] (by decide) (by decide) rfl rfl, by omega⟩, by omega⟩
    show Value.int .i64 _ = Value.int .i64 _
    congr 1
    omega
  · have hall : l.take i = l := List.take_of_length_le (by omega)
    rw [hall]
    repeat' (first | (first | (with_reducible refine p_tn ?_) | (with_reducible refine p_tx ?_) | (with_reducible refine x_hit ?_) | (with_reducible refine wp_seq ?_) | (with_reducible refine w_reg ?_) | (with_reducible (refine is_if ?_; (refine w_iff rfl ?_))) | (with_reducible refine wp_exit ?_)) | (first | (with_reducible refine l_nil ?_) | ((with_reducible refine g_on ?_); ((with_reducible refine g_mv ?_); refine l_p txs rfl rfl ?_))))
    (with_reducible refine is_l ?_); refine l_t txs rfl rfl (fun h1 => ?_) (fun h1 => ?_)
    · repeat' (first | (first | (with_reducible refine p_tn ?_) | (with_reducible refine wp_ret ?_)) | (first | (with_reducible refine l_nil ?_) | ((with_reducible refine g_on ?_); ((with_reducible refine g_as ?_); refine l_p txs rfl rfl ?_))))
      refine end1 rfl rfl ?_
      exact ⟨by rw [decide_eq_true (by omega)], H.B⟩
    · repeat' (first | (first | (with_reducible refine p_tn ?_) | (with_reducible refine wp_ret ?_)) | (first | (with_reducible refine l_nil ?_) | ((with_reducible refine g_on ?_); ((with_reducible refine g_as ?_); refine l_p txs rfl rfl ?_))))
      refine end1 rfl rfl ?_
      exact ⟨by rw [decide_eq_false (by omega)], H.B⟩
/-- What checkFields says. -/
def chkS (l : List Fld) : Option Nat := if 64 < l.length then some 4 else if l.all goodF then none else some 8
def errO (A : Nat → Addr) : Option Nat → Value
  | none => .nilIface
  | some k => errV (A k)
set_option maxHeartbeats 4000000 in
theorem checkFields_c {A : Nat → Addr} {w : World} (hE : LayS A w) {B : Option Addr} {c : Nat} {l : List Fld} (h : Rd w B (fldC l)) (hb : BytesF l) :
    Calls Tryz.prog 68 #[.slice B l.length c] w fun e w' => e = .returned (errO A (chkS l)) ∧ Below w.heap.size w w' := by
  have c4 := (hE.sent 4 (by decide) (by decide)).cell
  have c8 := (hE.sent 8 (by decide) (by decide)).cell
  refine enter (args := [.slice B l.length c]) Tryz.func68 rfl Tryz.ntmps68 rfl ?_
  have H := Hp.nil w
  repeat' (first | (first | (with_reducible refine p_tn ?_) | (with_reducible refine wp_seq ?_) | (with_reducible refine w_reg ?_)) | (first | (with_reducible refine l_nil ?_) | ((with_reducible refine g_on ?_); (first | ((with_reducible refine g_mv ?_); refine l_p txs rfl rfl ?_) | ((with_reducible refine g_as ?_); refine l_p txs rfl rfl ?_) | ((with_reducible refine g_cl ?_); refine l_p txs rfl rfl ?_)))))
  (with_reducible refine is_l ?_); refine l_t txs rfl rfl (fun hbig => ?_) (fun hbig => ?_)
  · have he : chkS l = some 4 := by unfold chkS; rw [if_pos (by omega)]
    repeat' (first | (first | (with_reducible refine p_tn ?_) | (with_reducible refine wp_seq ?_) | (with_reducible refine w_reg ?_) | (with_reducible (refine is_if ?_; (refine w_ift rfl ?_)))) | (with_reducible refine l_nil ?_))
    (with_reducible refine is_l ?_); refine l_ld txs rfl rfl (H.old c4) ?_
    repeat' (first | (first | (with_reducible refine p_tn ?_) | (with_reducible refine p_tr ?_) | (with_reducible refine wp_ret ?_)) | (first | (with_reducible refine l_nil ?_) | ((with_reducible refine g_on ?_); ((with_reducible refine g_as ?_); refine l_p txs rfl rfl ?_))))
    refine end1 rfl rfl ?_
    exact ⟨by rw [he]; rfl, H.B⟩
  · have he : chkS l = if l.all goodF then none else some 8 := by unfold chkS; rw [if_neg (by omega)]
    repeat' (first | (first | (with_reducible refine p_tn ?_) | (with_reducible refine wp_seq ?_) | (with_reducible refine wp_block ?_) | (with_reducible refine w_reg ?_) | (with_reducible (refine is_if ?_; (refine w_iff rfl ?_))) | (with_reducible refine wp_skip ?_)) | (first | (with_reducible refine l_nil ?_) | ((with_reducible refine g_on ?_); (first | ((with_reducible refine g_mv ?_); refine l_p txs rfl rfl ?_) | ((with_reducible refine g_cl ?_); refine l_p txs rfl rfl ?_)))))
    refine w_loop (σ := Nat) (S := fun s => [(9, .slice B l.length c), (10, .int .i64 (l.length : Int)), (11, .int .i64 (s : Int))]) (J := fun s w' => Hp w w' [] [] ∧ s ≤ l.length ∧ l.all goodF = (l.drop s).all goodF) (μ := fun s => l.length - s) 0 ⟨rfl, rfl, rfl, trivial⟩ ⟨H, by omega, rfl⟩ ?_
    rintro i f w_ ⟨H, hi, hD⟩
    repeat' (first | (with_reducible refine wp_seq ?_) | (with_reducible refine w_reg ?_))
    (with_reducible refine is_l ?_); refine l_t txs rfl rfl (fun hlt => ?_) (fun hge => ?_)
    · obtain ⟨x, hx⟩ : ∃ x, l[i]? = some x := ⟨_, List.getElem?_eq_getElem (by omega)⟩
      obtain ⟨a1, rfl⟩ := rd_some h (i := i) (by omega)
      obtain ⟨bx1, bx2, lx1, lx2⟩ := hb x (List.mem_of_getElem? hx)
      have zx1 := sizeS' bx1
      have zx2 := sizeS' bx2
      have hdrop : l.drop i = x :: l.drop (i + 1) := by
        have hil : i < l.length := by omega
        rw [List.drop_eq_getElem_cons hil]
        congr 1
        rw [List.getElem?_eq_getElem hil] at hx
        exact Option.some.inj hx
      rw [hdrop, List.all_cons] at hD
      repeat' (first | (first | (with_reducible refine p_tn ?_) | (with_reducible refine wp_seq ?_) | (with_reducible refine wp_block ?_) | (with_reducible refine w_reg ?_) | (with_reducible (refine is_if ?_; (refine w_ift rfl ?_))) | (with_reducible refine wp_skip ?_)) | (first | (with_reducible refine l_nil ?_) | ((with_reducible refine g_on ?_); ((with_reducible refine g_ia ?_); refine l_ia txs rfl rfl (by first | omega | assumption | decide) (by first | omega | assumption | decide) ?_))))
      rw [Int.toNat_natCast]
      (with_reducible refine is_l ?_); refine h_ldA recs (fld_part (h.below H.B) hx) rfl rfl rfl rfl ?_
      repeat' (first | (first | (with_reducible refine p_tn ?_) | (with_reducible refine wp_seq ?_) | (with_reducible refine w_reg ?_)) | (first | (with_reducible refine l_nil ?_) | ((with_reducible refine g_on ?_); (first | ((with_reducible refine g_fa ?_); refine h_fa flds rfl rfl ?_) | ((with_reducible refine g_ld ?_); (refine h_ld txs H 0 rfl rfl rfl rfl ?_)) | ((with_reducible refine g_st ?_); (refine h_stR recs H 0 rfl rfl rfl rfl rfl rfl rfl rfl rfl (fun w_ H => ?_))) | ((with_reducible refine g_al ?_); refine h_alloc recs H rfl rfl (fun g_ w_ H => ?_))))))
      have ht := token_c (strOfNums x.1) w_ (by omega)
      rw [blS bx1] at ht
      have bad : goodF x = false → ∃ (k : Nat), errO A (chkS l) = errV (A 8) := fun hg => ⟨0, by rw [he, hD, hg]; rfl⟩
      cases hk : tokS x.1
      · have hg : goodF x = false := by unfold goodF; rw [hk]; rfl
        rw [hk] at ht
        (with_reducible refine is_l ?_); refine l_callp rfl rfl (by kernel_rfl) ht ?_
        repeat' (first | (first | (with_reducible refine p_tn ?_) | (with_reducible refine wp_seq ?_) | (with_reducible refine w_reg ?_) | (with_reducible (refine is_if ?_; (refine w_ift rfl ?_)))) | (first | (with_reducible refine l_nil ?_) | ((with_reducible refine g_on ?_); (first | ((with_reducible refine g_mv ?_); refine l_p txs rfl rfl ?_) | ((with_reducible refine g_pk ?_); refine l_p txs rfl rfl ?_) | ((with_reducible refine g_un ?_); (refine l_p txs rfl rfl ?_)))) | ((with_reducible refine g_if ?_); (refine l_off rfl ?_))))
        (with_reducible refine is_l ?_); refine l_ld txs rfl rfl (H.old c8) ?_
        repeat' (first | (first | (with_reducible refine p_tn ?_) | (with_reducible refine p_tr ?_) | (with_reducible refine p_br ?_) | (with_reducible refine wp_ret ?_)) | (first | (with_reducible refine l_nil ?_) | ((with_reducible refine g_on ?_); ((with_reducible refine g_as ?_); refine l_p txs rfl rfl ?_))))
        refine end1 rfl rfl ?_
        obtain ⟨_, hbad⟩ := bad hg
        exact ⟨by rw [hbad], H.B⟩
      · rw [hk] at ht
        (with_reducible refine is_l ?_); refine l_callp rfl rfl (by kernel_rfl) ht ?_
        repeat' (first | ((with_reducible refine g_on ?_); (first | ((with_reducible refine g_mv ?_); refine l_p txs rfl rfl ?_) | ((with_reducible refine g_un ?_); (refine l_p txs rfl rfl ?_)))) | ((with_reducible refine g_if ?_); (first | ((with_reducible refine g_fa ?_); refine h_fa flds rfl rfl ?_) | ((with_reducible refine g_ld ?_); (refine h_ld txs H 0 rfl rfl rfl rfl ?_)))))
        have ha := all_c (strOfNums x.2) 121 valB kind_value w_ (by omega)
        rw [blS bx2] at ha
        cases hv : x.2.all valB
        · have hg : goodF x = false := by unfold goodF; rw [hk, hv]; rfl
          rw [hv] at ha
          (with_reducible refine is_l ?_); refine l_callp rfl rfl (by kernel_rfl) ha ?_
          repeat' (first | (first | (with_reducible refine p_tn ?_) | (with_reducible refine wp_seq ?_) | (with_reducible refine w_reg ?_) | (with_reducible (refine is_if ?_; (refine w_ift rfl ?_)))) | (first | (with_reducible refine l_nil ?_) | ((with_reducible refine g_on ?_); ((with_reducible refine g_pk ?_); refine l_p txs rfl rfl ?_)) | ((with_reducible refine g_if ?_); ((with_reducible refine g_un ?_); (refine l_p txs rfl rfl ?_)))))
          (with_reducible refine is_l ?_); refine l_ld txs rfl rfl (H.old c8) ?_
          repeat' (first | (first | (with_reducible refine p_tn ?_) | (with_reducible refine p_tr ?_) | (with_reducible refine p_br ?_) | (with_reducible refine wp_ret ?_)) | (first | (with_reducible refine l_nil ?_) | ((with_reducible refine g_on ?_); ((with_reducible refine g_as ?_); refine l_p txs rfl rfl ?_))))
          refine end1 rfl rfl ?_
          obtain ⟨_, hbad⟩ := bad hg
          exact ⟨by rw [hbad], H.B⟩
        · have hg : goodF x = true := by unfold goodF; rw [hk, hv]; rfl
          rw [hg, Bool.true_and] at hD
          rw [hv] at ha
          (with_reducible refine is_l ?_); refine l_callp rfl rfl (by kernel_rfl) ha ?_
          repeat' (first | (first | (with_reducible refine p_tn ?_) | (with_reducible refine p_bn ?_) | (with_reducible refine w_reg ?_) | (with_reducible (refine is_if ?_; (refine w_iff rfl ?_))) | (with_reducible refine wp_skip ?_)) | (first | (with_reducible refine l_nil ?_) | ((with_reducible refine g_on ?_); (first | ((with_reducible refine g_mv ?_); refine l_p txs rfl rfl ?_) | ((with_reducible refine g_pk ?_); refine l_p txs rfl rfl ?_) | ((with_reducible refine g_bi ?_); (refine l_a txs rfl rfl (by first | exact in_i64 (by omega) (by omega) | exact in_u8 (by omega) (by omega) | exact in_u64 (by omega) (by omega) | exact in_i32 (by omega) (by omega)) ?_)))) | ((with_reducible refine g_if ?_); ((with_reducible refine g_un ?_); (refine l_p txs rfl rfl ?_)))))
          refine ⟨i + 1, _, rfl, ⟨rfl, rfl, rfl, trivial⟩, ⟨H.pick [] [] (by decide) (by decide) rfl rfl, by omega, hD⟩, by omega⟩
    · have hnil : l.drop i = [] := List.drop_eq_nil_of_le (by omega)
      rw [hnil] at hD
      have hn : chkS l = none := by rw [he, hD]; rfl
      repeat' (first | (first | (with_reducible refine p_tn ?_) | (with_reducible refine p_tx ?_) | (with_reducible refine x_hit ?_) | (with_reducible refine wp_seq ?_) | (with_reducible refine w_reg ?_) | (with_reducible (refine is_if ?_; (refine w_iff rfl ?_))) | (with_reducible refine wp_exit ?_) | (with_reducible refine wp_ret ?_)) | (first | (with_reducible refine l_nil ?_) | ((with_reducible refine g_on ?_); ((with_reducible refine g_as ?_); refine l_p txs rfl rfl ?_))))
      refine end1 rfl rfl ?_
      exact ⟨by rw [hn]; rfl, H.B⟩
end Go.Proofs.YthgojbdpmcccaaaGreatDoor.K
end
section
namespace Go.Proofs.YthgojbdpmcccaaaGreatDoor.K
open Go.RowKit Go.Proofs.YthgojbdpmcccaaaGreatDoor.Q Go.Proofs.YthgojbdpmcccaaaGreatDoor.Wb Go.Proofs.YthgojbdpmcccaaaGreatDoorW.PrintWords
set_option linter.unusedVariables false
set_option linter.unusedSimpArgs false
theorem decDigits_S (n : Nat) : Lib.decDigits n = (decS n).map fun x => UInt8.ofNat x.toNat := by
  induction n using Nat.strongRecOn with
  | ind n ih =>
    rw [Lib.decDigits, decS]
    by_cases h : n < 10
    · rw [dif_pos h, if_pos h]
      simp only [List.map_cons, List.map_nil]
      congr 2
    · rw [dif_neg h, if_neg h, ih (n / 10) (by omega), List.map_append]
      simp only [List.map_cons, List.map_nil]
      congr 2
theorem itoa_S (n : Nat) : (⟨(Lib.itoa (n : Int)).toArray⟩ : ByteArray) = strOfNums (decS n) := by
  unfold Lib.itoa strOfNums
  rw [if_neg (by omega), Int.toNat_natCast, decDigits_S]
abbrev TabP (w : World) : Prop := ∀ w', Below w.heap.size w w' → Lib.TabIs Tryz.prog w' "internal/strconv.uint64pow10" .u64 Lib.pow10Tab
theorem TabP.below {w w' : World} (h : TabP w) (hb : Below w.heap.size w w') : TabP w' := fun w2 K => h w2 (Bt hb K)
theorem itoa_c {w : World} (hP : TabP w) (n : Nat) (hn : n ≤ 9223372036854775807) : Calls Tryz.prog 49 #[.int .i64 (n : Int)] w fun e w' => e = .returned (.string (strOfNums (decS n))) ∧ Below w.heap.size w w' := by
  refine (Tryz.strconv_Itoa (n : Int) (by omega) (by omega) w (hP w (Below.refl _ w))).mono fun e w' ⟨he, kk, os, hw⟩ => ?_
  subst hw
  exact ⟨by rw [he, itoa_S], grow_below⟩
def keptS (l : List Fld) : List Fld := (l.filter keptF).map fun f => (f.1, trimS f.2)
theorem kept_take {l : List Fld} {i : Nat} {x : Fld} (h : l[i]? = some x) : keptS (l.take (i + 1)) = keptS (l.take i) ++ if keptF x then [(x.1, trimS x.2)] else [] := by
  have hi : i < l.length := (List.getElem?_eq_some_iff.1 h).1
  have hx : l[i] = x := (List.getElem?_eq_some_iff.1 h).2
  unfold keptS
  rw [List.take_succ_eq_append_getElem hi, hx, List.filter_append, List.map_append]
  by_cases hk : keptF x = true
  · simp [hk]
  · simp [hk]
theorem kept_len (l : List Fld) : (keptS l).length ≤ l.length := by
  unfold keptS
  rw [List.length_map]
  exact List.length_filter_le _ _
theorem fldC_snoc (l : List Fld) (a : L) (b : L) : fldC (l ++ [(a, b)]) = fldC l ++ [.string (strOfNums a), .string (strOfNums b)] := by simp [fldC]
set_option maxHeartbeats 8000000 in
theorem printed_c {w : World} (hP : TabP w) {B : Option Addr} {c : Nat} {l : List Fld} (h : Rd w B (fldC l)) (hb : BytesF l) (hl : l.length ≤ 10000000) (n : Nat) (hn : n ≤ 9223372036854775807) (told : Bool) :
    Calls Tryz.prog 50 #[.slice B l.length c, .int .i64 (n : Int), .bool told] w fun e w' => ∃ A1 c1, e = .returned (.slice A1 (printedS l (if told then some n else none)).length c1) ∧ Hp w w' [] [rowF (.slice A1 (printedS l (if told then some n else none)).length c1) (printedS l (if told then some n else none))] := by
  refine enter (args := [.slice B l.length c, .int .i64 (n : Int), .bool told]) Tryz.func50 rfl Tryz.ntmps50 rfl ?_
  have H := (Hp.nil w).nilRow 95 2
  repeat' (first | (first | (with_reducible refine p_tn ?_) | (with_reducible refine wp_seq ?_) | (with_reducible refine wp_block ?_) | (with_reducible refine w_reg ?_)) | (first | (with_reducible refine l_nil ?_) | ((with_reducible refine g_on ?_); (first | ((with_reducible refine g_mv ?_); refine l_p txs rfl rfl ?_) | ((with_reducible refine g_as ?_); refine l_p txs rfl rfl ?_) | ((with_reducible refine g_cl ?_); refine l_p txs rfl rfl ?_)))))
  refine w_loop (σ := Nat × Option Addr × Nat) (S := fun s => [(1, .int .i64 (n : Int)), (2, .bool told), (7, .slice s.2.1 (keptS (l.take s.1)).length s.2.2), (10, .slice B l.length c), (11, .int .i64 (l.length : Int)), (12, .int .i64 (s.1 : Int))])
    (J := fun s w' => Hp w w' [] [rowF (.slice s.2.1 (keptS (l.take s.1)).length s.2.2) (keptS (l.take s.1))] ∧ s.1 ≤ l.length) (μ := fun s => l.length - s.1) (0, none, 0) ⟨rfl, rfl, rfl, rfl, rfl, rfl, trivial⟩ ⟨H, by omega⟩ ?_
  rintro ⟨i, A2, c2⟩ f w_ ⟨H, hi⟩
  simp only at H hi ⊢
  repeat' (first | (with_reducible refine wp_seq ?_) | (with_reducible refine w_reg ?_))
  (with_reducible refine is_l ?_); refine l_t txs rfl rfl (fun hlt => ?_) (fun hge => ?_)
  · obtain ⟨x, hx⟩ : ∃ x, l[i]? = some x := ⟨_, List.getElem?_eq_getElem (by omega)⟩
    obtain ⟨a1, rfl⟩ := rd_some h (i := i) (by omega)
    obtain ⟨bx1, bx2, lx1, lx2⟩ := hb x (List.mem_of_getElem? hx)
    have zx1 := sizeS' bx1
    have zx2 := sizeS' bx2
    have hkt := kept_take hx
    have hkl := kept_len (l.take i)
    rw [List.length_take_of_le (by omega)] at hkl
    repeat' (first | (first | (with_reducible refine p_tn ?_) | (with_reducible refine wp_seq ?_) | (with_reducible refine wp_block ?_) | (with_reducible refine w_reg ?_) | (with_reducible (refine is_if ?_; (refine w_ift rfl ?_))) | (with_reducible refine wp_skip ?_)) | (first | (with_reducible refine l_nil ?_) | ((with_reducible refine g_on ?_); ((with_reducible refine g_ia ?_); refine l_ia txs rfl rfl (by first | omega | assumption | decide) (by first | omega | assumption | decide) ?_))))
    rw [Int.toNat_natCast]
    (with_reducible refine is_l ?_); refine h_ldA recs (fld_part (h.below H.B) hx) rfl rfl rfl rfl ?_
    repeat' (first | (first | (with_reducible refine p_tn ?_) | (with_reducible refine wp_seq ?_) | (with_reducible refine w_reg ?_)) | (first | (with_reducible refine l_nil ?_) | ((with_reducible refine g_on ?_); (first | ((with_reducible refine g_fa ?_); refine h_fa flds rfl rfl ?_) | ((with_reducible refine g_ld ?_); (refine h_ld txs H 0 rfl rfl rfl rfl ?_)) | ((with_reducible refine g_st ?_); (refine h_stR recs H 0 rfl rfl rfl rfl rfl rfl rfl rfl rfl (fun w_ H => ?_))) | ((with_reducible refine g_al ?_); refine h_alloc recs H rfl rfl (fun g_ w_ H => ?_))))))
    have hlow := lower_c (strOfNums x.1) w_ (by omega)
    rw [blS bx1] at hlow
    (with_reducible refine is_l ?_); refine l_callv rfl rfl (by kernel_rfl) hlow (fun w_ K => ?_)
    have H := H.call K
    repeat' (first | (first | (with_reducible refine p_tn ?_) | (with_reducible refine wp_seq ?_) | (with_reducible refine wp_block ?_) | (with_reducible refine w_reg ?_)) | (with_reducible refine l_nil ?_))
    have e1 := blS (bytes_low bx1)
    have e2 : bl (⟨#[99, 111, 110, 116, 101, 110, 116, 45, 108, 101, 110, 103, 116, 104]⟩ : ByteArray) = nLen := by kernel_rfl
    have e3 : bl (⟨#[116, 114, 97, 110, 115, 102, 101, 114, 45, 101, 110, 99, 111, 100, 105, 110, 103]⟩ : ByteArray) = nCode := by kernel_rfl
    have skip : keptF x = false → Hp w w_ [] [rowF (.slice A2 (keptS (l.take (i + 1))).length c2) (keptS (l.take (i + 1)))] ∧ Value.slice A2 (keptS (l.take i)).length c2 = Value.slice A2 (keptS (l.take (i + 1))).length c2 := fun hf => by
      rw [hkt, hf]
      simp only [Bool.false_eq_true, if_false, List.append_nil]
      exact ⟨H.pick [] [0] (by decide) (by decide) rfl rfl, trivial⟩
    (with_reducible refine is_l ?_); refine l_t txs rfl rfl (fun h1 => ?_) (fun h1 => ?_)
    · have hf : keptF x = false := by
        unfold keptF
        rw [e1, e2] at h1
        simp [h1]
      obtain ⟨k1, k2⟩ := skip hf
      repeat' (first | (first | (with_reducible refine p_tn ?_) | (with_reducible refine p_bn ?_) | (with_reducible refine w_reg ?_) | (with_reducible (refine is_if ?_; (refine w_ift rfl ?_))) | (with_reducible refine wp_skip ?_)) | (first | (with_reducible refine l_nil ?_) | ((with_reducible refine g_on ?_); (first | ((with_reducible refine g_mv ?_); refine l_p txs rfl rfl ?_) | ((with_reducible refine g_as ?_); refine l_p txs rfl rfl ?_) | ((with_reducible refine g_bi ?_); (refine l_a txs rfl rfl (by first | exact in_i64 (by omega) (by omega) | exact in_u8 (by omega) (by omega) | exact in_u64 (by omega) (by omega) | exact in_i32 (by omega) (by omega)) ?_))))))
      refine ⟨(i + 1, A2, c2), _, rfl, ⟨rfl, rfl, k2, rfl, rfl, rfl, trivial⟩, ⟨k1, by show i + 1 ≤ _; omega⟩, by show _ - (i + 1) < _ - i; omega⟩
    · rw [e1, e2] at h1
      repeat' (first | (first | (with_reducible refine p_tn ?_) | (with_reducible refine w_reg ?_) | (with_reducible (refine is_if ?_; (refine w_iff rfl ?_)))) | (first | (with_reducible refine l_nil ?_) | ((with_reducible refine g_on ?_); ((with_reducible refine g_as ?_); refine l_p txs rfl rfl ?_))))
      (with_reducible refine is_l ?_); refine l_t txs rfl rfl (fun h2 => ?_) (fun h2 => ?_)
      · have hf : keptF x = false := by
          unfold keptF
          rw [e1, e3] at h2
          simp [h2]
        obtain ⟨k1, k2⟩ := skip hf
        repeat' (first | (first | (with_reducible refine p_tn ?_) | (with_reducible refine p_bn ?_) | (with_reducible refine w_reg ?_) | (with_reducible (refine is_if ?_; (refine w_ift rfl ?_))) | (with_reducible refine wp_skip ?_)) | (first | (with_reducible refine l_nil ?_) | ((with_reducible refine g_on ?_); (first | ((with_reducible refine g_mv ?_); refine l_p txs rfl rfl ?_) | ((with_reducible refine g_as ?_); refine l_p txs rfl rfl ?_) | ((with_reducible refine g_bi ?_); (refine l_a txs rfl rfl (by first | exact in_i64 (by omega) (by omega) | exact in_u8 (by omega) (by omega) | exact in_u64 (by omega) (by omega) | exact in_i32 (by omega) (by omega)) ?_))))))
        refine ⟨(i + 1, A2, c2), _, rfl, ⟨rfl, rfl, k2, rfl, rfl, rfl, trivial⟩, ⟨k1, by show i + 1 ≤ _; omega⟩, by show _ - (i + 1) < _ - i; omega⟩
      · rw [e1, e3] at h2
        have hf : keptF x = true := by
          unfold keptF
          simp [h1, h2]
        rw [hf, if_pos rfl] at hkt
        have htr := fun w1 => trim_c (strOfNums x.2) w1 (by omega)
        rw [blS bx2] at htr
        repeat' (first | (first | (with_reducible refine p_tn ?_) | (with_reducible (refine is_if ?_; (refine w_iff rfl ?_)))) | (first | (with_reducible refine l_nil ?_) | ((with_reducible refine g_on ?_); ((with_reducible refine g_as ?_); refine l_p txs rfl rfl ?_))))
        have HS := H.pick [0] [] (by decide) (by decide) rfl rfl
        refine d_start (fun w_ => Hp w w_ _ _) #[false, false, false, false, false, false, false, false, false, false] (by kernel_rfl) rfl rfl HS.drew ?_
        have H := H.drew
        have HS := HS.drew
        first | (refine d_pure (i := 0) #[true, false, false, false, false, false, false, false, false, false] rfl (by kernel_rfl) (fun _ _ _ h => h) rfl (fun w_ => evP_run (o := ⟨_, _, _, _, _, _⟩) txs rfl) ?_)
        first | (refine d_pure (i := 1) #[true, true, false, false, false, false, false, false, false, false] rfl (by kernel_rfl) (fun _ _ _ h => h) rfl (fun w_ => evF_run (o := ⟨_, _, _, _, _, _⟩) flds rfl) ?_) | (refine d_pure (i := 1) #[true, true, false, false, false, false, false, false, false, false] rfl (by kernel_rfl) (fun _ _ _ h => h) rfl (fun w_ => evG_run (o := ⟨_, _, _, _, _, _⟩) flds rfl) ?_)
        first | (refine d_take (i := 2) #[true, true, true, false, false, false, false, false, false, false] rfl (by kernel_rfl) (fun _ _ _ h => h) rfl (fun w_ K => evL_run (o := ⟨_, _, _, _, _, _⟩) txs rfl (K.cellAt 0 rfl rfl)) HS ?_)
        first | (refine d_pure (i := 3) #[true, true, true, true, false, false, false, false, false, false] rfl (by kernel_rfl) (fun _ _ _ h => h) rfl (fun w_ => evF_run (o := ⟨_, _, _, _, _, _⟩) flds rfl) ?_) | (refine d_pure (i := 3) #[true, true, true, true, false, false, false, false, false, false] rfl (by kernel_rfl) (fun _ _ _ h => h) rfl (fun w_ => evG_run (o := ⟨_, _, _, _, _, _⟩) flds rfl) ?_)
        first | (refine d_take (i := 4) #[true, true, true, true, true, false, false, false, false, false] rfl (by kernel_rfl) (fun _ _ _ h => h) rfl (fun w_ K => evL_run (o := ⟨_, _, _, _, _, _⟩) txs rfl (K.cellAt 0 rfl rfl)) HS ?_)
        refine d_one (i := 5) #[true, true, true, true, true, true, false, false, false, false] rfl (by kernel_rfl) rfl ?_
        refine l_callv rfl rfl (by kernel_rfl) (htr _) (fun w_ K => ?_); have H := H.call K
        refine l_nil ?_
        have HS := H.pick [0] [] (by decide) (by decide) rfl rfl
        refine ⟨rfl, HS, ?_⟩
        first | (refine d_pure (i := 6) #[true, true, true, true, true, true, true, false, false, false] rfl (by kernel_rfl) (fun _ _ _ h => h) rfl (fun w_ => evBld_run (o := ⟨_, _, _, _, _, _⟩) rfl (built_f2 _ _)) ?_)
        refine d_one (i := 7) #[true, true, true, true, true, true, true, true, false, false] rfl (by kernel_rfl) rfl ?_
        refine h_bs H info_f Tryz.underlying27 (by decide) (by decide) rfl rfl (fill_f _ _) (fun g_ w_ H => ?_)
        refine l_nil ?_
        have HS := H.pick [1] [] (by decide) (by decide) rfl rfl
        refine ⟨rfl, HS, ?_⟩
        refine d_one (i := 8) #[true, true, true, true, true, true, true, true, true, false] rfl (by kernel_rfl) rfl ?_
        (refine h_app H 0 rfl info_f Tryz.underlying27 rfl rfl rfl rfl (H.cellRd 0 rfl) rfl rfl (by show ((keptS (l.take i)).length + 1) * 32 ≤ _; omega) (fun v w_ hv H => ?_)); obtain ⟨A', c', rfl⟩ := hv
        refine l_nil ?_
        have HS := H.pick [1] [] (by decide) (by decide) rfl rfl
        refine ⟨rfl, HS, ?_⟩
        first | (refine d_pure (i := 9) #[true, true, true, true, true, true, true, true, true, true] rfl (by kernel_rfl) (fun _ _ _ h => h) rfl (fun w_ => evP_run (o := ⟨_, _, _, _, _, _⟩) txs rfl) ?_)
        refine d_done rfl ?_
        repeat' (first | (first | (with_reducible refine p_tn ?_) | (with_reducible refine p_bn ?_) | (with_reducible refine w_reg ?_)) | (first | (with_reducible refine l_nil ?_) | ((with_reducible refine g_on ?_); (first | ((with_reducible refine g_mv ?_); refine l_p txs rfl rfl ?_) | ((with_reducible refine g_bi ?_); (refine l_a txs rfl rfl (by first | exact in_i64 (by omega) (by omega) | exact in_u8 (by omega) (by omega) | exact in_u64 (by omega) (by omega) | exact in_i32 (by omega) (by omega)) ?_))))))
        have H := H.pick [] [0] (by decide) (by decide) rfl rfl
        have hlen : (keptS (l.take (i + 1))).length = (keptS (l.take i)).length + 1 := by rw [hkt]; simp
        refine ⟨(i + 1, A', c'), _, rfl, ⟨rfl, rfl, ?_, rfl, rfl, rfl, trivial⟩, ⟨?_, by show i + 1 ≤ _; omega⟩, by show _ - (i + 1) < _ - i; omega⟩
        · show Value.slice A' ((keptS (l.take i)).length + 1) c' = Value.slice A' (keptS (l.take (i + 1))).length c'
          rw [hlen]
        · show Hp w _ [] [rowF (.slice A' (keptS (l.take (i + 1))).length c') (keptS (l.take (i + 1)))]
          unfold rowF
          rw [hlen, hkt, fldC_snoc]
          exact H
  · have hall : l.take i = l := List.take_of_length_le (by omega)
    simp only [hall] at H ⊢
    have hkl := kept_len l
    repeat' (first | (first | (with_reducible refine p_tn ?_) | (with_reducible refine p_tx ?_) | (with_reducible refine x_hit ?_) | (with_reducible refine wp_seq ?_) | (with_reducible refine w_reg ?_) | (with_reducible (refine is_if ?_; (refine w_iff rfl ?_))) | (with_reducible refine wp_exit ?_)) | (first | (with_reducible refine l_nil ?_) | ((with_reducible refine g_on ?_); ((with_reducible refine g_mv ?_); refine l_p txs rfl rfl ?_))))
    cases told
    · repeat' (first | (first | (with_reducible refine p_tn ?_) | (with_reducible refine wp_seq ?_) | (with_reducible refine w_reg ?_) | (with_reducible (refine is_if ?_; (refine w_iff rfl ?_))) | (with_reducible refine wp_skip ?_) | (with_reducible refine wp_ret ?_)) | (first | (with_reducible refine l_nil ?_) | ((with_reducible refine g_on ?_); (first | ((with_reducible refine g_mv ?_); refine l_p txs rfl rfl ?_) | ((with_reducible refine g_as ?_); refine l_p txs rfl rfl ?_)))))
      refine end1 rfl rfl ?_
      have e : printedS l (if (false : Bool) = true then some n else none) = keptS l := by simp [printedS, keptS]
      rw [e]
      exact ⟨A2, c2, rfl, H⟩
    · repeat' (first | (first | (with_reducible refine w_reg ?_) | (with_reducible (refine is_if ?_; (refine w_ift rfl ?_)))) | ((with_reducible refine g_on ?_); ((with_reducible refine g_mv ?_); refine l_p txs rfl rfl ?_)))
      (with_reducible refine is_l ?_); refine l_callv rfl rfl (by kernel_rfl) (itoa_c (hP.below H.B) n hn) (fun w_ K => ?_)
      have H := H.call K
      skip
      (with_reducible refine is_l ?_); refine h_bld rfl rfl (built_f2 _ _) ?_
      skip
      (with_reducible refine is_l ?_); refine h_bs H info_f Tryz.underlying27 (by decide) (by decide) rfl rfl (fill_f _ _) (fun g_ w_ H => ?_)
      (with_reducible refine is_l ?_); refine h_app H 0 rfl info_f Tryz.underlying27 rfl rfl rfl rfl (H.cellRd 0 rfl) rfl rfl (by show ((keptS l).length + 1) * 32 ≤ _; omega) (fun v w_ hv H => ?_)
      obtain ⟨A', c', rfl⟩ := hv
      repeat' (first | (first | (with_reducible refine p_tn ?_) | (with_reducible refine wp_seq ?_) | (with_reducible refine w_reg ?_) | (with_reducible refine wp_ret ?_)) | (first | (with_reducible refine l_nil ?_) | ((with_reducible refine g_on ?_); (first | ((with_reducible refine g_mv ?_); refine l_p txs rfl rfl ?_) | ((with_reducible refine g_as ?_); refine l_p txs rfl rfl ?_)))))
      refine end1 rfl rfl ?_
      have e : printedS l (if (true : Bool) = true then some n else none) = keptS l ++ [(nLenP, decS n)] := by simp [printedS, keptS]
      have hlen : (keptS l ++ [(nLenP, decS n)]).length = (keptS l).length + 1 := by simp
      rw [e]
      unfold rowF
      rw [hlen, fldC_snoc]
      exact ⟨A', c', rfl, H.pick [] [0] (by decide) (by decide) rfl rfl⟩
end Go.Proofs.YthgojbdpmcccaaaGreatDoor.K
end
