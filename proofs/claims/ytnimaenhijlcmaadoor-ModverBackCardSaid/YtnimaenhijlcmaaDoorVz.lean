/- Records read. -/
import Derived.Test.YtnimaenhijlcmaaDoorVy
namespace Go.Proofs.YtnimaenhijlcmaaDoor.K.Rec
open Go.RowKit Go.Proofs.YtnimaenhijlcmaaDoor.Q Go.Proofs.YtnimaenhijlcmaaDoor.K Go.Proofs.YtnimaenhijlcmaaDoor.Mb Go.Proofs.YtnimaenhijlcmaaDoorW.PrintWords
set_option linter.unusedVariables false
set_option linter.unusedSimpArgs false

theorem lines_end {s x y : L} (h : splitC 10 s = [x, y, []]) : (endCut s [10]).isSome = true := by
  have hj := join_split (c := 10) s
  rw [h] at hj
  have : s = (x ++ 10 :: y) ++ [10] := by rw [← hj]; simp [joinC]
  rw [this, endCut_app]
  rfl
theorem lines_not {s : L} (h : (splitC 10 s).length ≠ 3 ∨ (endCut s [10]).isSome = false) : linesS s = none := by
  unfold linesS
  split
  · rename_i x y hs
    rcases h with h | h
    · rw [hs] at h
      exact absurd rfl h
    · rw [lines_end hs] at h
      cases h
  · rfl
theorem lines_is {s : L} (h : (splitC 10 s).length = 3) (e : (endCut s [10]).isSome = true) : ∃ x y, splitC 10 s = [x, y, []] ∧ linesS s = some (x, y) := by
  obtain ⟨x, y, z, hs⟩ : ∃ x y z, splitC 10 s = [x, y, z] := by
    generalize splitC 10 s = N at h
    match N, h with
    | [x, y, z], _ => exact ⟨x, y, z, rfl⟩
  have hz : z = [] := by
    obtain ⟨p, hp⟩ := Option.isSome_iff_exists.1 e
    have h1 := endCut_some hp
    have hj := join_split (c := 10) s
    rw [hs] at hj
    have hno := split_no (c := 10) s z (by rw [hs]; simp)
    rcases List.eq_nil_or_concat z with rfl | ⟨z', c, rfl⟩
    · rfl
    · exfalso
      have h2 : (x ++ 10 :: (y ++ 10 :: z')) ++ [c] = p ++ [10] := by rw [← h1, ← hj]; simp [joinC]
      have h3 : c = 10 := by simpa using List.append_inj_right' h2 rfl
      subst h3
      exact hno (by simp)
  subst hz
  exact ⟨x, y, hs, by unfold linesS; rw [hs]⟩
section
variable {P : Program} {n : Nat} {f : Fr} {w w0 : World} {l : List Ent} {r : List RowD} {rt : Nat → Option (List Value)}
theorem iaa_run {d : Option Nat} {tt : TypeId} {ps : String} {af : Array Edge} {gd : Option (Nat × Bool)} {t e : TypeId} {m : Nat} {x y : Operand} {g : Nat} {k : IntKind} {j : Int} (ht : P.underlying t = some (.array m e)) (he : (P.info? e).map (·.size) = some 1) (hx : nf (X n f x) = some (.pointer (some ⟨g, 0, none⟩))) (hy : nf (X n f y) = some (.int k j)) (h0 : 0 ≤ j) (h1 : j < m) :
    (execOp (X n f) ⟨d, .indexAddr t x y, tt, ps, af, gd⟩).run P w = .ok (.value (.pointer (some ⟨g, j.toNat, none⟩))) w := by
  have hx' := nf_eq hx
  have hy' := nf_eq hy
  obtain ⟨i0, hi, hz⟩ := Option.map_eq_some_iff.1 he
  unfold execOp
  simp [go_sem, ← hx', ← hy', Instr.indexAt, run_underlying ht, sizeOf, typeInfo, hi, hz, h0, h1, Addr.add_lit]
theorem results_ttcct {fn : Func} {a b c : Tmp} {p q : Tmp} {ty tz : TypeId} (h : fn.results = #[.tmp a, .tmp b, .cell p ty, .cell q tz, .tmp c]) (tmps : Array Value) (w : World) (g g2 : Nat) (t t2 : TypeId) (cs cs2 : Array Value) (fr fr2 : Nat × Nat) (d d2 : TypeDesc)
    (hp : tmps.getD p undef = .pointer (some ⟨g, 0, none⟩)) (hg : w.heap[g]? = some (.cells cs t fr)) (hu : P.underlying ty = some d) (hd : (match d with | .struct _ | .array _ _ => true | _ => false) = true) (hi : (P.info? ty).map (·.size) = some cs.size)
    (hp2 : tmps.getD q undef = .pointer (some ⟨g2, 0, none⟩)) (hg2 : w.heap[g2]? = some (.cells cs2 t2 fr2)) (hu2 : P.underlying tz = some d2) (hd2 : (match d2 with | .struct _ | .array _ _ => true | _ => false) = true) (hi2 : (P.info? tz).map (·.size) = some cs2.size) :
    (results fn tmps).run P w = .ok (.tuple #[tmps.getD a undef, tmps.getD b undef, .agg cs, .agg cs2, tmps.getD c undef]) w := by
  have hp' : tmps[p]?.getD undef = .pointer (some ⟨g, 0, none⟩) := by simpa using hp
  have hq' : tmps[q]?.getD undef = .pointer (some ⟨g2, 0, none⟩) := by simpa using hp2
  simp [results, h, hp', hq', asAddr, run_loadVar_row w g t ty cs fr d hg hu hd hi, run_loadVar_row w g2 t2 tz cs2 fr2 d2 hg2 hu2 hd2 hi2]
theorem end_ttcct {fn : Func} {R : Ending → World → Prop} {a b c p q : Tmp} {ty tz : TypeId} (hrt : Recs P rt) (H : Hp w0 w l r) (k k2 : Nat) {g g2 : Nat} {t t2 : TypeId} {cs cs2 zs zs2 : List Value} {v v2 v3 : Value} (hr : fn.results = #[.tmp a, .tmp b, .cell p ty, .cell q tz, .tmp c])
    (hp : X n f (.tmp p) = .pointer (some ⟨g, 0, none⟩)) (hk : l[k]? = some (g, t, cs)) (hz : rt ty = some zs) (hs : cs.length = zs.length) (hp2 : X n f (.tmp q) = .pointer (some ⟨g2, 0, none⟩)) (hk2 : l[k2]? = some (g2, t2, cs2)) (hz2 : rt tz = some zs2) (hs2 : cs2.length = zs2.length)
    (hv : nf (X n f (.tmp a)) = some v) (hv2 : nf (X n f (.tmp b)) = some v2) (hv3 : nf (X n f (.tmp c)) = some v3)
    (h : R (.returned (.tuple #[v, v2, .agg cs.toArray, .agg cs2.toArray, v3])) w) : bodyPost P fn R .ret (act n f) w := by
  obtain ⟨⟨d, h1, h2⟩, h3⟩ := rec_size hrt hz hs
  obtain ⟨⟨d2, h4, h5⟩, h6⟩ := rec_size hrt hz2 hs2
  refine bodyPost_ret (results_ttcct hr _ w g g2 t t2 cs.toArray cs2.toArray (0, 0) (0, 0) d d2 (by rw [show (act n f).tmps = arr n f from rfl, getD_arr]; exact hp) (H.get k hk) h1 (by cases d <;> simp_all) h3 (by rw [show (act n f).tmps = arr n f from rfl, getD_arr]; exact hp2) (H.get k2 hk2) h4 (by cases d2 <;> simp_all) h6) rfl ?_
  rw [show (act n f).tmps = arr n f from rfl, getD_arr, getD_arr, getD_arr, ← nf_eq hv, ← nf_eq hv2, ← nf_eq hv3]
  exact h
end
/-- What ParseRecord tells. -/
def rcP : Rec → ByteArray | .is p _ _ _ => strOfNums p | .no _ => ⟨#[]⟩
def rcV : Rec → ByteArray | .is _ v _ _ => strOfNums v | .no _ => ⟨#[]⟩
def rcA : Rec → L | .is _ _ a _ => a | .no _ => zL
def rcB : Rec → L | .is _ _ _ b => b | .no _ => zL
def rcE : Rec → Int | .is _ _ _ _ => 0 | .no e => (e : Int)
set_option maxRecDepth 100000 in
set_option maxHeartbeats 16000000 in
theorem ParseRecord_c {w : World} (hL : Lay w) (t : ByteArray) :
    Calls Tryd.prog 29 #[.string t] w fun e w' => e = .returned (.tuple #[.string (rcP (parRec (bl t))), .string (rcV (parRec (bl t))), .agg (nums .u8 (rcA (parRec (bl t)))).toArray, .agg (nums .u8 (rcB (parRec (bl t)))).toArray, .int .i64 (rcE (parRec (bl t)))]) ∧ Below w.heap.size w w' := by
  obtain ⟨mx, hM⟩ := hL.mxs
  have hlen := bl_length t
  refine enter (args := [.string t]) Tryd.func29 rfl Tryd.ntmps29 rfl ?_
  have H := Hp.nil w
  have hV : parRec (bl t) = if 1024 < (bl t).length then .no 115 else match linesS (bl t) with | none => .no 115 | some l => recW l := rfl
  repeat' (first | (with_reducible first | refine p_tn ?_ | refine wp_seq ?_ | refine w_reg ?_ | refine l_nil ?_) | ((with_reducible refine g_on ?_); (first | ((with_reducible refine g_mv ?_); refine l_p txs rfl rfl ?_) | ((with_reducible refine g_as ?_); refine l_p txs rfl rfl ?_) | ((with_reducible refine g_al ?_); refine h_alloc recs H rfl rfl (fun g_ w_ H => ?_)) | ((with_reducible refine g_cl ?_); refine l_p txs rfl rfl ?_))))
  (with_reducible refine is_l ?_); refine l_t txs rfl rfl (fun hbig => ?_) (fun hsm => ?_)
  · have hno : parRec (bl t) = .no 115 := by rw [hV, if_pos (by omega)]
    repeat' (first | (with_reducible first | refine p_tn ?_ | refine wp_seq ?_) | (with_reducible (refine is_if ?_; (refine w_ift rfl ?_))) | (with_reducible refine l_nil ?_) | ((with_reducible refine g_on ?_); (first | ((with_reducible refine g_mv ?_); refine l_p txs rfl rfl ?_) | ((with_reducible refine g_pk ?_); refine l_p txs rfl rfl ?_))) | ((with_reducible refine g_if ?_); (refine l_off rfl ?_)))
    have HS := H.pick [0] [] (by decide) (by decide) rfl rfl
    refine d_start (fun w_ => Hp w w_ _ _) #[false, false, false, false, false, false, false] (by kernel_rfl) rfl rfl HS.drew ?_
    have H := H.drew
    have HS := HS.drew
    first | (refine d_take (i := 0) #[true, false, false, false, false, false, false] rfl (by kernel_rfl) (fun _ _ _ h => h) rfl (fun w_ K => evLR_run (o := ⟨_, _, _, _, _, _⟩) recs rfl rfl (K.range 0 rfl) rfl) HS ?_)
    first | (refine d_take (i := 1) #[true, true, false, false, false, false, false] rfl (by kernel_rfl) (fun _ _ _ h => h) rfl (fun w_ K => evLR_run (o := ⟨_, _, _, _, _, _⟩) recs rfl rfl (K.range 0 rfl) rfl) HS ?_)
    first | (refine d_pure (i := 2) #[true, true, true, false, false, false, false] rfl (by kernel_rfl) (fun _ _ _ h => h) rfl (fun w_ => evP_run (o := ⟨_, _, _, _, _, _⟩) txs rfl) ?_)
    first | (refine d_pure (i := 3) #[true, true, true, true, false, false, false] rfl (by kernel_rfl) (fun _ _ _ h => h) rfl (fun w_ => evP_run (o := ⟨_, _, _, _, _, _⟩) txs rfl) ?_)
    refine d_one (i := 4) #[true, true, true, true, true, false, false] rfl (by kernel_rfl) rfl ?_
    refine g_on ?_; ((with_reducible refine g_st ?_); (refine h_stR recs H 2 rfl rfl rfl rfl rfl rfl rfl rfl rfl (fun w_ H => ?_)))
    refine l_nil ?_
    have HS := H.pick [0] [] (by decide) (by decide) rfl rfl
    refine ⟨rfl, HS, ?_⟩
    refine d_one (i := 5) #[true, true, true, true, true, true, false] rfl (by kernel_rfl) rfl ?_
    refine g_on ?_; ((with_reducible refine g_st ?_); (refine h_stR recs H 1 rfl rfl rfl rfl rfl rfl rfl rfl rfl (fun w_ H => ?_)))
    refine l_nil ?_
    have HS := H.pick [0] [] (by decide) (by decide) rfl rfl
    refine ⟨rfl, HS, ?_⟩
    first | (refine d_pure (i := 6) #[true, true, true, true, true, true, true] rfl (by kernel_rfl) (fun _ _ _ h => h) rfl (fun w_ => evP_run (o := ⟨_, _, _, _, _, _⟩) txs rfl) ?_)
    refine d_done rfl ?_
    repeat' (with_reducible first | refine p_tn ?_ | refine p_tr ?_ | refine wp_ret ?_)
    refine end_ttcct recs H 2 1 rfl rfl rfl rfl rfl rfl rfl rfl rfl rfl rfl rfl ?_
    exact ⟨by rw [hno]; rfl, H.B⟩
  rw [if_neg (by omega)] at hV
  have hcs := count_split t 10
  rw [show ((10 : UInt8).toNat : Int) = 10 from rfl] at hcs
  repeat' (first | ((with_reducible refine g_on ?_); ((with_reducible refine g_mv ?_); refine l_p txs rfl rfl ?_)) | ((with_reducible refine g_if ?_); ((with_reducible refine g_mv ?_); refine l_p txs rfl rfl ?_)))
  (with_reducible refine is_l ?_); refine l_callp rfl rfl (by kernel_rfl) (Tryd.strings_Count_any t ⟨#[10]⟩ mx _ (by omega) (H.old hM) (by decide)) ?_
  skip
  generalize Lib.countB t ⟨#[10]⟩ = k at hcs ⊢
  (with_reducible refine is_l ?_); refine l_t txs rfl rfl (fun h1 => ?_) (fun h1 => ?_)
  · have hno : parRec (bl t) = .no 115 := by rw [hV, lines_not (.inl (by omega))]
    repeat' (first | (with_reducible first | refine p_tn ?_ | refine wp_seq ?_) | (with_reducible (refine is_if ?_; (refine w_ift rfl ?_))) | (with_reducible refine l_nil ?_) | ((with_reducible refine g_on ?_); (first | ((with_reducible refine g_mv ?_); refine l_p txs rfl rfl ?_) | ((with_reducible refine g_pk ?_); refine l_p txs rfl rfl ?_))) | ((with_reducible refine g_if ?_); (refine l_off rfl ?_)))
    have HS := H.pick [0] [] (by decide) (by decide) rfl rfl
    refine d_start (fun w_ => Hp w w_ _ _) #[false, false, false, false, false, false, false] (by kernel_rfl) rfl rfl HS.drew ?_
    have H := H.drew
    have HS := HS.drew
    first | (refine d_take (i := 0) #[true, false, false, false, false, false, false] rfl (by kernel_rfl) (fun _ _ _ h => h) rfl (fun w_ K => evLR_run (o := ⟨_, _, _, _, _, _⟩) recs rfl rfl (K.range 0 rfl) rfl) HS ?_)
    first | (refine d_take (i := 1) #[true, true, false, false, false, false, false] rfl (by kernel_rfl) (fun _ _ _ h => h) rfl (fun w_ K => evLR_run (o := ⟨_, _, _, _, _, _⟩) recs rfl rfl (K.range 0 rfl) rfl) HS ?_)
    first | (refine d_pure (i := 2) #[true, true, true, false, false, false, false] rfl (by kernel_rfl) (fun _ _ _ h => h) rfl (fun w_ => evP_run (o := ⟨_, _, _, _, _, _⟩) txs rfl) ?_)
    first | (refine d_pure (i := 3) #[true, true, true, true, false, false, false] rfl (by kernel_rfl) (fun _ _ _ h => h) rfl (fun w_ => evP_run (o := ⟨_, _, _, _, _, _⟩) txs rfl) ?_)
    refine d_one (i := 4) #[true, true, true, true, true, false, false] rfl (by kernel_rfl) rfl ?_
    refine g_on ?_; ((with_reducible refine g_st ?_); (refine h_stR recs H 2 rfl rfl rfl rfl rfl rfl rfl rfl rfl (fun w_ H => ?_)))
    refine l_nil ?_
    have HS := H.pick [0] [] (by decide) (by decide) rfl rfl
    refine ⟨rfl, HS, ?_⟩
    refine d_one (i := 5) #[true, true, true, true, true, true, false] rfl (by kernel_rfl) rfl ?_
    refine g_on ?_; ((with_reducible refine g_st ?_); (refine h_stR recs H 1 rfl rfl rfl rfl rfl rfl rfl rfl rfl (fun w_ H => ?_)))
    refine l_nil ?_
    have HS := H.pick [0] [] (by decide) (by decide) rfl rfl
    refine ⟨rfl, HS, ?_⟩
    first | (refine d_pure (i := 6) #[true, true, true, true, true, true, true] rfl (by kernel_rfl) (fun _ _ _ h => h) rfl (fun w_ => evP_run (o := ⟨_, _, _, _, _, _⟩) txs rfl) ?_)
    refine d_done rfl ?_
    repeat' (with_reducible first | refine p_tn ?_ | refine p_tr ?_ | refine wp_ret ?_)
    refine end_ttcct recs H 2 1 rfl rfl rfl rfl rfl rfl rfl rfl rfl rfl rfl rfl ?_
    exact ⟨by rw [hno]; rfl, H.B⟩
  have hsu := fun w1 => hasSuf_c t ⟨#[10]⟩ w1 (by omega)
  rw [show bl (⟨#[10]⟩ : ByteArray) = [10] from rfl] at hsu
  repeat' (first | ((with_reducible refine g_on ?_); (first | ((with_reducible refine g_mv ?_); refine l_p txs rfl rfl ?_) | ((with_reducible refine g_pk ?_); refine l_p txs rfl rfl ?_))) | ((with_reducible refine g_if ?_); ((with_reducible refine g_mv ?_); refine l_p txs rfl rfl ?_)))
  (with_reducible refine is_l ?_); refine l_callp rfl rfl (by kernel_rfl) (hsu _) ?_
  cases hec : (endCut (bl t) [10]).isSome
  · have hno : parRec (bl t) = .no 115 := by rw [hV, lines_not (.inr hec)]
    repeat' (first | (with_reducible first | refine p_tn ?_ | refine wp_seq ?_) | (with_reducible (refine is_if ?_; (refine w_ift rfl ?_))) | (with_reducible refine l_nil ?_) | ((with_reducible refine g_on ?_); ((with_reducible refine g_pk ?_); refine l_p txs rfl rfl ?_)) | ((with_reducible refine g_if ?_); ((with_reducible refine g_un ?_); (refine l_p txs rfl rfl ?_))))
    have HS := H.pick [0] [] (by decide) (by decide) rfl rfl
    refine d_start (fun w_ => Hp w w_ _ _) #[false, false, false, false, false, false, false] (by kernel_rfl) rfl rfl HS.drew ?_
    have H := H.drew
    have HS := HS.drew
    first | (refine d_take (i := 0) #[true, false, false, false, false, false, false] rfl (by kernel_rfl) (fun _ _ _ h => h) rfl (fun w_ K => evLR_run (o := ⟨_, _, _, _, _, _⟩) recs rfl rfl (K.range 0 rfl) rfl) HS ?_)
    first | (refine d_take (i := 1) #[true, true, false, false, false, false, false] rfl (by kernel_rfl) (fun _ _ _ h => h) rfl (fun w_ K => evLR_run (o := ⟨_, _, _, _, _, _⟩) recs rfl rfl (K.range 0 rfl) rfl) HS ?_)
    first | (refine d_pure (i := 2) #[true, true, true, false, false, false, false] rfl (by kernel_rfl) (fun _ _ _ h => h) rfl (fun w_ => evP_run (o := ⟨_, _, _, _, _, _⟩) txs rfl) ?_)
    first | (refine d_pure (i := 3) #[true, true, true, true, false, false, false] rfl (by kernel_rfl) (fun _ _ _ h => h) rfl (fun w_ => evP_run (o := ⟨_, _, _, _, _, _⟩) txs rfl) ?_)
    refine d_one (i := 4) #[true, true, true, true, true, false, false] rfl (by kernel_rfl) rfl ?_
    refine g_on ?_; ((with_reducible refine g_st ?_); (refine h_stR recs H 2 rfl rfl rfl rfl rfl rfl rfl rfl rfl (fun w_ H => ?_)))
    refine l_nil ?_
    have HS := H.pick [0] [] (by decide) (by decide) rfl rfl
    refine ⟨rfl, HS, ?_⟩
    refine d_one (i := 5) #[true, true, true, true, true, true, false] rfl (by kernel_rfl) rfl ?_
    refine g_on ?_; ((with_reducible refine g_st ?_); (refine h_stR recs H 1 rfl rfl rfl rfl rfl rfl rfl rfl rfl (fun w_ H => ?_)))
    refine l_nil ?_
    have HS := H.pick [0] [] (by decide) (by decide) rfl rfl
    refine ⟨rfl, HS, ?_⟩
    first | (refine d_pure (i := 6) #[true, true, true, true, true, true, true] rfl (by kernel_rfl) (fun _ _ _ h => h) rfl (fun w_ => evP_run (o := ⟨_, _, _, _, _, _⟩) txs rfl) ?_)
    refine d_done rfl ?_
    repeat' (with_reducible first | refine p_tn ?_ | refine p_tr ?_ | refine wp_ret ?_)
    refine end_ttcct recs H 2 1 rfl rfl rfl rfl rfl rfl rfl rfl rfl rfl rfl rfl ?_
    exact ⟨by rw [hno]; rfl, H.B⟩
  obtain ⟨x, y, hspl, hli⟩ := lines_is (by omega) hec
  have hV : parRec (bl t) = recW (x, y) := by rw [hV, hli]
  have hsm2 := split_mem 10 (bl t)
  have hbx : Bytes x := fun c hc => bl_bytes t c ((hsm2 x (by rw [hspl]; simp)).1 c hc)
  have hby : Bytes y := fun c hc => bl_bytes t c ((hsm2 y (by rw [hspl]; simp)).1 c hc)
  have lx : (strOfNums x).size ≤ 1024 := by rw [← bl_length, blS hbx]; have := (hsm2 x (by rw [hspl]; simp)).2; omega
  have ly : (strOfNums y).size ≤ 1024 := by rw [← bl_length, blS hby]; have := (hsm2 y (by rw [hspl]; simp)).2; omega
  repeat' (first | (with_reducible first | refine p_tn ?_ | refine wp_seq ?_ | refine w_reg ?_) | (with_reducible (refine is_if ?_; (refine w_iff rfl ?_))) | (with_reducible first | refine wp_skip ?_ | refine l_nil ?_) | ((with_reducible refine g_on ?_); (first | ((with_reducible refine g_mv ?_); refine l_p txs rfl rfl ?_) | ((with_reducible refine g_pk ?_); refine l_p txs rfl rfl ?_))) | ((with_reducible refine g_if ?_); ((with_reducible refine g_un ?_); (refine l_p txs rfl rfl ?_))))
  have hsp := split_c t 10 (by omega) _ mx (H.old hM)
  rw [show ((10 : UInt8).toNat : Int) = 10 from rfl, hspl] at hsp
  (with_reducible refine is_l ?_); refine l_call rfl rfl (by kernel_rfl) hsp (fun e w_ hR => ?_)
  have hl3 : [x, y, ([] : L)].length = 3 := rfl
  obtain ⟨gN, rfl, K⟩ := hR
  refine ⟨_, rfl, ?_⟩
  have H := H.join K
  have hw1 := words_c (H.old hM) (strOfNums x) (by omega)
  have hw2 := fun (w1 : World) (h1 : w1.cell? ⟨2, 0, none⟩ = some (.int .i64 mx)) => words_c h1 (strOfNums y) (by omega)
  rw [blS hbx] at hw1
  rw [blS hby] at hw2
  have hV : parRec (bl t) = (match wordsS x, wordsS y with | some a, some b => recG a b | _, _ => .no 115) := hV
  repeat' (first | (with_reducible first | refine p_tn ?_ | refine wp_seq ?_ | refine w_reg ?_ | refine l_nil ?_) | ((with_reducible refine g_on ?_); (first | ((with_reducible refine g_mv ?_); refine l_p txs rfl rfl ?_) | ((with_reducible refine g_as ?_); refine l_p txs rfl rfl ?_) | ((with_reducible refine g_ld ?_); (refine h_ld txs H 0 rfl rfl rfl rfl ?_)) | ((with_reducible refine g_ia ?_); refine l_ia txs rfl rfl (by first | omega | assumption | decide) (by first | omega | assumption | decide) ?_))))
  cases ho1 : wordsS x with
  | none =>
    rw [ho1] at hw1 hV
    cases ho2 : wordsS y with
    | none =>
      rw [ho2] at hw2 hV
      have hno : parRec (bl t) = .no 115 := hV
      (with_reducible refine is_l ?_); refine l_callv rfl rfl (by kernel_rfl) hw1 (fun w_ K => ?_)
      have H := H.call K
      repeat' (first | (with_reducible first | refine p_tn ?_ | refine wp_seq ?_ | refine w_reg ?_ | refine l_nil ?_) | ((with_reducible refine g_on ?_); (first | ((with_reducible refine g_mv ?_); refine l_p txs rfl rfl ?_) | ((with_reducible refine g_as ?_); refine l_p txs rfl rfl ?_) | ((with_reducible refine g_ex ?_); refine l_p txs rfl rfl ?_) | ((with_reducible refine g_ld ?_); (refine h_ld txs H 1 rfl rfl rfl rfl ?_)) | ((with_reducible refine g_st ?_); (refine h_stR recs H 0 rfl rfl rfl rfl rfl rfl rfl rfl rfl (fun w_ H => ?_))) | ((with_reducible refine g_al ?_); refine h_alloc recs H rfl rfl (fun g_ w_ H => ?_)) | ((with_reducible refine g_ia ?_); refine l_ia txs rfl rfl (by first | omega | assumption | decide) (by first | omega | assumption | decide) ?_))))
      (with_reducible refine is_l ?_); refine l_callv rfl rfl (by kernel_rfl) (hw2 _ (H.old hM)) (fun w_ K => ?_)
      have H := H.call K
      repeat' (first | (with_reducible first | refine p_tn ?_ | refine wp_seq ?_ | refine w_reg ?_) | (with_reducible (refine is_if ?_; (refine w_ift rfl ?_))) | (with_reducible refine l_nil ?_) | ((with_reducible refine g_on ?_); (first | ((with_reducible refine g_mv ?_); refine l_p txs rfl rfl ?_) | ((with_reducible refine g_as ?_); refine l_p txs rfl rfl ?_) | ((with_reducible refine g_ex ?_); refine l_p txs rfl rfl ?_) | ((with_reducible refine g_pk ?_); refine l_p txs rfl rfl ?_) | ((with_reducible refine g_st ?_); (refine h_stR recs H 0 rfl rfl rfl rfl rfl rfl rfl rfl rfl (fun w_ H => ?_))) | ((with_reducible refine g_al ?_); refine h_alloc recs H rfl rfl (fun g_ w_ H => ?_)) | ((with_reducible refine g_un ?_); (refine l_p txs rfl rfl ?_)))) | ((with_reducible refine g_if ?_); (refine l_off rfl ?_)))
      have HS := H.pick [3] [] (by decide) (by decide) rfl rfl
      refine d_start (fun w_ => Hp w w_ _ _) #[false, false, false, false, false, false, false] (by kernel_rfl) rfl rfl HS.drew ?_
      have H := H.drew
      have HS := HS.drew
      first | (refine d_take (i := 0) #[true, false, false, false, false, false, false] rfl (by kernel_rfl) (fun _ _ _ h => h) rfl (fun w_ K => evLR_run (o := ⟨_, _, _, _, _, _⟩) recs rfl rfl (K.range 0 rfl) rfl) HS ?_)
      first | (refine d_take (i := 1) #[true, true, false, false, false, false, false] rfl (by kernel_rfl) (fun _ _ _ h => h) rfl (fun w_ K => evLR_run (o := ⟨_, _, _, _, _, _⟩) recs rfl rfl (K.range 0 rfl) rfl) HS ?_)
      first | (refine d_pure (i := 2) #[true, true, true, false, false, false, false] rfl (by kernel_rfl) (fun _ _ _ h => h) rfl (fun w_ => evP_run (o := ⟨_, _, _, _, _, _⟩) txs rfl) ?_)
      first | (refine d_pure (i := 3) #[true, true, true, true, false, false, false] rfl (by kernel_rfl) (fun _ _ _ h => h) rfl (fun w_ => evP_run (o := ⟨_, _, _, _, _, _⟩) txs rfl) ?_)
      refine d_one (i := 4) #[true, true, true, true, true, false, false] rfl (by kernel_rfl) rfl ?_
      refine g_on ?_; ((with_reducible refine g_st ?_); (refine h_stR recs H 5 rfl rfl rfl rfl rfl rfl rfl rfl rfl (fun w_ H => ?_)))
      refine l_nil ?_
      have HS := H.pick [3] [] (by decide) (by decide) rfl rfl
      refine ⟨rfl, HS, ?_⟩
      refine d_one (i := 5) #[true, true, true, true, true, true, false] rfl (by kernel_rfl) rfl ?_
      refine g_on ?_; ((with_reducible refine g_st ?_); (refine h_stR recs H 4 rfl rfl rfl rfl rfl rfl rfl rfl rfl (fun w_ H => ?_)))
      refine l_nil ?_
      have HS := H.pick [3] [] (by decide) (by decide) rfl rfl
      refine ⟨rfl, HS, ?_⟩
      first | (refine d_pure (i := 6) #[true, true, true, true, true, true, true] rfl (by kernel_rfl) (fun _ _ _ h => h) rfl (fun w_ => evP_run (o := ⟨_, _, _, _, _, _⟩) txs rfl) ?_)
      refine d_done rfl ?_
      repeat' (with_reducible first | refine p_tn ?_ | refine p_tr ?_ | refine wp_ret ?_)
      refine end_ttcct recs H 5 4 rfl rfl rfl rfl rfl rfl rfl rfl rfl rfl rfl rfl ?_
      exact ⟨by rw [hno]; rfl, H.B⟩
    | some b =>
      obtain ⟨b0, b1, b2⟩ := b
      rw [ho2] at hw2 hV
      have hno : parRec (bl t) = .no 115 := hV
      (with_reducible refine is_l ?_); refine l_callv rfl rfl (by kernel_rfl) hw1 (fun w_ K => ?_)
      have H := H.call K
      repeat' (first | (with_reducible first | refine p_tn ?_ | refine wp_seq ?_ | refine w_reg ?_ | refine l_nil ?_) | ((with_reducible refine g_on ?_); (first | ((with_reducible refine g_mv ?_); refine l_p txs rfl rfl ?_) | ((with_reducible refine g_as ?_); refine l_p txs rfl rfl ?_) | ((with_reducible refine g_ex ?_); refine l_p txs rfl rfl ?_) | ((with_reducible refine g_ld ?_); (refine h_ld txs H 1 rfl rfl rfl rfl ?_)) | ((with_reducible refine g_st ?_); (refine h_stR recs H 0 rfl rfl rfl rfl rfl rfl rfl rfl rfl (fun w_ H => ?_))) | ((with_reducible refine g_al ?_); refine h_alloc recs H rfl rfl (fun g_ w_ H => ?_)) | ((with_reducible refine g_ia ?_); refine l_ia txs rfl rfl (by first | omega | assumption | decide) (by first | omega | assumption | decide) ?_))))
      (with_reducible refine is_l ?_); refine l_callv rfl rfl (by kernel_rfl) (hw2 _ (H.old hM)) (fun w_ K => ?_)
      have H := H.call K
      repeat' (first | (with_reducible first | refine p_tn ?_ | refine wp_seq ?_ | refine w_reg ?_) | (with_reducible (refine is_if ?_; (refine w_ift rfl ?_))) | (with_reducible refine l_nil ?_) | ((with_reducible refine g_on ?_); (first | ((with_reducible refine g_mv ?_); refine l_p txs rfl rfl ?_) | ((with_reducible refine g_as ?_); refine l_p txs rfl rfl ?_) | ((with_reducible refine g_ex ?_); refine l_p txs rfl rfl ?_) | ((with_reducible refine g_pk ?_); refine l_p txs rfl rfl ?_) | ((with_reducible refine g_st ?_); (refine h_stR recs H 0 rfl rfl rfl rfl rfl rfl rfl rfl rfl (fun w_ H => ?_))) | ((with_reducible refine g_al ?_); refine h_alloc recs H rfl rfl (fun g_ w_ H => ?_)) | ((with_reducible refine g_un ?_); (refine l_p txs rfl rfl ?_)))) | ((with_reducible refine g_if ?_); (refine l_off rfl ?_)))
      have HS := H.pick [3] [] (by decide) (by decide) rfl rfl
      refine d_start (fun w_ => Hp w w_ _ _) #[false, false, false, false, false, false, false] (by kernel_rfl) rfl rfl HS.drew ?_
      have H := H.drew
      have HS := HS.drew
      first | (refine d_take (i := 0) #[true, false, false, false, false, false, false] rfl (by kernel_rfl) (fun _ _ _ h => h) rfl (fun w_ K => evLR_run (o := ⟨_, _, _, _, _, _⟩) recs rfl rfl (K.range 0 rfl) rfl) HS ?_)
      first | (refine d_take (i := 1) #[true, true, false, false, false, false, false] rfl (by kernel_rfl) (fun _ _ _ h => h) rfl (fun w_ K => evLR_run (o := ⟨_, _, _, _, _, _⟩) recs rfl rfl (K.range 0 rfl) rfl) HS ?_)
      first | (refine d_pure (i := 2) #[true, true, true, false, false, false, false] rfl (by kernel_rfl) (fun _ _ _ h => h) rfl (fun w_ => evP_run (o := ⟨_, _, _, _, _, _⟩) txs rfl) ?_)
      first | (refine d_pure (i := 3) #[true, true, true, true, false, false, false] rfl (by kernel_rfl) (fun _ _ _ h => h) rfl (fun w_ => evP_run (o := ⟨_, _, _, _, _, _⟩) txs rfl) ?_)
      refine d_one (i := 4) #[true, true, true, true, true, false, false] rfl (by kernel_rfl) rfl ?_
      refine g_on ?_; ((with_reducible refine g_st ?_); (refine h_stR recs H 5 rfl rfl rfl rfl rfl rfl rfl rfl rfl (fun w_ H => ?_)))
      refine l_nil ?_
      have HS := H.pick [3] [] (by decide) (by decide) rfl rfl
      refine ⟨rfl, HS, ?_⟩
      refine d_one (i := 5) #[true, true, true, true, true, true, false] rfl (by kernel_rfl) rfl ?_
      refine g_on ?_; ((with_reducible refine g_st ?_); (refine h_stR recs H 4 rfl rfl rfl rfl rfl rfl rfl rfl rfl (fun w_ H => ?_)))
      refine l_nil ?_
      have HS := H.pick [3] [] (by decide) (by decide) rfl rfl
      refine ⟨rfl, HS, ?_⟩
      first | (refine d_pure (i := 6) #[true, true, true, true, true, true, true] rfl (by kernel_rfl) (fun _ _ _ h => h) rfl (fun w_ => evP_run (o := ⟨_, _, _, _, _, _⟩) txs rfl) ?_)
      refine d_done rfl ?_
      repeat' (with_reducible first | refine p_tn ?_ | refine p_tr ?_ | refine wp_ret ?_)
      refine end_ttcct recs H 5 4 rfl rfl rfl rfl rfl rfl rfl rfl rfl rfl rfl rfl ?_
      exact ⟨by rw [hno]; rfl, H.B⟩
  | some a =>
    obtain ⟨a0, a1, a2⟩ := a
    rw [ho1] at hw1 hV
    cases ho2 : wordsS y with
    | none =>
      rw [ho2] at hw2 hV
      have hno : parRec (bl t) = .no 115 := hV
      (with_reducible refine is_l ?_); refine l_callv rfl rfl (by kernel_rfl) hw1 (fun w_ K => ?_)
      have H := H.call K
      repeat' (first | (with_reducible first | refine p_tn ?_ | refine wp_seq ?_ | refine w_reg ?_ | refine l_nil ?_) | ((with_reducible refine g_on ?_); (first | ((with_reducible refine g_mv ?_); refine l_p txs rfl rfl ?_) | ((with_reducible refine g_as ?_); refine l_p txs rfl rfl ?_) | ((with_reducible refine g_ex ?_); refine l_p txs rfl rfl ?_) | ((with_reducible refine g_ld ?_); (refine h_ld txs H 1 rfl rfl rfl rfl ?_)) | ((with_reducible refine g_st ?_); (refine h_stR recs H 0 rfl rfl rfl rfl rfl rfl rfl rfl rfl (fun w_ H => ?_))) | ((with_reducible refine g_al ?_); refine h_alloc recs H rfl rfl (fun g_ w_ H => ?_)) | ((with_reducible refine g_ia ?_); refine l_ia txs rfl rfl (by first | omega | assumption | decide) (by first | omega | assumption | decide) ?_))))
      (with_reducible refine is_l ?_); refine l_callv rfl rfl (by kernel_rfl) (hw2 _ (H.old hM)) (fun w_ K => ?_)
      have H := H.call K
      repeat' (first | (with_reducible first | refine p_tn ?_ | refine wp_seq ?_ | refine w_reg ?_) | (with_reducible (refine is_if ?_; (refine w_ift rfl ?_))) | (with_reducible refine l_nil ?_) | ((with_reducible refine g_on ?_); (first | ((with_reducible refine g_mv ?_); refine l_p txs rfl rfl ?_) | ((with_reducible refine g_as ?_); refine l_p txs rfl rfl ?_) | ((with_reducible refine g_ex ?_); refine l_p txs rfl rfl ?_) | ((with_reducible refine g_pk ?_); refine l_p txs rfl rfl ?_) | ((with_reducible refine g_st ?_); (refine h_stR recs H 0 rfl rfl rfl rfl rfl rfl rfl rfl rfl (fun w_ H => ?_))) | ((with_reducible refine g_al ?_); refine h_alloc recs H rfl rfl (fun g_ w_ H => ?_)) | ((with_reducible refine g_un ?_); (refine l_p txs rfl rfl ?_)))) | ((with_reducible refine g_if ?_); (first | (refine l_off rfl ?_) | ((with_reducible refine g_mv ?_); refine l_p txs rfl rfl ?_) | ((with_reducible refine g_un ?_); (refine l_p txs rfl rfl ?_)))))
      have HS := H.pick [3] [] (by decide) (by decide) rfl rfl
      refine d_start (fun w_ => Hp w w_ _ _) #[false, false, false, false, false, false, false] (by kernel_rfl) rfl rfl HS.drew ?_
      have H := H.drew
      have HS := HS.drew
      first | (refine d_take (i := 0) #[true, false, false, false, false, false, false] rfl (by kernel_rfl) (fun _ _ _ h => h) rfl (fun w_ K => evLR_run (o := ⟨_, _, _, _, _, _⟩) recs rfl rfl (K.range 0 rfl) rfl) HS ?_)
      first | (refine d_take (i := 1) #[true, true, false, false, false, false, false] rfl (by kernel_rfl) (fun _ _ _ h => h) rfl (fun w_ K => evLR_run (o := ⟨_, _, _, _, _, _⟩) recs rfl rfl (K.range 0 rfl) rfl) HS ?_)
      first | (refine d_pure (i := 2) #[true, true, true, false, false, false, false] rfl (by kernel_rfl) (fun _ _ _ h => h) rfl (fun w_ => evP_run (o := ⟨_, _, _, _, _, _⟩) txs rfl) ?_)
      first | (refine d_pure (i := 3) #[true, true, true, true, false, false, false] rfl (by kernel_rfl) (fun _ _ _ h => h) rfl (fun w_ => evP_run (o := ⟨_, _, _, _, _, _⟩) txs rfl) ?_)
      refine d_one (i := 4) #[true, true, true, true, true, false, false] rfl (by kernel_rfl) rfl ?_
      refine g_on ?_; ((with_reducible refine g_st ?_); (refine h_stR recs H 5 rfl rfl rfl rfl rfl rfl rfl rfl rfl (fun w_ H => ?_)))
      refine l_nil ?_
      have HS := H.pick [3] [] (by decide) (by decide) rfl rfl
      refine ⟨rfl, HS, ?_⟩
      refine d_one (i := 5) #[true, true, true, true, true, true, false] rfl (by kernel_rfl) rfl ?_
      refine g_on ?_; ((with_reducible refine g_st ?_); (refine h_stR recs H 4 rfl rfl rfl rfl rfl rfl rfl rfl rfl (fun w_ H => ?_)))
      refine l_nil ?_
      have HS := H.pick [3] [] (by decide) (by decide) rfl rfl
      refine ⟨rfl, HS, ?_⟩
      first | (refine d_pure (i := 6) #[true, true, true, true, true, true, true] rfl (by kernel_rfl) (fun _ _ _ h => h) rfl (fun w_ => evP_run (o := ⟨_, _, _, _, _, _⟩) txs rfl) ?_)
      refine d_done rfl ?_
      repeat' (with_reducible first | refine p_tn ?_ | refine p_tr ?_ | refine wp_ret ?_)
      refine end_ttcct recs H 5 4 rfl rfl rfl rfl rfl rfl rfl rfl rfl rfl rfl rfl ?_
      exact ⟨by rw [hno]; rfl, H.B⟩
    | some b =>
      obtain ⟨b0, b1, b2⟩ := b
      rw [ho2] at hw2 hV
      have hV : parRec (bl t) = recG (a0, a1, a2) (b0, b1, b2) := hV
      obtain ⟨ex, na0, na1, na2⟩ := wordsS_some ho1
      obtain ⟨ey, nb0, nb1, nb2⟩ := wordsS_some ho2
      have ba0 : Bytes a0 := fun c hc => hbx c (by rw [ex]; simp [hc])
      have ba1 : Bytes a1 := fun c hc => hbx c (by rw [ex]; simp [hc])
      have ba2 : Bytes a2 := fun c hc => hbx c (by rw [ex]; simp [hc])
      have bb0 : Bytes b0 := fun c hc => hby c (by rw [ey]; simp [hc])
      have bb1 : Bytes b1 := fun c hc => hby c (by rw [ey]; simp [hc])
      have bb2 : Bytes b2 := fun c hc => hby c (by rw [ey]; simp [hc])
      have la1 : (strOfNums a1).size ≤ 1024 := by
        rw [← bl_length, blS hbx, ex] at lx
        rw [← bl_length, blS ba1]
        simp only [List.length_append, List.length_cons] at lx
        omega
      have z7 : (⟨#[47, 103, 111, 46, 109, 111, 100]⟩ : ByteArray).size = 7 := rfl
      have e7 : bl (⟨#[47, 103, 111, 46, 109, 111, 100]⟩ : ByteArray) = modS := rfl
      have hV : parRec (bl t) = if a0 ≠ b0 ∨ b1 ≠ a1 ++ modS then .no 115 else if checkS a0 a1 ≠ 0 then .no (checkS a0 a1) else match parSum a2 with | none => .no 114 | some a => match parSum b2 with | none => .no 114 | some b => .is a0 a1 a b := hV
      (with_reducible refine is_l ?_); refine l_callv rfl rfl (by kernel_rfl) hw1 (fun w_ K => ?_)
      have H := H.call K
      repeat' (first | (with_reducible first | refine p_tn ?_ | refine wp_seq ?_ | refine w_reg ?_ | refine l_nil ?_) | ((with_reducible refine g_on ?_); (first | ((with_reducible refine g_mv ?_); refine l_p txs rfl rfl ?_) | ((with_reducible refine g_as ?_); refine l_p txs rfl rfl ?_) | ((with_reducible refine g_ex ?_); refine l_p txs rfl rfl ?_) | ((with_reducible refine g_ld ?_); (refine h_ld txs H 1 rfl rfl rfl rfl ?_)) | ((with_reducible refine g_st ?_); (refine h_stR recs H 0 rfl rfl rfl rfl rfl rfl rfl rfl rfl (fun w_ H => ?_))) | ((with_reducible refine g_al ?_); refine h_alloc recs H rfl rfl (fun g_ w_ H => ?_)) | ((with_reducible refine g_ia ?_); refine l_ia txs rfl rfl (by first | omega | assumption | decide) (by first | omega | assumption | decide) ?_))))
      (with_reducible refine is_l ?_); refine l_callv rfl rfl (by kernel_rfl) (hw2 _ (H.old hM)) (fun w_ K => ?_)
      have H := H.call K
      repeat' (first | (with_reducible first | refine p_tn ?_ | refine wp_seq ?_ | refine w_reg ?_ | refine l_nil ?_) | ((with_reducible refine g_on ?_); (first | ((with_reducible refine g_mv ?_); refine l_p txs rfl rfl ?_) | ((with_reducible refine g_as ?_); refine l_p txs rfl rfl ?_) | ((with_reducible refine g_ex ?_); refine l_p txs rfl rfl ?_) | ((with_reducible refine g_pk ?_); refine l_p txs rfl rfl ?_) | ((with_reducible refine g_st ?_); (refine h_stR recs H 0 rfl rfl rfl rfl rfl rfl rfl rfl rfl (fun w_ H => ?_))) | ((with_reducible refine g_al ?_); refine h_alloc recs H rfl rfl (fun g_ w_ H => ?_)) | ((with_reducible refine g_un ?_); (refine l_p txs rfl rfl ?_)))) | ((with_reducible refine g_if ?_); (first | ((with_reducible refine g_mv ?_); refine l_p txs rfl rfl ?_) | ((with_reducible refine g_un ?_); (refine l_p txs rfl rfl ?_)))))
      (with_reducible refine is_l ?_); refine l_iaa Tryd.underlying54 info_str1 rfl rfl rfl (by decide) (by decide) ?_
      repeat' ((with_reducible refine g_if ?_); ((with_reducible refine g_ld ?_); (refine h_ld txs H 1 rfl rfl rfl rfl ?_)))
      (with_reducible refine is_l ?_); refine l_iaa Tryd.underlying54 info_str1 rfl rfl rfl (by decide) (by decide) ?_
      repeat' ((with_reducible refine g_if ?_); ((with_reducible refine g_ld ?_); (refine h_ld txs H 0 rfl rfl rfl rfl ?_)))
      (with_reducible refine is_l ?_); refine l_t txs rfl rfl (fun h2 => ?_) (fun h2 => ?_)
      · rw [blS ba0, blS bb0] at h2
        have hno : parRec (bl t) = .no 115 := by rw [hV, if_pos (.inl h2)]
        repeat' (first | (with_reducible first | refine p_tn ?_ | refine wp_seq ?_) | (with_reducible (refine is_if ?_; (refine w_ift rfl ?_))) | (with_reducible refine l_nil ?_) | ((with_reducible refine g_on ?_); (first | ((with_reducible refine g_mv ?_); refine l_p txs rfl rfl ?_) | ((with_reducible refine g_pk ?_); refine l_p txs rfl rfl ?_))) | ((with_reducible refine g_if ?_); (refine l_off rfl ?_)))
        have HS := H.pick [3] [] (by decide) (by decide) rfl rfl
        refine d_start (fun w_ => Hp w w_ _ _) #[false, false, false, false, false, false, false] (by kernel_rfl) rfl rfl HS.drew ?_
        have H := H.drew
        have HS := HS.drew
        first | (refine d_take (i := 0) #[true, false, false, false, false, false, false] rfl (by kernel_rfl) (fun _ _ _ h => h) rfl (fun w_ K => evLR_run (o := ⟨_, _, _, _, _, _⟩) recs rfl rfl (K.range 0 rfl) rfl) HS ?_)
        first | (refine d_take (i := 1) #[true, true, false, false, false, false, false] rfl (by kernel_rfl) (fun _ _ _ h => h) rfl (fun w_ K => evLR_run (o := ⟨_, _, _, _, _, _⟩) recs rfl rfl (K.range 0 rfl) rfl) HS ?_)
        first | (refine d_pure (i := 2) #[true, true, true, false, false, false, false] rfl (by kernel_rfl) (fun _ _ _ h => h) rfl (fun w_ => evP_run (o := ⟨_, _, _, _, _, _⟩) txs rfl) ?_)
        first | (refine d_pure (i := 3) #[true, true, true, true, false, false, false] rfl (by kernel_rfl) (fun _ _ _ h => h) rfl (fun w_ => evP_run (o := ⟨_, _, _, _, _, _⟩) txs rfl) ?_)
        refine d_one (i := 4) #[true, true, true, true, true, false, false] rfl (by kernel_rfl) rfl ?_
        refine g_on ?_; ((with_reducible refine g_st ?_); (refine h_stR recs H 5 rfl rfl rfl rfl rfl rfl rfl rfl rfl (fun w_ H => ?_)))
        refine l_nil ?_
        have HS := H.pick [3] [] (by decide) (by decide) rfl rfl
        refine ⟨rfl, HS, ?_⟩
        refine d_one (i := 5) #[true, true, true, true, true, true, false] rfl (by kernel_rfl) rfl ?_
        refine g_on ?_; ((with_reducible refine g_st ?_); (refine h_stR recs H 4 rfl rfl rfl rfl rfl rfl rfl rfl rfl (fun w_ H => ?_)))
        refine l_nil ?_
        have HS := H.pick [3] [] (by decide) (by decide) rfl rfl
        refine ⟨rfl, HS, ?_⟩
        first | (refine d_pure (i := 6) #[true, true, true, true, true, true, true] rfl (by kernel_rfl) (fun _ _ _ h => h) rfl (fun w_ => evP_run (o := ⟨_, _, _, _, _, _⟩) txs rfl) ?_)
        refine d_done rfl ?_
        repeat' (with_reducible first | refine p_tn ?_ | refine p_tr ?_ | refine wp_ret ?_)
        refine end_ttcct recs H 5 4 rfl rfl rfl rfl rfl rfl rfl rfl rfl rfl rfl rfl ?_
        exact ⟨by rw [hno]; rfl, H.B⟩
      rw [blS ba0, blS bb0] at h2
      repeat' ((with_reducible refine g_on ?_); (first | ((with_reducible refine g_mv ?_); refine l_p txs rfl rfl ?_) | ((with_reducible refine g_pk ?_); refine l_p txs rfl rfl ?_)))
      (with_reducible refine is_l ?_); refine l_iaa Tryd.underlying54 info_str1 rfl rfl rfl (by decide) (by decide) ?_
      repeat' ((with_reducible refine g_if ?_); ((with_reducible refine g_ld ?_); (refine h_ld txs H 0 rfl rfl rfl rfl ?_)))
      (with_reducible refine is_l ?_); refine l_iaa Tryd.underlying54 info_str1 rfl rfl rfl (by decide) (by decide) ?_
      repeat' ((with_reducible refine g_if ?_); ((with_reducible refine g_ld ?_); (refine h_ld txs H 1 rfl rfl rfl rfl ?_)))
      (with_reducible refine is_l ?_); refine l_cat rfl rfl (by omega) ?_
      skip
      (with_reducible refine is_l ?_); refine l_t txs rfl rfl (fun h3 => ?_) (fun h3 => ?_)
      · rw [bl_cat, blS ba1, blS bb1, e7] at h3
        have hno : parRec (bl t) = .no 115 := by rw [hV, if_pos (.inr h3)]
        repeat' (first | (with_reducible first | refine p_tn ?_ | refine wp_seq ?_) | (with_reducible (refine is_if ?_; (refine w_ift rfl ?_))) | (with_reducible refine l_nil ?_) | ((with_reducible refine g_on ?_); ((with_reducible refine g_pk ?_); refine l_p txs rfl rfl ?_)))
        have HS := H.pick [3] [] (by decide) (by decide) rfl rfl
        refine d_start (fun w_ => Hp w w_ _ _) #[false, false, false, false, false, false, false] (by kernel_rfl) rfl rfl HS.drew ?_
        have H := H.drew
        have HS := HS.drew
        first | (refine d_take (i := 0) #[true, false, false, false, false, false, false] rfl (by kernel_rfl) (fun _ _ _ h => h) rfl (fun w_ K => evLR_run (o := ⟨_, _, _, _, _, _⟩) recs rfl rfl (K.range 0 rfl) rfl) HS ?_)
        first | (refine d_take (i := 1) #[true, true, false, false, false, false, false] rfl (by kernel_rfl) (fun _ _ _ h => h) rfl (fun w_ K => evLR_run (o := ⟨_, _, _, _, _, _⟩) recs rfl rfl (K.range 0 rfl) rfl) HS ?_)
        first | (refine d_pure (i := 2) #[true, true, true, false, false, false, false] rfl (by kernel_rfl) (fun _ _ _ h => h) rfl (fun w_ => evP_run (o := ⟨_, _, _, _, _, _⟩) txs rfl) ?_)
        first | (refine d_pure (i := 3) #[true, true, true, true, false, false, false] rfl (by kernel_rfl) (fun _ _ _ h => h) rfl (fun w_ => evP_run (o := ⟨_, _, _, _, _, _⟩) txs rfl) ?_)
        refine d_one (i := 4) #[true, true, true, true, true, false, false] rfl (by kernel_rfl) rfl ?_
        refine g_on ?_; ((with_reducible refine g_st ?_); (refine h_stR recs H 5 rfl rfl rfl rfl rfl rfl rfl rfl rfl (fun w_ H => ?_)))
        refine l_nil ?_
        have HS := H.pick [3] [] (by decide) (by decide) rfl rfl
        refine ⟨rfl, HS, ?_⟩
        refine d_one (i := 5) #[true, true, true, true, true, true, false] rfl (by kernel_rfl) rfl ?_
        refine g_on ?_; ((with_reducible refine g_st ?_); (refine h_stR recs H 4 rfl rfl rfl rfl rfl rfl rfl rfl rfl (fun w_ H => ?_)))
        refine l_nil ?_
        have HS := H.pick [3] [] (by decide) (by decide) rfl rfl
        refine ⟨rfl, HS, ?_⟩
        first | (refine d_pure (i := 6) #[true, true, true, true, true, true, true] rfl (by kernel_rfl) (fun _ _ _ h => h) rfl (fun w_ => evP_run (o := ⟨_, _, _, _, _, _⟩) txs rfl) ?_)
        refine d_done rfl ?_
        repeat' (with_reducible first | refine p_tn ?_ | refine p_tr ?_ | refine wp_ret ?_)
        refine end_ttcct recs H 5 4 rfl rfl rfl rfl rfl rfl rfl rfl rfl rfl rfl rfl ?_
        exact ⟨by rw [hno]; rfl, H.B⟩
      rw [bl_cat, blS ba1, blS bb1, e7] at h3
      rw [if_neg (by rintro (h | h); exact h2 h; exact h3 h)] at hV
      have hch := fun (w1 : World) (h1 : Lay w1) => check_c h1 (strOfNums a0) (strOfNums a1)
      rw [blS ba0, blS ba1] at hch
      generalize checkS a0 a1 = j at hV hch
      repeat' (first | (with_reducible first | refine p_tn ?_ | refine wp_seq ?_ | refine w_reg ?_) | (with_reducible (refine is_if ?_; (refine w_iff rfl ?_))) | (with_reducible first | refine wp_skip ?_ | refine l_nil ?_) | ((with_reducible refine g_on ?_); ((with_reducible refine g_pk ?_); refine l_p txs rfl rfl ?_)))
      (with_reducible refine is_l ?_); refine l_iaa Tryd.underlying54 info_str1 rfl rfl rfl (by decide) (by decide) ?_
      repeat' ((with_reducible refine g_on ?_); ((with_reducible refine g_ld ?_); (refine h_ld txs H 1 rfl rfl rfl rfl ?_)))
      (with_reducible refine is_l ?_); refine l_iaa Tryd.underlying54 info_str1 rfl rfl rfl (by decide) (by decide) ?_
      repeat' ((with_reducible refine g_on ?_); ((with_reducible refine g_ld ?_); (refine h_ld txs H 1 rfl rfl rfl rfl ?_)))
      (with_reducible refine is_l ?_); refine l_callv rfl rfl (by kernel_rfl) (hch _ (hL.below H.B)) (fun w_ K => ?_)
      have H := H.call K
      repeat' (first | (with_reducible first | refine p_tn ?_ | refine wp_seq ?_ | refine w_reg ?_ | refine l_nil ?_) | ((with_reducible refine g_on ?_); (first | ((with_reducible refine g_mv ?_); refine l_p txs rfl rfl ?_) | ((with_reducible refine g_as ?_); refine l_p txs rfl rfl ?_))))
      (with_reducible refine is_l ?_); refine l_t txs rfl rfl (fun h4 => ?_) (fun h4 => ?_)
      · have hno : parRec (bl t) = .no j := by rw [hV, if_pos (by omega)]
        repeat' (first | (with_reducible first | refine p_tn ?_ | refine wp_seq ?_) | (with_reducible (refine is_if ?_; (refine w_ift rfl ?_))) | (with_reducible refine l_nil ?_))
        have HS := H.pick [3] [] (by decide) (by decide) rfl rfl
        refine d_start (fun w_ => Hp w w_ _ _) #[false, false, false, false, false, false, false, false] (by kernel_rfl) rfl rfl HS.drew ?_
        have H := H.drew
        have HS := HS.drew
        first | (refine d_take (i := 0) #[true, false, false, false, false, false, false, false] rfl (by kernel_rfl) (fun _ _ _ h => h) rfl (fun w_ K => evLR_run (o := ⟨_, _, _, _, _, _⟩) recs rfl rfl (K.range 0 rfl) rfl) HS ?_)
        first | (refine d_take (i := 1) #[true, true, false, false, false, false, false, false] rfl (by kernel_rfl) (fun _ _ _ h => h) rfl (fun w_ K => evLR_run (o := ⟨_, _, _, _, _, _⟩) recs rfl rfl (K.range 0 rfl) rfl) HS ?_)
        first | (refine d_pure (i := 2) #[true, true, true, false, false, false, false, false] rfl (by kernel_rfl) (fun _ _ _ h => h) rfl (fun w_ => evP_run (o := ⟨_, _, _, _, _, _⟩) txs rfl) ?_)
        first | (refine d_pure (i := 3) #[true, true, true, true, false, false, false, false] rfl (by kernel_rfl) (fun _ _ _ h => h) rfl (fun w_ => evP_run (o := ⟨_, _, _, _, _, _⟩) txs rfl) ?_)
        first | (refine d_pure (i := 4) #[true, true, true, true, true, false, false, false] rfl (by kernel_rfl) (fun _ _ _ h => h) rfl (fun w_ => evP_run (o := ⟨_, _, _, _, _, _⟩) txs rfl) ?_)
        refine d_one (i := 5) #[true, true, true, true, true, true, false, false] rfl (by kernel_rfl) rfl ?_
        refine g_on ?_; ((with_reducible refine g_st ?_); (refine h_stR recs H 5 rfl rfl rfl rfl rfl rfl rfl rfl rfl (fun w_ H => ?_)))
        refine l_nil ?_
        have HS := H.pick [3] [] (by decide) (by decide) rfl rfl
        refine ⟨rfl, HS, ?_⟩
        refine d_one (i := 6) #[true, true, true, true, true, true, true, false] rfl (by kernel_rfl) rfl ?_
        refine g_on ?_; ((with_reducible refine g_st ?_); (refine h_stR recs H 4 rfl rfl rfl rfl rfl rfl rfl rfl rfl (fun w_ H => ?_)))
        refine l_nil ?_
        have HS := H.pick [3] [] (by decide) (by decide) rfl rfl
        refine ⟨rfl, HS, ?_⟩
        first | (refine d_pure (i := 7) #[true, true, true, true, true, true, true, true] rfl (by kernel_rfl) (fun _ _ _ h => h) rfl (fun w_ => evP_run (o := ⟨_, _, _, _, _, _⟩) txs rfl) ?_)
        refine d_done rfl ?_
        repeat' (with_reducible first | refine p_tn ?_ | refine p_tr ?_ | refine wp_ret ?_)
        refine end_ttcct recs H 5 4 rfl rfl rfl rfl rfl rfl rfl rfl rfl rfl rfl rfl ?_
        exact ⟨by rw [hno]; rfl, H.B⟩
      rw [if_neg (by omega)] at hV
      have hp1 := fun w1 => ParseSum_c (strOfNums a2) w1
      have hp2 := fun w1 => ParseSum_c (strOfNums b2) w1
      rw [blS ba2] at hp1
      rw [blS bb2] at hp2
      have hA1 := psL_length a2
      have hB1 := psL_length b2
      have cA : (psE (parSum a2) = 0 ∧ parSum a2 = some (psL (parSum a2))) ∨ (psE (parSum a2) = 114 ∧ parSum a2 = none) := by
        cases parSum a2 with
        | none => exact .inr ⟨rfl, rfl⟩
        | some l => exact .inl ⟨rfl, rfl⟩
      have cB : (psE (parSum b2) = 0 ∧ parSum b2 = some (psL (parSum b2))) ∨ (psE (parSum b2) = 114 ∧ parSum b2 = none) := by
        cases parSum b2 with
        | none => exact .inr ⟨rfl, rfl⟩
        | some l => exact .inl ⟨rfl, rfl⟩
      generalize psL (parSum a2) = A1 at hp1 hA1 cA
      generalize psL (parSum b2) = B1 at hp2 hB1 cB
      generalize psE (parSum a2) = eA at hp1 cA
      generalize psE (parSum b2) = eB at hp2 cB
      have nA : (nums .u8 A1).length = (nums .u8 zL).length := by rw [nums_length, hA1]; rfl
      have nB : (nums .u8 B1).length = (nums .u8 zL).length := by rw [nums_length, hB1]; rfl
      repeat' (first | (with_reducible first | refine p_tn ?_ | refine wp_seq ?_ | refine w_reg ?_) | (with_reducible (refine is_if ?_; (refine w_iff rfl ?_))) | (with_reducible first | refine wp_skip ?_ | refine l_nil ?_))
      (with_reducible refine is_l ?_); refine l_iaa Tryd.underlying54 info_str1 rfl rfl rfl (by decide) (by decide) ?_
      repeat' ((with_reducible refine g_on ?_); ((with_reducible refine g_ld ?_); (refine h_ld txs H 1 rfl rfl rfl rfl ?_)))
      (with_reducible refine is_l ?_); refine l_callv rfl rfl (by kernel_rfl) (hp1 _) (fun w_ K => ?_)
      have H := H.call K
      repeat' ((with_reducible refine g_on ?_); (first | ((with_reducible refine g_mv ?_); refine l_p txs rfl rfl ?_) | ((with_reducible refine g_ex ?_); refine l_p txs rfl rfl ?_)))
      (with_reducible refine is_l ?_); refine h_stR recs H 5 rfl rfl rfl rfl rfl (nfL_eq _ _) nA (nums_one _) rfl (fun w_ H => ?_)
      repeat' (first | (with_reducible first | refine p_tn ?_ | refine wp_seq ?_ | refine w_reg ?_ | refine l_nil ?_) | ((with_reducible refine g_on ?_); (first | ((with_reducible refine g_mv ?_); refine l_p txs rfl rfl ?_) | ((with_reducible refine g_as ?_); refine l_p txs rfl rfl ?_))))
      (with_reducible refine is_l ?_); refine l_t txs rfl rfl (fun h5 => ?_) (fun h5 => ?_)
      · obtain ⟨rfl, hq⟩ : eA = 114 ∧ parSum a2 = none := by
          rcases cA with ⟨h, _⟩ | h
          · exact absurd h h5
          · exact h
        have hno : parRec (bl t) = .no 114 := by rw [hV, hq]
        repeat' (first | (with_reducible first | refine p_tn ?_ | refine wp_seq ?_) | (with_reducible (refine is_if ?_; (refine w_ift rfl ?_))) | (with_reducible refine l_nil ?_))
        have HS := H.pick [3] [] (by decide) (by decide) rfl rfl
        refine d_start (fun w_ => Hp w w_ _ _) #[false, false, false, false, false, false, false, false] (by kernel_rfl) rfl rfl HS.drew ?_
        have H := H.drew
        have HS := HS.drew
        first | (refine d_take (i := 0) #[true, false, false, false, false, false, false, false] rfl (by kernel_rfl) (fun _ _ _ h => h) rfl (fun w_ K => evLR_run (o := ⟨_, _, _, _, _, _⟩) recs rfl rfl (K.range 0 rfl) rfl) HS ?_)
        first | (refine d_take (i := 1) #[true, true, false, false, false, false, false, false] rfl (by kernel_rfl) (fun _ _ _ h => h) rfl (fun w_ K => evLR_run (o := ⟨_, _, _, _, _, _⟩) recs rfl rfl (K.range 0 rfl) rfl) HS ?_)
        first | (refine d_pure (i := 2) #[true, true, true, false, false, false, false, false] rfl (by kernel_rfl) (fun _ _ _ h => h) rfl (fun w_ => evP_run (o := ⟨_, _, _, _, _, _⟩) txs rfl) ?_)
        first | (refine d_pure (i := 3) #[true, true, true, true, false, false, false, false] rfl (by kernel_rfl) (fun _ _ _ h => h) rfl (fun w_ => evP_run (o := ⟨_, _, _, _, _, _⟩) txs rfl) ?_)
        first | (refine d_pure (i := 4) #[true, true, true, true, true, false, false, false] rfl (by kernel_rfl) (fun _ _ _ h => h) rfl (fun w_ => evP_run (o := ⟨_, _, _, _, _, _⟩) txs rfl) ?_)
        refine d_one (i := 5) #[true, true, true, true, true, true, false, false] rfl (by kernel_rfl) rfl ?_
        refine h_stR recs H 5 rfl rfl rfl rfl nA rfl rfl rfl rfl (fun w_ H => ?_)
        refine l_nil ?_
        have HS := H.pick [3] [] (by decide) (by decide) rfl rfl
        refine ⟨rfl, HS, ?_⟩
        refine d_one (i := 6) #[true, true, true, true, true, true, true, false] rfl (by kernel_rfl) rfl ?_
        refine g_on ?_; ((with_reducible refine g_st ?_); (refine h_stR recs H 4 rfl rfl rfl rfl rfl rfl rfl rfl rfl (fun w_ H => ?_)))
        refine l_nil ?_
        have HS := H.pick [3] [] (by decide) (by decide) rfl rfl
        refine ⟨rfl, HS, ?_⟩
        first | (refine d_pure (i := 7) #[true, true, true, true, true, true, true, true] rfl (by kernel_rfl) (fun _ _ _ h => h) rfl (fun w_ => evP_run (o := ⟨_, _, _, _, _, _⟩) txs rfl) ?_)
        refine d_done rfl ?_
        repeat' (with_reducible first | refine p_tn ?_ | refine p_tr ?_ | refine wp_ret ?_)
        refine end_ttcct recs H 5 4 rfl rfl rfl rfl rfl rfl rfl rfl rfl rfl rfl rfl ?_
        exact ⟨by rw [hno]; rfl, H.B⟩
      have hqA : parSum a2 = some A1 := by
        rcases cA with ⟨_, h⟩ | ⟨h, _⟩
        · exact h
        · exact absurd (by rw [h]; decide) h5
      rw [hqA] at hV
      repeat' (first | (with_reducible first | refine p_tn ?_ | refine wp_seq ?_ | refine w_reg ?_) | (with_reducible (refine is_if ?_; (refine w_iff rfl ?_))) | (with_reducible first | refine wp_skip ?_ | refine l_nil ?_))
      (with_reducible refine is_l ?_); refine l_iaa Tryd.underlying54 info_str1 rfl rfl rfl (by decide) (by decide) ?_
      repeat' ((with_reducible refine g_on ?_); ((with_reducible refine g_ld ?_); (refine h_ld txs H 0 rfl rfl rfl rfl ?_)))
      (with_reducible refine is_l ?_); refine l_callv rfl rfl (by kernel_rfl) (hp2 _) (fun w_ K => ?_)
      have H := H.call K
      repeat' ((with_reducible refine g_on ?_); (first | ((with_reducible refine g_mv ?_); refine l_p txs rfl rfl ?_) | ((with_reducible refine g_ex ?_); refine l_p txs rfl rfl ?_)))
      (with_reducible refine is_l ?_); refine h_stR recs H 4 rfl rfl rfl rfl rfl (nfL_eq _ _) nB (nums_one _) rfl (fun w_ H => ?_)
      repeat' (first | (with_reducible first | refine p_tn ?_ | refine wp_seq ?_ | refine w_reg ?_ | refine l_nil ?_) | ((with_reducible refine g_on ?_); (first | ((with_reducible refine g_mv ?_); refine l_p txs rfl rfl ?_) | ((with_reducible refine g_as ?_); refine l_p txs rfl rfl ?_))))
      (with_reducible refine is_l ?_); refine l_t txs rfl rfl (fun h6 => ?_) (fun h6 => ?_)
      · obtain ⟨rfl, hq⟩ : eB = 114 ∧ parSum b2 = none := by
          rcases cB with ⟨h, _⟩ | h
          · exact absurd h h6
          · exact h
        have hno : parRec (bl t) = .no 114 := by rw [hV, hq]
        repeat' (first | (with_reducible first | refine p_tn ?_ | refine wp_seq ?_) | (with_reducible (refine is_if ?_; (refine w_ift rfl ?_))) | (with_reducible refine l_nil ?_))
        have HS := H.pick [3] [] (by decide) (by decide) rfl rfl
        refine d_start (fun w_ => Hp w w_ _ _) #[false, false, false, false, false, false, false, false] (by kernel_rfl) rfl rfl HS.drew ?_
        have H := H.drew
        have HS := HS.drew
        first | (refine d_take (i := 0) #[true, false, false, false, false, false, false, false] rfl (by kernel_rfl) (fun _ _ _ h => h) rfl (fun w_ K => evLR_run (o := ⟨_, _, _, _, _, _⟩) recs rfl rfl (K.range 0 rfl) rfl) HS ?_)
        first | (refine d_take (i := 1) #[true, true, false, false, false, false, false, false] rfl (by kernel_rfl) (fun _ _ _ h => h) rfl (fun w_ K => evLR_run (o := ⟨_, _, _, _, _, _⟩) recs rfl rfl (K.range 0 rfl) rfl) HS ?_)
        first | (refine d_pure (i := 2) #[true, true, true, false, false, false, false, false] rfl (by kernel_rfl) (fun _ _ _ h => h) rfl (fun w_ => evP_run (o := ⟨_, _, _, _, _, _⟩) txs rfl) ?_)
        first | (refine d_pure (i := 3) #[true, true, true, true, false, false, false, false] rfl (by kernel_rfl) (fun _ _ _ h => h) rfl (fun w_ => evP_run (o := ⟨_, _, _, _, _, _⟩) txs rfl) ?_)
        first | (refine d_pure (i := 4) #[true, true, true, true, true, false, false, false] rfl (by kernel_rfl) (fun _ _ _ h => h) rfl (fun w_ => evP_run (o := ⟨_, _, _, _, _, _⟩) txs rfl) ?_)
        refine d_one (i := 5) #[true, true, true, true, true, true, false, false] rfl (by kernel_rfl) rfl ?_
        refine h_stR recs H 5 rfl rfl rfl rfl nA rfl rfl rfl rfl (fun w_ H => ?_)
        refine l_nil ?_
        have HS := H.pick [3] [] (by decide) (by decide) rfl rfl
        refine ⟨rfl, HS, ?_⟩
        refine d_one (i := 6) #[true, true, true, true, true, true, true, false] rfl (by kernel_rfl) rfl ?_
        refine h_stR recs H 4 rfl rfl rfl rfl nB rfl rfl rfl rfl (fun w_ H => ?_)
        refine l_nil ?_
        have HS := H.pick [3] [] (by decide) (by decide) rfl rfl
        refine ⟨rfl, HS, ?_⟩
        first | (refine d_pure (i := 7) #[true, true, true, true, true, true, true, true] rfl (by kernel_rfl) (fun _ _ _ h => h) rfl (fun w_ => evP_run (o := ⟨_, _, _, _, _, _⟩) txs rfl) ?_)
        refine d_done rfl ?_
        repeat' (with_reducible first | refine p_tn ?_ | refine p_tr ?_ | refine wp_ret ?_)
        refine end_ttcct recs H 5 4 rfl rfl rfl rfl rfl rfl rfl rfl rfl rfl rfl rfl ?_
        exact ⟨by rw [hno]; rfl, H.B⟩
      have hqB : parSum b2 = some B1 := by
        rcases cB with ⟨_, h⟩ | ⟨h, _⟩
        · exact h
        · exact absurd (by rw [h]; decide) h6
      rw [hqB] at hV
      have hV : parRec (bl t) = .is a0 a1 A1 B1 := hV
      repeat' (first | (with_reducible first | refine p_tn ?_ | refine wp_seq ?_) | (with_reducible (refine is_if ?_; (refine w_iff rfl ?_))) | (with_reducible first | refine wp_skip ?_ | refine l_nil ?_))
      have HS := H.pick [1,5,4] [] (by decide) (by decide) rfl rfl
      refine d_start (fun w_ => Hp w w_ _ _) #[false, false, false, false, false, false, false, false, false, false, false] (by kernel_rfl) rfl rfl HS.drew ?_
      have H := H.drew
      have HS := HS.drew
      first | (refine d_pure (i := 0) #[true, false, false, false, false, false, false, false, false, false, false] rfl (by kernel_rfl) (fun _ _ _ h => h) rfl (fun w_ => iaa_run Tryd.underlying54 info_str1 rfl rfl (by decide) (by decide)) ?_)
      first | (refine d_take (i := 1) #[true, true, false, false, false, false, false, false, false, false, false] rfl (by kernel_rfl) (fun _ _ _ h => h) rfl (fun w_ K => evL_run (o := ⟨_, _, _, _, _, _⟩) txs rfl (K.cellAt 0 rfl rfl)) HS ?_) | (refine d_take (i := 1) #[true, true, false, false, false, false, false, false, false, false, false] rfl (by kernel_rfl) (fun _ _ _ h => h) rfl (fun w_ K => evL_run (o := ⟨_, _, _, _, _, _⟩) txs rfl (K.cellAt 1 rfl rfl)) HS ?_) | (refine d_take (i := 1) #[true, true, false, false, false, false, false, false, false, false, false] rfl (by kernel_rfl) (fun _ _ _ h => h) rfl (fun w_ K => evL_run (o := ⟨_, _, _, _, _, _⟩) txs rfl (K.cellAt 2 rfl rfl)) HS ?_)
      first | (refine d_pure (i := 2) #[true, true, true, false, false, false, false, false, false, false, false] rfl (by kernel_rfl) (fun _ _ _ h => h) rfl (fun w_ => iaa_run Tryd.underlying54 info_str1 rfl rfl (by decide) (by decide)) ?_)
      first | (refine d_take (i := 3) #[true, true, true, true, false, false, false, false, false, false, false] rfl (by kernel_rfl) (fun _ _ _ h => h) rfl (fun w_ K => evL_run (o := ⟨_, _, _, _, _, _⟩) txs rfl (K.cellAt 0 rfl rfl)) HS ?_) | (refine d_take (i := 3) #[true, true, true, true, false, false, false, false, false, false, false] rfl (by kernel_rfl) (fun _ _ _ h => h) rfl (fun w_ K => evL_run (o := ⟨_, _, _, _, _, _⟩) txs rfl (K.cellAt 1 rfl rfl)) HS ?_) | (refine d_take (i := 3) #[true, true, true, true, false, false, false, false, false, false, false] rfl (by kernel_rfl) (fun _ _ _ h => h) rfl (fun w_ K => evL_run (o := ⟨_, _, _, _, _, _⟩) txs rfl (K.cellAt 2 rfl rfl)) HS ?_)
      first | (refine d_take (i := 4) #[true, true, true, true, true, false, false, false, false, false, false] rfl (by kernel_rfl) (fun _ _ _ h => h) rfl (fun w_ K => evLR_run (o := ⟨_, _, _, _, _, _⟩) recs rfl rfl (K.range 1 rfl) nA) HS ?_)
      first | (refine d_take (i := 5) #[true, true, true, true, true, true, false, false, false, false, false] rfl (by kernel_rfl) (fun _ _ _ h => h) rfl (fun w_ K => evLR_run (o := ⟨_, _, _, _, _, _⟩) recs rfl rfl (K.range 2 rfl) nB) HS ?_)
      first | (refine d_pure (i := 6) #[true, true, true, true, true, true, true, false, false, false, false] rfl (by kernel_rfl) (fun _ _ _ h => h) rfl (fun w_ => evP_run (o := ⟨_, _, _, _, _, _⟩) txs rfl) ?_)
      first | (refine d_pure (i := 7) #[true, true, true, true, true, true, true, true, false, false, false] rfl (by kernel_rfl) (fun _ _ _ h => h) rfl (fun w_ => evP_run (o := ⟨_, _, _, _, _, _⟩) txs rfl) ?_)
      refine d_one (i := 8) #[true, true, true, true, true, true, true, true, true, false, false] rfl (by kernel_rfl) rfl ?_
      refine h_stR recs H 5 rfl rfl rfl rfl nA (nfL_eq _ _) nA (nums_one _) rfl (fun w_ H => ?_)
      refine l_nil ?_
      have HS := H.pick [1, 5, 4] [] (by decide) (by decide) rfl rfl
      refine ⟨rfl, HS, ?_⟩
      refine d_one (i := 9) #[true, true, true, true, true, true, true, true, true, true, false] rfl (by kernel_rfl) rfl ?_
      refine h_stR recs H 4 rfl rfl rfl rfl nB (nfL_eq _ _) nB (nums_one _) rfl (fun w_ H => ?_)
      refine l_nil ?_
      have HS := H.pick [1, 5, 4] [] (by decide) (by decide) rfl rfl
      refine ⟨rfl, HS, ?_⟩
      first | (refine d_pure (i := 10) #[true, true, true, true, true, true, true, true, true, true, true] rfl (by kernel_rfl) (fun _ _ _ h => h) rfl (fun w_ => evP_run (o := ⟨_, _, _, _, _, _⟩) txs rfl) ?_)
      refine d_done rfl ?_
      repeat' (with_reducible first | refine p_tn ?_ | refine wp_ret ?_)
      refine end_ttcct recs H 5 4 rfl rfl rfl rfl nA rfl rfl rfl nB rfl rfl rfl ?_
      exact ⟨by rw [hV]; rfl, H.B⟩
end Go.Proofs.YtnimaenhijlcmaaDoor.K.Rec
