/- Escapes read back; small letters. -/
import Derived.Test.YtnimaenhijlcmaaGreatDoorVp
import Derived.Laws.MakeOwn
namespace Go.Proofs.YtnimaenhijlcmaaGreatDoor.K
open Go.RowKit Go.Proofs.YtnimaenhijlcmaaGreatDoor.Q Go.Proofs.YtnimaenhijlcmaaGreatDoor.Mb Go.Proofs.YtnimaenhijlcmaaGreatDoorW.PrintWords
set_option linter.unusedVariables false
set_option linter.unusedSimpArgs false

abbrev rowB (v : Value) (b : L) : RowD := ⟨v, 5, 1, b.length, nums .u8 b⟩
theorem rowB_rd {w0 w : World} {l : List Ent} {r : List RowD} (H : Hp w0 w l r) (k : Nat) {F : Option Addr} {f : Nat} {x : L} (hk : r[k]? = some (rowB (.slice F x.length f) x)) : ReadsInt w .u8 F x.length x ∧ x.length ≤ f ∧ (F = none → f = 0 ∧ x.length = 0) := by
  obtain ⟨A0, c0, he, hle, hr, hn⟩ := H.rd k hk
  cases he
  obtain ⟨A3, c3, e3, _, R3⟩ := own_reads_of_le (enc := Value.int .u8) (d := (0 : Int)) (xs := x) (H.row k _ hk)
  cases e3
  exact ⟨readsInt_of.2 R3, hle, hn⟩
theorem h_mk0 {P : Program} {n : Nat} {f : Fr} {w w0 : World} {ops : Array Oper} {Q : Exit → Act → World → Prop} {rest : List Oper} {d : Option Nat} {tt : TypeId} {ps : String} {af : Array Edge} {gd : Option (Nat × Bool)} {l : List Ent} {r : List RowD} (H : Hp w0 w l r) {t e : TypeId} {x y : Operand} {z : Value} {by_ : Nat} {c : Nat} {c' : Int} (hinfo : (P.info? e).map (fun i => (i.zero, i.size, i.bytes)) = some (some z, 1, by_)) (hu : P.underlying t = some (.slice e))
    (hw : want n ops f ⟨d, .makeSlice t y x, tt, ps, af, gd⟩ = true) (hy : nf (X n f y) = some (.int .i64 0)) (hx : nf (X n f x) = some (.int .i64 c')) (hc : c' = (c : Int)) (hb : by_ * c ≤ 281474976710656) (hm : c ≤ maxLen)
    (h : ∀ g w', Hp w0 w' l (⟨.slice (some ⟨g, 0, none⟩) 0 c, e, 1, 0, []⟩ :: r) → WL P ops Q rest (act n (put f d (.slice (some ⟨g, 0, none⟩) 0 c))) w') : WL P ops Q (⟨d, .makeSlice t y x, tt, ps, af, gd⟩ :: rest) (act n f) w := by
  subst hc
  obtain ⟨i0, hi, hz⟩ := Option.map_eq_some_iff.1 hinfo
  simp only [Prod.mk.injEq] at hz
  obtain ⟨hz0, hz1, hz2⟩ := hz
  have hx' := nf_eq hx
  have hy' := nf_eq hy
  obtain ⟨w', hr, ho, hg⟩ := run_make_own (P := P) w w0.heap.size t e i0 z 1 hu hi hz0 hz1 .i64 .i64 c (by rw [hz2]; exact hb) hm H.B.size
  have H1 : Hp w0 w' l (⟨.slice (some ⟨w.heap.size, 0, none⟩) 0 c, e, 1, 0, []⟩ :: r) := (H.nilRow e 1).put 0 rfl hg ho (.inr ⟨_, rfl, Nat.le_refl _⟩)
  refine h_valw hw ?_ (h _ w' H1)
  unfold execOp
  simp [← hx', ← hy', hr]
theorem low_take {l : L} {i : Nat} {x : Int} (h : l[i]? = some x) : lowS (l.take (i + 1)) = lowS (l.take i) ++ [lowB x] := by
  have hi : i < l.length := (List.getElem?_eq_some_iff.1 h).1
  have hx : l[i] = x := (List.getElem?_eq_some_iff.1 h).2
  unfold lowS
  rw [List.take_succ_eq_append_getElem hi, hx, List.map_append]
  rfl
theorem unesc_cap {c : Int} (r : L) (h : capB c = true) : unescS (c :: r) = none := by
  cases r with
  | nil => simp [unescS, h]
  | cons d r => simp [unescS, h]
theorem unesc_bad {d : Int} (r : L) (h : smlB d = false) : unescS (33 :: d :: r) = none := by simp [unescS, h, show capB 33 = false from rfl]
theorem unesc_sml {d : Int} (r : L) (h : smlB d = true) : unescS (33 :: d :: r) = (unescS r).map ((d - 32) :: ·) := by simp [unescS, h, show capB 33 = false from rfl]
theorem unesc_pl {c : Int} (r : L) (h : capB c = false) (h2 : c ≠ 33) : unescS (c :: r) = (unescS r).map (c :: ·) := by
  cases r with
  | nil => simp [unescS, h, h2]
  | cons d r => simp [unescS, h, h2]
theorem map_map_cons (o : Option L) (acc : L) (y : Int) : (o.map (y :: ·)).map (acc ++ ·) = o.map ((acc ++ [y]) ++ ·) := by cases o <;> simp
/-- What unescape says. -/
def unT (s : L) : ByteArray × Bool := match unescS s with | some x => (strOfNums x, true) | none => (⟨#[]⟩, false)
theorem un_none {s : L} (h : unescS s = none) : unT s = (⟨#[]⟩, false) := by unfold unT; rw [h]
theorem un_some {s x : L} (h : unescS s = some x) : unT s = (strOfNums x, true) := by unfold unT; rw [h]
set_option maxRecDepth 100000 in
set_option maxHeartbeats 8000000 in
theorem unescape_c (t : ByteArray) (w : World) (ht : t.size ≤ 100000000000) : Calls Tryz.prog 122 #[.string t] w fun e w' => e = .returned (.tuple #[.string (unT (bl t)).1, .bool (unT (bl t)).2]) ∧ Below w.heap.size w w' := by
  have hlen := bl_length t
  have hbt := bl_bytes t
  refine enter (args := [.string t]) Tryz.func122 rfl Tryz.ntmps122 rfl ?_
  have H := Hp.nil w
  repeat' (first | (with_reducible first | refine p_tn ?_ | refine wp_seq ?_ | refine w_reg ?_ | refine l_nil ?_) | ((with_reducible refine g_on ?_); (first | ((with_reducible refine g_mv ?_); refine l_p txs rfl rfl ?_) | ((with_reducible refine g_as ?_); refine l_p txs rfl rfl ?_) | ((with_reducible refine g_cl ?_); refine l_p txs rfl rfl ?_))))
  (with_reducible refine is_l ?_); refine h_mk0 H info_u8 Tryz.underlying34 rfl rfl rfl rfl (by omega) (by simp only [maxLen]; omega) (fun g w_ H => ?_)
  repeat' (first | (with_reducible first | refine p_tn ?_ | refine wp_seq ?_ | refine wp_block ?_ | refine w_reg ?_ | refine l_nil ?_) | ((with_reducible refine g_on ?_); ((with_reducible refine g_as ?_); refine l_p txs rfl rfl ?_)))
  refine w_loop (σ := Nat × L × Option Addr × Nat) (S := fun s => [(0, .string t), (4, .slice s.2.2.1 s.2.1.length s.2.2.2), (5, .int .i64 (s.1 : Int))])
    (J := fun s w' => Hp w w' [] [rowB (.slice s.2.2.1 s.2.1.length s.2.2.2) s.2.1] ∧ s.1 ≤ t.size ∧ s.2.1.length ≤ s.1 ∧ unescS (bl t) = (unescS ((bl t).drop s.1)).map (s.2.1 ++ ·)) (μ := fun s => t.size - s.1) (0, [], some ⟨g, 0, none⟩, t.size) ⟨rfl, rfl, rfl, trivial⟩ ⟨H, by omega, by simp, by show unescS (bl t) = (unescS (bl t)).map (fun z => [] ++ z); cases unescS (bl t) <;> rfl⟩ ?_
  clear H
  rintro ⟨i, acc, A2, c2⟩ f w_ ⟨H, hi, hal, hV⟩
  simp only at H hi hal hV ⊢
  repeat' (first | (with_reducible first | refine wp_seq ?_ | refine w_reg ?_) | ((with_reducible refine g_on ?_); (first | ((with_reducible refine g_mv ?_); refine l_p txs rfl rfl ?_) | ((with_reducible refine g_cl ?_); refine l_p txs rfl rfl ?_))))
  (with_reducible refine is_l ?_); refine l_t txs rfl rfl (fun hlt => ?_) (fun hge => ?_)
  · obtain ⟨x, hx⟩ : ∃ x, (bl t)[i]? = some x := ⟨_, List.getElem?_eq_getElem (by omega)⟩
    have hx2 := bl_bytes t x (List.mem_of_getElem? hx)
    have hat : at_ (bl t) (i : Int) = x := by unfold at_; rw [Int.toNat_natCast, List.getD_eq_getElem?_getD, hx]; rfl
    have hdr : (bl t).drop i = x :: (bl t).drop (i + 1) := by
      obtain ⟨h1, h2⟩ := List.getElem?_eq_some_iff.1 hx
      rw [List.drop_eq_getElem_cons h1, h2]
    rw [hdr] at hV
    repeat' (first | (with_reducible first | refine p_tn ?_ | refine wp_seq ?_ | refine wp_block ?_ | refine w_reg ?_) | (with_reducible (refine is_if ?_; (refine w_ift rfl ?_))) | (with_reducible first | refine wp_skip ?_ | refine l_nil ?_) | ((with_reducible refine g_on ?_); (first | ((with_reducible refine g_mv ?_); refine l_p txs rfl rfl ?_) | ((with_reducible refine g_as ?_); refine l_p txs rfl rfl ?_) | ((with_reducible refine g_ix ?_); refine l_ix txs rfl rfl (by first | omega | assumption | decide) (by first | omega | assumption | decide) ?_) | ((with_reducible refine g_cv ?_); (refine l_a txs rfl rfl (by first | exact in_i64 (by omega) (by omega) | exact in_u8 (by omega) (by omega) | exact in_u64 (by omega) (by omega) | exact in_i32 (by omega) (by omega)) ?_)))))
    rw [hat]
    skip
    (with_reducible refine is_l ?_); refine l_callp rfl rfl (by kernel_rfl) (isCapital_c x _) ?_
    cases hc : capB x
    rotate_left
    · have hno : unescS (bl t) = none := by rw [hV, unesc_cap _ hc]; rfl
      repeat' (first | (with_reducible first | refine p_tn ?_ | refine p_tr ?_ | refine p_br ?_ | refine wp_seq ?_ | refine w_reg ?_) | (with_reducible (refine is_if ?_; (refine w_ift rfl ?_))) | (with_reducible first | refine wp_ret ?_ | refine l_nil ?_) | ((with_reducible refine g_on ?_); ((with_reducible refine g_as ?_); refine l_p txs rfl rfl ?_)))
      refine end2 rfl rfl rfl ?_
      exact ⟨by rw [un_none hno], H.B⟩
    repeat' (first | (with_reducible first | refine p_tn ?_ | refine wp_seq ?_ | refine w_reg ?_) | (with_reducible (refine is_if ?_; (refine w_iff rfl ?_))) | (with_reducible refine l_nil ?_) | ((with_reducible refine g_on ?_); (first | ((with_reducible refine g_mv ?_); refine l_p txs rfl rfl ?_) | ((with_reducible refine g_as ?_); refine l_p txs rfl rfl ?_))))
    (with_reducible refine is_l ?_); refine l_t txs rfl rfl (fun h1 => ?_) (fun h1 => ?_)
    · rw [h1] at hV
      repeat' (first | (with_reducible first | refine p_tn ?_ | refine wp_seq ?_ | refine w_reg ?_) | (with_reducible (refine is_if ?_; (refine w_ift rfl ?_))) | (with_reducible refine l_nil ?_) | ((with_reducible refine g_on ?_); (first | ((with_reducible refine g_mv ?_); refine l_p txs rfl rfl ?_) | ((with_reducible refine g_as ?_); refine l_p txs rfl rfl ?_) | ((with_reducible refine g_cl ?_); refine l_p txs rfl rfl ?_) | ((with_reducible refine g_bi ?_); (refine l_a txs rfl rfl (by first | exact in_i64 (by omega) (by omega) | exact in_u8 (by omega) (by omega) | exact in_u64 (by omega) (by omega) | exact in_i32 (by omega) (by omega)) ?_)))))
      (with_reducible refine is_l ?_); refine l_t txs rfl rfl (fun h2 => ?_) (fun h2 => ?_)
      · have hno : unescS (bl t) = none := by rw [hV, List.drop_eq_nil_of_le (by omega)]; rfl
        repeat' (first | (with_reducible first | refine p_tn ?_ | refine p_tr ?_ | refine p_br ?_ | refine wp_seq ?_ | refine w_reg ?_) | (with_reducible (refine is_if ?_; (refine w_ift rfl ?_))) | (with_reducible first | refine wp_ret ?_ | refine l_nil ?_) | ((with_reducible refine g_on ?_); (first | ((with_reducible refine g_mv ?_); refine l_p txs rfl rfl ?_) | ((with_reducible refine g_as ?_); refine l_p txs rfl rfl ?_) | ((with_reducible refine g_pk ?_); refine l_p txs rfl rfl ?_))) | ((with_reducible refine g_if ?_); (refine l_off rfl ?_)))
        refine end2 rfl rfl rfl ?_
        exact ⟨by rw [un_none hno], H.B⟩
      obtain ⟨z, hz⟩ : ∃ z, (bl t)[i + 1]? = some z := ⟨_, List.getElem?_eq_getElem (by omega)⟩
      have hz2 := bl_bytes t z (List.mem_of_getElem? hz)
      have hatz : at_ (bl t) ((i : Int) + 1) = z := by unfold at_; rw [show ((i : Int) + 1).toNat = i + 1 by omega, List.getD_eq_getElem?_getD, hz]; rfl
      have hdz : (bl t).drop (i + 1) = z :: (bl t).drop (i + 2) := by
        obtain ⟨h1, h2⟩ := List.getElem?_eq_some_iff.1 hz
        rw [List.drop_eq_getElem_cons h1, h2]
      rw [hdz] at hV
      repeat' (first | ((with_reducible refine g_on ?_); ((with_reducible refine g_mv ?_); refine l_p txs rfl rfl ?_)) | ((with_reducible refine g_if ?_); (first | ((with_reducible refine g_mv ?_); refine l_p txs rfl rfl ?_) | ((with_reducible refine g_ix ?_); refine l_ix txs rfl rfl (by first | omega | assumption | decide) (by first | omega | assumption | decide) ?_) | ((with_reducible refine g_cv ?_); (refine l_a txs rfl rfl (by first | exact in_i64 (by omega) (by omega) | exact in_u8 (by omega) (by omega) | exact in_u64 (by omega) (by omega) | exact in_i32 (by omega) (by omega)) ?_)))))
      rw [hatz]
      skip
      (with_reducible refine is_l ?_); refine l_callp rfl rfl (by kernel_rfl) (isSmall_c z _) ?_
      cases hs : smlB z
      · have hno : unescS (bl t) = none := by rw [hV, unesc_bad _ hs]; rfl
        repeat' (first | (with_reducible first | refine p_tn ?_ | refine p_tr ?_ | refine p_br ?_ | refine wp_seq ?_ | refine w_reg ?_) | (with_reducible (refine is_if ?_; (refine w_ift rfl ?_))) | (with_reducible first | refine wp_ret ?_ | refine l_nil ?_) | ((with_reducible refine g_on ?_); (first | ((with_reducible refine g_as ?_); refine l_p txs rfl rfl ?_) | ((with_reducible refine g_pk ?_); refine l_p txs rfl rfl ?_))) | ((with_reducible refine g_if ?_); ((with_reducible refine g_un ?_); (refine l_p txs rfl rfl ?_))))
        refine end2 rfl rfl rfl ?_
        exact ⟨by rw [un_none hno], H.B⟩
      rw [unesc_sml _ hs, map_map_cons] at hV
      have hzr : 97 ≤ z ∧ z ≤ 122 := by
        unfold smlB at hs
        simpa using hs
      obtain ⟨y, hy⟩ : ∃ y, y = z - 32 := ⟨_, rfl⟩
      have hy2 : z - 97 + 65 = y := by omega
      rw [← hy] at hV
      repeat' (first | (with_reducible first | refine p_tn ?_ | refine p_bn ?_ | refine w_reg ?_) | (with_reducible (refine is_if ?_; (refine w_iff rfl ?_))) | (with_reducible first | refine wp_skip ?_ | refine l_nil ?_) | ((with_reducible refine g_on ?_); (first | ((with_reducible refine g_mv ?_); refine l_p txs rfl rfl ?_) | ((with_reducible refine g_as ?_); refine l_p txs rfl rfl ?_) | ((with_reducible refine g_pk ?_); refine l_p txs rfl rfl ?_) | ((with_reducible refine g_ix ?_); refine l_ix txs rfl rfl (by first | omega | assumption | decide) (by first | omega | assumption | decide) ?_) | ((with_reducible refine g_bi ?_); (refine l_a txs rfl rfl (by first | exact in_i64 (by omega) (by omega) | exact in_u8 (by omega) (by omega) | exact in_u64 (by omega) (by omega) | exact in_i32 (by omega) (by omega)) ?_)))) | ((with_reducible refine g_if ?_); ((with_reducible refine g_un ?_); (refine l_p txs rfl rfl ?_))))
      rw [hatz]
      skip
      rw [hy2]
      skip
      (with_reducible refine is_l ?_); refine h_bs H info_u8 Tryz.underlying34 (by decide) (by decide) rfl rfl (by kernel_rfl) (fun g_ w_ H => ?_)
      (with_reducible refine is_l ?_); refine h_app H 0 rfl info_u8 Tryz.underlying34 rfl rfl rfl rfl (H.cellRd 0 rfl) rfl rfl (by show (acc.length + 1) * 1 ≤ _; omega) (fun v w_ hv H => ?_)
      obtain ⟨A', c', rfl⟩ := hv
      have H := H.pick [] [0] (by decide) (by decide) rfl rfl
      have H : Hp w w_ [] [rowB (.slice A' (acc.length + 1) c') (acc ++ [y])] := by
        unfold rowB
        rw [nums_snoc, List.length_append, List.length_singleton]
        exact H
      repeat' (first | (with_reducible first | refine p_tn ?_ | refine p_bn ?_ | refine w_reg ?_ | refine l_nil ?_) | ((with_reducible refine g_on ?_); (first | ((with_reducible refine g_mv ?_); refine l_p txs rfl rfl ?_) | ((with_reducible refine g_as ?_); refine l_p txs rfl rfl ?_) | ((with_reducible refine g_bi ?_); (refine l_a txs rfl rfl (by first | exact in_i64 (by omega) (by omega) | exact in_u8 (by omega) (by omega) | exact in_u64 (by omega) (by omega) | exact in_i32 (by omega) (by omega)) ?_)))))
      have hal : (acc ++ [y]).length = acc.length + 1 := by rw [List.length_append, List.length_singleton]
      exact ⟨(i + 2, acc ++ [y], A', c'), _, rfl, ⟨rfl, by show _ = Value.slice A' (acc ++ [y]).length c'; rw [hal]; rfl, rfl, trivial⟩, ⟨by rw [hal]; exact H, by show i + 2 ≤ _; omega, by show (acc ++ [y]).length ≤ i + 2; omega, hV⟩, by show _ - (i + 2) < _ - i; omega⟩
    · rw [unesc_pl _ hc h1, map_map_cons] at hV
      obtain ⟨y, hy⟩ : ∃ y, y = x := ⟨_, rfl⟩
      rw [← hy] at hV ⊢
      repeat' (first | (with_reducible first | refine p_tn ?_ | refine p_bn ?_ | refine w_reg ?_) | (with_reducible (refine is_if ?_; (refine w_iff rfl ?_))) | (with_reducible first | refine wp_skip ?_ | refine l_nil ?_) | ((with_reducible refine g_on ?_); (first | ((with_reducible refine g_mv ?_); refine l_p txs rfl rfl ?_) | ((with_reducible refine g_as ?_); refine l_p txs rfl rfl ?_))))
      (with_reducible refine is_l ?_); refine h_bs H info_u8 Tryz.underlying34 (by decide) (by decide) rfl rfl (by kernel_rfl) (fun g_ w_ H => ?_)
      (with_reducible refine is_l ?_); refine h_app H 0 rfl info_u8 Tryz.underlying34 rfl rfl rfl rfl (H.cellRd 0 rfl) rfl rfl (by show (acc.length + 1) * 1 ≤ _; omega) (fun v w_ hv H => ?_)
      obtain ⟨A', c', rfl⟩ := hv
      have H := H.pick [] [0] (by decide) (by decide) rfl rfl
      have H : Hp w w_ [] [rowB (.slice A' (acc.length + 1) c') (acc ++ [y])] := by
        unfold rowB
        rw [nums_snoc, List.length_append, List.length_singleton]
        exact H
      repeat' (first | (with_reducible first | refine p_tn ?_ | refine p_bn ?_ | refine w_reg ?_ | refine l_nil ?_) | ((with_reducible refine g_on ?_); (first | ((with_reducible refine g_mv ?_); refine l_p txs rfl rfl ?_) | ((with_reducible refine g_as ?_); refine l_p txs rfl rfl ?_) | ((with_reducible refine g_bi ?_); (refine l_a txs rfl rfl (by first | exact in_i64 (by omega) (by omega) | exact in_u8 (by omega) (by omega) | exact in_u64 (by omega) (by omega) | exact in_i32 (by omega) (by omega)) ?_)))))
      have hal : (acc ++ [y]).length = acc.length + 1 := by rw [List.length_append, List.length_singleton]
      exact ⟨(i + 1, acc ++ [y], A', c'), _, rfl, ⟨rfl, by show _ = Value.slice A' (acc ++ [y]).length c'; rw [hal]; rfl, rfl, trivial⟩, ⟨by rw [hal]; exact H, by show i + 1 ≤ _; omega, by show (acc ++ [y]).length ≤ i + 1; omega, hV⟩, by show _ - (i + 1) < _ - i; omega⟩
  · have hnil : (bl t).drop i = [] := List.drop_eq_nil_of_le (by omega)
    have hs : unescS (bl t) = some acc := by rw [hV, hnil]; simp [unescS]
    repeat' (first | (with_reducible first | refine p_tn ?_ | refine p_tx ?_ | refine x_hit ?_ | refine wp_seq ?_ | refine w_reg ?_) | (with_reducible (refine is_if ?_; (refine w_iff rfl ?_))) | (with_reducible first | refine wp_exit ?_ | refine l_nil ?_) | ((with_reducible refine g_on ?_); ((with_reducible refine g_mv ?_); refine l_p txs rfl rfl ?_)))
    (with_reducible refine is_l ?_); refine l_text rfl rfl Tryz.underlying34 Tryz.underlying5 Tryz.underlying9 (rowB_rd H 0 (F := A2) (f := c2) (x := acc) rfl).1 ?_
    repeat' (first | (with_reducible first | refine p_tn ?_ | refine wp_ret ?_ | refine l_nil ?_) | ((with_reducible refine g_on ?_); ((with_reducible refine g_as ?_); refine l_p txs rfl rfl ?_)))
    refine end2 rfl rfl rfl ?_
    exact ⟨by rw [un_some hs], H.B⟩
end Go.Proofs.YtnimaenhijlcmaaGreatDoor.K
