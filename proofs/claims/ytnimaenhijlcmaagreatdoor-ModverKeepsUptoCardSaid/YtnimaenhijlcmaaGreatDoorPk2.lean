/- Joined texts of mine, 2: Ve, Vf, Vg, Vh, Vi, Vj, Vk, Vl, Vm, Vn, Vo, Ca, Cb. -/
import Derived.Test.YtnimaenhijlcmaaGreatDoorPk1
section
namespace Go.Proofs.YtnimaenhijlcmaaGreatDoor.K
open Go.RowKit Go.Proofs.YtnimaenhijlcmaaGreatDoor.Q Go.Proofs.YtnimaenhijlcmaaGreatDoor.Mb Go.Proofs.YtnimaenhijlcmaaGreatDoorW.PrintWords
set_option linter.unusedVariables false
set_option linter.unusedSimpArgs false
section
variable {P : Program} {n : Nat} {f : Fr} {w w0 : World} {ops : Array Oper} {Q : Exit → Act → World → Prop} {rest : List Oper} {d : Option Nat} {op : Op} {tt : TypeId} {ps : String} {af : Array Edge} {gd : Option (Nat × Bool)} {l : List Ent} {r : List RowD} {o : Oper}
theorem l_iaa {t e : TypeId} {m : Nat} {x y : Operand} {g : Nat} {k : IntKind} {j : Int} (ht : P.underlying t = some (.array m e)) (he : (P.info? e).map (·.size) = some 1) (hw : want n ops f ⟨d, .indexAddr t x y, tt, ps, af, gd⟩ = true) (hx : nf (X n f x) = some (.pointer (some ⟨g, 0, none⟩))) (hy : nf (X n f y) = some (.int k j)) (h0 : 0 ≤ j) (h1 : j < m)
    (h : WL P ops Q rest (act n (put f d (.pointer (some ⟨g, j.toNat, none⟩)))) w) : WL P ops Q (⟨d, .indexAddr t x y, tt, ps, af, gd⟩ :: rest) (act n f) w := by
  refine l_val hw ?_ h
  have hx' := nf_eq hx
  have hy' := nf_eq hy
  obtain ⟨i0, hi, hz⟩ := Option.map_eq_some_iff.1 he
  unfold execOp
  simp [go_sem, ← hx', ← hy', Instr.indexAt, run_underlying ht, sizeOf, typeInfo, hi, hz, h0, h1, Addr.add_lit]
theorem evIaa_run {t e : TypeId} {m : Nat} {x y : Operand} {g : Nat} {k : IntKind} {j : Int} (ht : P.underlying t = some (.array m e)) (he : (P.info? e).map (·.size) = some 1) (ho : o.op = .indexAddr t x y) (hx : nf (X n f x) = some (.pointer (some ⟨g, 0, none⟩))) (hy : nf (X n f y) = some (.int k j)) (h0 : 0 ≤ j) (h1 : j < m) :
    (execOp (X n f) o).run P w = .ok (.value (.pointer (some ⟨g, j.toNat, none⟩))) w := by
  have hx' := nf_eq hx
  have hy' := nf_eq hy
  obtain ⟨i0, hi, hz⟩ := Option.map_eq_some_iff.1 he
  unfold execOp
  simp [go_sem, ho, ← hx', ← hy', Instr.indexAt, run_underlying ht, sizeOf, typeInfo, hi, hz, h0, h1, Addr.add_lit]
end
theorem info_str1 : (Tryz.prog.info? 9).map (·.size) = some 1 := by kernel_rfl
theorem drop_cons {α : Type} {l : List α} {i : Nat} {x : α} (h : l[i]? = some x) : l.drop i = x :: l.drop (i + 1) := by
  have hi : i < l.length := (List.getElem?_eq_some_iff.1 h).1
  rw [List.drop_eq_getElem_cons hi, (List.getElem?_eq_some_iff.1 h).2]
def Wds (l : List L) : Prop := ∀ x ∈ l, Bytes x ∧ x.length ≤ 100000000
theorem sizeS' {l : L} (h : Bytes l) : (strOfNums l).size = l.length := by rw [← bl_length, blS h]
set_option maxHeartbeats 4000000 in
theorem cmpFunc_c {w : World} {A1 A2 : Option Addr} {c1 c2 : Nat} {l1 l2 : List L} (h1 : Rd w A1 (strC l1)) (h2 : Rd w A2 (strC l2)) (b1 : Wds l1) (b2 : Wds l2) (n1 : l1.length ≤ 100000000) (n2 : l2.length ≤ 100000000) :
    Calls Tryz.prog 94 #[.slice A1 l1.length c1, .slice A2 l2.length c2, .func (.func 95) #[] #[]] w fun e w' => e = .returned (.int .i64 (cmpL l1 l2)) ∧ Bel w.heap.size w w' := by
  refine enter (args := [.slice A1 l1.length c1, .slice A2 l2.length c2, .func (.func 95) #[] #[]]) Tryz.func94 rfl Tryz.ntmps94 rfl ?_
  have H : Hd w w [] [] := HpS.nil w
  repeat' (first | (with_reducible first | refine p_tn ?_ | refine wp_seq ?_ | refine wp_block ?_ | refine w_reg ?_ | refine l_nil ?_) | ((with_reducible refine g_on ?_); (first | ((with_reducible refine g_mv ?_); refine l_p txs rfl rfl ?_) | ((with_reducible refine g_as ?_); refine l_p txs rfl rfl ?_) | ((with_reducible refine g_cl ?_); refine l_p txs rfl rfl ?_))))
  refine w_loop (σ := Nat) (S := fun s => [(0, .slice A1 l1.length c1), (1, .slice A2 l2.length c2), (2, .func (.func 95) #[] #[]), (11, .slice A1 l1.length c1), (12, .int .i64 (l1.length : Int)), (13, .int .i64 (s : Int))]) (J := fun s w' => Hd w w' [] [] ∧ s ≤ l1.length ∧ s ≤ l2.length ∧ cmpL l1 l2 = cmpL (l1.drop s) (l2.drop s)) (μ := fun s => l1.length - s) 0 ⟨rfl, rfl, rfl, rfl, rfl, rfl, trivial⟩ ⟨H, Nat.zero_le _, Nat.zero_le _, rfl⟩ ?_
  rintro i f w_ ⟨H, hi, hi2, hc⟩
  repeat' (with_reducible first | refine wp_seq ?_ | refine w_reg ?_)
  (with_reducible refine is_l ?_); refine l_t txs rfl rfl (fun hlt => ?_) (fun hge => ?_)
  · obtain ⟨x, hx⟩ : ∃ x, l1[i]? = some x := ⟨_, List.getElem?_eq_getElem (by omega)⟩
    obtain ⟨a1, rfl⟩ := rdT_some h1 hx
    have hc1 := rdT_cell h1 hx
    obtain ⟨bx, lx⟩ := b1 x (List.mem_of_getElem? hx)
    have zx := sizeS' bx
    rw [drop_cons hx] at hc
    repeat' (first | (with_reducible first | refine p_tn ?_ | refine wp_seq ?_ | refine wp_block ?_ | refine w_reg ?_) | (with_reducible (refine is_if ?_; (refine w_ift rfl ?_))) | (with_reducible first | refine wp_skip ?_ | refine l_nil ?_) | ((with_reducible refine g_on ?_); (first | ((with_reducible refine g_mv ?_); refine l_p txs rfl rfl ?_) | ((with_reducible refine g_ia ?_); refine l_ia txs rfl rfl (by first | omega | assumption | decide) (by first | omega | assumption | decide) ?_))))
    (with_reducible refine is_l ?_); refine l_ld txs rfl rfl (by rw [Int.toNat_natCast]; exact H.old hc1) ?_
    repeat' (first | (with_reducible first | refine p_tn ?_ | refine wp_seq ?_ | refine w_reg ?_ | refine l_nil ?_) | ((with_reducible refine g_on ?_); (first | ((with_reducible refine g_mv ?_); refine l_p txs rfl rfl ?_) | ((with_reducible refine g_as ?_); refine l_p txs rfl rfl ?_) | ((with_reducible refine g_cl ?_); refine l_p txs rfl rfl ?_))))
    (with_reducible refine is_l ?_); refine l_t txs rfl rfl (fun hge2 => ?_) (fun hlt2 => ?_)
    · rw [List.drop_eq_nil_of_le (show l2.length ≤ i by omega), cmpL] at hc
      repeat' (first | (with_reducible first | refine p_tn ?_ | refine p_tr ?_ | refine p_br ?_ | refine wp_seq ?_ | refine w_reg ?_) | (with_reducible (refine is_if ?_; (refine w_ift rfl ?_))) | (with_reducible first | refine wp_ret ?_ | refine l_nil ?_) | ((with_reducible refine g_on ?_); ((with_reducible refine g_as ?_); refine l_p txs rfl rfl ?_)))
      refine end1 rfl rfl ?_
      exact ⟨by rw [hc], H.BD⟩
    obtain ⟨y, hy⟩ : ∃ y, l2[i]? = some y := ⟨_, List.getElem?_eq_getElem (by omega)⟩
    obtain ⟨a2, rfl⟩ := rdT_some h2 hy
    have hc2 := rdT_cell h2 hy
    obtain ⟨by', ly⟩ := b2 y (List.mem_of_getElem? hy)
    have zy := sizeS' by'
    rw [drop_cons hy, cmpL] at hc
    repeat' (first | (with_reducible first | refine p_tn ?_ | refine wp_seq ?_ | refine w_reg ?_) | (with_reducible (refine is_if ?_; (refine w_iff rfl ?_))) | (with_reducible first | refine wp_skip ?_ | refine l_nil ?_) | ((with_reducible refine g_on ?_); (first | ((with_reducible refine g_mv ?_); refine l_p txs rfl rfl ?_) | ((with_reducible refine g_ia ?_); refine l_ia txs rfl rfl (by first | omega | assumption | decide) (by first | omega | assumption | decide) ?_))))
    (with_reducible refine is_l ?_); refine l_ld txs rfl rfl (by rw [Int.toNat_natCast]; exact H.old hc2) ?_
    repeat' (first | (with_reducible first | refine p_tn ?_ | refine wp_seq ?_ | refine w_reg ?_ | refine l_nil ?_) | ((with_reducible refine g_on ?_); (first | ((with_reducible refine g_mv ?_); refine l_p txs rfl rfl ?_) | ((with_reducible refine g_as ?_); refine l_p txs rfl rfl ?_))))
    have hw := byWord_c (strOfNums x) (strOfNums y) w_ (by omega) (by omega)
    rw [blS bx, blS by'] at hw
    (with_reducible refine is_l ?_); refine l_callv rfl rfl (by kernel_rfl) hw (fun w_ K => ?_)
    have H := H.callD K
    repeat' (first | (with_reducible first | refine p_tn ?_ | refine wp_seq ?_ | refine w_reg ?_ | refine l_nil ?_) | ((with_reducible refine g_on ?_); (first | ((with_reducible refine g_mv ?_); refine l_p txs rfl rfl ?_) | ((with_reducible refine g_as ?_); refine l_p txs rfl rfl ?_))))
    (with_reducible refine is_l ?_); refine l_t txs rfl rfl (fun h0 => ?_) (fun h0 => ?_)
    · rw [if_pos h0] at hc
      repeat' (first | (with_reducible first | refine p_tn ?_ | refine p_tr ?_ | refine p_br ?_ | refine wp_seq ?_ | refine w_reg ?_) | (with_reducible (refine is_if ?_; (refine w_ift rfl ?_))) | (with_reducible first | refine wp_ret ?_ | refine l_nil ?_) | ((with_reducible refine g_on ?_); (first | ((with_reducible refine g_mv ?_); refine l_p txs rfl rfl ?_) | ((with_reducible refine g_as ?_); refine l_p txs rfl rfl ?_))))
      refine end1 rfl rfl ?_
      exact ⟨by rw [hc], H.BD⟩
    · rw [if_neg h0] at hc
      repeat' (first | (with_reducible first | refine p_tn ?_ | refine p_bn ?_ | refine w_reg ?_) | (with_reducible (refine is_if ?_; (refine w_iff rfl ?_))) | (with_reducible first | refine wp_skip ?_ | refine l_nil ?_) | ((with_reducible refine g_on ?_); (first | ((with_reducible refine g_mv ?_); refine l_p txs rfl rfl ?_) | ((with_reducible refine g_bi ?_); (refine l_a txs rfl rfl (by first | exact in_i64 (by omega) (by omega) | exact in_u8 (by omega) (by omega) | exact in_u64 (by omega) (by omega) | exact in_i32 (by omega) (by omega)) ?_)))))
      exact ⟨i + 1, _, rfl, ⟨rfl, rfl, rfl, rfl, rfl, rfl, trivial⟩, ⟨H, by omega, by omega, hc⟩, by omega⟩
  · rw [List.drop_eq_nil_of_le (show l1.length ≤ i by omega)] at hc
    repeat' (first | (with_reducible first | refine p_tn ?_ | refine p_tx ?_ | refine x_hit ?_ | refine wp_seq ?_ | refine w_reg ?_) | (with_reducible (refine is_if ?_; (refine w_iff rfl ?_))) | (with_reducible first | refine wp_exit ?_ | refine l_nil ?_) | ((with_reducible refine g_on ?_); (first | ((with_reducible refine g_mv ?_); refine l_p txs rfl rfl ?_) | ((with_reducible refine g_cl ?_); refine l_p txs rfl rfl ?_))))
    (with_reducible refine is_l ?_); refine l_t txs rfl rfl (fun h0 => ?_) (fun h0 => ?_)
    · obtain ⟨y, hy⟩ : ∃ y, l2[i]? = some y := ⟨_, List.getElem?_eq_getElem (by omega)⟩
      rw [drop_cons hy, cmpL] at hc
      repeat' (first | (with_reducible first | refine p_tn ?_ | refine p_tr ?_ | refine wp_seq ?_ | refine w_reg ?_) | (with_reducible (refine is_if ?_; (refine w_ift rfl ?_))) | (with_reducible first | refine wp_ret ?_ | refine l_nil ?_) | ((with_reducible refine g_on ?_); ((with_reducible refine g_as ?_); refine l_p txs rfl rfl ?_)))
      refine end1 rfl rfl ?_
      exact ⟨by rw [hc], H.BD⟩
    · rw [List.drop_eq_nil_of_le (show l2.length ≤ i by omega), cmpL] at hc
      repeat' (first | (with_reducible first | refine p_tn ?_ | refine wp_seq ?_ | refine w_reg ?_) | (with_reducible (refine is_if ?_; (refine w_iff rfl ?_))) | (with_reducible first | refine wp_skip ?_ | refine wp_ret ?_ | refine l_nil ?_) | ((with_reducible refine g_on ?_); ((with_reducible refine g_as ?_); refine l_p txs rfl rfl ?_)))
      refine end1 rfl rfl ?_
      exact ⟨by rw [hc], H.BD⟩
abbrev verA (v : Ver) (A : Option Addr) (c : Nat) : Array Value := #[.string (strOfNums v.a), .string (strOfNums v.b), .string (strOfNums v.c), .slice A v.words.length c, .bool v.odd]
structure VerIn (v : Ver) : Prop where
  a : Bytes v.a ∧ v.a.length ≤ 100000000
  b : Bytes v.b ∧ v.b.length ≤ 100000000
  c : Bytes v.c ∧ v.c.length ≤ 100000000
  words : Wds v.words
  len : v.words.length ≤ 100000000
theorem byNumL_c {a b : L} (ha : Bytes a) (hb : Bytes b) (w : World) : Calls Tryz.prog 92 #[.string (strOfNums a), .string (strOfNums b)] w fun e w' => e = .returned (.int .i64 (cmpN a b)) ∧ Bel w.heap.size w w' := by
  have := byNumber_c (strOfNums a) (strOfNums b) w
  rw [blS ha, blS hb] at this
  exact this
set_option maxRecDepth 100000 in
set_option maxHeartbeats 8000000 in
theorem compare_c {w : World} {v u : Ver} (hv : VerIn v) (hu : VerIn u) {A1 A2 : Option Addr} {c1 c2 : Nat} (h1 : Rd w A1 (strC v.words)) (h2 : Rd w A2 (strC u.words)) :
    Calls Tryz.prog 59 #[.agg (verA v A1 c1), .agg (verA u A2 c2)] w fun e w' => e = .returned (.int .i64 (cmpV v u)) ∧ Bel w.heap.size w w' := by
  refine enter (args := [.agg (verA v A1 c1), .agg (verA u A2 c2)]) Tryz.func59 rfl Tryz.ntmps59 rfl ?_
  have H : Hd w w [] [] := HpS.nil w
  repeat' (with_reducible first | refine wp_seq ?_ | refine w_reg ?_)
  (with_reducible refine is_l ?_); refine h_box H rfl rfl rfl (fun gX w_ H => ?_)
  (with_reducible refine is_l ?_); refine h_box H rfl rfl rfl (fun gY w_ H => ?_)
  repeat' (first | (with_reducible first | refine p_tn ?_ | refine wp_seq ?_ | refine wp_block ?_ | refine w_reg ?_ | refine l_nil ?_) | ((with_reducible refine g_on ?_); (first | ((with_reducible refine g_mv ?_); refine l_p txs rfl rfl ?_) | ((with_reducible refine g_as ?_); refine l_p txs rfl rfl ?_))))
  refine w_loop (σ := Nat) (S := fun s => [(2, .pointer (some ⟨gX, 0, none⟩)), (3, .pointer (some ⟨gY, 0, none⟩)), (7, .int .i64 (s : Int))]) (J := fun s w' => Hd w w' [(gY, 91, (verA u A2 c2).toList), (gX, 91, (verA v A1 c1).toList)] [] ∧ s ≤ 3 ∧ (1 ≤ s → cmpN v.a u.a = 0) ∧ (2 ≤ s → cmpN v.b u.b = 0) ∧ (3 ≤ s → cmpN v.c u.c = 0)) (μ := fun s => 3 - s) 0 ⟨rfl, rfl, rfl, trivial⟩ ⟨H, by omega, fun h => by omega, fun h => by omega, fun h => by omega⟩ ?_
  clear H
  rintro s f w_ ⟨H, hs, k1, k2, k3⟩
  by_cases hs3 : s = 3
  · subst hs3
    have k1 := k1 (by omega)
    have k2 := k2 (by omega)
    have k3 := k3 (by omega)
    have hV : cmpV v u = Mb.cmpP v.words u.words := by unfold cmpV; rw [k1, k2, k3]; simp
    repeat' (with_reducible first | refine wp_seq ?_ | refine w_reg ?_)
    (with_reducible refine is_l ?_); refine l_t txs rfl rfl (fun hh => absurd hh (by decide)) (fun _ => ?_)
    repeat' (first | (with_reducible first | refine p_tn ?_ | refine p_tx ?_ | refine x_hit ?_ | refine wp_seq ?_ | refine wp_block ?_ | refine w_reg ?_) | (with_reducible (refine is_if ?_; (refine w_iff rfl ?_))) | (with_reducible first | refine wp_exit ?_ | refine l_nil ?_) | ((with_reducible refine g_on ?_); (first | ((with_reducible refine g_fa ?_); refine h_fa flds rfl rfl ?_) | ((with_reducible refine g_ld ?_); (refine h_ld txs H 1 rfl rfl rfl rfl ?_)) | ((with_reducible refine g_cl ?_); refine l_p txs rfl rfl ?_))))
    (with_reducible refine is_l ?_); refine l_t txs rfl rfl (fun e1 => ?_) (fun e1 => ?_)
    · have e1' : v.words = [] := List.eq_nil_of_length_eq_zero (by omega)
      have hP : Mb.cmpP v.words u.words = if u.words = [] then 0 else 1 := by unfold Mb.cmpP; rw [e1']; simp
      repeat' (first | (with_reducible first | refine p_tn ?_ | refine wp_seq ?_ | refine w_reg ?_) | (with_reducible (refine is_if ?_; (refine w_ift rfl ?_))) | (with_reducible refine l_nil ?_) | ((with_reducible refine g_on ?_); (first | ((with_reducible refine g_mv ?_); refine l_p txs rfl rfl ?_) | ((with_reducible refine g_as ?_); refine l_p txs rfl rfl ?_) | ((with_reducible refine g_pk ?_); refine l_p txs rfl rfl ?_) | ((with_reducible refine g_fa ?_); refine h_fa flds rfl rfl ?_) | ((with_reducible refine g_ld ?_); (first | (refine h_ld txs H 0 rfl rfl rfl rfl ?_) | (refine h_ld txs H 1 rfl rfl rfl rfl ?_))) | ((with_reducible refine g_cl ?_); refine l_p txs rfl rfl ?_))) | ((with_reducible refine g_if ?_); (refine l_off rfl ?_)))
      (with_reducible refine is_l ?_); refine l_callp rfl rfl (by kernel_rfl) (orderI_c _ _ _) ?_
      repeat' (first | (with_reducible first | refine p_tn ?_ | refine p_tr ?_ | refine p_br ?_ | refine wp_ret ?_ | refine l_nil ?_) | ((with_reducible refine g_on ?_); ((with_reducible refine g_as ?_); refine l_p txs rfl rfl ?_)))
      refine end1 rfl rfl ?_
      refine ⟨?_, H.BD⟩
      rw [hV, hP]
      unfold cmpI
      by_cases e2 : u.words = []
      · rw [e2, e1']; simp
      · have : 0 < u.words.length := List.length_pos_iff.2 e2
        rw [if_neg e2, e1]
        congr 2
        rw [if_neg (by split <;> omega), if_pos (by split <;> omega)]
    · have e1' : v.words ≠ [] := fun e => e1 (by rw [e]; rfl)
      repeat' (first | ((with_reducible refine g_on ?_); ((with_reducible refine g_mv ?_); refine l_p txs rfl rfl ?_)) | ((with_reducible refine g_if ?_); (first | ((with_reducible refine g_fa ?_); refine h_fa flds rfl rfl ?_) | ((with_reducible refine g_ld ?_); (refine h_ld txs H 0 rfl rfl rfl rfl ?_)) | ((with_reducible refine g_cl ?_); refine l_p txs rfl rfl ?_))))
      (with_reducible refine is_l ?_); refine l_t txs rfl rfl (fun e2 => ?_) (fun e2 => ?_)
      · have e2' : u.words = [] := List.eq_nil_of_length_eq_zero (by omega)
        have hP : Mb.cmpP v.words u.words = -1 := by unfold Mb.cmpP; rw [e2']; simp [e1']
        repeat' (first | (with_reducible first | refine p_tn ?_ | refine wp_seq ?_ | refine w_reg ?_) | (with_reducible (refine is_if ?_; (refine w_ift rfl ?_))) | (with_reducible refine l_nil ?_) | ((with_reducible refine g_on ?_); (first | ((with_reducible refine g_as ?_); refine l_p txs rfl rfl ?_) | ((with_reducible refine g_pk ?_); refine l_p txs rfl rfl ?_) | ((with_reducible refine g_fa ?_); refine h_fa flds rfl rfl ?_) | ((with_reducible refine g_ld ?_); (first | (refine h_ld txs H 0 rfl rfl rfl rfl ?_) | (refine h_ld txs H 1 rfl rfl rfl rfl ?_))) | ((with_reducible refine g_cl ?_); refine l_p txs rfl rfl ?_))))
        (with_reducible refine is_l ?_); refine l_callp rfl rfl (by kernel_rfl) (orderI_c _ _ _) ?_
        repeat' (first | (with_reducible first | refine p_tn ?_ | refine p_tr ?_ | refine p_br ?_ | refine wp_ret ?_ | refine l_nil ?_) | ((with_reducible refine g_on ?_); ((with_reducible refine g_as ?_); refine l_p txs rfl rfl ?_)))
        refine end1 rfl rfl ?_
        refine ⟨?_, H.BD⟩
        rw [hV, hP, e2]
        unfold cmpI
        have : 0 < v.words.length := List.length_pos_iff.2 e1'
        congr 2
        rw [if_pos (by split <;> omega)]
      · have e2' : u.words ≠ [] := fun e => e2 (by rw [e]; rfl)
        have hP : Mb.cmpP v.words u.words = cmpL v.words u.words := by unfold Mb.cmpP; rw [if_neg (by simp [e1', e2'])]
        repeat' (first | (with_reducible first | refine p_tn ?_ | refine p_bn ?_ | refine wp_seq ?_ | refine w_reg ?_) | (with_reducible (refine is_if ?_; (refine w_iff rfl ?_))) | (with_reducible first | refine wp_skip ?_ | refine l_nil ?_) | ((with_reducible refine g_on ?_); (first | ((with_reducible refine g_as ?_); refine l_p txs rfl rfl ?_) | ((with_reducible refine g_pk ?_); refine l_p txs rfl rfl ?_) | ((with_reducible refine g_fa ?_); refine h_fa flds rfl rfl ?_) | ((with_reducible refine g_ld ?_); (first | (refine h_ld txs H 0 rfl rfl rfl rfl ?_) | (refine h_ld txs H 1 rfl rfl rfl rfl ?_))))))
        (with_reducible refine is_l ?_); refine l_callv rfl rfl (by kernel_rfl) (cmpFunc_c (h1.below H.B) (h2.below H.B) hv.words hu.words hv.len hu.len) (fun w_ K => ?_)
        have H := H.callD K
        repeat' (first | (with_reducible first | refine p_tn ?_ | refine wp_ret ?_ | refine l_nil ?_) | ((with_reducible refine g_on ?_); ((with_reducible refine g_as ?_); refine l_p txs rfl rfl ?_)))
        refine end1 rfl rfl ?_
        exact ⟨by rw [hV, hP], H.BD⟩
  · have h012 : s = 0 ∨ s = 1 ∨ s = 2 := by omega
    rcases h012 with rfl | rfl | rfl
    all_goals
      repeat' (with_reducible first | refine wp_seq ?_ | refine w_reg ?_)
      (with_reducible refine is_l ?_); refine l_t txs rfl rfl (fun _ => ?_) (fun hh => absurd (by decide) hh)
      repeat' (first | (with_reducible first | refine p_tn ?_ | refine wp_seq ?_ | refine wp_block ?_ | refine w_reg ?_) | (with_reducible (refine is_if ?_; (refine w_ift rfl ?_))) | (with_reducible first | refine wp_skip ?_ | refine l_nil ?_) | ((with_reducible refine g_on ?_); (first | ((with_reducible refine g_mv ?_); refine l_p txs rfl rfl ?_) | ((with_reducible refine g_as ?_); refine l_p txs rfl rfl ?_))))
      have HS := H.pick [0, 1] [] (by decide) (by decide) rfl rfl
      refine d_start (fun w_ => HpS _ w w_ _ _) #[false, false, false, false, false, false, false, false, false, false] (by kernel_rfl) rfl rfl HS.drew ?_
      have H := H.drew
      have HS := HS.drew
      first | (refine d_pure (i := 0) #[true, false, false, false, false, false, false, false, false, false] rfl (by kernel_rfl) (fun _ _ _ h => h) rfl (fun w_ => evP_run (o := ⟨_, _, _, _, _, _⟩) txs rfl) ?_)
      first | (refine d_pure (i := 1) #[true, true, false, false, false, false, false, false, false, false] rfl (by kernel_rfl) (fun _ _ _ h => h) rfl (fun w_ => evF_run (o := ⟨_, _, _, _, _, _⟩) flds rfl) ?_) | (refine d_pure (i := 1) #[true, true, false, false, false, false, false, false, false, false] rfl (by kernel_rfl) (fun _ _ _ h => h) rfl (fun w_ => evG_run (o := ⟨_, _, _, _, _, _⟩) flds rfl) ?_)
      first | (refine d_pure (i := 2) #[true, true, true, false, false, false, false, false, false, false] rfl (by kernel_rfl) (fun _ _ _ h => h) rfl (fun w_ => evIaa_run (o := ⟨_, _, _, _, _, _⟩) Tryz.underlying87 info_str1 rfl rfl rfl (by decide) (by decide)) ?_)
      first | (refine d_take (i := 3) #[true, true, true, true, false, false, false, false, false, false] rfl (by kernel_rfl) (fun _ _ _ h => h) rfl (fun w_ K => evL_run (o := ⟨_, _, _, _, _, _⟩) txs rfl (K.cellAt 0 rfl rfl)) HS ?_) | (refine d_take (i := 3) #[true, true, true, true, false, false, false, false, false, false] rfl (by kernel_rfl) (fun _ _ _ h => h) rfl (fun w_ K => evL_run (o := ⟨_, _, _, _, _, _⟩) txs rfl (K.cellAt 1 rfl rfl)) HS ?_)
      first | (refine d_pure (i := 4) #[true, true, true, true, true, false, false, false, false, false] rfl (by kernel_rfl) (fun _ _ _ h => h) rfl (fun w_ => evP_run (o := ⟨_, _, _, _, _, _⟩) txs rfl) ?_)
      first | (refine d_pure (i := 5) #[true, true, true, true, true, true, false, false, false, false] rfl (by kernel_rfl) (fun _ _ _ h => h) rfl (fun w_ => evF_run (o := ⟨_, _, _, _, _, _⟩) flds rfl) ?_) | (refine d_pure (i := 5) #[true, true, true, true, true, true, false, false, false, false] rfl (by kernel_rfl) (fun _ _ _ h => h) rfl (fun w_ => evG_run (o := ⟨_, _, _, _, _, _⟩) flds rfl) ?_)
      first | (refine d_pure (i := 6) #[true, true, true, true, true, true, true, false, false, false] rfl (by kernel_rfl) (fun _ _ _ h => h) rfl (fun w_ => evIaa_run (o := ⟨_, _, _, _, _, _⟩) Tryz.underlying87 info_str1 rfl rfl rfl (by decide) (by decide)) ?_)
      first | (refine d_take (i := 7) #[true, true, true, true, true, true, true, true, false, false] rfl (by kernel_rfl) (fun _ _ _ h => h) rfl (fun w_ K => evL_run (o := ⟨_, _, _, _, _, _⟩) txs rfl (K.cellAt 0 rfl rfl)) HS ?_) | (refine d_take (i := 7) #[true, true, true, true, true, true, true, true, false, false] rfl (by kernel_rfl) (fun _ _ _ h => h) rfl (fun w_ K => evL_run (o := ⟨_, _, _, _, _, _⟩) txs rfl (K.cellAt 1 rfl rfl)) HS ?_)
      refine d_one (i := 8) #[true, true, true, true, true, true, true, true, true, false] rfl (by kernel_rfl) rfl ?_
      refine l_callv rfl rfl (by kernel_rfl) (byNumL_c (by first | exact hv.a.1 | exact hv.b.1 | exact hv.c.1) (by first | exact hu.a.1 | exact hu.b.1 | exact hu.c.1) _) (fun w_ K => ?_); have H := H.callD K
      refine l_nil ?_
      have HS := H.pick [0, 1] [] (by decide) (by decide) rfl rfl
      refine ⟨rfl, HS, ?_⟩
      first | (refine d_pure (i := 9) #[true, true, true, true, true, true, true, true, true, true] rfl (by kernel_rfl) (fun _ _ _ h => h) rfl (fun w_ => evP_run (o := ⟨_, _, _, _, _, _⟩) txs rfl) ?_)
      refine d_done rfl ?_
      repeat' (first | (with_reducible first | refine p_tn ?_ | refine wp_seq ?_ | refine w_reg ?_) | ((with_reducible refine g_on ?_); ((with_reducible refine g_mv ?_); refine l_p txs rfl rfl ?_)))
      (with_reducible refine is_l ?_); refine l_t txs rfl rfl (fun h0 => ?_) (fun h0 => ?_)
      · have hV : ∀ z, z ≠ 0 → (z = cmpN v.a u.a ∨ (cmpN v.a u.a = 0 ∧ (z = cmpN v.b u.b ∨ (cmpN v.b u.b = 0 ∧ z = cmpN v.c u.c)))) → cmpV v u = z := fun z hz hh => by
          unfold cmpV
          rcases hh with rfl | ⟨q1, rfl | ⟨q2, rfl⟩⟩
          · rw [if_pos hz]
          · rw [if_neg (by rw [q1]; simp), if_pos hz]
          · rw [if_neg (by rw [q1]; simp), if_neg (by rw [q2]; simp), if_pos hz]
        repeat' (first | (with_reducible first | refine p_tn ?_ | refine p_tr ?_ | refine p_br ?_ | refine wp_seq ?_ | refine w_reg ?_) | (with_reducible (refine is_if ?_; (refine w_ift rfl ?_))) | (with_reducible first | refine wp_ret ?_ | refine l_nil ?_) | ((with_reducible refine g_on ?_); (first | ((with_reducible refine g_mv ?_); refine l_p txs rfl rfl ?_) | ((with_reducible refine g_as ?_); refine l_p txs rfl rfl ?_))))
        refine end1 rfl rfl ?_
        exact ⟨by rw [hV _ h0 (by first | exact .inl rfl | exact .inr ⟨k1 (by decide), .inl rfl⟩ | exact .inr ⟨k1 (by decide), .inr ⟨k2 (by decide), rfl⟩⟩)], H.BD⟩
      · have h0 := Classical.not_not.1 h0
        repeat' (first | (with_reducible first | refine p_tn ?_ | refine p_bn ?_ | refine w_reg ?_) | (with_reducible (refine is_if ?_; (refine w_iff rfl ?_))) | (with_reducible first | refine wp_skip ?_ | refine l_nil ?_) | ((with_reducible refine g_on ?_); (first | ((with_reducible refine g_mv ?_); refine l_p txs rfl rfl ?_) | ((with_reducible refine g_bi ?_); (refine l_a txs rfl rfl (by first | exact in_i64 (by omega) (by omega) | exact in_u8 (by omega) (by omega) | exact in_u64 (by omega) (by omega) | exact in_i32 (by omega) (by omega)) ?_)))))
        refine ⟨_ + 1, _, rfl, ⟨rfl, rfl, rfl, trivial⟩, ⟨H.pick [0, 1] [] (by decide) (by decide) rfl rfl, by decide, fun _ => by first | exact h0 | exact k1 (by decide), fun h => by first | exact h0 | exact k2 (by decide) | omega, fun h => by first | exact h0 | omega⟩, by decide⟩
end Go.Proofs.YtnimaenhijlcmaaGreatDoor.K
end
section
namespace Go.Proofs.YtnimaenhijlcmaaGreatDoor.K
open Go.RowKit Go.Proofs.YtnimaenhijlcmaaGreatDoor.Q Go.Proofs.YtnimaenhijlcmaaGreatDoor.Mb Go.Proofs.YtnimaenhijlcmaaGreatDoorW.PrintWords
set_option linter.unusedVariables false
set_option linter.unusedSimpArgs false
section
variable {P : Program} {ty : Nat → Option Ty} {n : Nat} {f : Fr} {w : World} {o : Oper}
theorem evT_no (hty : Tys P ty) {p : Prop} (h : evT ty n f o.op = some p) (hp : ¬ p) : (execOp (X n f) o).run P w = .ok (.value (.bool false)) w := by
  obtain ⟨t, hr, ht⟩ := evT_run (w := w) hty h
  cases t with
  | true => exact absurd (ht.1 rfl) hp
  | false => exact hr
theorem evT_yes (hty : Tys P ty) {p : Prop} (h : evT ty n f o.op = some p) (hp : p) : (execOp (X n f) o).run P w = .ok (.value (.bool true)) w := by
  obtain ⟨t, hr, ht⟩ := evT_run (w := w) hty h
  cases t with
  | true => exact hr
  | false => exact absurd (ht.2 hp) (by simp)
end
theorem _root_.Go.Proofs.YtnimaenhijlcmaaGreatDoor.Q.HpS.entRow {s : Bool} {w0 w : World} {g : Nat} {t : TypeId} {cs : List Value} {l : List Ent} {r : List RowD} (H : HpS s w0 w ((g, t, cs) :: l) r) (hm : cs.length ≤ maxLen) : HpS s w0 w l (⟨.slice (some ⟨g, 0, none⟩) cs.length cs.length, t, 1, cs.length, cs⟩ :: r) := by
  have hb := H.blk 0 _ rfl
  refine ⟨H.B, fun i p h => H.blk (i + 1) p (by simpa using h), fun i d h => ?_, fun i j p q h1 h2 hne => H.ndl (i + 1) (j + 1) p q (by simpa using h1) (by simpa using h2) (by omega), fun i j d e h1 h2 hne b hd => ?_, fun i j p d h1 h2 => ?_, H.dr⟩
  · cases i with
    | zero =>
      simp only [List.getElem?_cons_zero, Option.some.injEq] at h
      subst h
      exact ⟨by simp, .inr ⟨g, cs.length, cs.toArray, rfl, hb.1, hb.2, Nat.le_refl _, hm, by simp, by simp⟩⟩
    | succ i => simp only [List.getElem?_cons_succ] at h; exact H.row i d h
  · cases i with
    | zero =>
      cases j with
      | zero => exact absurd rfl hne
      | succ j =>
        simp only [List.getElem?_cons_zero, Option.some.injEq] at h1
        simp only [List.getElem?_cons_succ] at h2
        subst h1
        simp only [Value.ownBlock, Option.some.injEq] at hd
        subst hd
        exact H.ndm 0 j _ e rfl h2
    | succ i =>
      simp only [List.getElem?_cons_succ] at h1
      cases j with
      | zero =>
        simp only [List.getElem?_cons_zero, Option.some.injEq] at h2
        subst h2
        have := H.ndm 0 i _ d rfl h1
        intro e
        simp only [Value.ownBlock, Option.some.injEq] at e
        exact this (by rw [hd, ← e])
      | succ j =>
        simp only [List.getElem?_cons_succ] at h2
        exact H.ndr i j d e h1 h2 (by omega) b hd
  · cases j with
    | zero =>
      simp only [List.getElem?_cons_zero, Option.some.injEq] at h2
      subst h2
      have := H.ndl (i + 1) 0 p _ (by simpa using h1) rfl (by omega)
      intro e
      simp only [Value.ownBlock, Option.some.injEq] at e
      exact this e.symm
    | succ j =>
      simp only [List.getElem?_cons_succ] at h2
      exact H.ndm (i + 1) j p d (by simpa using h1) h2
theorem hasV_c (t : ByteArray) (w : World) : Calls Tryz.prog 88 #[.string t, .string ⟨#[118]⟩] w fun e w' => e = .returned (.bool (decide ((bl t).head? = some 118))) ∧ w' = w := by
  refine (Tryz.strings_HasPrefix t ⟨#[118]⟩ w).mono fun e w' ⟨h1, h2⟩ => ⟨?_, h2⟩
  rw [h1]
  congr 2
  unfold Lib.hasPrefix bl
  cases hd : t.data.toList with
  | nil => rfl
  | cons x r =>
    simp [List.isPrefixOf]
    by_cases h : x = 118
    · subst h; rfl
    · have h2 : ¬ (x.toNat : Int) = 118 := fun e => h (UInt8.toNat_inj.1 (by have e2 : (118 : UInt8).toNat = 118 := rfl; omega))
      rw [decide_eq_false h2]
      exact beq_eq_false_iff_ne.2 (fun e => h e.symm)
theorem map_inj8 : ∀ {s p : List UInt8}, (s.map fun b => (b.toNat : Int)) = (p.map fun b => (b.toNat : Int)) → s = p
  | [], [], _ => rfl
  | [], _ :: _, h => by cases h
  | _ :: _, [], h => by cases h
  | x :: s, y :: p, h => by
    simp only [List.map_cons, List.cons.injEq] at h
    rw [UInt8.toNat_inj.1 (show x.toNat = y.toNat by omega), map_inj8 h.2]
theorem suf_cut (s p : List UInt8) : endCut (s.map fun b => (b.toNat : Int)) (p.map fun b => (b.toNat : Int)) = if p.isSuffixOf s = true then some ((s.take (s.length - p.length)).map fun b => (b.toNat : Int)) else none := by
  unfold endCut
  simp only [List.length_map, ← List.map_drop, ← List.map_take]
  by_cases h : p.isSuffixOf s = true
  · have h1 := List.isSuffixOf_iff_suffix.1 h
    have h2 := List.suffix_iff_eq_drop.1 h1
    rw [if_pos h, if_pos ⟨h1.length_le, by rw [← h2]⟩]
  · rw [if_neg h, if_neg]
    rintro ⟨h1, h2⟩
    exact h (List.isSuffixOf_iff_suffix.2 (List.suffix_iff_eq_drop.2 (map_inj8 h2).symm))
theorem cutSuf_c (t p : ByteArray) (w : World) (ht : t.size ≤ 100000000) : Calls Tryz.prog 89 #[.string t, .string p] w fun e w' => e = .returned (.tuple #[.string (strOfNums ((endCut (bl t) (bl p)).getD (bl t))), .bool (endCut (bl t) (bl p)).isSome]) ∧ w' = w := by
  refine (Tryz.strings_CutSuffix t p w (by omega)).mono fun e w' ⟨h1, h2⟩ => ⟨?_, h2⟩
  rw [h1]
  have hs := suf_cut t.data.toList p.data.toList
  have hs : endCut (bl t) (bl p) = _ := hs
  rw [hs]
  unfold Lib.trimSuffix Lib.hasSuffix
  by_cases h : p.data.toList.isSuffixOf t.data.toList = true
  · rw [if_pos h, if_pos h, h]
    have : strOfNums ((t.data.toList.take (t.data.toList.length - p.data.toList.length)).map fun b => (b.toNat : Int)) = ⟨(t.data.toList.take (t.data.toList.length - p.data.toList.length)).toArray⟩ := by
      refine bl_inj ?_
      rw [blS (fun x hx => by obtain ⟨b, _, rfl⟩ := List.mem_map.1 hx; have := b.toNat_lt; omega)]
      rfl
    simp only [Option.getD_some, Option.isSome_some]
    rw [this]
  · rw [if_neg h, if_neg h, Bool.eq_false_iff.2 h]
    simp only [Option.getD_none, Option.isSome_none]
    rw [strS]
end Go.Proofs.YtnimaenhijlcmaaGreatDoor.K
end
section
namespace Go.Proofs.YtnimaenhijlcmaaGreatDoor.K
open Go.RowKit Go.Proofs.YtnimaenhijlcmaaGreatDoor.Q Go.Proofs.YtnimaenhijlcmaaGreatDoor.Mb Go.Proofs.YtnimaenhijlcmaaGreatDoorW.PrintWords
set_option linter.unusedVariables false
set_option linter.unusedSimpArgs false
theorem split_mem (c : Int) : ∀ (l : L) (x : L), x ∈ splitC c l → (∀ y ∈ x, y ∈ l) ∧ x.length ≤ l.length
  | [], x, h => by simp [splitC] at h; subst h; simp
  | a :: r, x, h => by
    have ih := split_mem c r
    unfold splitC at h
    split at h
    · rcases List.mem_cons.1 h with rfl | h
      · simp
      · have := ih x h
        exact ⟨fun y hy => List.mem_cons_of_mem _ (this.1 y hy), by simp; omega⟩
    · split at h
      · simp only [List.mem_singleton] at h
        subst h
        exact ⟨fun y hy => by simp_all, by simp⟩
      · rename_i p q hs
        rcases List.mem_cons.1 h with rfl | h
        · have := ih p (by rw [hs]; simp)
          exact ⟨fun y hy => by
            rcases List.mem_cons.1 hy with rfl | hy
            · simp
            · exact List.mem_cons_of_mem _ (this.1 y hy), by simp; omega⟩
        · have := ih x (by rw [hs]; simp [h])
          exact ⟨fun y hy => List.mem_cons_of_mem _ (this.1 y hy), by simp; omega⟩
theorem split_len (c : Int) (l : L) : (splitC c l).length ≤ l.length + 1 := by
  induction l with
  | nil => simp [splitC]
  | cons x r ih =>
    unfold splitC
    split
    · simp; omega
    · split
      · simp
      · rename_i h
        rw [h] at ih
        simp at ih ⊢
        omega
def PaR (w : World) (s : L) (e : Ending) (w' : World) : Prop := match parseV s with
  | none => ∃ (x y z : ByteArray) (A : Option Addr) (n c : Nat) (b : Bool), e = .returned (.tuple #[.agg #[.string x, .string y, .string z, .slice A n c, .bool b], .bool false]) ∧ Below w.heap.size w w'
  | some v => ∃ A c, e = .returned (.tuple #[.agg (verA v A c), .bool true]) ∧ Hp w w' [] [rowT (.slice A v.words.length c) v.words]
theorem pa_none {w w' : World} {s : L} (h : parseV s = none) (x y z : ByteArray) (A : Option Addr) (n c : Nat) (b : Bool) (K : Below w.heap.size w w') : PaR w s (.returned (.tuple #[.agg #[.string x, .string y, .string z, .slice A n c, .bool b], .bool false])) w' := by
  unfold PaR; rw [h]; exact ⟨x, y, z, A, n, c, b, rfl, K⟩
theorem pa_some {w w' : World} {s : L} {v : Ver} (h : parseV s = some v) (A : Option Addr) (c : Nat) (K : Hp w w' [] [rowT (.slice A v.words.length c) v.words]) : PaR w s (.returned (.tuple #[.agg (verA v A c), .bool true])) w' := by
  unfold PaR; rw [h]; exact ⟨A, c, rfl, K⟩
def PaD (w : World) (s : L) (e : Ending) (w' : World) : Prop := match parseV s with
  | none => ∃ (x y z : ByteArray) (A : Option Addr) (n c : Nat) (b : Bool), e = .returned (.tuple #[.agg #[.string x, .string y, .string z, .slice A n c, .bool b], .bool false]) ∧ Bel w.heap.size w w'
  | some v => ∃ A c, e = .returned (.tuple #[.agg (verA v A c), .bool true]) ∧ Hd w w' [] [rowT (.slice A v.words.length c) v.words]
theorem pd_none {w w' : World} {s : L} (h : parseV s = none) (x y z : ByteArray) (A : Option Addr) (n c : Nat) (b : Bool) (K : Bel w.heap.size w w') : PaD w s (.returned (.tuple #[.agg #[.string x, .string y, .string z, .slice A n c, .bool b], .bool false])) w' := by
  unfold PaD; rw [h]; exact ⟨x, y, z, A, n, c, b, rfl, K⟩
theorem pd_some {w w' : World} {s : L} {v : Ver} (h : parseV s = some v) (A : Option Addr) (c : Nat) (K : Hd w w' [] [rowT (.slice A v.words.length c) v.words]) : PaD w s (.returned (.tuple #[.agg (verA v A c), .bool true])) w' := by
  unfold PaD; rw [h]; exact ⟨A, c, rfl, K⟩
theorem PaD.out {w w' : World} {s : L} {e : Ending} (h : PaD w s e w') : PaR w s e w' := by
  unfold PaD at h
  unfold PaR
  cases hp : parseV s with
  | none =>
    rw [hp] at h
    obtain ⟨x, y, z, A, n, c, b, he, K⟩ := h
    exact ⟨x, y, z, A, n, c, b, he, K.toBelow⟩
  | some v =>
    rw [hp] at h
    obtain ⟨A, c, he, K⟩ := h
    exact ⟨A, c, he, K⟩
theorem endCut_sub {r e : L} : (∀ y ∈ (endCut r e).getD r, y ∈ r) ∧ ((endCut r e).getD r).length ≤ r.length := by
  unfold endCut
  split
  · exact ⟨fun y hy => List.mem_of_mem_take hy, by simp⟩
  · exact ⟨fun y hy => hy, Nat.le_refl _⟩
abbrev zV : List Value := [.string ⟨#[]⟩, .string ⟨#[]⟩, .string ⟨#[]⟩, .slice none 0 0, .bool false]
abbrev eVer (g : Nat) (x y z : ByteArray) (A : Option Addr) (n c : Nat) (b : Bool) : Ent := (g, 91, [.string x, .string y, .string z, .slice A n c, .bool b])
def tailV (N ws : List L) (odd : Bool) : Option Ver := match N with
  | [a, b, c] => if numB a && numB b && numB c && (!odd || (decide (a ≠ [48]) && decide (a ≠ [49]))) then some ⟨a, b, c, ws, odd⟩ else none
  | _ => none
theorem parseV_v {s r : L} (hs : ¬ 128 < s.length) (hr : s = 118 :: r) : parseV s = if (wordsOf (cutC 45 ((endCut r incompat).getD r))).all wordB = false then none else tailV (splitC 46 (aheadC 45 ((endCut r incompat).getD r))) (wordsOf (cutC 45 ((endCut r incompat).getD r))) (endCut r incompat).isSome := by
  subst hr
  unfold parseV tailV
  rw [if_neg hs]
  rfl
theorem parseV_o {s : L} (hh : ¬ s.head? = some 118) : parseV s = none := by
  unfold parseV
  split
  · rfl
  · split
    · exact absurd rfl hh
    · rfl
set_option maxRecDepth 100000 in
set_option maxHeartbeats 16000000 in
theorem parseD_c {w : World} {mx : Int} (hM : w.cell? ⟨0, 0, none⟩ = some (.int .i64 mx)) (t : ByteArray) :
    Calls Tryz.prog 58 #[.string t] w (PaD w (bl t)) := by
  have hlen := bl_length t
  have hbt := bl_bytes t
  have e45 : ((45 : UInt8).toNat : Int) = 45 := rfl
  have e46 : ((46 : UInt8).toNat : Int) = 46 := rfl
  refine enter (args := [.string t]) Tryz.func58 rfl Tryz.ntmps58 rfl ?_
  have H : Hd w w [] [] := HpS.nil w
  repeat' (with_reducible first | refine wp_seq ?_ | refine w_reg ?_)
  (with_reducible refine is_l ?_); refine h_alloc recs H rfl rfl (fun g2 w_ H => ?_)
  refine g_on ?_; ((with_reducible refine g_as ?_); refine l_p txs rfl rfl ?_)
  with_reducible refine l_nil ?_
  repeat' (with_reducible first | refine p_tn ?_ | refine wp_seq ?_ | refine w_reg ?_)
  (with_reducible refine is_l ?_); refine h_alloc recs H rfl rfl (fun g4 w_ H => ?_)
  repeat' (first | (with_reducible first | refine p_tn ?_ | refine wp_seq ?_ | refine w_reg ?_ | refine l_nil ?_) | ((with_reducible refine g_on ?_); (first | ((with_reducible refine g_mv ?_); refine l_p txs rfl rfl ?_) | ((with_reducible refine g_cl ?_); refine l_p txs rfl rfl ?_))))
  (with_reducible refine is_l ?_); refine l_t txs rfl rfl (fun h1 => ?_) (fun h1 => ?_)
  · have hres : parseV (bl t) = none := by unfold parseV; rw [if_pos (by omega)]
    repeat' (first | (with_reducible first | refine p_tn ?_ | refine p_tr ?_ | refine wp_seq ?_ | refine w_reg ?_) | (with_reducible (refine is_if ?_; (refine w_ift rfl ?_))) | (with_reducible first | refine wp_ret ?_ | refine l_nil ?_) | ((with_reducible refine g_on ?_); (first | ((with_reducible refine g_mv ?_); refine l_p txs rfl rfl ?_) | ((with_reducible refine g_as ?_); refine l_p txs rfl rfl ?_) | ((with_reducible refine g_pk ?_); refine l_p txs rfl rfl ?_) | ((with_reducible refine g_ld ?_); (refine h_ldR recs H 0 rfl rfl rfl rfl rfl ?_)) | ((with_reducible refine g_st ?_); (refine h_stR recs H 1 rfl rfl rfl rfl rfl rfl rfl rfl rfl (fun w_ H => ?_))))) | ((with_reducible refine g_if ?_); (refine l_off rfl ?_)))
    refine end_ct recs H 1 rfl rfl rfl rfl rfl rfl ?_
    exact pd_none hres _ _ _ _ _ _ _ H.BD
  have ht : t.size ≤ 128 := by omega
  repeat' (first | ((with_reducible refine g_on ?_); ((with_reducible refine g_mv ?_); refine l_p txs rfl rfl ?_)) | ((with_reducible refine g_if ?_); ((with_reducible refine g_mv ?_); refine l_p txs rfl rfl ?_)))
  have hpre := hasV_c t
  by_cases hh : (bl t).head? = some 118
  rotate_left
  · have hres := parseV_o hh
    rw [decide_eq_false hh] at hpre
    (with_reducible refine is_l ?_); refine l_callp rfl rfl (by kernel_rfl) (hpre _) ?_
    repeat' (first | (with_reducible first | refine p_tn ?_ | refine p_tr ?_ | refine wp_seq ?_ | refine w_reg ?_) | (with_reducible (refine is_if ?_; (refine w_ift rfl ?_))) | (with_reducible first | refine wp_ret ?_ | refine l_nil ?_) | ((with_reducible refine g_on ?_); (first | ((with_reducible refine g_as ?_); refine l_p txs rfl rfl ?_) | ((with_reducible refine g_pk ?_); refine l_p txs rfl rfl ?_) | ((with_reducible refine g_ld ?_); (refine h_ldR recs H 0 rfl rfl rfl rfl rfl ?_)) | ((with_reducible refine g_st ?_); (refine h_stR recs H 1 rfl rfl rfl rfl rfl rfl rfl rfl rfl (fun w_ H => ?_))))) | ((with_reducible refine g_if ?_); ((with_reducible refine g_un ?_); (refine l_p txs rfl rfl ?_))))
    refine end_ct recs H 1 rfl rfl rfl rfl rfl rfl ?_
    exact pd_none hres _ _ _ _ _ _ _ H.BD
  obtain ⟨r, hr⟩ : ∃ r, bl t = 118 :: r := by
    cases hb : bl t with
    | nil => rw [hb] at hh; cases hh
    | cons x r => rw [hb] at hh; injection hh with hh; subst hh; exact ⟨r, rfl⟩
  have hV := parseV_v (by omega) hr
  rw [decide_eq_true hh] at hpre
  have hrl : r.length + 1 = t.size := by rw [← hlen, hr]; rfl
  (with_reducible refine is_l ?_); refine l_callp rfl rfl (by kernel_rfl) (hpre _) ?_
  repeat' (first | (with_reducible first | refine p_tn ?_ | refine wp_seq ?_ | refine w_reg ?_) | (with_reducible (refine is_if ?_; (refine w_iff rfl ?_))) | (with_reducible first | refine wp_skip ?_ | refine l_nil ?_) | ((with_reducible refine g_on ?_); (first | ((with_reducible refine g_mv ?_); refine l_p txs rfl rfl ?_) | ((with_reducible refine g_pk ?_); refine l_p txs rfl rfl ?_) | ((with_reducible refine g_sl ?_); refine l_sl txs rfl rfl (by first | omega | assumption | decide) (by first | omega | assumption | decide) (by first | omega | assumption | decide) ?_))) | ((with_reducible refine g_if ?_); ((with_reducible refine g_un ?_); (refine l_p txs rfl rfl ?_))))
  have hx : bl (t.extract (1 : Int).toNat ((t.size : Int)).toNat) = r := by
    rw [blE, hr, Int.toNat_natCast]
    show (r.take (t.size - 1)) = r
    exact List.take_of_length_le (by omega)
  have hxs : (t.extract (1 : Int).toNat ((t.size : Int)).toNat).size = r.length := by rw [← bl_length, hx]
  have hcs := fun w1 => cutSuf_c (t.extract (1 : Int).toNat ((t.size : Int)).toNat) ⟨#[43, 105, 110, 99, 111, 109, 112, 97, 116, 105, 98, 108, 101]⟩ w1 (by omega)
  rw [hx, show bl (⟨#[43, 105, 110, 99, 111, 109, 112, 97, 116, 105, 98, 108, 101]⟩ : ByteArray) = incompat from rfl] at hcs
  (with_reducible refine is_l ?_); refine l_callp rfl rfl (by kernel_rfl) (hcs _) ?_
  obtain ⟨hs1, hs2⟩ := endCut_sub (r := r) (e := incompat)
  generalize (endCut r incompat).getD r = body at hs1 hs2 hV ⊢
  generalize (endCut r incompat).isSome = odd at hV ⊢
  have bbo : Bytes body := fun y hy => hbt y (by rw [hr]; exact List.mem_cons_of_mem _ (hs1 y hy))
  have zbo := sizeS' bbo
  repeat' (first | (with_reducible first | refine p_tn ?_ | refine wp_seq ?_ | refine w_reg ?_ | refine l_nil ?_) | ((with_reducible refine g_on ?_); (first | ((with_reducible refine g_mv ?_); refine l_p txs rfl rfl ?_) | ((with_reducible refine g_as ?_); refine l_p txs rfl rfl ?_) | ((with_reducible refine g_ex ?_); refine l_p txs rfl rfl ?_) | ((with_reducible refine g_fa ?_); refine h_fa flds rfl rfl ?_) | ((with_reducible refine g_st ?_); (refine h_st txs ones H 0 rfl rfl rfl rfl rfl rfl rfl rfl rfl (fun w_ H => ?_))))))
  have hcu := cutb_cD (strOfNums body) 45 (by omega) w_ mx (H.old hM)
  rw [blS bbo, e45] at hcu
  (with_reducible refine is_l ?_); refine l_callv rfl rfl (by kernel_rfl) hcu (fun w_ K => ?_)
  have H := H.callD K
  cases hc : cutC 45 body with
  | none =>
    rw [hc] at hV
    have hV : parseV (bl t) = tailV (splitC 46 (aheadC 45 body)) [] odd := by rw [hV]; rfl
    have haa : aheadC 45 body = body := by unfold aheadC; rw [hc]
    rw [haa] at hV ⊢
    rw [show (none : Option (L × L)).isSome = false from rfl]
    obtain ⟨core, hco⟩ : ∃ x, x = body := ⟨_, rfl⟩
    rw [← hco] at hV ⊢
    have bco : Bytes core := hco ▸ bbo
    have zco := sizeS' bco
    have hcl : core.length ≤ t.size := by rw [hco]; omega
    obtain ⟨ws, hws⟩ : ∃ x : List L, x = [] := ⟨_, rfl⟩
    obtain ⟨A, hA⟩ : ∃ x : Option Addr, x = none := ⟨_, rfl⟩
    obtain ⟨c, hcc⟩ : ∃ x : Nat, x = 0 := ⟨_, rfl⟩
    rw [← hws] at hV
    have H := H.nilRow 9 1
    repeat' (first | (with_reducible first | refine p_tn ?_ | refine wp_seq ?_ | refine w_reg ?_) | (with_reducible (refine is_if ?_; (refine w_iff rfl ?_))) | (with_reducible first | refine wp_skip ?_ | refine l_nil ?_) | ((with_reducible refine g_on ?_); (first | ((with_reducible refine g_mv ?_); refine l_p txs rfl rfl ?_) | ((with_reducible refine g_as ?_); refine l_p txs rfl rfl ?_) | ((with_reducible refine g_ex ?_); refine l_p txs rfl rfl ?_))))
    have H : Hd w w_ [eVer g4 ⟨#[]⟩ ⟨#[]⟩ ⟨#[]⟩ A ws.length c odd, (g2, 91, zV)] [rowT (.slice A ws.length c) ws] := by rw [hws, hA, hcc]; exact H
    have hq : ∀ q : Nat, (.slice none 0 0 : Value) = .slice A ws.length c := fun _ => by rw [hws, hA, hcc]; rfl
    clear hws hA hcc
    skip
    have hsp := split_cD (strOfNums core) 46 (by omega) w_ mx (H.old hM)
    rw [blS bco, e46] at hsp
    (with_reducible refine is_l ?_); refine l_call rfl rfl (by kernel_rfl) hsp (fun e w_ hR => ?_)
    obtain ⟨gN, rfl, K⟩ := hR
    refine ⟨_, rfl, ?_⟩
    have hsm := split_mem 46 core
    have hsl := split_len 46 core
    generalize splitC 46 core = N at K hsm hsl hV ⊢
    have hNl : (strC N).length = N.length := List.length_map _
    have H := (H.join K).entRow (by rw [hNl]; simp only [maxLen]; omega)
    rw [hNl] at H
    have H : Hd w w_ _ [rowT (.slice (some ⟨gN, 0, none⟩) N.length N.length) N, rowT (.slice A ws.length c) ws] := H
    repeat' (first | (with_reducible first | refine p_tn ?_ | refine wp_seq ?_ | refine w_reg ?_ | refine l_nil ?_) | ((with_reducible refine g_on ?_); (first | ((with_reducible refine g_mv ?_); refine l_p txs rfl rfl ?_) | ((with_reducible refine g_as ?_); refine l_p txs rfl rfl ?_) | ((with_reducible refine g_cl ?_); refine l_p txs rfl rfl ?_))))
    (with_reducible refine is_l ?_); refine l_t txs rfl rfl (fun hne => ?_) (fun heq => ?_)
    · have hres : parseV (bl t) = none := by
        rw [hV]
        unfold tailV
        split
        · exact absurd (by simp) hne
        · rfl
      repeat' (first | (with_reducible first | refine p_tn ?_ | refine p_tr ?_ | refine wp_seq ?_ | refine w_reg ?_) | (with_reducible (refine is_if ?_; (refine w_ift rfl ?_))) | (with_reducible first | refine wp_ret ?_ | refine l_nil ?_) | ((with_reducible refine g_on ?_); (first | ((with_reducible refine g_as ?_); refine l_p txs rfl rfl ?_) | ((with_reducible refine g_ld ?_); (refine h_ldR recs H 0 rfl rfl rfl rfl rfl ?_)) | ((with_reducible refine g_st ?_); (refine h_stR recs H 1 rfl rfl rfl rfl rfl rfl rfl rfl rfl (fun w_ H => ?_))))))
      refine end_ct recs H 1 rfl rfl rfl rfl rfl rfl ?_
      exact pd_none hres _ _ _ _ _ _ _ H.BD
    obtain ⟨a, b, d, hN⟩ : ∃ a b d, N = [a, b, d] := by
      match N, heq with
      | [a, b, d], _ => exact ⟨a, b, d, rfl⟩
      | [], h1 => exact absurd (by simp) h1
      | [_], h1 => exact absurd (by simp) h1
      | [_, _], h1 => exact absurd (by simp) h1
      | _ :: _ :: _ :: _ :: _, h1 => exact absurd (by simp; omega) h1
    subst hN
    obtain ⟨ma1, ma2⟩ := hsm a (by simp)
    obtain ⟨mb1, mb2⟩ := hsm b (by simp)
    obtain ⟨md1, md2⟩ := hsm d (by simp)
    have ba : Bytes a := fun y hy => bco y (ma1 y hy)
    have bb : Bytes b := fun y hy => bco y (mb1 y hy)
    have bd : Bytes d := fun y hy => bco y (md1 y hy)
    have za := sizeS' ba
    have zb := sizeS' bb
    have zd := sizeS' bd
    repeat' (first | (with_reducible first | refine p_tn ?_ | refine wp_seq ?_ | refine wp_block ?_ | refine w_reg ?_) | (with_reducible (refine is_if ?_; (refine w_iff rfl ?_))) | (with_reducible first | refine wp_skip ?_ | refine l_nil ?_) | ((with_reducible refine g_on ?_); (first | ((with_reducible refine g_mv ?_); refine l_p txs rfl rfl ?_) | ((with_reducible refine g_cl ?_); refine l_p txs rfl rfl ?_))))
    refine w_loop (σ := Nat) (S := fun s => [(2, .pointer (some ⟨g2, 0, none⟩)), (4, .pointer (some ⟨g4, 0, none⟩)), (6, .bool odd), (60, .slice (some ⟨gN, 0, none⟩) [a, b, d].length [a, b, d].length), (61, .int .i64 ([a, b, d].length : Int)), (62, .int .i64 (s : Int))])
      (J := fun s w' => Hd w w' [eVer g4 (if 1 ≤ s then strOfNums a else ⟨#[]⟩) (if 2 ≤ s then strOfNums b else ⟨#[]⟩) (if 3 ≤ s then strOfNums d else ⟨#[]⟩) A ws.length c odd, (g2, 91, zV)] [rowT (.slice (some ⟨gN, 0, none⟩) [a, b, d].length [a, b, d].length) [a, b, d], rowT (.slice A ws.length c) ws] ∧ s ≤ 3 ∧ (1 ≤ s → numB a = true) ∧ (2 ≤ s → numB b = true) ∧ (3 ≤ s → numB d = true)) (μ := fun s => 3 - s) 0 ⟨rfl, rfl, rfl, rfl, rfl, rfl, trivial⟩ ⟨H, by omega, fun h => by omega, fun h => by omega, fun h => by omega⟩ ?_
    clear H
    rintro s f w_ ⟨H, hs, k1, k2, k3⟩
    by_cases hs3 : s = 3
    · subst hs3
      have k1 := k1 (by omega)
      have k2 := k2 (by omega)
      have k3 := k3 (by omega)
      have H : Hd w w_ [eVer g4 (strOfNums a) (strOfNums b) (strOfNums d) A ws.length c odd, (g2, 91, zV)] [rowT (.slice (some ⟨gN, 0, none⟩) [a, b, d].length [a, b, d].length) [a, b, d], rowT (.slice A ws.length c) ws] := H
      have hV2 : parseV (bl t) = if (!odd || (decide (a ≠ [48]) && decide (a ≠ [49]))) then some ⟨a, b, d, ws, odd⟩ else none := by
        rw [hV]
        unfold tailV
        simp only [k1, k2, k3, Bool.true_and]
      have e48 : bl (⟨#[48]⟩ : ByteArray) = [48] := rfl
      have e49 : bl (⟨#[49]⟩ : ByteArray) = [49] := rfl
      repeat' (with_reducible first | refine wp_seq ?_ | refine w_reg ?_)
      (with_reducible refine is_l ?_); refine l_t txs rfl rfl (fun hh => absurd hh (show ¬ ((3 : Nat) : Int) < ((3 : Nat) : Int) by decide)) (fun _ => ?_)
      have fin : ∀ q : Bool, q = (!odd || (decide (a ≠ [48]) && decide (a ≠ [49]))) → ∀ w', Hd w w' [eVer g4 (strOfNums a) (strOfNums b) (strOfNums d) A ws.length c odd, eVer g2 (strOfNums a) (strOfNums b) (strOfNums d) A ws.length c odd] [rowT (.slice (some ⟨gN, 0, none⟩) [a, b, d].length [a, b, d].length) [a, b, d], rowT (.slice A ws.length c) ws] → PaD w (bl t) (.returned (.tuple #[.agg #[.string (strOfNums a), .string (strOfNums b), .string (strOfNums d), .slice A ws.length c, .bool odd], .bool q])) w' := fun q hq w' H => by
        rw [← hq] at hV2
        cases q
        · rw [if_neg (by simp)] at hV2
          exact pd_none hV2 _ _ _ _ _ _ _ H.BD
        · rw [if_pos rfl] at hV2
          exact pd_some hV2 A c (H.pick [] [1] (by decide) (by decide) rfl rfl)
      have hq : (odd = false) ∨ (odd = true ∧ a = [48]) ∨ (odd = true ∧ a ≠ [48] ∧ a = [49]) ∨ (odd = true ∧ a ≠ [48] ∧ a ≠ [49]) := by
        cases odd
        · exact .inl rfl
        · by_cases h1 : a = [48]
          · exact .inr (.inl ⟨rfl, h1⟩)
          · by_cases h2 : a = [49]
            · exact .inr (.inr (.inl ⟨rfl, h1, h2⟩))
            · exact .inr (.inr (.inr ⟨rfl, h1, h2⟩))
      rcases hq with rfl | ⟨rfl, hA⟩ | ⟨rfl, hA, hB⟩ | ⟨rfl, hA, hB⟩
      all_goals
        repeat' (first | (with_reducible first | refine p_tn ?_ | refine p_tx ?_ | refine x_hit ?_ | refine wp_seq ?_) | (with_reducible (refine is_if ?_; (refine w_iff rfl ?_))) | (with_reducible first | refine wp_exit ?_ | refine l_nil ?_))
        have HS := H.pick [0] [0, 1] (by decide) (by decide) rfl rfl
        refine d_start (fun w_ => HpS _ w w_ _ _) #[false, false, false, false, false, false, false, false, false, false, false, false, false, false, false, false, false] (by kernel_rfl) rfl rfl HS.drew ?_
        have H := H.drew
        have HS := HS.drew
        first | (refine d_take (i := 0) #[true, false, false, false, false, false, false, false, false, false, false, false, false, false, false, false, false] rfl (by kernel_rfl) (fun _ _ _ h => h) rfl (fun w_ K => evLR_run (o := ⟨_, _, _, _, _, _⟩) recs rfl rfl (K.range 0 rfl) rfl) HS ?_)
        first | (refine d_pure (i := 1) #[true, true, false, false, false, false, false, false, false, false, false, false, false, false, false, false, false] rfl (by kernel_rfl) (fun _ _ _ h => h) rfl (fun w_ => evP_run (o := ⟨_, _, _, _, _, _⟩) txs rfl) ?_)
        first | (refine d_pure (i := 2) #[true, true, true, false, false, false, false, false, false, false, false, false, false, false, false, false, false] rfl (by kernel_rfl) (fun _ _ _ h => h) rfl (fun w_ => evP_run (o := ⟨_, _, _, _, _, _⟩) txs rfl) ?_)
        first | (refine d_pure (i := 3) #[true, true, true, true, false, false, false, false, false, false, false, false, false, false, false, false, false] rfl (by kernel_rfl) (fun _ _ _ h => h) rfl (fun w_ => evP_run (o := ⟨_, _, _, _, _, _⟩) txs rfl) ?_)
        first | (refine d_off (i := 4) #[true, true, true, true, true, false, false, false, false, false, false, false, false, false, false, false, false] rfl (by kernel_rfl) (fun _ _ _ h => h) rfl ?_) | (first | (refine d_pure (i := 4) #[true, true, true, true, true, false, false, false, false, false, false, false, false, false, false, false, false] rfl (by kernel_rfl) (fun _ _ _ h => h) rfl (fun w_ => evF_run (o := ⟨_, _, _, _, _, _⟩) flds rfl) ?_) | (refine d_pure (i := 4) #[true, true, true, true, true, false, false, false, false, false, false, false, false, false, false, false, false] rfl (by kernel_rfl) (fun _ _ _ h => h) rfl (fun w_ => evG_run (o := ⟨_, _, _, _, _, _⟩) flds rfl) ?_))
        first | (refine d_off (i := 5) #[true, true, true, true, true, true, false, false, false, false, false, false, false, false, false, false, false] rfl (by kernel_rfl) (fun _ _ _ h => h) rfl ?_) | (first | (refine d_pure (i := 5) #[true, true, true, true, true, true, false, false, false, false, false, false, false, false, false, false, false] rfl (by kernel_rfl) (fun _ _ _ h => h) rfl (fun w_ => evIaa_run (o := ⟨_, _, _, _, _, _⟩) Tryz.underlying87 info_str1 rfl rfl rfl (by decide) (by decide)) ?_))
        first | (refine d_off (i := 6) #[true, true, true, true, true, true, true, false, false, false, false, false, false, false, false, false, false] rfl (by kernel_rfl) (fun _ _ _ h => h) rfl ?_) | (first | (refine d_take (i := 6) #[true, true, true, true, true, true, true, false, false, false, false, false, false, false, false, false, false] rfl (by kernel_rfl) (fun _ _ _ h => h) rfl (fun w_ K => evL_run (o := ⟨_, _, _, _, _, _⟩) txs rfl (K.cellAt 0 rfl rfl)) HS ?_))
        first | (refine d_off (i := 7) #[true, true, true, true, true, true, true, true, false, false, false, false, false, false, false, false, false] rfl (by kernel_rfl) (fun _ _ _ h => h) rfl ?_) | (first | (refine d_pure (i := 7) #[true, true, true, true, true, true, true, true, false, false, false, false, false, false, false, false, false] rfl (by kernel_rfl) (fun _ _ _ h => h) rfl (fun w_ => (by first | exact evT_yes (o := ⟨_, _, _, _, _, _⟩) txs rfl (by rw [blS ba, e48]; exact hA) | exact evT_no (o := ⟨_, _, _, _, _, _⟩) txs rfl (by rw [blS ba, e48, hA]; exact fun h => h rfl))) ?_))
        first | (refine d_off (i := 8) #[true, true, true, true, true, true, true, true, true, false, false, false, false, false, false, false, false] rfl (by kernel_rfl) (fun _ _ _ h => h) rfl ?_) | (first | (refine d_pure (i := 8) #[true, true, true, true, true, true, true, true, true, false, false, false, false, false, false, false, false] rfl (by kernel_rfl) (fun _ _ _ h => h) rfl (fun w_ => evP_run (o := ⟨_, _, _, _, _, _⟩) txs rfl) ?_))
        first | (refine d_off (i := 9) #[true, true, true, true, true, true, true, true, true, true, false, false, false, false, false, false, false] rfl (by kernel_rfl) (fun _ _ _ h => h) rfl ?_) | (first | (refine d_pure (i := 9) #[true, true, true, true, true, true, true, true, true, true, false, false, false, false, false, false, false] rfl (by kernel_rfl) (fun _ _ _ h => h) rfl (fun w_ => evF_run (o := ⟨_, _, _, _, _, _⟩) flds rfl) ?_) | (refine d_pure (i := 9) #[true, true, true, true, true, true, true, true, true, true, false, false, false, false, false, false, false] rfl (by kernel_rfl) (fun _ _ _ h => h) rfl (fun w_ => evG_run (o := ⟨_, _, _, _, _, _⟩) flds rfl) ?_))
        first | (refine d_off (i := 10) #[true, true, true, true, true, true, true, true, true, true, true, false, false, false, false, false, false] rfl (by kernel_rfl) (fun _ _ _ h => h) rfl ?_) | (first | (refine d_pure (i := 10) #[true, true, true, true, true, true, true, true, true, true, true, false, false, false, false, false, false] rfl (by kernel_rfl) (fun _ _ _ h => h) rfl (fun w_ => evIaa_run (o := ⟨_, _, _, _, _, _⟩) Tryz.underlying87 info_str1 rfl rfl rfl (by decide) (by decide)) ?_))
        first | (refine d_off (i := 11) #[true, true, true, true, true, true, true, true, true, true, true, true, false, false, false, false, false] rfl (by kernel_rfl) (fun _ _ _ h => h) rfl ?_) | (first | (refine d_take (i := 11) #[true, true, true, true, true, true, true, true, true, true, true, true, false, false, false, false, false] rfl (by kernel_rfl) (fun _ _ _ h => h) rfl (fun w_ K => evL_run (o := ⟨_, _, _, _, _, _⟩) txs rfl (K.cellAt 0 rfl rfl)) HS ?_))
        first | (refine d_off (i := 12) #[true, true, true, true, true, true, true, true, true, true, true, true, true, false, false, false, false] rfl (by kernel_rfl) (fun _ _ _ h => h) rfl ?_) | (first | (refine d_pure (i := 12) #[true, true, true, true, true, true, true, true, true, true, true, true, true, false, false, false, false] rfl (by kernel_rfl) (fun _ _ _ h => h) rfl (fun w_ => (by first | exact evT_yes (o := ⟨_, _, _, _, _, _⟩) txs rfl (by rw [blS ba, e49]; exact hB) | exact evT_no (o := ⟨_, _, _, _, _, _⟩) txs rfl (by rw [blS ba, e49, hB]; exact fun h => h rfl))) ?_))
        first | (refine d_off (i := 13) #[true, true, true, true, true, true, true, true, true, true, true, true, true, true, false, false, false] rfl (by kernel_rfl) (fun _ _ _ h => h) rfl ?_) | (first | (refine d_pure (i := 13) #[true, true, true, true, true, true, true, true, true, true, true, true, true, true, false, false, false] rfl (by kernel_rfl) (fun _ _ _ h => h) rfl (fun w_ => evP_run (o := ⟨_, _, _, _, _, _⟩) txs rfl) ?_))
        first | (refine d_pure (i := 14) #[true, true, true, true, true, true, true, true, true, true, true, true, true, true, true, false, false] rfl (by kernel_rfl) (fun _ _ _ h => h) rfl (fun w_ => evP_run (o := ⟨_, _, _, _, _, _⟩) txs rfl) ?_)
        refine d_one (i := 15) #[true, true, true, true, true, true, true, true, true, true, true, true, true, true, true, true, false] rfl (by kernel_rfl) rfl ?_
        refine g_on ?_; ((with_reducible refine g_st ?_); (refine h_stR recs H 1 rfl rfl rfl rfl rfl rfl rfl rfl rfl (fun w_ H => ?_)))
        refine l_nil ?_
        have HS := H.pick [0] [0, 1] (by decide) (by decide) rfl rfl
        refine ⟨rfl, HS, ?_⟩
        first | (refine d_pure (i := 16) #[true, true, true, true, true, true, true, true, true, true, true, true, true, true, true, true, true] rfl (by kernel_rfl) (fun _ _ _ h => h) rfl (fun w_ => evP_run (o := ⟨_, _, _, _, _, _⟩) txs rfl) ?_)
        refine d_done rfl ?_
        repeat' (with_reducible first | refine p_tn ?_ | refine wp_ret ?_)
        refine end_ct recs H 1 rfl rfl rfl rfl rfl rfl ?_
        refine fin _ ?_ _ H
        first
        | rfl
        | (rw [hA]; rfl)
        | (rw [hB]; rfl)
        | (rw [decide_eq_true hA, decide_eq_true hB]; rfl)
    · have h012 : s = 0 ∨ s = 1 ∨ s = 2 := by omega
      rcases h012 with rfl | rfl | rfl
      have ny := isNumber_cD (strOfNums a)
      rw [blS ba] at ny
      have hcell := rdT_cell (rowT_at H 0 rfl) (y := a) (i := 0) rfl
      obtain ⟨y, hy⟩ : ∃ y, y = a := ⟨_, rfl⟩
      rw [← hy] at ny hcell
      rotate_left
      have ny := isNumber_cD (strOfNums b)
      rw [blS bb] at ny
      have hcell := rdT_cell (rowT_at H 0 rfl) (y := b) (i := 1) rfl
      obtain ⟨y, hy⟩ : ∃ y, y = b := ⟨_, rfl⟩
      rw [← hy] at ny hcell
      rotate_left
      have ny := isNumber_cD (strOfNums d)
      rw [blS bd] at ny
      have hcell := rdT_cell (rowT_at H 0 rfl) (y := d) (i := 2) rfl
      obtain ⟨y, hy⟩ : ∃ y, y = d := ⟨_, rfl⟩
      rw [← hy] at ny hcell
      rotate_left
      all_goals
        repeat' (with_reducible first | refine wp_seq ?_ | refine w_reg ?_)
        (with_reducible refine is_l ?_); refine l_t txs rfl rfl (fun _ => ?_) (fun hh => absurd (by show ((_ : Nat) : Int) < ((3 : Nat) : Int); decide) hh)
        repeat' (first | (with_reducible first | refine p_tn ?_ | refine wp_seq ?_ | refine wp_block ?_ | refine w_reg ?_) | (with_reducible (refine is_if ?_; (refine w_ift rfl ?_))) | (with_reducible first | refine wp_skip ?_ | refine l_nil ?_) | ((with_reducible refine g_on ?_); (first | ((with_reducible refine g_mv ?_); refine l_p txs rfl rfl ?_) | ((with_reducible refine g_ia ?_); refine l_ia txs rfl rfl (by first | omega | assumption | decide) (by first | omega | assumption | decide) ?_))))
        (with_reducible refine is_l ?_); refine l_ld txs rfl rfl hcell ?_
        repeat' (first | (with_reducible first | refine p_tn ?_ | refine wp_seq ?_ | refine w_reg ?_ | refine l_nil ?_) | ((with_reducible refine g_on ?_); (first | ((with_reducible refine g_mv ?_); refine l_p txs rfl rfl ?_) | ((with_reducible refine g_as ?_); refine l_p txs rfl rfl ?_))))
        (with_reducible refine is_l ?_); refine l_callv rfl rfl (by kernel_rfl) (ny _ (by rw [hy]; omega)) (fun w_ K => ?_)
        have H := H.callD K
        cases hnb : numB y
        · have hres : parseV (bl t) = none := by
            rw [hV]
            unfold tailV
            rw [hy] at hnb
            simp [hnb]
          repeat' (first | (with_reducible first | refine p_tn ?_ | refine p_tr ?_ | refine p_br ?_ | refine wp_seq ?_ | refine w_reg ?_) | (with_reducible (refine is_if ?_; (refine w_ift rfl ?_))) | (with_reducible first | refine wp_ret ?_ | refine l_nil ?_) | ((with_reducible refine g_on ?_); (first | ((with_reducible refine g_as ?_); refine l_p txs rfl rfl ?_) | ((with_reducible refine g_ld ?_); (refine h_ldR recs H 0 rfl rfl rfl rfl rfl ?_)) | ((with_reducible refine g_st ?_); (refine h_stR recs H 1 rfl rfl rfl rfl rfl rfl rfl rfl rfl (fun w_ H => ?_))) | ((with_reducible refine g_un ?_); (refine l_p txs rfl rfl ?_)))))
          refine end_ct recs H 1 rfl rfl rfl rfl rfl rfl ?_
          exact pd_none hres _ _ _ _ _ _ _ H.BD
        · repeat' (first | (with_reducible first | refine p_tn ?_ | refine w_reg ?_) | (with_reducible (refine is_if ?_; (refine w_iff rfl ?_))) | (with_reducible first | refine wp_skip ?_ | refine l_nil ?_) | ((with_reducible refine g_on ?_); (first | ((with_reducible refine g_mv ?_); refine l_p txs rfl rfl ?_) | ((with_reducible refine g_fa ?_); refine h_fa flds rfl rfl ?_) | ((with_reducible refine g_un ?_); (refine l_p txs rfl rfl ?_)))))
          (with_reducible refine is_l ?_); refine l_iaa Tryz.underlying87 info_str1 rfl rfl rfl (by decide) (by decide) ?_
          repeat' (first | (with_reducible first | refine p_tn ?_ | refine p_bn ?_ | refine w_reg ?_ | refine l_nil ?_) | ((with_reducible refine g_on ?_); (first | ((with_reducible refine g_mv ?_); refine l_p txs rfl rfl ?_) | ((with_reducible refine g_st ?_); (refine h_st txs ones H 0 rfl rfl rfl rfl rfl rfl rfl rfl rfl (fun w_ H => ?_))) | ((with_reducible refine g_bi ?_); (refine l_a txs rfl rfl (by first | exact in_i64 (by omega) (by omega) | exact in_u8 (by omega) (by omega) | exact in_u64 (by omega) (by omega) | exact in_i32 (by omega) (by omega)) ?_)))))
          subst hy
          exact ⟨_ + 1, _, rfl, ⟨rfl, rfl, rfl, rfl, rfl, rfl, trivial⟩, ⟨H.pick [0, 1] [0, 1] (by decide) (by decide) rfl rfl, by decide, fun _ => by first | exact hnb | exact k1 (by decide), fun h => by first | exact hnb | exact k2 (by decide) | omega, fun h => by first | exact hnb | omega⟩, by decide⟩
  | some pr =>
    obtain ⟨core, pre⟩ := pr
    rw [hc] at hV
    obtain ⟨hsp1, _⟩ := cutC_some hc
    have haa : aheadC 45 body = core := by unfold aheadC; rw [hc]
    have hbe : behindC 45 body = pre := by unfold behindC; rw [hc]
    rw [haa] at hV ⊢
    rw [hbe, show (some (core, pre)).isSome = true from rfl]
    have hV : parseV (bl t) = if (splitC 46 pre).all wordB = false then none else tailV (splitC 46 core) (splitC 46 pre) odd := by rw [hV]; rfl
    have bco : Bytes core := fun y hy => bbo y (by rw [hsp1]; exact List.mem_append_left _ hy)
    have bpr : Bytes pre := fun y hy => bbo y (by rw [hsp1]; exact List.mem_append_right _ (List.mem_cons_of_mem _ hy))
    have hll : body.length = core.length + pre.length + 1 := by rw [hsp1]; simp; omega
    have zco := sizeS' bco
    have zpr := sizeS' bpr
    have hcl : core.length ≤ t.size := by omega
    repeat' (first | (with_reducible first | refine p_tn ?_ | refine wp_seq ?_ | refine w_reg ?_) | (with_reducible (refine is_if ?_; (refine w_ift rfl ?_))) | (with_reducible refine l_nil ?_) | ((with_reducible refine g_on ?_); (first | ((with_reducible refine g_mv ?_); refine l_p txs rfl rfl ?_) | ((with_reducible refine g_as ?_); refine l_p txs rfl rfl ?_) | ((with_reducible refine g_ex ?_); refine l_p txs rfl rfl ?_))))
    have hsp := split_cD (strOfNums pre) 46 (by omega) w_ mx (H.old hM)
    rw [blS bpr, e46] at hsp
    (with_reducible refine is_l ?_); refine l_call rfl rfl (by kernel_rfl) hsp (fun e w_ hR => ?_)
    obtain ⟨gS, rfl, K⟩ := hR
    refine ⟨_, rfl, ?_⟩
    have hsm := split_mem 46 pre
    have hsl := split_len 46 pre
    generalize splitC 46 pre = W at K hsm hsl hV ⊢
    have hWl : (strC W).length = W.length := List.length_map _
    have H := (H.join K).entRow (by rw [hWl]; simp only [maxLen]; omega)
    rw [hWl] at H
    have H : Hd w w_ _ [rowT (.slice (some ⟨gS, 0, none⟩) W.length W.length) W] := H
    repeat' (first | (with_reducible first | refine p_tn ?_ | refine wp_seq ?_ | refine wp_block ?_ | refine w_reg ?_ | refine l_nil ?_) | ((with_reducible refine g_on ?_); (first | ((with_reducible refine g_mv ?_); refine l_p txs rfl rfl ?_) | ((with_reducible refine g_fa ?_); refine h_fa flds rfl rfl ?_) | ((with_reducible refine g_ld ?_); (refine h_ld txs H 0 rfl rfl rfl rfl ?_)) | ((with_reducible refine g_st ?_); (refine h_st txs ones H 0 rfl rfl rfl rfl rfl rfl rfl rfl rfl (fun w_ H => ?_))) | ((with_reducible refine g_cl ?_); refine l_p txs rfl rfl ?_))))
    refine w_loop (σ := Nat) (S := fun s => [(2, .pointer (some ⟨g2, 0, none⟩)), (4, .pointer (some ⟨g4, 0, none⟩)), (6, .bool odd), (7, .string (strOfNums core)), (43, .slice (some ⟨gS, 0, none⟩) W.length W.length), (44, .int .i64 (W.length : Int)), (45, .int .i64 (s : Int))])
      (J := fun s w' => Hd w w' [eVer g4 ⟨#[]⟩ ⟨#[]⟩ ⟨#[]⟩ (some ⟨gS, 0, none⟩) W.length W.length odd, (g2, 91, zV)] [rowT (.slice (some ⟨gS, 0, none⟩) W.length W.length) W] ∧ s ≤ W.length ∧ (W.take s).all wordB = true) (μ := fun s => W.length - s) 0 ⟨rfl, rfl, rfl, rfl, rfl, rfl, rfl, trivial⟩ ⟨H, Nat.zero_le _, rfl⟩ ?_
    clear H
    rintro i f w_ ⟨H, hi, ha⟩
    repeat' (with_reducible first | refine wp_seq ?_ | refine w_reg ?_)
    (with_reducible refine is_l ?_); refine l_t txs rfl rfl (fun hlt => ?_) (fun hge => ?_)
    · obtain ⟨y, hy⟩ : ∃ y, W[i]? = some y := ⟨_, List.getElem?_eq_getElem (by omega)⟩
      obtain ⟨m1, m2⟩ := hsm y (List.mem_of_getElem? hy)
      have by' : Bytes y := fun z hz => bpr z (m1 z hz)
      have zy := sizeS' by'
      have hcell := rdT_cell (rowT_at H 0 rfl) hy
      repeat' (first | (with_reducible first | refine p_tn ?_ | refine wp_seq ?_ | refine wp_block ?_ | refine w_reg ?_) | (with_reducible (refine is_if ?_; (refine w_ift rfl ?_))) | (with_reducible first | refine wp_skip ?_ | refine l_nil ?_) | ((with_reducible refine g_on ?_); ((with_reducible refine g_ia ?_); refine l_ia txs rfl rfl (by first | omega | assumption | decide) (by first | omega | assumption | decide) ?_)))
      (with_reducible refine is_l ?_); refine l_ld txs rfl rfl (by rw [Int.toNat_natCast]; exact hcell) ?_
      repeat' (first | (with_reducible first | refine p_tn ?_ | refine wp_seq ?_ | refine w_reg ?_ | refine l_nil ?_) | ((with_reducible refine g_on ?_); (first | ((with_reducible refine g_mv ?_); refine l_p txs rfl rfl ?_) | ((with_reducible refine g_as ?_); refine l_p txs rfl rfl ?_))))
      have hw := isWord_cD (strOfNums y) w_ (by omega)
      rw [blS by'] at hw
      (with_reducible refine is_l ?_); refine l_callv rfl rfl (by kernel_rfl) hw (fun w_ K => ?_)
      have H := H.callD K
      cases hwy : wordB y
      · have hres : parseV (bl t) = none := by
          rw [hV, if_pos]
          rw [List.all_eq_false]
          exact ⟨y, List.mem_of_getElem? hy, by rw [hwy]; simp⟩
        repeat' (first | (with_reducible first | refine p_tn ?_ | refine p_tr ?_ | refine p_br ?_ | refine wp_seq ?_ | refine w_reg ?_) | (with_reducible (refine is_if ?_; (refine w_ift rfl ?_))) | (with_reducible first | refine wp_ret ?_ | refine l_nil ?_) | ((with_reducible refine g_on ?_); (first | ((with_reducible refine g_as ?_); refine l_p txs rfl rfl ?_) | ((with_reducible refine g_ld ?_); (refine h_ldR recs H 0 rfl rfl rfl rfl rfl ?_)) | ((with_reducible refine g_st ?_); (refine h_stR recs H 1 rfl rfl rfl rfl rfl rfl rfl rfl rfl (fun w_ H => ?_))) | ((with_reducible refine g_un ?_); (refine l_p txs rfl rfl ?_)))))
        refine end_ct recs H 1 rfl rfl rfl rfl rfl rfl ?_
        exact pd_none hres _ _ _ _ _ _ _ H.BD
      · have ha2 : (W.take (i + 1)).all wordB = true := by
          rw [List.take_succ_eq_append_getElem (by omega), List.all_append, ha, (List.getElem?_eq_some_iff.1 hy).2]
          simp [hwy]
        repeat' (first | (with_reducible first | refine p_tn ?_ | refine p_bn ?_ | refine w_reg ?_) | (with_reducible (refine is_if ?_; (refine w_iff rfl ?_))) | (with_reducible first | refine wp_skip ?_ | refine l_nil ?_) | ((with_reducible refine g_on ?_); (first | ((with_reducible refine g_mv ?_); refine l_p txs rfl rfl ?_) | ((with_reducible refine g_un ?_); (refine l_p txs rfl rfl ?_)) | ((with_reducible refine g_bi ?_); (refine l_a txs rfl rfl (by first | exact in_i64 (by omega) (by omega) | exact in_u8 (by omega) (by omega) | exact in_u64 (by omega) (by omega) | exact in_i32 (by omega) (by omega)) ?_)))))
        exact ⟨i + 1, _, rfl, ⟨rfl, rfl, rfl, rfl, rfl, rfl, rfl, trivial⟩, ⟨H.pick [0, 1] [0] (by decide) (by decide) rfl rfl, by omega, ha2⟩, by omega⟩
    · have hall : W.all wordB = true := by rw [← List.take_of_length_le (l := W) (i := i) (by omega)]; exact ha
      rw [if_neg (by rw [hall]; simp)] at hV
      obtain ⟨A, hA⟩ : ∃ x : Option Addr, x = some ⟨gS, 0, none⟩ := ⟨_, rfl⟩
      obtain ⟨c, hcc⟩ : ∃ x : Nat, x = W.length := ⟨_, rfl⟩
      obtain ⟨ws, hws⟩ : ∃ x : List L, x = W := ⟨_, rfl⟩
      rw [← hws] at hV
      have H : Hd w w_ [eVer g4 ⟨#[]⟩ ⟨#[]⟩ ⟨#[]⟩ A ws.length c odd, (g2, 91, zV)] [rowT (.slice A ws.length c) ws] := by rw [hws, hA, hcc]; exact H
      repeat' (first | (with_reducible first | refine p_tn ?_ | refine p_tx ?_ | refine x_hit ?_ | refine wp_seq ?_ | refine w_reg ?_) | (with_reducible (refine is_if ?_; (refine w_iff rfl ?_))) | (with_reducible first | refine wp_exit ?_ | refine l_nil ?_) | ((with_reducible refine g_on ?_); ((with_reducible refine g_mv ?_); refine l_p txs rfl rfl ?_)))
      have hsp := split_cD (strOfNums core) 46 (by omega) w_ mx (H.old hM)
      rw [blS bco, e46] at hsp
      (with_reducible refine is_l ?_); refine l_call rfl rfl (by kernel_rfl) hsp (fun e w_ hR => ?_)
      obtain ⟨gN, rfl, K⟩ := hR
      refine ⟨_, rfl, ?_⟩
      have hsm := split_mem 46 core
      have hsl := split_len 46 core
      generalize splitC 46 core = N at K hsm hsl hV ⊢
      have hNl : (strC N).length = N.length := List.length_map _
      have H := (H.join K).entRow (by rw [hNl]; simp only [maxLen]; omega)
      rw [hNl] at H
      have H : Hd w w_ _ [rowT (.slice (some ⟨gN, 0, none⟩) N.length N.length) N, rowT (.slice A ws.length c) ws] := H
      repeat' (first | (with_reducible first | refine p_tn ?_ | refine wp_seq ?_ | refine w_reg ?_ | refine l_nil ?_) | ((with_reducible refine g_on ?_); (first | ((with_reducible refine g_mv ?_); refine l_p txs rfl rfl ?_) | ((with_reducible refine g_as ?_); refine l_p txs rfl rfl ?_) | ((with_reducible refine g_cl ?_); refine l_p txs rfl rfl ?_))))
      (with_reducible refine is_l ?_); refine l_t txs rfl rfl (fun hne => ?_) (fun heq => ?_)
      · have hres : parseV (bl t) = none := by
          rw [hV]
          unfold tailV
          split
          · exact absurd (by simp) hne
          · rfl
        repeat' (first | (with_reducible first | refine p_tn ?_ | refine p_tr ?_ | refine wp_seq ?_ | refine w_reg ?_) | (with_reducible (refine is_if ?_; (refine w_ift rfl ?_))) | (with_reducible first | refine wp_ret ?_ | refine l_nil ?_) | ((with_reducible refine g_on ?_); (first | ((with_reducible refine g_as ?_); refine l_p txs rfl rfl ?_) | ((with_reducible refine g_ld ?_); (refine h_ldR recs H 0 rfl rfl rfl rfl rfl ?_)) | ((with_reducible refine g_st ?_); (refine h_stR recs H 1 rfl rfl rfl rfl rfl rfl rfl rfl rfl (fun w_ H => ?_))))))
        refine end_ct recs H 1 rfl rfl rfl rfl rfl rfl ?_
        exact pd_none hres _ _ _ _ _ _ _ H.BD
      obtain ⟨a, b, d, hN⟩ : ∃ a b d, N = [a, b, d] := by
        match N, heq with
        | [a, b, d], _ => exact ⟨a, b, d, rfl⟩
        | [], h1 => exact absurd (by simp) h1
        | [_], h1 => exact absurd (by simp) h1
        | [_, _], h1 => exact absurd (by simp) h1
        | _ :: _ :: _ :: _ :: _, h1 => exact absurd (by simp; omega) h1
      subst hN
      obtain ⟨ma1, ma2⟩ := hsm a (by simp)
      obtain ⟨mb1, mb2⟩ := hsm b (by simp)
      obtain ⟨md1, md2⟩ := hsm d (by simp)
      have ba : Bytes a := fun y hy => bco y (ma1 y hy)
      have bb : Bytes b := fun y hy => bco y (mb1 y hy)
      have bd : Bytes d := fun y hy => bco y (md1 y hy)
      have za := sizeS' ba
      have zb := sizeS' bb
      have zd := sizeS' bd
      repeat' (first | (with_reducible first | refine p_tn ?_ | refine wp_seq ?_ | refine wp_block ?_ | refine w_reg ?_) | (with_reducible (refine is_if ?_; (refine w_iff rfl ?_))) | (with_reducible first | refine wp_skip ?_ | refine l_nil ?_) | ((with_reducible refine g_on ?_); (first | ((with_reducible refine g_mv ?_); refine l_p txs rfl rfl ?_) | ((with_reducible refine g_cl ?_); refine l_p txs rfl rfl ?_))))
      refine w_loop (σ := Nat) (S := fun s => [(2, .pointer (some ⟨g2, 0, none⟩)), (4, .pointer (some ⟨g4, 0, none⟩)), (6, .bool odd), (60, .slice (some ⟨gN, 0, none⟩) [a, b, d].length [a, b, d].length), (61, .int .i64 ([a, b, d].length : Int)), (62, .int .i64 (s : Int))])
        (J := fun s w' => Hd w w' [eVer g4 (if 1 ≤ s then strOfNums a else ⟨#[]⟩) (if 2 ≤ s then strOfNums b else ⟨#[]⟩) (if 3 ≤ s then strOfNums d else ⟨#[]⟩) A ws.length c odd, (g2, 91, zV)] [rowT (.slice (some ⟨gN, 0, none⟩) [a, b, d].length [a, b, d].length) [a, b, d], rowT (.slice A ws.length c) ws] ∧ s ≤ 3 ∧ (1 ≤ s → numB a = true) ∧ (2 ≤ s → numB b = true) ∧ (3 ≤ s → numB d = true)) (μ := fun s => 3 - s) 0 ⟨rfl, rfl, rfl, rfl, rfl, rfl, trivial⟩ ⟨H, by omega, fun h => by omega, fun h => by omega, fun h => by omega⟩ ?_
      clear H
      rintro s f w_ ⟨H, hs, k1, k2, k3⟩
      by_cases hs3 : s = 3
      · subst hs3
        have k1 := k1 (by omega)
        have k2 := k2 (by omega)
        have k3 := k3 (by omega)
        have H : Hd w w_ [eVer g4 (strOfNums a) (strOfNums b) (strOfNums d) A ws.length c odd, (g2, 91, zV)] [rowT (.slice (some ⟨gN, 0, none⟩) [a, b, d].length [a, b, d].length) [a, b, d], rowT (.slice A ws.length c) ws] := H
        have hV2 : parseV (bl t) = if (!odd || (decide (a ≠ [48]) && decide (a ≠ [49]))) then some ⟨a, b, d, ws, odd⟩ else none := by
          rw [hV]
          unfold tailV
          simp only [k1, k2, k3, Bool.true_and]
        have e48 : bl (⟨#[48]⟩ : ByteArray) = [48] := rfl
        have e49 : bl (⟨#[49]⟩ : ByteArray) = [49] := rfl
        repeat' (with_reducible first | refine wp_seq ?_ | refine w_reg ?_)
        (with_reducible refine is_l ?_); refine l_t txs rfl rfl (fun hh => absurd hh (show ¬ ((3 : Nat) : Int) < ((3 : Nat) : Int) by decide)) (fun _ => ?_)
        have fin : ∀ q : Bool, q = (!odd || (decide (a ≠ [48]) && decide (a ≠ [49]))) → ∀ w', Hd w w' [eVer g4 (strOfNums a) (strOfNums b) (strOfNums d) A ws.length c odd, eVer g2 (strOfNums a) (strOfNums b) (strOfNums d) A ws.length c odd] [rowT (.slice (some ⟨gN, 0, none⟩) [a, b, d].length [a, b, d].length) [a, b, d], rowT (.slice A ws.length c) ws] → PaD w (bl t) (.returned (.tuple #[.agg #[.string (strOfNums a), .string (strOfNums b), .string (strOfNums d), .slice A ws.length c, .bool odd], .bool q])) w' := fun q hq w' H => by
          rw [← hq] at hV2
          cases q
          · rw [if_neg (by simp)] at hV2
            exact pd_none hV2 _ _ _ _ _ _ _ H.BD
          · rw [if_pos rfl] at hV2
            exact pd_some hV2 A c (H.pick [] [1] (by decide) (by decide) rfl rfl)
        have hq : (odd = false) ∨ (odd = true ∧ a = [48]) ∨ (odd = true ∧ a ≠ [48] ∧ a = [49]) ∨ (odd = true ∧ a ≠ [48] ∧ a ≠ [49]) := by
          cases odd
          · exact .inl rfl
          · by_cases h1 : a = [48]
            · exact .inr (.inl ⟨rfl, h1⟩)
            · by_cases h2 : a = [49]
              · exact .inr (.inr (.inl ⟨rfl, h1, h2⟩))
              · exact .inr (.inr (.inr ⟨rfl, h1, h2⟩))
        rcases hq with rfl | ⟨rfl, hA⟩ | ⟨rfl, hA, hB⟩ | ⟨rfl, hA, hB⟩
        all_goals
          repeat' (first | (with_reducible first | refine p_tn ?_ | refine p_tx ?_ | refine x_hit ?_ | refine wp_seq ?_) | (with_reducible (refine is_if ?_; (refine w_iff rfl ?_))) | (with_reducible first | refine wp_exit ?_ | refine l_nil ?_))
          have HS := H.pick [0] [0, 1] (by decide) (by decide) rfl rfl
          refine d_start (fun w_ => HpS _ w w_ _ _) #[false, false, false, false, false, false, false, false, false, false, false, false, false, false, false, false, false] (by kernel_rfl) rfl rfl HS.drew ?_
          have H := H.drew
          have HS := HS.drew
          first | (refine d_take (i := 0) #[true, false, false, false, false, false, false, false, false, false, false, false, false, false, false, false, false] rfl (by kernel_rfl) (fun _ _ _ h => h) rfl (fun w_ K => evLR_run (o := ⟨_, _, _, _, _, _⟩) recs rfl rfl (K.range 0 rfl) rfl) HS ?_)
          first | (refine d_pure (i := 1) #[true, true, false, false, false, false, false, false, false, false, false, false, false, false, false, false, false] rfl (by kernel_rfl) (fun _ _ _ h => h) rfl (fun w_ => evP_run (o := ⟨_, _, _, _, _, _⟩) txs rfl) ?_)
          first | (refine d_pure (i := 2) #[true, true, true, false, false, false, false, false, false, false, false, false, false, false, false, false, false] rfl (by kernel_rfl) (fun _ _ _ h => h) rfl (fun w_ => evP_run (o := ⟨_, _, _, _, _, _⟩) txs rfl) ?_)
          first | (refine d_pure (i := 3) #[true, true, true, true, false, false, false, false, false, false, false, false, false, false, false, false, false] rfl (by kernel_rfl) (fun _ _ _ h => h) rfl (fun w_ => evP_run (o := ⟨_, _, _, _, _, _⟩) txs rfl) ?_)
          first | (refine d_off (i := 4) #[true, true, true, true, true, false, false, false, false, false, false, false, false, false, false, false, false] rfl (by kernel_rfl) (fun _ _ _ h => h) rfl ?_) | (first | (refine d_pure (i := 4) #[true, true, true, true, true, false, false, false, false, false, false, false, false, false, false, false, false] rfl (by kernel_rfl) (fun _ _ _ h => h) rfl (fun w_ => evF_run (o := ⟨_, _, _, _, _, _⟩) flds rfl) ?_) | (refine d_pure (i := 4) #[true, true, true, true, true, false, false, false, false, false, false, false, false, false, false, false, false] rfl (by kernel_rfl) (fun _ _ _ h => h) rfl (fun w_ => evG_run (o := ⟨_, _, _, _, _, _⟩) flds rfl) ?_))
          first | (refine d_off (i := 5) #[true, true, true, true, true, true, false, false, false, false, false, false, false, false, false, false, false] rfl (by kernel_rfl) (fun _ _ _ h => h) rfl ?_) | (first | (refine d_pure (i := 5) #[true, true, true, true, true, true, false, false, false, false, false, false, false, false, false, false, false] rfl (by kernel_rfl) (fun _ _ _ h => h) rfl (fun w_ => evIaa_run (o := ⟨_, _, _, _, _, _⟩) Tryz.underlying87 info_str1 rfl rfl rfl (by decide) (by decide)) ?_))
          first | (refine d_off (i := 6) #[true, true, true, true, true, true, true, false, false, false, false, false, false, false, false, false, false] rfl (by kernel_rfl) (fun _ _ _ h => h) rfl ?_) | (first | (refine d_take (i := 6) #[true, true, true, true, true, true, true, false, false, false, false, false, false, false, false, false, false] rfl (by kernel_rfl) (fun _ _ _ h => h) rfl (fun w_ K => evL_run (o := ⟨_, _, _, _, _, _⟩) txs rfl (K.cellAt 0 rfl rfl)) HS ?_))
          first | (refine d_off (i := 7) #[true, true, true, true, true, true, true, true, false, false, false, false, false, false, false, false, false] rfl (by kernel_rfl) (fun _ _ _ h => h) rfl ?_) | (first | (refine d_pure (i := 7) #[true, true, true, true, true, true, true, true, false, false, false, false, false, false, false, false, false] rfl (by kernel_rfl) (fun _ _ _ h => h) rfl (fun w_ => (by first | exact evT_yes (o := ⟨_, _, _, _, _, _⟩) txs rfl (by rw [blS ba, e48]; exact hA) | exact evT_no (o := ⟨_, _, _, _, _, _⟩) txs rfl (by rw [blS ba, e48, hA]; exact fun h => h rfl))) ?_))
          first | (refine d_off (i := 8) #[true, true, true, true, true, true, true, true, true, false, false, false, false, false, false, false, false] rfl (by kernel_rfl) (fun _ _ _ h => h) rfl ?_) | (first | (refine d_pure (i := 8) #[true, true, true, true, true, true, true, true, true, false, false, false, false, false, false, false, false] rfl (by kernel_rfl) (fun _ _ _ h => h) rfl (fun w_ => evP_run (o := ⟨_, _, _, _, _, _⟩) txs rfl) ?_))
          first | (refine d_off (i := 9) #[true, true, true, true, true, true, true, true, true, true, false, false, false, false, false, false, false] rfl (by kernel_rfl) (fun _ _ _ h => h) rfl ?_) | (first | (refine d_pure (i := 9) #[true, true, true, true, true, true, true, true, true, true, false, false, false, false, false, false, false] rfl (by kernel_rfl) (fun _ _ _ h => h) rfl (fun w_ => evF_run (o := ⟨_, _, _, _, _, _⟩) flds rfl) ?_) | (refine d_pure (i := 9) #[true, true, true, true, true, true, true, true, true, true, false, false, false, false, false, false, false] rfl (by kernel_rfl) (fun _ _ _ h => h) rfl (fun w_ => evG_run (o := ⟨_, _, _, _, _, _⟩) flds rfl) ?_))
          first | (refine d_off (i := 10) #[true, true, true, true, true, true, true, true, true, true, true, false, false, false, false, false, false] rfl (by kernel_rfl) (fun _ _ _ h => h) rfl ?_) | (first | (refine d_pure (i := 10) #[true, true, true, true, true, true, true, true, true, true, true, false, false, false, false, false, false] rfl (by kernel_rfl) (fun _ _ _ h => h) rfl (fun w_ => evIaa_run (o := ⟨_, _, _, _, _, _⟩) Tryz.underlying87 info_str1 rfl rfl rfl (by decide) (by decide)) ?_))
          first | (refine d_off (i := 11) #[true, true, true, true, true, true, true, true, true, true, true, true, false, false, false, false, false] rfl (by kernel_rfl) (fun _ _ _ h => h) rfl ?_) | (first | (refine d_take (i := 11) #[true, true, true, true, true, true, true, true, true, true, true, true, false, false, false, false, false] rfl (by kernel_rfl) (fun _ _ _ h => h) rfl (fun w_ K => evL_run (o := ⟨_, _, _, _, _, _⟩) txs rfl (K.cellAt 0 rfl rfl)) HS ?_))
          first | (refine d_off (i := 12) #[true, true, true, true, true, true, true, true, true, true, true, true, true, false, false, false, false] rfl (by kernel_rfl) (fun _ _ _ h => h) rfl ?_) | (first | (refine d_pure (i := 12) #[true, true, true, true, true, true, true, true, true, true, true, true, true, false, false, false, false] rfl (by kernel_rfl) (fun _ _ _ h => h) rfl (fun w_ => (by first | exact evT_yes (o := ⟨_, _, _, _, _, _⟩) txs rfl (by rw [blS ba, e49]; exact hB) | exact evT_no (o := ⟨_, _, _, _, _, _⟩) txs rfl (by rw [blS ba, e49, hB]; exact fun h => h rfl))) ?_))
          first | (refine d_off (i := 13) #[true, true, true, true, true, true, true, true, true, true, true, true, true, true, false, false, false] rfl (by kernel_rfl) (fun _ _ _ h => h) rfl ?_) | (first | (refine d_pure (i := 13) #[true, true, true, true, true, true, true, true, true, true, true, true, true, true, false, false, false] rfl (by kernel_rfl) (fun _ _ _ h => h) rfl (fun w_ => evP_run (o := ⟨_, _, _, _, _, _⟩) txs rfl) ?_))
          first | (refine d_pure (i := 14) #[true, true, true, true, true, true, true, true, true, true, true, true, true, true, true, false, false] rfl (by kernel_rfl) (fun _ _ _ h => h) rfl (fun w_ => evP_run (o := ⟨_, _, _, _, _, _⟩) txs rfl) ?_)
          refine d_one (i := 15) #[true, true, true, true, true, true, true, true, true, true, true, true, true, true, true, true, false] rfl (by kernel_rfl) rfl ?_
          refine g_on ?_; ((with_reducible refine g_st ?_); (refine h_stR recs H 1 rfl rfl rfl rfl rfl rfl rfl rfl rfl (fun w_ H => ?_)))
          refine l_nil ?_
          have HS := H.pick [0] [0, 1] (by decide) (by decide) rfl rfl
          refine ⟨rfl, HS, ?_⟩
          first | (refine d_pure (i := 16) #[true, true, true, true, true, true, true, true, true, true, true, true, true, true, true, true, true] rfl (by kernel_rfl) (fun _ _ _ h => h) rfl (fun w_ => evP_run (o := ⟨_, _, _, _, _, _⟩) txs rfl) ?_)
          refine d_done rfl ?_
          repeat' (with_reducible first | refine p_tn ?_ | refine wp_ret ?_)
          refine end_ct recs H 1 rfl rfl rfl rfl rfl rfl ?_
          refine fin _ ?_ _ H
          first
          | rfl
          | (rw [hA]; rfl)
          | (rw [hB]; rfl)
          | (rw [decide_eq_true hA, decide_eq_true hB]; rfl)
      · have h012 : s = 0 ∨ s = 1 ∨ s = 2 := by omega
        rcases h012 with rfl | rfl | rfl
        have ny := isNumber_cD (strOfNums a)
        rw [blS ba] at ny
        have hcell := rdT_cell (rowT_at H 0 rfl) (y := a) (i := 0) rfl
        obtain ⟨y, hy⟩ : ∃ y, y = a := ⟨_, rfl⟩
        rw [← hy] at ny hcell
        rotate_left
        have ny := isNumber_cD (strOfNums b)
        rw [blS bb] at ny
        have hcell := rdT_cell (rowT_at H 0 rfl) (y := b) (i := 1) rfl
        obtain ⟨y, hy⟩ : ∃ y, y = b := ⟨_, rfl⟩
        rw [← hy] at ny hcell
        rotate_left
        have ny := isNumber_cD (strOfNums d)
        rw [blS bd] at ny
        have hcell := rdT_cell (rowT_at H 0 rfl) (y := d) (i := 2) rfl
        obtain ⟨y, hy⟩ : ∃ y, y = d := ⟨_, rfl⟩
        rw [← hy] at ny hcell
        rotate_left
        all_goals
          repeat' (with_reducible first | refine wp_seq ?_ | refine w_reg ?_)
          (with_reducible refine is_l ?_); refine l_t txs rfl rfl (fun _ => ?_) (fun hh => absurd (by show ((_ : Nat) : Int) < ((3 : Nat) : Int); decide) hh)
          repeat' (first | (with_reducible first | refine p_tn ?_ | refine wp_seq ?_ | refine wp_block ?_ | refine w_reg ?_) | (with_reducible (refine is_if ?_; (refine w_ift rfl ?_))) | (with_reducible first | refine wp_skip ?_ | refine l_nil ?_) | ((with_reducible refine g_on ?_); (first | ((with_reducible refine g_mv ?_); refine l_p txs rfl rfl ?_) | ((with_reducible refine g_ia ?_); refine l_ia txs rfl rfl (by first | omega | assumption | decide) (by first | omega | assumption | decide) ?_))))
          (with_reducible refine is_l ?_); refine l_ld txs rfl rfl hcell ?_
          repeat' (first | (with_reducible first | refine p_tn ?_ | refine wp_seq ?_ | refine w_reg ?_ | refine l_nil ?_) | ((with_reducible refine g_on ?_); (first | ((with_reducible refine g_mv ?_); refine l_p txs rfl rfl ?_) | ((with_reducible refine g_as ?_); refine l_p txs rfl rfl ?_))))
          (with_reducible refine is_l ?_); refine l_callv rfl rfl (by kernel_rfl) (ny _ (by rw [hy]; omega)) (fun w_ K => ?_)
          have H := H.callD K
          cases hnb : numB y
          · have hres : parseV (bl t) = none := by
              rw [hV]
              unfold tailV
              rw [hy] at hnb
              simp [hnb]
            repeat' (first | (with_reducible first | refine p_tn ?_ | refine p_tr ?_ | refine p_br ?_ | refine wp_seq ?_ | refine w_reg ?_) | (with_reducible (refine is_if ?_; (refine w_ift rfl ?_))) | (with_reducible first | refine wp_ret ?_ | refine l_nil ?_) | ((with_reducible refine g_on ?_); (first | ((with_reducible refine g_as ?_); refine l_p txs rfl rfl ?_) | ((with_reducible refine g_ld ?_); (refine h_ldR recs H 0 rfl rfl rfl rfl rfl ?_)) | ((with_reducible refine g_st ?_); (refine h_stR recs H 1 rfl rfl rfl rfl rfl rfl rfl rfl rfl (fun w_ H => ?_))) | ((with_reducible refine g_un ?_); (refine l_p txs rfl rfl ?_)))))
            refine end_ct recs H 1 rfl rfl rfl rfl rfl rfl ?_
            exact pd_none hres _ _ _ _ _ _ _ H.BD
          · repeat' (first | (with_reducible first | refine p_tn ?_ | refine w_reg ?_) | (with_reducible (refine is_if ?_; (refine w_iff rfl ?_))) | (with_reducible first | refine wp_skip ?_ | refine l_nil ?_) | ((with_reducible refine g_on ?_); (first | ((with_reducible refine g_mv ?_); refine l_p txs rfl rfl ?_) | ((with_reducible refine g_fa ?_); refine h_fa flds rfl rfl ?_) | ((with_reducible refine g_un ?_); (refine l_p txs rfl rfl ?_)))))
            (with_reducible refine is_l ?_); refine l_iaa Tryz.underlying87 info_str1 rfl rfl rfl (by decide) (by decide) ?_
            repeat' (first | (with_reducible first | refine p_tn ?_ | refine p_bn ?_ | refine w_reg ?_ | refine l_nil ?_) | ((with_reducible refine g_on ?_); (first | ((with_reducible refine g_mv ?_); refine l_p txs rfl rfl ?_) | ((with_reducible refine g_st ?_); (refine h_st txs ones H 0 rfl rfl rfl rfl rfl rfl rfl rfl rfl (fun w_ H => ?_))) | ((with_reducible refine g_bi ?_); (refine l_a txs rfl rfl (by first | exact in_i64 (by omega) (by omega) | exact in_u8 (by omega) (by omega) | exact in_u64 (by omega) (by omega) | exact in_i32 (by omega) (by omega)) ?_)))))
            subst hy
            exact ⟨_ + 1, _, rfl, ⟨rfl, rfl, rfl, rfl, rfl, rfl, trivial⟩, ⟨H.pick [0, 1] [0, 1] (by decide) (by decide) rfl rfl, by decide, fun _ => by first | exact hnb | exact k1 (by decide), fun h => by first | exact hnb | exact k2 (by decide) | omega, fun h => by first | exact hnb | omega⟩, by decide⟩
theorem parse_c {w : World} {mx : Int} (hM : w.cell? ⟨0, 0, none⟩ = some (.int .i64 mx)) (t : ByteArray) :
    Calls Tryz.prog 58 #[.string t] w (PaR w (bl t)) := (parseD_c hM t).mono fun _ _ h => h.out
end Go.Proofs.YtnimaenhijlcmaaGreatDoor.K
end
section
namespace Go.Proofs.YtnimaenhijlcmaaGreatDoor.K
open Go.RowKit Go.Proofs.YtnimaenhijlcmaaGreatDoor.Q Go.Proofs.YtnimaenhijlcmaaGreatDoor.Mb Go.Proofs.YtnimaenhijlcmaaGreatDoorW.PrintWords
set_option linter.unusedVariables false
set_option linter.unusedSimpArgs false
theorem dig_bytes {l : L} (h : l.all digB = true) : Bytes l := fun x hx => by
  have := List.all_eq_true.1 h x hx
  unfold digB at this
  simp at this
  omega
theorem word_bytes {l : L} (h : wordB l = true) : Bytes l := fun x hx => by
  unfold wordB at h
  simp only [Bool.and_eq_true] at h
  have := List.all_eq_true.1 h.1.1 x hx
  unfold wordC digB smlB capB at this
  simp at this
  omega
theorem ver_in {s : L} {v : Ver} (h : parseV s = some v) : VerIn v := by
  obtain ⟨pre, hs, hw, ha, hb, hc, hall, _, hl⟩ := parseV_text h
  have hlen : v.a.length + v.b.length + v.c.length + (preT pre).length ≤ s.length := by
    rw [hs]; unfold verText; simp; omega
  have hwl : v.words.length ≤ 129 ∧ ∀ x ∈ v.words, x.length ≤ 128 := by
    rw [← hw]
    cases pre with
    | none => exact ⟨by simp [verWords], fun x hx => by simp [verWords] at hx⟩
    | some p =>
      have hp : (preT (some p)).length = p.length + 1 := rfl
      have h1 := split_len 46 p
      refine ⟨by show (splitC 46 p).length ≤ _; omega, fun x hx => ?_⟩
      have := (split_mem 46 p x hx).2
      omega
  exact ⟨⟨dig_bytes (numB_dig ha).1, by omega⟩, ⟨dig_bytes (numB_dig hb).1, by omega⟩, ⟨dig_bytes (numB_dig hc).1, by omega⟩, fun x hx => ⟨word_bytes (hall x hx), by have := hwl.2 x hx; omega⟩, by omega⟩
set_option maxRecDepth 100000 in
set_option maxHeartbeats 4000000 in
theorem CompareD_c {w : World} {mx : Int} (hM : w.cell? ⟨0, 0, none⟩ = some (.int .i64 mx)) (t u : ByteArray) :
    Calls Tryz.prog 31 #[.string t, .string u] w fun e w' => e = .returned (.int .i64 (compareS (bl t) (bl u))) ∧ Bel w.heap.size w w' := by
  refine enter (args := [.string t, .string u]) Tryz.func31 rfl Tryz.ntmps31 rfl ?_
  have H : Hd w w [] [] := HpS.nil w
  repeat' (first | (with_reducible first | refine p_tn ?_ | refine wp_seq ?_ | refine w_reg ?_ | refine l_nil ?_) | ((with_reducible refine g_on ?_); (first | ((with_reducible refine g_mv ?_); refine l_p txs rfl rfl ?_) | ((with_reducible refine g_as ?_); refine l_p txs rfl rfl ?_))))
  (with_reducible refine is_l ?_); refine l_call rfl rfl (by kernel_rfl) (parseD_c (H.old hM) t) (fun e w_ hR => ?_)
  unfold PaD at hR
  unfold compareS
  cases hp : parseV (bl t) with
  | none =>
    rw [hp] at hR
    obtain ⟨x, y, z, A, n, c, b, rfl, K⟩ := hR
    refine ⟨_, rfl, ?_⟩
    have H := H.callD K
    repeat' (first | (with_reducible first | refine p_tn ?_ | refine wp_seq ?_ | refine w_reg ?_ | refine l_nil ?_) | ((with_reducible refine g_on ?_); (first | ((with_reducible refine g_mv ?_); refine l_p txs rfl rfl ?_) | ((with_reducible refine g_as ?_); refine l_p txs rfl rfl ?_) | ((with_reducible refine g_ex ?_); refine l_p txs rfl rfl ?_) | ((with_reducible refine g_st ?_); (refine h_stR recs H 0 rfl rfl rfl rfl rfl rfl rfl rfl rfl (fun w_ H => ?_))) | ((with_reducible refine g_al ?_); refine h_alloc recs H rfl rfl (fun g_ w_ H => ?_)))))
    (with_reducible refine is_l ?_); refine l_call rfl rfl (by kernel_rfl) (parseD_c (H.old hM) u) (fun e w_ hR => ?_)
    unfold PaD at hR
    cases hq : parseV (bl u) with
    | none =>
      rw [hq] at hR
      obtain ⟨x9, y9, z9, A9, n9, c9, b9, rfl, K⟩ := hR
      refine ⟨_, rfl, ?_⟩
      have H := H.callD K
      repeat' (first | (with_reducible first | refine p_tn ?_ | refine p_bn ?_ | refine wp_seq ?_ | refine wp_block ?_ | refine w_reg ?_) | (with_reducible (refine is_if ?_; (refine w_iff rfl ?_))) | (with_reducible first | refine wp_skip ?_ | refine wp_ret ?_ | refine l_nil ?_) | ((with_reducible refine g_on ?_); (first | ((with_reducible refine g_mv ?_); refine l_p txs rfl rfl ?_) | ((with_reducible refine g_as ?_); refine l_p txs rfl rfl ?_) | ((with_reducible refine g_ex ?_); refine l_p txs rfl rfl ?_) | ((with_reducible refine g_pk ?_); refine l_p txs rfl rfl ?_) | ((with_reducible refine g_st ?_); (refine h_stR recs H 0 rfl rfl rfl rfl rfl rfl rfl rfl rfl (fun w_ H => ?_))) | ((with_reducible refine g_al ?_); refine h_alloc recs H rfl rfl (fun g_ w_ H => ?_)))) | ((with_reducible refine g_if ?_); (refine l_off rfl ?_)))
      refine end1 rfl rfl ?_
      exact ⟨rfl, H.BD⟩
    | some v9 =>
      rw [hq] at hR
      obtain ⟨A9, c9, rfl, K⟩ := hR
      refine ⟨_, rfl, ?_⟩
      have H := H.join K
      repeat' (first | (with_reducible first | refine p_tn ?_ | refine p_tr ?_ | refine p_br ?_ | refine wp_seq ?_ | refine wp_block ?_ | refine w_reg ?_) | (with_reducible (refine is_if ?_; (first | (refine w_ift rfl ?_) | (refine w_iff rfl ?_)))) | (with_reducible first | refine wp_ret ?_ | refine l_nil ?_) | ((with_reducible refine g_on ?_); (first | ((with_reducible refine g_mv ?_); refine l_p txs rfl rfl ?_) | ((with_reducible refine g_as ?_); refine l_p txs rfl rfl ?_) | ((with_reducible refine g_ex ?_); refine l_p txs rfl rfl ?_) | ((with_reducible refine g_pk ?_); refine l_p txs rfl rfl ?_) | ((with_reducible refine g_st ?_); (refine h_stR recs H 0 rfl rfl rfl rfl rfl rfl rfl rfl rfl (fun w_ H => ?_))) | ((with_reducible refine g_al ?_); refine h_alloc recs H rfl rfl (fun g_ w_ H => ?_)))) | ((with_reducible refine g_if ?_); (refine l_off rfl ?_)))
      refine end1 rfl rfl ?_
      exact ⟨rfl, H.BD⟩
  | some v =>
    rw [hp] at hR
    obtain ⟨A, c, rfl, K⟩ := hR
    refine ⟨_, rfl, ?_⟩
    have H := H.join K
    repeat' (first | (with_reducible first | refine p_tn ?_ | refine wp_seq ?_ | refine w_reg ?_ | refine l_nil ?_) | ((with_reducible refine g_on ?_); (first | ((with_reducible refine g_mv ?_); refine l_p txs rfl rfl ?_) | ((with_reducible refine g_as ?_); refine l_p txs rfl rfl ?_) | ((with_reducible refine g_ex ?_); refine l_p txs rfl rfl ?_) | ((with_reducible refine g_st ?_); (refine h_stR recs H 0 rfl rfl rfl rfl rfl rfl rfl rfl rfl (fun w_ H => ?_))) | ((with_reducible refine g_al ?_); refine h_alloc recs H rfl rfl (fun g_ w_ H => ?_)))))
    (with_reducible refine is_l ?_); refine l_call rfl rfl (by kernel_rfl) (parseD_c (H.old hM) u) (fun e w_ hR => ?_)
    unfold PaD at hR
    cases hq : parseV (bl u) with
    | none =>
      rw [hq] at hR
      obtain ⟨x9, y9, z9, A9, n9, c9, b9, rfl, K⟩ := hR
      refine ⟨_, rfl, ?_⟩
      have H := H.callD K
      repeat' (first | (with_reducible first | refine p_tn ?_ | refine p_tr ?_ | refine p_br ?_ | refine wp_seq ?_ | refine wp_block ?_ | refine w_reg ?_) | (with_reducible (refine is_if ?_; (first | (refine w_ift rfl ?_) | (refine w_iff rfl ?_)))) | (with_reducible first | refine wp_ret ?_ | refine l_nil ?_) | ((with_reducible refine g_on ?_); (first | ((with_reducible refine g_mv ?_); refine l_p txs rfl rfl ?_) | ((with_reducible refine g_as ?_); refine l_p txs rfl rfl ?_) | ((with_reducible refine g_ex ?_); refine l_p txs rfl rfl ?_) | ((with_reducible refine g_pk ?_); refine l_p txs rfl rfl ?_) | ((with_reducible refine g_st ?_); (refine h_stR recs H 0 rfl rfl rfl rfl rfl rfl rfl rfl rfl (fun w_ H => ?_))) | ((with_reducible refine g_al ?_); refine h_alloc recs H rfl rfl (fun g_ w_ H => ?_)))) | ((with_reducible refine g_if ?_); ((with_reducible refine g_mv ?_); refine l_p txs rfl rfl ?_)))
      refine end1 rfl rfl ?_
      exact ⟨rfl, H.BD⟩
    | some v9 =>
      rw [hq] at hR
      obtain ⟨A9, c9, rfl, K⟩ := hR
      refine ⟨_, rfl, ?_⟩
      have H := H.join K
      repeat' (first | (with_reducible first | refine p_tn ?_ | refine wp_seq ?_ | refine wp_block ?_ | refine w_reg ?_) | (with_reducible (refine is_if ?_; (refine w_ift rfl ?_))) | (with_reducible refine l_nil ?_) | ((with_reducible refine g_on ?_); (first | ((with_reducible refine g_mv ?_); refine l_p txs rfl rfl ?_) | ((with_reducible refine g_as ?_); refine l_p txs rfl rfl ?_) | ((with_reducible refine g_ex ?_); refine l_p txs rfl rfl ?_) | ((with_reducible refine g_pk ?_); refine l_p txs rfl rfl ?_) | ((with_reducible refine g_ld ?_); (first | (refine h_ldR recs H 0 rfl rfl rfl rfl rfl ?_) | (refine h_ldR recs H 1 rfl rfl rfl rfl rfl ?_))) | ((with_reducible refine g_st ?_); (refine h_stR recs H 0 rfl rfl rfl rfl rfl rfl rfl rfl rfl (fun w_ H => ?_))) | ((with_reducible refine g_al ?_); refine h_alloc recs H rfl rfl (fun g_ w_ H => ?_)))) | ((with_reducible refine g_if ?_); ((with_reducible refine g_mv ?_); refine l_p txs rfl rfl ?_)))
      (with_reducible refine is_l ?_); refine l_callv rfl rfl (by kernel_rfl) (compare_c (ver_in hp) (ver_in hq) (rowT_at H 1 rfl) (rowT_at H 0 rfl)) (fun w_ K => ?_)
      have H := H.callD K
      repeat' (first | (with_reducible first | refine p_tn ?_ | refine p_tr ?_ | refine p_br ?_ | refine wp_ret ?_ | refine l_nil ?_) | ((with_reducible refine g_on ?_); ((with_reducible refine g_as ?_); refine l_p txs rfl rfl ?_)))
      refine end1 rfl rfl ?_
      exact ⟨rfl, H.BD⟩
theorem Compare_c {w : World} {mx : Int} (hM : w.cell? ⟨0, 0, none⟩ = some (.int .i64 mx)) (t u : ByteArray) :
    Calls Tryz.prog 31 #[.string t, .string u] w fun e w' => e = .returned (.int .i64 (compareS (bl t) (bl u))) ∧ Below w.heap.size w w' := (CompareD_c hM t u).mono fun _ _ h => ⟨h.1, h.2.toBelow⟩
end Go.Proofs.YtnimaenhijlcmaaGreatDoor.K
end
section
namespace Go.Proofs.YtnimaenhijlcmaaGreatDoor.K
open Go.RowKit Go.Proofs.YtnimaenhijlcmaaGreatDoor.Q Go.Proofs.YtnimaenhijlcmaaGreatDoor.Mb Go.Proofs.YtnimaenhijlcmaaGreatDoorW.PrintWords
set_option linter.unusedVariables false
set_option linter.unusedSimpArgs false
section
variable {P : Program} {n : Nat} {ops : Array Oper} {Q : Exit → Act → World → Prop} {rest : List Oper} {f : Fr} {w : World} {d : Option Nat} {op : Op} {tt : TypeId} {ps : String} {af : Array Edge} {gd : Option (Nat × Bool)}
theorem run_load_row {g : Nat} {t ty : TypeId} {cs : Array Value} {fr : Nat × Nat} {m : Nat} {e : TypeId} (hg : w.heap[g]? = some (.cells cs t fr)) (hu : P.underlying ty = some (.array m e)) (hi : (P.info? ty).map (·.size) = some cs.size) :
    (Instr.loadAt ty (.pointer (some ⟨g, 0, none⟩))).run P w = .ok (.agg cs) w := by
  simp only [Instr.loadAt, Instr.sureAddr, Sem.run_bind, Sem.run_pure, Result.andThen_ok, run_loadVar_row w g t ty cs fr _ hg hu rfl hi]
end
section
variable {P : Program} {n : Nat} {ops : Array Oper} {Q : Exit → Act → World → Prop} {rest : List Oper} {f : Fr} {w : World} {d : Option Nat} {op : Op} {tt : TypeId} {ps : String} {af : Array Edge} {gd : Option (Nat × Bool)}
theorem l_load_row {g : Nat} {t t2 : TypeId} {cs : Array Value} {fr : Nat × Nat} {m : Nat} {e : TypeId} {x : Operand} (hw : want n ops f ⟨d, .load t x, tt, ps, af, gd⟩ = true) (hx : X n f x = .pointer (some ⟨g, 0, none⟩)) (hg : w.heap[g]? = some (.cells cs t2 fr)) (hu : P.underlying t = some (.array m e)) (hi : (P.info? t).map (·.size) = some cs.size)
    (h : WL P ops Q rest (act n (put f d (.agg cs))) w) : WL P ops Q (⟨d, .load t x, tt, ps, af, gd⟩ :: rest) (act n f) w := by
  refine l_val hw ?_ h
  have := run_load_row (P := P) hg hu hi
  unfold execOp
  simp [hx, this]
end
section
variable {P : Program} {n : Nat} {ops : Array Oper} {Q : Exit → Act → World → Prop} {rest : List Oper} {f : Fr} {w : World} {d : Option Nat} {op : Op} {tt : TypeId} {ps : String} {af : Array Edge} {gd : Option (Nat × Bool)}
theorem run_index_text {t e : TypeId} {m : Nat} {i : TypeInfo} {cs : Array Value} {k : Nat} {v : Value} (ht : P.underlying t = some (.array m e)) (he : P.underlying e = some .string) (hi : P.info? e = some i) (hs : i.size = 1) (hk : k < m) (hv : cs[k]? = some v) :
    (Instr.index t (.agg cs) (.int .i64 (k : Int))).run P w = .ok v w := by
  simp [Instr.index, part, isAgg, sizeOf, typeInfo, asIntOf, run_underlying ht, run_underlying he, hi, hs, hk, hv, go_sem]
end
section
variable {P : Program} {n : Nat} {ops : Array Oper} {Q : Exit → Act → World → Prop} {rest : List Oper} {f : Fr} {w : World} {d : Option Nat} {op : Op} {tt : TypeId} {ps : String} {af : Array Edge} {gd : Option (Nat × Bool)}
theorem l_idx_text {t e : TypeId} {m : Nat} {i : TypeInfo} {cs : Array Value} {k : Nat} {v : Value} {x y : Operand} (hw : want n ops f ⟨d, .index t x y, tt, ps, af, gd⟩ = true) (hx : X n f x = .agg cs) (hy : X n f y = .int .i64 (k : Int)) (ht : P.underlying t = some (.array m e)) (he : P.underlying e = some .string) (hi : P.info? e = some i) (hs : i.size = 1) (hk : k < m) (hv : cs[k]? = some v)
    (h : WL P ops Q rest (act n (put f d v)) w) : WL P ops Q (⟨d, .index t x y, tt, ps, af, gd⟩ :: rest) (act n f) w := by
  refine l_val hw ?_ h
  have := run_index_text (P := P) (w := w) ht he hi hs hk hv
  unfold execOp
  simp [hx, hy, this]
end
section
variable {P : Program} {n : Nat} {ops : Array Oper} {Q : Exit → Act → World → Prop} {rest : List Oper} {f : Fr} {w : World} {d : Option Nat} {op : Op} {tt : TypeId} {ps : String} {af : Array Edge} {gd : Option (Nat × Bool)}
theorem run_index_int {t e : TypeId} {m : Nat} {i : TypeInfo} {cs : Array Value} {k : Nat} {v : Value} {ik : IntKind} (ht : P.underlying t = some (.array m e)) (he : P.underlying e = some (.int ik)) (hi : P.info? e = some i) (hs : i.size = 1) (hk : k < m) (hv : cs[k]? = some v) :
    (Instr.index t (.agg cs) (.int .i64 (k : Int))).run P w = .ok v w := by
  simp [Instr.index, part, isAgg, sizeOf, typeInfo, asIntOf, run_underlying ht, run_underlying he, hi, hs, hk, hv, go_sem]
theorem l_idx_int {t e : TypeId} {m : Nat} {i : TypeInfo} {cs : Array Value} {k : Nat} {v : Value} {ik : IntKind} {x y : Operand} (hw : want n ops f ⟨d, .index t x y, tt, ps, af, gd⟩ = true) (hx : X n f x = .agg cs) (hy : X n f y = .int .i64 (k : Int)) (ht : P.underlying t = some (.array m e)) (he : P.underlying e = some (.int ik)) (hi : P.info? e = some i) (hs : i.size = 1) (hk : k < m) (hv : cs[k]? = some v)
    (h : WL P ops Q rest (act n (put f d v)) w) : WL P ops Q (⟨d, .index t x y, tt, ps, af, gd⟩ :: rest) (act n f) w := by
  refine l_val hw ?_ h
  have := run_index_int (P := P) (w := w) ht he hi hs hk hv
  unfold execOp
  simp [hx, hy, this]
end
def mkL : List Int := [45, 46, 95, 126, 47]
def mkC : Array Value := (mkL.map (Value.int .i32)).toArray
theorem mk_at : ∀ k, k < 5 → mkC[k]? = some (.int .i32 (mkL.getD k 0)) ∧ mkL.drop k = mkL.getD k 0 :: mkL.drop (k + 1)
  | 0, _ => ⟨rfl, rfl⟩
  | 1, _ => ⟨rfl, rfl⟩
  | 2, _ => ⟨rfl, rfl⟩
  | 3, _ => ⟨rfl, rfl⟩
  | 4, _ => ⟨rfl, rfl⟩
  | k + 5, h => absurd h (by omega)
theorem info_mkA : (Tryz.prog.info? 137).map (·.size) = some mkC.size := by kernel_rfl
theorem info_i32 : (Tryz.prog.info? 21).map (·.size) = some 1 := by kernel_rfl
set_option maxHeartbeats 2000000 in
theorem isPathRune_c {w : World} {t2 : TypeId} {fr : Nat × Nat} (hT : w.heap[1]? = some (.cells mkC t2 fr)) (c : Int) :
    Calls Tryz.prog 107 #[.int .i32 c] w fun e w' => e = .returned (.bool (pathB c)) ∧ w' = w := by
  obtain ⟨i0, hi0, hs0⟩ := Option.map_eq_some_iff.1 info_i32
  refine enter (args := [.int .i32 c]) Tryz.func107 rfl Tryz.ntmps107 rfl ?_
  repeat' (first | (with_reducible first | refine p_tn ?_ | refine wp_seq ?_ | refine w_reg ?_ | refine l_nil ?_) | (with_reducible (refine is_l ?_; (refine l_p tys rfl rfl ?_))))
  (with_reducible refine is_l ?_); refine l_callp rfl rfl (by kernel_rfl) (isDigit_c c _) ?_
  cases h1 : digB c
  rotate_left
  · skip
    have hp : pathB c = true := by unfold pathB; simp [*]
    repeat' (first | (with_reducible first | refine p_tn ?_ | refine p_tr ?_ | refine wp_seq ?_ | refine w_reg ?_) | (with_reducible (refine is_if ?_; (refine w_ift rfl ?_))) | (with_reducible first | refine wp_ret ?_ | refine l_nil ?_) | (with_reducible (refine is_l ?_; (first | (refine l_off rfl ?_) | (refine l_p tys rfl rfl ?_)))))
    refine end1 rfl rfl ?_
    exact ⟨by rw [hp], rfl⟩
  repeat' (with_reducible (refine is_l ?_; (refine l_p tys rfl rfl ?_)))
  (with_reducible refine is_l ?_); refine l_callp rfl rfl (by kernel_rfl) (isSmall_c c _) ?_
  cases h2 : smlB c
  rotate_left
  · skip
    have hp : pathB c = true := by unfold pathB; simp [*]
    repeat' (first | (with_reducible first | refine p_tn ?_ | refine p_tr ?_ | refine wp_seq ?_ | refine w_reg ?_) | (with_reducible (refine is_if ?_; (refine w_ift rfl ?_))) | (with_reducible first | refine wp_ret ?_ | refine l_nil ?_) | (with_reducible (refine is_l ?_; (first | (refine l_off rfl ?_) | (refine l_p tys rfl rfl ?_)))))
    refine end1 rfl rfl ?_
    exact ⟨by rw [hp], rfl⟩
  repeat' (with_reducible (refine is_l ?_; (refine l_p tys rfl rfl ?_)))
  (with_reducible refine is_l ?_); refine l_callp rfl rfl (by kernel_rfl) (isCapital_c c _) ?_
  cases h3 : capB c
  rotate_left
  · skip
    have hp : pathB c = true := by unfold pathB; simp [*]
    repeat' (first | (with_reducible first | refine p_tn ?_ | refine p_tr ?_ | refine wp_seq ?_ | refine w_reg ?_) | (with_reducible (refine is_if ?_; (refine w_ift rfl ?_))) | (with_reducible first | refine wp_ret ?_ | refine l_nil ?_) | (with_reducible (refine is_l ?_; (refine l_p tys rfl rfl ?_))))
    refine end1 rfl rfl ?_
    exact ⟨by rw [hp], rfl⟩
  have hp : pathB c = mkL.contains c := by unfold pathB; rw [h1, h2, h3]; rfl
  repeat' (first | (with_reducible first | refine p_tn ?_ | refine wp_seq ?_ | refine w_reg ?_) | (with_reducible (refine is_if ?_; (refine w_iff rfl ?_))) | (with_reducible first | refine wp_skip ?_ | refine l_nil ?_) | (with_reducible (refine is_l ?_; (refine l_p tys rfl rfl ?_))))
  (with_reducible refine is_l ?_); refine l_load_row rfl rfl hT Tryz.underlying137 info_mkA ?_
  repeat' (first | (with_reducible first | refine p_tn ?_ | refine wp_block ?_ | refine l_nil ?_) | (with_reducible (refine is_l ?_; (refine l_p tys rfl rfl ?_))))
  refine w_loop (σ := Nat) (S := fun k => [(0, .int .i32 c), (15, .agg mkC), (16, .int .i64 (k : Int))]) (J := fun k w' => w' = w ∧ k ≤ 5 ∧ mkL.contains c = (mkL.drop k).contains c) (μ := fun k => 5 - k) 0 ⟨rfl, rfl, rfl, trivial⟩ ⟨rfl, by omega, rfl⟩ ?_
  rintro k f w1 ⟨rfl, hk, hl⟩
  repeat' (with_reducible first | refine wp_seq ?_ | refine w_reg ?_)
  (with_reducible refine is_l ?_); refine l_t tys rfl rfl (fun hlt => ?_) (fun hge => ?_)
  · have hk' : k < 5 := by omega
    obtain ⟨q1, q2⟩ := mk_at k hk'
    rw [q2, List.contains_cons] at hl
    repeat' (first | (with_reducible first | refine p_tn ?_ | refine wp_seq ?_ | refine wp_block ?_ | refine w_reg ?_) | (with_reducible (refine is_if ?_; (refine w_ift rfl ?_))) | (with_reducible first | refine wp_skip ?_ | refine l_nil ?_))
    (with_reducible refine is_l ?_); refine l_idx_int rfl rfl rfl Tryz.underlying137 Tryz.underlying21 hi0 hs0 hk' q1 ?_
    repeat' (first | (with_reducible first | refine p_tn ?_ | refine wp_seq ?_ | refine w_reg ?_ | refine l_nil ?_) | (with_reducible (refine is_l ?_; (refine l_p tys rfl rfl ?_))))
    (with_reducible refine is_l ?_); refine l_t tys rfl rfl (fun hh => ?_) (fun hn => ?_)
    · repeat' (first | (with_reducible first | refine p_tn ?_ | refine p_tr ?_ | refine p_br ?_ | refine wp_seq ?_ | refine w_reg ?_) | (with_reducible (refine is_if ?_; (refine w_ift rfl ?_))) | (with_reducible first | refine wp_ret ?_ | refine l_nil ?_) | (with_reducible (refine is_l ?_; (refine l_p tys rfl rfl ?_))))
      refine end1 rfl rfl ?_
      exact ⟨by rw [hp, hl, hh]; simp, rfl⟩
    · repeat' (first | (with_reducible first | refine p_tn ?_ | refine p_bn ?_ | refine w_reg ?_) | (with_reducible (refine is_if ?_; (refine w_iff rfl ?_))) | (with_reducible first | refine wp_skip ?_ | refine l_nil ?_) | (with_reducible (refine is_l ?_; (first | (refine l_p tys rfl rfl ?_) | (refine l_a tys rfl rfl (by first | exact in_i64 (by omega) (by omega) | exact in_u8 (by omega) (by omega) | exact in_u64 (by omega) (by omega) | exact in_i32 (by omega) (by omega)) ?_)))))
      exact ⟨k + 1, _, rfl, ⟨rfl, rfl, rfl, trivial⟩, ⟨rfl, by omega, by rw [hl, beq_eq_false_iff_ne.2 hn]; simp⟩, by omega⟩
  · have hnil : mkL.drop k = [] := List.drop_eq_nil_of_le (by show 5 ≤ k; omega)
    rw [hnil] at hl
    repeat' (first | (with_reducible first | refine p_tn ?_ | refine p_tx ?_ | refine x_hit ?_ | refine wp_seq ?_ | refine w_reg ?_) | (with_reducible (refine is_if ?_; (refine w_iff rfl ?_))) | (with_reducible first | refine wp_exit ?_ | refine wp_ret ?_ | refine l_nil ?_) | (with_reducible (refine is_l ?_; (refine l_p tys rfl rfl ?_))))
    refine end1 rfl rfl ?_
    exact ⟨by rw [hp, hl]; rfl, rfl⟩
theorem contains_find (c : Int) : ∀ l : L, decide (0 ≤ find c l) = l.contains c
  | [] => rfl
  | x :: r => by
    have ih := contains_find c r
    have hg := find_ge c r
    by_cases h : x = c
    · subst h
      have e : find x (x :: r) = 0 := by simp [find]
      rw [e]; simp
    · have hne : (c == x) = false := beq_eq_false_iff_ne.2 (fun e => h e.symm)
      rw [List.contains_cons, hne, Bool.false_or, ← ih]
      by_cases h2 : find c r < 0
      · have e : find c (x :: r) = -1 := by simp [find, h, h2]
        rw [e, decide_eq_false (by omega), decide_eq_false (by omega)]
      · have e : find c (x :: r) = find c r + 1 := by simp [find, h, h2]
        rw [e, decide_eq_true (by omega), decide_eq_true (by omega)]
theorem contains_c (t : ByteArray) (c : UInt8) (w : World) : Calls Tryz.prog 142 #[.string t, .string ⟨#[c]⟩] w fun e w' => e = .returned (.bool ((bl t).contains (c.toNat : Int))) ∧ w' = w := by
  refine (Tryz.strings_Contains_one t c w).mono fun e w' ⟨h1, h2⟩ => ⟨?_, h2⟩
  have hcc : (c.toNat : Int).toNat.toUInt8 = c := by simp
  have hi := index_find (c := (c.toNat : Int)) (by omega) (by have := c.toNat_lt; omega) t.data.toList
  rw [hcc] at hi
  rw [h1, hi, ← contains_find]
  rfl
def hstB (c : Int) : Bool := !(capB c || decide (c = 95) || decide (c = 126))
theorem path_small {c : Int} (h : pathB c = true) : c < 128 := by
  unfold pathB digB smlB capB at h
  simp at h
  omega
set_option maxHeartbeats 4000000 in
theorem isHost_c (t : ByteArray) (w : World) (ht : t.size ≤ 100000000) (h0 : bl t ≠ []) (hP : (bl t).all pathB = true) : Calls Tryz.prog 109 #[.string t] w fun e w' => e = .returned (.bool (hostB (bl t))) ∧ Below w.heap.size w w' := by
  have hlen := bl_length t
  refine enter (args := [.string t]) Tryz.func109 rfl Tryz.ntmps109 rfl ?_
  have H := Hp.nil w
  repeat' (first | (with_reducible first | refine p_tn ?_ | refine wp_seq ?_ | refine w_reg ?_ | refine l_nil ?_) | (with_reducible (refine is_l ?_; (refine l_p tys rfl rfl ?_))))
  (with_reducible refine is_l ?_); refine l_range H Tryz.underlying9 rfl rfl (fun g w_ H hk hg => ?_)
  repeat' (with_reducible first | refine p_tn ?_ | refine wp_block ?_ | refine l_nil ?_)
  refine w_loop (σ := Nat) (S := fun s => [(0, .string t), (6, .pointer (some ⟨g, 0, none⟩))]) (J := fun s w' => Hp w w' [] [] ∧ w'.heap[g]? = some (.stringIter t s) ∧ ((bl t).take s).all hstB = true) (μ := fun s => t.size - s) 0 ⟨rfl, rfl, trivial⟩ ⟨H, hk, by simp⟩ ?_
  clear hk H
  rintro p f w_ ⟨H, hk, ha⟩
  repeat' (with_reducible first | refine wp_seq ?_ | refine w_reg ?_)
  by_cases hp : p < t.size
  · obtain ⟨b, hb, hbb⟩ := dec_byte t p hp
    (with_reducible refine is_l ?_); refine l_nextV H hk hg hp rfl rfl (fun w_ H hk => ?_)
    have hbs : b < 128 := path_small (List.all_eq_true.1 hP b (List.mem_of_getElem? hb))
    obtain ⟨h2, h3⟩ : ((Utf8.decode t p).1 : Int) = b ∧ (Utf8.decode t p).2 = 1 := by
      rcases hbb with h | h
      · exact h.2
      · omega
    rw [h3] at hk
    rw [h2]
    repeat' (first | (with_reducible first | refine p_tn ?_ | refine wp_seq ?_ | refine wp_block ?_ | refine w_reg ?_) | (with_reducible (refine is_if ?_; (refine w_ift rfl ?_))) | (with_reducible first | refine wp_skip ?_ | refine l_nil ?_) | (with_reducible (refine is_l ?_; (refine l_p tys rfl rfl ?_))))
    (with_reducible refine is_l ?_); refine l_callp rfl rfl (by kernel_rfl) (isCapital_c b _) ?_
    cases hc : capB b
    rotate_left
    · skip
      have hn : hostB (bl t) = false := by unfold hostB; rw [not_all (p := fun c => !(capB c || decide (c = 95) || decide (c = 126))) hb (by simp [*])]; rfl
      repeat' (first | (with_reducible first | refine p_tn ?_ | refine p_tr ?_ | refine p_br ?_ | refine wp_seq ?_ | refine w_reg ?_) | (with_reducible (refine is_if ?_; (refine w_ift rfl ?_))) | (with_reducible first | refine wp_ret ?_ | refine l_nil ?_) | (with_reducible (refine is_l ?_; (first | (refine l_off rfl ?_) | (refine l_p tys rfl rfl ?_)))))
      refine end1 rfl rfl ?_
      exact ⟨by rw [hn], H.B⟩
    repeat' (with_reducible (refine is_l ?_; (refine l_p tys rfl rfl ?_)))
    (with_reducible refine is_l ?_); refine l_t tys rfl rfl (fun e1 => ?_) (fun e1 => ?_)
    · skip
      have hn : hostB (bl t) = false := by unfold hostB; rw [not_all (p := fun c => !(capB c || decide (c = 95) || decide (c = 126))) hb (by simp [*])]; rfl
      repeat' (first | (with_reducible first | refine p_tn ?_ | refine p_tr ?_ | refine p_br ?_ | refine wp_seq ?_ | refine w_reg ?_) | (with_reducible (refine is_if ?_; (refine w_ift rfl ?_))) | (with_reducible first | refine wp_ret ?_ | refine l_nil ?_) | (with_reducible (refine is_l ?_; (first | (refine l_off rfl ?_) | (refine l_p tys rfl rfl ?_)))))
      refine end1 rfl rfl ?_
      exact ⟨by rw [hn], H.B⟩
    repeat' (with_reducible (refine is_l ?_; (refine l_p tys rfl rfl ?_)))
    (with_reducible refine is_l ?_); refine l_t tys rfl rfl (fun e2 => ?_) (fun e2 => ?_)
    · skip
      have hn : hostB (bl t) = false := by unfold hostB; rw [not_all (p := fun c => !(capB c || decide (c = 95) || decide (c = 126))) hb (by simp [*])]; rfl
      repeat' (first | (with_reducible first | refine p_tn ?_ | refine p_tr ?_ | refine p_br ?_ | refine wp_seq ?_ | refine w_reg ?_) | (with_reducible (refine is_if ?_; (refine w_ift rfl ?_))) | (with_reducible first | refine wp_ret ?_ | refine l_nil ?_) | (with_reducible (refine is_l ?_; (refine l_p tys rfl rfl ?_))))
      refine end1 rfl rfl ?_
      exact ⟨by rw [hn], H.B⟩
    have hh : hstB b = true := by unfold hstB; rw [hc, decide_eq_false e1, decide_eq_false e2]; rfl
    repeat' (first | (with_reducible first | refine p_tn ?_ | refine p_bn ?_) | (with_reducible (refine is_if ?_; (refine w_iff rfl ?_))) | (with_reducible first | refine wp_skip ?_ | refine l_nil ?_) | (with_reducible (refine is_l ?_; (refine l_p tys rfl rfl ?_))))
    exact ⟨p + 1, _, rfl, ⟨rfl, rfl, trivial⟩, ⟨H, hk, take_all hb hh ha⟩, by omega⟩
  · have hall : (bl t).all hstB = true := by rw [← List.take_of_length_le (l := bl t) (i := p) (by omega)]; exact ha
    have hH : hostB (bl t) = ((bl t).contains 46 && decide ((bl t).head? ≠ some 45)) := by
      unfold hostB
      rw [show ((bl t).all fun c => !(capB c || decide (c = 95) || decide (c = 126))) = true from hall, Bool.true_and]
    have hpos : 0 < t.size := by rw [← hlen]; exact List.length_pos_iff.2 h0
    have hhd : (bl t).head? = some (at_ (bl t) 0) := by
      unfold at_
      cases hb : bl t with
      | nil => exact absurd hb h0
      | cons x r => rfl
    (with_reducible refine is_l ?_); refine l_nextE hk hp rfl rfl ?_
    repeat' (first | (with_reducible first | refine p_tn ?_ | refine p_tx ?_ | refine x_hit ?_ | refine wp_seq ?_ | refine w_reg ?_) | (with_reducible (refine is_if ?_; (refine w_iff rfl ?_))) | (with_reducible first | refine wp_exit ?_ | refine l_nil ?_) | (with_reducible (refine is_l ?_; (refine l_p tys rfl rfl ?_))))
    have hco := fun w1 => contains_c t 46 w1
    rw [show ((46 : UInt8).toNat : Int) = 46 from rfl] at hco
    (with_reducible refine is_l ?_); refine l_callp rfl rfl (by kernel_rfl) (hco _) ?_
    cases hc : (bl t).contains 46
    · repeat' (first | (with_reducible first | refine p_tn ?_ | refine wp_ret ?_ | refine l_nil ?_) | (with_reducible (refine is_l ?_; (first | (refine l_off rfl ?_) | (refine l_p tys rfl rfl ?_)))))
      refine end1 rfl rfl ?_
      exact ⟨by rw [hH, hc]; rfl, H.B⟩
    · repeat' (with_reducible (refine is_l ?_; (first | (refine l_p tys rfl rfl ?_) | (refine l_ix tys rfl rfl (by first | omega | assumption | decide) (by first | omega | assumption | decide) ?_))))
      (with_reducible refine is_l ?_); refine l_t tys rfl rfl (fun e1 => ?_) (fun e1 => ?_)
      · repeat' (first | (with_reducible first | refine p_tn ?_ | refine wp_ret ?_ | refine l_nil ?_) | (with_reducible (refine is_l ?_; (refine l_p tys rfl rfl ?_))))
        refine end1 rfl rfl ?_
        exact ⟨by rw [hH, hc, hhd, decide_eq_true (show some (at_ (bl t) 0) ≠ some 45 from fun e => e1 (Option.some.inj e))]; rfl, H.B⟩
      · repeat' (first | (with_reducible first | refine p_tn ?_ | refine wp_ret ?_ | refine l_nil ?_) | (with_reducible (refine is_l ?_; (refine l_p tys rfl rfl ?_))))
        refine end1 rfl rfl ?_
        exact ⟨by rw [hH, hc, hhd, decide_eq_false (fun h => h (by rw [Classical.not_not.1 e1]))]; rfl, H.B⟩
end Go.Proofs.YtnimaenhijlcmaaGreatDoor.K
end
section
namespace Go.Proofs.YtnimaenhijlcmaaGreatDoor.K
open Go.RowKit Go.Proofs.YtnimaenhijlcmaaGreatDoor.Q Go.Proofs.YtnimaenhijlcmaaGreatDoor.Mb Go.Proofs.YtnimaenhijlcmaaGreatDoorW.PrintWords
set_option linter.unusedVariables false
set_option linter.unusedSimpArgs false
section
variable {P : Program} {n : Nat} {ops : Array Oper} {Q : Exit → Act → World → Prop} {rest : List Oper} {f : Fr} {w : World} {d : Option Nat} {op : Op} {tt : TypeId} {ps : String} {af : Array Edge} {gd : Option (Nat × Bool)}
theorem l_valw {v : Value} {w' : World} (hw : want n ops f ⟨d, op, tt, ps, af, gd⟩ = true) (hv : (execOp (X n f) ⟨d, op, tt, ps, af, gd⟩).run P w = .ok (.value v) w') (h : WL P ops Q rest (act n (put f d v)) w') : WL P ops Q (⟨d, op, tt, ps, af, gd⟩ :: rest) (act n f) w := by
  refine ⟨?_⟩
  have h := h.out
  simp only [wpList, want_eq, hw, if_true]
  left
  unfold Oper.wp
  rw [eval_act, hv]
  simp only [Oper.upon, put_act]
  exact h
end
section
variable {P : Program} {n : Nat} {ops : Array Oper} {Q : Exit → Act → World → Prop} {rest : List Oper} {f : Fr} {w : World} {d : Option Nat} {op : Op} {tt : TypeId} {ps : String} {af : Array Edge} {gd : Option (Nat × Bool)}
theorem l_skip {w' : World} (hw : want n ops f ⟨d, op, tt, ps, af, gd⟩ = true) (hv : (execOp (X n f) ⟨d, op, tt, ps, af, gd⟩).run P w = .ok .skip w') (h : WL P ops Q rest (act n (put f d undef)) w') : WL P ops Q (⟨d, op, tt, ps, af, gd⟩ :: rest) (act n f) w := by
  refine ⟨?_⟩
  have h := h.out
  simp only [wpList, want_eq, hw, if_true]
  left
  unfold Oper.wp
  rw [eval_act, hv]
  simp only [Oper.upon, put_act]
  exact h
end
section
variable {P : Program} {n : Nat} {ops : Array Oper} {Q : Exit → Act → World → Prop} {rest : List Oper} {f : Fr} {w : World} {d : Option Nat} {op : Op} {tt : TypeId} {ps : String} {af : Array Edge} {gd : Option (Nat × Bool)}
theorem run_alloc {t : TypeId} {i : TypeInfo} {z : Value} (hi : P.info? t = some i) (hz : i.zero = some z) : (Instr.alloc t true (.tuple #[])).run P w = .ok (.pointer (some ⟨w.heap.size, 0, none⟩)) (w.alloc (.cells z.cells t)) := by
  simp [Instr.alloc, zeroValue, typeInfo, hi, hz, newVar, newRow, go_sem]
end
section
variable {P : Program} {n : Nat} {ops : Array Oper} {Q : Exit → Act → World → Prop} {rest : List Oper} {f : Fr} {w : World} {d : Option Nat} {op : Op} {tt : TypeId} {ps : String} {af : Array Edge} {gd : Option (Nat × Bool)}
theorem l_alloc {t : TypeId} {i : TypeInfo} {z : Value} (hw : want n ops f ⟨d, .alloc t, tt, ps, af, gd⟩ = true) (hi : P.info? t = some i) (hz : i.zero = some z)
    (h : WL P ops Q rest (act n (put f d (.pointer (some ⟨w.heap.size, 0, none⟩)))) (w.alloc (.cells z.cells t))) : WL P ops Q (⟨d, .alloc t, tt, ps, af, gd⟩ :: rest) (act n f) w := by
  refine l_valw hw ?_ h
  have := run_alloc (P := P) (w := w) hi hz
  unfold execOp
  simp [this]
end
section
variable {P : Program} {n : Nat} {ops : Array Oper} {Q : Exit → Act → World → Prop} {rest : List Oper} {f : Fr} {w : World} {d : Option Nat} {op : Op} {tt : TypeId} {ps : String} {af : Array Edge} {gd : Option (Nat × Bool)}
theorem l_store_new {t : TypeId} {c c' : Array Value} {x y : Operand} (hw : want n ops f ⟨none, .store t x y, tt, ps, af, gd⟩ = true) (hx : X n f x = .pointer (some ⟨w.heap.size, 0, none⟩)) (hy : X n f y = .agg c') (hi : (P.info? t).map (·.size) = some c'.size) (ho : c.size = c'.size) (h1 : c'.all (·.oneCell') = true)
    (h : WL P ops Q rest (act n f) (w.alloc (.cells c' t))) : WL P ops Q (⟨none, .store t x y, tt, ps, af, gd⟩ :: rest) (act n f) (w.alloc (.cells c t)) := by
  refine l_skip hw ?_ h
  have := run_storeAt_new (P := P) w t c c' hi ho h1
  unfold execOp
  simp [hx, hy, this]
end
theorem new_cell (w : World) (t : TypeId) (cs : Array Value) (j : Nat) : (w.alloc (.cells cs t)).cell? ⟨w.heap.size, j, none⟩ = cs[j]? := cell_of_row _ _ _ cs t (0, 0) (heap_alloc_new w _)
def ds8 : List UInt8 := [48, 49, 50, 51, 52, 53, 54, 55, 56, 57]
theorem ds_dig (x : UInt8) : ds8.contains x = digB (x.toNat : Int) := by
  have h : ∀ i : Fin 256, ds8.contains (UInt8.ofNat i.val) = digB (i.val : Int) := by decide +kernel
  have h2 := h ⟨x.toNat, x.toNat_lt⟩
  simpa using h2
def SetB (w : World) (b : Nat) : Prop := ∀ x : UInt8, w.cell? ⟨b, x.toNat, none⟩ = some (.bool (digB (x.toNat : Int)))
theorem inSet_c {w : World} {b : Nat} (h : SetB w b) (c : Int) (h0 : 0 ≤ c) (h1 : c ≤ 255) : Calls Tryz.prog 170 #[.pointer (some ⟨b, 0, none⟩), .int .u8 c] w fun e w' => e = .returned (.bool (digB c)) ∧ w' = w := by
  have e := ofNat_toNat h0 h1
  have := Tryz.asciiSet_contains b (UInt8.ofNat c.toNat) _ w (h _)
  rw [e] at this
  exact this
theorem bare_snoc (u : L) (x : Int) : digBare (u ++ [x]) = if digB x = true then digBare u else u ++ [x] := by
  unfold digBare
  rw [List.reverse_append, List.reverse_cons, List.reverse_nil, List.nil_append, List.singleton_append, List.dropWhile_cons]
  split
  · rfl
  · simp
theorem snoc_of {l : L} {k : Nat} {x : Int} (h : l[k]? = some x) (hk : l.length = k + 1) : l = l.take k ++ [x] := by
  have h2 := List.take_succ_eq_append_getElem (l := l) (i := k) (by omega)
  rw [List.take_of_length_le (by omega)] at h2
  rw [(List.getElem?_eq_some_iff.1 h).2] at h2
  exact h2
set_option maxHeartbeats 4000000 in
theorem trimA_c {w : World} {b : Nat} (h : SetB w b) (t : ByteArray) (ht : t.size ≤ 100000000) : Calls Tryz.prog 161 #[.string t, .pointer (some ⟨b, 0, none⟩)] w fun e w' => e = .returned (.string (strOfNums (digBare (bl t)))) ∧ w' = w := by
  refine enter (args := [.string t, .pointer (some ⟨b, 0, none⟩)]) Tryz.func161 rfl Tryz.ntmps161 rfl ?_
  repeat' (first | (with_reducible first | refine p_tn ?_ | refine wp_seq ?_ | refine wp_block ?_ | refine w_reg ?_ | refine l_nil ?_) | (with_reducible (refine is_l ?_; (refine l_p tys rfl rfl ?_))))
  refine w_loop (σ := ByteArray) (S := fun v => [(0, .string v), (1, .pointer (some ⟨b, 0, none⟩))]) (J := fun v w' => w' = w ∧ digBare (bl t) = digBare (bl v) ∧ v.size ≤ t.size) (μ := fun v => v.size) t ⟨rfl, rfl, trivial⟩ ⟨rfl, rfl, Nat.le_refl _⟩ ?_
  rintro v f w1 ⟨rfl, hv, hvt⟩
  have hvl := bl_length v
  repeat' (first | (with_reducible first | refine wp_seq ?_ | refine w_reg ?_) | (with_reducible (refine is_l ?_; (refine l_p tys rfl rfl ?_))))
  (with_reducible refine is_l ?_); refine l_t tys rfl rfl (fun hgt => ?_) (fun hle => ?_)
  · obtain ⟨k, hk⟩ : ∃ k, v.size = k + 1 := ⟨v.size - 1, by omega⟩
    obtain ⟨x, hx⟩ : ∃ x, (bl v)[k]? = some x := ⟨_, List.getElem?_eq_getElem (by omega)⟩
    have hx2 := bl_bytes v x (List.mem_of_getElem? hx)
    have hs := snoc_of hx (by omega)
    have hat : at_ (bl v) ((v.size : Int) - 1) = x := by unfold at_; rw [show ((v.size : Int) - 1).toNat = k by omega, List.getD_eq_getElem?_getD, hx]; rfl
    repeat' (first | (with_reducible first | refine p_tn ?_ | refine wp_seq ?_ | refine wp_block ?_ | refine w_reg ?_) | (with_reducible (refine is_if ?_; (refine w_ift rfl ?_))) | (with_reducible first | refine wp_skip ?_ | refine l_nil ?_) | (with_reducible (refine is_l ?_; (first | (refine l_p tys rfl rfl ?_) | (refine l_a tys rfl rfl (by first | exact in_i64 (by omega) (by omega) | exact in_u8 (by omega) (by omega) | exact in_u64 (by omega) (by omega) | exact in_i32 (by omega) (by omega)) ?_) | (refine l_ix tys rfl rfl (by first | omega | assumption | decide) (by first | omega | assumption | decide) ?_)))))
    rw [hat]
    (with_reducible refine is_l ?_); refine l_callp rfl rfl (by kernel_rfl) (inSet_c h x hx2.1 hx2.2) ?_
    cases hd : digB x
    · have hb : digBare (bl t) = bl v := by
        rw [hv, hs, bare_snoc, hd, if_neg (by simp)]
      repeat' (first | (with_reducible first | refine p_tn ?_ | refine p_tx ?_ | refine x_hit ?_ | refine x_miss rfl ?_ | refine wp_seq ?_ | refine w_reg ?_) | (with_reducible (refine is_if ?_; (refine w_ift rfl ?_))) | (with_reducible first | refine wp_exit ?_ | refine wp_ret ?_ | refine l_nil ?_) | (with_reducible (refine is_l ?_; (refine l_p tys rfl rfl ?_))))
      refine end1 rfl rfl ?_
      exact ⟨by rw [hb, strS], rfl⟩
    · have hto : ((v.size : Int) - 1).toNat = k := by omega
      have hb : bl (v.extract 0 k) = (bl v).take k := by rw [blE]; simp
      repeat' (first | (with_reducible first | refine p_tn ?_ | refine p_bn ?_ | refine w_reg ?_) | (with_reducible (refine is_if ?_; (refine w_iff rfl ?_))) | (with_reducible first | refine wp_skip ?_ | refine l_nil ?_) | (with_reducible (refine is_l ?_; (first | (refine l_p tys rfl rfl ?_) | (refine l_a tys rfl rfl (by first | exact in_i64 (by omega) (by omega) | exact in_u8 (by omega) (by omega) | exact in_u64 (by omega) (by omega) | exact in_i32 (by omega) (by omega)) ?_) | (refine l_sl tys rfl rfl (by first | omega | assumption | decide) (by first | omega | assumption | decide) (by first | omega | assumption | decide) ?_)))))
      refine ⟨v.extract 0 k, _, rfl, ⟨by show Value.string (v.extract _ _) = _; rw [hto]; rfl, rfl, trivial⟩, ⟨rfl, ?_, by rw [← bl_length, hb, List.length_take]; omega⟩, ?_⟩
      · rw [hv, hb]
        conv => lhs; rw [hs]
        rw [bare_snoc, hd, if_pos rfl]
      · rw [← bl_length, hb, List.length_take]; omega
  · have h0 : bl v = [] := List.eq_nil_of_length_eq_zero (by omega)
    have hb : digBare (bl t) = bl v := by rw [hv, h0]; rfl
    repeat' (first | (with_reducible first | refine p_tn ?_ | refine p_tx ?_ | refine x_hit ?_ | refine wp_seq ?_ | refine w_reg ?_) | (with_reducible (refine is_if ?_; (refine w_iff rfl ?_))) | (with_reducible first | refine wp_exit ?_ | refine wp_ret ?_ | refine l_nil ?_) | (with_reducible (refine is_l ?_; (refine l_p tys rfl rfl ?_))))
    refine end1 rfl rfl ?_
    exact ⟨by rw [hb, strS], rfl⟩
theorem info_setA : (Tryz.prog.info? 161).map (fun i => (i.zero, i.size)) = some (some (.agg (Array.replicate 256 (.bool false))), 256) := by kernel_rfl
theorem zero_set (w : World) : (zeroValue 161).run Tryz.prog w = .ok (.agg (Array.replicate 256 (.bool false))) w := by
  obtain ⟨i0, hi, hz⟩ := Option.map_eq_some_iff.1 info_setA
  simp only [Prod.mk.injEq] at hz
  simp [zeroValue, typeInfo, hi, hz.1, go_sem]
set_option maxRecDepth 100000 in
set_option maxHeartbeats 4000000 in
theorem trimDig_c (t : ByteArray) (w : World) (ht : t.size ≤ 100000000) : Calls Tryz.prog 141 #[.string t, .string ⟨#[48, 49, 50, 51, 52, 53, 54, 55, 56, 57]⟩] w fun e w' => e = .returned (.string (strOfNums (digBare (bl t)))) ∧ Below w.heap.size w w' := by
  obtain ⟨i0, hi, hz⟩ := Option.map_eq_some_iff.1 info_setA
  simp only [Prod.mk.injEq] at hz
  refine enter (args := [.string t, .string ⟨#[48, 49, 50, 51, 52, 53, 54, 55, 56, 57]⟩]) Tryz.func141 rfl Tryz.ntmps141 rfl ?_
  repeat' (first | (with_reducible first | refine p_tn ?_ | refine wp_seq ?_ | refine w_reg ?_ | refine l_nil ?_) | (with_reducible (refine is_l ?_; (refine l_p tys rfl rfl ?_))))
  (with_reducible refine is_l ?_); refine l_t tys rfl rfl (fun h1 => ?_) (fun h1 => ?_)
  · have h1 : bl t = [] := h1
    repeat' (first | (with_reducible first | refine p_tn ?_ | refine p_tr ?_ | refine wp_seq ?_ | refine w_reg ?_) | (with_reducible (refine is_if ?_; (refine w_ift rfl ?_))) | (with_reducible first | refine wp_ret ?_ | refine l_nil ?_) | (with_reducible (refine is_l ?_; (first | (refine l_off rfl ?_) | (refine l_p tys rfl rfl ?_)))))
    refine end1 rfl rfl ?_
    refine ⟨?_, Below.refl _ w⟩
    rw [h1]
    congr 2
    exact bl_inj (by rw [h1]; rfl)
  repeat' (with_reducible (refine is_l ?_; (refine l_p tys rfl rfl ?_)))
  (with_reducible refine is_l ?_); refine l_t tys rfl rfl (fun h2 => absurd h2 (by decide)) (fun h2 => ?_)
  repeat' (first | (with_reducible first | refine p_tn ?_ | refine wp_seq ?_ | refine w_reg ?_) | (with_reducible (refine is_if ?_; (refine w_iff rfl ?_))) | (with_reducible first | refine wp_skip ?_ | refine l_nil ?_) | (with_reducible (refine is_l ?_; (refine l_p tys rfl rfl ?_))))
  (with_reducible refine is_l ?_); refine l_t tys rfl rfl (fun h3 => absurd h3 (by decide)) (fun h3 => ?_)
  repeat' (first | (with_reducible first | refine p_tn ?_ | refine wp_seq ?_ | refine w_reg ?_) | (with_reducible (refine is_if ?_; (refine w_iff rfl ?_))) | (with_reducible first | refine wp_skip ?_ | refine l_nil ?_) | (with_reducible (refine is_l ?_; (first | (refine l_off rfl ?_) | (refine l_p tys rfl rfl ?_)))))
  have hset := Tryz.strings_makeASCIISet zero_set ⟨#[48, 49, 50, 51, 52, 53, 54, 55, 56, 57]⟩ w (by decide) (fun j b h => (show ∀ x ∈ ds8, x.toNat < 128 by decide) b (List.mem_of_getElem? h))
  (with_reducible refine is_l ?_); refine l_call rfl rfl (by kernel_rfl) hset (fun e w_ hR => ?_)
  obtain ⟨rfl, rfl⟩ := hR
  refine ⟨_, rfl, ?_⟩
  have K1 : Below w.heap.size w (w.alloc (.cells (Lib.setCells ds8) 161)) := (Below.refl _ w).alloc (Nat.le_refl _) _
  have hsc : (⟨#[48, 49, 50, 51, 52, 53, 54, 55, 56, 57]⟩ : ByteArray).data.toList = ds8 := rfl
  rw [hsc]
  generalize hC : Lib.setCells ds8 = C at K1 ⊢
  have hCs : C.size = 256 := by rw [← hC]; decide +kernel
  have hC1 : C.all (·.oneCell') = true := by rw [← hC]; decide +kernel
  generalize w.alloc (.cells C 161) = w1 at K1 ⊢
  repeat' (with_reducible (refine is_l ?_; (refine l_p tys rfl rfl ?_)))
  (with_reducible refine is_l ?_); refine l_alloc rfl hi hz.1 ?_
  (with_reducible refine is_l ?_); refine l_store_new (c' := C) rfl rfl rfl (by rw [hi, hCs]; simp [hz.2]) (by rw [hCs]; simp [Value.cells]) hC1 ?_
  have K2 : Below w.heap.size w (w1.alloc (.cells C 161)) := Bt K1 ((Below.refl _ w1).alloc (Nat.le_refl _) _)
  have hS : SetB (w1.alloc (.cells C 161)) w1.heap.size := fun x => by
    rw [new_cell, ← hC, Lib.setCells_at, ds_dig]
  repeat' (first | (with_reducible first | refine p_tn ?_ | refine wp_seq ?_ | refine w_reg ?_) | (with_reducible (refine is_if ?_; (refine w_ift rfl ?_))) | (with_reducible refine l_nil ?_) | (with_reducible (refine is_l ?_; (refine l_p tys rfl rfl ?_))))
  (with_reducible refine is_l ?_); refine l_callp rfl rfl (by kernel_rfl) (trimA_c hS t ht) ?_
  repeat' (first | (with_reducible first | refine p_tn ?_ | refine p_tr ?_ | refine wp_ret ?_ | refine l_nil ?_) | (with_reducible (refine is_l ?_; (refine l_p tys rfl rfl ?_))))
  refine end1 rfl rfl ?_
  exact ⟨rfl, K2⟩
end Go.Proofs.YtnimaenhijlcmaaGreatDoor.K
end
section
namespace Go.Proofs.YtnimaenhijlcmaaGreatDoor.K
open Go.RowKit Go.Proofs.YtnimaenhijlcmaaGreatDoor.Q Go.Proofs.YtnimaenhijlcmaaGreatDoor.Mb Go.Proofs.YtnimaenhijlcmaaGreatDoorW.PrintWords
set_option linter.unusedVariables false
set_option linter.unusedSimpArgs false
theorem low_byte (x : UInt8) : ((Lib.lowerB x).toNat : Int) = lowB (x.toNat : Int) := by
  have h : ∀ i : Fin 256, ((Lib.lowerB (UInt8.ofNat i.val)).toNat : Int) = lowB (i.val : Int) := by decide +kernel
  have h2 := h ⟨x.toNat, x.toNat_lt⟩
  simpa using h2
theorem low_text (s : ByteArray) : (⟨(Lib.toLowerA s.data.toList).toArray⟩ : ByteArray) = strOfNums (lowS (bl s)) := by
  have hb : bl (⟨(Lib.toLowerA s.data.toList).toArray⟩ : ByteArray) = lowS (bl s) := by
    unfold bl Lib.toLowerA lowS
    simp only [List.toList_toArray, List.map_map]
    exact List.map_congr_left fun x _ => low_byte x
  rw [← hb, strS]
theorem toLower_c (t : ByteArray) (w : World) (ht : t.size ≤ 100000000) (ha : ∀ x ∈ bl t, x < 128) : Calls Tryz.prog 140 #[.string t] w fun e w' => e = .returned (.string (strOfNums (lowS (bl t)))) ∧ Below w.heap.size w w' := by
  refine (Tryz.strings_ToLower_ascii t w (by omega) (fun j b h => ?_)).mono fun e w' ⟨h1, h2⟩ => ⟨by rw [h1, low_text], h2⟩
  have := ha (b.toNat : Int) (List.mem_map_of_mem (List.mem_of_getElem? h))
  omega
theorem suf_one (s : ByteArray) (c : UInt8) (w : World) (hs : s.size ≤ 100000000) : Calls Tryz.prog 55 #[.string s, .string ⟨#[c]⟩] w fun e w' => e = .returned (.bool (decide ((bl s).getLast? = some (c.toNat : Int)))) ∧ w' = w := by
  refine (Tryz.strings_HasSuffix s ⟨#[c]⟩ w (by omega)).mono fun e w' ⟨h1, h2⟩ => ⟨?_, h2⟩
  rw [h1]
  congr 2
  unfold Lib.hasSuffix bl
  have hd : (⟨#[c]⟩ : ByteArray).data.toList = [c] := rfl
  rw [hd]
  rcases List.eq_nil_or_concat s.data.toList with h | ⟨u, x, h⟩
  · rw [h]; rfl
  · rw [h, List.concat_eq_append, List.map_append, List.map_cons, List.map_nil, List.getLast?_append]
    simp only [List.getLast?_singleton, Option.or_some, Option.some.injEq]
    have h3 : [c].isSuffixOf (u ++ [x]) = (c == x) := by
      unfold List.isSuffixOf
      rw [List.reverse_append]
      simp [List.isPrefixOf]
    rw [h3]
    by_cases h4 : c = x
    · subst h4; simp
    · have h5 : ¬ (x.toNat : Int) = (c.toNat : Int) := fun e => h4 (UInt8.toNat_inj.1 (by omega))
      have h6 : (c == x) = false := beq_eq_false_iff_ne.2 h4
      rw [h6]
      exact (decide_eq_false (by simpa using h5)).symm
def deB : List ByteArray := devices.map strOfNums
def deC : Array Value := (deB.map Value.string).toArray
theorem de_at : ∀ k, k < 22 → deC[k]? = some (.string (deB.getD k ⟨#[]⟩)) ∧ devices.drop k = bl (deB.getD k ⟨#[]⟩) :: devices.drop (k + 1)
  | 0, _ => ⟨rfl, rfl⟩
  | 1, _ => ⟨rfl, rfl⟩
  | 2, _ => ⟨rfl, rfl⟩
  | 3, _ => ⟨rfl, rfl⟩
  | 4, _ => ⟨rfl, rfl⟩
  | 5, _ => ⟨rfl, rfl⟩
  | 6, _ => ⟨rfl, rfl⟩
  | 7, _ => ⟨rfl, rfl⟩
  | 8, _ => ⟨rfl, rfl⟩
  | 9, _ => ⟨rfl, rfl⟩
  | 10, _ => ⟨rfl, rfl⟩
  | 11, _ => ⟨rfl, rfl⟩
  | 12, _ => ⟨rfl, rfl⟩
  | 13, _ => ⟨rfl, rfl⟩
  | 14, _ => ⟨rfl, rfl⟩
  | 15, _ => ⟨rfl, rfl⟩
  | 16, _ => ⟨rfl, rfl⟩
  | 17, _ => ⟨rfl, rfl⟩
  | 18, _ => ⟨rfl, rfl⟩
  | 19, _ => ⟨rfl, rfl⟩
  | 20, _ => ⟨rfl, rfl⟩
  | 21, _ => ⟨rfl, rfl⟩
  | k + 22, h => absurd h (by omega)
theorem info_deA : (Tryz.prog.info? 138).map (·.size) = some deC.size := by kernel_rfl
theorem bare_tail (s : L) : digBare s ++ digTail s = s := by
  unfold digBare digTail
  rw [← List.reverse_append, List.takeWhile_append_dropWhile, List.reverse_reverse]
theorem tail_nil (s : L) : digTail s = [] ↔ digBare s = s := by
  have h := bare_tail s
  constructor
  · intro e; rw [e, List.append_nil] at h; exact h
  · intro e; rw [e] at h; simpa using h
theorem last_at {l : L} (h : l ≠ []) : l.getLast? = some (at_ l ((l.length : Int) - 1)) := by
  have hp := List.length_pos_iff.2 h
  unfold at_
  rw [List.getLast?_eq_getElem?, show ((l.length : Int) - 1).toNat = l.length - 1 by omega, List.getD_eq_getElem?_getD, List.getElem?_eq_getElem (by omega)]
  rfl
theorem head_at {l : L} (h : l ≠ []) : l.head? = some (at_ l 0) := by
  unfold at_
  cases l with
  | nil => exact absurd rfl h
  | cons x r => rfl
theorem ahead_sub (c : Int) (s : L) : (∀ y ∈ aheadC c s, y ∈ s) ∧ (aheadC c s).length ≤ s.length := by
  unfold aheadC
  cases h : cutC c s with
  | none => exact ⟨fun y hy => hy, Nat.le_refl _⟩
  | some p =>
    obtain ⟨a, b⟩ := p
    have h2 := (cutC_some h).1
    refine ⟨fun y hy => by rw [h2]; exact List.mem_append_left _ hy, by rw [h2]; simp⟩
set_option maxRecDepth 100000 in
set_option maxHeartbeats 8000000 in
theorem isElement_c {w : World} {mx : Int} (hM : w.cell? ⟨0, 0, none⟩ = some (.int .i64 mx)) {t2 : TypeId} {fr : Nat × Nat} (hD : w.heap[2]? = some (.cells deC t2 fr)) (t : ByteArray) (ht : t.size ≤ 100000000) (hP : (bl t).all pathB = true) :
    Calls Tryz.prog 108 #[.string t] w fun e w' => e = .returned (.bool (elemB (bl t))) ∧ Below w.heap.size w w' := by
  have hDb : ∀ w1, Below w.heap.size w w1 → w1.heap[2]? = some (.cells deC t2 fr) := fun w1 K => (K.block _ (blk_lt hD)).trans hD
  obtain ⟨i0, hi0, hs0⟩ := Option.map_eq_some_iff.1 info_str1
  have hlen := bl_length t
  have hbt := bl_bytes t
  refine enter (args := [.string t]) Tryz.func108 rfl Tryz.ntmps108 rfl ?_
  have H := Hp.nil w
  repeat' (first | (with_reducible first | refine p_tn ?_ | refine wp_seq ?_ | refine w_reg ?_ | refine l_nil ?_) | (with_reducible (refine is_l ?_; (refine l_p tys rfl rfl ?_))))
  (with_reducible refine is_l ?_); refine l_t tys rfl rfl (fun h1 => ?_) (fun h1 => ?_)
  · have h1 : bl t = [] := h1
    have hn : elemB (bl t) = false := by rw [h1]; rfl
    repeat' (first | (with_reducible first | refine p_tn ?_ | refine p_tr ?_ | refine wp_seq ?_ | refine w_reg ?_) | (with_reducible (refine is_if ?_; (refine w_ift rfl ?_))) | (with_reducible first | refine wp_ret ?_ | refine l_nil ?_) | (with_reducible (refine is_l ?_; (first | (refine l_off rfl ?_) | (refine l_p tys rfl rfl ?_)))))
    refine end1 rfl rfl ?_
    exact ⟨by rw [hn], H.B⟩
  have h1 : bl t ≠ [] := h1
  have hpos : 0 < t.size := by rw [← hlen]; exact List.length_pos_iff.2 h1
  have hhd := head_at h1
  have hlast := last_at h1
  rw [hlen] at hlast
  repeat' (with_reducible (refine is_l ?_; (first | (refine l_p tys rfl rfl ?_) | (refine l_ix tys rfl rfl (by first | omega | assumption | decide) (by first | omega | assumption | decide) ?_))))
  (with_reducible refine is_l ?_); refine l_t tys rfl rfl (fun h2 => ?_) (fun h2 => ?_)
  · have hn : elemB (bl t) = false := by unfold elemB; rw [hhd, h2]; simp
    repeat' (first | (with_reducible first | refine p_tn ?_ | refine p_tr ?_ | refine wp_seq ?_ | refine w_reg ?_) | (with_reducible (refine is_if ?_; (refine w_ift rfl ?_))) | (with_reducible first | refine wp_ret ?_ | refine l_nil ?_) | (with_reducible (refine is_l ?_; (first | (refine l_off rfl ?_) | (refine l_p tys rfl rfl ?_)))))
    refine end1 rfl rfl ?_
    exact ⟨by rw [hn], H.B⟩
  repeat' (with_reducible (refine is_l ?_; (first | (refine l_p tys rfl rfl ?_) | (refine l_a tys rfl rfl (by first | exact in_i64 (by omega) (by omega) | exact in_u8 (by omega) (by omega) | exact in_u64 (by omega) (by omega) | exact in_i32 (by omega) (by omega)) ?_) | (refine l_ix tys rfl rfl (by first | omega | assumption | decide) (by first | omega | assumption | decide) ?_))))
  (with_reducible refine is_l ?_); refine l_t tys rfl rfl (fun h3 => ?_) (fun h3 => ?_)
  · have hn : elemB (bl t) = false := by unfold elemB; rw [hlast, h3]; simp
    repeat' (first | (with_reducible first | refine p_tn ?_ | refine p_tr ?_ | refine wp_seq ?_ | refine w_reg ?_) | (with_reducible (refine is_if ?_; (refine w_ift rfl ?_))) | (with_reducible first | refine wp_ret ?_ | refine l_nil ?_) | (with_reducible (refine is_l ?_; (refine l_p tys rfl rfl ?_))))
    refine end1 rfl rfl ?_
    exact ⟨by rw [hn], H.B⟩
  have hE : elemB (bl t) = (!(devices.contains (lowS (aheadC 46 (bl t)))) && (decide (digTail (aheadC 46 (bl t)) = []) || decide ((digBare (aheadC 46 (bl t))).getLast? ≠ some 126))) := by
    unfold elemB
    rw [hhd, hlast, decide_eq_true (show some (at_ (bl t) 0) ≠ some 46 from fun e => h2 (Option.some.inj e)), decide_eq_true (show some (at_ (bl t) ((t.size : Int) - 1)) ≠ some 46 from fun e => h3 (Option.some.inj e))]
    have : (bl t).isEmpty = false := by cases hb : bl t with | nil => exact absurd hb h1 | cons x r => rfl
    rw [this]
    simp
  obtain ⟨sm1, sm2⟩ := ahead_sub 46 (bl t)
  repeat' (first | (with_reducible first | refine p_tn ?_ | refine wp_seq ?_ | refine w_reg ?_) | (with_reducible (refine is_if ?_; (refine w_iff rfl ?_))) | (with_reducible first | refine wp_skip ?_ | refine l_nil ?_) | (with_reducible (refine is_l ?_; (refine l_p tys rfl rfl ?_))))
  have hcu := cutb_c t 46 (by omega) w mx hM
  rw [show ((46 : UInt8).toNat : Int) = 46 from rfl] at hcu
  (with_reducible refine is_l ?_); refine l_callv rfl rfl (by kernel_rfl) hcu (fun w_ K => ?_)
  have H := H.call K
  generalize aheadC 46 (bl t) = s at hE sm1 sm2 ⊢
  have bs : Bytes s := fun y hy => hbt y (sm1 y hy)
  have zs := sizeS' bs
  repeat' (first | (with_reducible first | refine p_tn ?_ | refine wp_seq ?_ | refine w_reg ?_ | refine l_nil ?_) | (with_reducible (refine is_l ?_; (refine l_p tys rfl rfl ?_))))
  have hlo := toLower_c (strOfNums s) w_ (by omega) (by rw [blS bs]; exact fun x hx => path_small (List.all_eq_true.1 hP x (sm1 x hx)))
  rw [blS bs] at hlo
  (with_reducible refine is_l ?_); refine l_callv rfl rfl (by kernel_rfl) hlo (fun w_ K => ?_)
  have H := H.call K
  have bls : Bytes (lowS s) := fun y hy => by
    obtain ⟨x, hx, rfl⟩ := List.mem_map.1 hy
    have := bs x hx
    unfold lowB
    split <;> omega
  have eL := blS bls
  repeat' (first | (with_reducible first | refine p_tn ?_ | refine wp_seq ?_ | refine w_reg ?_ | refine l_nil ?_) | (with_reducible (refine is_l ?_; (refine l_p tys rfl rfl ?_))))
  (with_reducible refine is_l ?_); refine l_load_row rfl rfl (hDb _ H.B) Tryz.underlying138 info_deA ?_
  repeat' (first | (with_reducible first | refine p_tn ?_ | refine wp_block ?_ | refine l_nil ?_) | (with_reducible (refine is_l ?_; (refine l_p tys rfl rfl ?_))))
  refine w_loop (σ := Nat) (S := fun k => [(3, .string (strOfNums s)), (6, .string (strOfNums (lowS s))), (33, .agg deC), (34, .int .i64 (k : Int))]) (J := fun k w' => Hp w w' [] [] ∧ k ≤ 22 ∧ devices.contains (lowS s) = (devices.drop k).contains (lowS s)) (μ := fun k => 22 - k) 0 ⟨rfl, rfl, rfl, rfl, trivial⟩ ⟨H, by omega, rfl⟩ ?_
  clear H
  rintro k f w_ ⟨H, hk, hl⟩
  repeat' (with_reducible first | refine wp_seq ?_ | refine w_reg ?_)
  (with_reducible refine is_l ?_); refine l_t tys rfl rfl (fun hlt => ?_) (fun hge => ?_)
  · have hk' : k < 22 := by omega
    obtain ⟨q1, q2⟩ := de_at k hk'
    rw [q2, List.contains_cons] at hl
    repeat' (first | (with_reducible first | refine p_tn ?_ | refine wp_seq ?_ | refine wp_block ?_ | refine w_reg ?_) | (with_reducible (refine is_if ?_; (refine w_ift rfl ?_))) | (with_reducible first | refine wp_skip ?_ | refine l_nil ?_))
    (with_reducible refine is_l ?_); refine l_idx_text rfl rfl rfl Tryz.underlying138 Tryz.underlying9 hi0 hs0 hk' q1 ?_
    repeat' (first | (with_reducible first | refine p_tn ?_ | refine wp_seq ?_ | refine w_reg ?_ | refine l_nil ?_) | (with_reducible (refine is_l ?_; (refine l_p tys rfl rfl ?_))))
    (with_reducible refine is_l ?_); refine l_t tys rfl rfl (fun hh => ?_) (fun hnn => ?_)
    · have hn : elemB (bl t) = false := by rw [hE, hl, ← hh, eL]; simp
      repeat' (first | (with_reducible first | refine p_tn ?_ | refine p_tr ?_ | refine p_br ?_ | refine wp_seq ?_ | refine w_reg ?_) | (with_reducible (refine is_if ?_; (refine w_ift rfl ?_))) | (with_reducible first | refine wp_ret ?_ | refine l_nil ?_) | (with_reducible (refine is_l ?_; (refine l_p tys rfl rfl ?_))))
      refine end1 rfl rfl ?_
      exact ⟨by rw [hn], H.B⟩
    · rw [eL] at hnn
      repeat' (first | (with_reducible first | refine p_tn ?_ | refine p_bn ?_ | refine w_reg ?_) | (with_reducible (refine is_if ?_; (refine w_iff rfl ?_))) | (with_reducible first | refine wp_skip ?_ | refine l_nil ?_) | (with_reducible (refine is_l ?_; (first | (refine l_p tys rfl rfl ?_) | (refine l_a tys rfl rfl (by first | exact in_i64 (by omega) (by omega) | exact in_u8 (by omega) (by omega) | exact in_u64 (by omega) (by omega) | exact in_i32 (by omega) (by omega)) ?_)))))
      exact ⟨k + 1, _, rfl, ⟨rfl, rfl, rfl, rfl, trivial⟩, ⟨H, by omega, by rw [hl, beq_eq_false_iff_ne.2 hnn]; simp⟩, by omega⟩
  · have hnil : devices.drop k = [] := List.drop_eq_nil_of_le (by show 22 ≤ k; omega)
    rw [hnil] at hl
    rw [hl] at hE
    repeat' (first | (with_reducible first | refine p_tn ?_ | refine p_tx ?_ | refine x_hit ?_ | refine wp_seq ?_ | refine w_reg ?_) | (with_reducible (refine is_if ?_; (refine w_iff rfl ?_))) | (with_reducible first | refine wp_exit ?_ | refine l_nil ?_) | (with_reducible (refine is_l ?_; (refine l_p tys rfl rfl ?_))))
    have htr := trimDig_c (strOfNums s) w_ (by omega)
    rw [blS bs] at htr
    (with_reducible refine is_l ?_); refine l_callv rfl rfl (by kernel_rfl) htr (fun w_ K => ?_)
    have H := H.call K
    have bd : Bytes (digBare s) := fun y hy => bs y (by rw [← bare_tail s]; exact List.mem_append_left _ hy)
    have zd := sizeS' bd
    have hdl : (digBare s).length ≤ s.length := by
      have := congrArg List.length (bare_tail s)
      rw [List.length_append] at this
      omega
    repeat' (first | (with_reducible first | refine p_tn ?_ | refine wp_seq ?_ | refine w_reg ?_ | refine l_nil ?_) | (with_reducible (refine is_l ?_; (refine l_p tys rfl rfl ?_))))
    (with_reducible refine is_l ?_); refine l_t tys rfl rfl (fun e1 => ?_) (fun e1 => ?_)
    · rw [blS bs, blS bd] at e1
      have hn : elemB (bl t) = true := by rw [hE, decide_eq_true ((tail_nil s).2 e1)]; simp
      repeat' (first | (with_reducible first | refine p_tn ?_ | refine wp_ret ?_ | refine l_nil ?_) | (with_reducible (refine is_l ?_; (first | (refine l_off rfl ?_) | (refine l_p tys rfl rfl ?_)))))
      refine end1 rfl rfl ?_
      exact ⟨by rw [hn], H.B⟩
    · rw [blS bs, blS bd] at e1
      have hsu := fun w1 => suf_one (strOfNums (digBare s)) 126 w1 (by omega)
      rw [blS bd, show ((126 : UInt8).toNat : Int) = 126 from rfl] at hsu
      repeat' (with_reducible (refine is_l ?_; (refine l_p tys rfl rfl ?_)))
      by_cases hg : (digBare s).getLast? = some 126
      · rw [decide_eq_true hg] at hsu
        have hn : elemB (bl t) = false := by rw [hE, decide_eq_false (fun e => e1 ((tail_nil s).1 e)), hg]; simp
        (with_reducible refine is_l ?_); refine l_callp rfl rfl (by kernel_rfl) (hsu _) ?_
        repeat' (first | (with_reducible first | refine p_tn ?_ | refine wp_ret ?_ | refine l_nil ?_) | (with_reducible (refine is_l ?_; (refine l_p tys rfl rfl ?_))))
        refine end1 rfl rfl ?_
        exact ⟨by rw [hn]; rfl, H.B⟩
      · rw [decide_eq_false hg] at hsu
        have hn : elemB (bl t) = true := by rw [hE, decide_eq_true (show (digBare s).getLast? ≠ some 126 from hg)]; simp
        (with_reducible refine is_l ?_); refine l_callp rfl rfl (by kernel_rfl) (hsu _) ?_
        repeat' (first | (with_reducible first | refine p_tn ?_ | refine wp_ret ?_ | refine l_nil ?_) | (with_reducible (refine is_l ?_; (refine l_p tys rfl rfl ?_))))
        refine end1 rfl rfl ?_
        exact ⟨by rw [hn]; rfl, H.B⟩
end Go.Proofs.YtnimaenhijlcmaaGreatDoor.K
end
section
namespace Go.Proofs.YtnimaenhijlcmaaGreatDoor.K
open Go.RowKit Go.Proofs.YtnimaenhijlcmaaGreatDoor.Q Go.Proofs.YtnimaenhijlcmaaGreatDoor.Mb Go.Proofs.YtnimaenhijlcmaaGreatDoorW.PrintWords
set_option linter.unusedVariables false
set_option linter.unusedSimpArgs false
theorem trimSuf_c (t p : ByteArray) (w : World) (ht : t.size ≤ 100000000) : Calls Tryz.prog 84 #[.string t, .string p] w fun e w' => e = .returned (.string (strOfNums ((endCut (bl t) (bl p)).getD (bl t)))) ∧ w' = w := by
  refine (Tryz.strings_TrimSuffix t p w (by omega)).mono fun e w' ⟨h1, h2⟩ => ⟨?_, h2⟩
  rw [h1]
  have hs := suf_cut t.data.toList p.data.toList
  have hs : endCut (bl t) (bl p) = _ := hs
  rw [hs]
  unfold Lib.trimSuffix Lib.hasSuffix
  by_cases h : p.data.toList.isSuffixOf t.data.toList = true
  · rw [if_pos h, if_pos h]
    have : strOfNums ((t.data.toList.take (t.data.toList.length - p.data.toList.length)).map fun b => (b.toNat : Int)) = ⟨(t.data.toList.take (t.data.toList.length - p.data.toList.length)).toArray⟩ := by
      refine bl_inj ?_
      rw [blS (fun x hx => by obtain ⟨b, _, rfl⟩ := List.mem_map.1 hx; have := b.toNat_lt; omega)]
      rfl
    simp only [Option.getD_some]
    rw [this]
  · rw [if_neg h, if_neg h]
    simp only [Option.getD_none]
    rw [strS]
theorem hasSuf_c (s p : ByteArray) (w : World) (hs : s.size ≤ 100000000) : Calls Tryz.prog 55 #[.string s, .string p] w fun e w' => e = .returned (.bool (endCut (bl s) (bl p)).isSome) ∧ w' = w := by
  refine (Tryz.strings_HasSuffix s p w (by omega)).mono fun e w' ⟨h1, h2⟩ => ⟨?_, h2⟩
  rw [h1]
  have hs := suf_cut s.data.toList p.data.toList
  have hs : endCut (bl s) (bl p) = _ := hs
  rw [hs]
  unfold Lib.hasSuffix
  by_cases h : p.data.toList.isSuffixOf s.data.toList = true
  · rw [if_pos h, h]; rfl
  · rw [if_neg h, Bool.eq_false_iff.2 h]; rfl
theorem cut_two (b : L) : (endCut b [46, 118]).isSome = decide (b.drop (b.length - 2) = [46, 118]) := by
  unfold endCut
  have hl : ([46, 118] : L).length = 2 := rfl
  rw [hl]
  by_cases h : b.drop (b.length - 2) = [46, 118]
  · have h2 : 2 ≤ b.length := by
      have := congrArg List.length h
      rw [List.length_drop, hl] at this
      omega
    rw [if_pos ⟨h2, h⟩, decide_eq_true h]; rfl
  · rw [if_neg (fun e => h e.2), decide_eq_false h]; rfl
def vdB (c : Int) : Bool := digB c || decide (c = 46)
def majL (n : Nat) (z : L) : L × Bool :=
  if n = 1 ∨ z.length < 2 ∨ z.head? ≠ some 118 ∨ (z.tail.all vdB) = false then ([], true)
  else (z.tail, numB z.tail && decide (z.tail ≠ [48]) && decide (z.tail ≠ [49]))
def majG (z : L) : L × Bool := (digTail z, decide ((digBare z).drop ((digBare z).length - 2) = [46, 118]) && numB (digTail z))
theorem majE_eq (x : L) (r : List L) (z : L) (hz : (x :: r).getLastD [] = z) : majorE (x :: r) = if x = gopkg then majG ((endCut z unstable).getD z) else majL (x :: r).length z := by
  unfold majorE majG majL
  rw [hz]
  rfl
set_option maxRecDepth 100000 in
set_option maxHeartbeats 8000000 in
theorem majorOf_c {w : World} {mx : Int} (hM : w.cell? ⟨0, 0, none⟩ = some (.int .i64 mx)) (t : ByteArray) (ht : t.size ≤ 100000000) :
    Calls Tryz.prog 110 #[.string t] w fun e w' => e = .returned (.tuple #[.string (strOfNums (majorS (bl t)).1), .bool (majorS (bl t)).2]) ∧ Below w.heap.size w w' := by
  have hlen := bl_length t
  have hbt := bl_bytes t
  have e47 : ((47 : UInt8).toNat : Int) = 47 := rfl
  refine enter (args := [.string t]) Tryz.func110 rfl Tryz.ntmps110 rfl ?_
  have H := Hp.nil w
  repeat' (first | (with_reducible first | refine p_tn ?_ | refine wp_seq ?_ | refine w_reg ?_ | refine l_nil ?_) | ((with_reducible refine g_on ?_); (first | ((with_reducible refine g_mv ?_); refine l_p txs rfl rfl ?_) | ((with_reducible refine g_as ?_); refine l_p txs rfl rfl ?_))))
  have hsp := split_c t 47 (by omega) w mx hM
  rw [e47] at hsp
  (with_reducible refine is_l ?_); refine l_call rfl rfl (by kernel_rfl) hsp (fun e w_ hR => ?_)
  obtain ⟨gN, rfl, K⟩ := hR
  refine ⟨_, rfl, ?_⟩
  have hne := splitC_ne (c := 47) (bl t)
  have hsm := split_mem 47 (bl t)
  have hsl := split_len 47 (bl t)
  have hV : majorS (bl t) = majorE (splitC 47 (bl t)) := rfl
  generalize splitC 47 (bl t) = N at K hne hsm hsl hV ⊢
  have hNl : (strC N).length = N.length := List.length_map _
  have H := (H.join K).entRow (by rw [hNl]; simp only [maxLen]; omega)
  rw [hNl] at H
  have H : Hp w w_ [] [rowT (.slice (some ⟨gN, 0, none⟩) N.length N.length) N] := H
  have hpos := List.length_pos_iff.2 hne
  obtain ⟨z, hz⟩ : ∃ z, N[N.length - 1]? = some z := ⟨_, List.getElem?_eq_getElem (by omega)⟩
  obtain ⟨x, hx⟩ : ∃ x, N[0]? = some x := ⟨_, List.getElem?_eq_getElem (by omega)⟩
  have hV : majorS (bl t) = if x = gopkg then majG ((endCut z unstable).getD z) else majL N.length z := by
    rw [hV]
    cases N with
    | nil => exact absurd rfl hne
    | cons x' r =>
      simp only [List.getElem?_cons_zero, Option.some.injEq] at hx
      subst hx
      exact majE_eq _ _ _ (by rw [List.getLastD_eq_getLast?, List.getLast?_eq_getElem?, hz]; rfl)
  obtain ⟨mz1, mz2⟩ := hsm z (List.mem_of_getElem? hz)
  obtain ⟨mx1, mx2⟩ := hsm x (List.mem_of_getElem? hx)
  have bz : Bytes z := fun y hy => hbt y (mz1 y hy)
  have bx : Bytes x := fun y hy => hbt y (mx1 y hy)
  have zz := sizeS' bz
  have zx := sizeS' bx
  have hcz := rdT_cell (rowT_at H 0 rfl) hz
  have hcx := rdT_cell (rowT_at H 0 rfl) hx
  repeat' (first | (with_reducible first | refine p_tn ?_ | refine wp_seq ?_ | refine w_reg ?_ | refine l_nil ?_) | ((with_reducible refine g_on ?_); (first | ((with_reducible refine g_mv ?_); refine l_p txs rfl rfl ?_) | ((with_reducible refine g_as ?_); refine l_p txs rfl rfl ?_) | ((with_reducible refine g_cl ?_); refine l_p txs rfl rfl ?_) | ((with_reducible refine g_ia ?_); refine l_ia txs rfl rfl (by first | omega | assumption | decide) (by first | omega | assumption | decide) ?_) | ((with_reducible refine g_bi ?_); (refine l_a txs rfl rfl (by first | exact in_i64 (by omega) (by omega) | exact in_u8 (by omega) (by omega) | exact in_u64 (by omega) (by omega) | exact in_i32 (by omega) (by omega)) ?_)))))
  (with_reducible refine is_l ?_); refine l_ld txs rfl rfl (by rw [show ((N.length : Int) - 1).toNat = N.length - 1 by omega]; exact hcz) ?_
  repeat' (first | (with_reducible first | refine p_tn ?_ | refine wp_seq ?_ | refine w_reg ?_ | refine l_nil ?_) | ((with_reducible refine g_on ?_); (first | ((with_reducible refine g_mv ?_); refine l_p txs rfl rfl ?_) | ((with_reducible refine g_as ?_); refine l_p txs rfl rfl ?_) | ((with_reducible refine g_ia ?_); refine l_ia txs rfl rfl (by first | omega | assumption | decide) (by first | omega | assumption | decide) ?_))))
  (with_reducible refine is_l ?_); refine l_ld txs rfl rfl hcx ?_
  skip
  (with_reducible refine is_l ?_); refine l_t txs rfl rfl (fun hg => ?_) (fun hg => ?_)
  · rw [blS bx] at hg
    have hg : x = gopkg := hg
    rw [if_pos hg] at hV
    repeat' (first | (with_reducible first | refine p_tn ?_ | refine wp_seq ?_ | refine w_reg ?_) | (with_reducible (refine is_if ?_; (refine w_ift rfl ?_))) | (with_reducible refine l_nil ?_) | ((with_reducible refine g_on ?_); ((with_reducible refine g_mv ?_); refine l_p txs rfl rfl ?_)))
    have hts := fun w1 => trimSuf_c (strOfNums z) ⟨#[45, 117, 110, 115, 116, 97, 98, 108, 101]⟩ w1 (by omega)
    rw [blS bz, show bl (⟨#[45, 117, 110, 115, 116, 97, 98, 108, 101]⟩ : ByteArray) = unstable from rfl] at hts
    (with_reducible refine is_l ?_); refine l_callp rfl rfl (by kernel_rfl) (hts _) ?_
    obtain ⟨hs1, hs2⟩ := endCut_sub (r := z) (e := unstable)
    generalize (endCut z unstable).getD z = s at hs1 hs2 hV ⊢
    have bs : Bytes s := fun y hy => bz y (hs1 y hy)
    have zs := sizeS' bs
    have htr := trimDig_c (strOfNums s) w_ (by omega)
    rw [blS bs] at htr
    repeat' (first | (with_reducible first | refine p_tn ?_ | refine wp_seq ?_ | refine w_reg ?_ | refine l_nil ?_) | ((with_reducible refine g_on ?_); (first | ((with_reducible refine g_mv ?_); refine l_p txs rfl rfl ?_) | ((with_reducible refine g_as ?_); refine l_p txs rfl rfl ?_))))
    (with_reducible refine is_l ?_); refine l_callv rfl rfl (by kernel_rfl) htr (fun w_ K => ?_)
    have H := H.call K
    have hb := bare_tail s
    unfold majG at hV
    generalize digBare s = B at hb hV ⊢
    generalize digTail s = T at hb hV ⊢
    have bB : Bytes B := fun y hy => bs y (by rw [← hb]; exact List.mem_append_left _ hy)
    have bT : Bytes T := fun y hy => bs y (by rw [← hb]; exact List.mem_append_right _ hy)
    have zB := sizeS' bB
    have zT := sizeS' bT
    have hll : s.length = B.length + T.length := by rw [← hb, List.length_append]
    have hx : (strOfNums s).extract ((strOfNums B).size : Int).toNat ((strOfNums s).size : Int).toNat = strOfNums T := by
      refine bl_inj ?_
      rw [blE, blS bs, blS bT, zB, zs, Int.toNat_natCast, Int.toNat_natCast, ← hb, List.drop_left, List.take_of_length_le (by simp)]
    repeat' (first | (with_reducible first | refine p_tn ?_ | refine wp_seq ?_ | refine w_reg ?_ | refine l_nil ?_) | ((with_reducible refine g_on ?_); (first | ((with_reducible refine g_mv ?_); refine l_p txs rfl rfl ?_) | ((with_reducible refine g_as ?_); refine l_p txs rfl rfl ?_) | ((with_reducible refine g_cl ?_); refine l_p txs rfl rfl ?_) | ((with_reducible refine g_sl ?_); refine l_sl txs rfl rfl (by first | omega | assumption | decide) (by first | omega | assumption | decide) (by first | omega | assumption | decide) ?_))))
    rw [hx]
    have hsu := fun w1 => hasSuf_c (strOfNums B) ⟨#[46, 118]⟩ w1 (by omega)
    rw [blS bB, show bl (⟨#[46, 118]⟩ : ByteArray) = [46, 118] from rfl, cut_two] at hsu
    (with_reducible refine is_l ?_); refine l_callp rfl rfl (by kernel_rfl) (hsu _) ?_
    cases h2 : decide (B.drop (B.length - 2) = [46, 118])
    · have hn : majorS (bl t) = (T, false) := by rw [hV, h2]; rfl
      repeat' (first | (with_reducible first | refine p_tn ?_ | refine p_tr ?_ | refine wp_ret ?_ | refine l_nil ?_) | ((with_reducible refine g_on ?_); (first | ((with_reducible refine g_mv ?_); refine l_p txs rfl rfl ?_) | ((with_reducible refine g_as ?_); refine l_p txs rfl rfl ?_) | ((with_reducible refine g_pk ?_); refine l_p txs rfl rfl ?_))) | ((with_reducible refine g_if ?_); (refine l_off rfl ?_)))
      refine end2 rfl rfl rfl ?_
      exact ⟨by rw [hn]; first | done | rfl, H.B⟩
    · repeat' (first | ((with_reducible refine g_on ?_); ((with_reducible refine g_mv ?_); refine l_p txs rfl rfl ?_)) | ((with_reducible refine g_if ?_); ((with_reducible refine g_mv ?_); refine l_p txs rfl rfl ?_)))
      have hnu := isNumber_c (strOfNums T) w_ (by omega)
      rw [blS bT] at hnu
      (with_reducible refine is_l ?_); refine l_callv rfl rfl (by kernel_rfl) hnu (fun w_ K => ?_)
      have H := H.call K
      have hn : majorS (bl t) = (T, numB T) := by rw [hV, h2]; rfl
      repeat' (first | (with_reducible first | refine p_tn ?_ | refine p_tr ?_ | refine wp_ret ?_ | refine l_nil ?_) | ((with_reducible refine g_on ?_); (first | ((with_reducible refine g_as ?_); refine l_p txs rfl rfl ?_) | ((with_reducible refine g_pk ?_); refine l_p txs rfl rfl ?_))))
      refine end2 rfl rfl rfl ?_
      exact ⟨by rw [hn]; first | done | rfl, H.B⟩
  rw [blS bx] at hg
  have hg : ¬ x = gopkg := hg
  rw [if_neg hg] at hV
  repeat' (first | (with_reducible first | refine p_tn ?_ | refine wp_seq ?_ | refine w_reg ?_) | (with_reducible (refine is_if ?_; (refine w_iff rfl ?_))) | (with_reducible first | refine wp_skip ?_ | refine l_nil ?_) | ((with_reducible refine g_on ?_); (first | ((with_reducible refine g_mv ?_); refine l_p txs rfl rfl ?_) | ((with_reducible refine g_cl ?_); refine l_p txs rfl rfl ?_))))
  (with_reducible refine is_l ?_); refine l_t txs rfl rfl (fun h1 => ?_) (fun h1 => ?_)
  · have hq : N.length = 1 ∨ z.length < 2 ∨ z.head? ≠ some 118 ∨ (z.tail.all vdB) = false := .inl (by omega)
    have hn : majorS (bl t) = ([], true) := by rw [hV]; unfold majL; rw [if_pos hq]
    repeat' (first | (with_reducible first | refine p_tn ?_ | refine p_tr ?_ | refine wp_seq ?_ | refine w_reg ?_) | (with_reducible (refine is_if ?_; (refine w_ift rfl ?_))) | (with_reducible first | refine wp_ret ?_ | refine l_nil ?_) | ((with_reducible refine g_on ?_); (first | ((with_reducible refine g_mv ?_); refine l_p txs rfl rfl ?_) | ((with_reducible refine g_as ?_); refine l_p txs rfl rfl ?_) | ((with_reducible refine g_pk ?_); refine l_p txs rfl rfl ?_))) | ((with_reducible refine g_if ?_); (refine l_off rfl ?_)))
    refine end2 rfl rfl rfl ?_
    exact ⟨by rw [hn]; first | done | rfl, H.B⟩
  repeat' (first | ((with_reducible refine g_on ?_); ((with_reducible refine g_mv ?_); refine l_p txs rfl rfl ?_)) | ((with_reducible refine g_if ?_); (first | ((with_reducible refine g_mv ?_); refine l_p txs rfl rfl ?_) | ((with_reducible refine g_cl ?_); refine l_p txs rfl rfl ?_))))
  (with_reducible refine is_l ?_); refine l_t txs rfl rfl (fun h2 => ?_) (fun h2 => ?_)
  · have hq : N.length = 1 ∨ z.length < 2 ∨ z.head? ≠ some 118 ∨ (z.tail.all vdB) = false := .inr (.inl (by omega))
    have hn : majorS (bl t) = ([], true) := by rw [hV]; unfold majL; rw [if_pos hq]
    repeat' (first | (with_reducible first | refine p_tn ?_ | refine p_tr ?_ | refine wp_seq ?_ | refine w_reg ?_) | (with_reducible (refine is_if ?_; (refine w_ift rfl ?_))) | (with_reducible first | refine wp_ret ?_ | refine l_nil ?_) | ((with_reducible refine g_on ?_); (first | ((with_reducible refine g_mv ?_); refine l_p txs rfl rfl ?_) | ((with_reducible refine g_as ?_); refine l_p txs rfl rfl ?_) | ((with_reducible refine g_pk ?_); refine l_p txs rfl rfl ?_))) | ((with_reducible refine g_if ?_); (refine l_off rfl ?_)))
    refine end2 rfl rfl rfl ?_
    exact ⟨by rw [hn]; first | done | rfl, H.B⟩
  have hz2 : 2 ≤ z.length := by omega
  have hzn : z ≠ [] := fun e => by rw [e] at hz2; exact absurd hz2 (by decide)
  have hhd := head_at hzn
  repeat' (first | ((with_reducible refine g_on ?_); (first | ((with_reducible refine g_mv ?_); refine l_p txs rfl rfl ?_) | ((with_reducible refine g_pk ?_); refine l_p txs rfl rfl ?_))) | ((with_reducible refine g_if ?_); (first | ((with_reducible refine g_mv ?_); refine l_p txs rfl rfl ?_) | ((with_reducible refine g_ix ?_); refine l_ix txs rfl rfl (by first | omega | assumption | decide) (by first | omega | assumption | decide) ?_))))
  (with_reducible refine is_l ?_); refine l_t txs rfl rfl (fun h3 => ?_) (fun h3 => ?_)
  · rw [blS bz] at h3
    have hq : N.length = 1 ∨ z.length < 2 ∨ z.head? ≠ some 118 ∨ (z.tail.all vdB) = false := .inr (.inr (.inl (by rw [hhd]; exact fun e => h3 (Option.some.inj e))))
    have hn : majorS (bl t) = ([], true) := by rw [hV]; unfold majL; rw [if_pos hq]
    repeat' (first | (with_reducible first | refine p_tn ?_ | refine p_tr ?_ | refine wp_seq ?_ | refine w_reg ?_) | (with_reducible (refine is_if ?_; (refine w_ift rfl ?_))) | (with_reducible first | refine wp_ret ?_ | refine l_nil ?_) | ((with_reducible refine g_on ?_); (first | ((with_reducible refine g_as ?_); refine l_p txs rfl rfl ?_) | ((with_reducible refine g_pk ?_); refine l_p txs rfl rfl ?_))))
    refine end2 rfl rfl rfl ?_
    exact ⟨by rw [hn]; first | done | rfl, H.B⟩
  rw [blS bz] at h3
  have h3 : z.head? = some 118 := by rw [hhd, Classical.not_not.1 h3]
  repeat' (first | (with_reducible first | refine p_tn ?_ | refine wp_seq ?_ | refine w_reg ?_) | (with_reducible (refine is_if ?_; (refine w_iff rfl ?_))) | (with_reducible first | refine wp_skip ?_ | refine l_nil ?_) | ((with_reducible refine g_on ?_); (first | ((with_reducible refine g_mv ?_); refine l_p txs rfl rfl ?_) | ((with_reducible refine g_pk ?_); refine l_p txs rfl rfl ?_) | ((with_reducible refine g_sl ?_); refine l_sl txs rfl rfl (by first | omega | assumption | decide) (by first | omega | assumption | decide) (by first | omega | assumption | decide) ?_))))
  have hu : bl ((strOfNums z).extract (1 : Int).toNat ((strOfNums z).size : Int).toNat) = z.tail := by
    rw [blE, blS bz, zz, Int.toNat_natCast]
    show (z.drop 1).take (z.length - 1) = _
    rw [List.take_of_length_le (by rw [List.length_drop]; omega), List.drop_one]
  have hus : ((strOfNums z).extract (1 : Int).toNat ((strOfNums z).size : Int).toNat).size = z.length - 1 := by rw [← bl_length, hu, List.length_tail]
  obtain ⟨u, hu0⟩ : ∃ u, u = (strOfNums z).extract (1 : Int).toNat ((strOfNums z).size : Int).toNat := ⟨_, rfl⟩
  rw [← hu0] at hu hus ⊢
  have hul := bl_length u
  have H := H.pick [] [] (by decide) (by decide) rfl rfl
  have hV : (bl u).all vdB = false ∧ majorS (bl t) = ([], true) ∨ (bl u).all vdB = true ∧ majorS (bl t) = (bl u, numB (bl u) && decide (bl u ≠ [48]) && decide (bl u ≠ [49])) := by
    rw [hV]
    unfold majL
    rw [← hu]
    cases hv : (bl u).all vdB
    · exact .inl ⟨rfl, if_pos (.inr (.inr (.inr rfl)))⟩
    · exact .inr ⟨rfl, if_neg (by rintro (h | h | h | h) <;> first | omega | exact h h3 | cases h)⟩
  have hNo : ∀ {b : Int} {p : Nat}, (bl u)[p]? = some b → vdB b = false → majorS (bl t) = ([], true) := fun hb hv => by
    rcases hV with h | h
    · exact h.2
    · rw [not_all hb hv] at h; cases h.1
  (with_reducible refine is_l ?_); refine l_range H Tryz.underlying9 rfl rfl (fun g w_ H hk hg => ?_)
  repeat' (with_reducible first | refine p_tn ?_ | refine wp_block ?_ | refine l_nil ?_)
  refine w_loop (σ := Nat) (S := fun s => [(5, .string (strOfNums z)), (53, .pointer (some ⟨g, 0, none⟩))]) (J := fun s w' => Hp w w' [] [] ∧ w'.heap[g]? = some (.stringIter u s) ∧ ((bl u).take s).all vdB = true) (μ := fun s => u.size - s) 0 ⟨rfl, rfl, trivial⟩ ⟨H, hk, by simp⟩ ?_
  clear hk H
  rintro p f w_ ⟨H, hk, ha⟩
  repeat' (with_reducible first | refine wp_seq ?_ | refine w_reg ?_)
  by_cases hp : p < u.size
  · obtain ⟨b, hb, hbb⟩ := dec_byte u p hp
    (with_reducible refine is_l ?_); refine l_nextV H hk hg hp rfl rfl (fun w_ H hk => ?_)
    rcases hbb with ⟨k1, k2, k3⟩ | ⟨k1, k2⟩
    · rw [k3] at hk
      rw [k2]
      repeat' (first | (with_reducible first | refine p_tn ?_ | refine wp_seq ?_ | refine wp_block ?_ | refine w_reg ?_) | (with_reducible (refine is_if ?_; (refine w_ift rfl ?_))) | (with_reducible first | refine wp_skip ?_ | refine l_nil ?_) | ((with_reducible refine g_on ?_); (first | ((with_reducible refine g_mv ?_); refine l_p txs rfl rfl ?_) | ((with_reducible refine g_as ?_); refine l_p txs rfl rfl ?_) | ((with_reducible refine g_ex ?_); refine l_p txs rfl rfl ?_))))
      (with_reducible refine is_l ?_); refine l_callp rfl rfl (by kernel_rfl) (isDigit_c b _) ?_
      cases hd : digB b
      · repeat' (first | ((with_reducible refine g_on ?_); (first | ((with_reducible refine g_mv ?_); refine l_p txs rfl rfl ?_) | ((with_reducible refine g_un ?_); (refine l_p txs rfl rfl ?_)))) | ((with_reducible refine g_if ?_); ((with_reducible refine g_mv ?_); refine l_p txs rfl rfl ?_)))
        (with_reducible refine is_l ?_); refine l_t txs rfl rfl (fun h4 => ?_) (fun h4 => ?_)
        · have hn := hNo hb (by unfold vdB; rw [hd, decide_eq_false h4]; rfl)
          repeat' (first | (with_reducible first | refine p_tn ?_ | refine p_tr ?_ | refine p_br ?_ | refine wp_seq ?_ | refine w_reg ?_) | (with_reducible (refine is_if ?_; (refine w_ift rfl ?_))) | (with_reducible first | refine wp_ret ?_ | refine l_nil ?_) | ((with_reducible refine g_on ?_); (first | ((with_reducible refine g_as ?_); refine l_p txs rfl rfl ?_) | ((with_reducible refine g_pk ?_); refine l_p txs rfl rfl ?_))))
          refine end2 rfl rfl rfl ?_
          exact ⟨by rw [hn]; first | done | rfl, H.B⟩
        · have hv : vdB b = true := by unfold vdB; rw [decide_eq_true (Classical.not_not.1 h4)]; simp
          repeat' (first | (with_reducible first | refine p_tn ?_ | refine p_bn ?_) | (with_reducible (refine is_if ?_; (refine w_iff rfl ?_))) | (with_reducible first | refine wp_skip ?_ | refine l_nil ?_) | ((with_reducible refine g_on ?_); ((with_reducible refine g_pk ?_); refine l_p txs rfl rfl ?_)))
          exact ⟨p + 1, _, rfl, ⟨rfl, rfl, trivial⟩, ⟨H, hk, take_all hb hv ha⟩, by omega⟩
      · have hv : vdB b = true := by unfold vdB; rw [hd]; rfl
        repeat' (first | (with_reducible first | refine p_tn ?_ | refine p_bn ?_) | (with_reducible (refine is_if ?_; (refine w_iff rfl ?_))) | (with_reducible first | refine wp_skip ?_ | refine l_nil ?_) | ((with_reducible refine g_on ?_); (first | ((with_reducible refine g_mv ?_); refine l_p txs rfl rfl ?_) | ((with_reducible refine g_pk ?_); refine l_p txs rfl rfl ?_) | ((with_reducible refine g_un ?_); (refine l_p txs rfl rfl ?_)))) | ((with_reducible refine g_if ?_); (refine l_off rfl ?_)))
        exact ⟨p + 1, _, rfl, ⟨rfl, rfl, trivial⟩, ⟨H, hk, take_all hb hv ha⟩, by omega⟩
    · have hn := hNo hb (by unfold vdB digB; simp; omega)
      generalize ((Utf8.decode u p).1 : Int) = q at k2 ⊢
      repeat' (first | (with_reducible first | refine p_tn ?_ | refine wp_seq ?_ | refine wp_block ?_ | refine w_reg ?_) | (with_reducible (refine is_if ?_; (refine w_ift rfl ?_))) | (with_reducible first | refine wp_skip ?_ | refine l_nil ?_) | ((with_reducible refine g_on ?_); (first | ((with_reducible refine g_mv ?_); refine l_p txs rfl rfl ?_) | ((with_reducible refine g_as ?_); refine l_p txs rfl rfl ?_) | ((with_reducible refine g_ex ?_); refine l_p txs rfl rfl ?_))))
      have hd2 := fun w1 => isDigit_c q w1
      rw [show digB q = false by unfold digB; simp; omega] at hd2
      (with_reducible refine is_l ?_); refine l_callp rfl rfl (by kernel_rfl) (hd2 _) ?_
      repeat' (first | ((with_reducible refine g_on ?_); (first | ((with_reducible refine g_mv ?_); refine l_p txs rfl rfl ?_) | ((with_reducible refine g_un ?_); (refine l_p txs rfl rfl ?_)))) | ((with_reducible refine g_if ?_); ((with_reducible refine g_mv ?_); refine l_p txs rfl rfl ?_)))
      (with_reducible refine is_l ?_); refine l_t txs rfl rfl (fun h4 => ?_) (fun h4 => absurd h4 (by omega))
      repeat' (first | (with_reducible first | refine p_tn ?_ | refine p_tr ?_ | refine p_br ?_ | refine wp_seq ?_ | refine w_reg ?_) | (with_reducible (refine is_if ?_; (refine w_ift rfl ?_))) | (with_reducible first | refine wp_ret ?_ | refine l_nil ?_) | ((with_reducible refine g_on ?_); (first | ((with_reducible refine g_as ?_); refine l_p txs rfl rfl ?_) | ((with_reducible refine g_pk ?_); refine l_p txs rfl rfl ?_))))
      refine end2 rfl rfl rfl ?_
      exact ⟨by rw [hn]; first | done | rfl, H.B⟩
  · have hall : (bl u).all vdB = true := by rw [← List.take_of_length_le (l := bl u) (i := p) (by omega)]; exact ha
    have hV : majorS (bl t) = (bl u, numB (bl u) && decide (bl u ≠ [48]) && decide (bl u ≠ [49])) := by
      rcases hV with h | h
      · rw [hall] at h; cases h.1
      · exact h.2
    (with_reducible refine is_l ?_); refine l_nextE hk hp rfl rfl ?_
    repeat' (first | (with_reducible first | refine p_tn ?_ | refine p_tx ?_ | refine x_hit ?_ | refine wp_seq ?_ | refine w_reg ?_) | (with_reducible (refine is_if ?_; (refine w_iff rfl ?_))) | (with_reducible first | refine wp_exit ?_ | refine l_nil ?_) | ((with_reducible refine g_on ?_); (first | ((with_reducible refine g_mv ?_); refine l_p txs rfl rfl ?_) | ((with_reducible refine g_as ?_); refine l_p txs rfl rfl ?_) | ((with_reducible refine g_ex ?_); refine l_p txs rfl rfl ?_) | ((with_reducible refine g_sl ?_); refine l_sl txs rfl rfl (by first | omega | assumption | decide) (by first | omega | assumption | decide) (by first | omega | assumption | decide) ?_))))
    rw [← hu0]
    (with_reducible refine is_l ?_); refine l_callv rfl rfl (by kernel_rfl) (isNumber_c u _ (by omega)) (fun w_ K => ?_)
    have H := H.call K
    cases hnb : numB (bl u)
    · have hn : majorS (bl t) = (bl u, false) := by rw [hV, hnb]; rfl
      repeat' (first | (with_reducible first | refine p_tn ?_ | refine wp_ret ?_ | refine l_nil ?_) | ((with_reducible refine g_on ?_); (first | ((with_reducible refine g_mv ?_); refine l_p txs rfl rfl ?_) | ((with_reducible refine g_as ?_); refine l_p txs rfl rfl ?_) | ((with_reducible refine g_pk ?_); refine l_p txs rfl rfl ?_))) | ((with_reducible refine g_if ?_); (refine l_off rfl ?_)))
      refine end2 rfl rfl rfl ?_
      exact ⟨by rw [hn, strS], H.B⟩
    repeat' (first | ((with_reducible refine g_on ?_); ((with_reducible refine g_mv ?_); refine l_p txs rfl rfl ?_)) | ((with_reducible refine g_if ?_); ((with_reducible refine g_mv ?_); refine l_p txs rfl rfl ?_)))
    (with_reducible refine is_l ?_); refine l_t txs rfl rfl (fun h5 => ?_) (fun h5 => ?_)
    rotate_left
    · have h5 : bl u = [48] := Classical.not_not.1 h5
      have hn : majorS (bl t) = (bl u, false) := by rw [hV, h5]; rfl
      repeat' (first | (with_reducible first | refine p_tn ?_ | refine wp_ret ?_ | refine l_nil ?_) | ((with_reducible refine g_on ?_); (first | ((with_reducible refine g_mv ?_); refine l_p txs rfl rfl ?_) | ((with_reducible refine g_as ?_); refine l_p txs rfl rfl ?_) | ((with_reducible refine g_pk ?_); refine l_p txs rfl rfl ?_))) | ((with_reducible refine g_if ?_); (refine l_off rfl ?_)))
      refine end2 rfl rfl rfl ?_
      exact ⟨by rw [hn, strS], H.B⟩
    have h5 : bl u ≠ [48] := h5
    repeat' (first | ((with_reducible refine g_on ?_); (first | ((with_reducible refine g_mv ?_); refine l_p txs rfl rfl ?_) | ((with_reducible refine g_pk ?_); refine l_p txs rfl rfl ?_))) | ((with_reducible refine g_if ?_); ((with_reducible refine g_mv ?_); refine l_p txs rfl rfl ?_)))
    (with_reducible refine is_l ?_); refine l_t txs rfl rfl (fun h6 => ?_) (fun h6 => ?_)
    rotate_left
    · have h6 : bl u = [49] := Classical.not_not.1 h6
      have hn : majorS (bl t) = (bl u, false) := by rw [hV, h6]; rfl
      repeat' (first | (with_reducible first | refine p_tn ?_ | refine wp_ret ?_ | refine l_nil ?_) | ((with_reducible refine g_on ?_); (first | ((with_reducible refine g_as ?_); refine l_p txs rfl rfl ?_) | ((with_reducible refine g_pk ?_); refine l_p txs rfl rfl ?_))))
      refine end2 rfl rfl rfl ?_
      exact ⟨by rw [hn, strS], H.B⟩
    have h6 : bl u ≠ [49] := h6
    have hn : majorS (bl t) = (bl u, true) := by rw [hV, hnb, decide_eq_true h5, decide_eq_true h6]; rfl
    repeat' (first | (with_reducible first | refine p_tn ?_ | refine wp_ret ?_ | refine l_nil ?_) | ((with_reducible refine g_on ?_); (first | ((with_reducible refine g_as ?_); refine l_p txs rfl rfl ?_) | ((with_reducible refine g_pk ?_); refine l_p txs rfl rfl ?_))))
    refine end2 rfl rfl rfl ?_
    exact ⟨by rw [hn, strS], H.B⟩
end Go.Proofs.YtnimaenhijlcmaaGreatDoor.K
end
section
namespace Go.Proofs.YtnimaenhijlcmaaGreatDoor.K
open Go.RowKit Go.Proofs.YtnimaenhijlcmaaGreatDoor.Q Go.Proofs.YtnimaenhijlcmaaGreatDoor.Mb Go.Proofs.YtnimaenhijlcmaaGreatDoorW.PrintWords
set_option linter.unusedVariables false
set_option linter.unusedSimpArgs false
theorem path_one {N : List L} {i : Nat} {y : L} (hy : N[i]? = some y) (ha : (N.take i).all elemB = true) (h : elemB y = true) : (N.take (i + 1)).all elemB = true := by
  obtain ⟨hi, rfl⟩ := List.getElem?_eq_some_iff.1 hy
  rw [List.take_succ_eq_append_getElem hi, List.all_append, ha]
  simp [h]
set_option maxRecDepth 100000 in
set_option maxHeartbeats 8000000 in
theorem isPath_c {w : World} {mx : Int} (hM : w.cell? ⟨0, 0, none⟩ = some (.int .i64 mx)) {t1 : TypeId} {fr1 : Nat × Nat} (hT : w.heap[1]? = some (.cells mkC t1 fr1)) {t2 : TypeId} {fr : Nat × Nat} (hD : w.heap[2]? = some (.cells deC t2 fr)) (t : ByteArray) :
    Calls Tryz.prog 67 #[.string t] w fun e w' => e = .returned (.bool (pathS (bl t))) ∧ Below w.heap.size w w' := by
  have hDb : ∀ w1, Below w.heap.size w w1 → w1.heap[2]? = some (.cells deC t2 fr) := fun w1 K => (K.block _ (blk_lt hD)).trans hD
  have hTb : ∀ w1, Below w.heap.size w w1 → w1.heap[1]? = some (.cells mkC t1 fr1) := fun w1 K => (K.block _ (blk_lt hT)).trans hT
  have hlen := bl_length t
  have hbt := bl_bytes t
  have e47 : ((47 : UInt8).toNat : Int) = 47 := rfl
  refine enter (args := [.string t]) Tryz.func67 rfl Tryz.ntmps67 rfl ?_
  have H := Hp.nil w
  repeat' (first | (with_reducible first | refine p_tn ?_ | refine wp_seq ?_ | refine w_reg ?_ | refine l_nil ?_) | ((with_reducible refine g_on ?_); (first | ((with_reducible refine g_mv ?_); refine l_p txs rfl rfl ?_) | ((with_reducible refine g_as ?_); refine l_p txs rfl rfl ?_))))
  (with_reducible refine is_l ?_); refine l_t txs rfl rfl (fun h1 => ?_) (fun h1 => ?_)
  · have h1 : bl t = [] := h1
    have hn : pathS (bl t) = false := by rw [h1]; rfl
    repeat' (first | (with_reducible first | refine p_tn ?_ | refine p_tr ?_ | refine wp_seq ?_ | refine w_reg ?_) | (with_reducible (refine is_if ?_; (refine w_ift rfl ?_))) | (with_reducible first | refine wp_ret ?_ | refine l_nil ?_) | ((with_reducible refine g_on ?_); (first | ((with_reducible refine g_mv ?_); refine l_p txs rfl rfl ?_) | ((with_reducible refine g_as ?_); refine l_p txs rfl rfl ?_) | ((with_reducible refine g_pk ?_); refine l_p txs rfl rfl ?_))) | ((with_reducible refine g_if ?_); (refine l_off rfl ?_)))
    refine end1 rfl rfl ?_
    exact ⟨by rw [hn]; first | done | rfl, H.B⟩
  have h1 : bl t ≠ [] := h1
  have he : (bl t).isEmpty = false := by cases hb : bl t with | nil => exact absurd hb h1 | cons x r => rfl
  repeat' (first | ((with_reducible refine g_on ?_); ((with_reducible refine g_mv ?_); refine l_p txs rfl rfl ?_)) | ((with_reducible refine g_if ?_); (first | ((with_reducible refine g_mv ?_); refine l_p txs rfl rfl ?_) | ((with_reducible refine g_cl ?_); refine l_p txs rfl rfl ?_))))
  (with_reducible refine is_l ?_); refine l_t txs rfl rfl (fun h2 => ?_) (fun h2 => ?_)
  · have hn : pathS (bl t) = false := by unfold pathS; rw [decide_eq_false (by omega)]; simp
    repeat' (first | (with_reducible first | refine p_tn ?_ | refine p_tr ?_ | refine wp_seq ?_ | refine w_reg ?_) | (with_reducible (refine is_if ?_; (refine w_ift rfl ?_))) | (with_reducible first | refine wp_ret ?_ | refine l_nil ?_) | ((with_reducible refine g_on ?_); (first | ((with_reducible refine g_as ?_); refine l_p txs rfl rfl ?_) | ((with_reducible refine g_pk ?_); refine l_p txs rfl rfl ?_))))
    refine end1 rfl rfl ?_
    exact ⟨by rw [hn]; first | done | rfl, H.B⟩
  have hV : pathS (bl t) = ((bl t).all pathB && (splitC 47 (bl t)).all elemB && hostB ((splitC 47 (bl t)).headD []) && (majorS (bl t)).2) := by
    unfold pathS
    rw [he, decide_eq_true (by omega)]
    rfl
  have hNo : ∀ {b : Int} {p : Nat}, (bl t)[p]? = some b → pathB b = false → pathS (bl t) = false := fun hb hv => by rw [hV, not_all hb hv]; simp
  repeat' (first | (with_reducible first | refine p_tn ?_ | refine wp_seq ?_ | refine w_reg ?_) | (with_reducible (refine is_if ?_; (refine w_iff rfl ?_))) | (with_reducible first | refine wp_skip ?_ | refine l_nil ?_) | ((with_reducible refine g_on ?_); (first | ((with_reducible refine g_mv ?_); refine l_p txs rfl rfl ?_) | ((with_reducible refine g_pk ?_); refine l_p txs rfl rfl ?_))))
  (with_reducible refine is_l ?_); refine l_range H Tryz.underlying9 rfl rfl (fun g w_ H hk hg => ?_)
  repeat' (with_reducible first | refine p_tn ?_ | refine wp_block ?_ | refine l_nil ?_)
  refine w_loop (σ := Nat) (S := fun s => [(0, .string t), (17, .pointer (some ⟨g, 0, none⟩))]) (J := fun s w' => Hp w w' [] [] ∧ w'.heap[g]? = some (.stringIter t s) ∧ ((bl t).take s).all pathB = true) (μ := fun s => t.size - s) 0 ⟨rfl, rfl, trivial⟩ ⟨H, hk, by simp⟩ ?_
  clear hk H
  rintro p f w_ ⟨H, hk, ha⟩
  repeat' (with_reducible first | refine wp_seq ?_ | refine w_reg ?_)
  by_cases hp : p < t.size
  · obtain ⟨b, hb, hbb⟩ := dec_byte t p hp
    (with_reducible refine is_l ?_); refine l_nextV H hk hg hp rfl rfl (fun w_ H hk => ?_)
    rcases hbb with ⟨k1, k2, k3⟩ | ⟨k1, k2⟩
    · rw [k3] at hk
      rw [k2]
      repeat' (first | (with_reducible first | refine p_tn ?_ | refine wp_seq ?_ | refine wp_block ?_ | refine w_reg ?_) | (with_reducible (refine is_if ?_; (refine w_ift rfl ?_))) | (with_reducible first | refine wp_skip ?_ | refine l_nil ?_) | ((with_reducible refine g_on ?_); (first | ((with_reducible refine g_mv ?_); refine l_p txs rfl rfl ?_) | ((with_reducible refine g_as ?_); refine l_p txs rfl rfl ?_) | ((with_reducible refine g_ex ?_); refine l_p txs rfl rfl ?_))))
      (with_reducible refine is_l ?_); refine l_callp rfl rfl (by kernel_rfl) (isPathRune_c (hTb _ H.B) b) ?_
      cases hd : pathB b
      · have hn := hNo hb hd
        repeat' (first | (with_reducible first | refine p_tn ?_ | refine p_tr ?_ | refine p_br ?_ | refine wp_seq ?_ | refine w_reg ?_) | (with_reducible (refine is_if ?_; (refine w_ift rfl ?_))) | (with_reducible first | refine wp_ret ?_ | refine l_nil ?_) | ((with_reducible refine g_on ?_); (first | ((with_reducible refine g_as ?_); refine l_p txs rfl rfl ?_) | ((with_reducible refine g_un ?_); (refine l_p txs rfl rfl ?_)))))
        refine end1 rfl rfl ?_
        exact ⟨by rw [hn]; first | done | rfl, H.B⟩
      · repeat' (first | (with_reducible first | refine p_tn ?_ | refine p_bn ?_) | (with_reducible (refine is_if ?_; (refine w_iff rfl ?_))) | (with_reducible first | refine wp_skip ?_ | refine l_nil ?_) | ((with_reducible refine g_on ?_); ((with_reducible refine g_un ?_); (refine l_p txs rfl rfl ?_))))
        exact ⟨p + 1, _, rfl, ⟨rfl, rfl, trivial⟩, ⟨H, hk, take_all hb hd ha⟩, by omega⟩
    · have hn := hNo hb (by cases h : pathB b with | false => rfl | true => exact absurd (path_small h) (by omega))
      generalize ((Utf8.decode t p).1 : Int) = q at k2 ⊢
      repeat' (first | (with_reducible first | refine p_tn ?_ | refine wp_seq ?_ | refine wp_block ?_ | refine w_reg ?_) | (with_reducible (refine is_if ?_; (refine w_ift rfl ?_))) | (with_reducible first | refine wp_skip ?_ | refine l_nil ?_) | ((with_reducible refine g_on ?_); (first | ((with_reducible refine g_mv ?_); refine l_p txs rfl rfl ?_) | ((with_reducible refine g_as ?_); refine l_p txs rfl rfl ?_) | ((with_reducible refine g_ex ?_); refine l_p txs rfl rfl ?_))))
      have hd2 := isPathRune_c (hTb _ H.B) q
      rw [show pathB q = false by cases h : pathB q with | false => rfl | true => exact absurd (path_small h) (by omega)] at hd2
      (with_reducible refine is_l ?_); refine l_callp rfl rfl (by kernel_rfl) hd2 ?_
      repeat' (first | (with_reducible first | refine p_tn ?_ | refine p_tr ?_ | refine p_br ?_ | refine wp_seq ?_ | refine w_reg ?_) | (with_reducible (refine is_if ?_; (refine w_ift rfl ?_))) | (with_reducible first | refine wp_ret ?_ | refine l_nil ?_) | ((with_reducible refine g_on ?_); (first | ((with_reducible refine g_as ?_); refine l_p txs rfl rfl ?_) | ((with_reducible refine g_un ?_); (refine l_p txs rfl rfl ?_)))))
      refine end1 rfl rfl ?_
      exact ⟨by rw [hn]; first | done | rfl, H.B⟩
  have hall : (bl t).all pathB = true := by rw [← List.take_of_length_le (l := bl t) (i := p) (by omega)]; exact ha
  rw [hall, Bool.true_and] at hV
  (with_reducible refine is_l ?_); refine l_nextE hk hp rfl rfl ?_
  repeat' (first | (with_reducible first | refine p_tn ?_ | refine p_tx ?_ | refine x_hit ?_ | refine wp_seq ?_ | refine w_reg ?_) | (with_reducible (refine is_if ?_; (refine w_iff rfl ?_))) | (with_reducible first | refine wp_exit ?_ | refine l_nil ?_) | ((with_reducible refine g_on ?_); (first | ((with_reducible refine g_mv ?_); refine l_p txs rfl rfl ?_) | ((with_reducible refine g_ex ?_); refine l_p txs rfl rfl ?_))))
  have hsp := split_c t 47 (by omega) w_ mx (H.old hM)
  rw [e47] at hsp
  (with_reducible refine is_l ?_); refine l_call rfl rfl (by kernel_rfl) hsp (fun e w_ hR => ?_)
  obtain ⟨gN, rfl, K⟩ := hR
  refine ⟨_, rfl, ?_⟩
  have hne := splitC_ne (c := 47) (bl t)
  have hsm := split_mem 47 (bl t)
  have hsl := split_len 47 (bl t)
  generalize splitC 47 (bl t) = N at K hne hsm hsl hV ⊢
  have hNl : (strC N).length = N.length := List.length_map _
  have H := (H.join K).entRow (by rw [hNl]; simp only [maxLen]; omega)
  rw [hNl] at H
  have H : Hp w w_ [] [rowT (.slice (some ⟨gN, 0, none⟩) N.length N.length) N] := H
  have hpos := List.length_pos_iff.2 hne
  repeat' (first | (with_reducible first | refine p_tn ?_ | refine wp_block ?_ | refine l_nil ?_) | ((with_reducible refine g_on ?_); (first | ((with_reducible refine g_mv ?_); refine l_p txs rfl rfl ?_) | ((with_reducible refine g_cl ?_); refine l_p txs rfl rfl ?_))))
  refine w_loop (σ := Nat) (S := fun s => [(0, .string t), (25, .slice (some ⟨gN, 0, none⟩) N.length N.length), (26, .int .i64 (N.length : Int)), (27, .int .i64 (s : Int))]) (J := fun s w' => Hp w w' [] [rowT (.slice (some ⟨gN, 0, none⟩) N.length N.length) N] ∧ s ≤ N.length ∧ (N.take s).all elemB = true ∧ (1 ≤ s → hostB (N.headD []) = true)) (μ := fun s => N.length - s) 0 ⟨rfl, rfl, rfl, rfl, trivial⟩ ⟨H, by omega, rfl, fun h => by omega⟩ ?_
  clear H hk ha
  rintro i f w_ ⟨H, hi, ha, hh⟩
  repeat' (with_reducible first | refine wp_seq ?_ | refine w_reg ?_)
  (with_reducible refine is_l ?_); refine l_t txs rfl rfl (fun hlt => ?_) (fun hge => ?_)
  · obtain ⟨y, hy⟩ : ∃ y, N[i]? = some y := ⟨_, List.getElem?_eq_getElem (by omega)⟩
    have hmem := List.mem_of_getElem? hy
    obtain ⟨m1, m2⟩ := hsm y hmem
    have by' : Bytes y := fun z hz => hbt z (m1 z hz)
    have zy := sizeS' by'
    have hP : (bl (strOfNums y)).all pathB = true := by rw [blS by']; exact List.all_eq_true.2 fun z hz => List.all_eq_true.1 hall z (m1 z hz)
    have hcell := rdT_cell (rowT_at H 0 rfl) hy
    repeat' (first | (with_reducible first | refine p_tn ?_ | refine wp_seq ?_ | refine wp_block ?_ | refine w_reg ?_) | (with_reducible (refine is_if ?_; (refine w_ift rfl ?_))) | (with_reducible first | refine wp_skip ?_ | refine l_nil ?_) | ((with_reducible refine g_on ?_); (first | ((with_reducible refine g_mv ?_); refine l_p txs rfl rfl ?_) | ((with_reducible refine g_ia ?_); refine l_ia txs rfl rfl (by first | omega | assumption | decide) (by first | omega | assumption | decide) ?_))))
    (with_reducible refine is_l ?_); refine l_ld txs rfl rfl (by rw [Int.toNat_natCast]; exact hcell) ?_
    repeat' (first | (with_reducible first | refine p_tn ?_ | refine wp_seq ?_ | refine w_reg ?_ | refine l_nil ?_) | ((with_reducible refine g_on ?_); (first | ((with_reducible refine g_mv ?_); refine l_p txs rfl rfl ?_) | ((with_reducible refine g_as ?_); refine l_p txs rfl rfl ?_))))
    have hel := isElement_c (H.old hM) (hDb _ H.B) (strOfNums y) (by omega) hP
    rw [blS by'] at hel
    (with_reducible refine is_l ?_); refine l_callv rfl rfl (by kernel_rfl) hel (fun w_ K => ?_)
    have H := H.call K
    cases hey : elemB y
    · have hn : pathS (bl t) = false := by
        have : N.all elemB = false := by
          cases hq : N.all elemB with
          | false => rfl
          | true => have := List.all_eq_true.1 hq y hmem; rw [hey] at this; cases this
        rw [hV, this]; rfl
      repeat' (first | (with_reducible first | refine p_tn ?_ | refine p_tr ?_ | refine p_br ?_ | refine wp_seq ?_ | refine w_reg ?_) | (with_reducible (refine is_if ?_; (refine w_ift rfl ?_))) | (with_reducible first | refine wp_ret ?_ | refine l_nil ?_) | ((with_reducible refine g_on ?_); (first | ((with_reducible refine g_mv ?_); refine l_p txs rfl rfl ?_) | ((with_reducible refine g_as ?_); refine l_p txs rfl rfl ?_) | ((with_reducible refine g_pk ?_); refine l_p txs rfl rfl ?_) | ((with_reducible refine g_un ?_); (refine l_p txs rfl rfl ?_)))) | ((with_reducible refine g_if ?_); (refine l_off rfl ?_)))
      refine end1 rfl rfl ?_
      exact ⟨by rw [hn]; first | done | rfl, H.B⟩
    · have hyn : y ≠ [] := fun e => by rw [e] at hey; cases hey
      repeat' (first | ((with_reducible refine g_on ?_); (first | ((with_reducible refine g_mv ?_); refine l_p txs rfl rfl ?_) | ((with_reducible refine g_un ?_); (refine l_p txs rfl rfl ?_)))) | ((with_reducible refine g_if ?_); ((with_reducible refine g_mv ?_); refine l_p txs rfl rfl ?_)))
      (with_reducible refine is_l ?_); refine l_t txs rfl rfl (fun h0 => ?_) (fun h0 => ?_)
      · have hi0 : i = 0 := by omega
        have hhd : N.headD [] = y := by
          cases N with
          | nil => exact absurd rfl hne
          | cons a r => rw [hi0] at hy; exact Option.some.inj hy
        repeat' ((with_reducible refine g_if ?_); ((with_reducible refine g_mv ?_); refine l_p txs rfl rfl ?_))
        have hho := isHost_c (strOfNums y) w_ (by omega) (by rw [blS by']; exact hyn) hP
        rw [blS by'] at hho
        (with_reducible refine is_l ?_); refine l_callv rfl rfl (by kernel_rfl) hho (fun w_ K => ?_)
        have H := H.call K
        cases hhy : hostB y
        · have hn : pathS (bl t) = false := by rw [hV, hhd, hhy]; simp
          repeat' (first | (with_reducible first | refine p_tn ?_ | refine p_tr ?_ | refine p_br ?_ | refine wp_seq ?_ | refine w_reg ?_) | (with_reducible (refine is_if ?_; (refine w_ift rfl ?_))) | (with_reducible first | refine wp_ret ?_ | refine l_nil ?_) | ((with_reducible refine g_on ?_); (first | ((with_reducible refine g_as ?_); refine l_p txs rfl rfl ?_) | ((with_reducible refine g_pk ?_); refine l_p txs rfl rfl ?_))) | ((with_reducible refine g_if ?_); (first | ((with_reducible refine g_pk ?_); refine l_p txs rfl rfl ?_) | ((with_reducible refine g_un ?_); (refine l_p txs rfl rfl ?_)))))
          refine end1 rfl rfl ?_
          exact ⟨by rw [hn]; first | done | rfl, H.B⟩
        · repeat' (first | (with_reducible first | refine p_tn ?_ | refine p_bn ?_ | refine w_reg ?_) | (with_reducible (refine is_if ?_; (refine w_iff rfl ?_))) | (with_reducible first | refine wp_skip ?_ | refine l_nil ?_) | ((with_reducible refine g_on ?_); (first | ((with_reducible refine g_mv ?_); refine l_p txs rfl rfl ?_) | ((with_reducible refine g_pk ?_); refine l_p txs rfl rfl ?_) | ((with_reducible refine g_bi ?_); (refine l_a txs rfl rfl (by first | exact in_i64 (by omega) (by omega) | exact in_u8 (by omega) (by omega) | exact in_u64 (by omega) (by omega) | exact in_i32 (by omega) (by omega)) ?_)))) | ((with_reducible refine g_if ?_); (first | ((with_reducible refine g_pk ?_); refine l_p txs rfl rfl ?_) | ((with_reducible refine g_un ?_); (refine l_p txs rfl rfl ?_)))))
          exact ⟨i + 1, _, rfl, ⟨rfl, rfl, rfl, rfl, trivial⟩, ⟨H, by omega, path_one hy ha hey, fun _ => by rw [hhd]; exact hhy⟩, by omega⟩
      · repeat' (first | (with_reducible first | refine p_tn ?_ | refine p_bn ?_ | refine w_reg ?_) | (with_reducible (refine is_if ?_; (refine w_iff rfl ?_))) | (with_reducible first | refine wp_skip ?_ | refine l_nil ?_) | ((with_reducible refine g_on ?_); (first | ((with_reducible refine g_mv ?_); refine l_p txs rfl rfl ?_) | ((with_reducible refine g_pk ?_); refine l_p txs rfl rfl ?_) | ((with_reducible refine g_bi ?_); (refine l_a txs rfl rfl (by first | exact in_i64 (by omega) (by omega) | exact in_u8 (by omega) (by omega) | exact in_u64 (by omega) (by omega) | exact in_i32 (by omega) (by omega)) ?_)))) | ((with_reducible refine g_if ?_); (first | (refine l_off rfl ?_) | ((with_reducible refine g_mv ?_); refine l_p txs rfl rfl ?_) | ((with_reducible refine g_pk ?_); refine l_p txs rfl rfl ?_))))
        exact ⟨i + 1, _, rfl, ⟨rfl, rfl, rfl, rfl, trivial⟩, ⟨H, by omega, path_one hy ha hey, fun _ => hh (by omega)⟩, by omega⟩
  have hel : N.all elemB = true := by rw [← List.take_of_length_le (l := N) (i := i) (by omega)]; exact ha
  have hho := hh (by omega)
  rw [hel, hho] at hV
  repeat' (first | (with_reducible first | refine p_tn ?_ | refine p_tx ?_ | refine x_hit ?_ | refine wp_seq ?_ | refine w_reg ?_) | (with_reducible (refine is_if ?_; (refine w_iff rfl ?_))) | (with_reducible first | refine wp_exit ?_ | refine l_nil ?_) | ((with_reducible refine g_on ?_); ((with_reducible refine g_mv ?_); refine l_p txs rfl rfl ?_)))
  (with_reducible refine is_l ?_); refine l_callv rfl rfl (by kernel_rfl) (majorOf_c (H.old hM) t (by omega)) (fun w_ K => ?_)
  have H := H.call K
  have hn : pathS (bl t) = (majorS (bl t)).2 := hV
  repeat' (first | (with_reducible first | refine p_tn ?_ | refine wp_seq ?_ | refine w_reg ?_ | refine wp_ret ?_ | refine l_nil ?_) | ((with_reducible refine g_on ?_); (first | ((with_reducible refine g_mv ?_); refine l_p txs rfl rfl ?_) | ((with_reducible refine g_as ?_); refine l_p txs rfl rfl ?_) | ((with_reducible refine g_ex ?_); refine l_p txs rfl rfl ?_))))
  refine end1 rfl rfl ?_
  exact ⟨by rw [hn]; first | done | rfl, H.B⟩
end Go.Proofs.YtnimaenhijlcmaaGreatDoor.K
end
section
namespace Go.Proofs.YtnimaenhijlcmaaGreatDoor.K
open Go.RowKit Go.Proofs.YtnimaenhijlcmaaGreatDoor.Q Go.Proofs.YtnimaenhijlcmaaGreatDoor.Mb Go.Proofs.YtnimaenhijlcmaaGreatDoorW.PrintWords
set_option linter.unusedVariables false
set_option linter.unusedSimpArgs false
theorem major_sub (s : L) : ∀ y ∈ (majorS s).1, y ∈ s := by
  have hne := splitC_ne (c := 47) s
  have hsm := split_mem 47 s
  unfold majorS
  generalize splitC 47 s = N at hne hsm ⊢
  cases N with
  | nil => exact absurd rfl hne
  | cons x r =>
    rw [majE_eq x r _ rfl]
    have hz : ∀ y ∈ (x :: r).getLastD [], y ∈ s := by
      rw [List.getLastD_eq_getLast?, List.getLast?_eq_some_getLast hne]
      exact (hsm _ (List.getLast_mem hne)).1
    generalize (x :: r).getLastD [] = z at hz ⊢
    split
    · intro y hy
      refine hz y ((endCut_sub (r := z) (e := unstable)).1 y ?_)
      unfold majG at hy
      rw [← bare_tail ((endCut z unstable).getD z)]
      exact List.mem_append_right _ hy
    · unfold majL
      split
      · intro y hy; cases hy
      · intro y hy; exact hz y (List.mem_of_mem_tail hy)
set_option maxRecDepth 100000 in
set_option maxHeartbeats 8000000 in
theorem fits_c {w : World} {mx : Int} (hM : w.cell? ⟨0, 0, none⟩ = some (.int .i64 mx)) {v : Ver} (hv : VerIn v) (A : Option Addr) (c : Nat) (t : ByteArray) (ht : t.size ≤ 100000000) :
    Calls Tryz.prog 68 #[.agg (verA v A c), .string t] w fun e w' => e = .returned (.bool (fitsV v (bl t))) ∧ Below w.heap.size w w' := by
  refine enter (args := [.agg (verA v A c), .string t]) Tryz.func68 rfl Tryz.ntmps68 rfl ?_
  have H := Hp.nil w
  have bm : Bytes (majorS (bl t)).1 := fun y hy => bl_bytes t y (major_sub _ y hy)
  have hV : fitsV v (bl t) = if (majorS (bl t)).1 ≠ [] then !v.odd && decide (v.a = (majorS (bl t)).1) else v.odd || decide (v.a = [48]) || decide (v.a = [49]) := rfl
  have e48 : bl (⟨#[48]⟩ : ByteArray) = [48] := rfl
  have e49 : bl (⟨#[49]⟩ : ByteArray) = [49] := rfl
  repeat' (with_reducible first | refine wp_seq ?_ | refine w_reg ?_)
  (with_reducible refine is_l ?_); refine h_box H rfl rfl rfl (fun gX w_ H => ?_)
  repeat' (first | (with_reducible first | refine p_tn ?_ | refine wp_seq ?_ | refine w_reg ?_ | refine l_nil ?_) | ((with_reducible refine g_on ?_); (first | ((with_reducible refine g_mv ?_); refine l_p txs rfl rfl ?_) | ((with_reducible refine g_as ?_); refine l_p txs rfl rfl ?_))))
  (with_reducible refine is_l ?_); refine l_callv rfl rfl (by kernel_rfl) (majorOf_c (H.old hM) t ht) (fun w_ K => ?_)
  have H := H.call K
  generalize (majorS (bl t)).1 = m at bm hV ⊢
  repeat' (first | (with_reducible first | refine p_tn ?_ | refine wp_seq ?_ | refine w_reg ?_ | refine l_nil ?_) | ((with_reducible refine g_on ?_); (first | ((with_reducible refine g_mv ?_); refine l_p txs rfl rfl ?_) | ((with_reducible refine g_as ?_); refine l_p txs rfl rfl ?_) | ((with_reducible refine g_ex ?_); refine l_p txs rfl rfl ?_))))
  (with_reducible refine is_l ?_); refine l_t txs rfl rfl (fun h1 => ?_) (fun h1 => ?_)
  · rw [blS bm] at h1
    have h1 : m ≠ [] := h1
    rw [if_pos h1] at hV
    cases ho : v.odd
    · rw [ho] at H hV
      repeat' (first | (with_reducible first | refine p_tn ?_ | refine wp_seq ?_ | refine w_reg ?_) | (with_reducible (refine is_if ?_; (refine w_ift rfl ?_))) | (with_reducible refine l_nil ?_) | ((with_reducible refine g_on ?_); (first | ((with_reducible refine g_mv ?_); refine l_p txs rfl rfl ?_) | ((with_reducible refine g_fa ?_); refine h_fa flds rfl rfl ?_) | ((with_reducible refine g_ld ?_); (refine h_ld txs H 0 rfl rfl rfl rfl ?_)) | ((with_reducible refine g_un ?_); (refine l_p txs rfl rfl ?_)))) | ((with_reducible refine g_if ?_); ((with_reducible refine g_fa ?_); refine h_fa flds rfl rfl ?_)))
      (with_reducible refine is_l ?_); refine l_iaa Tryz.underlying87 info_str1 rfl rfl rfl (by decide) (by decide) ?_
      repeat' ((with_reducible refine g_if ?_); (first | ((with_reducible refine g_mv ?_); refine l_p txs rfl rfl ?_) | ((with_reducible refine g_ld ?_); (refine h_ld txs H 0 rfl rfl rfl rfl ?_))))
      (with_reducible refine is_l ?_); refine l_t txs rfl rfl (fun h2 => ?_) (fun h2 => ?_)
      · rw [blS hv.a.1, blS bm] at h2
        have hn : fitsV v (bl t) = true := by rw [hV, decide_eq_true h2]; rfl
        repeat' (first | (with_reducible first | refine p_tn ?_ | refine p_tr ?_ | refine wp_ret ?_ | refine l_nil ?_) | ((with_reducible refine g_on ?_); (first | ((with_reducible refine g_as ?_); refine l_p txs rfl rfl ?_) | ((with_reducible refine g_pk ?_); refine l_p txs rfl rfl ?_))))
        refine end1 rfl rfl ?_
        exact ⟨by rw [hn]; first | done | rfl, H.B⟩
      · rw [blS hv.a.1, blS bm] at h2
        have hn : fitsV v (bl t) = false := by rw [hV, decide_eq_false h2]; rfl
        repeat' (first | (with_reducible first | refine p_tn ?_ | refine p_tr ?_ | refine wp_ret ?_ | refine l_nil ?_) | ((with_reducible refine g_on ?_); (first | ((with_reducible refine g_as ?_); refine l_p txs rfl rfl ?_) | ((with_reducible refine g_pk ?_); refine l_p txs rfl rfl ?_))))
        refine end1 rfl rfl ?_
        exact ⟨by rw [hn]; first | done | rfl, H.B⟩
    · rw [ho] at H hV
      have hn : fitsV v (bl t) = false := by rw [hV]; rfl
      repeat' (first | (with_reducible first | refine p_tn ?_ | refine p_tr ?_ | refine wp_seq ?_ | refine w_reg ?_) | (with_reducible (refine is_if ?_; (refine w_ift rfl ?_))) | (with_reducible first | refine wp_ret ?_ | refine l_nil ?_) | ((with_reducible refine g_on ?_); (first | ((with_reducible refine g_mv ?_); refine l_p txs rfl rfl ?_) | ((with_reducible refine g_as ?_); refine l_p txs rfl rfl ?_) | ((with_reducible refine g_pk ?_); refine l_p txs rfl rfl ?_) | ((with_reducible refine g_fa ?_); refine h_fa flds rfl rfl ?_) | ((with_reducible refine g_ld ?_); (refine h_ld txs H 0 rfl rfl rfl rfl ?_)) | ((with_reducible refine g_un ?_); (refine l_p txs rfl rfl ?_)))) | ((with_reducible refine g_if ?_); (refine l_off rfl ?_)))
      refine end1 rfl rfl ?_
      exact ⟨by rw [hn]; first | done | rfl, H.B⟩
  · rw [blS bm] at h1
    have h1 : m = [] := Classical.not_not.1 h1
    rw [if_neg (fun h => h h1)] at hV
    cases ho : v.odd
    · rw [ho] at H hV
      repeat' (first | (with_reducible first | refine p_tn ?_ | refine wp_seq ?_ | refine w_reg ?_) | (with_reducible (refine is_if ?_; (refine w_iff rfl ?_))) | (with_reducible first | refine wp_skip ?_ | refine l_nil ?_) | ((with_reducible refine g_on ?_); (first | ((with_reducible refine g_mv ?_); refine l_p txs rfl rfl ?_) | ((with_reducible refine g_fa ?_); refine h_fa flds rfl rfl ?_) | ((with_reducible refine g_ld ?_); (refine h_ld txs H 0 rfl rfl rfl rfl ?_)))) | ((with_reducible refine g_if ?_); ((with_reducible refine g_fa ?_); refine h_fa flds rfl rfl ?_)))
      (with_reducible refine is_l ?_); refine l_iaa Tryz.underlying87 info_str1 rfl rfl rfl (by decide) (by decide) ?_
      repeat' ((with_reducible refine g_if ?_); ((with_reducible refine g_ld ?_); (refine h_ld txs H 0 rfl rfl rfl rfl ?_)))
      (with_reducible refine is_l ?_); refine l_t txs rfl rfl (fun h2 => ?_) (fun h2 => ?_)
      · rw [blS hv.a.1, e48] at h2
        have hn : fitsV v (bl t) = true := by rw [hV, decide_eq_true h2]; simp
        repeat' (first | (with_reducible first | refine p_tn ?_ | refine wp_ret ?_ | refine l_nil ?_) | ((with_reducible refine g_on ?_); (first | ((with_reducible refine g_mv ?_); refine l_p txs rfl rfl ?_) | ((with_reducible refine g_as ?_); refine l_p txs rfl rfl ?_) | ((with_reducible refine g_pk ?_); refine l_p txs rfl rfl ?_))) | ((with_reducible refine g_if ?_); (refine l_off rfl ?_)))
        refine end1 rfl rfl ?_
        exact ⟨by rw [hn]; first | done | rfl, H.B⟩
      · rw [blS hv.a.1, e48] at h2
        repeat' (first | ((with_reducible refine g_on ?_); (first | ((with_reducible refine g_mv ?_); refine l_p txs rfl rfl ?_) | ((with_reducible refine g_pk ?_); refine l_p txs rfl rfl ?_))) | ((with_reducible refine g_if ?_); ((with_reducible refine g_fa ?_); refine h_fa flds rfl rfl ?_)))
        (with_reducible refine is_l ?_); refine l_iaa Tryz.underlying87 info_str1 rfl rfl rfl (by decide) (by decide) ?_
        repeat' ((with_reducible refine g_if ?_); ((with_reducible refine g_ld ?_); (refine h_ld txs H 0 rfl rfl rfl rfl ?_)))
        (with_reducible refine is_l ?_); refine l_t txs rfl rfl (fun h3 => ?_) (fun h3 => ?_)
        · rw [blS hv.a.1, e49] at h3
          have hn : fitsV v (bl t) = true := by rw [hV, decide_eq_true h3]; simp
          repeat' (first | (with_reducible first | refine p_tn ?_ | refine wp_ret ?_ | refine l_nil ?_) | ((with_reducible refine g_on ?_); (first | ((with_reducible refine g_as ?_); refine l_p txs rfl rfl ?_) | ((with_reducible refine g_pk ?_); refine l_p txs rfl rfl ?_))))
          refine end1 rfl rfl ?_
          exact ⟨by rw [hn]; first | done | rfl, H.B⟩
        · rw [blS hv.a.1, e49] at h3
          have hn : fitsV v (bl t) = false := by rw [hV, decide_eq_false h2, decide_eq_false h3]; rfl
          repeat' (first | (with_reducible first | refine p_tn ?_ | refine wp_ret ?_ | refine l_nil ?_) | ((with_reducible refine g_on ?_); (first | ((with_reducible refine g_as ?_); refine l_p txs rfl rfl ?_) | ((with_reducible refine g_pk ?_); refine l_p txs rfl rfl ?_))))
          refine end1 rfl rfl ?_
          exact ⟨by rw [hn]; first | done | rfl, H.B⟩
    · rw [ho] at H hV
      have hn : fitsV v (bl t) = true := by rw [hV]; simp
      repeat' (first | (with_reducible first | refine p_tn ?_ | refine wp_seq ?_ | refine w_reg ?_) | (with_reducible (refine is_if ?_; (refine w_iff rfl ?_))) | (with_reducible first | refine wp_skip ?_ | refine wp_ret ?_ | refine l_nil ?_) | ((with_reducible refine g_on ?_); (first | ((with_reducible refine g_mv ?_); refine l_p txs rfl rfl ?_) | ((with_reducible refine g_as ?_); refine l_p txs rfl rfl ?_) | ((with_reducible refine g_pk ?_); refine l_p txs rfl rfl ?_) | ((with_reducible refine g_fa ?_); refine h_fa flds rfl rfl ?_) | ((with_reducible refine g_ld ?_); (refine h_ld txs H 0 rfl rfl rfl rfl ?_)))) | ((with_reducible refine g_if ?_); (refine l_off rfl ?_)))
      refine end1 rfl rfl ?_
      exact ⟨by rw [hn]; first | done | rfl, H.B⟩
structure Lay (w : World) : Prop where
  mxs : ∃ mx, w.cell? ⟨0, 0, none⟩ = some (.int .i64 mx)
  mks : ∃ t fr, w.heap[1]? = some (.cells mkC t fr)
  des : ∃ t fr, w.heap[2]? = some (.cells deC t fr)
theorem Lay.below {w w' : World} (h : Lay w) (K : Below w.heap.size w w') : Lay w' := by
  obtain ⟨⟨m, hm⟩, ⟨t1, f1, h1⟩, ⟨t2, f2, h2⟩⟩ := h
  exact ⟨⟨m, (Hp.nil w |>.call K).old hm⟩, ⟨t1, f1, (K.block _ (blk_lt h1)).trans h1⟩, ⟨t2, f2, (K.block _ (blk_lt h2)).trans h2⟩⟩
set_option maxHeartbeats 8000000 in
theorem check_c {w : World} (hL : Lay w) (t u : ByteArray) :
    Calls Tryz.prog 39 #[.string t, .string u] w fun e w' => e = .returned (.int .i64 (checkS (bl t) (bl u) : Int)) ∧ Below w.heap.size w w' := by
  obtain ⟨⟨mx, hM⟩, ⟨t1, fr1, hT⟩, ⟨t2, fr2, hD⟩⟩ := hL
  refine enter (args := [.string t, .string u]) Tryz.func39 rfl Tryz.ntmps39 rfl ?_
  have H := Hp.nil w
  have hV : checkS (bl t) (bl u) = if pathS (bl t) = false then 110 else match parseV (bl u) with | none => 111 | some x => if fitsV x (bl t) then 0 else 111 := rfl
  repeat' (first | (with_reducible first | refine p_tn ?_ | refine wp_seq ?_ | refine w_reg ?_ | refine l_nil ?_) | ((with_reducible refine g_on ?_); (first | ((with_reducible refine g_mv ?_); refine l_p txs rfl rfl ?_) | ((with_reducible refine g_as ?_); refine l_p txs rfl rfl ?_))))
  (with_reducible refine is_l ?_); refine l_callv rfl rfl (by kernel_rfl) (isPath_c hM hT hD t) (fun w_ K => ?_)
  have H := H.call K
  cases hp : pathS (bl t)
  · rw [if_pos hp] at hV
    have hn := hV
    repeat' (first | (with_reducible first | refine p_tn ?_ | refine p_tr ?_ | refine wp_seq ?_ | refine w_reg ?_) | (with_reducible (refine is_if ?_; (refine w_ift rfl ?_))) | (with_reducible first | refine wp_ret ?_ | refine l_nil ?_) | ((with_reducible refine g_on ?_); (first | ((with_reducible refine g_as ?_); refine l_p txs rfl rfl ?_) | ((with_reducible refine g_un ?_); (refine l_p txs rfl rfl ?_)))))
    refine end1 rfl rfl ?_
    exact ⟨by rw [hn]; first | done | rfl, H.B⟩
  rw [if_neg (by rw [hp]; simp)] at hV
  have htl : t.size ≤ 255 := by rw [← bl_length]; exact (path_ne hp).2
  repeat' (first | (with_reducible first | refine p_tn ?_ | refine wp_seq ?_ | refine w_reg ?_) | (with_reducible (refine is_if ?_; (refine w_iff rfl ?_))) | (with_reducible first | refine wp_skip ?_ | refine l_nil ?_) | ((with_reducible refine g_on ?_); (first | ((with_reducible refine g_mv ?_); refine l_p txs rfl rfl ?_) | ((with_reducible refine g_un ?_); (refine l_p txs rfl rfl ?_)))))
  (with_reducible refine is_l ?_); refine l_call rfl rfl (by kernel_rfl) (parse_c (H.old hM) u) (fun e w_ hR => ?_)
  unfold PaR at hR
  cases hq : parseV (bl u) with
  | none =>
    rw [hq] at hR hV
    obtain ⟨x, y, z, A, n, c, b, rfl, K⟩ := hR
    refine ⟨_, rfl, ?_⟩
    have H := H.call K
    have hn : checkS (bl t) (bl u) = 111 := hV
    repeat' (first | (with_reducible first | refine p_tn ?_ | refine p_tr ?_ | refine wp_seq ?_ | refine w_reg ?_) | (with_reducible (refine is_if ?_; (refine w_ift rfl ?_))) | (with_reducible first | refine wp_ret ?_ | refine l_nil ?_) | ((with_reducible refine g_on ?_); (first | ((with_reducible refine g_mv ?_); refine l_p txs rfl rfl ?_) | ((with_reducible refine g_as ?_); refine l_p txs rfl rfl ?_) | ((with_reducible refine g_ex ?_); refine l_p txs rfl rfl ?_) | ((with_reducible refine g_pk ?_); refine l_p txs rfl rfl ?_) | ((with_reducible refine g_st ?_); (refine h_stR recs H 0 rfl rfl rfl rfl rfl rfl rfl rfl rfl (fun w_ H => ?_))) | ((with_reducible refine g_al ?_); refine h_alloc recs H rfl rfl (fun g_ w_ H => ?_)) | ((with_reducible refine g_un ?_); (refine l_p txs rfl rfl ?_)))) | ((with_reducible refine g_if ?_); (refine l_off rfl ?_)))
    refine end1 rfl rfl ?_
    exact ⟨by rw [hn]; first | done | rfl, H.B⟩
  | some v =>
    rw [hq] at hR hV
    obtain ⟨A, c, rfl, K⟩ := hR
    refine ⟨_, rfl, ?_⟩
    have H := H.join K
    have hV : checkS (bl t) (bl u) = if fitsV v (bl t) = true then 0 else 111 := hV
    repeat' (first | (with_reducible first | refine p_tn ?_ | refine wp_seq ?_ | refine w_reg ?_ | refine l_nil ?_) | ((with_reducible refine g_on ?_); (first | ((with_reducible refine g_mv ?_); refine l_p txs rfl rfl ?_) | ((with_reducible refine g_as ?_); refine l_p txs rfl rfl ?_) | ((with_reducible refine g_ex ?_); refine l_p txs rfl rfl ?_) | ((with_reducible refine g_st ?_); (refine h_stR recs H 0 rfl rfl rfl rfl rfl rfl rfl rfl rfl (fun w_ H => ?_))) | ((with_reducible refine g_al ?_); refine h_alloc recs H rfl rfl (fun g_ w_ H => ?_)) | ((with_reducible refine g_un ?_); (refine l_p txs rfl rfl ?_)))) | ((with_reducible refine g_if ?_); (first | ((with_reducible refine g_mv ?_); refine l_p txs rfl rfl ?_) | ((with_reducible refine g_ld ?_); (refine h_ldR recs H 0 rfl rfl rfl rfl rfl ?_)))))
    (with_reducible refine is_l ?_); refine l_callv rfl rfl (by kernel_rfl) (fits_c (H.old hM) (ver_in hq) A c t (by omega)) (fun w_ K => ?_)
    have H := H.call K
    cases hf : fitsV v (bl t)
    · have hn : checkS (bl t) (bl u) = 111 := by rw [hV, hf]; rfl
      repeat' (first | (with_reducible first | refine p_tn ?_ | refine p_tr ?_ | refine wp_seq ?_ | refine w_reg ?_) | (with_reducible (refine is_if ?_; (refine w_ift rfl ?_))) | (with_reducible first | refine wp_ret ?_ | refine l_nil ?_) | ((with_reducible refine g_on ?_); (first | ((with_reducible refine g_as ?_); refine l_p txs rfl rfl ?_) | ((with_reducible refine g_pk ?_); refine l_p txs rfl rfl ?_))) | ((with_reducible refine g_if ?_); ((with_reducible refine g_un ?_); (refine l_p txs rfl rfl ?_))))
      refine end1 rfl rfl ?_
      exact ⟨by rw [hn]; first | done | rfl, H.B⟩
    · have hn : checkS (bl t) (bl u) = 0 := by rw [hV, hf]; rfl
      repeat' (first | (with_reducible first | refine p_tn ?_ | refine wp_seq ?_ | refine w_reg ?_) | (with_reducible (refine is_if ?_; (refine w_iff rfl ?_))) | (with_reducible first | refine wp_skip ?_ | refine wp_ret ?_ | refine l_nil ?_) | ((with_reducible refine g_on ?_); (first | ((with_reducible refine g_as ?_); refine l_p txs rfl rfl ?_) | ((with_reducible refine g_pk ?_); refine l_p txs rfl rfl ?_))) | ((with_reducible refine g_if ?_); ((with_reducible refine g_un ?_); (refine l_p txs rfl rfl ?_))))
      refine end1 rfl rfl ?_
      exact ⟨by rw [hn]; first | done | rfl, H.B⟩
def keyT (t u : ByteArray) : ByteArray := if checkS (bl t) (bl u) = 0 then t ++ ⟨#[64]⟩ ++ u else ⟨#[]⟩
theorem Key_c {w : World} (hL : Lay w) (t u : ByteArray) :
    Calls Tryz.prog 21 #[.string t, .string u] w fun e w' => e = .returned (.tuple #[.string (keyT t u), .int .i64 (checkS (bl t) (bl u) : Int)]) ∧ Below w.heap.size w w' := by
  refine enter (args := [.string t, .string u]) Tryz.func21 rfl Tryz.ntmps21 rfl ?_
  have H := Hp.nil w
  repeat' (first | (with_reducible first | refine p_tn ?_ | refine wp_seq ?_ | refine w_reg ?_ | refine l_nil ?_) | ((with_reducible refine g_on ?_); (first | ((with_reducible refine g_mv ?_); refine l_p txs rfl rfl ?_) | ((with_reducible refine g_as ?_); refine l_p txs rfl rfl ?_))))
  (with_reducible refine is_l ?_); refine l_callv rfl rfl (by kernel_rfl) (check_c hL t u) (fun w_ K => ?_)
  have H := H.call K
  have hsm : checkS (bl t) (bl u) = 0 → t.size ≤ 255 ∧ u.size ≤ 128 := fun h => by
    obtain ⟨h1, x, h2, _⟩ := check_ok h
    rw [← bl_length, ← bl_length]
    exact ⟨(path_ne h1).2, (ver_no h2).2.2.2.2.2.2⟩
  unfold keyT
  generalize checkS (bl t) (bl u) = k at hsm ⊢
  repeat' (first | (with_reducible first | refine p_tn ?_ | refine wp_seq ?_ | refine w_reg ?_ | refine l_nil ?_) | ((with_reducible refine g_on ?_); (first | ((with_reducible refine g_mv ?_); refine l_p txs rfl rfl ?_) | ((with_reducible refine g_as ?_); refine l_p txs rfl rfl ?_))))
  (with_reducible refine is_l ?_); refine l_t txs rfl rfl (fun h1 => ?_) (fun h1 => ?_)
  · repeat' (first | (with_reducible first | refine p_tn ?_ | refine p_tr ?_ | refine wp_seq ?_ | refine w_reg ?_) | (with_reducible (refine is_if ?_; (refine w_ift rfl ?_))) | (with_reducible first | refine wp_ret ?_ | refine l_nil ?_) | ((with_reducible refine g_on ?_); (first | ((with_reducible refine g_mv ?_); refine l_p txs rfl rfl ?_) | ((with_reducible refine g_as ?_); refine l_p txs rfl rfl ?_))))
    refine end2 rfl rfl rfl ?_
    exact ⟨by rw [if_neg (by omega)], H.B⟩
  · have h0 : k = 0 := by omega
    subst h0
    obtain ⟨hts, hus⟩ := hsm rfl
    have hz1 : (⟨#[64]⟩ : ByteArray).size = 1 := rfl
    repeat' (first | (with_reducible first | refine p_tn ?_ | refine wp_seq ?_ | refine w_reg ?_) | (with_reducible (refine is_if ?_; (refine w_iff rfl ?_))) | (with_reducible first | refine wp_skip ?_ | refine l_nil ?_) | ((with_reducible refine g_on ?_); ((with_reducible refine g_mv ?_); refine l_p txs rfl rfl ?_)))
    (with_reducible refine is_l ?_); refine l_cat rfl rfl (by omega) ?_
    repeat' ((with_reducible refine g_on ?_); ((with_reducible refine g_mv ?_); refine l_p txs rfl rfl ?_))
    (with_reducible refine is_l ?_); refine l_cat rfl rfl (by rw [ByteArray.size_append]; omega) ?_
    repeat' (first | (with_reducible first | refine p_tn ?_ | refine wp_ret ?_ | refine l_nil ?_) | ((with_reducible refine g_on ?_); ((with_reducible refine g_as ?_); refine l_p txs rfl rfl ?_)))
    refine end2 rfl rfl rfl ?_
    exact ⟨by rw [if_pos rfl]; rfl, H.B⟩
end Go.Proofs.YtnimaenhijlcmaaGreatDoor.K
end
section
namespace Go.Proofs.YtnimaenhijlcmaaGreatDoor.K
open Go.RowKit Go.Proofs.YtnimaenhijlcmaaGreatDoor.Q Go.Proofs.YtnimaenhijlcmaaGreatDoor.Mb Go.Proofs.YtnimaenhijlcmaaGreatDoorW.PrintWords
set_option linter.unusedVariables false
set_option linter.unusedSimpArgs false
set_option maxRecDepth 100000 in
set_option maxHeartbeats 4000000 in
theorem known_c {w : World} (hL : Lay w) : Calls Tryz.prog 9 #[] w fun e w' => e = .returned (.bool true) ∧ Below w.heap.size w w' := by
  have ek : checkS (bl ⟨#[97, 46, 99, 111, 109, 47, 98]⟩) (bl ⟨#[118, 49, 46, 50, 46, 51]⟩) = 0 := by decide +kernel
  have et : keyT ⟨#[97, 46, 99, 111, 109, 47, 98]⟩ ⟨#[118, 49, 46, 50, 46, 51]⟩ = ⟨#[97, 46, 99, 111, 109, 47, 98, 64, 118, 49, 46, 50, 46, 51]⟩ := by unfold keyT; rw [if_pos ek]; decide +kernel
  have ec : compareS (bl ⟨#[118, 49, 46, 50, 46, 51]⟩) (bl ⟨#[118, 49, 46, 49, 48, 46, 48]⟩) = -1 := by decide +kernel
  refine enter (args := []) Tryz.func9 rfl Tryz.ntmps9 rfl ?_
  have H := Hp.nil w
  repeat' (first | (with_reducible first | refine p_tn ?_ | refine wp_seq ?_ | refine w_reg ?_ | refine l_nil ?_) | ((with_reducible refine g_on ?_); ((with_reducible refine g_as ?_); refine l_p txs rfl rfl ?_)))
  have hk := Key_c hL ⟨#[97, 46, 99, 111, 109, 47, 98]⟩ ⟨#[118, 49, 46, 50, 46, 51]⟩
  rw [ek, et] at hk
  (with_reducible refine is_l ?_); refine l_callv rfl rfl (by kernel_rfl) hk (fun w_ K => ?_)
  have H := H.call K
  repeat' (first | (with_reducible first | refine p_tn ?_ | refine wp_seq ?_ | refine w_reg ?_ | refine l_nil ?_) | ((with_reducible refine g_on ?_); (first | ((with_reducible refine g_mv ?_); refine l_p txs rfl rfl ?_) | ((with_reducible refine g_as ?_); refine l_p txs rfl rfl ?_) | ((with_reducible refine g_ex ?_); refine l_p txs rfl rfl ?_))))
  (with_reducible refine is_l ?_); refine l_t txs rfl rfl (fun _ => ?_) (fun h => absurd rfl h)
  repeat' (first | ((with_reducible refine g_on ?_); ((with_reducible refine g_mv ?_); refine l_p txs rfl rfl ?_)) | ((with_reducible refine g_if ?_); ((with_reducible refine g_mv ?_); refine l_p txs rfl rfl ?_)))
  (with_reducible refine is_l ?_); refine l_t txs rfl rfl (fun _ => ?_) (fun h => absurd rfl h)
  repeat' ((with_reducible refine g_on ?_); (first | ((with_reducible refine g_mv ?_); refine l_p txs rfl rfl ?_) | ((with_reducible refine g_pk ?_); refine l_p txs rfl rfl ?_)))
  obtain ⟨⟨mx, hM⟩, _, _⟩ := hL
  have hc := Compare_c (H.old hM) ⟨#[118, 49, 46, 50, 46, 51]⟩ ⟨#[118, 49, 46, 49, 48, 46, 48]⟩
  rw [ec] at hc
  (with_reducible refine is_l ?_); refine l_callv rfl rfl (by kernel_rfl) hc (fun w_ K => ?_)
  have H := H.call K
  skip
  (with_reducible refine is_l ?_); refine l_t txs rfl rfl (fun _ => ?_) (fun h => absurd rfl h)
  repeat' (first | (with_reducible first | refine p_tn ?_ | refine wp_ret ?_ | refine l_nil ?_) | ((with_reducible refine g_on ?_); (first | ((with_reducible refine g_as ?_); refine l_p txs rfl rfl ?_) | ((with_reducible refine g_pk ?_); refine l_p txs rfl rfl ?_))))
  refine end1 rfl rfl ?_
  exact ⟨rfl, H.B⟩
end Go.Proofs.YtnimaenhijlcmaaGreatDoor.K
end
section
namespace Go.Proofs.YtnimaenhijlcmaaGreatDoor.K.Ref
open Go.RowKit Go.Proofs.YtnimaenhijlcmaaGreatDoor.Q Go.Proofs.YtnimaenhijlcmaaGreatDoor.K Go.Proofs.YtnimaenhijlcmaaGreatDoor.Mb Go.Proofs.YtnimaenhijlcmaaGreatDoorW.PrintWords
set_option linter.unusedVariables false
set_option linter.unusedSimpArgs false
set_option maxHeartbeats 2000000 in
theorem small_c (c : Int) (w : World) : Calls Tryz.prog 143 #[.int .u8 c] w fun e w' => e = .returned (.bool (smlB c)) ∧ w' = w := by
  refine enter (args := [.int .u8 c]) Tryz.func143 rfl Tryz.ntmps143 rfl ?_
  repeat' (first | (with_reducible first | refine p_tn ?_ | refine wp_seq ?_ | refine w_reg ?_ | refine wp_ret ?_ | refine l_nil ?_) | (with_reducible (refine is_l ?_; (first | (refine l_off rfl ?_) | (refine l_p tys rfl rfl ?_) | (refine l_t tys rfl rfl (fun _ => ?_) (fun _ => ?_))))))
  all_goals (refine end1 rfl rfl ?_; exact ⟨by simp [smlB, *], rfl⟩)
set_option maxHeartbeats 2000000 in
theorem capital_c (c : Int) (w : World) : Calls Tryz.prog 144 #[.int .u8 c] w fun e w' => e = .returned (.bool (capB c)) ∧ w' = w := by
  refine enter (args := [.int .u8 c]) Tryz.func144 rfl Tryz.ntmps144 rfl ?_
  repeat' (first | (with_reducible first | refine p_tn ?_ | refine wp_seq ?_ | refine w_reg ?_ | refine wp_ret ?_ | refine l_nil ?_) | (with_reducible (refine is_l ?_; (first | (refine l_off rfl ?_) | (refine l_p tys rfl rfl ?_) | (refine l_t tys rfl rfl (fun _ => ?_) (fun _ => ?_))))))
  all_goals (refine end1 rfl rfl ?_; exact ⟨by simp [capB, *], rfl⟩)
set_option maxHeartbeats 2000000 in
theorem digit_c (c : Int) (w : World) : Calls Tryz.prog 145 #[.int .u8 c] w fun e w' => e = .returned (.bool (digB c)) ∧ w' = w := by
  refine enter (args := [.int .u8 c]) Tryz.func145 rfl Tryz.ntmps145 rfl ?_
  repeat' (first | (with_reducible first | refine p_tn ?_ | refine wp_seq ?_ | refine w_reg ?_ | refine wp_ret ?_ | refine l_nil ?_) | (with_reducible (refine is_l ?_; (first | (refine l_off rfl ?_) | (refine l_p tys rfl rfl ?_) | (refine l_t tys rfl rfl (fun _ => ?_) (fun _ => ?_))))))
  all_goals (refine end1 rfl rfl ?_; exact ⟨by simp [digB, *], rfl⟩)
theorem strC_snoc (l : List L) (x : L) : strC (l ++ [x]) = strC l ++ [.string (strOfNums x)] := by simp [strC]
theorem bl_ext (s : ByteArray) (a b : Nat) : Value.string (s.extract a b) = .string (strOfNums (((bl s).drop a).take (b - a))) := by rw [← blE, strS]
theorem split_at {l : L} {a i : Nat} {x : Int} (hai : a ≤ i) (hx : l[i]? = some x) : l.drop a = (l.drop a).take (i - a) ++ x :: l.drop (i + 1) := by
  have hi : i < l.length := (List.getElem?_eq_some_iff.1 hx).1
  have h1 := List.take_append_drop (i - a) (l.drop a)
  rw [List.drop_drop, show a + (i - a) = i by omega, List.drop_eq_getElem_cons hi] at h1
  rw [(List.getElem?_eq_some_iff.1 hx).2] at h1
  exact h1.symm
theorem take_at {l : L} {a i : Nat} {x : Int} (hai : a ≤ i) (hx : l[i]? = some x) : (l.drop a).take (i + 1 - a) = (l.drop a).take (i - a) ++ [x] := by
  have hi : i < l.length := (List.getElem?_eq_some_iff.1 hx).1
  rw [show i + 1 - a = (i - a) + 1 by omega, List.take_succ_eq_append_getElem (by rw [List.length_drop]; omega)]
  congr 2
  rw [List.getElem_drop]
  have := (List.getElem?_eq_some_iff.1 hx).2
  simp only [show a + (i - a) = i by omega]
  exact this
theorem at_of {l : L} {i : Nat} {x : Int} (hx : l[i]? = some x) : at_ l (i : Int) = x := by unfold at_; rw [Int.toNat_natCast, List.getD_eq_getElem?_getD, hx]; rfl
def digsB (s : L) : Bool := s.all digB && !s.isEmpty
set_option maxHeartbeats 4000000 in
theorem digits_c (t : ByteArray) (w : World) (ht : t.size ≤ 100000000) : Calls Tryz.prog 147 #[.string t] w fun e w' => e = .returned (.bool (digsB (bl t))) ∧ w' = w := by
  have hlen := bl_length t
  refine enter (args := [.string t]) Tryz.func147 rfl Tryz.ntmps147 rfl ?_
  have H := Hp.nil w
  repeat' (first | (with_reducible first | refine p_tn ?_ | refine wp_seq ?_ | refine wp_block ?_ | refine w_reg ?_ | refine l_nil ?_) | ((with_reducible refine g_on ?_); ((with_reducible refine g_as ?_); refine l_p txs rfl rfl ?_)))
  refine w_loop (σ := Nat) (S := fun s => [(0, .string t), (3, .int .i64 (s : Int))]) (J := fun s w' => w' = w ∧ s ≤ t.size ∧ ((bl t).take s).all digB = true) (μ := fun s => t.size - s) 0 ⟨rfl, rfl, trivial⟩ ⟨rfl, by omega, by simp⟩ ?_
  rintro i f w_ ⟨rfl, hi, ha⟩
  repeat' (first | (with_reducible first | refine wp_seq ?_ | refine w_reg ?_) | ((with_reducible refine g_on ?_); (first | ((with_reducible refine g_mv ?_); refine l_p txs rfl rfl ?_) | ((with_reducible refine g_cl ?_); refine l_p txs rfl rfl ?_))))
  (with_reducible refine is_l ?_); refine l_t txs rfl rfl (fun hlt => ?_) (fun hge => ?_)
  · obtain ⟨x, hx⟩ : ∃ x, (bl t)[i]? = some x := ⟨_, List.getElem?_eq_getElem (by omega)⟩
    have hat := at_of hx
    repeat' (first | (with_reducible first | refine p_tn ?_ | refine wp_seq ?_ | refine wp_block ?_ | refine w_reg ?_) | (with_reducible (refine is_if ?_; (refine w_ift rfl ?_))) | (with_reducible first | refine wp_skip ?_ | refine l_nil ?_) | ((with_reducible refine g_on ?_); (first | ((with_reducible refine g_mv ?_); refine l_p txs rfl rfl ?_) | ((with_reducible refine g_ix ?_); refine l_ix txs rfl rfl (by first | omega | assumption | decide) (by first | omega | assumption | decide) ?_))))
    rw [hat]
    skip
    (with_reducible refine is_l ?_); refine l_callp rfl rfl (by kernel_rfl) (digit_c x _) ?_
    cases hd : digB x
    · have hn : digsB (bl t) = false := by unfold digsB; rw [not_all hx hd]; rfl
      repeat' (first | (with_reducible first | refine p_tn ?_ | refine p_tr ?_ | refine p_br ?_ | refine wp_seq ?_ | refine w_reg ?_) | (with_reducible (refine is_if ?_; (refine w_ift rfl ?_))) | (with_reducible first | refine wp_ret ?_ | refine l_nil ?_) | ((with_reducible refine g_on ?_); (first | ((with_reducible refine g_as ?_); refine l_p txs rfl rfl ?_) | ((with_reducible refine g_un ?_); (refine l_p txs rfl rfl ?_)))))
      refine end1 rfl rfl ?_
      exact ⟨by rw [hn], rfl⟩
    · repeat' (first | (with_reducible first | refine p_tn ?_ | refine p_bn ?_ | refine w_reg ?_) | (with_reducible (refine is_if ?_; (refine w_iff rfl ?_))) | (with_reducible first | refine wp_skip ?_ | refine l_nil ?_) | ((with_reducible refine g_on ?_); (first | ((with_reducible refine g_mv ?_); refine l_p txs rfl rfl ?_) | ((with_reducible refine g_as ?_); refine l_p txs rfl rfl ?_) | ((with_reducible refine g_un ?_); (refine l_p txs rfl rfl ?_)) | ((with_reducible refine g_bi ?_); (refine l_a txs rfl rfl (by first | exact in_i64 (by omega) (by omega) | exact in_u8 (by omega) (by omega) | exact in_u64 (by omega) (by omega) | exact in_i32 (by omega) (by omega)) ?_)))))
      exact ⟨i + 1, _, rfl, ⟨rfl, rfl, trivial⟩, ⟨rfl, by omega, take_all hx hd ha⟩, by omega⟩
  · have hall : (bl t).all digB = true := by rw [← List.take_of_length_le (l := bl t) (i := i) (by omega)]; exact ha
    repeat' (first | (with_reducible first | refine p_tn ?_ | refine p_tx ?_ | refine x_hit ?_ | refine wp_seq ?_ | refine w_reg ?_) | (with_reducible (refine is_if ?_; (refine w_iff rfl ?_))) | (with_reducible first | refine wp_exit ?_ | refine l_nil ?_) | ((with_reducible refine g_on ?_); ((with_reducible refine g_mv ?_); refine l_p txs rfl rfl ?_)))
    (with_reducible refine is_l ?_); refine l_t txs rfl rfl (fun h1 => ?_) (fun h1 => ?_)
    · have h1 : bl t ≠ [] := h1
      repeat' (first | (with_reducible first | refine p_tn ?_ | refine wp_ret ?_ | refine l_nil ?_) | ((with_reducible refine g_on ?_); ((with_reducible refine g_as ?_); refine l_p txs rfl rfl ?_)))
      refine end1 rfl rfl ?_
      exact ⟨by unfold digsB; rw [hall]; simp [h1], rfl⟩
    · have h1 : bl t = [] := Classical.not_not.1 h1
      repeat' (first | (with_reducible first | refine p_tn ?_ | refine wp_ret ?_ | refine l_nil ?_) | ((with_reducible refine g_on ?_); ((with_reducible refine g_as ?_); refine l_p txs rfl rfl ?_)))
      refine end1 rfl rfl ?_
      exact ⟨by unfold digsB; rw [h1]; rfl, rfl⟩
theorem numB_digs (s : L) : numB s = (digsB s && (decide (s = [48]) || decide (s.head? ≠ some 48))) := rfl
theorem head_at {s : L} (h : s ≠ []) : s.head? = some (at_ s 0) := by
  unfold at_
  cases s with
  | nil => exact absurd rfl h
  | cons x r => rfl
set_option maxHeartbeats 4000000 in
theorem number_c (t : ByteArray) (w : World) (ht : t.size ≤ 100000000) : Calls Tryz.prog 115 #[.string t] w fun e w' => e = .returned (.bool (numB (bl t))) ∧ w' = w := by
  have hlen := bl_length t
  refine enter (args := [.string t]) Tryz.func115 rfl Tryz.ntmps115 rfl ?_
  have H := Hp.nil w
  rw [numB_digs]
  repeat' (first | (with_reducible first | refine p_tn ?_ | refine wp_seq ?_ | refine w_reg ?_ | refine l_nil ?_) | ((with_reducible refine g_on ?_); (first | ((with_reducible refine g_mv ?_); refine l_p txs rfl rfl ?_) | ((with_reducible refine g_as ?_); refine l_p txs rfl rfl ?_))))
  (with_reducible refine is_l ?_); refine l_callp rfl rfl (by kernel_rfl) (digits_c t _ ht) ?_
  cases hd : digsB (bl t)
  · repeat' (first | (with_reducible first | refine p_tn ?_ | refine wp_ret ?_ | refine l_nil ?_) | ((with_reducible refine g_on ?_); (first | ((with_reducible refine g_mv ?_); refine l_p txs rfl rfl ?_) | ((with_reducible refine g_as ?_); refine l_p txs rfl rfl ?_) | ((with_reducible refine g_pk ?_); refine l_p txs rfl rfl ?_))) | ((with_reducible refine g_if ?_); (refine l_off rfl ?_)))
    refine end1 rfl rfl ?_
    exact ⟨rfl, rfl⟩
  · have hne : bl t ≠ [] := fun e => by rw [e] at hd; cases hd
    have hpos : 0 < t.size := by rw [← hlen]; exact List.length_pos_iff.2 hne
    have hh := head_at hne
    repeat' (first | ((with_reducible refine g_on ?_); ((with_reducible refine g_mv ?_); refine l_p txs rfl rfl ?_)) | ((with_reducible refine g_if ?_); ((with_reducible refine g_mv ?_); refine l_p txs rfl rfl ?_)))
    (with_reducible refine is_l ?_); refine l_t txs rfl rfl (fun h2 => ?_) (fun h2 => ?_)
    · have h2 : bl t = [48] := h2
      repeat' (first | (with_reducible first | refine p_tn ?_ | refine wp_ret ?_ | refine l_nil ?_) | ((with_reducible refine g_on ?_); (first | ((with_reducible refine g_as ?_); refine l_p txs rfl rfl ?_) | ((with_reducible refine g_pk ?_); refine l_p txs rfl rfl ?_))) | ((with_reducible refine g_if ?_); (first | (refine l_off rfl ?_) | ((with_reducible refine g_mv ?_); refine l_p txs rfl rfl ?_) | ((with_reducible refine g_pk ?_); refine l_p txs rfl rfl ?_))))
      refine end1 rfl rfl ?_
      exact ⟨by simp [h2], rfl⟩
    · have h2 : ¬ bl t = [48] := h2
      repeat' ((with_reducible refine g_if ?_); (first | ((with_reducible refine g_mv ?_); refine l_p txs rfl rfl ?_) | ((with_reducible refine g_ix ?_); refine l_ix txs rfl rfl (by first | omega | assumption | decide) (by first | omega | assumption | decide) ?_)))
      (with_reducible refine is_l ?_); refine l_t txs rfl rfl (fun h3 => ?_) (fun h3 => ?_)
      · repeat' (first | (with_reducible first | refine p_tn ?_ | refine wp_ret ?_ | refine l_nil ?_) | ((with_reducible refine g_on ?_); (first | ((with_reducible refine g_as ?_); refine l_p txs rfl rfl ?_) | ((with_reducible refine g_pk ?_); refine l_p txs rfl rfl ?_))) | ((with_reducible refine g_if ?_); ((with_reducible refine g_pk ?_); refine l_p txs rfl rfl ?_)))
        refine end1 rfl rfl ?_
        exact ⟨by rw [hh]; simp [h3], rfl⟩
      · have h3 : at_ (bl t) 0 = 48 := Classical.not_not.1 h3
        repeat' (first | (with_reducible first | refine p_tn ?_ | refine wp_ret ?_ | refine l_nil ?_) | ((with_reducible refine g_on ?_); (first | ((with_reducible refine g_as ?_); refine l_p txs rfl rfl ?_) | ((with_reducible refine g_pk ?_); refine l_p txs rfl rfl ?_))) | ((with_reducible refine g_if ?_); ((with_reducible refine g_pk ?_); refine l_p txs rfl rfl ?_)))
        refine end1 rfl rfl ?_
        exact ⟨by rw [hh, h3]; simp [h2], rfl⟩
set_option maxHeartbeats 4000000 in
theorem pieces_c (s : ByteArray) (c : Int) (w : World) (hs : s.size ≤ 100000000) : Calls Tryz.prog 47 #[.string s, .int .u8 c] w fun e w' => ∃ A1 c1, e = .returned (.slice A1 (splitC c (bl s)).length c1) ∧ Hp w w' [] [rowT (.slice A1 (splitC c (bl s)).length c1) (splitC c (bl s))] := by
  refine enter (args := [.string s, .int .u8 c]) Tryz.func47 rfl Tryz.ntmps47 rfl ?_
  have hbl := bl_length s
  have H := (Hp.nil w).nilRow 9 1
  repeat' (first | (with_reducible first | refine p_tn ?_ | refine wp_seq ?_ | refine wp_block ?_ | refine w_reg ?_ | refine l_nil ?_) | ((with_reducible refine g_on ?_); ((with_reducible refine g_as ?_); refine l_p txs rfl rfl ?_)))
  refine w_loop (σ := (Nat × Nat) × List L × Option Addr × Nat) (S := fun t => [(0, .string s), (1, .int .u8 c), (5, .slice t.2.2.1 t.2.1.length t.2.2.2), (6, .int .i64 (t.1.1 : Int)), (7, .int .i64 (t.1.2 : Int))])
    (J := fun t w' => Hp w w' [] [rowT (.slice t.2.2.1 t.2.1.length t.2.2.2) t.2.1] ∧ t.1.1 ≤ t.1.2 ∧ t.1.2 ≤ s.size ∧ t.2.1.length ≤ t.1.1 ∧ c ∉ ((bl s).drop t.1.1).take (t.1.2 - t.1.1) ∧ splitC c (bl s) = t.2.1 ++ splitC c ((bl s).drop t.1.1)) (μ := fun t => s.size - t.1.2) ((0, 0), [], none, 0) ⟨rfl, rfl, rfl, rfl, rfl, trivial⟩ ⟨H, Nat.le_refl _, Nat.zero_le _, Nat.le_refl _, by simp, rfl⟩ ?_
  rintro ⟨⟨a, i⟩, acc, A2, c2⟩ f w_ ⟨H, hai, hi, hac, hno, hD⟩
  simp only at H hai hi hac hno hD ⊢
  repeat' (first | (with_reducible first | refine wp_seq ?_ | refine w_reg ?_) | ((with_reducible refine g_on ?_); (first | ((with_reducible refine g_mv ?_); refine l_p txs rfl rfl ?_) | ((with_reducible refine g_cl ?_); refine l_p txs rfl rfl ?_))))
  (with_reducible refine is_l ?_); refine l_t txs rfl rfl (fun hlt => ?_) (fun hge => ?_)
  · obtain ⟨x, hx⟩ : ∃ x, (bl s)[i]? = some x := ⟨_, List.getElem?_eq_getElem (by omega)⟩
    have hat := at_of hx
    have hsp := split_at hai hx
    have hta := take_at hai hx
    repeat' (first | (with_reducible first | refine p_tn ?_ | refine wp_seq ?_ | refine wp_block ?_ | refine w_reg ?_) | (with_reducible (refine is_if ?_; (refine w_ift rfl ?_))) | (with_reducible first | refine wp_skip ?_ | refine l_nil ?_) | ((with_reducible refine g_on ?_); (first | ((with_reducible refine g_mv ?_); refine l_p txs rfl rfl ?_) | ((with_reducible refine g_ix ?_); refine l_ix txs rfl rfl (by first | omega | assumption | decide) (by first | omega | assumption | decide) ?_))))
    rw [hat]
    skip
    (with_reducible refine is_l ?_); refine l_t txs rfl rfl (fun he => ?_) (fun he => ?_)
    · subst he
      rw [hsp, splitC_cut _ hno] at hD
      repeat' (first | (with_reducible first | refine p_tn ?_ | refine wp_seq ?_ | refine w_reg ?_) | (with_reducible (refine is_if ?_; (refine w_ift rfl ?_))) | (with_reducible refine l_nil ?_) | ((with_reducible refine g_on ?_); (first | ((with_reducible refine g_mv ?_); refine l_p txs rfl rfl ?_) | ((with_reducible refine g_sl ?_); refine l_sl txs rfl rfl (by first | omega | assumption | decide) (by first | omega | assumption | decide) (by first | omega | assumption | decide) ?_))))
      (with_reducible refine is_l ?_); refine h_bs H info_str3 Tryz.underlying25 (by decide) (by decide) rfl rfl (fill_s _) (fun g_ w_ H => ?_)
      (with_reducible refine is_l ?_); refine h_app H 0 rfl info_str3 Tryz.underlying25 rfl rfl rfl rfl (H.cellRd 0 rfl) rfl rfl (by show (acc.length + 1) * 16 ≤ _; omega) (fun v w_ hv H => ?_)
      obtain ⟨A', c', rfl⟩ := hv
      repeat' (first | (with_reducible first | refine p_tn ?_ | refine p_bn ?_ | refine w_reg ?_ | refine l_nil ?_) | ((with_reducible refine g_on ?_); (first | ((with_reducible refine g_mv ?_); refine l_p txs rfl rfl ?_) | ((with_reducible refine g_as ?_); refine l_p txs rfl rfl ?_) | ((with_reducible refine g_bi ?_); (refine l_a txs rfl rfl (by first | exact in_i64 (by omega) (by omega) | exact in_u8 (by omega) (by omega) | exact in_u64 (by omega) (by omega) | exact in_i32 (by omega) (by omega)) ?_)))))
      have H := H.pick [] [0] (by decide) (by decide) rfl rfl
      refine ⟨((i + 1, i + 1), acc ++ [((bl s).drop a).take (i - a)], A', c'), _, rfl, ⟨rfl, rfl, ?_, rfl, rfl, trivial⟩, ⟨?_, Nat.le_refl _, by show i + 1 ≤ _; omega, ?_, ?_, ?_⟩, by show _ - (i + 1) < _ - i; omega⟩
      · show Value.slice A' (acc.length + 1) c' = Value.slice A' (acc ++ [((bl s).drop a).take (i - a)]).length c'
        simp
      · show Hp w _ [] [rowT (.slice A' (acc ++ [((bl s).drop a).take (i - a)]).length c') (acc ++ [((bl s).drop a).take (i - a)])]
        have e1 : (acc ++ [((bl s).drop a).take (i - a)]).length = acc.length + 1 := by simp
        unfold rowT
        rw [e1, strC_snoc, ← bl_ext]
        exact H
      · show (acc ++ [((bl s).drop a).take (i - a)]).length ≤ i + 1
        simp
        omega
      · show _ ∉ ((bl s).drop (i + 1)).take (i + 1 - (i + 1))
        simp
      · show _ = (acc ++ [((bl s).drop a).take (i - a)]) ++ splitC _ ((bl s).drop (i + 1))
        rw [hD, List.append_assoc]
        rfl
    · repeat' (first | (with_reducible first | refine p_tn ?_ | refine p_bn ?_ | refine w_reg ?_) | (with_reducible (refine is_if ?_; (refine w_iff rfl ?_))) | (with_reducible first | refine wp_skip ?_ | refine l_nil ?_) | ((with_reducible refine g_on ?_); (first | ((with_reducible refine g_mv ?_); refine l_p txs rfl rfl ?_) | ((with_reducible refine g_as ?_); refine l_p txs rfl rfl ?_) | ((with_reducible refine g_bi ?_); (refine l_a txs rfl rfl (by first | exact in_i64 (by omega) (by omega) | exact in_u8 (by omega) (by omega) | exact in_u64 (by omega) (by omega) | exact in_i32 (by omega) (by omega)) ?_)))))
      refine ⟨((a, i + 1), acc, A2, c2), _, rfl, ⟨rfl, rfl, rfl, rfl, rfl, trivial⟩, ⟨H, by show a ≤ i + 1; omega, by show i + 1 ≤ _; omega, hac, ?_, hD⟩, by show _ - (i + 1) < _ - i; omega⟩
      show c ∉ ((bl s).drop a).take (i + 1 - a)
      rw [hta, List.mem_append, not_or]
      exact ⟨hno, by simp; exact fun e => he e.symm⟩
  · have his : i = s.size := by omega
    have hall : ((bl s).drop a).take (i - a) = (bl s).drop a := List.take_of_length_le (by rw [List.length_drop]; omega)
    rw [hall] at hno
    rw [splitC_none hno] at hD
    repeat' (first | (with_reducible first | refine p_tn ?_ | refine p_tx ?_ | refine x_hit ?_ | refine wp_seq ?_ | refine w_reg ?_) | (with_reducible (refine is_if ?_; (refine w_iff rfl ?_))) | (with_reducible first | refine wp_exit ?_ | refine l_nil ?_) | ((with_reducible refine g_on ?_); (first | ((with_reducible refine g_mv ?_); refine l_p txs rfl rfl ?_) | ((with_reducible refine g_sl ?_); refine l_sl txs rfl rfl (by first | omega | assumption | decide) (by first | omega | assumption | decide) (by first | omega | assumption | decide) ?_))))
    (with_reducible refine is_l ?_); refine h_bs H info_str3 Tryz.underlying25 (by decide) (by decide) rfl rfl (fill_s _) (fun g_ w_ H => ?_)
    (with_reducible refine is_l ?_); refine h_app H 0 rfl info_str3 Tryz.underlying25 rfl rfl rfl rfl (H.cellRd 0 rfl) rfl rfl (by show (acc.length + 1) * 16 ≤ _; omega) (fun v w_ hv H => ?_)
    obtain ⟨A', c', rfl⟩ := hv
    repeat' (first | (with_reducible first | refine p_tn ?_ | refine wp_ret ?_ | refine l_nil ?_) | ((with_reducible refine g_on ?_); ((with_reducible refine g_as ?_); refine l_p txs rfl rfl ?_)))
    refine end1 rfl rfl ?_
    have H := H.pick [] [0] (by decide) (by decide) rfl rfl
    have e1 : (acc ++ [(bl s).drop a]).length = acc.length + 1 := by simp
    rw [hD]
    unfold rowT
    rw [e1, strC_snoc]
    refine ⟨A', c', rfl, ?_⟩
    have e2 : Value.string (s.extract a s.size) = .string (strOfNums ((bl s).drop a)) := by rw [bl_ext, List.take_of_length_le (by rw [List.length_drop]; omega)]
    rw [← e2]
    exact H
theorem head_ahead (c : Int) (s : L) : (splitC c s).headD [] = aheadC c s := by
  unfold aheadC
  cases h : cutC c s with
  | none => rw [splitC_none (cutC_none h)]; rfl
  | some p =>
    obtain ⟨a, b⟩ := p
    obtain ⟨rfl, hn⟩ := cutC_some h
    rw [splitC_cut _ hn]
    rfl
set_option maxHeartbeats 4000000 in
theorem ahead_c (t : ByteArray) (c : Int) (w : World) (ht : t.size ≤ 100000000) : Calls Tryz.prog 117 #[.string t, .int .u8 c] w fun e w' => e = .returned (.string (strOfNums (aheadC c (bl t)))) ∧ Below w.heap.size w w' := by
  refine enter (args := [.string t, .int .u8 c]) Tryz.func117 rfl Tryz.ntmps117 rfl ?_
  have H := Hp.nil w
  have hne := splitC_ne (c := c) (bl t)
  rw [← head_ahead]
  repeat' (first | (with_reducible first | refine p_tn ?_ | refine wp_seq ?_ | refine w_reg ?_ | refine l_nil ?_) | ((with_reducible refine g_on ?_); (first | ((with_reducible refine g_mv ?_); refine l_p txs rfl rfl ?_) | ((with_reducible refine g_as ?_); refine l_p txs rfl rfl ?_))))
  (with_reducible refine is_l ?_); refine l_call rfl rfl (by kernel_rfl) (pieces_c t c w ht) (fun e w_ hR => ?_)
  generalize splitC c (bl t) = N at hR hne ⊢
  obtain ⟨A1, c1, rfl, K⟩ := hR
  refine ⟨_, rfl, ?_⟩
  obtain ⟨x, r, rfl⟩ : ∃ x r, N = x :: r := by
    cases N with
    | nil => exact absurd rfl hne
    | cons x r => exact ⟨x, r, rfl⟩
  have hlx : (x :: r).length = r.length + 1 := rfl
  obtain ⟨A3, c3, e3, _, hRd, hAn⟩ := K.rd 0 rfl
  cases e3
  obtain ⟨ad, rfl⟩ : ∃ ad, A1 = some ad := by
    cases A1 with
    | some ad => exact ⟨ad, rfl⟩
    | none => exact absurd (hAn rfl).2 (by show (x :: r).length ≠ 0; omega)
  repeat' (first | (with_reducible first | refine p_tn ?_ | refine wp_seq ?_ | refine w_reg ?_ | refine l_nil ?_) | ((with_reducible refine g_on ?_); (first | ((with_reducible refine g_mv ?_); refine l_p txs rfl rfl ?_) | ((with_reducible refine g_as ?_); refine l_p txs rfl rfl ?_) | ((with_reducible refine g_ia ?_); refine l_ia txs rfl rfl (by first | omega | assumption | decide) (by first | omega | assumption | decide) ?_))))
  (with_reducible refine is_l ?_); refine l_ld txs rfl rfl (hRd.2 ad rfl 0 (.string (strOfNums x)) rfl) ?_
  repeat' (first | (with_reducible first | refine p_tn ?_ | refine wp_ret ?_ | refine l_nil ?_) | ((with_reducible refine g_on ?_); ((with_reducible refine g_as ?_); refine l_p txs rfl rfl ?_)))
  refine end1 rfl rfl ?_
  exact ⟨rfl, K.B⟩
end Go.Proofs.YtnimaenhijlcmaaGreatDoor.K.Ref
end
section
namespace Go.Proofs.YtnimaenhijlcmaaGreatDoor.K.Ref
open Go.RowKit Go.Proofs.YtnimaenhijlcmaaGreatDoor.Q Go.Proofs.YtnimaenhijlcmaaGreatDoor.K Go.Proofs.YtnimaenhijlcmaaGreatDoor.Mb Go.Proofs.YtnimaenhijlcmaaGreatDoorW.PrintWords
set_option linter.unusedVariables false
set_option linter.unusedSimpArgs false
theorem wordB_digs (s : L) : wordB s = (s.all wordC && (!s.isEmpty && (!digsB s || numB s))) := by
  unfold wordB digsB
  cases s with
  | nil => rfl
  | cons x r => simp [Bool.and_assoc]
set_option maxHeartbeats 8000000 in
theorem word_c (t : ByteArray) (w : World) (ht : t.size ≤ 100000000) : Calls Tryz.prog 118 #[.string t] w fun e w' => e = .returned (.bool (wordB (bl t))) ∧ w' = w := by
  have hlen := bl_length t
  refine enter (args := [.string t]) Tryz.func118 rfl Tryz.ntmps118 rfl ?_
  have H := Hp.nil w
  rw [wordB_digs]
  repeat' (first | (with_reducible first | refine p_tn ?_ | refine wp_seq ?_ | refine wp_block ?_ | refine w_reg ?_ | refine l_nil ?_) | ((with_reducible refine g_on ?_); ((with_reducible refine g_as ?_); refine l_p txs rfl rfl ?_)))
  refine w_loop (σ := Nat) (S := fun s => [(0, .string t), (3, .int .i64 (s : Int))]) (J := fun s w' => w' = w ∧ s ≤ t.size ∧ ((bl t).take s).all wordC = true) (μ := fun s => t.size - s) 0 ⟨rfl, rfl, trivial⟩ ⟨rfl, by omega, by simp⟩ ?_
  rintro i f w_ ⟨rfl, hi, ha⟩
  repeat' (first | (with_reducible first | refine wp_seq ?_ | refine w_reg ?_) | ((with_reducible refine g_on ?_); (first | ((with_reducible refine g_mv ?_); refine l_p txs rfl rfl ?_) | ((with_reducible refine g_cl ?_); refine l_p txs rfl rfl ?_))))
  (with_reducible refine is_l ?_); refine l_t txs rfl rfl (fun hlt => ?_) (fun hge => ?_)
  · obtain ⟨x, hx⟩ : ∃ x, (bl t)[i]? = some x := ⟨_, List.getElem?_eq_getElem (by omega)⟩
    have hat := at_of hx
    repeat' (first | (with_reducible first | refine p_tn ?_ | refine wp_seq ?_ | refine wp_block ?_ | refine w_reg ?_) | (with_reducible (refine is_if ?_; (refine w_ift rfl ?_))) | (with_reducible first | refine wp_skip ?_ | refine l_nil ?_) | ((with_reducible refine g_on ?_); (first | ((with_reducible refine g_mv ?_); refine l_p txs rfl rfl ?_) | ((with_reducible refine g_ix ?_); refine l_ix txs rfl rfl (by first | omega | assumption | decide) (by first | omega | assumption | decide) ?_))))
    rw [hat]
    skip
    (with_reducible refine is_l ?_); refine l_callp rfl rfl (by kernel_rfl) (small_c x _) ?_
    cases h1 : smlB x
    rotate_left
    · have hw : wordC x = true := by unfold wordC; rw [h1]; simp
      repeat' (first | (with_reducible first | refine p_tn ?_ | refine p_bn ?_ | refine w_reg ?_) | (with_reducible (refine is_if ?_; (refine w_iff rfl ?_))) | (with_reducible first | refine wp_skip ?_ | refine l_nil ?_) | ((with_reducible refine g_on ?_); (first | ((with_reducible refine g_mv ?_); refine l_p txs rfl rfl ?_) | ((with_reducible refine g_as ?_); refine l_p txs rfl rfl ?_) | ((with_reducible refine g_pk ?_); refine l_p txs rfl rfl ?_) | ((with_reducible refine g_un ?_); (refine l_p txs rfl rfl ?_)) | ((with_reducible refine g_bi ?_); (refine l_a txs rfl rfl (by first | exact in_i64 (by omega) (by omega) | exact in_u8 (by omega) (by omega) | exact in_u64 (by omega) (by omega) | exact in_i32 (by omega) (by omega)) ?_)))) | ((with_reducible refine g_if ?_); (refine l_off rfl ?_)))
      exact ⟨i + 1, _, rfl, ⟨rfl, rfl, trivial⟩, ⟨rfl, by omega, take_all hx hw ha⟩, by omega⟩
    repeat' (first | ((with_reducible refine g_on ?_); (first | ((with_reducible refine g_mv ?_); refine l_p txs rfl rfl ?_) | ((with_reducible refine g_un ?_); (refine l_p txs rfl rfl ?_)))) | ((with_reducible refine g_if ?_); (first | ((with_reducible refine g_mv ?_); refine l_p txs rfl rfl ?_) | ((with_reducible refine g_ix ?_); refine l_ix txs rfl rfl (by first | omega | assumption | decide) (by first | omega | assumption | decide) ?_))))
    rw [hat]
    skip
    (with_reducible refine is_l ?_); refine l_callp rfl rfl (by kernel_rfl) (capital_c x _) ?_
    cases h2 : capB x
    rotate_left
    · have hw : wordC x = true := by unfold wordC; rw [h2]; simp
      repeat' (first | (with_reducible first | refine p_tn ?_ | refine p_bn ?_ | refine w_reg ?_) | (with_reducible (refine is_if ?_; (refine w_iff rfl ?_))) | (with_reducible first | refine wp_skip ?_ | refine l_nil ?_) | ((with_reducible refine g_on ?_); (first | ((with_reducible refine g_mv ?_); refine l_p txs rfl rfl ?_) | ((with_reducible refine g_as ?_); refine l_p txs rfl rfl ?_) | ((with_reducible refine g_pk ?_); refine l_p txs rfl rfl ?_) | ((with_reducible refine g_bi ?_); (refine l_a txs rfl rfl (by first | exact in_i64 (by omega) (by omega) | exact in_u8 (by omega) (by omega) | exact in_u64 (by omega) (by omega) | exact in_i32 (by omega) (by omega)) ?_)))) | ((with_reducible refine g_if ?_); (first | (refine l_off rfl ?_) | ((with_reducible refine g_un ?_); (refine l_p txs rfl rfl ?_)))))
      exact ⟨i + 1, _, rfl, ⟨rfl, rfl, trivial⟩, ⟨rfl, by omega, take_all hx hw ha⟩, by omega⟩
    repeat' (first | ((with_reducible refine g_on ?_); (first | ((with_reducible refine g_mv ?_); refine l_p txs rfl rfl ?_) | ((with_reducible refine g_pk ?_); refine l_p txs rfl rfl ?_))) | ((with_reducible refine g_if ?_); (first | ((with_reducible refine g_mv ?_); refine l_p txs rfl rfl ?_) | ((with_reducible refine g_un ?_); (refine l_p txs rfl rfl ?_)) | ((with_reducible refine g_ix ?_); refine l_ix txs rfl rfl (by first | omega | assumption | decide) (by first | omega | assumption | decide) ?_))))
    rw [hat]
    skip
    (with_reducible refine is_l ?_); refine l_callp rfl rfl (by kernel_rfl) (digit_c x _) ?_
    cases h3 : digB x
    rotate_left
    · have hw : wordC x = true := by unfold wordC; rw [h3]; simp
      repeat' (first | (with_reducible first | refine p_tn ?_ | refine p_bn ?_ | refine w_reg ?_) | (with_reducible (refine is_if ?_; (refine w_iff rfl ?_))) | (with_reducible first | refine wp_skip ?_ | refine l_nil ?_) | ((with_reducible refine g_on ?_); (first | ((with_reducible refine g_mv ?_); refine l_p txs rfl rfl ?_) | ((with_reducible refine g_as ?_); refine l_p txs rfl rfl ?_) | ((with_reducible refine g_pk ?_); refine l_p txs rfl rfl ?_) | ((with_reducible refine g_bi ?_); (refine l_a txs rfl rfl (by first | exact in_i64 (by omega) (by omega) | exact in_u8 (by omega) (by omega) | exact in_u64 (by omega) (by omega) | exact in_i32 (by omega) (by omega)) ?_)))) | ((with_reducible refine g_if ?_); (first | (refine l_off rfl ?_) | ((with_reducible refine g_un ?_); (refine l_p txs rfl rfl ?_)))))
      exact ⟨i + 1, _, rfl, ⟨rfl, rfl, trivial⟩, ⟨rfl, by omega, take_all hx hw ha⟩, by omega⟩
    repeat' (first | ((with_reducible refine g_on ?_); (first | ((with_reducible refine g_mv ?_); refine l_p txs rfl rfl ?_) | ((with_reducible refine g_pk ?_); refine l_p txs rfl rfl ?_))) | ((with_reducible refine g_if ?_); (first | ((with_reducible refine g_mv ?_); refine l_p txs rfl rfl ?_) | ((with_reducible refine g_un ?_); (refine l_p txs rfl rfl ?_)) | ((with_reducible refine g_ix ?_); refine l_ix txs rfl rfl (by first | omega | assumption | decide) (by first | omega | assumption | decide) ?_))))
    rw [hat]
    skip
    (with_reducible refine is_l ?_); refine l_t txs rfl rfl (fun h4 => ?_) (fun h4 => ?_)
    · have hw : wordC x = false := by unfold wordC; rw [h1, h2, h3]; simp [h4]
      have hn : (bl t).all wordC = false := not_all hx hw
      repeat' (first | (with_reducible first | refine p_tn ?_ | refine p_tr ?_ | refine p_br ?_ | refine wp_seq ?_ | refine w_reg ?_) | (with_reducible (refine is_if ?_; (refine w_ift rfl ?_))) | (with_reducible first | refine wp_ret ?_ | refine l_nil ?_) | ((with_reducible refine g_on ?_); (first | ((with_reducible refine g_as ?_); refine l_p txs rfl rfl ?_) | ((with_reducible refine g_pk ?_); refine l_p txs rfl rfl ?_))))
      refine end1 rfl rfl ?_
      exact ⟨by rw [hn]; rfl, rfl⟩
    · have hw : wordC x = true := by unfold wordC; simp [Classical.not_not.1 h4]
      repeat' (first | (with_reducible first | refine p_tn ?_ | refine p_bn ?_ | refine w_reg ?_) | (with_reducible (refine is_if ?_; (refine w_iff rfl ?_))) | (with_reducible first | refine wp_skip ?_ | refine l_nil ?_) | ((with_reducible refine g_on ?_); (first | ((with_reducible refine g_mv ?_); refine l_p txs rfl rfl ?_) | ((with_reducible refine g_as ?_); refine l_p txs rfl rfl ?_) | ((with_reducible refine g_pk ?_); refine l_p txs rfl rfl ?_) | ((with_reducible refine g_bi ?_); (refine l_a txs rfl rfl (by first | exact in_i64 (by omega) (by omega) | exact in_u8 (by omega) (by omega) | exact in_u64 (by omega) (by omega) | exact in_i32 (by omega) (by omega)) ?_)))))
      exact ⟨i + 1, _, rfl, ⟨rfl, rfl, trivial⟩, ⟨rfl, by omega, take_all hx hw ha⟩, by omega⟩
  · have hall : (bl t).all wordC = true := by rw [← List.take_of_length_le (l := bl t) (i := i) (by omega)]; exact ha
    rw [hall]
    repeat' (first | (with_reducible first | refine p_tn ?_ | refine p_tx ?_ | refine x_hit ?_ | refine wp_seq ?_ | refine w_reg ?_) | (with_reducible (refine is_if ?_; (refine w_iff rfl ?_))) | (with_reducible first | refine wp_exit ?_ | refine l_nil ?_) | ((with_reducible refine g_on ?_); ((with_reducible refine g_mv ?_); refine l_p txs rfl rfl ?_)))
    (with_reducible refine is_l ?_); refine l_t txs rfl rfl (fun h1 => ?_) (fun h1 => ?_)
    · have h1 : bl t ≠ [] := h1
      have hie : (bl t).isEmpty = false := by simp [h1]
      rw [hie]
      repeat' (first | ((with_reducible refine g_on ?_); ((with_reducible refine g_mv ?_); refine l_p txs rfl rfl ?_)) | ((with_reducible refine g_if ?_); ((with_reducible refine g_mv ?_); refine l_p txs rfl rfl ?_)))
      (with_reducible refine is_l ?_); refine l_callp rfl rfl (by kernel_rfl) (digits_c t _ ht) ?_
      cases hd : digsB (bl t)
      · repeat' (first | (with_reducible first | refine p_tn ?_ | refine wp_ret ?_ | refine l_nil ?_) | ((with_reducible refine g_on ?_); (first | ((with_reducible refine g_as ?_); refine l_p txs rfl rfl ?_) | ((with_reducible refine g_pk ?_); refine l_p txs rfl rfl ?_))) | ((with_reducible refine g_if ?_); (first | (refine l_off rfl ?_) | ((with_reducible refine g_mv ?_); refine l_p txs rfl rfl ?_) | ((with_reducible refine g_pk ?_); refine l_p txs rfl rfl ?_) | ((with_reducible refine g_un ?_); (refine l_p txs rfl rfl ?_)))))
        refine end1 rfl rfl ?_
        exact ⟨rfl, rfl⟩
      · repeat' ((with_reducible refine g_if ?_); (first | ((with_reducible refine g_mv ?_); refine l_p txs rfl rfl ?_) | ((with_reducible refine g_un ?_); (refine l_p txs rfl rfl ?_))))
        (with_reducible refine is_l ?_); refine l_callp rfl rfl (by kernel_rfl) (number_c t _ ht) ?_
        repeat' (first | (with_reducible first | refine p_tn ?_ | refine wp_ret ?_ | refine l_nil ?_) | ((with_reducible refine g_on ?_); (first | ((with_reducible refine g_as ?_); refine l_p txs rfl rfl ?_) | ((with_reducible refine g_pk ?_); refine l_p txs rfl rfl ?_))) | ((with_reducible refine g_if ?_); ((with_reducible refine g_pk ?_); refine l_p txs rfl rfl ?_)))
        cases hn : numB (bl t)
        all_goals
          skip
          refine end1 rfl rfl ?_
          exact ⟨rfl, rfl⟩
    · have h1 : bl t = [] := Classical.not_not.1 h1
      repeat' (first | (with_reducible first | refine p_tn ?_ | refine wp_ret ?_ | refine l_nil ?_) | ((with_reducible refine g_on ?_); (first | ((with_reducible refine g_mv ?_); refine l_p txs rfl rfl ?_) | ((with_reducible refine g_as ?_); refine l_p txs rfl rfl ?_) | ((with_reducible refine g_pk ?_); refine l_p txs rfl rfl ?_))) | ((with_reducible refine g_if ?_); (refine l_off rfl ?_)))
      refine end1 rfl rfl ?_
      exact ⟨by rw [h1]; rfl, rfl⟩
theorem ends_c (t p : ByteArray) (w : World) (ht : t.size ≤ 100000000) (hp : p.size ≤ 100000000) : Calls Tryz.prog 116 #[.string t, .string p] w fun e w' => e = .returned (.bool (endCut (bl t) (bl p)).isSome) ∧ w' = w := by
  have hl := bl_length t
  have hlp := bl_length p
  refine enter (args := [.string t, .string p]) Tryz.func116 rfl Tryz.ntmps116 rfl ?_
  have H := Hp.nil w
  repeat' (first | (with_reducible first | refine p_tn ?_ | refine wp_seq ?_ | refine w_reg ?_ | refine l_nil ?_) | ((with_reducible refine g_on ?_); (first | ((with_reducible refine g_mv ?_); refine l_p txs rfl rfl ?_) | ((with_reducible refine g_as ?_); refine l_p txs rfl rfl ?_) | ((with_reducible refine g_cl ?_); refine l_p txs rfl rfl ?_))))
  (with_reducible refine is_l ?_); refine l_t txs rfl rfl (fun h1 => ?_) (fun h1 => ?_)
  · repeat' (first | ((with_reducible refine g_on ?_); ((with_reducible refine g_mv ?_); refine l_p txs rfl rfl ?_)) | ((with_reducible refine g_if ?_); (first | ((with_reducible refine g_mv ?_); refine l_p txs rfl rfl ?_) | ((with_reducible refine g_cl ?_); refine l_p txs rfl rfl ?_) | ((with_reducible refine g_sl ?_); refine l_sl txs rfl rfl (by first | omega | assumption | decide) (by first | omega | assumption | decide) (by first | omega | assumption | decide) ?_) | ((with_reducible refine g_bi ?_); (refine l_a txs rfl rfl (by first | exact in_i64 (by omega) (by omega) | exact in_u8 (by omega) (by omega) | exact in_u64 (by omega) (by omega) | exact in_i32 (by omega) (by omega)) ?_)))))
    have hx : bl (t.extract ((t.size : Int) - (p.size : Int)).toNat (t.size : Int).toNat) = (bl t).drop ((bl t).length - (bl p).length) := by
      rw [blE, List.take_of_length_le (by rw [List.length_drop]; omega)]
      congr 1
      omega
    (with_reducible refine is_l ?_); refine l_t txs rfl rfl (fun h2 => ?_) (fun h2 => ?_)
    · rw [hx] at h2
      have hn : (endCut (bl t) (bl p)).isSome = true := by unfold endCut; rw [if_pos ⟨by omega, h2⟩]; rfl
      repeat' (first | (with_reducible first | refine p_tn ?_ | refine wp_ret ?_ | refine l_nil ?_) | ((with_reducible refine g_on ?_); (first | ((with_reducible refine g_as ?_); refine l_p txs rfl rfl ?_) | ((with_reducible refine g_pk ?_); refine l_p txs rfl rfl ?_))))
      refine end1 rfl rfl ?_
      exact ⟨by rw [hn], rfl⟩
    · rw [hx] at h2
      have hn : (endCut (bl t) (bl p)).isSome = false := by unfold endCut; rw [if_neg (fun h => h2 h.2)]; rfl
      repeat' (first | (with_reducible first | refine p_tn ?_ | refine wp_ret ?_ | refine l_nil ?_) | ((with_reducible refine g_on ?_); (first | ((with_reducible refine g_as ?_); refine l_p txs rfl rfl ?_) | ((with_reducible refine g_pk ?_); refine l_p txs rfl rfl ?_))))
      refine end1 rfl rfl ?_
      exact ⟨by rw [hn], rfl⟩
  · have hn : (endCut (bl t) (bl p)).isSome = false := by unfold endCut; rw [if_neg (fun h => h1 (by omega))]; rfl
    repeat' (first | (with_reducible first | refine p_tn ?_ | refine wp_ret ?_ | refine l_nil ?_) | ((with_reducible refine g_on ?_); (first | ((with_reducible refine g_mv ?_); refine l_p txs rfl rfl ?_) | ((with_reducible refine g_as ?_); refine l_p txs rfl rfl ?_) | ((with_reducible refine g_pk ?_); refine l_p txs rfl rfl ?_))) | ((with_reducible refine g_if ?_); (refine l_off rfl ?_)))
    refine end1 rfl rfl ?_
    exact ⟨by rw [hn], rfl⟩
theorem drop_at {l : L} {i : Nat} {x : Int} (h : l[i]? = some x) : l.drop i = x :: l.drop (i + 1) := by
  obtain ⟨h1, h2⟩ := List.getElem?_eq_some_iff.1 h
  rw [List.drop_eq_getElem_cons h1, h2]
theorem cmpB_short (a b : L) (i : Nat) (h : a.drop i = [] ∨ b.drop i = []) : cmpB (a.drop i) (b.drop i) = if (a.drop i).length < (b.drop i).length then -1 else if (b.drop i).length < (a.drop i).length then 1 else 0 := by
  generalize a.drop i = x at h ⊢
  generalize b.drop i = y at h ⊢
  cases x <;> cases y <;> simp_all [cmpB]
set_option maxHeartbeats 8000000 in
theorem bytes_c (a b : ByteArray) (w : World) (ha : a.size ≤ 100000000) (hb : b.size ≤ 100000000) : Calls Tryz.prog 60 #[.string a, .string b] w fun e w' => e = .returned (.int .i64 (cmpB (bl a) (bl b))) ∧ Below w.heap.size w w' := by
  have hla := bl_length a
  have hlb := bl_length b
  refine enter (args := [.string a, .string b]) Tryz.func60 rfl Tryz.ntmps60 rfl ?_
  have H := Hp.nil w
  repeat' (first | (with_reducible first | refine p_tn ?_ | refine wp_seq ?_ | refine wp_block ?_ | refine w_reg ?_ | refine l_nil ?_) | ((with_reducible refine g_on ?_); ((with_reducible refine g_as ?_); refine l_p txs rfl rfl ?_)))
  refine w_loop (σ := Nat) (S := fun s => [(0, .string a), (1, .string b), (5, .int .i64 (s : Int))]) (J := fun s w' => Hp w w' [] [] ∧ s ≤ a.size ∧ s ≤ b.size ∧ cmpB (bl a) (bl b) = cmpB ((bl a).drop s) ((bl b).drop s)) (μ := fun s => a.size - s) 0 ⟨rfl, rfl, rfl, trivial⟩ ⟨H, by omega, by omega, rfl⟩ ?_
  clear H
  rintro i f w_ ⟨H, hi, hj, hV⟩
  repeat' (first | (with_reducible first | refine wp_seq ?_ | refine w_reg ?_) | ((with_reducible refine g_on ?_); (first | ((with_reducible refine g_mv ?_); refine l_p txs rfl rfl ?_) | ((with_reducible refine g_cl ?_); refine l_p txs rfl rfl ?_))))
  (with_reducible refine is_l ?_); refine l_t txs rfl rfl (fun h1 => ?_) (fun h1 => ?_)
  · repeat' (first | ((with_reducible refine g_on ?_); ((with_reducible refine g_mv ?_); refine l_p txs rfl rfl ?_)) | ((with_reducible refine g_if ?_); (first | ((with_reducible refine g_mv ?_); refine l_p txs rfl rfl ?_) | ((with_reducible refine g_cl ?_); refine l_p txs rfl rfl ?_))))
    (with_reducible refine is_l ?_); refine l_t txs rfl rfl (fun h2 => ?_) (fun h2 => ?_)
    · obtain ⟨x, hx⟩ : ∃ x, (bl a)[i]? = some x := ⟨_, List.getElem?_eq_getElem (by omega)⟩
      obtain ⟨y, hy⟩ : ∃ y, (bl b)[i]? = some y := ⟨_, List.getElem?_eq_getElem (by omega)⟩
      have hax := at_of hx
      have hay := at_of hy
      rw [drop_at hx, drop_at hy] at hV
      have hV : cmpB (bl a) (bl b) = if x < y then -1 else if y < x then 1 else cmpB ((bl a).drop (i + 1)) ((bl b).drop (i + 1)) := hV
      repeat' (first | (with_reducible first | refine p_tn ?_ | refine wp_seq ?_ | refine wp_block ?_) | (with_reducible (refine is_if ?_; (refine w_ift rfl ?_))) | (with_reducible first | refine wp_skip ?_ | refine l_nil ?_) | ((with_reducible refine g_on ?_); ((with_reducible refine g_pk ?_); refine l_p txs rfl rfl ?_)))
      refine w_draw (C := fun w' => Hp w w' [] []) (by kernel_rfl) (by kernel_rfl) H.drew ?_
      repeat' (first | (with_reducible refine q_nil ?_) | ((with_reducible refine is_q ?_); first | (refine q_off rfl ?_) | (refine q_p txs rfl rfl ?_) | (refine q_ix txs rfl rfl (by omega) (by omega) ?_)))
      rw [hax, hay]
      by_cases he : x = y
      · refine q_val rfl (fun w' K => evT_no (o := ⟨_, _, _, _, _, _⟩) txs rfl (by show ¬ x ≠ y; exact fun h => h he)) ?_
        repeat' (first | (with_reducible refine q_nil ?_) | ((with_reducible refine is_q ?_); first | (refine q_off rfl ?_) | (refine q_p txs rfl rfl ?_) | (refine q_ix txs rfl rfl (by omega) (by omega) ?_)))
        clear H
        intro w_ H
        repeat' (first | (with_reducible first | refine p_tn ?_ | refine p_bn ?_ | refine w_reg ?_) | (with_reducible (refine is_if ?_; (refine w_iff rfl ?_))) | (with_reducible first | refine wp_skip ?_ | refine l_nil ?_) | ((with_reducible refine g_on ?_); (first | ((with_reducible refine g_mv ?_); refine l_p txs rfl rfl ?_) | ((with_reducible refine g_as ?_); refine l_p txs rfl rfl ?_) | ((with_reducible refine g_bi ?_); (refine l_a txs rfl rfl (by first | exact in_i64 (by omega) (by omega) | exact in_u8 (by omega) (by omega) | exact in_u64 (by omega) (by omega) | exact in_i32 (by omega) (by omega)) ?_)))))
        exact ⟨i + 1, _, rfl, ⟨rfl, rfl, rfl, trivial⟩, ⟨H, by omega, by omega, by rw [hV, if_neg (by omega), if_neg (by omega)]⟩, by omega⟩
      · refine q_val rfl (fun w' K => evT_yes (o := ⟨_, _, _, _, _, _⟩) txs rfl (by show x ≠ y; exact he)) ?_
        repeat' (first | (with_reducible refine q_nil ?_) | ((with_reducible refine is_q ?_); first | (refine q_off rfl ?_) | (refine q_p txs rfl rfl ?_) | (refine q_ix txs rfl rfl (by omega) (by omega) ?_)))
        clear H
        intro w_ H
        repeat' (first | (with_reducible first | refine p_tn ?_ | refine wp_seq ?_) | (with_reducible (refine is_if ?_; (refine w_ift rfl ?_))))
        refine w_draw (C := fun w' => Hp w w' [] []) (by kernel_rfl) (by kernel_rfl) H.drew ?_
        repeat' (first | (with_reducible refine q_nil ?_) | ((with_reducible refine is_q ?_); first | (refine q_off rfl ?_) | (refine q_p txs rfl rfl ?_) | (refine q_ix txs rfl rfl (by omega) (by omega) ?_)))
        rw [hax, hay]
        by_cases hl : x < y
        · refine q_val rfl (fun w' K => evT_yes (o := ⟨_, _, _, _, _, _⟩) txs rfl (by show x < y; exact hl)) ?_
          repeat' (first | (with_reducible refine q_nil ?_) | ((with_reducible refine is_q ?_); first | (refine q_off rfl ?_) | (refine q_p txs rfl rfl ?_) | (refine q_ix txs rfl rfl (by omega) (by omega) ?_)))
          clear H
          intro w_ H
          repeat' (first | (with_reducible first | refine p_tn ?_ | refine p_tr ?_ | refine p_br ?_ | refine wp_seq ?_ | refine w_reg ?_) | (with_reducible (refine is_if ?_; (refine w_ift rfl ?_))) | (with_reducible first | refine wp_ret ?_ | refine l_nil ?_) | ((with_reducible refine g_on ?_); ((with_reducible refine g_as ?_); refine l_p txs rfl rfl ?_)))
          refine end1 rfl rfl ?_
          exact ⟨by rw [hV, if_pos hl], H.B⟩
        · refine q_val rfl (fun w' K => evT_no (o := ⟨_, _, _, _, _, _⟩) txs rfl (by show ¬ x < y; exact hl)) ?_
          repeat' (first | (with_reducible refine q_nil ?_) | ((with_reducible refine is_q ?_); first | (refine q_off rfl ?_) | (refine q_p txs rfl rfl ?_) | (refine q_ix txs rfl rfl (by omega) (by omega) ?_)))
          clear H
          intro w_ H
          repeat' (first | (with_reducible first | refine p_tn ?_ | refine p_tr ?_ | refine p_br ?_ | refine wp_seq ?_ | refine w_reg ?_) | (with_reducible (refine is_if ?_; (refine w_iff rfl ?_))) | (with_reducible first | refine wp_skip ?_ | refine wp_ret ?_ | refine l_nil ?_) | ((with_reducible refine g_on ?_); ((with_reducible refine g_as ?_); refine l_p txs rfl rfl ?_)))
          refine end1 rfl rfl ?_
          exact ⟨by rw [hV, if_neg hl, if_pos (by omega)], H.B⟩
    · have hend : (bl a).drop i = [] ∨ (bl b).drop i = [] := .inr (List.drop_eq_nil_of_le (by omega))
      have hsh := cmpB_short (bl a) (bl b) i hend
      simp only [List.length_drop] at hsh
      rw [hsh] at hV
      repeat' (first | (with_reducible first | refine p_tn ?_ | refine p_tx ?_ | refine x_hit ?_ | refine wp_seq ?_ | refine wp_block ?_ | refine w_reg ?_) | (with_reducible (refine is_if ?_; (refine w_iff rfl ?_))) | (with_reducible first | refine wp_exit ?_ | refine l_nil ?_) | ((with_reducible refine g_on ?_); (first | ((with_reducible refine g_mv ?_); refine l_p txs rfl rfl ?_) | ((with_reducible refine g_pk ?_); refine l_p txs rfl rfl ?_) | ((with_reducible refine g_cl ?_); refine l_p txs rfl rfl ?_))))
      (with_reducible refine is_l ?_); refine l_t txs rfl rfl (fun h3 => ?_) (fun h3 => ?_)
      · have hn : cmpB (bl a) (bl b) = -1 := by rw [hV, if_pos (by omega)]
        repeat' (first | (with_reducible first | refine p_tn ?_ | refine p_tr ?_ | refine p_br ?_ | refine wp_seq ?_ | refine w_reg ?_) | (with_reducible (refine is_if ?_; (refine w_ift rfl ?_))) | (with_reducible first | refine wp_ret ?_ | refine l_nil ?_) | ((with_reducible refine g_on ?_); ((with_reducible refine g_as ?_); refine l_p txs rfl rfl ?_)))
        refine end1 rfl rfl ?_
        exact ⟨by rw [hn], H.B⟩
      repeat' (first | (with_reducible first | refine p_tn ?_ | refine wp_seq ?_ | refine w_reg ?_) | (with_reducible (refine is_if ?_; (refine w_iff rfl ?_))) | (with_reducible refine l_nil ?_) | ((with_reducible refine g_on ?_); (first | ((with_reducible refine g_mv ?_); refine l_p txs rfl rfl ?_) | ((with_reducible refine g_as ?_); refine l_p txs rfl rfl ?_) | ((with_reducible refine g_cl ?_); refine l_p txs rfl rfl ?_))))
      (with_reducible refine is_l ?_); refine l_t txs rfl rfl (fun h4 => ?_) (fun h4 => ?_)
      · have hn : cmpB (bl a) (bl b) = 1 := by rw [hV, if_neg (by omega), if_pos (by omega)]
        repeat' (first | (with_reducible first | refine p_tn ?_ | refine p_tr ?_ | refine p_br ?_ | refine wp_seq ?_ | refine w_reg ?_) | (with_reducible (refine is_if ?_; (refine w_ift rfl ?_))) | (with_reducible first | refine wp_ret ?_ | refine l_nil ?_) | ((with_reducible refine g_on ?_); ((with_reducible refine g_as ?_); refine l_p txs rfl rfl ?_)))
        refine end1 rfl rfl ?_
        exact ⟨by rw [hn], H.B⟩
      have hn : cmpB (bl a) (bl b) = 0 := by rw [hV, if_neg (by omega), if_neg (by omega)]
      repeat' (first | (with_reducible first | refine p_tn ?_ | refine p_bn ?_ | refine wp_seq ?_ | refine w_reg ?_) | (with_reducible (refine is_if ?_; (refine w_iff rfl ?_))) | (with_reducible first | refine wp_skip ?_ | refine wp_ret ?_ | refine l_nil ?_) | ((with_reducible refine g_on ?_); ((with_reducible refine g_as ?_); refine l_p txs rfl rfl ?_)))
      refine end1 rfl rfl ?_
      exact ⟨by rw [hn], H.B⟩
  · have hend : (bl a).drop i = [] ∨ (bl b).drop i = [] := .inl (List.drop_eq_nil_of_le (by omega))
    have hsh := cmpB_short (bl a) (bl b) i hend
    simp only [List.length_drop] at hsh
    rw [hsh] at hV
    repeat' (first | (with_reducible first | refine p_tn ?_ | refine p_tx ?_ | refine x_hit ?_ | refine wp_seq ?_ | refine wp_block ?_ | refine w_reg ?_) | (with_reducible (refine is_if ?_; (refine w_iff rfl ?_))) | (with_reducible first | refine wp_exit ?_ | refine l_nil ?_) | ((with_reducible refine g_on ?_); (first | ((with_reducible refine g_mv ?_); refine l_p txs rfl rfl ?_) | ((with_reducible refine g_pk ?_); refine l_p txs rfl rfl ?_) | ((with_reducible refine g_cl ?_); refine l_p txs rfl rfl ?_))) | ((with_reducible refine g_if ?_); (refine l_off rfl ?_)))
    (with_reducible refine is_l ?_); refine l_t txs rfl rfl (fun h3 => ?_) (fun h3 => ?_)
    · have hn : cmpB (bl a) (bl b) = -1 := by rw [hV, if_pos (by omega)]
      repeat' (first | (with_reducible first | refine p_tn ?_ | refine p_tr ?_ | refine p_br ?_ | refine wp_seq ?_ | refine w_reg ?_) | (with_reducible (refine is_if ?_; (refine w_ift rfl ?_))) | (with_reducible first | refine wp_ret ?_ | refine l_nil ?_) | ((with_reducible refine g_on ?_); ((with_reducible refine g_as ?_); refine l_p txs rfl rfl ?_)))
      refine end1 rfl rfl ?_
      exact ⟨by rw [hn], H.B⟩
    repeat' (first | (with_reducible first | refine p_tn ?_ | refine wp_seq ?_ | refine w_reg ?_) | (with_reducible (refine is_if ?_; (refine w_iff rfl ?_))) | (with_reducible refine l_nil ?_) | ((with_reducible refine g_on ?_); (first | ((with_reducible refine g_mv ?_); refine l_p txs rfl rfl ?_) | ((with_reducible refine g_as ?_); refine l_p txs rfl rfl ?_) | ((with_reducible refine g_cl ?_); refine l_p txs rfl rfl ?_))))
    (with_reducible refine is_l ?_); refine l_t txs rfl rfl (fun h4 => ?_) (fun h4 => ?_)
    · have hn : cmpB (bl a) (bl b) = 1 := by rw [hV, if_neg (by omega), if_pos (by omega)]
      repeat' (first | (with_reducible first | refine p_tn ?_ | refine p_tr ?_ | refine p_br ?_ | refine wp_seq ?_ | refine w_reg ?_) | (with_reducible (refine is_if ?_; (refine w_ift rfl ?_))) | (with_reducible first | refine wp_ret ?_ | refine l_nil ?_) | ((with_reducible refine g_on ?_); ((with_reducible refine g_as ?_); refine l_p txs rfl rfl ?_)))
      refine end1 rfl rfl ?_
      exact ⟨by rw [hn], H.B⟩
    have hn : cmpB (bl a) (bl b) = 0 := by rw [hV, if_neg (by omega), if_neg (by omega)]
    repeat' (first | (with_reducible first | refine p_tn ?_ | refine p_bn ?_ | refine wp_seq ?_ | refine w_reg ?_) | (with_reducible (refine is_if ?_; (refine w_iff rfl ?_))) | (with_reducible first | refine wp_skip ?_ | refine wp_ret ?_ | refine l_nil ?_) | ((with_reducible refine g_on ?_); ((with_reducible refine g_as ?_); refine l_p txs rfl rfl ?_)))
    refine end1 rfl rfl ?_
    exact ⟨by rw [hn], H.B⟩
end Go.Proofs.YtnimaenhijlcmaaGreatDoor.K.Ref
end
