/- Lists of words compared; versions compared. -/
import Derived.Test.YtnimaenhijlcmaaGreatDoorVd
namespace Go.Proofs.YtnimaenhijlcmaaGreatDoor.K
open Go.RowKit Go.Proofs.YtnimaenhijlcmaaGreatDoor.Q Go.Proofs.YtnimaenhijlcmaaGreatDoor.Mb Go.Proofs.YtnimaenhijlcmaaGreatDoorW.PrintWords
set_option linter.unusedVariables false
set_option linter.unusedSimpArgs false

section
variable {P : Program} {n : Nat} {f : Fr} {w w0 : World} {ops : Array Oper} {Q : Exit → Act → World → Prop} {rest : List Oper} {d : Option Nat} {op : Op} {tt : TypeId} {ps : String} {af : Array Edge} {gd : Option (Nat × Bool)} {l : List Ent} {r : List RowD} {o : Oper}
theorem l_iaa {t e : TypeId} {m : Nat} {x y : Operand} {g : Nat} {k : IntKind} {j : Int} (ht : P.underlying t = some (.array m e)) (he : (P.info? e).map (·.size) = some 1) (hw : want n ops f ⟨d, .indexAddr t x y, tt, ps, af, gd⟩ = true) (hx : nf (X n f x) = some (.pointer (some ⟨g, 0, none⟩))) (hy : nf (X n f y) = some (.int k j)) (h0 : 0 ≤ j) (h1 : j < m)
    (h : WL P ops Q rest (act n (put f d (.pointer (some ⟨g, j.toNat, none⟩)))) w) : WL P ops Q (⟨d, .indexAddr t x y, tt, ps, af, gd⟩ :: rest) (act n f) w := by
  refine l_val hw ?_ h
  have hx' := nf_eq hx
  have hy' := nf_eq hy
  obtain ⟨i0, hi, hz⟩ := Option.map_eq_some_iff.1 he
  unfold execOp
  simp [go_sem, ← hx', ← hy', Instr.indexAt, run_underlying ht, sizeOf, typeInfo, hi, hz, h0, h1, Addr.add_lit]
theorem evIaa_run {t e : TypeId} {m : Nat} {x y : Operand} {g : Nat} {k : IntKind} {j : Int} (ht : P.underlying t = some (.array m e)) (he : (P.info? e).map (·.size) = some 1) (ho : o.op = .indexAddr t x y) (hx : nf (X n f x) = some (.pointer (some ⟨g, 0, none⟩))) (hy : nf (X n f y) = some (.int k j)) (h0 : 0 ≤ j) (h1 : j < m) :
    (execOp (X n f) o).run P w = .ok (.value (.pointer (some ⟨g, j.toNat, none⟩))) w := by
  have hx' := nf_eq hx
  have hy' := nf_eq hy
  obtain ⟨i0, hi, hz⟩ := Option.map_eq_some_iff.1 he
  unfold execOp
  simp [go_sem, ho, ← hx', ← hy', Instr.indexAt, run_underlying ht, sizeOf, typeInfo, hi, hz, h0, h1, Addr.add_lit]
end
theorem info_str1 : (Tryz.prog.info? 9).map (·.size) = some 1 := by kernel_rfl
theorem drop_cons {α : Type} {l : List α} {i : Nat} {x : α} (h : l[i]? = some x) : l.drop i = x :: l.drop (i + 1) := by
  have hi : i < l.length := (List.getElem?_eq_some_iff.1 h).1
  rw [List.drop_eq_getElem_cons hi, (List.getElem?_eq_some_iff.1 h).2]
def Wds (l : List L) : Prop := ∀ x ∈ l, Bytes x ∧ x.length ≤ 100000000
theorem sizeS' {l : L} (h : Bytes l) : (strOfNums l).size = l.length := by rw [← bl_length, blS h]
set_option maxHeartbeats 4000000 in
theorem cmpFunc_c {w : World} {A1 A2 : Option Addr} {c1 c2 : Nat} {l1 l2 : List L} (h1 : Rd w A1 (strC l1)) (h2 : Rd w A2 (strC l2)) (b1 : Wds l1) (b2 : Wds l2) (n1 : l1.length ≤ 100000000) (n2 : l2.length ≤ 100000000) :
    Calls Tryz.prog 94 #[.slice A1 l1.length c1, .slice A2 l2.length c2, .func (.func 95) #[] #[]] w fun e w' => e = .returned (.int .i64 (cmpL l1 l2)) ∧ Below w.heap.size w w' := by
  refine enter (args := [.slice A1 l1.length c1, .slice A2 l2.length c2, .func (.func 95) #[] #[]]) Tryz.func94 rfl Tryz.ntmps94 rfl ?_
  have H := Hp.nil w
  repeat' (first | (with_reducible first | refine p_tn ?_ | refine wp_seq ?_ | refine wp_block ?_ | refine w_reg ?_ | refine l_nil ?_) | ((with_reducible refine g_on ?_); (first | ((with_reducible refine g_mv ?_); refine l_p txs rfl rfl ?_) | ((with_reducible refine g_as ?_); refine l_p txs rfl rfl ?_) | ((with_reducible refine g_cl ?_); refine l_p txs rfl rfl ?_))))
  refine w_loop (σ := Nat) (S := fun s => [(0, .slice A1 l1.length c1), (1, .slice A2 l2.length c2), (2, .func (.func 95) #[] #[]), (11, .slice A1 l1.length c1), (12, .int .i64 (l1.length : Int)), (13, .int .i64 (s : Int))]) (J := fun s w' => Hp w w' [] [] ∧ s ≤ l1.length ∧ s ≤ l2.length ∧ cmpL l1 l2 = cmpL (l1.drop s) (l2.drop s)) (μ := fun s => l1.length - s) 0 ⟨rfl, rfl, rfl, rfl, rfl, rfl, trivial⟩ ⟨H, Nat.zero_le _, Nat.zero_le _, rfl⟩ ?_
  rintro i f w_ ⟨H, hi, hi2, hc⟩
  repeat' (with_reducible first | refine wp_seq ?_ | refine w_reg ?_)
  (with_reducible refine is_l ?_); refine l_t txs rfl rfl (fun hlt => ?_) (fun hge => ?_)
  · obtain ⟨x, hx⟩ : ∃ x, l1[i]? = some x := ⟨_, List.getElem?_eq_getElem (by omega)⟩
    obtain ⟨a1, rfl⟩ := rdT_some h1 hx
    have hc1 := rdT_cell h1 hx
    obtain ⟨bx, lx⟩ := b1 x (List.mem_of_getElem? hx)
    have zx := sizeS' bx
    rw [drop_cons hx] at hc
    repeat' (first | (with_reducible first | refine p_tn ?_ | refine wp_seq ?_ | refine wp_block ?_ | refine w_reg ?_) | (with_reducible (refine is_if ?_; (refine w_ift rfl ?_))) | (with_reducible first | refine wp_skip ?_ | refine l_nil ?_) | ((with_reducible refine g_on ?_); (first | ((with_reducible refine g_mv ?_); refine l_p txs rfl rfl ?_) | ((with_reducible refine g_ia ?_); refine l_ia txs rfl rfl (by first | omega | assumption | decide) (by first | omega | assumption | decide) ?_))))
    (with_reducible refine is_l ?_); refine l_ld txs rfl rfl (by rw [Int.toNat_natCast]; exact H.old hc1) ?_
    repeat' (first | (with_reducible first | refine p_tn ?_ | refine wp_seq ?_ | refine w_reg ?_ | refine l_nil ?_) | ((with_reducible refine g_on ?_); (first | ((with_reducible refine g_mv ?_); refine l_p txs rfl rfl ?_) | ((with_reducible refine g_as ?_); refine l_p txs rfl rfl ?_) | ((with_reducible refine g_cl ?_); refine l_p txs rfl rfl ?_))))
    (with_reducible refine is_l ?_); refine l_t txs rfl rfl (fun hge2 => ?_) (fun hlt2 => ?_)
    · rw [List.drop_eq_nil_of_le (show l2.length ≤ i by omega), cmpL] at hc
      repeat' (first | (with_reducible first | refine p_tn ?_ | refine p_tr ?_ | refine p_br ?_ | refine wp_seq ?_ | refine w_reg ?_) | (with_reducible (refine is_if ?_; (refine w_ift rfl ?_))) | (with_reducible first | refine wp_ret ?_ | refine l_nil ?_) | ((with_reducible refine g_on ?_); ((with_reducible refine g_as ?_); refine l_p txs rfl rfl ?_)))
      refine end1 rfl rfl ?_
      exact ⟨by rw [hc], H.B⟩
    obtain ⟨y, hy⟩ : ∃ y, l2[i]? = some y := ⟨_, List.getElem?_eq_getElem (by omega)⟩
    obtain ⟨a2, rfl⟩ := rdT_some h2 hy
    have hc2 := rdT_cell h2 hy
    obtain ⟨by', ly⟩ := b2 y (List.mem_of_getElem? hy)
    have zy := sizeS' by'
    rw [drop_cons hy, cmpL] at hc
    repeat' (first | (with_reducible first | refine p_tn ?_ | refine wp_seq ?_ | refine w_reg ?_) | (with_reducible (refine is_if ?_; (refine w_iff rfl ?_))) | (with_reducible first | refine wp_skip ?_ | refine l_nil ?_) | ((with_reducible refine g_on ?_); (first | ((with_reducible refine g_mv ?_); refine l_p txs rfl rfl ?_) | ((with_reducible refine g_ia ?_); refine l_ia txs rfl rfl (by first | omega | assumption | decide) (by first | omega | assumption | decide) ?_))))
    (with_reducible refine is_l ?_); refine l_ld txs rfl rfl (by rw [Int.toNat_natCast]; exact H.old hc2) ?_
    repeat' (first | (with_reducible first | refine p_tn ?_ | refine wp_seq ?_ | refine w_reg ?_ | refine l_nil ?_) | ((with_reducible refine g_on ?_); (first | ((with_reducible refine g_mv ?_); refine l_p txs rfl rfl ?_) | ((with_reducible refine g_as ?_); refine l_p txs rfl rfl ?_))))
    have hw := byWord_c (strOfNums x) (strOfNums y) w_ (by omega) (by omega)
    rw [blS bx, blS by'] at hw
    (with_reducible refine is_l ?_); refine l_callv rfl rfl (by kernel_rfl) hw (fun w_ K => ?_)
    have H := H.call K
    repeat' (first | (with_reducible first | refine p_tn ?_ | refine wp_seq ?_ | refine w_reg ?_ | refine l_nil ?_) | ((with_reducible refine g_on ?_); (first | ((with_reducible refine g_mv ?_); refine l_p txs rfl rfl ?_) | ((with_reducible refine g_as ?_); refine l_p txs rfl rfl ?_))))
    (with_reducible refine is_l ?_); refine l_t txs rfl rfl (fun h0 => ?_) (fun h0 => ?_)
    · rw [if_pos h0] at hc
      repeat' (first | (with_reducible first | refine p_tn ?_ | refine p_tr ?_ | refine p_br ?_ | refine wp_seq ?_ | refine w_reg ?_) | (with_reducible (refine is_if ?_; (refine w_ift rfl ?_))) | (with_reducible first | refine wp_ret ?_ | refine l_nil ?_) | ((with_reducible refine g_on ?_); (first | ((with_reducible refine g_mv ?_); refine l_p txs rfl rfl ?_) | ((with_reducible refine g_as ?_); refine l_p txs rfl rfl ?_))))
      refine end1 rfl rfl ?_
      exact ⟨by rw [hc], H.B⟩
    · rw [if_neg h0] at hc
      repeat' (first | (with_reducible first | refine p_tn ?_ | refine p_bn ?_ | refine w_reg ?_) | (with_reducible (refine is_if ?_; (refine w_iff rfl ?_))) | (with_reducible first | refine wp_skip ?_ | refine l_nil ?_) | ((with_reducible refine g_on ?_); (first | ((with_reducible refine g_mv ?_); refine l_p txs rfl rfl ?_) | ((with_reducible refine g_bi ?_); (refine l_a txs rfl rfl (by first | exact in_i64 (by omega) (by omega) | exact in_u8 (by omega) (by omega) | exact in_u64 (by omega) (by omega) | exact in_i32 (by omega) (by omega)) ?_)))))
      exact ⟨i + 1, _, rfl, ⟨rfl, rfl, rfl, rfl, rfl, rfl, trivial⟩, ⟨H, by omega, by omega, hc⟩, by omega⟩
  · rw [List.drop_eq_nil_of_le (show l1.length ≤ i by omega)] at hc
    repeat' (first | (with_reducible first | refine p_tn ?_ | refine p_tx ?_ | refine x_hit ?_ | refine wp_seq ?_ | refine w_reg ?_) | (with_reducible (refine is_if ?_; (refine w_iff rfl ?_))) | (with_reducible first | refine wp_exit ?_ | refine l_nil ?_) | ((with_reducible refine g_on ?_); (first | ((with_reducible refine g_mv ?_); refine l_p txs rfl rfl ?_) | ((with_reducible refine g_cl ?_); refine l_p txs rfl rfl ?_))))
    (with_reducible refine is_l ?_); refine l_t txs rfl rfl (fun h0 => ?_) (fun h0 => ?_)
    · obtain ⟨y, hy⟩ : ∃ y, l2[i]? = some y := ⟨_, List.getElem?_eq_getElem (by omega)⟩
      rw [drop_cons hy, cmpL] at hc
      repeat' (first | (with_reducible first | refine p_tn ?_ | refine p_tr ?_ | refine wp_seq ?_ | refine w_reg ?_) | (with_reducible (refine is_if ?_; (refine w_ift rfl ?_))) | (with_reducible first | refine wp_ret ?_ | refine l_nil ?_) | ((with_reducible refine g_on ?_); ((with_reducible refine g_as ?_); refine l_p txs rfl rfl ?_)))
      refine end1 rfl rfl ?_
      exact ⟨by rw [hc], H.B⟩
    · rw [List.drop_eq_nil_of_le (show l2.length ≤ i by omega), cmpL] at hc
      repeat' (first | (with_reducible first | refine p_tn ?_ | refine wp_seq ?_ | refine w_reg ?_) | (with_reducible (refine is_if ?_; (refine w_iff rfl ?_))) | (with_reducible first | refine wp_skip ?_ | refine wp_ret ?_ | refine l_nil ?_) | ((with_reducible refine g_on ?_); ((with_reducible refine g_as ?_); refine l_p txs rfl rfl ?_)))
      refine end1 rfl rfl ?_
      exact ⟨by rw [hc], H.B⟩
abbrev verA (v : Ver) (A : Option Addr) (c : Nat) : Array Value := #[.string (strOfNums v.a), .string (strOfNums v.b), .string (strOfNums v.c), .slice A v.words.length c, .bool v.odd]
structure VerIn (v : Ver) : Prop where
  a : Bytes v.a ∧ v.a.length ≤ 100000000
  b : Bytes v.b ∧ v.b.length ≤ 100000000
  c : Bytes v.c ∧ v.c.length ≤ 100000000
  words : Wds v.words
  len : v.words.length ≤ 100000000
theorem byNumL_c {a b : L} (ha : Bytes a) (hb : Bytes b) (w : World) : Calls Tryz.prog 92 #[.string (strOfNums a), .string (strOfNums b)] w fun e w' => e = .returned (.int .i64 (cmpN a b)) ∧ Below w.heap.size w w' := by
  have := byNumber_c (strOfNums a) (strOfNums b) w
  rw [blS ha, blS hb] at this
  exact this
set_option maxRecDepth 100000 in
set_option maxHeartbeats 8000000 in
theorem compare_c {w : World} {v u : Ver} (hv : VerIn v) (hu : VerIn u) {A1 A2 : Option Addr} {c1 c2 : Nat} (h1 : Rd w A1 (strC v.words)) (h2 : Rd w A2 (strC u.words)) :
    Calls Tryz.prog 59 #[.agg (verA v A1 c1), .agg (verA u A2 c2)] w fun e w' => e = .returned (.int .i64 (cmpV v u)) ∧ Below w.heap.size w w' := by
  refine enter (args := [.agg (verA v A1 c1), .agg (verA u A2 c2)]) Tryz.func59 rfl Tryz.ntmps59 rfl ?_
  have H := Hp.nil w
  repeat' (with_reducible first | refine wp_seq ?_ | refine w_reg ?_)
  (with_reducible refine is_l ?_); refine h_box H rfl rfl rfl (fun gX w_ H => ?_)
  (with_reducible refine is_l ?_); refine h_box H rfl rfl rfl (fun gY w_ H => ?_)
  repeat' (first | (with_reducible first | refine p_tn ?_ | refine wp_seq ?_ | refine wp_block ?_ | refine w_reg ?_ | refine l_nil ?_) | ((with_reducible refine g_on ?_); (first | ((with_reducible refine g_mv ?_); refine l_p txs rfl rfl ?_) | ((with_reducible refine g_as ?_); refine l_p txs rfl rfl ?_))))
  refine w_loop (σ := Nat) (S := fun s => [(2, .pointer (some ⟨gX, 0, none⟩)), (3, .pointer (some ⟨gY, 0, none⟩)), (7, .int .i64 (s : Int))]) (J := fun s w' => Hp w w' [(gY, 91, (verA u A2 c2).toList), (gX, 91, (verA v A1 c1).toList)] [] ∧ s ≤ 3 ∧ (1 ≤ s → cmpN v.a u.a = 0) ∧ (2 ≤ s → cmpN v.b u.b = 0) ∧ (3 ≤ s → cmpN v.c u.c = 0)) (μ := fun s => 3 - s) 0 ⟨rfl, rfl, rfl, trivial⟩ ⟨H, by omega, fun h => by omega, fun h => by omega, fun h => by omega⟩ ?_
  clear H
  rintro s f w_ ⟨H, hs, k1, k2, k3⟩
  by_cases hs3 : s = 3
  · subst hs3
    have k1 := k1 (by omega)
    have k2 := k2 (by omega)
    have k3 := k3 (by omega)
    have hV : cmpV v u = Mb.cmpP v.words u.words := by unfold cmpV; rw [k1, k2, k3]; simp
    repeat' (with_reducible first | refine wp_seq ?_ | refine w_reg ?_)
    (with_reducible refine is_l ?_); refine l_t txs rfl rfl (fun hh => absurd hh (by decide)) (fun _ => ?_)
    repeat' (first | (with_reducible first | refine p_tn ?_ | refine p_tx ?_ | refine x_hit ?_ | refine wp_seq ?_ | refine wp_block ?_ | refine w_reg ?_) | (with_reducible (refine is_if ?_; (refine w_iff rfl ?_))) | (with_reducible first | refine wp_exit ?_ | refine l_nil ?_) | ((with_reducible refine g_on ?_); (first | ((with_reducible refine g_fa ?_); refine h_fa flds rfl rfl ?_) | ((with_reducible refine g_ld ?_); (refine h_ld txs H 1 rfl rfl rfl rfl ?_)) | ((with_reducible refine g_cl ?_); refine l_p txs rfl rfl ?_))))
    (with_reducible refine is_l ?_); refine l_t txs rfl rfl (fun e1 => ?_) (fun e1 => ?_)
    · have e1' : v.words = [] := List.eq_nil_of_length_eq_zero (by omega)
      have hP : Mb.cmpP v.words u.words = if u.words = [] then 0 else 1 := by unfold Mb.cmpP; rw [e1']; simp
      repeat' (first | (with_reducible first | refine p_tn ?_ | refine wp_seq ?_ | refine w_reg ?_) | (with_reducible (refine is_if ?_; (refine w_ift rfl ?_))) | (with_reducible refine l_nil ?_) | ((with_reducible refine g_on ?_); (first | ((with_reducible refine g_mv ?_); refine l_p txs rfl rfl ?_) | ((with_reducible refine g_as ?_); refine l_p txs rfl rfl ?_) | ((with_reducible refine g_pk ?_); refine l_p txs rfl rfl ?_) | ((with_reducible refine g_fa ?_); refine h_fa flds rfl rfl ?_) | ((with_reducible refine g_ld ?_); (first | (refine h_ld txs H 0 rfl rfl rfl rfl ?_) | (refine h_ld txs H 1 rfl rfl rfl rfl ?_))) | ((with_reducible refine g_cl ?_); refine l_p txs rfl rfl ?_))) | ((with_reducible refine g_if ?_); (refine l_off rfl ?_)))
      (with_reducible refine is_l ?_); refine l_callp rfl rfl (by kernel_rfl) (orderI_c _ _ _) ?_
      repeat' (first | (with_reducible first | refine p_tn ?_ | refine p_tr ?_ | refine p_br ?_ | refine wp_ret ?_ | refine l_nil ?_) | ((with_reducible refine g_on ?_); ((with_reducible refine g_as ?_); refine l_p txs rfl rfl ?_)))
      refine end1 rfl rfl ?_
      refine ⟨?_, H.B⟩
      rw [hV, hP]
      unfold cmpI
      by_cases e2 : u.words = []
      · rw [e2, e1']; simp
      · have : 0 < u.words.length := List.length_pos_iff.2 e2
        rw [if_neg e2, e1]
        congr 2
        rw [if_neg (by split <;> omega), if_pos (by split <;> omega)]
    · have e1' : v.words ≠ [] := fun e => e1 (by rw [e]; rfl)
      repeat' (first | ((with_reducible refine g_on ?_); ((with_reducible refine g_mv ?_); refine l_p txs rfl rfl ?_)) | ((with_reducible refine g_if ?_); (first | ((with_reducible refine g_fa ?_); refine h_fa flds rfl rfl ?_) | ((with_reducible refine g_ld ?_); (refine h_ld txs H 0 rfl rfl rfl rfl ?_)) | ((with_reducible refine g_cl ?_); refine l_p txs rfl rfl ?_))))
      (with_reducible refine is_l ?_); refine l_t txs rfl rfl (fun e2 => ?_) (fun e2 => ?_)
      · have e2' : u.words = [] := List.eq_nil_of_length_eq_zero (by omega)
        have hP : Mb.cmpP v.words u.words = -1 := by unfold Mb.cmpP; rw [e2']; simp [e1']
        repeat' (first | (with_reducible first | refine p_tn ?_ | refine wp_seq ?_ | refine w_reg ?_) | (with_reducible (refine is_if ?_; (refine w_ift rfl ?_))) | (with_reducible refine l_nil ?_) | ((with_reducible refine g_on ?_); (first | ((with_reducible refine g_as ?_); refine l_p txs rfl rfl ?_) | ((with_reducible refine g_pk ?_); refine l_p txs rfl rfl ?_) | ((with_reducible refine g_fa ?_); refine h_fa flds rfl rfl ?_) | ((with_reducible refine g_ld ?_); (first | (refine h_ld txs H 0 rfl rfl rfl rfl ?_) | (refine h_ld txs H 1 rfl rfl rfl rfl ?_))) | ((with_reducible refine g_cl ?_); refine l_p txs rfl rfl ?_))))
        (with_reducible refine is_l ?_); refine l_callp rfl rfl (by kernel_rfl) (orderI_c _ _ _) ?_
        repeat' (first | (with_reducible first | refine p_tn ?_ | refine p_tr ?_ | refine p_br ?_ | refine wp_ret ?_ | refine l_nil ?_) | ((with_reducible refine g_on ?_); ((with_reducible refine g_as ?_); refine l_p txs rfl rfl ?_)))
        refine end1 rfl rfl ?_
        refine ⟨?_, H.B⟩
        rw [hV, hP, e2]
        unfold cmpI
        have : 0 < v.words.length := List.length_pos_iff.2 e1'
        congr 2
        rw [if_pos (by split <;> omega)]
      · have e2' : u.words ≠ [] := fun e => e2 (by rw [e]; rfl)
        have hP : Mb.cmpP v.words u.words = cmpL v.words u.words := by unfold Mb.cmpP; rw [if_neg (by simp [e1', e2'])]
        repeat' (first | (with_reducible first | refine p_tn ?_ | refine p_bn ?_ | refine wp_seq ?_ | refine w_reg ?_) | (with_reducible (refine is_if ?_; (refine w_iff rfl ?_))) | (with_reducible first | refine wp_skip ?_ | refine l_nil ?_) | ((with_reducible refine g_on ?_); (first | ((with_reducible refine g_as ?_); refine l_p txs rfl rfl ?_) | ((with_reducible refine g_pk ?_); refine l_p txs rfl rfl ?_) | ((with_reducible refine g_fa ?_); refine h_fa flds rfl rfl ?_) | ((with_reducible refine g_ld ?_); (first | (refine h_ld txs H 0 rfl rfl rfl rfl ?_) | (refine h_ld txs H 1 rfl rfl rfl rfl ?_))))))
        (with_reducible refine is_l ?_); refine l_callv rfl rfl (by kernel_rfl) (cmpFunc_c (h1.below H.B) (h2.below H.B) hv.words hu.words hv.len hu.len) (fun w_ K => ?_)
        have H := H.call K
        repeat' (first | (with_reducible first | refine p_tn ?_ | refine wp_ret ?_ | refine l_nil ?_) | ((with_reducible refine g_on ?_); ((with_reducible refine g_as ?_); refine l_p txs rfl rfl ?_)))
        refine end1 rfl rfl ?_
        exact ⟨by rw [hV, hP], H.B⟩
  · have h012 : s = 0 ∨ s = 1 ∨ s = 2 := by omega
    rcases h012 with rfl | rfl | rfl
    all_goals
      repeat' (with_reducible first | refine wp_seq ?_ | refine w_reg ?_)
      (with_reducible refine is_l ?_); refine l_t txs rfl rfl (fun _ => ?_) (fun hh => absurd (by decide) hh)
      repeat' (first | (with_reducible first | refine p_tn ?_ | refine wp_seq ?_ | refine wp_block ?_ | refine w_reg ?_) | (with_reducible (refine is_if ?_; (refine w_ift rfl ?_))) | (with_reducible first | refine wp_skip ?_ | refine l_nil ?_) | ((with_reducible refine g_on ?_); (first | ((with_reducible refine g_mv ?_); refine l_p txs rfl rfl ?_) | ((with_reducible refine g_as ?_); refine l_p txs rfl rfl ?_))))
      have HS := H.pick [0, 1] [] (by decide) (by decide) rfl rfl
      refine d_start (fun w_ => Hp w w_ _ _) #[false, false, false, false, false, false, false, false, false, false] (by kernel_rfl) rfl rfl HS.drew ?_
      have H := H.drew
      have HS := HS.drew
      first | (refine d_pure (i := 0) #[true, false, false, false, false, false, false, false, false, false] rfl (by kernel_rfl) (fun _ _ _ h => h) rfl (fun w_ => evP_run (o := ⟨_, _, _, _, _, _⟩) txs rfl) ?_)
      first | (refine d_pure (i := 1) #[true, true, false, false, false, false, false, false, false, false] rfl (by kernel_rfl) (fun _ _ _ h => h) rfl (fun w_ => evF_run (o := ⟨_, _, _, _, _, _⟩) flds rfl) ?_) | (refine d_pure (i := 1) #[true, true, false, false, false, false, false, false, false, false] rfl (by kernel_rfl) (fun _ _ _ h => h) rfl (fun w_ => evG_run (o := ⟨_, _, _, _, _, _⟩) flds rfl) ?_)
      first | (refine d_pure (i := 2) #[true, true, true, false, false, false, false, false, false, false] rfl (by kernel_rfl) (fun _ _ _ h => h) rfl (fun w_ => evIaa_run (o := ⟨_, _, _, _, _, _⟩) Tryz.underlying87 info_str1 rfl rfl rfl (by decide) (by decide)) ?_)
      first | (refine d_take (i := 3) #[true, true, true, true, false, false, false, false, false, false] rfl (by kernel_rfl) (fun _ _ _ h => h) rfl (fun w_ K => evL_run (o := ⟨_, _, _, _, _, _⟩) txs rfl (K.cellAt 0 rfl rfl)) HS ?_) | (refine d_take (i := 3) #[true, true, true, true, false, false, false, false, false, false] rfl (by kernel_rfl) (fun _ _ _ h => h) rfl (fun w_ K => evL_run (o := ⟨_, _, _, _, _, _⟩) txs rfl (K.cellAt 1 rfl rfl)) HS ?_)
      first | (refine d_pure (i := 4) #[true, true, true, true, true, false, false, false, false, false] rfl (by kernel_rfl) (fun _ _ _ h => h) rfl (fun w_ => evP_run (o := ⟨_, _, _, _, _, _⟩) txs rfl) ?_)
      first | (refine d_pure (i := 5) #[true, true, true, true, true, true, false, false, false, false] rfl (by kernel_rfl) (fun _ _ _ h => h) rfl (fun w_ => evF_run (o := ⟨_, _, _, _, _, _⟩) flds rfl) ?_) | (refine d_pure (i := 5) #[true, true, true, true, true, true, false, false, false, false] rfl (by kernel_rfl) (fun _ _ _ h => h) rfl (fun w_ => evG_run (o := ⟨_, _, _, _, _, _⟩) flds rfl) ?_)
      first | (refine d_pure (i := 6) #[true, true, true, true, true, true, true, false, false, false] rfl (by kernel_rfl) (fun _ _ _ h => h) rfl (fun w_ => evIaa_run (o := ⟨_, _, _, _, _, _⟩) Tryz.underlying87 info_str1 rfl rfl rfl (by decide) (by decide)) ?_)
      first | (refine d_take (i := 7) #[true, true, true, true, true, true, true, true, false, false] rfl (by kernel_rfl) (fun _ _ _ h => h) rfl (fun w_ K => evL_run (o := ⟨_, _, _, _, _, _⟩) txs rfl (K.cellAt 0 rfl rfl)) HS ?_) | (refine d_take (i := 7) #[true, true, true, true, true, true, true, true, false, false] rfl (by kernel_rfl) (fun _ _ _ h => h) rfl (fun w_ K => evL_run (o := ⟨_, _, _, _, _, _⟩) txs rfl (K.cellAt 1 rfl rfl)) HS ?_)
      refine d_one (i := 8) #[true, true, true, true, true, true, true, true, true, false] rfl (by kernel_rfl) rfl ?_
      refine l_callv rfl rfl (by kernel_rfl) (byNumL_c (by first | exact hv.a.1 | exact hv.b.1 | exact hv.c.1) (by first | exact hu.a.1 | exact hu.b.1 | exact hu.c.1) _) (fun w_ K => ?_); have H := H.call K
      refine l_nil ?_
      have HS := H.pick [0, 1] [] (by decide) (by decide) rfl rfl
      refine ⟨rfl, HS, ?_⟩
      first | (refine d_pure (i := 9) #[true, true, true, true, true, true, true, true, true, true] rfl (by kernel_rfl) (fun _ _ _ h => h) rfl (fun w_ => evP_run (o := ⟨_, _, _, _, _, _⟩) txs rfl) ?_)
      refine d_done rfl ?_
      repeat' (first | (with_reducible first | refine p_tn ?_ | refine wp_seq ?_ | refine w_reg ?_) | ((with_reducible refine g_on ?_); ((with_reducible refine g_mv ?_); refine l_p txs rfl rfl ?_)))
      (with_reducible refine is_l ?_); refine l_t txs rfl rfl (fun h0 => ?_) (fun h0 => ?_)
      · have hV : ∀ z, z ≠ 0 → (z = cmpN v.a u.a ∨ (cmpN v.a u.a = 0 ∧ (z = cmpN v.b u.b ∨ (cmpN v.b u.b = 0 ∧ z = cmpN v.c u.c)))) → cmpV v u = z := fun z hz hh => by
          unfold cmpV
          rcases hh with rfl | ⟨q1, rfl | ⟨q2, rfl⟩⟩
          · rw [if_pos hz]
          · rw [if_neg (by rw [q1]; simp), if_pos hz]
          · rw [if_neg (by rw [q1]; simp), if_neg (by rw [q2]; simp), if_pos hz]
        repeat' (first | (with_reducible first | refine p_tn ?_ | refine p_tr ?_ | refine p_br ?_ | refine wp_seq ?_ | refine w_reg ?_) | (with_reducible (refine is_if ?_; (refine w_ift rfl ?_))) | (with_reducible first | refine wp_ret ?_ | refine l_nil ?_) | ((with_reducible refine g_on ?_); (first | ((with_reducible refine g_mv ?_); refine l_p txs rfl rfl ?_) | ((with_reducible refine g_as ?_); refine l_p txs rfl rfl ?_))))
        refine end1 rfl rfl ?_
        exact ⟨by rw [hV _ h0 (by first | exact .inl rfl | exact .inr ⟨k1 (by decide), .inl rfl⟩ | exact .inr ⟨k1 (by decide), .inr ⟨k2 (by decide), rfl⟩⟩)], H.B⟩
      · have h0 := Classical.not_not.1 h0
        repeat' (first | (with_reducible first | refine p_tn ?_ | refine p_bn ?_ | refine w_reg ?_) | (with_reducible (refine is_if ?_; (refine w_iff rfl ?_))) | (with_reducible first | refine wp_skip ?_ | refine l_nil ?_) | ((with_reducible refine g_on ?_); (first | ((with_reducible refine g_mv ?_); refine l_p txs rfl rfl ?_) | ((with_reducible refine g_bi ?_); (refine l_a txs rfl rfl (by first | exact in_i64 (by omega) (by omega) | exact in_u8 (by omega) (by omega) | exact in_u64 (by omega) (by omega) | exact in_i32 (by omega) (by omega)) ?_)))))
        refine ⟨_ + 1, _, rfl, ⟨rfl, rfl, rfl, trivial⟩, ⟨H.pick [0, 1] [] (by decide) (by decide) rfl rfl, by decide, fun _ => by first | exact h0 | exact k1 (by decide), fun h => by first | exact h0 | exact k2 (by decide) | omega, fun h => by first | exact h0 | omega⟩, by decide⟩
end Go.Proofs.YtnimaenhijlcmaaGreatDoor.K
