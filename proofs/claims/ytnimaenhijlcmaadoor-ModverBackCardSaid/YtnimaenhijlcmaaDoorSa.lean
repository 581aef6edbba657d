/- The sample that everybody can write down; comparing arrays of bytes. -/
import Derived.Test.YtnimaenhijlcmaaDoorVz
import Derived.Stop.BytesEq
namespace Go.Proofs.YtnimaenhijlcmaaDoor.K.Rec
open Go.RowKit Go.Proofs.YtnimaenhijlcmaaDoor.Q Go.Proofs.YtnimaenhijlcmaaDoor.K Go.Proofs.YtnimaenhijlcmaaDoor.Mb Go.Proofs.YtnimaenhijlcmaaDoorW.PrintWords
set_option linter.unusedVariables false
set_option linter.unusedSimpArgs false

theorem nums_cell {x : L} (h : Bytes x) : nums .u8 x = (x.map fun z => UInt8.ofNat z.toNat).map Extern.Stop.cell := by
  unfold nums
  rw [List.map_map]
  exact List.map_congr_left fun z hz => by
    show Value.int .u8 z = Value.int .u8 _
    congr 1
    exact (ofNat_toNat (h z hz).1 (h z hz).2).symm
theorem u8_inj : ∀ {x y : L}, Bytes x → Bytes y → (x.map fun z => UInt8.ofNat z.toNat) = (y.map fun z => UInt8.ofNat z.toNat) → x = y
  | [], [], _, _, _ => rfl
  | [], _ :: _, _, _, h => by cases h
  | _ :: _, [], _, _, h => by cases h
  | a :: x, b :: y, hx, hy, h => by
    simp only [List.map_cons, List.cons.injEq] at h
    have ha := hx a (by simp)
    have hb := hy b (by simp)
    have e1 := ofNat_toNat ha.1 ha.2
    have e2 := ofNat_toNat hb.1 hb.2
    have : a = b := by rw [← e1, ← e2, h.1]
    rw [this, u8_inj (fun z hz => hx z (by simp [hz])) (fun z hz => hy z (by simp [hz])) h.2]
theorem u8_beq {x y : L} (hx : Bytes x) (hy : Bytes y) : ((x.map fun z => UInt8.ofNat z.toNat) == (y.map fun z => UInt8.ofNat z.toNat)) = decide (x = y) := by
  by_cases h : x = y
  · subst h
    simp
  · rw [decide_eq_false h]
    exact beq_eq_false_iff_ne.2 fun e => h (u8_inj hx hy e)
theorem size8 (w : World) : (sizeOf 5).run Tryd.prog w = .ok 1 w := by
  obtain ⟨i0, hi, hz⟩ := Option.map_eq_some_iff.1 one0_1
  simp [sizeOf, typeInfo, hi, hz, go_sem]
theorem eql32 {x y : L} (hx : Bytes x) (hy : Bytes y) (lx : x.length = 32) (ly : y.length = 32) (w : World) : (binOp .eql 43 (.agg (nums .u8 x).toArray) (.agg (nums .u8 y).toArray)).run Tryd.prog w = .ok (.bool (decide (x = y))) w := by
  rw [nums_cell hx, nums_cell hy, run_eql_bytes w 43 5 32 Tryd.underlying43 Tryd.underlying5 size8 _ _ (by rw [List.length_map, lx]) (by rw [List.length_map, ly]), u8_beq hx hy]
theorem neq32 {x y : L} (hx : Bytes x) (hy : Bytes y) (lx : x.length = 32) (ly : y.length = 32) (w : World) : (binOp .neq 43 (.agg (nums .u8 x).toArray) (.agg (nums .u8 y).toArray)).run Tryd.prog w = .ok (.bool (!decide (x = y))) w := by
  rw [nums_cell hx, nums_cell hy, run_neq_struct, run_equalIn_bytes w 9998 43 5 32 Tryd.underlying43 Tryd.underlying5 size8 _ _ (by rw [List.length_map, lx]) (by rw [List.length_map, ly]), u8_beq hx hy]
  rfl
section
variable {P : Program} {n : Nat} {ops : Array Oper} {Q : Exit → Act → World → Prop} {rest : List Oper} {f : Fr} {w w0 : World} {d : Option Nat} {tt : TypeId} {ps : String} {af : Array Edge} {gd : Option (Nat × Bool)}
theorem l_bag {b : BinOp} {t t2 : TypeId} {x y : Operand} {a c : Array Value} {z : Value} (hm : P.eqGuardType P.depth t = false) (hw : want n ops f ⟨d, .binOp b t x y t2, tt, ps, af, gd⟩ = true) (hx : nf (X n f x) = some (.agg a)) (hy : nf (X n f y) = some (.agg c))
    (hr : (binOp b t (.agg a) (.agg c)).run P w = .ok z w) (h : WL P ops Q rest (act n (put f d z)) w) : WL P ops Q (⟨d, .binOp b t x y t2, tt, ps, af, gd⟩ :: rest) (act n f) w := by
  refine l_val hw ?_ h
  have hx' := nf_eq hx
  have hy' := nf_eq hy
  unfold execOp
  simp [← hx', ← hy', run_eqGuard_agg w b t x y a c hm, hr]
end
theorem guard32 : Tryd.prog.eqGuardType Tryd.prog.depth 43 = false := by kernel_rfl
def sT : ByteArray := ⟨#[97, 46, 99, 111, 109, 47, 66, 32, 118, 49, 46, 48, 46, 48, 45, 82, 32, 104, 49, 58, 65, 65, 65, 65, 65, 65, 65, 65, 65, 65, 65, 65, 65, 65, 65, 65, 65, 65, 65, 65, 65, 65, 65, 65, 65, 65, 65, 65, 65, 65, 65, 65, 65, 65, 65, 65, 65, 65, 65, 65, 65, 65, 65, 61, 10, 97, 46, 99, 111, 109, 47, 66, 32, 118, 49, 46, 48, 46, 48, 45, 82, 47, 103, 111, 46, 109, 111, 100, 32, 104, 49, 58, 65, 65, 65, 65, 65, 65, 65, 65, 65, 65, 65, 65, 65, 65, 65, 65, 65, 65, 65, 65, 65, 65, 65, 65, 65, 65, 65, 65, 65, 65, 65, 65, 65, 65, 65, 65, 65, 65, 65, 65, 65, 65, 65, 61, 10]⟩
def pT : ByteArray := ⟨#[97, 46, 99, 111, 109, 47, 66]⟩
def vT : ByteArray := ⟨#[118, 49, 46, 48, 46, 48, 45, 82]⟩
theorem sT_rec : parRec (bl sT) = .is (bl pT) (bl vT) zL zL := by decide +kernel
theorem pT_esc : escPath (bl pT) = (⟨#[97, 46, 99, 111, 109, 47, 33, 98]⟩, 0) := by decide +kernel
theorem zL_bytes : Bytes zL := by
  have : zL.all (fun z => decide (0 ≤ z) && decide (z ≤ 255)) = true := by decide
  intro x hx
  have := List.all_eq_true.1 this x hx
  simpa using this
theorem zz32 (w : World) : (binOp .eql 43 (.agg (nums .u8 zL).toArray) (.agg (nums .u8 zL).toArray)).run Tryd.prog w = .ok (.bool true) w := by
  rw [eql32 zL_bytes zL_bytes rfl rfl, decide_eq_true rfl]
set_option maxRecDepth 100000 in
set_option maxHeartbeats 8000000 in
theorem sample_c {w : World} (hL : Lay w) : Calls Tryd.prog 17 #[] w fun e w' => e = .returned (.bool true) ∧ Below w.heap.size w w' := by
  refine enter (args := []) Tryd.func17 rfl Tryd.ntmps17 rfl ?_
  have H := Hp.nil w
  have hr := fun (w1 : World) (h1 : Lay w1) => ParseRecord_c h1 sT
  have he := fun (w1 : World) (h1 : Lay w1) => EscapePath_c h1 pT
  rw [sT_rec] at hr
  rw [pT_esc] at he
  repeat' (first | (with_reducible first | refine p_tn ?_ | refine wp_seq ?_ | refine w_reg ?_ | refine l_nil ?_) | ((with_reducible refine g_on ?_); (first | ((with_reducible refine g_mv ?_); refine l_p txs rfl rfl ?_) | ((with_reducible refine g_as ?_); refine l_p txs rfl rfl ?_))))
  (with_reducible refine is_l ?_); refine l_callv rfl rfl (by kernel_rfl) (hr _ (hL.below H.B)) (fun w_ K => ?_)
  have H := H.call K
  have e1 : bl (strOfNums (bl pT)) = bl pT := blS (bl_bytes pT)
  have e2 : bl (strOfNums (bl vT)) = bl vT := blS (bl_bytes vT)
  repeat' (first | (with_reducible first | refine p_tn ?_ | refine wp_seq ?_ | refine w_reg ?_ | refine l_nil ?_) | ((with_reducible refine g_on ?_); (first | ((with_reducible refine g_mv ?_); refine l_p txs rfl rfl ?_) | ((with_reducible refine g_as ?_); refine l_p txs rfl rfl ?_) | ((with_reducible refine g_ex ?_); refine l_p txs rfl rfl ?_) | ((with_reducible refine g_st ?_); (first | (refine h_stR recs H 0 rfl rfl rfl rfl rfl rfl rfl rfl rfl (fun w_ H => ?_)) | (refine h_stR recs H 1 rfl rfl rfl rfl rfl rfl rfl rfl rfl (fun w_ H => ?_)))) | ((with_reducible refine g_al ?_); refine h_alloc recs H rfl rfl (fun g_ w_ H => ?_)))))
  (with_reducible refine is_l ?_); refine l_callv rfl rfl (by kernel_rfl) (he _ (hL.below H.B)) (fun w_ K => ?_)
  have H := H.call K
  repeat' (first | (with_reducible first | refine p_tn ?_ | refine wp_seq ?_ | refine w_reg ?_ | refine l_nil ?_) | ((with_reducible refine g_on ?_); (first | ((with_reducible refine g_mv ?_); refine l_p txs rfl rfl ?_) | ((with_reducible refine g_as ?_); refine l_p txs rfl rfl ?_) | ((with_reducible refine g_ex ?_); refine l_p txs rfl rfl ?_) | ((with_reducible refine g_al ?_); refine h_alloc recs H rfl rfl (fun g_ w_ H => ?_)))))
  (with_reducible refine is_l ?_); refine l_t txs rfl rfl (fun _ => ?_) (fun h => absurd e1 h)
  repeat' (first | ((with_reducible refine g_on ?_); ((with_reducible refine g_mv ?_); refine l_p txs rfl rfl ?_)) | ((with_reducible refine g_if ?_); ((with_reducible refine g_mv ?_); refine l_p txs rfl rfl ?_)))
  (with_reducible refine is_l ?_); refine l_t txs rfl rfl (fun _ => ?_) (fun h => absurd e2 h)
  repeat' (first | ((with_reducible refine g_on ?_); (first | ((with_reducible refine g_mv ?_); refine l_p txs rfl rfl ?_) | ((with_reducible refine g_pk ?_); refine l_p txs rfl rfl ?_))) | ((with_reducible refine g_if ?_); ((with_reducible refine g_ld ?_); (first | (refine h_ldR recs H 0 rfl rfl rfl rfl rfl ?_) | (refine h_ldR recs H 2 rfl rfl rfl rfl rfl ?_)))))
  (with_reducible refine is_l ?_); refine l_bag (z := .bool true) guard32 rfl rfl rfl (zz32 _) ?_
  repeat' (first | ((with_reducible refine g_on ?_); (first | ((with_reducible refine g_mv ?_); refine l_p txs rfl rfl ?_) | ((with_reducible refine g_pk ?_); refine l_p txs rfl rfl ?_))) | ((with_reducible refine g_if ?_); ((with_reducible refine g_ld ?_); (first | (refine h_ldR recs H 0 rfl rfl rfl rfl rfl ?_) | (refine h_ldR recs H 1 rfl rfl rfl rfl rfl ?_)))))
  (with_reducible refine is_l ?_); refine l_bag (z := .bool true) guard32 rfl rfl rfl (zz32 _) ?_
  repeat' (first | ((with_reducible refine g_on ?_); (first | ((with_reducible refine g_mv ?_); refine l_p txs rfl rfl ?_) | ((with_reducible refine g_pk ?_); refine l_p txs rfl rfl ?_))) | ((with_reducible refine g_if ?_); ((with_reducible refine g_mv ?_); refine l_p txs rfl rfl ?_)))
  (with_reducible refine is_l ?_); refine l_t txs rfl rfl (fun _ => ?_) (fun h => absurd rfl h)
  repeat' (first | ((with_reducible refine g_on ?_); (first | ((with_reducible refine g_mv ?_); refine l_p txs rfl rfl ?_) | ((with_reducible refine g_pk ?_); refine l_p txs rfl rfl ?_))) | ((with_reducible refine g_if ?_); ((with_reducible refine g_mv ?_); refine l_p txs rfl rfl ?_)))
  (with_reducible refine is_l ?_); refine l_t txs rfl rfl (fun _ => ?_) (fun h => absurd rfl h)
  repeat' (first | ((with_reducible refine g_on ?_); (first | ((with_reducible refine g_mv ?_); refine l_p txs rfl rfl ?_) | ((with_reducible refine g_pk ?_); refine l_p txs rfl rfl ?_))) | ((with_reducible refine g_if ?_); ((with_reducible refine g_mv ?_); refine l_p txs rfl rfl ?_)))
  (with_reducible refine is_l ?_); refine l_t txs rfl rfl (fun _ => ?_) (fun h => absurd rfl h)
  repeat' (first | (with_reducible first | refine p_tn ?_ | refine wp_ret ?_ | refine l_nil ?_) | ((with_reducible refine g_on ?_); (first | ((with_reducible refine g_as ?_); refine l_p txs rfl rfl ?_) | ((with_reducible refine g_pk ?_); refine l_p txs rfl rfl ?_))))
  refine end1 rfl rfl ?_
  exact ⟨rfl, H.B⟩
end Go.Proofs.YtnimaenhijlcmaaDoor.K.Rec
