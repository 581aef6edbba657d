/- A number without a sign by base 10. -/
import Derived.Test.YtnimaenhijlcmaaDoorVj
import Derived.Test.YtnimaenhijlcmaaDoorMNum
import Derived.Lib.ItoaMem
namespace Go.Proofs.YtnimaenhijlcmaaDoor.K.Num
open Go.RowKit Go.Proofs.YtnimaenhijlcmaaDoor.Q Go.Proofs.YtnimaenhijlcmaaDoor.K Go.Proofs.YtnimaenhijlcmaaDoor.Mb Go.Proofs.YtnimaenhijlcmaaDoorW.PrintWords
set_option linter.unusedVariables false
set_option linter.unusedSimpArgs false

/-! The tables, with more kinds of numbers and arrays of three. -/
def rt : Nat → Option (List Value)
  | 23 => some [.int .u32 0, .int .u32 0, .int .u32 0]
  | t => K.rt t
theorem recOkA : RecOk Tryd.prog 23 [.int .u32 0, .int .u32 0, .int .u32 0] := ⟨⟨_, Tryd.underlying23, rfl⟩, by kernel_rfl⟩
theorem recs : Recs Tryd.prog rt := by
  intro t zs h
  unfold rt at h
  split at h
  · cases h; exact recOkA
  · exact K.recs t zs h
def tx : Nat → Option Ty
  | 22 => some (.int .u32)
  | 53 => some (.int .u64)
  | t => K.tx t
theorem txs : Tys Tryd.prog tx := by
  intro t k h
  unfold tx at h
  split at h
  · cases h; exact Tryd.underlying22
  · cases h; exact Tryd.underlying53
  · exact K.txs t k h
theorem one32 : (Tryd.prog.info? 22).map (·.size) = some 1 := by kernel_rfl
theorem one64 : (Tryd.prog.info? 53).map (·.size) = some 1 := by kernel_rfl
theorem ones : Ones Tryd.prog tx := by
  intro t k h
  unfold tx at h
  split at h
  · exact one32
  · exact one64
  · exact K.ones t k h
theorem grow_below {w : World} {k : Nat} {os : Array Obj} : Below w.heap.size w (Sort.grow (w.drewN k) os) :=
  ⟨rfl, rfl, rfl, by simp [Sort.grow], fun i hi => by simp [Sort.grow, Array.getElem?_append, hi]⟩
theorem decDigits_S (n : Nat) : Lib.decDigits n = (decS n).map fun x => UInt8.ofNat x.toNat := by
  induction n using Nat.strongRecOn with
  | ind n ih =>
    rw [Lib.decDigits, decS]
    by_cases h : n < 10
    · rw [dif_pos h, if_pos h]
      simp only [List.map_cons, List.map_nil]
      congr 2
    · rw [dif_neg h, if_neg h, ih (n / 10) (by omega), List.map_append]
      simp only [List.map_cons, List.map_nil]
      congr 2
theorem dec_S (n : Nat) : (⟨(Lib.decDigits n).toArray⟩ : ByteArray) = strOfNums (decS n) := by
  unfold strOfNums
  rw [decDigits_S]
abbrev TabP (w : World) : Prop := ∀ w', Below w.heap.size w w' → Lib.TabIs Tryd.prog w' "internal/strconv.uint64pow10" .u64 Lib.pow10Tab
theorem TabP.below {w w' : World} (h : TabP w) (hb : Below w.heap.size w w') : TabP w' := fun w2 K => h w2 (Bt hb K)
section
variable {P : Program} {n : Nat} {ops : Array Oper} {Q : Exit → Act → World → Prop} {rest : List Oper} {f : Fr} {w w0 : World} {d : Option Nat} {op : Op} {tt : TypeId} {ps : String} {af : Array Edge} {gd : Option (Nat × Bool)}
theorem l_cvi {src dst : TypeId} {k k2 : IntKind} {z y : Int} {x : Operand} (hs : P.underlying src = some (.int k)) (hd : P.underlying dst = some (.int k2)) (hw : want n ops f ⟨d, .convert src dst x, tt, ps, af, gd⟩ = true) (hx : nf (X n f x) = some (.int k z)) (hz : k2.wrap z = y) (h : WL P ops Q rest (act n (put f d (.int k2 y))) w) : WL P ops Q (⟨d, .convert src dst x, tt, ps, af, gd⟩ :: rest) (act n f) w := by
  subst hz
  refine l_val hw ?_ h
  have hx' := nf_eq hx
  unfold execOp
  simp [go_sem, ← hx', convert, run_underlying hs, run_underlying hd]
theorem l_slH {t e : TypeId} {m : Nat} {x hi : Operand} {g : Nat} {j : Nat} {z : Int} (ht : P.underlying t = some (.array m e)) (he : (P.info? e).map (·.size) = some 1) (hw : want n ops f ⟨d, .slice t x none (some hi) none, tt, ps, af, gd⟩ = true) (hx : nf (X n f x) = some (.pointer (some ⟨g, 0, none⟩))) (hy : nf (X n f hi) = some (.int .i64 z)) (hz : z = (j : Int)) (h1 : j ≤ m)
    (h : WL P ops Q rest (act n (put f d (.slice (some ⟨g, 0, none⟩) j m))) w) : WL P ops Q (⟨d, .slice t x none (some hi) none, tt, ps, af, gd⟩ :: rest) (act n f) w := by
  subst hz
  refine l_val hw ?_ h
  have hx' := nf_eq hx
  have hy' := nf_eq hy
  obtain ⟨i0, hi, hz⟩ := Option.map_eq_some_iff.1 he
  unfold execOp
  have hel : P.elem t = e := by simp [Program.elem, ht]
  simp [go_sem, ← hx', ← hy', Instr.sliceAt, Instr.slice, Instr.sliceBounds, Instr.sliceBound, run_underlying ht, sizeOf, typeInfo, hi, hz, hel, Addr.add_lit, h1]
theorem l_cvv {src dst : TypeId} {v z : Value} {x : Operand} (hw : want n ops f ⟨d, .convert src dst x, tt, ps, af, gd⟩ = true) (hx : nf (X n f x) = some v) (hr : (convert src dst v).run P w = .ok z w) (h : WL P ops Q rest (act n (put f d z)) w) : WL P ops Q (⟨d, .convert src dst x, tt, ps, af, gd⟩ :: rest) (act n f) w := by
  refine l_val hw ?_ h
  have hx' := nf_eq hx
  unfold execOp
  simp [← hx', hr]
end
theorem holds0 (w : World) (T : TypeId) (nd : Nat) (hs : nd ≤ 24) : Sort.Holds (fun (b : UInt8) => Value.int .u8 (b.toNat : Int)) (w.alloc (.cells Lib.zeros24 T)) w.heap.size 0 (Array.replicate nd (0 : UInt8)) := fun j hj => by
  have hj' : j < nd := by simpa using hj
  refine ⟨?_, World.frozen?_alloc_new _ _ _ _⟩
  rw [World.cell?_alloc_new, Lib.zeros24_at _ (by omega), getElem!_pos _ j hj]
  simp
theorem fin0 (w : World) (o : Obj) (dk : Array UInt8) (k : Nat) : ∃ os, (Sort.putRow (fun (b : UInt8) => Value.int .u8 (b.toNat : Int)) (w.alloc o) w.heap.size 0 dk).drewN k = Sort.grow (w.drewN k) os := by
  rw [Sort.alloc_eq_grow]
  obtain ⟨os', _, e⟩ := Sort.putRow_grow_new (fun (b : UInt8) => Value.int .u8 (b.toNat : Int)) w #[o] w.heap.size 0 dk (Nat.le_refl _)
  exact ⟨os', by rw [e]; rfl⟩
theorem info24 : (Tryd.prog.info? 98).map (fun i => i.zero) = some (some (.agg Lib.zeros24)) := by kernel_rfl
set_option maxRecDepth 100000 in
set_option maxHeartbeats 8000000 in
theorem formatU_c {w : World} (hP : TabP w) (u : Nat) (hu : u < 4294967296) : Calls Tryd.prog 49 #[.int .u64 (u : Int), .int .i64 10] w fun e w' => e = .returned (.string (strOfNums (decS u))) ∧ Below w.heap.size w w' := by
  refine enter (args := [.int .u64 (u : Int), .int .i64 10]) Tryd.func49 rfl Tryd.ntmps49 rfl ?_
  have H := Hp.nil w
  have h64 : IntKind.i64.wrap (u : Int) = (u : Int) := by rw [IntKind.wrap_i64]; omega
  repeat' (first | (with_reducible first | refine p_tn ?_ | refine wp_seq ?_ | refine w_reg ?_ | refine l_nil ?_) | ((with_reducible refine g_on ?_); (first | ((with_reducible refine g_mv ?_); refine l_p txs rfl rfl ?_) | ((with_reducible refine g_as ?_); refine l_p txs rfl rfl ?_))))
  (with_reducible refine is_l ?_); refine l_t txs rfl rfl (fun _ => ?_) (fun h => absurd rfl h)
  repeat' (first | (with_reducible first | refine p_tn ?_ | refine wp_seq ?_ | refine w_reg ?_) | (with_reducible (refine is_if ?_; (refine w_ift rfl ?_))) | (with_reducible refine l_nil ?_) | ((with_reducible refine g_on ?_); ((with_reducible refine g_mv ?_); refine l_p txs rfl rfl ?_)))
  (with_reducible refine is_l ?_); refine l_t txs rfl rfl (fun hlt => ?_) (fun hge => ?_)
  · repeat' (first | (with_reducible first | refine p_tn ?_ | refine wp_seq ?_ | refine w_reg ?_) | (with_reducible (refine is_if ?_; (refine w_ift rfl ?_))) | (with_reducible refine l_nil ?_) | ((with_reducible refine g_on ?_); (first | ((with_reducible refine g_mv ?_); refine l_p txs rfl rfl ?_) | ((with_reducible refine g_cv ?_); (refine l_a txs rfl rfl (by first | exact in_i64 (by omega) (by omega) | exact in_u8 (by omega) (by omega) | exact in_u64 (by omega) (by omega) | exact in_i32 (by omega) (by omega)) ?_)))))
    (with_reducible refine is_l ?_); refine l_callp rfl rfl (by kernel_rfl) (Tryd.internal_strconv_small u (by omega) _) ?_
    repeat' (first | (with_reducible first | refine p_tn ?_ | refine p_tr ?_ | refine wp_ret ?_ | refine l_nil ?_) | ((with_reducible refine g_on ?_); ((with_reducible refine g_as ?_); refine l_p txs rfl rfl ?_)))
    refine end1 rfl rfl ?_
    exact ⟨by rw [dec_S], H.B⟩
  have hu1 : 1 ≤ u := by omega
  have hu64 : u < 18446744073709551616 := by omega
  have hnd : Lib.nDigits u ≤ 20 := by have := Lib.numDigits_eq u hu1 hu64; split at this <;> omega
  obtain ⟨i0, hi, hz⟩ := Option.map_eq_some_iff.1 info24
  have hH0 := holds0 w 98 (Lib.nDigits u) (by omega)
  have hfmt := Tryd.internal_strconv_formatBase10 w.heap.size 0 24 u (Array.replicate (Lib.nDigits u) 0) (w.alloc (.cells Lib.zeros24 98)) hH0 (by rw [Array.size_replicate]; exact Lib.lt_pow_nDigits u) hu64 (by rw [Array.size_replicate]; omega)
  rw [Array.size_replicate] at hfmt
  have hnum := Tryd.internal_strconv_numDigits u hu1 hu64 (w.alloc (.cells Lib.zeros24 98)) (Lib.tabIs_alloc (hP w (Below.refl _ w)) _)
  have hlen := Lib.decDigits_length u
  have hrow := fun (v' : Nat) (dk : Array UInt8) (h : Lib.FmtInv (Lib.nDigits u) u 0 v' dk) => Lib.row_is_numeral h
  generalize hndv : Lib.nDigits u = nd at hH0 hfmt hnum hlen hnd hrow
  repeat' (first | (with_reducible first | refine p_tn ?_ | refine wp_seq ?_ | refine w_reg ?_) | (with_reducible (refine is_if ?_; (refine w_iff rfl ?_))) | (with_reducible first | refine wp_skip ?_ | refine l_nil ?_))
  (with_reducible refine is_l ?_); refine l_alloc rfl hi hz ?_
  have e1 : (Value.agg Lib.zeros24).cells = Lib.zeros24 := rfl
  rw [e1]
  clear H
  repeat' (first | (with_reducible first | refine p_tn ?_ | refine wp_seq ?_ | refine w_reg ?_ | refine l_nil ?_) | ((with_reducible refine g_on ?_); ((with_reducible refine g_mv ?_); refine l_p txs rfl rfl ?_)))
  (with_reducible refine is_l ?_); refine l_callp rfl rfl (by kernel_rfl) hnum ?_
  repeat' (first | (with_reducible first | refine p_tn ?_ | refine wp_seq ?_ | refine w_reg ?_ | refine l_nil ?_) | ((with_reducible refine g_on ?_); (first | ((with_reducible refine g_mv ?_); refine l_p txs rfl rfl ?_) | ((with_reducible refine g_as ?_); refine l_p txs rfl rfl ?_))))
  (with_reducible refine is_l ?_); refine l_slH (j := nd) Tryd.underlying98 one0_1 rfl rfl rfl rfl (by omega) ?_
  repeat' ((with_reducible refine g_on ?_); ((with_reducible refine g_mv ?_); refine l_p txs rfl rfl ?_))
  (with_reducible refine is_l ?_); refine l_call rfl rfl (by kernel_rfl) hfmt (fun e w_ hR => ?_)
  obtain ⟨rfl, k, v', dk, rfl, hF⟩ := hR
  refine ⟨_, rfl, ?_⟩
  have hcv : (convert 38 9 (.slice (some ⟨w.heap.size, 0, none⟩) nd 24)).run Tryd.prog ((Sort.putRow (fun (b : UInt8) => Value.int .u8 (b.toNat : Int)) (w.alloc (.cells Lib.zeros24 98)) w.heap.size 0 dk).drewN k) = .ok (.string ⟨(Lib.decDigits u).toArray⟩) ((Sort.putRow (fun (b : UInt8) => Value.int .u8 (b.toNat : Int)) (w.alloc (.cells Lib.zeros24 98)) w.heap.size 0 dk).drewN k) := by
    have h := run_convert_bytes_back (P := Tryd.prog) ((Sort.putRow (fun (b : UInt8) => Value.int .u8 (b.toNat : Int)) (w.alloc (.cells Lib.zeros24 98)) w.heap.size 0 dk).drewN k) 38 9 5 ⟨w.heap.size, 0, none⟩ 24 (Lib.decDigits u) Tryd.underlying38 Tryd.underlying5 Tryd.underlying9 (fun j hj => by
      rw [hrow v' dk (by rw [hndv] at *; exact hF) j hj, Lib.add_plain, World.cell?_drewN]
      exact Sort.cell?_putRow (fun (b : UInt8) => Value.int .u8 (b.toNat : Int)) _ w.heap.size 0 _ dk hH0 (by rw [hF.size, Array.size_replicate]) j (by rw [hF.size]; omega))
    rw [hlen] at h
    exact h
  repeat' (first | (with_reducible first | refine p_tn ?_ | refine wp_seq ?_ | refine w_reg ?_ | refine l_nil ?_) | ((with_reducible refine g_on ?_); ((with_reducible refine g_mv ?_); refine l_p txs rfl rfl ?_)))
  (with_reducible refine is_l ?_); refine l_slH (j := nd) Tryd.underlying98 one0_1 rfl rfl rfl rfl (by omega) ?_
  (with_reducible refine is_l ?_); refine l_cvv rfl rfl hcv ?_
  repeat' (first | (with_reducible first | refine p_tn ?_ | refine p_tr ?_ | refine wp_ret ?_ | refine l_nil ?_) | ((with_reducible refine g_on ?_); ((with_reducible refine g_as ?_); refine l_p txs rfl rfl ?_)))
  refine end1 rfl rfl ?_
  obtain ⟨os, eo⟩ := fin0 w (.cells Lib.zeros24 98) dk k
  exact ⟨by rw [dec_S], by rw [eo]; exact grow_below⟩
end Go.Proofs.YtnimaenhijlcmaaDoor.K.Num
