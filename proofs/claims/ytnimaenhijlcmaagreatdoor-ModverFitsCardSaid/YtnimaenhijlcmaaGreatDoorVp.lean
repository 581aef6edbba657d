/- Escaped texts. -/
import Derived.Test.YtnimaenhijlcmaaGreatDoorVn
import Derived.Shelf.Strings.BuilderK
import Derived.Shelf.Strings.BuilderRune
namespace Go.Proofs.YtnimaenhijlcmaaGreatDoor.K
open Go.RowKit Go.Proofs.YtnimaenhijlcmaaGreatDoor.Q Go.Proofs.YtnimaenhijlcmaaGreatDoor.Mb Go.Proofs.YtnimaenhijlcmaaGreatDoorW.PrintWords
set_option linter.unusedVariables false
set_option linter.unusedSimpArgs false

theorem laysB : Go.Proofs.Lays.n167 Tryz.prog Tryz.lays159_ren := { Tryz.lays159 with }
theorem laysR : Go.Proofs.Lays.n168 Tryz.prog Tryz.lays159_ren := { Tryz.lays159 with }
abbrev IsB (B b : Nat) (x : L) (w : World) : Prop := Lib.IsBuilderF 142 5 B b (nums .u8 x) w
structure Bd (w0 : World) (b g : Nat) (t : ByteArray) (p : Nat) (x : L) (w : World) : Prop where
  bel : Below w0.heap.size w0 w
  isb : IsB w0.heap.size b x w
  it : w.heap[g]? = some (.stringIter t p)
  ne : g ≠ b
  ge : w0.heap.size ≤ g
theorem nums_snoc (x : L) (c : Int) : nums .u8 (x ++ [c]) = nums .u8 x ++ [.int .u8 c] := by simp [nums]
theorem nums_len (x : L) : (nums .u8 x).length = x.length := by simp [nums]
theorem writeByte_c {w0 w : World} {b g p : Nat} {t : ByteArray} {x : L} (h : Bd w0 b g t p x w) (c : Int) (hl : x.length ≤ 100000000) :
    Calls Tryz.prog 148 #[.pointer (some ⟨b, 0, none⟩), .int .u8 c] w fun e w' => e = .returned .nilIface ∧ Bd w0 b g t p (x ++ [c]) w' := by
  refine (Any.Builder_WriteByte_k laysB Tryz.Builder_Extra_159 w0.heap.size b (nums .u8 x) c w h.isb (by rw [nums_len]; omega) h.bel.size).mono fun e w' ⟨h1, h2, h3, h4⟩ => ⟨h1, ?_⟩
  refine ⟨h.bel.trans h3, .inr ?_, h4.iter h.it h.ne, h.ne, h.ge⟩
  rw [nums_snoc]
  exact h2
theorem writeRune_c {w0 w : World} {b g p : Nat} {t : ByteArray} {x : L} (h : Bd w0 b g t p x w) (c : Int) (h0 : 0 ≤ c) (h1 : c ≤ 127) (hl : x.length ≤ 100000000) :
    Calls Tryz.prog 149 #[.pointer (some ⟨b, 0, none⟩), .int .i32 c] w fun e w' => e = .returned (.tuple #[.int .i64 1, .nilIface]) ∧ Bd w0 b g t p (x ++ [c]) w' := by
  have hc : Lib.runeCells c = [.int .u8 c] := by unfold Lib.runeCells; rw [Lib.encodeRuneZ_one h0 h1]; rfl
  refine (Any.Builder_WriteRune_k laysR Tryz.Builder_Extra_159 w0.heap.size b (nums .u8 x) c (by omega) (by omega) w h.isb (by rw [nums_len]; omega) h.bel.size).mono fun e w' ⟨h1, h2, h3, h4⟩ => ?_
  rw [hc] at h1 h2
  refine ⟨h1, h.bel.trans h3, .inr ?_, h4.iter h.it h.ne, h.ne, h.ge⟩
  rw [nums_snoc]
  exact h2
theorem bytes_nums {x : L} (h : Bytes x) : nums .u8 x = Lib.byteCells (x.map fun z => UInt8.ofNat z.toNat) := by
  unfold nums Lib.byteCells
  rw [List.map_map]
  exact List.map_congr_left fun z hz => by
    show Value.int .u8 z = Value.int .u8 _
    congr 1
    exact (ofNat_toNat (h z hz).1 (h z hz).2).symm
theorem string_c {w0 w : World} {b g p : Nat} {t : ByteArray} {x : L} (h : Bd w0 b g t p x w) (hb : Bytes x) :
    Calls Tryz.prog 150 #[.pointer (some ⟨b, 0, none⟩)] w fun e w' => e = .returned (.string (strOfNums x)) ∧ Below w0.heap.size w0 w' := by
  have hi := h.isb
  unfold IsB at hi
  rw [bytes_nums hb] at hi
  exact (Tryz.Builder_String_any_f w0.heap.size b _ w hi h.bel.size).mono fun e w' ⟨h1, _, h3⟩ => ⟨h1, h.bel.trans h3⟩
theorem start_bd (w : World) (t : ByteArray) : Bd w w.heap.size (w.heap.size + 1) t 0 [] ((w.alloc (.cells #[.pointer none, .slice none 0 0] 142)).iter t 0) := by
  have hsz : (w.alloc (.cells #[.pointer none, .slice none 0 0] 142)).heap.size = w.heap.size + 1 := by simp
  have K1 : Below w.heap.size w (w.alloc (.cells #[.pointer none, .slice none 0 0] 142)) := (Below.refl _ w).alloc (Nat.le_refl _) _
  have hB : IsB w.heap.size w.heap.size [] (w.alloc (.cells #[.pointer none, .slice none 0 0] 142)) :=
    .inl ⟨Nat.le_refl _, .slice none 0 0, ((Hp.nil w).push 142 [.pointer none, .slice none 0 0]).get 0 rfl, ⟨rfl, .inl ⟨rfl, rfl⟩⟩, by simp [Value.ownBlock]⟩
  refine ⟨K1.alloc (by omega) _, Lib.IsBuilderF.alloc hB _, ?_, by omega, by omega⟩
  have := World.iter_heap (w.alloc (.cells #[.pointer none, .slice none 0 0] 142)) t 0
  rw [hsz] at this
  exact this
section
variable {P : Program} {n : Nat} {f : Fr} {w w0 : World} {ops : Array Oper} {Q : Exit → Act → World → Prop} {rest : List Oper} {d : Option Nat} {tt : TypeId} {ps : String} {af : Array Edge} {gd : Option (Nat × Bool)}
theorem l_rangeW {t : TypeId} {x : Operand} {s : ByteArray} (ht : P.underlying t = some .string) (hw : want n ops f ⟨d, .range t x, tt, ps, af, gd⟩ = true) (hx : nf (X n f x) = some (.string s))
    (h : WL P ops Q rest (act n (put f d (.pointer (some ⟨w.heap.size, 0, none⟩)))) (w.iter s 0)) : WL P ops Q (⟨d, .range t x, tt, ps, af, gd⟩ :: rest) (act n f) w := by
  have hx' := nf_eq hx
  have hr := run_range_string (P := P) w t s ht
  refine h_valw hw ?_ h
  unfold execOp
  simp [← hx', hr]
theorem l_nextB {b g pos : Nat} {s : ByteArray} {x : L} (H : Bd w0 b g s pos x w) {o : Operand} (hp : pos < s.size) (hw : want n ops f ⟨d, .next o true, tt, ps, af, gd⟩ = true) (hx : nf (X n f o) = some (.pointer (some ⟨g, 0, none⟩)))
    (h : ∀ w', Bd w0 b g s (pos + (Utf8.decode s pos).2) x w' → WL P ops Q rest (act n (put f d (.tuple #[.bool true, .int .i64 pos, .int .i32 (Utf8.decode s pos).1]))) w') : WL P ops Q (⟨d, .next o true, tt, ps, af, gd⟩ :: rest) (act n f) w := by
  have hx' := nf_eq hx
  have hr := Lib.run_next_any_at (P := P) w g s pos tt H.it hp
  refine h_valw hw ?_ (h _ ⟨Lib.below_iterAt H.bel H.ge s _, H.isb.iterAt H.it _, Lib.iterAt_heap w g s pos _ H.it, H.ne, H.ge⟩)
  unfold execOp
  simp [← hx', hr]
end
theorem esc_take {l : L} {p : Nat} {b : Int} (h : l[p]? = some b) : escS (l.take (p + 1)) = escS (l.take p) ++ esc1 b := by
  obtain ⟨hi, rfl⟩ := List.getElem?_eq_some_iff.1 h
  rw [List.take_succ_eq_append_getElem hi]
  unfold escS
  rw [List.flatMap_append]
  simp
theorem esc_len (l : L) : (escS l).length ≤ 2 * l.length := by
  induction l with
  | nil => simp [escS]
  | cons c r ih =>
    have e : escS (c :: r) = esc1 c ++ escS r := rfl
    have h1 : (esc1 c).length ≤ 2 := by unfold esc1; split <;> simp
    rw [e, List.length_append, List.length_cons]
    omega
theorem esc_bytes {l : L} (h : ∀ x ∈ l, 0 ≤ x ∧ x < 128) : Bytes (escS l) := fun y hy => by
  obtain ⟨c, hc, hy⟩ := List.mem_flatMap.1 hy
  have := h c hc
  unfold esc1 at hy
  split at hy
  · rename_i hcap
    unfold capB at hcap
    simp at hcap
    simp only [List.mem_cons, List.not_mem_nil, or_false] at hy
    rcases hy with rfl | rfl <;> omega
  · simp only [List.mem_cons, List.not_mem_nil, or_false] at hy
    subst hy
    omega
theorem info_bd : (Tryz.prog.info? 142).map (fun i => i.zero) = some (some (.agg #[.pointer none, .slice none 0 0])) := by kernel_rfl
set_option maxRecDepth 100000 in
set_option maxHeartbeats 8000000 in
theorem escape_c (t : ByteArray) (w : World) (ht : t.size ≤ 10000) (ha : ∀ x ∈ bl t, x < 128) : Calls Tryz.prog 120 #[.string t] w fun e w' => e = .returned (.string (strOfNums (escS (bl t)))) ∧ Below w.heap.size w w' := by
  have hlen := bl_length t
  have hbt := bl_bytes t
  obtain ⟨i0, hi, hz⟩ := Option.map_eq_some_iff.1 info_bd
  refine enter (args := [.string t]) Tryz.func120 rfl Tryz.ntmps120 rfl ?_
  repeat' (first | (with_reducible first | refine p_tn ?_ | refine wp_seq ?_ | refine w_reg ?_ | refine l_nil ?_) | (with_reducible (refine is_l ?_; (refine l_p tys rfl rfl ?_))))
  (with_reducible refine is_l ?_); refine l_alloc rfl hi hz ?_
  repeat' (first | (with_reducible first | refine p_tn ?_ | refine wp_seq ?_ | refine w_reg ?_ | refine l_nil ?_) | (with_reducible (refine is_l ?_; (refine l_p tys rfl rfl ?_))))
  (with_reducible refine is_l ?_); refine l_rangeW Tryz.underlying9 rfl rfl ?_
  have H := start_bd w t
  have e1 : (Value.agg #[.pointer none, .slice none 0 0]).cells = #[.pointer none, .slice none 0 0] := rfl
  rw [e1]
  have hsz : (w.alloc (.cells #[.pointer none, .slice none 0 0] 142)).heap.size = w.heap.size + 1 := by simp
  rw [hsz]
  generalize (w.alloc (.cells #[.pointer none, .slice none 0 0] 142)).iter t 0 = w_ at H ⊢
  generalize hbb : w.heap.size = bb at H ⊢
  generalize hgg : bb + 1 = gg at H ⊢
  repeat' (with_reducible first | refine p_tn ?_ | refine wp_block ?_ | refine l_nil ?_)
  refine w_loop (σ := Nat) (S := fun s => [(3, .pointer (some ⟨bb, 0, none⟩)), (7, .pointer (some ⟨gg, 0, none⟩))]) (J := fun s w' => Bd w bb gg t s (escS ((bl t).take s)) w' ∧ s ≤ t.size) (μ := fun s => t.size - s) 0 ⟨rfl, rfl, trivial⟩ ⟨H, by omega⟩ ?_
  clear H
  rintro p f w_ ⟨H, hpl⟩
  have hel := esc_len ((bl t).take p)
  have htl : ((bl t).take p).length ≤ 10000 := by rw [List.length_take]; omega
  repeat' (with_reducible first | refine wp_seq ?_ | refine w_reg ?_)
  by_cases hp : p < t.size
  · obtain ⟨b, hb, hbb'⟩ := dec_byte t p hp
    (with_reducible refine is_l ?_); refine l_nextB H hp rfl rfl (fun w_ H => ?_)
    have hb8 := ha b (List.mem_of_getElem? hb)
    have hb0 := hbt b (List.mem_of_getElem? hb)
    obtain ⟨h2, h3⟩ : ((Utf8.decode t p).1 : Int) = b ∧ (Utf8.decode t p).2 = 1 := by
      rcases hbb' with h | h
      · exact h.2
      · omega
    rw [h3] at H
    rw [h2]
    repeat' (first | (with_reducible first | refine p_tn ?_ | refine wp_seq ?_ | refine wp_block ?_ | refine w_reg ?_) | (with_reducible (refine is_if ?_; (refine w_ift rfl ?_))) | (with_reducible first | refine wp_skip ?_ | refine l_nil ?_) | (with_reducible (refine is_l ?_; (refine l_p tys rfl rfl ?_))))
    (with_reducible refine is_l ?_); refine l_callp rfl rfl (by kernel_rfl) (isCapital_c b _) ?_
    cases hd : capB b
    · repeat' (first | (with_reducible first | refine p_tn ?_ | refine w_reg ?_) | (with_reducible (refine is_if ?_; (refine w_iff rfl ?_))) | (with_reducible first | refine wp_skip ?_ | refine l_nil ?_) | (with_reducible (refine is_l ?_; (refine l_p tys rfl rfl ?_))))
      (with_reducible refine is_l ?_); refine l_call rfl rfl (by kernel_rfl) (writeRune_c H b hb0.1 (by omega) (by omega)) (fun e w_ hR => ?_)
      obtain ⟨rfl, H⟩ := hR
      refine ⟨_, rfl, ?_⟩
      repeat' (with_reducible first | refine p_tn ?_ | refine p_bn ?_ | refine l_nil ?_)
      refine ⟨p + 1, _, rfl, ⟨rfl, rfl, trivial⟩, ⟨?_, by omega⟩, by omega⟩
      rw [esc_take hb]
      unfold esc1
      rw [hd]
      exact H
    · repeat' (first | (with_reducible first | refine p_tn ?_ | refine wp_seq ?_ | refine w_reg ?_) | (with_reducible (refine is_if ?_; (refine w_ift rfl ?_))) | (with_reducible refine l_nil ?_))
      (with_reducible refine is_l ?_); refine l_call rfl rfl (by kernel_rfl) (writeByte_c H 33 (by omega)) (fun e w_ hR => ?_)
      obtain ⟨rfl, H⟩ := hR
      refine ⟨_, rfl, ?_⟩
      repeat' (first | (with_reducible first | refine p_tn ?_ | refine w_reg ?_ | refine l_nil ?_) | (with_reducible (refine is_l ?_; (first | (refine l_p tys rfl rfl ?_) | (refine l_a tys rfl rfl (by first | exact in_i64 (by omega) (by omega) | exact in_u8 (by omega) (by omega) | exact in_u64 (by omega) (by omega) | exact in_i32 (by omega) (by omega)) ?_)))))
      have hcb : 65 ≤ b ∧ b ≤ 90 := by
        unfold capB at hd
        simpa using hd
      (with_reducible refine is_l ?_); refine l_call rfl rfl (by kernel_rfl) (writeRune_c H (b + 32) (by omega) (by omega) (by rw [List.length_append, List.length_singleton]; omega)) (fun e w_ hR => ?_)
      obtain ⟨rfl, H⟩ := hR
      refine ⟨_, rfl, ?_⟩
      repeat' (with_reducible first | refine p_tn ?_ | refine p_bn ?_ | refine l_nil ?_)
      refine ⟨p + 1, _, rfl, ⟨rfl, rfl, trivial⟩, ⟨?_, by omega⟩, by omega⟩
      rw [esc_take hb]
      unfold esc1
      rw [hd, List.append_assoc] at *
      exact H
  · have hall : (bl t).take p = bl t := List.take_of_length_le (by omega)
    rw [hall] at H
    (with_reducible refine is_l ?_); refine l_nextE H.it hp rfl rfl ?_
    repeat' (first | (with_reducible first | refine p_tn ?_ | refine p_tx ?_ | refine x_hit ?_ | refine wp_seq ?_ | refine w_reg ?_) | (with_reducible (refine is_if ?_; (refine w_iff rfl ?_))) | (with_reducible first | refine wp_exit ?_ | refine l_nil ?_) | (with_reducible (refine is_l ?_; (refine l_p tys rfl rfl ?_))))
    have hB : Bytes (escS (bl t)) := esc_bytes fun x hx => ⟨(hbt x hx).1, ha x hx⟩
    (with_reducible refine is_l ?_); refine l_call rfl rfl (by kernel_rfl) (string_c H hB) (fun e w_ hR => ?_)
    obtain ⟨rfl, K⟩ := hR
    refine ⟨_, rfl, ?_⟩
    repeat' (first | (with_reducible first | refine p_tn ?_ | refine wp_ret ?_ | refine l_nil ?_) | (with_reducible (refine is_l ?_; (refine l_p tys rfl rfl ?_))))
    refine end1 rfl rfl ?_
    exact ⟨rfl, hbb ▸ K⟩
end Go.Proofs.YtnimaenhijlcmaaGreatDoor.K
