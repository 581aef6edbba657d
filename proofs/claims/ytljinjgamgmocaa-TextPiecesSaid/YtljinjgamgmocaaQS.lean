/- The calculus' steps: operations in the text's order, regions that draw their order and only read, tests, loops, a call's begin and end. Over any program. -/
import Derived.Test.YtljinjgamgmocaaQ
import Derived.Deep.LoopGhost
namespace Go.Proofs.Ytljinjgamgmocaa.Q
set_option linter.unusedVariables false
set_option linter.unusedSimpArgs false

/-- The bounds of a kind, in numerals. -/
def inK : IntKind → Int → Prop
  | .i8, x => -128 ≤ x ∧ x ≤ 127
  | .i16, x => -32768 ≤ x ∧ x ≤ 32767
  | .i32, x => -2147483648 ≤ x ∧ x ≤ 2147483647
  | .i64, x => -9223372036854775808 ≤ x ∧ x ≤ 9223372036854775807
  | .u8, x => 0 ≤ x ∧ x ≤ 255
  | .u16, x => 0 ≤ x ∧ x ≤ 65535
  | .u32, x => 0 ≤ x ∧ x ≤ 4294967295
  | .u64, x => 0 ≤ x ∧ x ≤ 18446744073709551615
theorem wrap_in {k : IntKind} {x : Int} (h : inK k x) : k.wrap x = x := by
  cases k <;> simp only [inK] at h <;> simp only [IntKind.wrap, IntKind.signed, IntKind.bits] <;> simp <;> omega

theorem in_i64 {x : Int} (h : -9223372036854775808 ≤ x) (g : x ≤ 9223372036854775807) : inK .i64 x := ⟨h, g⟩
theorem in_u8 {x : Int} (h : 0 ≤ x) (g : x ≤ 255) : inK .u8 x := ⟨h, g⟩
theorem in_u64 {x : Int} (h : 0 ≤ x) (g : x ≤ 18446744073709551615) : inK .u64 x := ⟨h, g⟩
theorem in_i32 {x : Int} (h : -2147483648 ≤ x) (g : x ≤ 2147483647) : inK .i32 x := ⟨h, g⟩
/-- Index into a text; a cut of a text; a cut of a slice; the place of an element. -/
def evI (n : Nat) (f : Fr) (ty : Nat → Option Ty) : Op → Option (ByteArray × Int)
  | .index t x i => match ty t, X n f x, X n f i with
    | some .str, .string s, .int _ j => some (s, j)
    | _, _, _ => none
  | _ => none
def bound (n : Nat) (f : Fr) (d : Int) : Option Operand → Option Int
  | none => some d
  | some x => match X n f x with
    | .int _ j => some j
    | _ => none
def evS (n : Nat) (f : Fr) (ty : Nat → Option Ty) : Op → Option (ByteArray × Int × Int)
  | .slice t x lo hi none => match ty t, X n f x with
    | some .str, .string s => match bound n f 0 lo, bound n f s.size hi with
      | some l, some h => some (s, l, h)
      | _, _ => none
    | _, _ => none
  | _ => none
def evSl (n : Nat) (f : Fr) (ty : Nat → Option Ty) : Op → Option (Option Addr × Nat × Nat × Nat × Int × Int)
  | .slice t x lo hi none => match ty t, X n f x with
    | some (.slc _ sz), .slice a l c => match bound n f 0 lo, bound n f l hi with
      | some p, some q => some (a, l, c, sz, p, q)
      | _, _ => none
    | _, _ => none
  | _ => none
def evIA (n : Nat) (f : Fr) (ty : Nat → Option Ty) : Op → Option (Option Addr × Nat × Nat × Int)
  | .indexAddr t x i => match ty t, X n f x, X n f i with
    | some (.slc _ sz), .slice a l _, .int _ j => some (a, l, sz, j)
    | _, _, _ => none
  | _ => none
/-- A load of one cell: where. -/
def evL (n : Nat) (f : Fr) (ty : Nat → Option Ty) : Op → Option Addr
  | .load t x => match ty t, X n f x with
    | some _, .pointer (some a) => some a
    | _, _ => none
  | _ => none

section
variable {P : Program} {ty : Nat → Option Ty} {n : Nat} {f : Fr} {w : World} {o : Oper}
theorem evI_run (hty : Tys P ty) {s : ByteArray} {j : Int} (h : evI n f ty o.op = some (s, j)) (h0 : 0 ≤ j) (h1 : j < s.size) : (execOp (X n f) o).run P w = .ok (.value (.int .u8 (at_ (bl s) j))) w := by
  unfold evI at h
  split at h
  · rename_i t x i ho
    split at h
    · rename_i s1 k j1 h2 h3 h4
      simp only [Option.some.injEq, Prod.mk.injEq] at h
      obtain ⟨rfl, rfl⟩ := h
      have a1 : P.underlying t = some .string := hty _ _ h2
      obtain ⟨m, rfl⟩ := Int.eq_ofNat_of_zero_le h0
      have hm : m < s1.size := by omega
      have hb : at_ (bl s1) (m : Int) = ((s1[m]'hm).toNat : Int) := by
        unfold at_ bl
        rw [Int.toNat_natCast, List.getD_eq_getElem?_getD, List.getElem?_map]
        have : s1.data.toList[m]? = some (s1[m]'hm) := by
          have hl : m < s1.data.toList.length := by simpa using hm
          rw [List.getElem?_eq_getElem hl]
          rfl
        rw [this]; rfl
      unfold execOp
      rw [ho, hb]
      simp [go_sem, h3, h4, Instr.index, run_underlying a1, hm]
    · cases h
  · cases h
theorem evS_run (hty : Tys P ty) {s : ByteArray} {l h : Int} (he : evS n f ty o.op = some (s, l, h)) (h0 : 0 ≤ l) (h1 : l ≤ h) (h2 : h ≤ s.size) : (execOp (X n f) o).run P w = .ok (.value (.string (s.extract l.toNat h.toNat))) w := by
  unfold evS at he
  split at he
  · rename_i t x lo hi ho
    split at he
    · rename_i s1 h3 h4
      have a1 : P.underlying t = some .string := hty _ _ h3
      unfold execOp
      rw [ho]
      cases lo with
      | none =>
        cases hi with
        | none =>
          simp only [bound, Option.some.injEq, Prod.mk.injEq] at he
          obtain ⟨rfl, rfl, rfl⟩ := he
          simp [go_sem, h4, Instr.sliceAt, Instr.slice, Instr.sliceBounds, Instr.sliceBound, run_underlying a1]
        | some y =>
          simp only [bound] at he
          split at he
          · rename_i p q e1 e2
            split at e2
            · rename_i k j e3
              simp only [Option.some.injEq, Prod.mk.injEq] at he e1 e2
              obtain ⟨rfl, rfl, rfl⟩ := he
              subst e1 e2
              simp [go_sem, h4, e3, Instr.sliceAt, Instr.slice, Instr.sliceBounds, Instr.sliceBound, run_underlying a1, h1, h2]
            · cases e2
          · cases he
      | some z =>
        cases hi with
        | none =>
          simp only [bound] at he
          split at he
          · rename_i p q e1 e2
            split at e1
            · rename_i k j e3
              simp only [Option.some.injEq, Prod.mk.injEq] at he e1 e2
              obtain ⟨rfl, rfl, rfl⟩ := he
              subst e1 e2
              simp [go_sem, h4, e3, Instr.sliceAt, Instr.slice, Instr.sliceBounds, Instr.sliceBound, run_underlying a1, h0, h1]
            · cases e1
          · cases he
        | some y =>
          simp only [bound] at he
          split at he
          · rename_i p q e1 e2
            split at e1
            · rename_i k j e3
              split at e2
              · rename_i k2 j2 e4
                simp only [Option.some.injEq, Prod.mk.injEq] at he e1 e2
                obtain ⟨rfl, rfl, rfl⟩ := he
                subst e1 e2
                have hh : 0 ≤ j2 := by omega
                have hz : j ≤ (j2.toNat : Int) := by omega
                simp [go_sem, h4, e3, e4, Instr.sliceAt, Instr.slice, Instr.sliceBounds, Instr.sliceBound, run_underlying a1, h0, h2, hh, hz]
                intro hx
                exfalso
                omega
              · cases e2
            · cases e1
          · cases he
    · cases he
  · cases he
theorem evIA_run (hty : Tys P ty) {a : Addr} {l sz : Nat} {j : Int} (h : evIA n f ty o.op = some (some a, l, sz, j)) (h0 : 0 ≤ j) (h1 : j < l) : (execOp (X n f) o).run P w = .ok (.value (.pointer (some (a.add (j.toNat * sz))))) w := by
  unfold evIA at h
  split at h
  · rename_i t x i ho
    split at h
    · rename_i e sz1 a1 l1 c1 k j1 h2 h3 h4
      simp only [Option.some.injEq, Prod.mk.injEq] at h
      obtain ⟨rfl, rfl, rfl, rfl⟩ := h
      obtain ⟨b1, i0, b2, b3⟩ : P.underlying t = some (.slice e) ∧ ∃ i, P.info? e = some i ∧ i.size = sz1 := hty _ _ h2
      unfold execOp
      rw [ho]
      simp [go_sem, h3, h4, Instr.indexAt, run_underlying b1, sizeOf, typeInfo, b2, b3, h0, h1]
    · cases h
  · cases h
theorem evL_run (hty : Tys P ty) {a : Addr} {v : Value} (h : evL n f ty o.op = some a) (hc : w.cell? a = some v) : (execOp (X n f) o).run P w = .ok (.value v) w := by
  unfold evL at h
  split at h
  · rename_i t x ho
    split at h
    · rename_i k a1 h2 h3
      simp only [Option.some.injEq] at h
      subst h
      have hk := hty _ _ h2
      unfold execOp
      rw [ho]
      cases k with
      | int k => have e : P.underlying t = some (.int k) := hk; simp [go_sem, h3, Instr.loadAt, loadVar, isAgg, run_underlying e, hc]
      | bool => have e : P.underlying t = some .bool := hk; simp [go_sem, h3, Instr.loadAt, loadVar, isAgg, run_underlying e, hc]
      | str => have e : P.underlying t = some .string := hk; simp [go_sem, h3, Instr.loadAt, loadVar, isAgg, run_underlying e, hc]
      | slc e2 sz => have e : P.underlying t = some (.slice e2) := hk.1; simp [go_sem, h3, Instr.loadAt, loadVar, isAgg, run_underlying e, hc]
      | err => have e : P.underlying t = some (.interface (P.methodsAt t)) := hk; simp [go_sem, h3, Instr.loadAt, loadVar, isAgg, run_underlying e, hc]
    · cases h
  · cases h
end

/-! Steps in the text's order: the goals are structures, so that no step opens what follows -/
structure WL (P : Program) (ops : Array Oper) (Q : Exit → Act → World → Prop) (l : List Oper) (a : Act) (w : World) : Prop where mk :: (out : wpList P ops Q l a w)
structure WQ (P : Program) (ops : Array Oper) (C : World → Prop) (K : Act → Prop) (l : List Oper) (a : Act) : Prop where mk :: (out : wpQuiet P ops C K l a)
section
variable {P : Program} {ty : Nat → Option Ty} {n : Nat} {ops : Array Oper} {Q : Exit → Act → World → Prop} {rest : List Oper} {f : Fr} {w : World} {d : Option Nat} {op : Op} {tt : TypeId} {ps : String} {af : Array Edge} {gd : Option (Nat × Bool)}
theorem l_nil (h : Q .normal (act n f) w) : WL P ops Q [] (act n f) w := ⟨h⟩
theorem l_off (hw : want n ops f ⟨d, op, tt, ps, af, gd⟩ = false) (h : WL P ops Q rest (act n (put f d undef)) w) : WL P ops Q (⟨d, op, tt, ps, af, gd⟩ :: rest) (act n f) w := by
  refine ⟨?_⟩
  have h := h.out
  simp only [wpList, want_eq, hw, put_act]
  exact h
theorem l_val {v : Value} (hw : want n ops f ⟨d, op, tt, ps, af, gd⟩ = true) (hv : (execOp (X n f) ⟨d, op, tt, ps, af, gd⟩).run P w = .ok (.value v) w) (h : WL P ops Q rest (act n (put f d v)) w) : WL P ops Q (⟨d, op, tt, ps, af, gd⟩ :: rest) (act n f) w := by
  refine ⟨?_⟩
  have h := h.out
  simp only [wpList, want_eq, hw, if_true]
  left
  unfold Oper.wp
  rw [eval_act, hv]
  simp only [Oper.upon, put_act]
  exact h
theorem l_p (hty : Tys P ty) {v : Value} (hw : want n ops f ⟨d, op, tt, ps, af, gd⟩ = true) (he : evP ty n f op = some v) (h : WL P ops Q rest (act n (put f d v)) w) : WL P ops Q (⟨d, op, tt, ps, af, gd⟩ :: rest) (act n f) w :=
  l_val hw (evP_run (o := ⟨d, op, tt, ps, af, gd⟩) hty he) h
theorem l_a (hty : Tys P ty) {k : IntKind} {x : Int} (hw : want n ops f ⟨d, op, tt, ps, af, gd⟩ = true) (he : evA ty n f op = some (k, x)) (hr : inK k x) (h : WL P ops Q rest (act n (put f d (.int k x))) w) : WL P ops Q (⟨d, op, tt, ps, af, gd⟩ :: rest) (act n f) w :=
  l_val hw ((evA_run (o := ⟨d, op, tt, ps, af, gd⟩) hty he).trans (by rw [wrap_in hr])) h
theorem l_aw (hty : Tys P ty) {k : IntKind} {x : Int} (hw : want n ops f ⟨d, op, tt, ps, af, gd⟩ = true) (he : evA ty n f op = some (k, x)) (h : WL P ops Q rest (act n (put f d (.int k (k.wrap x)))) w) : WL P ops Q (⟨d, op, tt, ps, af, gd⟩ :: rest) (act n f) w :=
  l_val hw (evA_run (o := ⟨d, op, tt, ps, af, gd⟩) hty he) h
theorem l_t (hty : Tys P ty) {p : Prop} (hw : want n ops f ⟨d, op, tt, ps, af, gd⟩ = true) (he : evT ty n f op = some p) (h1 : p → WL P ops Q rest (act n (put f d (.bool true))) w) (h2 : ¬ p → WL P ops Q rest (act n (put f d (.bool false))) w) : WL P ops Q (⟨d, op, tt, ps, af, gd⟩ :: rest) (act n f) w := by
  obtain ⟨t, hr, ht⟩ := evT_run (w := w) (o := ⟨d, op, tt, ps, af, gd⟩) hty he
  cases t with
  | true => exact l_val hw hr (h1 (ht.1 rfl))
  | false => exact l_val hw hr (h2 (fun hp => by have := ht.2 hp; cases this))
theorem l_ix (hty : Tys P ty) {s : ByteArray} {j : Int} (hw : want n ops f ⟨d, op, tt, ps, af, gd⟩ = true) (he : evI n f ty op = some (s, j)) (h0 : 0 ≤ j) (h1 : j < s.size) (h : WL P ops Q rest (act n (put f d (.int .u8 (at_ (bl s) j)))) w) : WL P ops Q (⟨d, op, tt, ps, af, gd⟩ :: rest) (act n f) w :=
  l_val hw (evI_run (o := ⟨d, op, tt, ps, af, gd⟩) hty he h0 h1) h
theorem l_sl (hty : Tys P ty) {s : ByteArray} {l r : Int} (hw : want n ops f ⟨d, op, tt, ps, af, gd⟩ = true) (he : evS n f ty op = some (s, l, r)) (h0 : 0 ≤ l) (h1 : l ≤ r) (h2 : r ≤ s.size) (h : WL P ops Q rest (act n (put f d (.string (s.extract l.toNat r.toNat)))) w) : WL P ops Q (⟨d, op, tt, ps, af, gd⟩ :: rest) (act n f) w :=
  l_val hw (evS_run (o := ⟨d, op, tt, ps, af, gd⟩) hty he h0 h1 h2) h
theorem l_ia (hty : Tys P ty) {a : Addr} {l sz : Nat} {j : Int} (hw : want n ops f ⟨d, op, tt, ps, af, gd⟩ = true) (he : evIA n f ty op = some (some a, l, sz, j)) (h0 : 0 ≤ j) (h1 : j < l) (h : WL P ops Q rest (act n (put f d (.pointer (some (a.add (j.toNat * sz)))))) w) : WL P ops Q (⟨d, op, tt, ps, af, gd⟩ :: rest) (act n f) w :=
  l_val hw (evIA_run (o := ⟨d, op, tt, ps, af, gd⟩) hty he h0 h1) h
theorem l_ld (hty : Tys P ty) {a : Addr} {v : Value} (hw : want n ops f ⟨d, op, tt, ps, af, gd⟩ = true) (he : evL n f ty op = some a) (hc : w.cell? a = some v) (h : WL P ops Q rest (act n (put f d v)) w) : WL P ops Q (⟨d, op, tt, ps, af, gd⟩ :: rest) (act n f) w :=
  l_val hw (evL_run (o := ⟨d, op, tt, ps, af, gd⟩) hty he hc) h
theorem is_l {o : Oper} (h : WL P ops Q (o :: rest) (act n f) w) : WL P ops Q (o :: rest) (act n f) w := h
/-- A call by its contract. -/
theorem l_call {g : FuncId} {args : List Value} {R : Ending → World → Prop} (hw : want n ops f ⟨d, op, tt, ps, af, gd⟩ = true) (he : evC n f op = some (g, args)) (hg : callable P g = true) (hc : Calls P g args.toArray w R)
    (h : ∀ e w', R e w' → ∃ v, e = .returned v ∧ WL P ops Q rest (act n (put f d v)) w') : WL P ops Q (⟨d, op, tt, ps, af, gd⟩ :: rest) (act n f) w := by
  refine ⟨?_⟩
  simp only [wpList, want_eq, hw, if_true]
  left
  unfold Oper.wp
  rw [eval_act, evC_run (o := ⟨d, op, tt, ps, af, gd⟩) he hg]
  simp only [Oper.upon]
  refine hc.mono fun e w' hR => ?_
  obtain ⟨v, rfl, hk⟩ := h e w' hR
  simp only [put_act]
  exact hk.out
/-- .. whose answer is known. -/
theorem l_callv {g : FuncId} {args : List Value} {v : Value} {J : World → Prop} (hw : want n ops f ⟨d, op, tt, ps, af, gd⟩ = true) (he : evC n f op = some (g, args)) (hg : callable P g = true) (hc : Calls P g args.toArray w fun e w' => e = .returned v ∧ J w')
    (h : ∀ w', J w' → WL P ops Q rest (act n (put f d v)) w') : WL P ops Q (⟨d, op, tt, ps, af, gd⟩ :: rest) (act n f) w :=
  l_call hw he hg hc fun e w' hR => ⟨v, hR.1, h w' hR.2⟩

/-- .. and the world too. -/
theorem l_callp {g : FuncId} {args : List Value} {v : Value} (hw : want n ops f ⟨d, op, tt, ps, af, gd⟩ = true) (he : evC n f op = some (g, args)) (hg : callable P g = true) (hc : Calls P g args.toArray w fun e w' => e = .returned v ∧ w' = w)
    (h : WL P ops Q rest (act n (put f d v)) w) : WL P ops Q (⟨d, op, tt, ps, af, gd⟩ :: rest) (act n f) w :=
  l_call hw he hg hc fun e w' hR => ⟨v, hR.1, by rw [hR.2]; exact h⟩

/-! Regions -/
theorem w_reg {id : Nat} {l : List Oper} (h : WL P l.toArray Q l (act n f) w) : (Code.region id l.toArray false).wp P Q (act n f) w := by
  refine wp_region ?_
  have := wpOps_eq_wpList (P := P) (ops := l.toArray) (Q := Q) l 0 (fun j => by simp)
  rw [List.range_eq_range']
  simp only [List.size_toArray]
  rw [this]
  exact h.out
end

/-! Steps of a region that draws its order: every operation yields one value in every world of the class -/
section
variable {P : Program} {ty : Nat → Option Ty} {n : Nat} {ops : Array Oper} {C : World → Prop} {K : Act → Prop} {rest : List Oper} {f : Fr} {d : Option Nat} {op : Op} {tt : TypeId} {ps : String} {af : Array Edge} {gd : Option (Nat × Bool)}
theorem q_nil (h : K (act n f)) : WQ P ops C K [] (act n f) := ⟨h⟩
theorem q_off (hw : want n ops f ⟨d, op, tt, ps, af, gd⟩ = false) (h : WQ P ops C K rest (act n (put f d undef))) : WQ P ops C K (⟨d, op, tt, ps, af, gd⟩ :: rest) (act n f) := by
  refine ⟨?_⟩
  have h := h.out
  simp only [wpQuiet, want_eq, hw, put_act]
  exact h
theorem q_val {v : Value} (hw : want n ops f ⟨d, op, tt, ps, af, gd⟩ = true) (hv : ∀ w, C w → (execOp (X n f) ⟨d, op, tt, ps, af, gd⟩).run P w = .ok (.value v) w) (h : WQ P ops C K rest (act n (put f d v))) : WQ P ops C K (⟨d, op, tt, ps, af, gd⟩ :: rest) (act n f) := by
  refine ⟨?_⟩
  have h := h.out
  simp only [wpQuiet, want_eq, hw, if_true]
  refine ⟨v, fun w hC => ?_, by rw [put_act]; exact h⟩
  unfold Oper.quietAt
  rw [eval_act, hv w hC]
  exact ⟨rfl, rfl⟩
theorem q_p (hty : Tys P ty) {v : Value} (hw : want n ops f ⟨d, op, tt, ps, af, gd⟩ = true) (he : evP ty n f op = some v) (h : WQ P ops C K rest (act n (put f d v))) : WQ P ops C K (⟨d, op, tt, ps, af, gd⟩ :: rest) (act n f) :=
  q_val hw (fun _ _ => evP_run (o := ⟨d, op, tt, ps, af, gd⟩) hty he) h
theorem q_a (hty : Tys P ty) {k : IntKind} {x : Int} (hw : want n ops f ⟨d, op, tt, ps, af, gd⟩ = true) (he : evA ty n f op = some (k, x)) (hr : inK k x) (h : WQ P ops C K rest (act n (put f d (.int k x)))) : WQ P ops C K (⟨d, op, tt, ps, af, gd⟩ :: rest) (act n f) :=
  q_val hw (fun _ _ => (evA_run (o := ⟨d, op, tt, ps, af, gd⟩) hty he).trans (by rw [wrap_in hr])) h
theorem q_t (hty : Tys P ty) {p : Prop} (hw : want n ops f ⟨d, op, tt, ps, af, gd⟩ = true) (he : evT ty n f op = some p) (hne : ∃ w, C w) (h1 : p → WQ P ops C K rest (act n (put f d (.bool true)))) (h2 : ¬ p → WQ P ops C K rest (act n (put f d (.bool false)))) : WQ P ops C K (⟨d, op, tt, ps, af, gd⟩ :: rest) (act n f) := by
  rcases Classical.em p with hp | hp
  · refine q_val hw (fun w _ => ?_) (h1 hp)
    obtain ⟨t, hr, ht⟩ := evT_run (w := w) (o := ⟨d, op, tt, ps, af, gd⟩) hty he
    rw [hr, ht.2 hp]
  · refine q_val hw (fun w _ => ?_) (h2 hp)
    obtain ⟨t, hr, ht⟩ := evT_run (w := w) (o := ⟨d, op, tt, ps, af, gd⟩) hty he
    cases t with
    | true => exact absurd (ht.1 rfl) hp
    | false => exact hr
theorem q_ix (hty : Tys P ty) {s : ByteArray} {j : Int} (hw : want n ops f ⟨d, op, tt, ps, af, gd⟩ = true) (he : evI n f ty op = some (s, j)) (h0 : 0 ≤ j) (h1 : j < s.size) (h : WQ P ops C K rest (act n (put f d (.int .u8 (at_ (bl s) j))))) : WQ P ops C K (⟨d, op, tt, ps, af, gd⟩ :: rest) (act n f) :=
  q_val hw (fun _ _ => evI_run (o := ⟨d, op, tt, ps, af, gd⟩) hty he h0 h1) h
theorem q_sl (hty : Tys P ty) {s : ByteArray} {l r : Int} (hw : want n ops f ⟨d, op, tt, ps, af, gd⟩ = true) (he : evS n f ty op = some (s, l, r)) (h0 : 0 ≤ l) (h1 : l ≤ r) (h2 : r ≤ s.size) (h : WQ P ops C K rest (act n (put f d (.string (s.extract l.toNat r.toNat))))) : WQ P ops C K (⟨d, op, tt, ps, af, gd⟩ :: rest) (act n f) :=
  q_val hw (fun _ _ => evS_run (o := ⟨d, op, tt, ps, af, gd⟩) hty he h0 h1 h2) h
theorem q_ia (hty : Tys P ty) {a : Addr} {l sz : Nat} {j : Int} (hw : want n ops f ⟨d, op, tt, ps, af, gd⟩ = true) (he : evIA n f ty op = some (some a, l, sz, j)) (h0 : 0 ≤ j) (h1 : j < l) (h : WQ P ops C K rest (act n (put f d (.pointer (some (a.add (j.toNat * sz))))))) : WQ P ops C K (⟨d, op, tt, ps, af, gd⟩ :: rest) (act n f) :=
  q_val hw (fun _ _ => evIA_run (o := ⟨d, op, tt, ps, af, gd⟩) hty he h0 h1) h
theorem q_ld (hty : Tys P ty) {a : Addr} {v : Value} (hw : want n ops f ⟨d, op, tt, ps, af, gd⟩ = true) (he : evL n f ty op = some a) (hc : ∀ w, C w → w.cell? a = some v) (h : WQ P ops C K rest (act n (put f d v))) : WQ P ops C K (⟨d, op, tt, ps, af, gd⟩ :: rest) (act n f) :=
  q_val hw (fun w hC => evL_run (o := ⟨d, op, tt, ps, af, gd⟩) hty he (hc w hC)) h
theorem q_call {g : FuncId} {args : List Value} {v : Value} (hw : want n ops f ⟨d, op, tt, ps, af, gd⟩ = true) (he : evC n f op = some (g, args)) (hg : callable P g = true) (hc : ∀ w, C w → Calls P g args.toArray w fun e w' => e = .returned v ∧ C w')
    (h : WQ P ops C K rest (act n (put f d v))) : WQ P ops C K (⟨d, op, tt, ps, af, gd⟩ :: rest) (act n f) := by
  refine ⟨?_⟩
  have h := h.out
  simp only [wpQuiet, want_eq, hw, if_true]
  refine ⟨v, fun w hC => ?_, by rw [put_act]; exact h⟩
  unfold Oper.quietAt
  rw [eval_act, evC_run (o := ⟨d, op, tt, ps, af, gd⟩) he hg]
  exact ⟨rfl, hc w hC⟩
theorem is_q {o : Oper} (h : WQ P ops C K (o :: rest) (act n f)) : WQ P ops C K (o :: rest) (act n f) := h
theorem w_draw {Q : Exit → Act → World → Prop} {w : World} {id : Nat} {l : List Oper} (hm : P.follows .mixedOrders = true) (hB : Region.lexB .any l.toArray = true) (hC : C w.drew)
    (h : WQ P l.toArray C (fun a' => ∀ w', C w' → Q .normal a' w') l (act n f)) : (Code.region id l.toArray true).wp P Q (act n f) w :=
  wp_region_quiet hm hB hC (by simpa using h.out)
end

/-! Code -/
section
variable {P : Program} {n : Nat} {Q : Exit → Act → World → Prop} {f : Fr} {w : World}
theorem w_if {c : Operand} {x y : Code} {t : Bool} (hc : X n f c = .bool t) (h : (bif t then x else y).wp P Q (act n f) w) : (Code.cond c x y).wp P Q (act n f) w := by
  refine wp_cond (t := t) (by rw [eval_act]; exact hc) ?_
  cases t <;> exact h
theorem is_if {c : Operand} {x y : Code} (h : (Code.cond c x y).wp P Q (act n f) w) : (Code.cond c x y).wp P Q (act n f) w := h
theorem w_ift {c : Operand} {x y : Code} (hc : X n f c = .bool true) (h : x.wp P Q (act n f) w) : (Code.cond c x y).wp P Q (act n f) w := w_if hc h
theorem w_iff {c : Operand} {x y : Code} (hc : X n f c = .bool false) (h : y.wp P Q (act n f) w) : (Code.cond c x y).wp P Q (act n f) w := w_if hc h
theorem p_tn {next : Act → World → Prop} {a : Act} (h : next a w) : Exit.then next Q .normal a w := h
theorem p_tx {next : Act → World → Prop} {a : Act} {id : Nat} (h : Q (.exit id) a w) : Exit.then next Q (.exit id) a w := h
theorem p_tr {next : Act → World → Prop} {a : Act} (h : Q .ret a w) : Exit.then next Q .ret a w := h
theorem p_bn {a : Act} {id : Nat} (h : Q .normal a w) : Exit.inBlock id Q .normal a w := h
theorem p_br {a : Act} {id : Nat} (h : Q .ret a w) : Exit.inBlock id Q .ret a w := h
theorem x_hit {id : Nat} {a : Act} (h : Q .normal a w) : Exit.inBlock id Q (.exit id) a w := by simpa [Exit.inBlock] using h
theorem x_miss {id id2 : Nat} {a : Act} (hne : Nat.beq id2 id = false) (h : Q (.exit id2) a w) : Exit.inBlock id Q (.exit id2) a w := by
  have : id2 ≠ id := by intro e; subst e; simp at hne
  simpa [Exit.inBlock, this] using h
/-- What stands in slots. -/
def over (f : Fr) : List (Nat × Value) → Fr
  | [] => f
  | (k, v) :: l => put (over f l) (some k) v
def Slots (f : Fr) : List (Nat × Value) → Prop
  | [] => True
  | (k, v) :: l => f k = v ∧ Slots f l
theorem over_eq {f : Fr} : ∀ {l : List (Nat × Value)}, Slots f l → over f l = f
  | [], _ => rfl
  | (k, v) :: l, h => by
    obtain ⟨h1, h2⟩ := h
    funext j
    simp only [over, put, over_eq h2]
    by_cases e : j = k
    · subst e; simp [h1]
    · have : Nat.beq j k = false := by rw [Bool.eq_false_iff]; intro h; exact e (Nat.eq_of_beq_eq_true h)
      simp [this]
/-- A loop: S: what stands in the slots, J: what holds of the world, both told by a state. -/
theorem w_loop {σ : Type} (S : σ → List (Nat × Value)) (J : σ → World → Prop) (μ : σ → Nat) (s0 : σ) {c : Code} (h0 : Slots f (S s0)) (hJ : J s0 w)
    (round : ∀ s f w, J s w → c.wp P (Exit.then (fun a' w' => ∃ s' f', a' = act n f' ∧ Slots f' (S s') ∧ J s' w' ∧ μ s' < μ s) Q) (act n (over f (S s))) w) : (Code.loop c).wp P Q (act n f) w := by
  refine wp_loop_ghost (fun m a w => ∃ s f, a = act n f ∧ Slots f (S s) ∧ J s w ∧ μ s = m) (μ s0) ⟨s0, f, rfl, h0, hJ, rfl⟩ ?_
  rintro m a w ⟨s, f, rfl, g2, g3, g4⟩
  have := round s f w g3
  rw [over_eq g2] at this
  refine wp_mono this ?_
  intro e a' w' hq
  cases e with
  | normal =>
    obtain ⟨s', f', rfl, k2, k3, k4⟩ := hq
    exact ⟨μ s', by omega, s', f', rfl, k2, k3, rfl⟩
  | exit id => exact hq
  | goto l => exact hq
  | ret => exact hq
  | panic ch => exact hq
  | outgrown => exact hq
/-- A call's begin. -/
def ini (l : List Value) : Fr := fun k => l.getD k undef
theorem enter {g : FuncId} {fn : Func} {c : Code} {args : List Value} {R : Ending → World → Prop} (hf : P.funcs[g]? = some fn) (hb : fn.body = some c) (hn : fn.ntmps = n) (hl : Nat.ble args.length n = true)
    (h : c.wp P (bodyPost P fn R) (act n (ini args)) w) : Calls P g args.toArray w R := by
  refine calls_of_wp hf hb ?_
  have e : ({ tmps := args.toArray ++ Array.replicate (fn.ntmps - args.toArray.size) undef, defers := [] } : Act) = act n (ini args) := by
    unfold act
    congr 1
    have hl' : args.length ≤ n := Nat.le_of_ble_eq_true hl
    apply Array.ext
    · simp [arr, hn]; omega
    · intro i h1 h2
      simp only [arr, ini, List.getElem_toArray, List.getElem_map, List.getElem_range]
      by_cases hi : i < args.length
      · rw [Array.getElem_append_left (by simpa using hi)]
        simp [hi]
      · rw [Array.getElem_append_right (by simpa using hi)]
        simp [hi]
  rw [e]
  exact h
theorem end1 {fn : Func} {R : Ending → World → Prop} {t : Tmp} (hr : fn.results = #[.tmp t]) {v : Value} (hv : nf (X n f (.tmp t)) = some v) (h : R (.returned v) w) : bodyPost P fn R .ret (act n f) w :=
  bodyPost_ret (results_tmp hr _ _ _) rfl (by rw [show (act n f).tmps = arr n f from rfl, getD_arr, ← nf_eq hv]; exact h)
theorem end2 {fn : Func} {R : Ending → World → Prop} {t u : Tmp} (hr : fn.results = #[.tmp t, .tmp u]) {v v2 : Value} (hv : nf (X n f (.tmp t)) = some v) (hv2 : nf (X n f (.tmp u)) = some v2) (h : R (.returned (.tuple #[v, v2])) w) : bodyPost P fn R .ret (act n f) w :=
  bodyPost_ret (results_tmp2 hr _ _ _) rfl (by rw [show (act n f).tmps = arr n f from rfl, getD_arr, getD_arr, ← nf_eq hv, ← nf_eq hv2]; exact h)
theorem end3 {fn : Func} {R : Ending → World → Prop} {t u x : Tmp} (hr : fn.results = #[.tmp t, .tmp u, .tmp x]) {v v2 v3 : Value} (hv : nf (X n f (.tmp t)) = some v) (hv2 : nf (X n f (.tmp u)) = some v2) (hv3 : nf (X n f (.tmp x)) = some v3) (h : R (.returned (.tuple #[v, v2, v3])) w) : bodyPost P fn R .ret (act n f) w :=
  bodyPost_ret (results_tmp3 hr _ _ _) rfl (by rw [show (act n f).tmps = arr n f from rfl, getD_arr, getD_arr, getD_arr, ← nf_eq hv, ← nf_eq hv2, ← nf_eq hv3]; exact h)
end
end Go.Proofs.Ytljinjgamgmocaa.Q
