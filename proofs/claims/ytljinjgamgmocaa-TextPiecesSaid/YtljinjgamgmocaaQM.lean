/- The calculus' steps over memory: slices cut, rows made and appended to, texts out of rows. -/
import Derived.Test.YtljinjgamgmocaaQS
import Derived.Test.YtljinjgamgmocaaWWords
import Derived.Great.BuildSlice
namespace Go.Proofs.Ytljinjgamgmocaa.Q
open Go.RowKit Go.Proofs.YtljinjgamgmocaaW.PrintWords
set_option linter.unusedVariables false
set_option linter.unusedSimpArgs false

def evCat (n : Nat) (f : Fr) : Op → Option (ByteArray × ByteArray)
  | .binOp .add _ x y _ => match X n f x, X n f y with
    | .string s, .string t => some (s, t)
    | _, _ => none
  | _ => none
/-- a % b -/
def evRem (n : Nat) (f : Fr) : Op → Option (IntKind × Int × Int)
  | .binOp .rem _ x y _ => match X n f x, X n f y with
    | .int k a, .int k2 b => bif decide (k = k2) then some (k, a, b) else none
    | _, _ => none
  | _ => none
/-- A row of bytes that is made: its type, its bytes. -/
def evB (n : Nat) (f : Fr) : Op → Option (TypeId × List Int)
  | .buildSlice t 1 parts => match parts.toList with
    | [(0, x)] => match X n f x with
      | .int .u8 a => some (t, [a])
      | _ => none
    | _ => none
  | .buildSlice t 2 parts => match parts.toList with
    | [(0, x), (1, y)] => match X n f x, X n f y with
      | .int .u8 a, .int .u8 b => some (t, [a, b])
      | _, _ => none
    | _ => none
  | .buildSlice t 3 parts => match parts.toList with
    | [(0, x), (1, y), (2, z)] => match X n f x, X n f y, X n f z with
      | .int .u8 a, .int .u8 b, .int .u8 c => some (t, [a, b, c])
      | _, _, _ => none
    | _ => none
  | _ => none
/-- append(v, row): type, both. -/
def evApp (n : Nat) (f : Fr) : Op → Option (TypeId × Value × Value)
  | .call c => match c.callee, c.args.toList, c.argTypes.toList with
    | .builtin .append, [x, y], [t, t2] => bif Nat.beq t t2 then some (t, X n f x, X n f y) else none
    | _, _, _ => none
  | _ => none
/-- A conversion: types, value. -/
def evCv (n : Nat) (f : Fr) : Op → Option (TypeId × TypeId × Value)
  | .convert s d x => some (s, d, X n f x)
  | _ => none

section
variable {P : Program} {ty : Nat → Option Ty} {n : Nat} {f : Fr} {w : World} {o : Oper}
theorem evCat_run {s t : ByteArray} (h : evCat n f o.op = some (s, t)) (hl : s.size + t.size ≤ 9223372036854775807) : (execOp (X n f) o).run P w = .ok (.value (.string (s ++ t))) w := by
  unfold evCat at h
  split at h
  · rename_i t0 x y t2 ho
    split at h
    · rename_i s1 s2 h1 h2
      simp only [Option.some.injEq, Prod.mk.injEq] at h
      obtain ⟨rfl, rfl⟩ := h
      have hm : IntKind.i64.max = 9223372036854775807 := by decide +kernel
      have hc : ¬ ((s1.size : Int) + (s2.size : Int) > 9223372036854775807) := by omega
      unfold execOp
      rw [ho]
      simp [go_sem, eqGuard, binOp, Op.stringOp, h1, h2, hm, hc]
    · cases h
  · cases h
theorem evRem_run {k : IntKind} {a b : Int} (h : evRem n f o.op = some (k, a, b)) (hb : b ≠ 0) : (execOp (X n f) o).run P w = .ok (.value (.int k (a.tmod b))) w := by
  unfold evRem at h
  split at h
  · rename_i t0 x y t2 ho
    split at h
    · rename_i k1 a1 k2 b1 h1 h2
      by_cases hk : k1 = k2
      · subst hk
        simp only [decide_true, cond_true, Option.some.injEq, Prod.mk.injEq] at h
        obtain ⟨rfl, rfl, rfl⟩ := h
        unfold execOp
        rw [ho]
        simp [go_sem, eqGuard, binOp, Op.intDiv, h1, h2, hb]
      · simp [hk] at h
    · cases h
  · cases h
/-- Where a cut of a row begins. -/
def cutA (a : Option Addr) (c p sz : Nat) : Option Addr := if c = p then a else a.map (·.add (p * sz))
theorem evSl_run (hty : Tys P ty) {a : Option Addr} {l c sz : Nat} {p q : Int} (he : evSl n f ty o.op = some (a, l, c, sz, p, q)) (h0 : 0 ≤ p) (h1 : p ≤ q) (h2 : q ≤ c) :
    (execOp (X n f) o).run P w = .ok (.value (.slice (cutA a c p.toNat sz) (q.toNat - p.toNat) (c - p.toNat))) w := by
  unfold evSl at he
  split at he
  · rename_i t x lo hi ho
    split at he
    · rename_i e sz1 a1 l1 c1 h3 h4
      obtain ⟨b1, i0, b2, b3⟩ : P.underlying t = some (.slice e) ∧ ∃ i, P.info? e = some i ∧ i.size = sz1 := hty _ _ h3
      have hel : P.elem t = e := by simp [Program.elem, b1]
      unfold execOp
      rw [ho]
      cases lo with
      | none =>
        cases hi with
        | none =>
          simp only [bound, Option.some.injEq, Prod.mk.injEq] at he
          obtain ⟨rfl, rfl, rfl, rfl, rfl, rfl⟩ := he
          simp [go_sem, h4, Instr.sliceAt, Instr.slice, Instr.sliceBounds, Instr.sliceBound, run_underlying b1, sizeOf, typeInfo, b2, b3, cutA]
        | some y =>
          simp only [bound] at he
          split at he
          · rename_i p0 q0 e1 e2
            split at e2
            · rename_i k j e3
              simp only [Option.some.injEq, Prod.mk.injEq] at he e1 e2
              obtain ⟨rfl, rfl, rfl, rfl, rfl, rfl⟩ := he
              subst e1 e2
              have hq : 0 ≤ j := by omega
              simp [go_sem, h4, e3, Instr.sliceAt, Instr.slice, Instr.sliceBounds, Instr.sliceBound, run_underlying b1, sizeOf, typeInfo, b2, b3, cutA, hq, h2]
            · cases e2
          · cases he
      | some z =>
        cases hi with
        | none =>
          simp only [bound] at he
          split at he
          · rename_i p0 q0 e1 e2
            split at e1
            · rename_i k j e3
              simp only [Option.some.injEq, Prod.mk.injEq] at he e1 e2
              obtain ⟨rfl, rfl, rfl, rfl, rfl, rfl⟩ := he
              subst e1 e2
              simp [go_sem, h4, e3, Instr.sliceAt, Instr.slice, Instr.sliceBounds, Instr.sliceBound, run_underlying b1, sizeOf, typeInfo, b2, b3, cutA, h0, h1]
            · cases e1
          · cases he
        | some y =>
          simp only [bound] at he
          split at he
          · rename_i p0 q0 e1 e2
            split at e1
            · rename_i k j e3
              split at e2
              · rename_i k2 j2 e4
                simp only [Option.some.injEq, Prod.mk.injEq] at he e1 e2
                obtain ⟨rfl, rfl, rfl, rfl, rfl, rfl⟩ := he
                subst e1 e2
                have hq : 0 ≤ j2 := by omega
                have hz : j ≤ (j2.toNat : Int) := by omega
                simp [go_sem, h4, e3, e4, Instr.sliceAt, Instr.slice, Instr.sliceBounds, Instr.sliceBound, run_underlying b1, sizeOf, typeInfo, b2, b3, cutA, h0, h2, hq, hz]
                all_goals (intro hx; exfalso; omega)
              · cases e2
            · cases e1
          · cases he
    · cases he
  · cases he
theorem reads_cut {k : IntKind} {A : Option Addr} {m c : Nat} {xs : List Int} (h : ReadsInt w k A m xs) {p q : Nat} (h1 : p ≤ q) (h2 : q ≤ m) (hc : m ≤ c) : ReadsInt w k (cutA A c p 1) (q - p) ((xs.take q).drop p) := by
  have h3 := ((readsInt_of.1 h).take_ q h2).drop_ (c := c) p h1 (by omega)
  unfold cutA
  rw [Nat.mul_one]
  exact readsInt_of.2 h3
end

section
variable {P : Program} {ty : Nat → Option Ty} {n : Nat} {ops : Array Oper} {Q : Exit → Act → World → Prop} {rest : List Oper} {f : Fr} {w : World} {d : Option Nat} {op : Op} {tt : TypeId} {ps : String} {af : Array Edge} {gd : Option (Nat × Bool)}
theorem l_cat {s t : ByteArray} (hw : want n ops f ⟨d, op, tt, ps, af, gd⟩ = true) (he : evCat n f op = some (s, t)) (hl : s.size + t.size ≤ 9223372036854775807) (h : WL P ops Q rest (act n (put f d (.string (s ++ t)))) w) : WL P ops Q (⟨d, op, tt, ps, af, gd⟩ :: rest) (act n f) w :=
  l_val hw (evCat_run (o := ⟨d, op, tt, ps, af, gd⟩) he hl) h
theorem l_rem {k : IntKind} {a b : Int} (hw : want n ops f ⟨d, op, tt, ps, af, gd⟩ = true) (he : evRem n f op = some (k, a, b)) (ha : 0 ≤ a) (hb : 0 < b) (h : WL P ops Q rest (act n (put f d (.int k (a % b)))) w) : WL P ops Q (⟨d, op, tt, ps, af, gd⟩ :: rest) (act n f) w :=
  l_val hw ((evRem_run (o := ⟨d, op, tt, ps, af, gd⟩) he (by omega)).trans (by rw [Int.tmod_eq_emod_of_nonneg ha])) h
theorem l_cut (hty : Tys P ty) {a : Option Addr} {l c sz : Nat} {p q : Int} (hw : want n ops f ⟨d, op, tt, ps, af, gd⟩ = true) (he : evSl n f ty op = some (a, l, c, sz, p, q)) (h0 : 0 ≤ p) (h1 : p ≤ q) (h2 : q ≤ c)
    (h : WL P ops Q rest (act n (put f d (.slice (cutA a c p.toNat sz) (q.toNat - p.toNat) (c - p.toNat)))) w) : WL P ops Q (⟨d, op, tt, ps, af, gd⟩ :: rest) (act n f) w :=
  l_val hw (evSl_run (o := ⟨d, op, tt, ps, af, gd⟩) hty he h0 h1 h2) h
/-- .. between places that are told as naturals. -/
theorem l_cutN (hty : Tys P ty) {a : Option Addr} {l c sz : Nat} (p q : Nat) (hw : want n ops f ⟨d, op, tt, ps, af, gd⟩ = true) (he : evSl n f ty op = some (a, l, c, sz, (p : Int), (q : Int))) (h1 : p ≤ q) (h2 : q ≤ c)
    (h : WL P ops Q rest (act n (put f d (.slice (cutA a c p sz) (q - p) (c - p)))) w) : WL P ops Q (⟨d, op, tt, ps, af, gd⟩ :: rest) (act n f) w :=
  l_cut hty hw he (by omega) (by omega) (by omega) h
theorem Bt {w wi w' : World} (h : Below w.heap.size w wi) (k : Below wi.heap.size wi w') : Below w.heap.size w w' := below_then h h.size k
theorem q_cat {C : World → Prop} {K : Act → Prop} {s t : ByteArray} (hw : want n ops f ⟨d, op, tt, ps, af, gd⟩ = true) (he : evCat n f op = some (s, t)) (hl : s.size + t.size ≤ 9223372036854775807) (h : WQ P ops C K rest (act n (put f d (.string (s ++ t))))) : WQ P ops C K (⟨d, op, tt, ps, af, gd⟩ :: rest) (act n f) :=
  q_val hw (fun _ _ => evCat_run (o := ⟨d, op, tt, ps, af, gd⟩) he hl) h
/-- A row of bytes is made. -/
theorem l_lit (hg : gd = none) {t e : TypeId} {zs : List Int} (he : evB n f op = some (t, zs)) (hu : P.underlying t = some (.slice e)) (hinfo : (P.info? e).map (fun i => (i.zero, i.size, i.bytes)) = some (some (.int .u8 0), 1, 1))
    (h : WL P ops Q rest (act n (put f d (.slice (some ⟨w.heap.size, 0, none⟩) zs.length zs.length))) (w.alloc (.cells (nums .u8 zs).toArray e))) : WL P ops Q (⟨d, op, tt, ps, af, gd⟩ :: rest) (act n f) w := by
  subst hg
  obtain ⟨i0, hi, hz⟩ := Option.map_eq_some_iff.1 hinfo
  simp only [Prod.mk.injEq] at hz
  obtain ⟨hz0, hz1, hz2⟩ := hz
  have key : ∀ (k : Nat) (parts : Array (Nat × Operand)), op = .buildSlice t k parts → k = zs.length → 0 < k → k ≤ 3 → (parts.map fun (i, x) => (i, X n f x)).toList = ((zs.map (Value.int .u8)).zipIdx 0).map (fun x => (x.2, x.1)) → WL P ops Q (⟨d, op, tt, ps, af, none⟩ :: rest) (act n f) w := by
    intro k parts ho hk h0 h3 hp
    refine ⟨?_⟩
    refine wpList_buildSlice rfl t e k parts ho (nums .u8 zs).toArray i0 (.int .u8 0) hu hi hz0 (by rw [hz1]; omega) (by rw [hz1]; omega) ?_ (by rw [put_act, hk]; exact h.out)
    rw [eval_act, hp, hz1]
    exact Great.fill_flat _ _ (fun v hv => by obtain ⟨m, _, rfl⟩ := List.mem_map.1 hv; rfl) (by simp [hk])
  unfold evB at he
  split at he
  · rename_i t0 parts
    split at he
    · rename_i x hx
      have hx' : parts = #[(0, x)] := by rw [← Array.toList_inj]; exact hx
      split at he
      · rename_i a ha
        simp only [Option.some.injEq, Prod.mk.injEq] at he
        obtain ⟨rfl, rfl⟩ := he
        exact key 1 _ rfl rfl (by decide) (by decide) (by rw [hx']; simp [ha])
      · cases he
    · cases he
  · rename_i t0 parts
    split at he
    · rename_i x y hx
      have hx' : parts = #[(0, x), (1, y)] := by rw [← Array.toList_inj]; exact hx
      split at he
      · rename_i a b ha hb
        simp only [Option.some.injEq, Prod.mk.injEq] at he
        obtain ⟨rfl, rfl⟩ := he
        exact key 2 _ rfl rfl (by decide) (by decide) (by rw [hx']; simp [ha, hb])
      · cases he
    · cases he
  · rename_i t0 parts
    split at he
    · rename_i x y z hx
      have hx' : parts = #[(0, x), (1, y), (2, z)] := by rw [← Array.toList_inj]; exact hx
      split at he
      · rename_i a b c ha hb hc
        simp only [Option.some.injEq, Prod.mk.injEq] at he
        obtain ⟨rfl, rfl⟩ := he
        exact key 3 _ rfl rfl (by decide) (by decide) (by rw [hx']; simp [ha, hb, hc])
      · cases he
    · cases he
  · cases he
theorem lit_reads (w : World) (e : TypeId) (zs : List Int) (hz : zs.length ≤ 3) : ReadsInt (w.alloc (.cells (nums .u8 zs).toArray e)) .u8 (some ⟨w.heap.size, 0, none⟩) zs.length zs := by
  have h := own_lit w w.heap.size e .u8 zs (Nat.le_refl _) (by omega)
  obtain ⟨A, c, hv, hr⟩ := own_reads h
  injection hv with h1
  rw [← h1] at hr
  exact hr
/-- A row of the call's own. -/
abbrev Own (e : TypeId) (w : World) (base : Nat) (v : Value) (xs : List Int) : Prop := w.ownsRow base e 1 v xs.length (nums .u8 xs)
/-- append of a row that reads. -/
theorem l_app (hg : gd = none) {w0 : World} {base : Nat} {t e : TypeId} {v : Value} {A : Option Addr} {m c : Nat} {xs ys : List Int} (he : evApp n f op = some (t, v, .slice A m c)) (hu : P.underlying t = some (.slice e)) (hinfo : (P.info? e).map (fun i => (i.zero, i.size, i.bytes)) = some (some (.int .u8 0), 1, 1))
    (HO : Own e w base v xs) (HR : ReadsInt w .u8 A m ys) (HB : Below base w0 w) (hbase : base ≤ w.heap.size) (hl : xs.length + m ≤ 140737488355328)
    (h : ∀ A1 c1 w1, Own e w1 base (.slice A1 (xs ++ ys).length c1) (xs ++ ys) → (xs ++ ys).length ≤ c1 → ReadsInt w1 .u8 A1 (xs ++ ys).length (xs ++ ys) → Below base w0 w1 → base ≤ w1.heap.size → WL P ops Q rest (act n (put f d (.slice A1 (xs ++ ys).length c1))) w1) : WL P ops Q (⟨d, op, tt, ps, af, gd⟩ :: rest) (act n f) w := by
  subst hg
  unfold evApp at he
  split at he
  · rename_i cc
    split at he
    · rename_i x y t1 t2 h1 h2 h3
      by_cases ht : t1 = t2
      · subst ht
        simp only [Nat.beq_refl, cond_true, Option.some.injEq, Prod.mk.injEq] at he
        obtain ⟨rfl, he1, he2⟩ := he
        have hargs : cc.args = #[x, y] := by rw [← Array.toList_inj]; exact h2
        have htys : cc.argTypes = #[t1, t1] := by rw [← Array.toList_inj]; exact h3
        have ho : Op.call cc = .call { callee := .builtin .append, args := #[x, y], argTypes := #[t1, t1] } := by
          cases cc
          simp_all
        refine ⟨?_⟩
        refine print_append_row base rfl x y t1 e .u8 1 ho hu hinfo (by decide) v xs ys A m c (by rw [eval_act]; exact he1) (by rw [eval_act]; exact he2) HO HR HB hbase (by omega) ?_
        intro v1 w1 hO hB hgr _
        obtain ⟨A1, c1, rfl, hle, hr⟩ := own_reads_of_le (enc := Value.int .u8) (d := (0 : Int)) hO
        rw [put_act]
        exact (h A1 c1 w1 hO hle (readsInt_of.2 hr) hB (Nat.le_trans hbase hgr.size)).out
      · exfalso
        have : Nat.beq t1 t2 = false := by rw [Bool.eq_false_iff]; intro hb; exact ht (Nat.eq_of_beq_eq_true hb)
        simp [this] at he
    · cases he
  · cases he
/-- A text out of a row that reads. -/
theorem l_text {s t e : TypeId} {A : Option Addr} {m c : Nat} {xs : List Int} (hw : want n ops f ⟨d, op, tt, ps, af, gd⟩ = true) (he : evCv n f op = some (s, t, .slice A m c)) (hs : P.underlying s = some (.slice e)) (hb : P.underlying e = some (.int .u8)) (hd : P.underlying t = some .string)
    (HR : ReadsInt w .u8 A m xs) (h : WL P ops Q rest (act n (put f d (.string (strOfNums xs)))) w) : WL P ops Q (⟨d, op, tt, ps, af, gd⟩ :: rest) (act n f) w := by
  unfold evCv at he
  split at he
  · rename_i s1 t1 x
    simp only [Option.some.injEq, Prod.mk.injEq] at he
    obtain ⟨rfl, rfl, hx⟩ := he
    refine l_val hw ?_ h
    have := string_of_reads (P := P) (w := w) (c := c) hs hb hd HR
    unfold execOp
    simp [hx, this]
  · cases he
end
end Go.Proofs.Ytljinjgamgmocaa.Q
