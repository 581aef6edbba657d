/- A small calculus for walking code: frames are functions, a value is worked out where it is asked for, every test parts the way at once. Over any program. -/
import Derived.Deep.Quiet
import Derived.Tactics
import Derived.WalkKit
import Derived.WalkLawsBesides
import Derived.KernelRfl
import Derived.Lib.Strings
namespace Go.Proofs.Ytljinjgamgmocaa.Q
set_option linter.unusedVariables false
set_option linter.unusedSimpArgs false

abbrev Fr := Nat → Value
def put (f : Fr) (d : Option Nat) (v : Value) : Fr := match d with | none => f | some d => fun k => bif Nat.beq k d then v else f k
def arr (n : Nat) (f : Fr) : Array Value := ((List.range n).map f).toArray
def act (n : Nat) (f : Fr) : Act := ⟨arr n f, []⟩
def X (n : Nat) (f : Fr) : Operand → Value
  | .tmp t => bif Nat.blt t n then f t else undef
  | .const v => v
  | .global g => .pointer (some ⟨g, 0, none⟩)
  | .func g => .func (.func g) #[] #[]
theorem getD_arr (n : Nat) (f : Fr) (t : Nat) : (arr n f).getD t undef = X n f (.tmp t) := by
  simp only [arr, X]
  by_cases h : t < n
  · have : Nat.blt t n = true := by simpa [Nat.blt_eq] using h
    simp [this, Array.getD, h]
  · have : Nat.blt t n = false := by rw [Bool.eq_false_iff]; simpa [Nat.blt_eq] using h
    simp [this, Array.getD, h]
theorem eval_act (n : Nat) (f : Fr) : (act n f).eval = X n f := by
  funext x
  cases x with
  | tmp t => exact getD_arr n f t
  | const v => rfl
  | global g => rfl
  | func g => rfl
theorem put_act (n : Nat) (f : Fr) (d : Option Nat) (v : Value) : (act n f).put d v = act n (put f d v) := by
  cases d with
  | none => rfl
  | some d =>
    simp only [Act.put, act, put]
    congr 1
    apply Array.ext
    · simp [arr]
    · intro i h1 h2
      simp only [arr, List.size_toArray, List.length_map, List.length_range] at h2
      simp [arr]
      by_cases e : d = i
      · subst e; simp
      · have : Nat.beq i d = false := by rw [Bool.eq_false_iff]; intro h; exact e (Nat.eq_of_beq_eq_true h).symm
        simp [e, this]
def want (n : Nat) (ops : Array Oper) (f : Fr) (o : Oper) : Bool := match o.guard with
  | none => true
  | some (j, b) => match (ops[j]?).bind (·.dst) with
    | none => false
    | some d => bif Nat.blt d n then (match f d with | .bool c => c == b | _ => false) else false
theorem want_eq (n : Nat) (ops : Array Oper) (f : Fr) (o : Oper) : Region.wanted o (yielded ops (act n f).tmps) = want n ops f o := by
  unfold Region.wanted want
  cases hg : o.guard with
  | none => rfl
  | some g =>
    obtain ⟨j, b⟩ := g
    simp only [yielded]
    cases hd : (ops[j]?).bind (·.dst) with
    | none => simp
    | some d =>
      simp only [Option.bind_some, act, arr]
      by_cases h : d < n
      · have : Nat.blt d n = true := by simpa [Nat.blt_eq] using h
        simp [this, h]
        cases hf : f d <;> simp
      · have : Nat.blt d n = false := by rw [Bool.eq_false_iff]; simpa [Nat.blt_eq] using h
        simp [this, h]

/-! Types -/
inductive Ty where
  | int (k : IntKind)
  | bool
  | str
  | slc (e sz : Nat)
  | err
def TyOk (P : Program) (t : TypeId) : Ty → Prop
  | .int k => P.underlying t = some (.int k)
  | .bool => P.underlying t = some .bool
  | .str => P.underlying t = some .string
  | .slc e sz => P.underlying t = some (.slice e) ∧ ∃ i, P.info? e = some i ∧ i.size = sz
  | .err => P.underlying t = some (.interface (P.methodsAt t))
abbrev Tys (P : Program) (ty : Nat → Option Ty) : Prop := ∀ t k, ty t = some k → TyOk P t k

/-- A text's bytes as numbers. -/
def bl (s : ByteArray) : List Int := s.data.toList.map fun b => (b.toNat : Int)
def at_ (l : List Int) (i : Int) : Int := l.getD i.toNat 0
theorem bl_length (s : ByteArray) : (bl s).length = s.size := by
  simp [bl]
theorem toList_iff (s t : ByteArray) : s.toList = t.toList ↔ bl s = bl t := by
  rw [Lib.toList_data, Lib.toList_data]
  unfold bl
  constructor
  · intro e; rw [e]
  · intro e
    have : ∀ {l m : List UInt8}, (l.map fun b => (b.toNat : Int)) = m.map (fun b => (b.toNat : Int)) → l = m := by
      intro l
      induction l with
      | nil => intro m h; cases m with | nil => rfl | cons _ _ => simp at h
      | cons x l ih =>
        intro m h
        cases m with
        | nil => simp at h
        | cons y m =>
          simp only [List.map_cons, List.cons.injEq] at h
          have hxy : x = y := by
            apply UInt8.toNat_inj.1
            omega
          rw [hxy, ih h.2]
    exact this e

/-- A value in its own form. -/
def nf : Value → Option Value
  | .bool b => some (.bool b)
  | .int k n => some (.int k n)
  | .float k n => some (.float k n)
  | .complex k a b => some (.complex k a b)
  | .string s => some (.string s)
  | .pointer a => some (.pointer a)
  | .slice a l c => some (.slice a l c)
  | .map r => some (.map r)
  | .chan r => some (.chan r)
  | .func a b c => some (.func a b c)
  | .nilFunc => some .nilFunc
  | .iface t v => some (.iface t v)
  | .nilIface => some .nilIface
  | .agg c => some (.agg c)
  | .tuple c => some (.tuple c)
theorem nf_eq {v u : Value} (h : nf v = some u) : u = v := by
  cases v <;> simp only [nf, Option.some.injEq] at h <;> exact h.symm
/-! Values that need no memory -/
section
variable (ty : Nat → Option Ty)
def evP (n : Nat) (f : Fr) : Op → Option Value
  | .move x => nf (X n f x)
  | .assign x => nf (X n f x)
  | .pick c a b => match X n f c with
    | .bool t => nf (bif t then X n f a else X n f b)
    | _ => none
  | .unOp .not _ x => match X n f x with
    | .bool b => some (.bool (!b))
    | _ => none
  | .extract x i => match X n f x with
    | .tuple vs => (vs.toList[i]?).bind nf
    | _ => none
  | .convert s d x => match ty s, ty d, X n f x with
    | some .str, some .str, .string s => some (.string s)
    | _, _, _ => none
  | .call c => match c.callee with
    | .builtin .len => match c.args.toList, c.argTypes.toList with
      | [x], [t] => match ty t, X n f x with
        | some .str, .string s => some (.int .i64 s.size)
        | some (.slc _ _), .slice _ l _ => some (.int .i64 l)
        | _, _ => none
      | _, _ => none
    | .builtin .min => match c.args.toList with
      | [x, y] => match X n f x, X n f y with
        | .int .i64 a, .int .i64 b => some (.int .i64 (if b < a then b else a))
        | _, _ => none
      | _ => none
    | _ => none
  | .binOp .and _ x y _ => match X n f x, X n f y with
    | .int .u8 a, .int .u8 b => some (.int .u8 (Go.bits .and .u8 a b))
    | _, _ => none
  | .binOp .shr _ x y _ => match X n f x, X n f y with
    | .int k a, .int _ b => bif decide (0 ≤ b) then some (.int k (a.fdiv (2 ^ min b.toNat k.bits))) else none
    | _, _ => none
  | _ => none
/-- Sums and the like: kind and number. -/
def evA (n : Nat) (f : Fr) : Op → Option (IntKind × Int)
  | .binOp .add _ x y _ => match X n f x, X n f y with
    | .int k a, .int k2 b => bif decide (k = k2) then some (k, a + b) else none
    | _, _ => none
  | .binOp .sub _ x y _ => match X n f x, X n f y with
    | .int k a, .int k2 b => bif decide (k = k2) then some (k, a - b) else none
    | _, _ => none
  | .binOp .mul _ x y _ => match X n f x, X n f y with
    | .int k a, .int k2 b => bif decide (k = k2) then some (k, a * b) else none
    | _, _ => none
  | .convert s d x => match ty s, ty d, X n f x with
    | some (.int _), some (.int k), .int _ a => some (k, a)
    | _, _, _ => none
  | .unOp .neg _ x => match X n f x with
    | .int k a => some (k, -a)
    | _ => none
  | _ => none
def cmpP : BinOp → Int → Int → Option Prop
  | .eql, a, b => some (a = b)
  | .neq, a, b => some (a ≠ b)
  | .lss, a, b => some (a < b)
  | .leq, a, b => some (a ≤ b)
  | .gtr, a, b => some (b < a)
  | .geq, a, b => some (b ≤ a)
  | _, _, _ => none
def cmpT : BinOp → ByteArray → ByteArray → Option Prop
  | .eql, s, t => some (bl s = bl t)
  | .neq, s, t => some (bl s ≠ bl t)
  | .lss, s, t => some (Op.bytesLess s.toList t.toList = true)
  | .gtr, s, t => some (¬ (Op.bytesLess s.toList t.toList = true ∨ bl s = bl t))
  | .leq, s, t => some (Op.bytesLess s.toList t.toList = true ∨ bl s = bl t)
  | .geq, s, t => some (¬ Op.bytesLess s.toList t.toList = true)
  | _, _, _ => none
/-- Tests: what is asked. -/
def evT (n : Nat) (f : Fr) : Op → Option Prop
  | .binOp op t x y _ => match X n f x, X n f y with
    | .int k a, .int k2 b => bif decide (k = k2) then cmpP op a b else none
    | .string s, .string t => cmpT op s t
    | .iface _ _, .nilIface => match op, ty t with
      | .eql, some .err => some False
      | .neq, some .err => some True
      | _, _ => none
    | .nilIface, .nilIface => match op, ty t, y with
      | .eql, some .err, .const _ => some True
      | .neq, some .err, .const _ => some False
      | _, _, _ => none
    | _, _ => none
  | _ => none
/-- A call: of what, with what. -/
def evC (n : Nat) (f : Fr) : Op → Option (FuncId × List Value)
  | .call c => match c.callee with
    | .value g => match X n f g with
      | .func (.func k) first captured => bif first.isEmpty then some (k, c.args.toList.map (X n f) ++ captured.toList) else none
      | _ => none
    | _ => none
  | _ => none
end

section
variable {P : Program} {ty : Nat → Option Ty} {n : Nat} {f : Fr} {w : World} {o : Oper}
theorem evP_run (hty : Tys P ty) {v : Value} (h : evP ty n f o.op = some v) : (execOp (X n f) o).run P w = .ok (.value v) w := by
  unfold evP at h
  unfold execOp
  split at h
  · rename_i x ho; rw [ho, nf_eq h]; simp
  · rename_i x ho; rw [ho, nf_eq h]; simp
  · rename_i c a b ho
    rw [ho]
    split at h
    · rename_i t ht
      have h := nf_eq h
      subst h
      cases t <;> simp [go_sem, ht]
    · cases h
  · rename_i x ho
    rw [ho]
    split at h
    · rename_i t ht
      simp only [Option.some.injEq] at h
      subst h
      simp [go_sem, ht]
    · cases h
  · rename_i x i ho
    rw [ho]
    split at h
    · rename_i vs ht
      obtain ⟨u, h1, h2⟩ := Option.bind_eq_some_iff.1 h
      have h2 := nf_eq h2
      subst h2
      rw [Array.getElem?_toList] at h1
      simp [go_sem, ht, h1]
    · cases h
  · rename_i s d x ho
    rw [ho]
    split at h
    · rename_i s0 h1 h2 h3
      simp only [Option.some.injEq] at h
      subst h
      have a1 : P.underlying s = some .string := hty _ _ h1
      have a2 : P.underlying d = some .string := hty _ _ h2
      simp [convert, go_sem, run_underlying a1, run_underlying a2, h3]
    · cases h
  · rename_i c ho
    rw [ho]
    split at h
    · rename_i hc
      split at h
      · rename_i x t hx ht
        have hx' : c.args = #[x] := by rw [← Array.toList_inj]; exact hx
        have ht' : c.argTypes = #[t] := by rw [← Array.toList_inj]; exact ht
        split at h
        · rename_i s h1 hs
          simp only [Option.some.injEq] at h
          subst h
          have a1 : P.underlying t = some .string := hty _ _ h1
          simp [go_sem, resolve, invoke, builtin, Builtin.len_, hc, hx', ht', hs, run_underlying a1, goInt]
        · rename_i e sz a l cp h1 hs
          simp only [Option.some.injEq] at h
          subst h
          have a1 : P.underlying t = some (.slice e) := (hty _ _ h1).1
          simp [go_sem, resolve, invoke, builtin, Builtin.len_, hc, hx', ht', hs, run_underlying a1, goInt]
        · cases h
      · cases h
    · rename_i hc
      split at h
      · rename_i x y hx
        have hx' : c.args = #[x, y] := by rw [← Array.toList_inj]; exact hx
        split at h
        · rename_i a b h1 h2
          simp only [Option.some.injEq] at h
          subst h
          simp [go_sem, resolve, invoke, builtin, Builtin.min_, Builtin.min2, hc, hx', h1, h2]
        · cases h
      · cases h
    · cases h
  · rename_i x y t ho
    rw [ho]
    split at h
    · rename_i a b h1 h2
      simp only [Option.some.injEq] at h
      subst h
      simp [go_sem, eqGuard, binOp, Op.intBits, h1, h2, Go.bits]
    · cases h
  · rename_i x y t ho
    rw [ho]
    split at h
    · rename_i k a k2 b h1 h2
      by_cases hb : 0 ≤ b
      · simp only [hb, decide_true, cond_true, Option.some.injEq] at h
        subst h
        simp [go_sem, eqGuard, binOp, Op.shift, h1, h2, hb]
      · simp [hb] at h
    · cases h
  · cases h
theorem evA_run (hty : Tys P ty) {k : IntKind} {a : Int} (h : evA ty n f o.op = some (k, a)) : (execOp (X n f) o).run P w = .ok (.value (.int k (k.wrap a))) w := by
  unfold evA at h
  unfold execOp
  split at h
  · rename_i t x y t2 ho
    rw [ho]
    split at h
    · rename_i k1 a1 k2 b1 h1 h2
      by_cases hk : k1 = k2
      · subst hk
        simp only [decide_true, cond_true, Option.some.injEq, Prod.mk.injEq] at h
        obtain ⟨rfl, rfl⟩ := h
        simp [go_sem, eqGuard, binOp, Op.intArith, h1, h2]
      · simp [hk] at h
    · cases h
  · rename_i t x y t2 ho
    rw [ho]
    split at h
    · rename_i k1 a1 k2 b1 h1 h2
      by_cases hk : k1 = k2
      · subst hk
        simp only [decide_true, cond_true, Option.some.injEq, Prod.mk.injEq] at h
        obtain ⟨rfl, rfl⟩ := h
        simp [go_sem, eqGuard, binOp, Op.intArith, h1, h2]
      · simp [hk] at h
    · cases h
  · rename_i t x y t2 ho
    rw [ho]
    split at h
    · rename_i k1 a1 k2 b1 h1 h2
      by_cases hk : k1 = k2
      · subst hk
        simp only [decide_true, cond_true, Option.some.injEq, Prod.mk.injEq] at h
        obtain ⟨rfl, rfl⟩ := h
        simp [go_sem, eqGuard, binOp, Op.intArith, h1, h2]
      · simp [hk] at h
    · cases h
  · rename_i s d x ho
    rw [ho]
    split at h
    · rename_i k0 k1 k2 a1 h1 h2 h3
      simp only [Option.some.injEq, Prod.mk.injEq] at h
      obtain ⟨rfl, rfl⟩ := h
      have e1 : P.underlying s = some (.int k0) := hty _ _ h1
      have e2 : P.underlying d = some (.int k1) := hty _ _ h2
      simp [convert, go_sem, run_underlying e1, run_underlying e2, h3, Conv.intToInt]
    · cases h
  · rename_i t x ho
    rw [ho]
    split at h
    · rename_i k1 a1 h1
      simp only [Option.some.injEq, Prod.mk.injEq] at h
      obtain ⟨rfl, rfl⟩ := h
      simp [go_sem, Op.unary, h1]
    · cases h
  · cases h
theorem cmpP_run {op : BinOp} {a b : Int} {p : Prop} (h : cmpP op a b = some p) : ∃ t : Bool, (Op.intCmp op a b).run P w = .ok (.bool t) w ∧ (t = true ↔ p) := by
  unfold cmpP at h
  split at h
  all_goals first
    | (simp only [Option.some.injEq] at h; subst h; exact ⟨_, by simp only [Op.intCmp]; rfl, by simp⟩)
    | cases h
theorem cmpT_run {op : BinOp} {s t : ByteArray} {p : Prop} (h : cmpT op s t = some p) : ∃ b : Bool, (Op.stringOp op s t).run P w = .ok (.bool b) w ∧ (b = true ↔ p) := by
  unfold cmpT at h
  split at h
  all_goals first
    | (simp only [Option.some.injEq] at h; subst h; exact ⟨_, by simp only [Op.stringOp]; rfl, by simp [toList_iff]⟩)
    | cases h
theorem evT_run (hty : Tys P ty) {p : Prop} (h : evT ty n f o.op = some p) : ∃ t : Bool, (execOp (X n f) o).run P w = .ok (.value (.bool t)) w ∧ (t = true ↔ p) := by
  unfold evT at h
  unfold execOp
  split at h
  · rename_i op t x y t2 ho
    rw [ho]
    split at h
    · rename_i k a k2 b h1 h2
      by_cases hk : k = k2
      · subst hk
        simp only [decide_true, cond_true] at h
        obtain ⟨b1, hr, hp⟩ := cmpP_run (P := P) (w := w) h
        refine ⟨b1, ?_, hp⟩
        have hb : binOp op t (.int k a) (.int k b) = Op.intCmp op a b := by
          unfold cmpP at h
          split at h
          all_goals first
            | (simp [binOp]; done)
            | cases h
        rw [← hb] at hr
        simp only [h1, h2]
        generalize binOp op t (.int k a) (.int k b) = e at hr
        simp [go_sem, eqGuard, hr]
      · simp [hk] at h
    · rename_i s1 s2 h1 h2
      obtain ⟨b1, hr, hp⟩ := cmpT_run (P := P) (w := w) h
      refine ⟨b1, ?_, hp⟩
      have hb : binOp op t (.string s1) (.string s2) = Op.stringOp op s1 s2 := by
        unfold cmpT at h
        split at h
        all_goals first
          | (simp [binOp]; done)
          | cases h
      rw [← hb] at hr
      simp only [h1, h2]
      generalize binOp op t (.string s1) (.string s2) = e at hr
      simp [go_sem, eqGuard, hr]
    · rename_i u v h1 h2
      split at h
      · rename_i h3
        simp only [Option.some.injEq] at h
        subst h
        refine ⟨false, ?_, by simp⟩
        simp [go_sem, eqGuard, h1, h2, run_eql_held_nil (P := P) w t _ _ (hty _ _ h3)]
      · rename_i h3
        simp only [Option.some.injEq] at h
        subst h
        refine ⟨true, ?_, by simp⟩
        simp [go_sem, eqGuard, h1, h2, run_neq_held_nil (P := P) w t _ _ (hty _ _ h3)]
      · cases h
    · rename_i h1 h2
      split at h
      · rename_i c h3
        simp only [Option.some.injEq] at h
        subst h
        refine ⟨true, ?_, by simp⟩
        simp [go_sem, eqGuard, h1, h2, run_eql_nil_nil (P := P) w t (hty _ _ h3)]
      · rename_i c h3
        simp only [Option.some.injEq] at h
        subst h
        refine ⟨false, ?_, by simp⟩
        simp [go_sem, eqGuard, h1, h2, run_neq_nil_nil (P := P) w t (hty _ _ h3)]
      · cases h
    · cases h
  · cases h
def callable (P : Program) (g : FuncId) : Bool := match P.funcs[g]? with
  | some fn => fn.body.isSome && !(fn.name == "runtime.NumGoroutine")
  | none => false
theorem evC_run {g : FuncId} {args : List Value} (h : evC n f o.op = some (g, args)) (hg : callable P g = true) : (execOp (X n f) o).run P w = .ok (.enter g args.toArray) w := by
  unfold evC at h
  unfold execOp
  split at h
  · rename_i c ho
    rw [ho]
    split at h
    · rename_i x hc
      split at h
      · rename_i k first captured hx
        cases hf : first.isEmpty with
        | false => simp [hf] at h
        | true =>
          simp only [hf, cond_true, Option.some.injEq, Prod.mk.injEq] at h
          obtain ⟨rfl, rfl⟩ := h
          have hfe : first = #[] := by simpa using hf
          subst hfe
          unfold callable at hg
          split at hg
          · rename_i fn hfn
            simp only [Bool.and_eq_true, Bool.not_eq_true'] at hg
            have hb : fn.body.isNone = false := by
              cases hb : fn.body with
              | none => rw [hb] at hg; simp at hg
              | some _ => rfl
            have harr : c.args.map (X n f) ++ captured = (c.args.toList.map (X n f) ++ captured.toList).toArray := by
              rw [← Array.toList_inj]; simp
            have hb2 : fn.body ≠ none := by intro e; rw [e] at hb; simp at hb
            have hn2 : fn.name ≠ "runtime.NumGoroutine" := by intro e; rw [e] at hg; simp at hg
            simp [go_sem, resolve, hc, hx, Deferred.ofValue, invoke, callFunc, hfn, hb, harr]
            rw [if_neg hn2, if_neg hb2]
          · cases hg
      · cases h
    · cases h
  · cases h
end
end Go.Proofs.Ytljinjgamgmocaa.Q
