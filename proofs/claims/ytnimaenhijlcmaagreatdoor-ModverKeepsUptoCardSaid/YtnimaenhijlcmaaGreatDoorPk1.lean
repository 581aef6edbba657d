/- Joined texts of mine, 1: Q, QS, WWords, QM, WLast, QR, QH, MSpec, MVer, MLaw, Shelf, Va, Vb, Vc, Vt, Vd. -/
import Derived.Deep.Quiet
import Derived.Tactics
import Derived.WalkKit
import Derived.WalkLawsBesides
import Derived.KernelRfl
import Derived.Lib.Strings
import Derived.Deep.LoopGhost
import Derived.Below
import Derived.Deep.Draws
import Derived.Deep.AppendLies
import Derived.Maps.AppendAt
import Derived.OwnWalk
import Derived.Laws.BytesArg
import Derived.Laws.MakeOwn
import Derived.Laws.OwnMore
import Derived.Deep.OwnRows
import Derived.Lib.ConvBytes
import Derived.Laws.Slices
import Derived.RowKit3
import Derived.Deep.QuietTactic
import Derived.BigQuiet
import Derived.WideLaws
import Derived.Deep.DeepCutAuto
import Derived.Deep.CutBlock
import Derived.Deep.RegionHeld3
import Derived.Laws.Rows
import Derived.Lib.AppendStr
import Derived.ArgAppend
import Derived.Laws.IdiomCopy
import Derived.RowKit
import Derived.Great.BuildSlice
import Derived.OrdersHeld
import Derived.Laws.BitsLemmas
import Derived.Deep.MidRow
import Derived.Scope
import Derived.Lib.SlBytesConst
import Derived.Shelf.Strings.Builder1
import Derived.Shelf.Strings.Builder2
import Derived.Shelf.Strings.OnBuilder
import Derived.Shelf.Strings.Trim
import Derived.Shelf.Small.Utf8
import Derived.Shelf.Small.Bits
import Derived.Shelf.Small.Strs
import Derived.Shelf.Small.Wraps
import Derived.Shelf.Strings.BuilderF
import Derived.Shelf.Strings.BuilderK
import Derived.Shelf.Strings.BuilderRune
import Derived.Shelf.Utf8.RuneCount
import Derived.Shelf.Strings.Builder2Cap
import Derived.Shelf.Strconv.Itoa0
import Derived.Shelf.Strings.Search1
import Derived.Shelf.Strings.Search2
import Derived.Shelf.Strings.Search3
import Derived.Shelf.Strings.Cut
import Derived.Shelf.Strings.Count
import Derived.Shelf.LaysM
import Derived.Shelf.Strings.Shaped
import Derived.Shelf.Strings.Prefix
import Derived.Shelf.Strings.Split
import Derived.Shelf.Strings.SplitShaped
import Derived.Shelf.Unicode.Latin
import Derived.Shelf.Unicode.Decode
import Derived.Shelf.Strings.Runes
import Derived.Shelf.Strings.RuneCount
import Derived.Shelf.Strings.AsciiSet
import Derived.Shelf.Strings.Explode
import Derived.Shelf.Unicode.DecodeSlow
import Derived.Shelf.Unicode.DecodeAny
import Derived.Shelf.Unicode.DecodeLast
import Derived.Shelf.Unicode.CaseLookup
import Derived.Shelf.Unicode.CaseConvert
import Derived.Shelf.Unicode.CaseTo
import Derived.Shelf.Unicode.CaseLaid
import Derived.Shelf.Strings.BuilderCap
import Derived.Test.YtnimaenhijlcmaaGreatDoorProg
import Derived.Laws.RangeAny
import Derived.Lib.OthersKept
section
namespace Go.Proofs.YtnimaenhijlcmaaGreatDoor.Q
set_option linter.unusedVariables false
set_option linter.unusedSimpArgs false
abbrev Fr := Nat → Value
def put (f : Fr) (d : Option Nat) (v : Value) : Fr := match d with | none => f | some d => fun k => bif Nat.beq k d then v else f k
def arr (n : Nat) (f : Fr) : Array Value := ((List.range n).map f).toArray
def act (n : Nat) (f : Fr) : Act := ⟨arr n f, []⟩
def X (n : Nat) (f : Fr) : Operand → Value
  | .tmp t => bif Nat.blt t n then f t else undef
  | .const v => v
  | .global g => .pointer (some ⟨g, 0, none⟩)
  | .func g => .func (.func g) #[] #[]
theorem getD_arr (n : Nat) (f : Fr) (t : Nat) : (arr n f).getD t undef = X n f (.tmp t) := by
  simp only [arr, X]
  by_cases h : t < n
  · have : Nat.blt t n = true := by simpa [Nat.blt_eq] using h
    simp [this, Array.getD, h]
  · have : Nat.blt t n = false := by rw [Bool.eq_false_iff]; simpa [Nat.blt_eq] using h
    simp [this, Array.getD, h]
theorem eval_act (n : Nat) (f : Fr) : (act n f).eval = X n f := by
  funext x
  cases x with
  | tmp t => exact getD_arr n f t
  | const v => rfl
  | global g => rfl
  | func g => rfl
theorem put_act (n : Nat) (f : Fr) (d : Option Nat) (v : Value) : (act n f).put d v = act n (put f d v) := by
  cases d with
  | none => rfl
  | some d =>
    simp only [Act.put, act, put]
    congr 1
    apply Array.ext
    · simp [arr]
    · intro i h1 h2
      simp only [arr, List.size_toArray, List.length_map, List.length_range] at h2
      simp [arr]
      by_cases e : d = i
      · subst e; simp
      · have : Nat.beq i d = false := by rw [Bool.eq_false_iff]; intro h; exact e (Nat.eq_of_beq_eq_true h).symm
        simp [e, this]
def want (n : Nat) (ops : Array Oper) (f : Fr) (o : Oper) : Bool := match o.guard with
  | none => true
  | some (j, b) => match (ops[j]?).bind (·.dst) with
    | none => false
    | some d => bif Nat.blt d n then (match f d with | .bool c => c == b | _ => false) else false
theorem want_eq (n : Nat) (ops : Array Oper) (f : Fr) (o : Oper) : Region.wanted o (yielded ops (act n f).tmps) = want n ops f o := by
  unfold Region.wanted want
  cases hg : o.guard with
  | none => rfl
  | some g =>
    obtain ⟨j, b⟩ := g
    simp only [yielded]
    cases hd : (ops[j]?).bind (·.dst) with
    | none => simp
    | some d =>
      simp only [Option.bind_some, act, arr]
      by_cases h : d < n
      · have : Nat.blt d n = true := by simpa [Nat.blt_eq] using h
        simp [this, h]
        cases hf : f d <;> simp
      · have : Nat.blt d n = false := by rw [Bool.eq_false_iff]; simpa [Nat.blt_eq] using h
        simp [this, h]
inductive Ty where
  | int (k : IntKind)
  | bool
  | str
  | slc (e sz : Nat)
  | err
def TyOk (P : Program) (t : TypeId) : Ty → Prop
  | .int k => P.underlying t = some (.int k)
  | .bool => P.underlying t = some .bool
  | .str => P.underlying t = some .string
  | .slc e sz => P.underlying t = some (.slice e) ∧ ∃ i, P.info? e = some i ∧ i.size = sz
  | .err => P.underlying t = some (.interface (P.methodsAt t))
abbrev Tys (P : Program) (ty : Nat → Option Ty) : Prop := ∀ t k, ty t = some k → TyOk P t k
def bl (s : ByteArray) : List Int := s.data.toList.map fun b => (b.toNat : Int)
def at_ (l : List Int) (i : Int) : Int := l.getD i.toNat 0
theorem bl_length (s : ByteArray) : (bl s).length = s.size := by
  simp [bl]
theorem toList_iff (s t : ByteArray) : s.toList = t.toList ↔ bl s = bl t := by
  rw [Lib.toList_data, Lib.toList_data]
  unfold bl
  constructor
  · intro e; rw [e]
  · intro e
    have : ∀ {l m : List UInt8}, (l.map fun b => (b.toNat : Int)) = m.map (fun b => (b.toNat : Int)) → l = m := by
      intro l
      induction l with
      | nil => intro m h; cases m with | nil => rfl | cons _ _ => simp at h
      | cons x l ih =>
        intro m h
        cases m with
        | nil => simp at h
        | cons y m =>
          simp only [List.map_cons, List.cons.injEq] at h
          have hxy : x = y := by
            apply UInt8.toNat_inj.1
            omega
          rw [hxy, ih h.2]
    exact this e
def nf : Value → Option Value
  | .bool b => some (.bool b)
  | .int k n => some (.int k n)
  | .float k n => some (.float k n)
  | .complex k a b => some (.complex k a b)
  | .string s => some (.string s)
  | .pointer a => some (.pointer a)
  | .slice a l c => some (.slice a l c)
  | .map r => some (.map r)
  | .chan r => some (.chan r)
  | .func a b c => some (.func a b c)
  | .nilFunc => some .nilFunc
  | .iface t v => some (.iface t v)
  | .nilIface => some .nilIface
  | .agg c => some (.agg c)
  | .tuple c => some (.tuple c)
theorem nf_eq {v u : Value} (h : nf v = some u) : u = v := by
  cases v <;> simp only [nf, Option.some.injEq] at h <;> exact h.symm
section
variable (ty : Nat → Option Ty)
def evP (n : Nat) (f : Fr) : Op → Option Value
  | .move x => nf (X n f x)
  | .assign x => nf (X n f x)
  | .pick c a b => match X n f c with
    | .bool t => nf (bif t then X n f a else X n f b)
    | _ => none
  | .unOp .not _ x => match X n f x with
    | .bool b => some (.bool (!b))
    | _ => none
  | .extract x i => match X n f x with
    | .tuple vs => (vs.toList[i]?).bind nf
    | _ => none
  | .convert s d x => match ty s, ty d, X n f x with
    | some .str, some .str, .string s => some (.string s)
    | _, _, _ => none
  | .call c => match c.callee with
    | .builtin .len => match c.args.toList, c.argTypes.toList with
      | [x], [t] => match ty t, X n f x with
        | some .str, .string s => some (.int .i64 s.size)
        | some (.slc _ _), .slice _ l _ => some (.int .i64 l)
        | _, _ => none
      | _, _ => none
    | .builtin .min => match c.args.toList with
      | [x, y] => match X n f x, X n f y with
        | .int .i64 a, .int .i64 b => some (.int .i64 (if b < a then b else a))
        | _, _ => none
      | _ => none
    | _ => none
  | .binOp .and _ x y _ => match X n f x, X n f y with
    | .int .u8 a, .int .u8 b => some (.int .u8 (Go.bits .and .u8 a b))
    | _, _ => none
  | .binOp .shr _ x y _ => match X n f x, X n f y with
    | .int k a, .int _ b => bif decide (0 ≤ b) then some (.int k (a.fdiv (2 ^ min b.toNat k.bits))) else none
    | _, _ => none
  | _ => none
def evA (n : Nat) (f : Fr) : Op → Option (IntKind × Int)
  | .binOp .add _ x y _ => match X n f x, X n f y with
    | .int k a, .int k2 b => bif decide (k = k2) then some (k, a + b) else none
    | _, _ => none
  | .binOp .sub _ x y _ => match X n f x, X n f y with
    | .int k a, .int k2 b => bif decide (k = k2) then some (k, a - b) else none
    | _, _ => none
  | .binOp .mul _ x y _ => match X n f x, X n f y with
    | .int k a, .int k2 b => bif decide (k = k2) then some (k, a * b) else none
    | _, _ => none
  | .convert s d x => match ty s, ty d, X n f x with
    | some (.int _), some (.int k), .int _ a => some (k, a)
    | _, _, _ => none
  | .unOp .neg _ x => match X n f x with
    | .int k a => some (k, -a)
    | _ => none
  | _ => none
def cmpP : BinOp → Int → Int → Option Prop
  | .eql, a, b => some (a = b)
  | .neq, a, b => some (a ≠ b)
  | .lss, a, b => some (a < b)
  | .leq, a, b => some (a ≤ b)
  | .gtr, a, b => some (b < a)
  | .geq, a, b => some (b ≤ a)
  | _, _, _ => none
def cmpT : BinOp → ByteArray → ByteArray → Option Prop
  | .eql, s, t => some (bl s = bl t)
  | .neq, s, t => some (bl s ≠ bl t)
  | .lss, s, t => some (Op.bytesLess s.toList t.toList = true)
  | .gtr, s, t => some (¬ (Op.bytesLess s.toList t.toList = true ∨ bl s = bl t))
  | .leq, s, t => some (Op.bytesLess s.toList t.toList = true ∨ bl s = bl t)
  | .geq, s, t => some (¬ Op.bytesLess s.toList t.toList = true)
  | _, _, _ => none
def evT (n : Nat) (f : Fr) : Op → Option Prop
  | .binOp op t x y _ => match X n f x, X n f y with
    | .int k a, .int k2 b => bif decide (k = k2) then cmpP op a b else none
    | .string s, .string t => cmpT op s t
    | .iface _ _, .nilIface => match op, ty t with
      | .eql, some .err => some False
      | .neq, some .err => some True
      | _, _ => none
    | .nilIface, .nilIface => match op, ty t, y with
      | .eql, some .err, .const _ => some True
      | .neq, some .err, .const _ => some False
      | _, _, _ => none
    | _, _ => none
  | _ => none
def evC (n : Nat) (f : Fr) : Op → Option (FuncId × List Value)
  | .call c => match c.callee with
    | .value g => match X n f g with
      | .func (.func k) first captured => bif first.isEmpty then some (k, c.args.toList.map (X n f) ++ captured.toList) else none
      | _ => none
    | _ => none
  | _ => none
end
section
variable {P : Program} {ty : Nat → Option Ty} {n : Nat} {f : Fr} {w : World} {o : Oper}
theorem evP_run (hty : Tys P ty) {v : Value} (h : evP ty n f o.op = some v) : (execOp (X n f) o).run P w = .ok (.value v) w := by
  unfold evP at h
  unfold execOp
  split at h
  · rename_i x ho; rw [ho, nf_eq h]; simp
  · rename_i x ho; rw [ho, nf_eq h]; simp
  · rename_i c a b ho
    rw [ho]
    split at h
    · rename_i t ht
      have h := nf_eq h
      subst h
      cases t <;> simp [go_sem, ht]
    · cases h
  · rename_i x ho
    rw [ho]
    split at h
    · rename_i t ht
      simp only [Option.some.injEq] at h
      subst h
      simp [go_sem, ht]
    · cases h
  · rename_i x i ho
    rw [ho]
    split at h
    · rename_i vs ht
      obtain ⟨u, h1, h2⟩ := Option.bind_eq_some_iff.1 h
      have h2 := nf_eq h2
      subst h2
      rw [Array.getElem?_toList] at h1
      simp [go_sem, ht, h1]
    · cases h
  · rename_i s d x ho
    rw [ho]
    split at h
    · rename_i s0 h1 h2 h3
      simp only [Option.some.injEq] at h
      subst h
      have a1 : P.underlying s = some .string := hty _ _ h1
      have a2 : P.underlying d = some .string := hty _ _ h2
      simp [convert, go_sem, run_underlying a1, run_underlying a2, h3]
    · cases h
  · rename_i c ho
    rw [ho]
    split at h
    · rename_i hc
      split at h
      · rename_i x t hx ht
        have hx' : c.args = #[x] := by rw [← Array.toList_inj]; exact hx
        have ht' : c.argTypes = #[t] := by rw [← Array.toList_inj]; exact ht
        split at h
        · rename_i s h1 hs
          simp only [Option.some.injEq] at h
          subst h
          have a1 : P.underlying t = some .string := hty _ _ h1
          simp [go_sem, resolve, invoke, builtin, Builtin.len_, hc, hx', ht', hs, run_underlying a1, goInt]
        · rename_i e sz a l cp h1 hs
          simp only [Option.some.injEq] at h
          subst h
          have a1 : P.underlying t = some (.slice e) := (hty _ _ h1).1
          simp [go_sem, resolve, invoke, builtin, Builtin.len_, hc, hx', ht', hs, run_underlying a1, goInt]
        · cases h
      · cases h
    · rename_i hc
      split at h
      · rename_i x y hx
        have hx' : c.args = #[x, y] := by rw [← Array.toList_inj]; exact hx
        split at h
        · rename_i a b h1 h2
          simp only [Option.some.injEq] at h
          subst h
          simp [go_sem, resolve, invoke, builtin, Builtin.min_, Builtin.min2, hc, hx', h1, h2]
        · cases h
      · cases h
    · cases h
  · rename_i x y t ho
    rw [ho]
    split at h
    · rename_i a b h1 h2
      simp only [Option.some.injEq] at h
      subst h
      simp [go_sem, eqGuard, binOp, Op.intBits, h1, h2, Go.bits]
    · cases h
  · rename_i x y t ho
    rw [ho]
    split at h
    · rename_i k a k2 b h1 h2
      by_cases hb : 0 ≤ b
      · simp only [hb, decide_true, cond_true, Option.some.injEq] at h
        subst h
        simp [go_sem, eqGuard, binOp, Op.shift, h1, h2, hb]
      · simp [hb] at h
    · cases h
  · cases h
theorem evA_run (hty : Tys P ty) {k : IntKind} {a : Int} (h : evA ty n f o.op = some (k, a)) : (execOp (X n f) o).run P w = .ok (.value (.int k (k.wrap a))) w := by
  unfold evA at h
  unfold execOp
  split at h
  · rename_i t x y t2 ho
    rw [ho]
    split at h
    · rename_i k1 a1 k2 b1 h1 h2
      by_cases hk : k1 = k2
      · subst hk
        simp only [decide_true, cond_true, Option.some.injEq, Prod.mk.injEq] at h
        obtain ⟨rfl, rfl⟩ := h
        simp [go_sem, eqGuard, binOp, Op.intArith, h1, h2]
      · simp [hk] at h
    · cases h
  · rename_i t x y t2 ho
    rw [ho]
    split at h
    · rename_i k1 a1 k2 b1 h1 h2
      by_cases hk : k1 = k2
      · subst hk
        simp only [decide_true, cond_true, Option.some.injEq, Prod.mk.injEq] at h
        obtain ⟨rfl, rfl⟩ := h
        simp [go_sem, eqGuard, binOp, Op.intArith, h1, h2]
      · simp [hk] at h
    · cases h
  · rename_i t x y t2 ho
    rw [ho]
    split at h
    · rename_i k1 a1 k2 b1 h1 h2
      by_cases hk : k1 = k2
      · subst hk
        simp only [decide_true, cond_true, Option.some.injEq, Prod.mk.injEq] at h
        obtain ⟨rfl, rfl⟩ := h
        simp [go_sem, eqGuard, binOp, Op.intArith, h1, h2]
      · simp [hk] at h
    · cases h
  · rename_i s d x ho
    rw [ho]
    split at h
    · rename_i k0 k1 k2 a1 h1 h2 h3
      simp only [Option.some.injEq, Prod.mk.injEq] at h
      obtain ⟨rfl, rfl⟩ := h
      have e1 : P.underlying s = some (.int k0) := hty _ _ h1
      have e2 : P.underlying d = some (.int k1) := hty _ _ h2
      simp [convert, go_sem, run_underlying e1, run_underlying e2, h3, Conv.intToInt]
    · cases h
  · rename_i t x ho
    rw [ho]
    split at h
    · rename_i k1 a1 h1
      simp only [Option.some.injEq, Prod.mk.injEq] at h
      obtain ⟨rfl, rfl⟩ := h
      simp [go_sem, Op.unary, h1]
    · cases h
  · cases h
theorem cmpP_run {op : BinOp} {a b : Int} {p : Prop} (h : cmpP op a b = some p) : ∃ t : Bool, (Op.intCmp op a b).run P w = .ok (.bool t) w ∧ (t = true ↔ p) := by
  unfold cmpP at h
  split at h
  all_goals first
    | (simp only [Option.some.injEq] at h; subst h; exact ⟨_, by simp only [Op.intCmp]; rfl, by simp⟩)
    | cases h
theorem cmpT_run {op : BinOp} {s t : ByteArray} {p : Prop} (h : cmpT op s t = some p) : ∃ b : Bool, (Op.stringOp op s t).run P w = .ok (.bool b) w ∧ (b = true ↔ p) := by
  unfold cmpT at h
  split at h
  all_goals first
    | (simp only [Option.some.injEq] at h; subst h; exact ⟨_, by simp only [Op.stringOp]; rfl, by simp [toList_iff]⟩)
    | cases h
theorem evT_run (hty : Tys P ty) {p : Prop} (h : evT ty n f o.op = some p) : ∃ t : Bool, (execOp (X n f) o).run P w = .ok (.value (.bool t)) w ∧ (t = true ↔ p) := by
  unfold evT at h
  unfold execOp
  split at h
  · rename_i op t x y t2 ho
    rw [ho]
    split at h
    · rename_i k a k2 b h1 h2
      by_cases hk : k = k2
      · subst hk
        simp only [decide_true, cond_true] at h
        obtain ⟨b1, hr, hp⟩ := cmpP_run (P := P) (w := w) h
        refine ⟨b1, ?_, hp⟩
        have hb : binOp op t (.int k a) (.int k b) = Op.intCmp op a b := by
          unfold cmpP at h
          split at h
          all_goals first
            | (simp [binOp]; done)
            | cases h
        rw [← hb] at hr
        simp only [h1, h2]
        generalize binOp op t (.int k a) (.int k b) = e at hr
        simp [go_sem, eqGuard, hr]
      · simp [hk] at h
    · rename_i s1 s2 h1 h2
      obtain ⟨b1, hr, hp⟩ := cmpT_run (P := P) (w := w) h
      refine ⟨b1, ?_, hp⟩
      have hb : binOp op t (.string s1) (.string s2) = Op.stringOp op s1 s2 := by
        unfold cmpT at h
        split at h
        all_goals first
          | (simp [binOp]; done)
          | cases h
      rw [← hb] at hr
      simp only [h1, h2]
      generalize binOp op t (.string s1) (.string s2) = e at hr
      simp [go_sem, eqGuard, hr]
    · rename_i u v h1 h2
      split at h
      · rename_i h3
        simp only [Option.some.injEq] at h
        subst h
        refine ⟨false, ?_, by simp⟩
        simp [go_sem, eqGuard, h1, h2, run_eql_held_nil (P := P) w t _ _ (hty _ _ h3)]
      · rename_i h3
        simp only [Option.some.injEq] at h
        subst h
        refine ⟨true, ?_, by simp⟩
        simp [go_sem, eqGuard, h1, h2, run_neq_held_nil (P := P) w t _ _ (hty _ _ h3)]
      · cases h
    · rename_i h1 h2
      split at h
      · rename_i c h3
        simp only [Option.some.injEq] at h
        subst h
        refine ⟨true, ?_, by simp⟩
        simp [go_sem, eqGuard, h1, h2, run_eql_nil_nil (P := P) w t (hty _ _ h3)]
      · rename_i c h3
        simp only [Option.some.injEq] at h
        subst h
        refine ⟨false, ?_, by simp⟩
        simp [go_sem, eqGuard, h1, h2, run_neq_nil_nil (P := P) w t (hty _ _ h3)]
      · cases h
    · cases h
  · cases h
def callable (P : Program) (g : FuncId) : Bool := match P.funcs[g]? with
  | some fn => fn.body.isSome && !(fn.name == "runtime.NumGoroutine")
  | none => false
theorem evC_run {g : FuncId} {args : List Value} (h : evC n f o.op = some (g, args)) (hg : callable P g = true) : (execOp (X n f) o).run P w = .ok (.enter g args.toArray) w := by
  unfold evC at h
  unfold execOp
  split at h
  · rename_i c ho
    rw [ho]
    split at h
    · rename_i x hc
      split at h
      · rename_i k first captured hx
        cases hf : first.isEmpty with
        | false => simp [hf] at h
        | true =>
          simp only [hf, cond_true, Option.some.injEq, Prod.mk.injEq] at h
          obtain ⟨rfl, rfl⟩ := h
          have hfe : first = #[] := by simpa using hf
          subst hfe
          unfold callable at hg
          split at hg
          · rename_i fn hfn
            simp only [Bool.and_eq_true, Bool.not_eq_true'] at hg
            have hb : fn.body.isNone = false := by
              cases hb : fn.body with
              | none => rw [hb] at hg; simp at hg
              | some _ => rfl
            have harr : c.args.map (X n f) ++ captured = (c.args.toList.map (X n f) ++ captured.toList).toArray := by
              rw [← Array.toList_inj]; simp
            have hb2 : fn.body ≠ none := by intro e; rw [e] at hb; simp at hb
            have hn2 : fn.name ≠ "runtime.NumGoroutine" := by intro e; rw [e] at hg; simp at hg
            simp [go_sem, resolve, hc, hx, Deferred.ofValue, invoke, callFunc, hfn, hb, harr]
            rw [if_neg hn2, if_neg hb2]
          · cases hg
      · cases h
    · cases h
  · cases h
end
end Go.Proofs.YtnimaenhijlcmaaGreatDoor.Q
end
section
namespace Go.Proofs.YtnimaenhijlcmaaGreatDoor.Q
set_option linter.unusedVariables false
set_option linter.unusedSimpArgs false
def inK : IntKind → Int → Prop
  | .i8, x => -128 ≤ x ∧ x ≤ 127
  | .i16, x => -32768 ≤ x ∧ x ≤ 32767
  | .i32, x => -2147483648 ≤ x ∧ x ≤ 2147483647
  | .i64, x => -9223372036854775808 ≤ x ∧ x ≤ 9223372036854775807
  | .u8, x => 0 ≤ x ∧ x ≤ 255
  | .u16, x => 0 ≤ x ∧ x ≤ 65535
  | .u32, x => 0 ≤ x ∧ x ≤ 4294967295
  | .u64, x => 0 ≤ x ∧ x ≤ 18446744073709551615
theorem wrap_in {k : IntKind} {x : Int} (h : inK k x) : k.wrap x = x := by
  cases k <;> simp only [inK] at h <;> simp only [IntKind.wrap, IntKind.signed, IntKind.bits] <;> simp <;> omega
theorem in_i64 {x : Int} (h : -9223372036854775808 ≤ x) (g : x ≤ 9223372036854775807) : inK .i64 x := ⟨h, g⟩
theorem in_u8 {x : Int} (h : 0 ≤ x) (g : x ≤ 255) : inK .u8 x := ⟨h, g⟩
theorem in_u64 {x : Int} (h : 0 ≤ x) (g : x ≤ 18446744073709551615) : inK .u64 x := ⟨h, g⟩
theorem in_i32 {x : Int} (h : -2147483648 ≤ x) (g : x ≤ 2147483647) : inK .i32 x := ⟨h, g⟩
def evI (n : Nat) (f : Fr) (ty : Nat → Option Ty) : Op → Option (ByteArray × Int)
  | .index t x i => match ty t, X n f x, X n f i with
    | some .str, .string s, .int _ j => some (s, j)
    | _, _, _ => none
  | _ => none
def bound (n : Nat) (f : Fr) (d : Int) : Option Operand → Option Int
  | none => some d
  | some x => match X n f x with
    | .int _ j => some j
    | _ => none
def evS (n : Nat) (f : Fr) (ty : Nat → Option Ty) : Op → Option (ByteArray × Int × Int)
  | .slice t x lo hi none => match ty t, X n f x with
    | some .str, .string s => match bound n f 0 lo, bound n f s.size hi with
      | some l, some h => some (s, l, h)
      | _, _ => none
    | _, _ => none
  | _ => none
def evSl (n : Nat) (f : Fr) (ty : Nat → Option Ty) : Op → Option (Option Addr × Nat × Nat × Nat × Int × Int)
  | .slice t x lo hi none => match ty t, X n f x with
    | some (.slc _ sz), .slice a l c => match bound n f 0 lo, bound n f l hi with
      | some p, some q => some (a, l, c, sz, p, q)
      | _, _ => none
    | _, _ => none
  | _ => none
def evIA (n : Nat) (f : Fr) (ty : Nat → Option Ty) : Op → Option (Option Addr × Nat × Nat × Int)
  | .indexAddr t x i => match ty t, X n f x, X n f i with
    | some (.slc _ sz), .slice a l _, .int _ j => some (a, l, sz, j)
    | _, _, _ => none
  | _ => none
def evL (n : Nat) (f : Fr) (ty : Nat → Option Ty) : Op → Option Addr
  | .load t x => match ty t, X n f x with
    | some _, .pointer (some a) => some a
    | _, _ => none
  | _ => none
section
variable {P : Program} {ty : Nat → Option Ty} {n : Nat} {f : Fr} {w : World} {o : Oper}
theorem evI_run (hty : Tys P ty) {s : ByteArray} {j : Int} (h : evI n f ty o.op = some (s, j)) (h0 : 0 ≤ j) (h1 : j < s.size) : (execOp (X n f) o).run P w = .ok (.value (.int .u8 (at_ (bl s) j))) w := by
  unfold evI at h
  split at h
  · rename_i t x i ho
    split at h
    · rename_i s1 k j1 h2 h3 h4
      simp only [Option.some.injEq, Prod.mk.injEq] at h
      obtain ⟨rfl, rfl⟩ := h
      have a1 : P.underlying t = some .string := hty _ _ h2
      obtain ⟨m, rfl⟩ := Int.eq_ofNat_of_zero_le h0
      have hm : m < s1.size := by omega
      have hb : at_ (bl s1) (m : Int) = ((s1[m]'hm).toNat : Int) := by
        unfold at_ bl
        rw [Int.toNat_natCast, List.getD_eq_getElem?_getD, List.getElem?_map]
        have : s1.data.toList[m]? = some (s1[m]'hm) := by
          have hl : m < s1.data.toList.length := by simpa using hm
          rw [List.getElem?_eq_getElem hl]
          rfl
        rw [this]; rfl
      unfold execOp
      rw [ho, hb]
      simp [go_sem, h3, h4, Instr.index, run_underlying a1, hm]
    · cases h
  · cases h
theorem evS_run (hty : Tys P ty) {s : ByteArray} {l h : Int} (he : evS n f ty o.op = some (s, l, h)) (h0 : 0 ≤ l) (h1 : l ≤ h) (h2 : h ≤ s.size) : (execOp (X n f) o).run P w = .ok (.value (.string (s.extract l.toNat h.toNat))) w := by
  unfold evS at he
  split at he
  · rename_i t x lo hi ho
    split at he
    · rename_i s1 h3 h4
      have a1 : P.underlying t = some .string := hty _ _ h3
      unfold execOp
      rw [ho]
      cases lo with
      | none =>
        cases hi with
        | none =>
          simp only [bound, Option.some.injEq, Prod.mk.injEq] at he
          obtain ⟨rfl, rfl, rfl⟩ := he
          simp [go_sem, h4, Instr.sliceAt, Instr.slice, Instr.sliceBounds, Instr.sliceBound, run_underlying a1]
        | some y =>
          simp only [bound] at he
          split at he
          · rename_i p q e1 e2
            split at e2
            · rename_i k j e3
              simp only [Option.some.injEq, Prod.mk.injEq] at he e1 e2
              obtain ⟨rfl, rfl, rfl⟩ := he
              subst e1 e2
              simp [go_sem, h4, e3, Instr.sliceAt, Instr.slice, Instr.sliceBounds, Instr.sliceBound, run_underlying a1, h1, h2]
            · cases e2
          · cases he
      | some z =>
        cases hi with
        | none =>
          simp only [bound] at he
          split at he
          · rename_i p q e1 e2
            split at e1
            · rename_i k j e3
              simp only [Option.some.injEq, Prod.mk.injEq] at he e1 e2
              obtain ⟨rfl, rfl, rfl⟩ := he
              subst e1 e2
              simp [go_sem, h4, e3, Instr.sliceAt, Instr.slice, Instr.sliceBounds, Instr.sliceBound, run_underlying a1, h0, h1]
            · cases e1
          · cases he
        | some y =>
          simp only [bound] at he
          split at he
          · rename_i p q e1 e2
            split at e1
            · rename_i k j e3
              split at e2
              · rename_i k2 j2 e4
                simp only [Option.some.injEq, Prod.mk.injEq] at he e1 e2
                obtain ⟨rfl, rfl, rfl⟩ := he
                subst e1 e2
                have hh : 0 ≤ j2 := by omega
                have hz : j ≤ (j2.toNat : Int) := by omega
                simp [go_sem, h4, e3, e4, Instr.sliceAt, Instr.slice, Instr.sliceBounds, Instr.sliceBound, run_underlying a1, h0, h2, hh, hz]
                intro hx
                exfalso
                omega
              · cases e2
            · cases e1
          · cases he
    · cases he
  · cases he
theorem evIA_run (hty : Tys P ty) {a : Addr} {l sz : Nat} {j : Int} (h : evIA n f ty o.op = some (some a, l, sz, j)) (h0 : 0 ≤ j) (h1 : j < l) : (execOp (X n f) o).run P w = .ok (.value (.pointer (some (a.add (j.toNat * sz))))) w := by
  unfold evIA at h
  split at h
  · rename_i t x i ho
    split at h
    · rename_i e sz1 a1 l1 c1 k j1 h2 h3 h4
      simp only [Option.some.injEq, Prod.mk.injEq] at h
      obtain ⟨rfl, rfl, rfl, rfl⟩ := h
      obtain ⟨b1, i0, b2, b3⟩ : P.underlying t = some (.slice e) ∧ ∃ i, P.info? e = some i ∧ i.size = sz1 := hty _ _ h2
      unfold execOp
      rw [ho]
      simp [go_sem, h3, h4, Instr.indexAt, run_underlying b1, sizeOf, typeInfo, b2, b3, h0, h1]
    · cases h
  · cases h
theorem evL_run (hty : Tys P ty) {a : Addr} {v : Value} (h : evL n f ty o.op = some a) (hc : w.cell? a = some v) : (execOp (X n f) o).run P w = .ok (.value v) w := by
  unfold evL at h
  split at h
  · rename_i t x ho
    split at h
    · rename_i k a1 h2 h3
      simp only [Option.some.injEq] at h
      subst h
      have hk := hty _ _ h2
      unfold execOp
      rw [ho]
      cases k with
      | int k => have e : P.underlying t = some (.int k) := hk; simp [go_sem, h3, Instr.loadAt, loadVar, isAgg, run_underlying e, hc]
      | bool => have e : P.underlying t = some .bool := hk; simp [go_sem, h3, Instr.loadAt, loadVar, isAgg, run_underlying e, hc]
      | str => have e : P.underlying t = some .string := hk; simp [go_sem, h3, Instr.loadAt, loadVar, isAgg, run_underlying e, hc]
      | slc e2 sz => have e : P.underlying t = some (.slice e2) := hk.1; simp [go_sem, h3, Instr.loadAt, loadVar, isAgg, run_underlying e, hc]
      | err => have e : P.underlying t = some (.interface (P.methodsAt t)) := hk; simp [go_sem, h3, Instr.loadAt, loadVar, isAgg, run_underlying e, hc]
    · cases h
  · cases h
end
structure WL (P : Program) (ops : Array Oper) (Q : Exit → Act → World → Prop) (l : List Oper) (a : Act) (w : World) : Prop where mk :: (out : wpList P ops Q l a w)
structure WQ (P : Program) (ops : Array Oper) (C : World → Prop) (K : Act → Prop) (l : List Oper) (a : Act) : Prop where mk :: (out : wpQuiet P ops C K l a)
section
variable {P : Program} {ty : Nat → Option Ty} {n : Nat} {ops : Array Oper} {Q : Exit → Act → World → Prop} {rest : List Oper} {f : Fr} {w : World} {d : Option Nat} {op : Op} {tt : TypeId} {ps : String} {af : Array Edge} {gd : Option (Nat × Bool)}
theorem l_nil (h : Q .normal (act n f) w) : WL P ops Q [] (act n f) w := ⟨h⟩
theorem l_off (hw : want n ops f ⟨d, op, tt, ps, af, gd⟩ = false) (h : WL P ops Q rest (act n (put f d undef)) w) : WL P ops Q (⟨d, op, tt, ps, af, gd⟩ :: rest) (act n f) w := by
  refine ⟨?_⟩
  have h := h.out
  simp only [wpList, want_eq, hw, put_act]
  exact h
theorem l_val {v : Value} (hw : want n ops f ⟨d, op, tt, ps, af, gd⟩ = true) (hv : (execOp (X n f) ⟨d, op, tt, ps, af, gd⟩).run P w = .ok (.value v) w) (h : WL P ops Q rest (act n (put f d v)) w) : WL P ops Q (⟨d, op, tt, ps, af, gd⟩ :: rest) (act n f) w := by
  refine ⟨?_⟩
  have h := h.out
  simp only [wpList, want_eq, hw, if_true]
  left
  unfold Oper.wp
  rw [eval_act, hv]
  simp only [Oper.upon, put_act]
  exact h
theorem l_p (hty : Tys P ty) {v : Value} (hw : want n ops f ⟨d, op, tt, ps, af, gd⟩ = true) (he : evP ty n f op = some v) (h : WL P ops Q rest (act n (put f d v)) w) : WL P ops Q (⟨d, op, tt, ps, af, gd⟩ :: rest) (act n f) w :=
  l_val hw (evP_run (o := ⟨d, op, tt, ps, af, gd⟩) hty he) h
theorem l_a (hty : Tys P ty) {k : IntKind} {x : Int} (hw : want n ops f ⟨d, op, tt, ps, af, gd⟩ = true) (he : evA ty n f op = some (k, x)) (hr : inK k x) (h : WL P ops Q rest (act n (put f d (.int k x))) w) : WL P ops Q (⟨d, op, tt, ps, af, gd⟩ :: rest) (act n f) w :=
  l_val hw ((evA_run (o := ⟨d, op, tt, ps, af, gd⟩) hty he).trans (by rw [wrap_in hr])) h
theorem l_t (hty : Tys P ty) {p : Prop} (hw : want n ops f ⟨d, op, tt, ps, af, gd⟩ = true) (he : evT ty n f op = some p) (h1 : p → WL P ops Q rest (act n (put f d (.bool true))) w) (h2 : ¬ p → WL P ops Q rest (act n (put f d (.bool false))) w) : WL P ops Q (⟨d, op, tt, ps, af, gd⟩ :: rest) (act n f) w := by
  obtain ⟨t, hr, ht⟩ := evT_run (w := w) (o := ⟨d, op, tt, ps, af, gd⟩) hty he
  cases t with
  | true => exact l_val hw hr (h1 (ht.1 rfl))
  | false => exact l_val hw hr (h2 (fun hp => by have := ht.2 hp; cases this))
theorem l_ix (hty : Tys P ty) {s : ByteArray} {j : Int} (hw : want n ops f ⟨d, op, tt, ps, af, gd⟩ = true) (he : evI n f ty op = some (s, j)) (h0 : 0 ≤ j) (h1 : j < s.size) (h : WL P ops Q rest (act n (put f d (.int .u8 (at_ (bl s) j)))) w) : WL P ops Q (⟨d, op, tt, ps, af, gd⟩ :: rest) (act n f) w :=
  l_val hw (evI_run (o := ⟨d, op, tt, ps, af, gd⟩) hty he h0 h1) h
theorem l_sl (hty : Tys P ty) {s : ByteArray} {l r : Int} (hw : want n ops f ⟨d, op, tt, ps, af, gd⟩ = true) (he : evS n f ty op = some (s, l, r)) (h0 : 0 ≤ l) (h1 : l ≤ r) (h2 : r ≤ s.size) (h : WL P ops Q rest (act n (put f d (.string (s.extract l.toNat r.toNat)))) w) : WL P ops Q (⟨d, op, tt, ps, af, gd⟩ :: rest) (act n f) w :=
  l_val hw (evS_run (o := ⟨d, op, tt, ps, af, gd⟩) hty he h0 h1 h2) h
theorem l_ia (hty : Tys P ty) {a : Addr} {l sz : Nat} {j : Int} (hw : want n ops f ⟨d, op, tt, ps, af, gd⟩ = true) (he : evIA n f ty op = some (some a, l, sz, j)) (h0 : 0 ≤ j) (h1 : j < l) (h : WL P ops Q rest (act n (put f d (.pointer (some (a.add (j.toNat * sz)))))) w) : WL P ops Q (⟨d, op, tt, ps, af, gd⟩ :: rest) (act n f) w :=
  l_val hw (evIA_run (o := ⟨d, op, tt, ps, af, gd⟩) hty he h0 h1) h
theorem l_ld (hty : Tys P ty) {a : Addr} {v : Value} (hw : want n ops f ⟨d, op, tt, ps, af, gd⟩ = true) (he : evL n f ty op = some a) (hc : w.cell? a = some v) (h : WL P ops Q rest (act n (put f d v)) w) : WL P ops Q (⟨d, op, tt, ps, af, gd⟩ :: rest) (act n f) w :=
  l_val hw (evL_run (o := ⟨d, op, tt, ps, af, gd⟩) hty he hc) h
theorem is_l {o : Oper} (h : WL P ops Q (o :: rest) (act n f) w) : WL P ops Q (o :: rest) (act n f) w := h
theorem l_call {g : FuncId} {args : List Value} {R : Ending → World → Prop} (hw : want n ops f ⟨d, op, tt, ps, af, gd⟩ = true) (he : evC n f op = some (g, args)) (hg : callable P g = true) (hc : Calls P g args.toArray w R)
    (h : ∀ e w', R e w' → ∃ v, e = .returned v ∧ WL P ops Q rest (act n (put f d v)) w') : WL P ops Q (⟨d, op, tt, ps, af, gd⟩ :: rest) (act n f) w := by
  refine ⟨?_⟩
  simp only [wpList, want_eq, hw, if_true]
  left
  unfold Oper.wp
  rw [eval_act, evC_run (o := ⟨d, op, tt, ps, af, gd⟩) he hg]
  simp only [Oper.upon]
  refine hc.mono fun e w' hR => ?_
  obtain ⟨v, rfl, hk⟩ := h e w' hR
  simp only [put_act]
  exact hk.out
theorem l_callv {g : FuncId} {args : List Value} {v : Value} {J : World → Prop} (hw : want n ops f ⟨d, op, tt, ps, af, gd⟩ = true) (he : evC n f op = some (g, args)) (hg : callable P g = true) (hc : Calls P g args.toArray w fun e w' => e = .returned v ∧ J w')
    (h : ∀ w', J w' → WL P ops Q rest (act n (put f d v)) w') : WL P ops Q (⟨d, op, tt, ps, af, gd⟩ :: rest) (act n f) w :=
  l_call hw he hg hc fun e w' hR => ⟨v, hR.1, h w' hR.2⟩
theorem l_callp {g : FuncId} {args : List Value} {v : Value} (hw : want n ops f ⟨d, op, tt, ps, af, gd⟩ = true) (he : evC n f op = some (g, args)) (hg : callable P g = true) (hc : Calls P g args.toArray w fun e w' => e = .returned v ∧ w' = w)
    (h : WL P ops Q rest (act n (put f d v)) w) : WL P ops Q (⟨d, op, tt, ps, af, gd⟩ :: rest) (act n f) w :=
  l_call hw he hg hc fun e w' hR => ⟨v, hR.1, by rw [hR.2]; exact h⟩
theorem w_reg {id : Nat} {l : List Oper} (h : WL P l.toArray Q l (act n f) w) : (Code.region id l.toArray false).wp P Q (act n f) w := by
  refine wp_region ?_
  have := wpOps_eq_wpList (P := P) (ops := l.toArray) (Q := Q) l 0 (fun j => by simp)
  rw [List.range_eq_range']
  simp only [List.size_toArray]
  rw [this]
  exact h.out
end
section
variable {P : Program} {ty : Nat → Option Ty} {n : Nat} {ops : Array Oper} {C : World → Prop} {K : Act → Prop} {rest : List Oper} {f : Fr} {d : Option Nat} {op : Op} {tt : TypeId} {ps : String} {af : Array Edge} {gd : Option (Nat × Bool)}
theorem q_nil (h : K (act n f)) : WQ P ops C K [] (act n f) := ⟨h⟩
theorem q_off (hw : want n ops f ⟨d, op, tt, ps, af, gd⟩ = false) (h : WQ P ops C K rest (act n (put f d undef))) : WQ P ops C K (⟨d, op, tt, ps, af, gd⟩ :: rest) (act n f) := by
  refine ⟨?_⟩
  have h := h.out
  simp only [wpQuiet, want_eq, hw, put_act]
  exact h
theorem q_val {v : Value} (hw : want n ops f ⟨d, op, tt, ps, af, gd⟩ = true) (hv : ∀ w, C w → (execOp (X n f) ⟨d, op, tt, ps, af, gd⟩).run P w = .ok (.value v) w) (h : WQ P ops C K rest (act n (put f d v))) : WQ P ops C K (⟨d, op, tt, ps, af, gd⟩ :: rest) (act n f) := by
  refine ⟨?_⟩
  have h := h.out
  simp only [wpQuiet, want_eq, hw, if_true]
  refine ⟨v, fun w hC => ?_, by rw [put_act]; exact h⟩
  unfold Oper.quietAt
  rw [eval_act, hv w hC]
  exact ⟨rfl, rfl⟩
theorem q_p (hty : Tys P ty) {v : Value} (hw : want n ops f ⟨d, op, tt, ps, af, gd⟩ = true) (he : evP ty n f op = some v) (h : WQ P ops C K rest (act n (put f d v))) : WQ P ops C K (⟨d, op, tt, ps, af, gd⟩ :: rest) (act n f) :=
  q_val hw (fun _ _ => evP_run (o := ⟨d, op, tt, ps, af, gd⟩) hty he) h
theorem q_a (hty : Tys P ty) {k : IntKind} {x : Int} (hw : want n ops f ⟨d, op, tt, ps, af, gd⟩ = true) (he : evA ty n f op = some (k, x)) (hr : inK k x) (h : WQ P ops C K rest (act n (put f d (.int k x)))) : WQ P ops C K (⟨d, op, tt, ps, af, gd⟩ :: rest) (act n f) :=
  q_val hw (fun _ _ => (evA_run (o := ⟨d, op, tt, ps, af, gd⟩) hty he).trans (by rw [wrap_in hr])) h
theorem q_ix (hty : Tys P ty) {s : ByteArray} {j : Int} (hw : want n ops f ⟨d, op, tt, ps, af, gd⟩ = true) (he : evI n f ty op = some (s, j)) (h0 : 0 ≤ j) (h1 : j < s.size) (h : WQ P ops C K rest (act n (put f d (.int .u8 (at_ (bl s) j))))) : WQ P ops C K (⟨d, op, tt, ps, af, gd⟩ :: rest) (act n f) :=
  q_val hw (fun _ _ => evI_run (o := ⟨d, op, tt, ps, af, gd⟩) hty he h0 h1) h
theorem q_ia (hty : Tys P ty) {a : Addr} {l sz : Nat} {j : Int} (hw : want n ops f ⟨d, op, tt, ps, af, gd⟩ = true) (he : evIA n f ty op = some (some a, l, sz, j)) (h0 : 0 ≤ j) (h1 : j < l) (h : WQ P ops C K rest (act n (put f d (.pointer (some (a.add (j.toNat * sz))))))) : WQ P ops C K (⟨d, op, tt, ps, af, gd⟩ :: rest) (act n f) :=
  q_val hw (fun _ _ => evIA_run (o := ⟨d, op, tt, ps, af, gd⟩) hty he h0 h1) h
theorem q_ld (hty : Tys P ty) {a : Addr} {v : Value} (hw : want n ops f ⟨d, op, tt, ps, af, gd⟩ = true) (he : evL n f ty op = some a) (hc : ∀ w, C w → w.cell? a = some v) (h : WQ P ops C K rest (act n (put f d v))) : WQ P ops C K (⟨d, op, tt, ps, af, gd⟩ :: rest) (act n f) :=
  q_val hw (fun w hC => evL_run (o := ⟨d, op, tt, ps, af, gd⟩) hty he (hc w hC)) h
theorem q_call {g : FuncId} {args : List Value} {v : Value} (hw : want n ops f ⟨d, op, tt, ps, af, gd⟩ = true) (he : evC n f op = some (g, args)) (hg : callable P g = true) (hc : ∀ w, C w → Calls P g args.toArray w fun e w' => e = .returned v ∧ C w')
    (h : WQ P ops C K rest (act n (put f d v))) : WQ P ops C K (⟨d, op, tt, ps, af, gd⟩ :: rest) (act n f) := by
  refine ⟨?_⟩
  have h := h.out
  simp only [wpQuiet, want_eq, hw, if_true]
  refine ⟨v, fun w hC => ?_, by rw [put_act]; exact h⟩
  unfold Oper.quietAt
  rw [eval_act, evC_run (o := ⟨d, op, tt, ps, af, gd⟩) he hg]
  exact ⟨rfl, hc w hC⟩
theorem is_q {o : Oper} (h : WQ P ops C K (o :: rest) (act n f)) : WQ P ops C K (o :: rest) (act n f) := h
theorem w_draw {Q : Exit → Act → World → Prop} {w : World} {id : Nat} {l : List Oper} (hm : P.follows .mixedOrders = true) (hB : Region.lexB .any l.toArray = true) (hC : C w.drew)
    (h : WQ P l.toArray C (fun a' => ∀ w', C w' → Q .normal a' w') l (act n f)) : (Code.region id l.toArray true).wp P Q (act n f) w :=
  wp_region_quiet hm hB hC (by simpa using h.out)
end
section
variable {P : Program} {n : Nat} {Q : Exit → Act → World → Prop} {f : Fr} {w : World}
theorem w_if {c : Operand} {x y : Code} {t : Bool} (hc : X n f c = .bool t) (h : (bif t then x else y).wp P Q (act n f) w) : (Code.cond c x y).wp P Q (act n f) w := by
  refine wp_cond (t := t) (by rw [eval_act]; exact hc) ?_
  cases t <;> exact h
theorem is_if {c : Operand} {x y : Code} (h : (Code.cond c x y).wp P Q (act n f) w) : (Code.cond c x y).wp P Q (act n f) w := h
theorem w_ift {c : Operand} {x y : Code} (hc : X n f c = .bool true) (h : x.wp P Q (act n f) w) : (Code.cond c x y).wp P Q (act n f) w := w_if hc h
theorem w_iff {c : Operand} {x y : Code} (hc : X n f c = .bool false) (h : y.wp P Q (act n f) w) : (Code.cond c x y).wp P Q (act n f) w := w_if hc h
theorem p_tn {next : Act → World → Prop} {a : Act} (h : next a w) : Exit.then next Q .normal a w := h
theorem p_tx {next : Act → World → Prop} {a : Act} {id : Nat} (h : Q (.exit id) a w) : Exit.then next Q (.exit id) a w := h
theorem p_tr {next : Act → World → Prop} {a : Act} (h : Q .ret a w) : Exit.then next Q .ret a w := h
theorem p_bn {a : Act} {id : Nat} (h : Q .normal a w) : Exit.inBlock id Q .normal a w := h
theorem p_br {a : Act} {id : Nat} (h : Q .ret a w) : Exit.inBlock id Q .ret a w := h
theorem x_hit {id : Nat} {a : Act} (h : Q .normal a w) : Exit.inBlock id Q (.exit id) a w := by simpa [Exit.inBlock] using h
theorem x_miss {id id2 : Nat} {a : Act} (hne : Nat.beq id2 id = false) (h : Q (.exit id2) a w) : Exit.inBlock id Q (.exit id2) a w := by
  have : id2 ≠ id := by intro e; subst e; simp at hne
  simpa [Exit.inBlock, this] using h
def over (f : Fr) : List (Nat × Value) → Fr
  | [] => f
  | (k, v) :: l => put (over f l) (some k) v
def Slots (f : Fr) : List (Nat × Value) → Prop
  | [] => True
  | (k, v) :: l => f k = v ∧ Slots f l
theorem over_eq {f : Fr} : ∀ {l : List (Nat × Value)}, Slots f l → over f l = f
  | [], _ => rfl
  | (k, v) :: l, h => by
    obtain ⟨h1, h2⟩ := h
    funext j
    simp only [over, put, over_eq h2]
    by_cases e : j = k
    · subst e; simp [h1]
    · have : Nat.beq j k = false := by rw [Bool.eq_false_iff]; intro h; exact e (Nat.eq_of_beq_eq_true h)
      simp [this]
theorem w_loop {σ : Type} (S : σ → List (Nat × Value)) (J : σ → World → Prop) (μ : σ → Nat) (s0 : σ) {c : Code} (h0 : Slots f (S s0)) (hJ : J s0 w)
    (round : ∀ s f w, J s w → c.wp P (Exit.then (fun a' w' => ∃ s' f', a' = act n f' ∧ Slots f' (S s') ∧ J s' w' ∧ μ s' < μ s) Q) (act n (over f (S s))) w) : (Code.loop c).wp P Q (act n f) w := by
  refine wp_loop_ghost (fun m a w => ∃ s f, a = act n f ∧ Slots f (S s) ∧ J s w ∧ μ s = m) (μ s0) ⟨s0, f, rfl, h0, hJ, rfl⟩ ?_
  rintro m a w ⟨s, f, rfl, g2, g3, g4⟩
  have := round s f w g3
  rw [over_eq g2] at this
  refine wp_mono this ?_
  intro e a' w' hq
  cases e with
  | normal =>
    obtain ⟨s', f', rfl, k2, k3, k4⟩ := hq
    exact ⟨μ s', by omega, s', f', rfl, k2, k3, rfl⟩
  | exit id => exact hq
  | goto l => exact hq
  | ret => exact hq
  | panic ch => exact hq
  | outgrown => exact hq
def ini (l : List Value) : Fr := fun k => l.getD k undef
theorem enter {g : FuncId} {fn : Func} {c : Code} {args : List Value} {R : Ending → World → Prop} (hf : P.funcs[g]? = some fn) (hb : fn.body = some c) (hn : fn.ntmps = n) (hl : Nat.ble args.length n = true)
    (h : c.wp P (bodyPost P fn R) (act n (ini args)) w) : Calls P g args.toArray w R := by
  refine calls_of_wp hf hb ?_
  have e : ({ tmps := args.toArray ++ Array.replicate (fn.ntmps - args.toArray.size) undef, defers := [] } : Act) = act n (ini args) := by
    unfold act
    congr 1
    have hl' : args.length ≤ n := Nat.le_of_ble_eq_true hl
    apply Array.ext
    · simp [arr, hn]; omega
    · intro i h1 h2
      simp only [arr, ini, List.getElem_toArray, List.getElem_map, List.getElem_range]
      by_cases hi : i < args.length
      · rw [Array.getElem_append_left (by simpa using hi)]
        simp [hi]
      · rw [Array.getElem_append_right (by simpa using hi)]
        simp [hi]
  rw [e]
  exact h
theorem end1 {fn : Func} {R : Ending → World → Prop} {t : Tmp} (hr : fn.results = #[.tmp t]) {v : Value} (hv : nf (X n f (.tmp t)) = some v) (h : R (.returned v) w) : bodyPost P fn R .ret (act n f) w :=
  bodyPost_ret (results_tmp hr _ _ _) rfl (by rw [show (act n f).tmps = arr n f from rfl, getD_arr, ← nf_eq hv]; exact h)
theorem end2 {fn : Func} {R : Ending → World → Prop} {t u : Tmp} (hr : fn.results = #[.tmp t, .tmp u]) {v v2 : Value} (hv : nf (X n f (.tmp t)) = some v) (hv2 : nf (X n f (.tmp u)) = some v2) (h : R (.returned (.tuple #[v, v2])) w) : bodyPost P fn R .ret (act n f) w :=
  bodyPost_ret (results_tmp2 hr _ _ _) rfl (by rw [show (act n f).tmps = arr n f from rfl, getD_arr, getD_arr, ← nf_eq hv, ← nf_eq hv2]; exact h)
theorem end3 {fn : Func} {R : Ending → World → Prop} {t u x : Tmp} (hr : fn.results = #[.tmp t, .tmp u, .tmp x]) {v v2 v3 : Value} (hv : nf (X n f (.tmp t)) = some v) (hv2 : nf (X n f (.tmp u)) = some v2) (hv3 : nf (X n f (.tmp x)) = some v3) (h : R (.returned (.tuple #[v, v2, v3])) w) : bodyPost P fn R .ret (act n f) w :=
  bodyPost_ret (results_tmp3 hr _ _ _) rfl (by rw [show (act n f).tmps = arr n f from rfl, getD_arr, getD_arr, getD_arr, ← nf_eq hv, ← nf_eq hv2, ← nf_eq hv3]; exact h)
end
end Go.Proofs.YtnimaenhijlcmaaGreatDoor.Q
end
section
set_option linter.unusedVariables false
set_option linter.unusedSimpArgs false
namespace Go.Proofs.YtnimaenhijlcmaaGreatDoorW.PrintWords
open Go.RowKit
structure Aside0 (p : Prop) : Prop where mk :: (out : p)
structure Drawn0 (w w' : World) : Prop where mk :: (out : ∃ n, w' = w.drewN n)
theorem Drawn0.refl (w : World) : Drawn0 w w := ⟨⟨0, rfl⟩⟩
theorem Drawn0.step {w w' : World} (h : Drawn0 w w') (n : Nat) : Drawn0 w (w'.drewN n) := by
  obtain ⟨m, rfl⟩ := h
  exact ⟨⟨m + n, World.drewN_drewN ..⟩⟩
theorem Drawn0.grown {w w' : World} (h : Drawn0 w w') : Grown w w' := by
  obtain ⟨n, rfl⟩ := h
  induction n with
  | zero => exact Grown.refl _
  | succ n ih => rw [← World.drew_drewN]; exact Grown.drew ih
theorem Drawn0.below {w w' : World} (h : Drawn0 w w') : Below w.heap.size w w' := by
  obtain ⟨n, rfl⟩ := h
  induction n with
  | zero => exact Below.refl _ _
  | succ n ih => rw [← World.drew_drewN]; exact ih.drew
def rd (xs : List Int) (i : Int) : Int := xs.getD i.toNat 0
def bt (s : ByteArray) (i : Int) : Int := if h : i.toNat < s.size then ((s[i.toNat]'h).toNat : Int) else 0
def nums (k : IntKind) (xs : List Int) : List Value := xs.map fun x => .int k x
theorem nums_length (k : IntKind) (xs : List Int) : (nums k xs).length = xs.length := by simp [nums]
theorem below_alloc {w W : World} (h : Below w.heap.size w W) (o : Obj) : Below w.heap.size w (W.alloc o) := h.alloc h.size o
theorem below_drew {B : Nat} {w W : World} (h : Below B w W) : Below B w W.drew := ⟨h.os, h.tape, h.output, h.size, h.block⟩
theorem pw_below_drewN {B : Nat} {w W : World} (h : Below B w W) (n : Nat) : Below B w (W.drewN n) := ⟨h.os, h.tape, h.output, h.size, h.block⟩
theorem below_then {B : Nat} {w w1 w2 : World} (h : Below B w w1) (hB : B ≤ w1.heap.size) (k : Below w1.heap.size w1 w2) : Below B w w2 :=
  h.trans ⟨k.os, k.tape, k.output, k.size, fun i hi => k.block i (Nat.lt_of_lt_of_le hi hB)⟩
theorem grown_of_below {w w1 : World} (h : Below w.heap.size w w1) (row : Option Nat) : w.grownBy w1 row := ⟨h.os, h.tape, h.output, h.size, fun i hi _ => h.block i hi⟩
theorem pw_cell_below {w w1 : World} (h : Below w.heap.size w w1) {a : Addr} {v : Value} (hc : w.cell? a = some v) : w1.cell? a = some v := (h.cell (World.block_lt_of_cell? w a hc)).trans hc
def ReadsInt (w : World) (k : IntKind) (A : Option Addr) (n : Nat) (xs : List Int) : Prop :=
  xs.length = n ∧ n ≤ 9223372036854775807 ∧ (0 < n → ∃ ad, A = some ad ∧ ∀ j, j < n → w.cell? (ad.add j) = some (.int k (xs.getD j 0)))
theorem ReadsInt.at_ {w : World} {k : IntKind} {A : Option Addr} {n : Nat} {xs : List Int} (h : ReadsInt w k A n xs) (i : Int) (h0 : 0 ≤ i) (h1 : i < n) : ∃ ad, A = some ad ∧ w.cell? (ad.add i.toNat) = some (.int k (rd xs i)) := by
  obtain ⟨ad, e, hc⟩ := h.2.2 (by omega)
  exact ⟨ad, e, hc _ (by omega)⟩
theorem ReadsInt.below {w w1 : World} {k : IntKind} {A : Option Addr} {n : Nat} {xs : List Int} (h : ReadsInt w k A n xs) (hb : Below w.heap.size w w1) : ReadsInt w1 k A n xs :=
  ⟨h.1, h.2.1, fun hn => by
    obtain ⟨ad, e, hc⟩ := h.2.2 hn
    exact ⟨ad, e, fun j hj => pw_cell_below hb (hc j hj)⟩⟩
theorem own_nil (W : World) (base : Nat) (e : TypeId) (size : Nat) : W.ownsRow base e size (.slice none 0 0) 0 [] := ⟨by simp, .inl ⟨rfl, rfl⟩⟩
theorem own_base {w : World} {base : Nat} {e : TypeId} {size n : Nat} {v : Value} {xs : List Value} (h : w.ownsRow base e size v n xs) (k : Nat) (hk : v.ownBlock = some k) : base ≤ k := by
  rcases h.2 with ⟨rfl, _⟩ | ⟨g, cap, cur, rfl, hb, _⟩
  · simp [Value.ownBlock] at hk
  · have : g = k := by simpa [Value.ownBlock] using hk
    omega
theorem own_lt {w : World} {base : Nat} {e : TypeId} {size n : Nat} {v : Value} {xs : List Value} (h : w.ownsRow base e size v n xs) (k : Nat) (hk : v.ownBlock = some k) : k < w.heap.size := by
  rcases h.2 with ⟨rfl, _⟩ | ⟨g, cap, cur, rfl, hb, hh, _⟩
  · simp [Value.ownBlock] at hk
  · have : g = k := by simpa [Value.ownBlock] using hk
    subst this
    exact (Array.getElem?_eq_some_iff.1 hh).1
theorem pw_own_below {w w1 : World} {base : Nat} {e : TypeId} {size n : Nat} {v : Value} {xs : List Value} (h : w.ownsRow base e size v n xs) (hb : Below w.heap.size w w1) : w1.ownsRow base e size v n xs :=
  h.kept (grown_of_below hb none) (by cases v.ownBlock <;> simp)
theorem own_other {w w1 : World} {base : Nat} {e : TypeId} {size n : Nat} {v : Value} {xs : List Value} (h : w.ownsRow base e size v n xs) {row : Option Nat} (hg : w.grownBy w1 row) (hne : v.ownBlock = none ∨ v.ownBlock ≠ row) : w1.ownsRow base e size v n xs := h.kept hg hne
theorem own_slice {w : World} {base n : Nat} {e : TypeId} {size : Nat} {v : Value} {xs : List Value} (h : w.ownsRow base e size v n xs) : ∃ A c, v = .slice A n c := by
  rcases h.2 with ⟨rfl, rfl⟩ | ⟨g, cap, cur, rfl, _⟩
  · exact ⟨none, 0, rfl⟩
  · exact ⟨_, cap, rfl⟩
section
variable {P : Program} {ops : Array Oper} {rest : List Oper} {o : Oper} {a : Act} {Q : Exit → Act → World → Prop}
end
section
variable {P : Program}
end
section
variable {P : Program} {ops : Array Oper} {rest : List Oper} {o : Oper} {a : Act} {Q : Exit → Act → World → Prop}
end
theorem data_length (s : ByteArray) : s.data.toList.length = s.size := by rw [Array.length_toList]; rfl
theorem ReadsInt.take_ {w : World} {k : IntKind} {A : Option Addr} {n : Nat} {xs : List Int} (h : ReadsInt w k A n xs) (i : Nat) (hi : i ≤ n) : ReadsInt w k A i (xs.take i) := by
  refine ⟨by rw [List.length_take, h.1]; omega, by have := h.2.1; omega, fun hp => ?_⟩
  obtain ⟨ad, e, hc⟩ := h.2.2 (by omega)
  refine ⟨ad, e, fun j hj => ?_⟩
  rw [hc j (by omega)]
  simp [List.getD_eq_getElem?_getD, hj]
def LeO {α : Type} (a b : Option α) : Prop := ∀ r, a = some r → b = some r
theorem LeO.refl {α : Type} (a : Option α) : LeO a a := fun _ h => h
theorem LeO.none {α : Type} (b : Option α) : LeO Option.none b := fun _ h => by cases h
theorem LeO.trans {α : Type} {a b c : Option α} (h : LeO a b) (k : LeO b c) : LeO a c := fun r hr => k r (h r hr)
theorem LeO.bind {α β : Type} {a a' : Option α} {f f' : α → Option β} (h : LeO a a') (k : ∀ x, LeO (f x) (f' x)) : LeO (a.bind f) (a'.bind f') := by
  intro r hr
  obtain ⟨x, hx, hf⟩ := Option.bind_eq_some_iff.1 hr
  exact Option.bind_eq_some_iff.2 ⟨x, h x hx, k x r hf⟩
theorem LeO.map {α β : Type} {a a' : Option α} (f : α → β) (h : LeO a a') : LeO (a.map f) (a'.map f) := by
  intro r hr
  obtain ⟨x, hx, hf⟩ := Option.map_eq_some_iff.1 hr
  exact Option.map_eq_some_iff.2 ⟨x, h x hx, hf⟩
theorem more_rounds {α : Type} {g : Nat → Option α} (h : ∀ k, LeO (g k) (g (k + 1))) (k : Nat) : ∀ j, LeO (g k) (g (k + j))
  | 0 => LeO.refl _
  | j + 1 => (more_rounds h k j).trans (h (k + j))
theorem at_rounds {α : Type} {g : Nat → Option α} (h : ∀ k, LeO (g k) (g (k + 1))) {k k' : Nat} (hk : k ≤ k') {r : α} (hr : g k = some r) : g k' = some r := by
  have := more_rounds h k (k' - k) r hr
  rwa [Nat.add_sub_cancel' hk] at this
def Reps {α : Type} (R : α → List Value → Prop) (size : Nat) (ps : List α) (cs : List Value) : Prop :=
  cs.length = ps.length * size ∧ ∀ j p, ps[j]? = some p → R p ((cs.drop (j * size)).take size)
theorem Reps.none {α : Type} (R : α → List Value → Prop) (size : Nat) : Reps R size [] [] := ⟨by simp, fun j p h => by simp at h⟩
theorem Reps.snoc {α : Type} {R : α → List Value → Prop} {size : Nat} {ps : List α} {cs c : List Value} {p : α} (h : Reps R size ps cs) (hp : R p c) (hc : c.length = size) : Reps R size (ps ++ [p]) (cs ++ c) := by
  refine ⟨by rw [List.length_append, h.1, hc, List.length_append, List.length_singleton, Nat.add_mul, Nat.one_mul], fun j q hq => ?_⟩
  rcases Nat.lt_or_ge j ps.length with hj | hj
  · rw [List.getElem?_append_left hj] at hq
    have h1 : j * size + size ≤ cs.length := by rw [h.1, ← Nat.succ_mul]; exact Nat.mul_le_mul_right _ hj
    have h2 := h.2 j q hq
    rw [List.drop_append_of_le_length (by omega), List.take_append_of_le_length (by rw [List.length_drop]; omega)]
    exact h2
  · have hj' : j = ps.length := by
      have := (List.getElem?_eq_some_iff.1 hq).1
      rw [List.length_append, List.length_singleton] at this
      omega
    subst hj'
    have hq' : p = q := by simpa using hq
    subst hq'
    rw [← h.1, List.drop_left, ← hc, List.take_length]
    exact hp
theorem Reps.imp_ {α : Type} {R R' : α → List Value → Prop} {size : Nat} {ps : List α} {cs : List Value} (h : Reps R size ps cs) (hR : ∀ p c, R p c → R' p c) : Reps R' size ps cs := ⟨h.1, fun j p hj => hR _ _ (h.2 j p hj)⟩
def ReadsRow {α : Type} (R : α → List Value → Prop) (size : Nat) (w : World) (A : Option Addr) (n : Nat) (ps : List α) : Prop :=
  ps.length = n ∧ n ≤ 9223372036854775807 ∧ (0 < n → ∃ ad, A = some ad ∧ ∀ j p, ps[j]? = some p → ∃ c, c.length = size ∧ R p c ∧ ∀ i u, c[i]? = some u → w.cell? (ad.add (j * size + i)) = some u)
theorem ReadsRow.imp_ {α : Type} {R R' : α → List Value → Prop} {size : Nat} {w w1 : World} {A : Option Addr} {n : Nat} {ps : List α} (h : ReadsRow R size w A n ps) (hb : Below w.heap.size w w1) (hR : ∀ p c, R p c → R' p c) : ReadsRow R' size w1 A n ps :=
  ⟨h.1, h.2.1, fun hn => by
    obtain ⟨ad, e, hc⟩ := h.2.2 hn
    refine ⟨ad, e, fun j p hj => ?_⟩
    obtain ⟨c, hs, hr, hcell⟩ := hc j p hj
    exact ⟨c, hs, hR _ _ hr, fun i u hu => pw_cell_below hb (hcell i u hu)⟩⟩
theorem own_reads_row {α : Type} {R : α → List Value → Prop} {w : World} {base n size : Nat} {e : TypeId} {v : Value} {ps : List α} {cs : List Value} (h : w.ownsRow base e size v n cs) (hR : Reps R size ps cs) (hn : ps.length = n) :
    ∃ A c, v = .slice A n c ∧ ReadsRow R size w A n ps := by
  rcases Nat.eq_zero_or_pos n with h0 | h0
  · rcases h.2 with ⟨rfl, rfl⟩ | ⟨g, cap, cur, rfl, _⟩
    · exact ⟨none, 0, rfl, hn, by omega, fun hp => absurd hp (by omega)⟩
    · exact ⟨_, cap, rfl, hn, by omega, fun hp => absurd hp (by omega)⟩
  · obtain ⟨g, cap, rfl, _, _⟩ := h.form h0
    have hm : n ≤ 9223372036854775807 := by
      rcases h.2 with ⟨_, h1⟩ | ⟨g', cap', cur, he, _, _, h1, h2, _⟩
      · omega
      · simp only [maxLen] at h2
        omega
    refine ⟨_, cap, rfl, hn, hm, fun _ => ⟨_, rfl, fun j p hj => ⟨(cs.drop (j * size)).take size, ?_, hR.2 j p hj, fun i u hu => ?_⟩⟩⟩
    · have hjl := (List.getElem?_eq_some_iff.1 hj).1
      have h1 : j * size + size ≤ cs.length := by rw [hR.1, ← Nat.succ_mul]; exact Nat.mul_le_mul_right _ hjl
      rw [List.length_take, List.length_drop]
      omega
    · refine h.cells (g := g) rfl _ u ?_
      rw [List.getElem?_take] at hu
      split at hu
      · rw [List.getElem?_drop] at hu
        exact hu
      · cases hu
section
variable {P : Program} {ops : Array Oper} {rest : List Oper} {o : Oper} {a : Act} {Q : Exit → Act → World → Prop}
theorem print_append_cells {w0 W : World} (base : Nat) (hgd : o.guard = none) (s x : Operand) (t e : TypeId) (z : Value) (size bytes : Nat)
    (ho : o.op = .call { callee := .builtin .append, args := #[s, x], argTypes := #[t, t] })
    (ht : P.underlying t = some (.slice e)) (hinfo : (P.info? e).map (fun i => (i.zero, i.size, i.bytes)) = some (some z, size, bytes)) (hz : z.cells.size = size) (hs0 : 0 < size) (hb0 : 0 < bytes)
    (v : Value) (n : Nat) (xs ys : List Value) (hs : a.eval s = v) (hx : a.eval x = .slice (some ⟨W.heap.size, 0, none⟩) 1 1) (hys : ys.length = size) (h1 : ∀ u ∈ ys, u.oneCell' = true)
    (HO : W.ownsRow base e size v n xs) (HB : Below base w0 W) (hbase : base ≤ W.heap.size) (hl : (n + 1) * bytes ≤ 140737488355328)
    (h : ∀ v1 w1, w1.ownsRow base e size v1 (n + 1) (xs ++ ys) → Below base w0 w1 → W.grownBy w1 v.ownBlock → (v1.ownBlock = v.ownBlock ∨ ∃ b, v1.ownBlock = some b ∧ W.heap.size ≤ b) → wpList P ops Q rest (a.put o.dst v1) w1) :
    wpList P ops Q (o :: rest) a (W.alloc (.cells ys.toArray e)) := by
  obtain ⟨i0, hi, hzz⟩ := Option.map_eq_some_iff.1 hinfo
  simp only [Prod.mk.injEq] at hzz
  obtain ⟨hz0, hz1, hz2⟩ := hzz
  have hlen : n + 1 ≤ 140737488355328 := Nat.le_trans (Nat.le_mul_of_pos_right _ hb0) hl
  refine wpList_append_own_at (W.alloc (.cells ys.toArray e)) hgd s x t ho base e i0 z size bytes ht hi hz0 hz1 hz2 hz hs0 v n xs hs (HO.alloc _) ⟨W.heap.size, 0, none⟩ 1 1 ys hx (by rw [hys]; simp)
    (by simpa using World.news_of_block (cs := ys.toArray) (t := e) (fr := (0, 0)) (heap_alloc_new W (.cells ys.toArray e))) h1 (by simp only [maxLen]; omega) hl (by simp; omega) ?_
  intro v1 w1 hown hg _ hat
  refine h v1 w1 hown ((HB.alloc hbase _).grown hg (by simp; omega) (own_base HO)) (World.grownBy.trans (World.grownBy_alloc W _ _) hg) ?_
  rcases hat with hat | hat
  · exact .inl hat
  · exact .inr ⟨_, hat, by simp⟩
end
theorem own_ne {w : World} {base : Nat} {e t : TypeId} {size n g : Nat} {v : Value} {xs : List Value} {cs : Array Value} (h : w.ownsRow base e size v n xs) (hg : w.heap[g]? = some (.cells cs t (0, 0))) (hne : e ≠ t) : some g ≠ v.ownBlock := by
  rcases h.2 with ⟨rfl, _⟩ | ⟨g', cap, cur, rfl, _, hh, _⟩
  · simp [Value.ownBlock]
  · intro he
    have : g = g' := by simpa [Value.ownBlock] using he
    subst this
    rw [hg] at hh
    injection hh with hh
    injection hh with _ ht
    exact hne ht.symm
theorem blk_set {w : World} {g : Nat} {t : TypeId} {cs : Array Value} (h : w.heap[g]? = some (.cells cs t (0, 0))) (i : Nat) (u : Value) : (w.setCell ⟨g, i, none⟩ u).heap[g]? = some (.cells (cs.setIfInBounds i u) t (0, 0)) := by
  simp [World.setCell, Array.getElem?_modify, h]
theorem blk_lt {w : World} {g : Nat} {o : Obj} (h : w.heap[g]? = some o) : g < w.heap.size := (Array.getElem?_eq_some_iff.1 h).1
theorem blk_cell {w : World} {g : Nat} {t : TypeId} {cs : Array Value} (h : w.heap[g]? = some (.cells cs t (0, 0))) (i : Nat) : w.cell? ⟨g, i, none⟩ = cs[i]? := cell_of_row w g i cs t (0, 0) h
theorem blk_frozen {w : World} {g : Nat} {t : TypeId} {cs : Array Value} (h : w.heap[g]? = some (.cells cs t (0, 0))) (i : Nat) : w.frozen? ⟨g, i, none⟩ = false := by simp [World.frozen?, h]
theorem blk_grown {w w1 : World} {g : Nat} {o : Obj} {row : Option Nat} (h : w.heap[g]? = some o) (hg : w.grownBy w1 row) (hne : some g ≠ row) : w1.heap[g]? = some o := (hg.block g (blk_lt h) hne).trans h
def KeepBut (w w' : World) (g : Nat) (row : Option Nat) : Prop := w.heap.size ≤ w'.heap.size ∧ ∀ i, i < w.heap.size → i ≠ g → some i ≠ row → w'.heap[i]? = w.heap[i]?
theorem KeepBut.refl (w : World) (g : Nat) (row : Option Nat) : KeepBut w w g row := ⟨Nat.le_refl _, fun _ _ _ _ => rfl⟩
theorem KeepBut.trans {w w1 w2 : World} {g : Nat} {row row1 : Option Nat} (h : KeepBut w w1 g row) (k : KeepBut w1 w2 g row1) (hr : row1 = row ∨ ∃ b, row1 = some b ∧ w.heap.size ≤ b) : KeepBut w w2 g row :=
  ⟨Nat.le_trans h.1 k.1, fun i hi hg hn => by
    refine (k.2 i (Nat.lt_of_lt_of_le hi h.1) hg ?_).trans (h.2 i hi hg hn)
    rcases hr with rfl | ⟨b, rfl, hb⟩
    · exact hn
    · intro e
      injection e with e
      omega⟩
theorem KeepBut.blk {w w1 : World} {g g' : Nat} {row : Option Nat} {o : Obj} (h : KeepBut w w1 g row) (hb : w.heap[g']? = some o) (hg : g' ≠ g) (hr : some g' ≠ row) : w1.heap[g']? = some o := (h.2 g' (blk_lt hb) hg hr).trans hb
theorem KeepBut.own {w w1 : World} {g : Nat} {row : Option Nat} {base : Nat} {e : TypeId} {size n : Nat} {v : Value} {xs : List Value} (h : KeepBut w w1 g row) (ho : w.ownsRow base e size v n xs) (hg : v.ownBlock ≠ some g) (hr : v.ownBlock = none ∨ v.ownBlock ≠ row) : w1.ownsRow base e size v n xs := by
  obtain ⟨h1, h2⟩ := ho
  refine ⟨h1, ?_⟩
  rcases h2 with h2 | ⟨b, cap, cur, rfl, hb, hh, r⟩
  · exact .inl h2
  · refine .inr ⟨b, cap, cur, rfl, hb, h.blk hh ?_ ?_, r⟩
    · intro e
      exact hg (by rw [← e]; rfl)
    · rcases hr with hr | hr
      · simp [Value.ownBlock] at hr
      · exact hr
def Ev {α : Type} (g : Nat → Option α) (r : α) : Prop := ∃ K, ∀ k, K ≤ k → g k = some r
theorem Ev.of {α : Type} {g : Nat → Option α} {r : α} (hg : ∀ k, LeO (g k) (g (k + 1))) {k : Nat} (h : g k = some r) : Ev g r := ⟨k, fun _ hk => at_rounds hg hk h⟩
theorem Ev.now {α : Type} (r : α) : Ev (fun _ => some r) r := ⟨0, fun _ _ => rfl⟩
theorem Ev.bind {α β : Type} {g : Nat → Option α} {f : Nat → α → Option β} {a : α} {r : β} (h : Ev g a) (k : Ev (fun n => f n a) r) : Ev (fun n => (g n).bind (f n)) r := by
  obtain ⟨K, h⟩ := h
  obtain ⟨K', k⟩ := k
  refine ⟨max K K', fun n hn => ?_⟩
  have h1 := h n (by omega)
  have h2 := k n (by omega)
  simp only [h1, Option.bind_some]
  exact h2
theorem Ev.step {α : Type} {g f : Nat → Option α} {r : α} (h : ∀ k, g (k + 1) = f k) (k : Ev f r) : Ev g r := by
  obtain ⟨K, k⟩ := k
  refine ⟨K + 1, fun n hn => ?_⟩
  obtain ⟨m, rfl⟩ : ∃ m, n = m + 1 := ⟨n - 1, by omega⟩
  rw [h]
  exact k m (by omega)
theorem Ev.congr {α : Type} {g f : Nat → Option α} {r : α} (h : ∀ k, g k = f k) (k : Ev f r) : Ev g r := by
  obtain ⟨K, k⟩ := k
  exact ⟨K, fun n hn => (h n).trans (k n hn)⟩
section
variable {P : Program} {ops : Array Oper} {o : Oper} {a : Act} {Q : Exit → Act → World → Prop} {K : Act → World → Prop}
end
theorem own_weaken {w : World} {base base' : Nat} {e : TypeId} {size n : Nat} {v : Value} {xs : List Value} (h : w.ownsRow base e size v n xs) (hb : base' ≤ base) : w.ownsRow base' e size v n xs := by
  obtain ⟨h1, h2⟩ := h
  refine ⟨h1, ?_⟩
  rcases h2 with h2 | ⟨g, cap, cur, rfl, hg, r⟩
  · exact .inl h2
  · exact .inr ⟨g, cap, cur, rfl, Nat.le_trans hb hg, r⟩
section
variable {α : Type} {enc : α → Value} {d : α}
def encs (enc : α → Value) (xs : List α) : List Value := xs.map enc
def rdOf (d : α) (xs : List α) (i : Int) : α := xs.getD i.toNat d
theorem encs_get (xs : List α) (j : Nat) (h : j < xs.length) : (encs enc xs)[j]? = some (enc (xs.getD j d)) := by
  simp [encs, List.getElem?_eq_getElem h, List.getD_eq_getElem?_getD]
def ReadsOf (enc : α → Value) (d : α) (w : World) (A : Option Addr) (n : Nat) (xs : List α) : Prop :=
  xs.length = n ∧ n ≤ 9223372036854775807 ∧ (0 < n → ∃ ad, A = some ad ∧ ∀ j, j < n → w.cell? (ad.add j) = some (enc (xs.getD j d)))
theorem ReadsOf.at_ {w : World} {A : Option Addr} {n : Nat} {xs : List α} (h : ReadsOf enc d w A n xs) (i : Int) (h0 : 0 ≤ i) (h1 : i < n) : ∃ ad, A = some ad ∧ w.cell? (ad.add i.toNat) = some (enc (rdOf d xs i)) := by
  obtain ⟨ad, e, hc⟩ := h.2.2 (by omega)
  exact ⟨ad, e, hc _ (by omega)⟩
theorem ReadsOf.below {w w1 : World} {A : Option Addr} {n : Nat} {xs : List α} (h : ReadsOf enc d w A n xs) (hb : Below w.heap.size w w1) : ReadsOf enc d w1 A n xs :=
  ⟨h.1, h.2.1, fun hn => by
    obtain ⟨ad, e, hc⟩ := h.2.2 hn
    exact ⟨ad, e, fun j hj => pw_cell_below hb (hc j hj)⟩⟩
theorem ReadsOf.take_ {w : World} {A : Option Addr} {n : Nat} {xs : List α} (h : ReadsOf enc d w A n xs) (i : Nat) (hi : i ≤ n) : ReadsOf enc d w A i (xs.take i) := by
  refine ⟨by rw [List.length_take, h.1]; omega, by have := h.2.1; omega, fun hp => ?_⟩
  obtain ⟨ad, e, hc⟩ := h.2.2 (by omega)
  refine ⟨ad, e, fun j hj => ?_⟩
  rw [hc j (by omega)]
  simp [List.getD_eq_getElem?_getD, hj]
theorem own_reads_of {w : World} {base n : Nat} {e : TypeId} {v : Value} {xs : List α} (h : w.ownsRow base e 1 v n (encs enc xs)) : ∃ A c, v = .slice A n c ∧ ReadsOf enc d w A n xs := by
  have hl : xs.length = n := by have := h.1; simp [encs] at this; exact this
  rcases Nat.eq_zero_or_pos n with h0 | h0
  · rcases h.2 with ⟨rfl, rfl⟩ | ⟨g, cap, cur, rfl, _⟩
    · exact ⟨none, 0, rfl, hl, by omega, fun hp => absurd hp (by omega)⟩
    · exact ⟨_, cap, rfl, hl, by omega, fun hp => absurd hp (by omega)⟩
  · obtain ⟨g, cap, rfl, _, _⟩ := h.form h0
    have hm : n ≤ 9223372036854775807 := by
      rcases h.2 with ⟨_, h1⟩ | ⟨g', cap', cur, he, _, _, h1, h2, _⟩
      · omega
      · simp only [maxLen] at h2
        omega
    exact ⟨_, cap, rfl, hl, hm, fun _ => ⟨_, rfl, fun j hj => h.cells (g := g) rfl j _ (encs_get xs j (by omega))⟩⟩
end
section
variable {α : Type} {P : Program} {ops : Array Oper} {rest : List Oper} {o : Oper} {a : Act} {Q : Exit → Act → World → Prop}
end
theorem blk_below {w w1 : World} {g : Nat} {o : Obj} (h : w.heap[g]? = some o) (hb : Below w.heap.size w w1) : w1.heap[g]? = some o := (hb.block g (blk_lt h)).trans h
theorem blk_new (w : World) (o : Obj) : (w.alloc o).heap[w.heap.size]? = some o := heap_alloc_new w o
section
variable {P : Program}
theorem results_ct {fn : Func} {p u : Tmp} {ty : TypeId} (h : fn.results = #[.cell p ty, .tmp u]) (tmps : Array Value) (w : World) (g : Nat) (t : TypeId) (cs : Array Value) (fr : Nat × Nat) (d : TypeDesc)
    (hp : tmps.getD p undef = .pointer (some ⟨g, 0, none⟩)) (hg : w.heap[g]? = some (.cells cs t fr))
    (hu : P.underlying ty = some d) (hd : (match d with | .struct _ | .array _ _ => true | _ => false) = true) (hi : (P.info? ty).map (·.size) = some cs.size) :
    (results fn tmps).run P w = .ok (.tuple #[.agg cs, tmps.getD u undef]) w := by
  have hp' : tmps[p]?.getD undef = .pointer (some ⟨g, 0, none⟩) := by simpa using hp
  simp [results, h, hp', asAddr, run_loadVar_row w g t ty cs fr d hg hu hd hi]
end
theorem own_le {w : World} {base n m c size : Nat} {e : TypeId} {A : Option Addr} {xs : List Value} (h : w.ownsRow base e size (.slice A m c) n xs) : m ≤ c := by
  rcases h.2 with ⟨he, _⟩ | ⟨g, cap, cur, he, _, _, hnc, _⟩
  · injection he with _ h2 h3
    omega
  · injection he with _ h2 h3
    omega
theorem own_reads_of_le {α : Type} {enc : α → Value} {d : α} {w : World} {base n : Nat} {e : TypeId} {v : Value} {xs : List α} (h : w.ownsRow base e 1 v n (encs enc xs)) : ∃ A c, v = .slice A n c ∧ n ≤ c ∧ ReadsOf enc d w A n xs := by
  obtain ⟨A, c, rfl, hr⟩ := own_reads_of (d := d) h
  exact ⟨A, c, rfl, own_le h, hr⟩
def OwnRow {α : Type} (R : α → List Value → Prop) (e : TypeId) (size : Nat) (w : World) (base : Nat) (v : Value) (ps : List α) : Prop :=
  ∃ inner, w.ownsRow base e size v ps.length inner ∧ Reps R size ps inner
section
variable {α : Type} {R R' : α → List Value → Prop} {e : TypeId} {size : Nat} {w w1 : World} {base : Nat} {v : Value} {ps : List α}
theorem OwnRow.imp_ (h : OwnRow R e size w base v ps) (hR : ∀ p c, R p c → R' p c) : OwnRow R' e size w base v ps := by
  obtain ⟨inner, ho, hr⟩ := h
  exact ⟨inner, ho, hr.imp_ hR⟩
theorem OwnRow.below (h : OwnRow R e size w base v ps) (hb : Below w.heap.size w w1) : OwnRow R e size w1 base v ps := by
  obtain ⟨inner, ho, hr⟩ := h
  exact ⟨inner, pw_own_below ho hb, hr⟩
theorem OwnRow.other (h : OwnRow R e size w base v ps) {row : Option Nat} (hg : w.grownBy w1 row) (hne : v.ownBlock = none ∨ v.ownBlock ≠ row) : OwnRow R e size w1 base v ps := by
  obtain ⟨inner, ho, hr⟩ := h
  exact ⟨inner, own_other ho hg hne, hr⟩
theorem OwnRow.keep (h : OwnRow R e size w base v ps) {g : Nat} {t : TypeId} {cells : Array Value} (hb : w.heap[g]? = some (.cells cells t (0, 0))) (ht : e ≠ t) (hk : KeepBut w w1 g none) : OwnRow R e size w1 base v ps := by
  obtain ⟨inner, ho, hr⟩ := h
  exact ⟨inner, hk.own ho (Ne.symm (own_ne ho hb ht)) (by cases v.ownBlock <;> simp), hr⟩
theorem OwnRow.lower (h : OwnRow R e size w base v ps) {base' : Nat} (hb : base' ≤ base) : OwnRow R e size w base' v ps := by
  obtain ⟨inner, ho, hr⟩ := h
  exact ⟨inner, own_weaken ho hb, hr⟩
theorem OwnRow.reads (h : OwnRow R e size w base v ps) : ∃ A c, v = .slice A ps.length c ∧ ps.length ≤ c ∧ ReadsRow R size w A ps.length ps := by
  obtain ⟨inner, ho, hr⟩ := h
  obtain ⟨A, c, rfl, hrow⟩ := own_reads_row ho hr rfl
  exact ⟨A, c, rfl, own_le ho, hrow⟩
theorem OwnRow.lit (W : World) (base : Nat) {inner : List Value} (hr : Reps R size ps inner) (hb : base ≤ W.heap.size) (hm : ps.length ≤ 9223372036854775807) :
    OwnRow R e size (W.alloc (.cells inner.toArray e)) base (.slice (some ⟨W.heap.size, 0, none⟩) ps.length ps.length) ps := by
  have h := World.ownsRow_lit (base := base) (e := e) (size := size) W inner.toArray ps.length hb (by simpa [maxLen] using hm) (by simpa using hr.1)
  exact ⟨inner, by simpa using h, hr⟩
end
section
variable {P : Program} {ops : Array Oper} {rest : List Oper} {o : Oper} {a : Act} {Q : Exit → Act → World → Prop} {α : Type} {R : α → List Value → Prop}
theorem OwnRow.append {w0 W : World} (base : Nat) (hgd : o.guard = none) (s x : Operand) (t e : TypeId) (z : Value) (size bytes : Nat)
    (ho : o.op = .call { callee := .builtin .append, args := #[s, x], argTypes := #[t, t] })
    (ht : P.underlying t = some (.slice e)) (hinfo : (P.info? e).map (fun i => (i.zero, i.size, i.bytes)) = some (some z, size, bytes)) (hz : z.cells.size = size) (hs0 : 0 < size) (hb0 : 0 < bytes)
    (v : Value) (ps : List α) (p : α) (cs : List Value) (hs : a.eval s = v) (hx : a.eval x = .slice (some ⟨W.heap.size, 0, none⟩) 1 1) (hp : R p cs) (hcs : cs.length = size) (h1 : ∀ u ∈ cs, u.oneCell' = true)
    (HO : OwnRow R e size W base v ps) (HB : Below base w0 W) (hbase : base ≤ W.heap.size) (hl : (ps.length + 1) * bytes ≤ 140737488355328)
    (h : ∀ v1 w1, OwnRow R e size w1 base v1 (ps ++ [p]) → Below base w0 w1 → W.grownBy w1 v.ownBlock → (v1.ownBlock = v.ownBlock ∨ ∃ b, v1.ownBlock = some b ∧ W.heap.size ≤ b) → wpList P ops Q rest (a.put o.dst v1) w1) :
    wpList P ops Q (o :: rest) a (W.alloc (.cells cs.toArray e)) := by
  obtain ⟨inner, hown, hr⟩ := HO
  refine print_append_cells base hgd s x t e z size bytes ho ht hinfo hz hs0 hb0 v ps.length inner cs hs hx hcs h1 hown HB hbase hl ?_
  intro v1 w1 hown1 hb1 hg1 hat1
  exact h v1 w1 ⟨inner ++ cs, by rw [List.length_append, List.length_singleton]; exact hown1, hr.snoc hp hcs⟩ hb1 hg1 hat1
end
section
variable {P : Program} {ops : Array Oper} {o : Oper} {a : Act} {Q : Exit → Act → World → Prop} {K : Act → World → Prop} {α : Type} {R : α → List Value → Prop}
end
section
variable {α : Type} {P : Program}
theorem ReadsOf.len_ {enc : α → Value} {d : α} {w : World} {A : Option Addr} {n : Nat} {xs : List α} (h : ReadsOf enc d w A n xs) : ReadsOf enc d w A xs.length xs := by rw [h.1]; exact h
theorem readsInt_of {w : World} {k : IntKind} {A : Option Addr} {n : Nat} {xs : List Int} : ReadsInt w k A n xs ↔ ReadsOf (Value.int k) (0 : Int) w A n xs := Iff.rfl
end
section
variable {P : Program} {ops : Array Oper} {rest : List Oper} {o : Oper} {a : Act} {Q : Exit → Act → World → Prop}
end
structure Kd (α : Type) where
  sz : Nat
  E : List Nat
  K : World → α → List Value → Prop
  M : World → Nat → (Nat → Prop) → α → List Value → Prop
  K_len : ∀ {w x cs}, K w x cs → cs.length = sz
  K_one : ∀ {w x cs}, K w x cs → ∀ u ∈ cs, u.oneCell' = true
  K_below : ∀ {w w1 : World} {x cs}, Below w.heap.size w w1 → K w x cs → K w1 x cs
  K_of_M : ∀ {w base ok x cs}, M w base ok x cs → K w x cs
  M_mono : ∀ {w base ok ok' x cs}, (∀ k, ok k → ok' k) → M w base ok x cs → M w base ok' x cs
  M_bound : ∀ {w : World} {base ok x cs}, M w base ok x cs → M w base (fun k => ok k ∧ base ≤ k ∧ k < w.heap.size ∧ ∃ q, q ∈ E ∧ ∃ cells, w.heap[k]? = some (.cells cells q (0, 0))) x cs
  M_move : ∀ {w w1 : World} {base ok x cs}, (∀ k, ok k → w1.heap[k]? = w.heap[k]?) → M w base ok x cs → M w1 base ok x cs
  M_lower : ∀ {w base base' ok x cs}, base' ≤ base → M w base ok x cs → M w base' ok x cs
theorem own_move {w w1 : World} {base : Nat} {e : TypeId} {size n : Nat} {v : Value} {xs : List Value} (h : w.ownsRow base e size v n xs) (hm : ∀ k, v.ownBlock = some k → w1.heap[k]? = w.heap[k]?) : w1.ownsRow base e size v n xs := by
  obtain ⟨h1, h2⟩ := h
  refine ⟨h1, ?_⟩
  rcases h2 with h2 | ⟨g, cap, cur, rfl, hg, hh, r⟩
  · exact .inl h2
  · exact .inr ⟨g, cap, cur, rfl, hg, (hm g (by simp [Value.ownBlock])).trans hh, r⟩
theorem own_typed {w : World} {base : Nat} {e : TypeId} {size n : Nat} {v : Value} {xs : List Value} (h : w.ownsRow base e size v n xs) (k : Nat) (hk : v.ownBlock = some k) : ∃ cells, w.heap[k]? = some (.cells cells e (0, 0)) := by
  rcases h.2 with ⟨rfl, _⟩ | ⟨g, cap, cur, rfl, hg, hh, r⟩
  · simp [Value.ownBlock] at hk
  · have : g = k := by simpa [Value.ownBlock] using hk
    subst this
    exact ⟨cur, hh⟩
namespace Kd
def C {α : Type} (d : Kd α) (w : World) (A : Option Addr) (n : Nat) (xs : List α) : Prop := ReadsRow (d.K w) d.sz w A n xs
def R {α : Type} (d : Kd α) (e : Nat) (w : World) (base : Nat) (ok : Nat → Prop) (v : Value) (xs : List α) : Prop :=
  (∀ k, v.ownBlock = some k → ok k) ∧ OwnRow (d.M w base (fun k => ok k ∧ some k ≠ v.ownBlock)) e d.sz w base v xs
section
variable {α : Type} {d : Kd α} {e : Nat} {w w1 : World} {base : Nat} {ok ok' : Nat → Prop} {v : Value} {xs : List α}
theorem C_below {A : Option Addr} {n : Nat} (h : d.C w A n xs) (hb : Below w.heap.size w w1) : d.C w1 A n xs := ReadsRow.imp_ h hb (fun _ _ hp => d.K_below hb hp)
theorem R_mono (h : d.R e w base ok v xs) (hok : ∀ k, ok k → ok' k) : d.R e w base ok' v xs := ⟨fun k hk => hok k (h.1 k hk), h.2.imp_ (fun _ _ hp => d.M_mono (fun k hk => ⟨hok k hk.1, hk.2⟩) hp)⟩
theorem R_bound (h : d.R e w base ok v xs) : d.R e w base (fun k => ok k ∧ base ≤ k ∧ k < w.heap.size ∧ ∃ q, q ∈ e :: d.E ∧ ∃ cells, w.heap[k]? = some (.cells cells q (0, 0))) v xs := by
  obtain ⟨h0, inner, ho, hr⟩ := h
  refine ⟨fun k hk => ?_, inner, ho, hr.imp_ (fun _ _ hp => d.M_mono (fun k hk => ?_) (d.M_bound hp))⟩
  · obtain ⟨cells, hc⟩ := own_typed ho k hk
    exact ⟨h0 k hk, own_base ho k hk, own_lt ho k hk, e, List.mem_cons_self, cells, hc⟩
  · obtain ⟨⟨h1, h2⟩, h3, h4, q, hq, hc⟩ := hk
    exact ⟨⟨h1, h3, h4, q, List.mem_cons_of_mem _ hq, hc⟩, h2⟩
theorem R_move (h : d.R e w base ok v xs) (hm : ∀ k, ok k → w1.heap[k]? = w.heap[k]?) : d.R e w1 base ok v xs := by
  obtain ⟨h0, inner, ho, hr⟩ := h
  exact ⟨h0, inner, own_move ho (fun k hk => hm k (h0 k hk)), hr.imp_ (fun _ _ hp => d.M_move (fun k hk => hm k hk.1) hp)⟩
theorem R_lower {base' : Nat} (h : d.R e w base ok v xs) (hb : base' ≤ base) : d.R e w base' ok v xs := by
  obtain ⟨h0, inner, ho, hr⟩ := h
  exact ⟨h0, inner, own_weaken ho hb, hr.imp_ (fun _ _ hp => d.M_lower hb hp)⟩
theorem R_reads (h : d.R e w base ok v xs) : ∃ A c, v = .slice A xs.length c ∧ xs.length ≤ c ∧ d.C w A xs.length xs := by
  obtain ⟨A, c, he, hl, hr⟩ := OwnRow.reads h.2
  exact ⟨A, c, he, hl, hr.imp_ (Below.refl _ _) (fun _ _ hp => d.K_of_M hp)⟩
end
def scalar {α : Type} (enc : α → Value) (h1 : ∀ x, (enc x).oneCell' = true) : Kd α where
  sz := 1
  E := []
  K := fun _ x cs => cs = [enc x]
  M := fun _ _ _ x cs => cs = [enc x]
  K_len := fun h => by rw [h]; rfl
  K_one := fun h u hu => by
    rw [h] at hu
    rw [List.mem_singleton.1 hu]
    exact h1 _
  K_below := fun _ h => h
  K_of_M := fun h => h
  M_mono := fun _ h => h
  M_bound := fun h => h
  M_move := fun _ h => h
  M_lower := fun _ h => h
def int (k : IntKind) : Kd Int := scalar (Value.int k) (fun _ => rfl)
def bool : Kd Bool := scalar Value.bool (fun _ => rfl)
def string : Kd ByteArray := scalar Value.string (fun _ => rfl)
def slice {α : Type} (e : Nat) (d : Kd α) : Kd (List α) where
  sz := 1
  E := e :: d.E
  K := fun w xs cs => ∃ A c, cs = [.slice A xs.length c] ∧ xs.length ≤ c ∧ d.C w A xs.length xs
  M := fun w base ok xs cs => ∃ v, cs = [v] ∧ d.R e w base ok v xs
  K_len := by
    rintro w x cs ⟨A, c, rfl, _⟩
    rfl
  K_one := by
    rintro w x cs ⟨A, c, rfl, _⟩ u hu
    rw [List.mem_singleton.1 hu]
    rfl
  K_below := by
    rintro w w1 x cs hb ⟨A, c, rfl, hl, hr⟩
    exact ⟨A, c, rfl, hl, C_below hr hb⟩
  K_of_M := by
    rintro w base ok x cs ⟨v, rfl, h⟩
    obtain ⟨A, c, rfl, hl, hr⟩ := R_reads h
    exact ⟨A, c, rfl, hl, hr⟩
  M_mono := by
    rintro w base ok ok' x cs hok ⟨v, rfl, h⟩
    exact ⟨v, rfl, R_mono h hok⟩
  M_bound := by
    rintro w base ok x cs ⟨v, rfl, h⟩
    exact ⟨v, rfl, R_bound h⟩
  M_move := by
    rintro w w1 base ok x cs hm ⟨v, rfl, h⟩
    exact ⟨v, rfl, R_move h hm⟩
  M_lower := by
    rintro w base base' ok x cs hb ⟨v, rfl, h⟩
    exact ⟨v, rfl, R_lower h hb⟩
def iso {α β : Type} (d : Kd α) (f : β → α) : Kd β where
  sz := d.sz
  E := d.E
  K := fun w x cs => d.K w (f x) cs
  M := fun w base ok x cs => d.M w base ok (f x) cs
  K_len := d.K_len
  K_one := d.K_one
  K_below := d.K_below
  K_of_M := d.K_of_M
  M_mono := d.M_mono
  M_bound := d.M_bound
  M_move := d.M_move
  M_lower := d.M_lower
def bot {α : Type} (sz : Nat) (E : List Nat) : Kd α where
  sz := sz
  E := E
  K := fun _ _ _ => False
  M := fun _ _ _ _ _ => False
  K_len := fun h => h.elim
  K_one := fun h => h.elim
  K_below := fun _ h => h
  K_of_M := fun h => h
  M_mono := fun _ h => h
  M_bound := fun h => h
  M_move := fun _ h => h
  M_lower := fun _ h => h
def upto {α : Type} (F : Kd α → Kd α) (sz : Nat) (E : List Nat) : Nat → Kd α
  | 0 => bot sz E
  | n + 1 => F (upto F sz E n)
section
variable {P : Program} {ops : Array Oper} {rest : List Oper} {o : Oper} {a : Act} {Q : Exit → Act → World → Prop} {α : Type}
end
section
variable {P : Program} {ops : Array Oper} {o : Oper} {a : Act} {Q : Exit → Act → World → Prop} {Kc : Act → World → Prop} {α : Type}
end
end Kd
namespace Kd
structure Mono {α β : Type} (F : Kd α → Kd β) : Prop where
  sz : ∀ d d' : Kd α, d.sz = d'.sz → (F d).sz = (F d').sz
  K : ∀ d d' : Kd α, d.sz = d'.sz → (∀ w x cs, d.K w x cs → d'.K w x cs) → ∀ w x cs, (F d).K w x cs → (F d').K w x cs
  M : ∀ d d' : Kd α, d.sz = d'.sz → (∀ w base ok x cs, d.M w base ok x cs → d'.M w base ok x cs) → ∀ w base ok x cs, (F d).M w base ok x cs → (F d').M w base ok x cs
section
variable {α : Type} {F : Kd α → Kd α} {sz : Nat} {E : List Nat} {hs : ∀ n, (upto F sz E n).sz = sz} {hE : ∀ n q, q ∈ (upto F sz E n).E → q ∈ E}
end
end Kd
namespace Kd
end Kd
namespace Kd
section
variable {α β : Type} {d : Kd α} {d' : Kd β} {e e' : Nat} {w w1 W : World} {base b b' : Nat} {ok ok' okv oku : Nat → Prop} {v u : Value} {xs : List α} {ys : List β}
end
section
variable {w W : World} {A : Option Addr} {n : Nat}
variable {α : Type} {enc : α → Value} {h1 : ∀ x, (enc x).oneCell' = true} {e base g cap : Nat} {ok : Nat → Prop} {xs : List α}
end
section
variable {P : Program} {ops : Array Oper} {rest : List Oper} {o : Oper} {a : Act} {Q : Exit → Act → World → Prop}
variable {α : Type}
end
end Kd
section
variable {P : Program}
end
def QRow (w : World) (base : Nat) (e : TypeId) (size : Nat) (v : Value) (n : Nat) (xs : List Value) : Prop :=
  xs.length = n * size ∧
  ((n = 0 ∧ ∃ A, v = .slice A 0 0 ∧ ∀ a, A = some a → base ≤ a.block ∧ ∃ cur, w.heap[a.block]? = some (.cells cur e (0, 0))) ∨
   ∃ g off cap cur, v = .slice (some ⟨g, off * size, none⟩) n cap ∧ base ≤ g ∧ w.heap[g]? = some (.cells cur e (0, 0)) ∧ n ≤ cap ∧ off + cap ≤ maxLen ∧ cur.size = (off + cap) * size ∧ (cur.toList.drop (off * size)).take (n * size) = xs)
section
variable {w w1 : World} {base n size : Nat} {e : TypeId} {v : Value} {xs : List Value}
end
section
variable {P : Program}
end
namespace Kd
def Q {α : Type} (d : Kd α) (e : Nat) (w : World) (base : Nat) (ok : Nat → Prop) (v : Value) (xs : List α) : Prop :=
  (∀ k, v.ownBlock = some k → ok k) ∧ ∃ inner, QRow w base e d.sz v xs.length inner ∧ Reps (d.M w base (fun k => ok k ∧ some k ≠ v.ownBlock)) d.sz xs inner
section
variable {α : Type} {d : Kd α} {e : Nat} {w w1 W : World} {base : Nat} {ok ok' : Nat → Prop} {v : Value} {xs : List α}
end
section
variable {P : Program} {ops : Array Oper} {rest : List Oper} {o : Oper} {a : Act} {Q' : Exit → Act → World → Prop} {Kc : Act → World → Prop} {α : Type}
end
end Kd
namespace Kd
section
variable {α : Type} {d : Kd α} {e e' : Nat} {w w1 W : World} {base : Nat} {ok : Nat → Prop} {u v : Value} {xs : List α}
end
end Kd
namespace Kd
section
variable {α : Type} {d : Kd α} {e base g n cap : Nat} {ok okp : Nat → Prop} {W : World} {xs : List α}
end
end Kd
namespace Kd
section
variable {α : Type} {F : Kd α → Kd α} {sz : Nat} {E : List Nat} {hs : ∀ n, (upto F sz E n).sz = sz} {hE : ∀ n q, q ∈ (upto F sz E n).E → q ∈ E}
end
end Kd
namespace Kd
section
variable {P : Program} {ops : Array Oper} {rest : List Oper} {o : Oper} {a : Act} {Q : Exit → Act → World → Prop} {α : Type}
end
end Kd
theorem run_store_run {P : Program} {w : World} {g o : Nat} {e : TypeId} {cur : Array Value} (t : TypeId) (u : Value) (seg : List Value) (hh : w.heap[g]? = some (.cells cur e (0, 0))) (hu : u.cells.toList = seg) (ht : (P.info? t).map (·.size) = some seg.length)
    (hfit : o + seg.length ≤ cur.size) (h1 : ∀ q ∈ seg, q.oneCell' = true) : (Instr.storeAt t (.pointer (some ⟨g, o, none⟩)) u).run P w = .ok () (w.setCells g o seg) := by
  obtain ⟨i, hi, hsz⟩ := Option.map_eq_some_iff.1 ht
  have hc : u.cells.size = i.size := by rw [hsz, ← hu, Array.length_toList]
  have hst := run_storeCells_cells (P := P) g o seg 0 w (fun j hj => by rw [cell_of_row w g _ cur e (0, 0) hh]; simp; omega) (fun j _ => blk_frozen hh _) h1
  simp only [Nat.add_zero] at hst
  simp [Instr.storeAt, Instr.sureAddr, storeVar, sizeOf, typeInfo, hi, hc, hu, hst]
namespace Kd
section
variable {P : Program} {ops : Array Oper} {rest : List Oper} {o : Oper} {a : Act} {Q : Exit → Act → World → Prop} {α : Type}
end
end Kd
theorem add_add (a : Addr) (i j : Nat) : (a.add i).add j = a.add (i + j) := by
  unfold Addr.add
  by_cases h1 : i = 0 <;> by_cases h2 : j = 0 <;> simp [h1, h2, Nat.add_assoc]
namespace Kd
section
variable {α : Type} {k : Kd α} {w : World} {A : Option Addr} {xs : List α} {m c : Nat}
end
end Kd
section
variable {P : Program}
end
theorem string_of_reads {P : Program} {w : World} {src dst e : TypeId} {A : Option Addr} {n c : Nat} {xs : List Int} (hs : P.underlying src = some (.slice e)) (he : P.underlying e = some (.int .u8)) (hd : P.underlying dst = some .string)
    (h : ReadsInt w .u8 A n xs) : (convert src dst (.slice A n c)).run P w = .ok (.string (strOfNums xs)) w := by
  have hn : xs.length = n := h.1
  rcases A with _ | ad
  · have h0 : n = 0 := by
      rcases Nat.eq_zero_or_pos n with h0 | h0
      · exact h0
      · obtain ⟨ad, h', _⟩ := h.2.2 h0
        cases h'
    subst h0
    obtain rfl : xs = [] := List.eq_nil_of_length_eq_zero hn
    exact run_convert_bytes_nil w src e hs he 0 c dst hd
  · have hl : (loadCells ad n).run P w = .ok (xs.map (Value.int .u8)).toArray w := by
      have := run_loadCells_list (P := P) w ad (xs.map (Value.int .u8)) (fun j v hj => by
        have hjl : j < xs.length := by
          rcases Nat.lt_or_ge j xs.length with h' | h'
          · exact h'
          · rw [List.getElem?_eq_none (by rw [List.length_map]; exact h')] at hj
            cases hj
        obtain ⟨ad', he', hc⟩ := h.2.2 (by omega)
        injection he' with he'
        subst he'
        rw [hc j (by omega)]
        rw [List.getElem?_map, List.getElem?_eq_getElem hjl] at hj
        simp at hj
        subst hj
        simp [List.getD_eq_getElem?_getD, List.getElem?_eq_getElem hjl])
      simpa [hn] using this
    rw [run_convert_bytes_string w src dst e _ n c hs he hd, run_bytesToString w ad n c xs hl, foldl_push_bytes]
    simp [strOfNums, ByteArray.empty, ByteArray.emptyWithCapacity]
    rfl
theorem ReadsInt.nil (W : World) (k : IntKind) : ReadsInt W k none ([] : List Int).length [] := ⟨rfl, by simp, fun h => absurd h (Nat.lt_irrefl 0)⟩
theorem ReadsInt.drewN {W : World} {k : IntKind} {A : Option Addr} {n : Nat} {xs : List Int} (h : ReadsInt W k A n xs) (m : Nat) : ReadsInt (W.drewN m) k A n xs := h
theorem keep_cell {w W : World} {g : Nat} (h : KeepBut w W g none) {a : Addr} {v : Value} (hc : w.cell? a = some v) (hne : a.block ≠ g) : W.cell? a = some v := by
  have := h.2 a.block (World.block_lt_of_cell? w a hc) hne (by simp)
  simpa [World.cell?, this] using hc
theorem add_block (a : Addr) (i : Nat) : (a.add i).block = a.block := by unfold Addr.add; split <;> rfl
theorem ReadsOf.nil {α : Type} (enc : α → Value) (d : α) (W : World) : ReadsOf enc d W none ([] : List α).length [] := ⟨rfl, by simp, fun h => absurd h (Nat.lt_irrefl 0)⟩
theorem ReadsOf.drewN {α : Type} {enc : α → Value} {d : α} {W : World} {A : Option Addr} {n : Nat} {xs : List α} (h : ReadsOf enc d W A n xs) (m : Nat) : ReadsOf enc d (W.drewN m) A n xs := h
theorem ReadsInt.keep {w W : World} {k : IntKind} {A : Option Addr} {n g : Nat} {xs : List Int} (h : ReadsInt w k A n xs) (hk : KeepBut w W g none) (hf : ∀ ad, A = some ad → 0 < n → ad.block ≠ g) : ReadsInt W k A n xs :=
  ⟨h.1, h.2.1, fun hn => by
    obtain ⟨ad, e, hc⟩ := h.2.2 hn
    exact ⟨ad, e, fun j hj => keep_cell hk (hc j hj) (by rw [add_block]; exact hf ad e hn)⟩⟩
theorem ReadsOf.keep {α : Type} {enc : α → Value} {d : α} {w W : World} {A : Option Addr} {n g : Nat} {xs : List α} (h : ReadsOf enc d w A n xs) (hk : KeepBut w W g none) (hf : ∀ ad, A = some ad → 0 < n → ad.block ≠ g) : ReadsOf enc d W A n xs :=
  ⟨h.1, h.2.1, fun hn => by
    obtain ⟨ad, e, hc⟩ := h.2.2 hn
    exact ⟨ad, e, fun j hj => keep_cell hk (hc j hj) (by rw [add_block]; exact hf ad e hn)⟩⟩
namespace Kd
section
variable {α β : Type} {d : Kd α} {d' : Kd β} {e e' base base' n : Nat} {ok ok' : Nat → Prop} {w W w1 W1 : World} {v u : Value} {xs : List α} {ys : List β} {A : Option Addr} {c : Nat}
end
section
variable {α : Type} {enc : α → Value} {h1 : ∀ x, (enc x).oneCell' = true} {w W : World} {A : Option Addr} {n g : Nat} {xs : List α}
end
end Kd
namespace Kd
section
variable {α : Type} {d : Kd α} {e base g : Nat} {ok : Nat → Prop} {w w1 : World} {v : Value} {xs : List α} {o : Obj}
end
end Kd
section
variable {P : Program} {ops : Array Oper} {rest : List Oper} {o : Oper} {a : Act} {Q : Exit → Act → World → Prop}
end
namespace Kd
section
variable {α : Type} {enc : α → Value} {h1 : ∀ x, (enc x).oneCell' = true} {e base g n cap : Nat} {ok : Nat → Prop} {W : World} {xs : List α}
end
end Kd
section
variable {P : Program} {ops : Array Oper} {rest : List Oper} {o : Oper} {a : Act} {Q : Exit → Act → World → Prop}
end
namespace Kd
section
variable {α : Type} {enc : α → Value} {h1 : ∀ x, (enc x).oneCell' = true} {e base g n cap : Nat} {ok : Nat → Prop} {W : World} {xs : List α}
end
end Kd
section
variable {P : Program} {ops : Array Oper} {rest : List Oper} {o : Oper} {a : Act} {Q : Exit → Act → World → Prop} {W : World}
end
section
variable {P : Program} {ops : Array Oper} {o : Oper} {a : Act} {Q : Exit → Act → World → Prop} {Kc : Act → World → Prop}
namespace Kd
variable {α : Type}
end Kd
end
inductive Vals (P : Program) (tmps : Array Value) (w : World) : List ResultVar → List Value → Prop where
  | nil : Vals P tmps w [] []
  | tmp {u : Tmp} {rs : List ResultVar} {vs : List Value} (h : Vals P tmps w rs vs) : Vals P tmps w (.tmp u :: rs) (tmps.getD u undef :: vs)
  | cell {p : Tmp} {ty : TypeId} {rs : List ResultVar} {vs : List Value} (g : Nat) (t : TypeId) (cs : Array Value) (fr : Nat × Nat) (d : TypeDesc)
      (hp : tmps.getD p undef = .pointer (some ⟨g, 0, none⟩)) (hg : w.heap[g]? = some (.cells cs t fr))
      (hu : P.underlying ty = some d) (hd : (match d with | .struct _ | .array _ _ => true | _ => false) = true) (hi : (P.info? ty).map (·.size) = some cs.size)
      (h : Vals P tmps w rs vs) : Vals P tmps w (.cell p ty :: rs) (.agg cs :: vs)
section
variable {P : Program} {tmps : Array Value} {w : World}
end
namespace Kd
section
variable {P : Program} {α : Type}
end
section
variable {P : Program} {ops : Array Oper} {rest : List Oper} {o : Oper} {a : Act} {Q : Exit → Act → World → Prop} {Kc : Act → World → Prop} {α : Type}
end
end Kd
end Go.Proofs.YtnimaenhijlcmaaGreatDoorW.PrintWords
end
section
namespace Go.Proofs.YtnimaenhijlcmaaGreatDoor.Q
open Go.RowKit Go.Proofs.YtnimaenhijlcmaaGreatDoorW.PrintWords
set_option linter.unusedVariables false
set_option linter.unusedSimpArgs false
def evCat (n : Nat) (f : Fr) : Op → Option (ByteArray × ByteArray)
  | .binOp .add _ x y _ => match X n f x, X n f y with
    | .string s, .string t => some (s, t)
    | _, _ => none
  | _ => none
def evRem (n : Nat) (f : Fr) : Op → Option (IntKind × Int × Int)
  | .binOp .rem _ x y _ => match X n f x, X n f y with
    | .int k a, .int k2 b => bif decide (k = k2) then some (k, a, b) else none
    | _, _ => none
  | _ => none
def evApp (n : Nat) (f : Fr) : Op → Option (TypeId × Value × Value)
  | .call c => match c.callee, c.args.toList, c.argTypes.toList with
    | .builtin .append, [x, y], [t, t2] => bif Nat.beq t t2 then some (t, X n f x, X n f y) else none
    | _, _, _ => none
  | _ => none
def evCv (n : Nat) (f : Fr) : Op → Option (TypeId × TypeId × Value)
  | .convert s d x => some (s, d, X n f x)
  | _ => none
section
variable {P : Program} {ty : Nat → Option Ty} {n : Nat} {f : Fr} {w : World} {o : Oper}
theorem evCat_run {s t : ByteArray} (h : evCat n f o.op = some (s, t)) (hl : s.size + t.size ≤ 9223372036854775807) : (execOp (X n f) o).run P w = .ok (.value (.string (s ++ t))) w := by
  unfold evCat at h
  split at h
  · rename_i t0 x y t2 ho
    split at h
    · rename_i s1 s2 h1 h2
      simp only [Option.some.injEq, Prod.mk.injEq] at h
      obtain ⟨rfl, rfl⟩ := h
      have hm : IntKind.i64.max = 9223372036854775807 := by decide +kernel
      have hc : ¬ ((s1.size : Int) + (s2.size : Int) > 9223372036854775807) := by omega
      unfold execOp
      rw [ho]
      simp [go_sem, eqGuard, binOp, Op.stringOp, h1, h2, hm, hc]
    · cases h
  · cases h
theorem evRem_run {k : IntKind} {a b : Int} (h : evRem n f o.op = some (k, a, b)) (hb : b ≠ 0) : (execOp (X n f) o).run P w = .ok (.value (.int k (a.tmod b))) w := by
  unfold evRem at h
  split at h
  · rename_i t0 x y t2 ho
    split at h
    · rename_i k1 a1 k2 b1 h1 h2
      by_cases hk : k1 = k2
      · subst hk
        simp only [decide_true, cond_true, Option.some.injEq, Prod.mk.injEq] at h
        obtain ⟨rfl, rfl, rfl⟩ := h
        unfold execOp
        rw [ho]
        simp [go_sem, eqGuard, binOp, Op.intDiv, h1, h2, hb]
      · simp [hk] at h
    · cases h
  · cases h
def cutA (a : Option Addr) (c p sz : Nat) : Option Addr := if c = p then a else a.map (·.add (p * sz))
theorem evSl_run (hty : Tys P ty) {a : Option Addr} {l c sz : Nat} {p q : Int} (he : evSl n f ty o.op = some (a, l, c, sz, p, q)) (h0 : 0 ≤ p) (h1 : p ≤ q) (h2 : q ≤ c) :
    (execOp (X n f) o).run P w = .ok (.value (.slice (cutA a c p.toNat sz) (q.toNat - p.toNat) (c - p.toNat))) w := by
  unfold evSl at he
  split at he
  · rename_i t x lo hi ho
    split at he
    · rename_i e sz1 a1 l1 c1 h3 h4
      obtain ⟨b1, i0, b2, b3⟩ : P.underlying t = some (.slice e) ∧ ∃ i, P.info? e = some i ∧ i.size = sz1 := hty _ _ h3
      have hel : P.elem t = e := by simp [Program.elem, b1]
      unfold execOp
      rw [ho]
      cases lo with
      | none =>
        cases hi with
        | none =>
          simp only [bound, Option.some.injEq, Prod.mk.injEq] at he
          obtain ⟨rfl, rfl, rfl, rfl, rfl, rfl⟩ := he
          simp [go_sem, h4, Instr.sliceAt, Instr.slice, Instr.sliceBounds, Instr.sliceBound, run_underlying b1, sizeOf, typeInfo, b2, b3, cutA]
        | some y =>
          simp only [bound] at he
          split at he
          · rename_i p0 q0 e1 e2
            split at e2
            · rename_i k j e3
              simp only [Option.some.injEq, Prod.mk.injEq] at he e1 e2
              obtain ⟨rfl, rfl, rfl, rfl, rfl, rfl⟩ := he
              subst e1 e2
              have hq : 0 ≤ j := by omega
              simp [go_sem, h4, e3, Instr.sliceAt, Instr.slice, Instr.sliceBounds, Instr.sliceBound, run_underlying b1, sizeOf, typeInfo, b2, b3, cutA, hq, h2]
            · cases e2
          · cases he
      | some z =>
        cases hi with
        | none =>
          simp only [bound] at he
          split at he
          · rename_i p0 q0 e1 e2
            split at e1
            · rename_i k j e3
              simp only [Option.some.injEq, Prod.mk.injEq] at he e1 e2
              obtain ⟨rfl, rfl, rfl, rfl, rfl, rfl⟩ := he
              subst e1 e2
              simp [go_sem, h4, e3, Instr.sliceAt, Instr.slice, Instr.sliceBounds, Instr.sliceBound, run_underlying b1, sizeOf, typeInfo, b2, b3, cutA, h0, h1]
            · cases e1
          · cases he
        | some y =>
          simp only [bound] at he
          split at he
          · rename_i p0 q0 e1 e2
            split at e1
            · rename_i k j e3
              split at e2
              · rename_i k2 j2 e4
                simp only [Option.some.injEq, Prod.mk.injEq] at he e1 e2
                obtain ⟨rfl, rfl, rfl, rfl, rfl, rfl⟩ := he
                subst e1 e2
                have hq : 0 ≤ j2 := by omega
                have hz : j ≤ (j2.toNat : Int) := by omega
                simp [go_sem, h4, e3, e4, Instr.sliceAt, Instr.slice, Instr.sliceBounds, Instr.sliceBound, run_underlying b1, sizeOf, typeInfo, b2, b3, cutA, h0, h2, hq, hz]
                all_goals (intro hx; exfalso; omega)
              · cases e2
            · cases e1
          · cases he
    · cases he
  · cases he
end
section
variable {P : Program} {ty : Nat → Option Ty} {n : Nat} {ops : Array Oper} {Q : Exit → Act → World → Prop} {rest : List Oper} {f : Fr} {w : World} {d : Option Nat} {op : Op} {tt : TypeId} {ps : String} {af : Array Edge} {gd : Option (Nat × Bool)}
theorem l_cat {s t : ByteArray} (hw : want n ops f ⟨d, op, tt, ps, af, gd⟩ = true) (he : evCat n f op = some (s, t)) (hl : s.size + t.size ≤ 9223372036854775807) (h : WL P ops Q rest (act n (put f d (.string (s ++ t)))) w) : WL P ops Q (⟨d, op, tt, ps, af, gd⟩ :: rest) (act n f) w :=
  l_val hw (evCat_run (o := ⟨d, op, tt, ps, af, gd⟩) he hl) h
theorem l_rem {k : IntKind} {a b : Int} (hw : want n ops f ⟨d, op, tt, ps, af, gd⟩ = true) (he : evRem n f op = some (k, a, b)) (ha : 0 ≤ a) (hb : 0 < b) (h : WL P ops Q rest (act n (put f d (.int k (a % b)))) w) : WL P ops Q (⟨d, op, tt, ps, af, gd⟩ :: rest) (act n f) w :=
  l_val hw ((evRem_run (o := ⟨d, op, tt, ps, af, gd⟩) he (by omega)).trans (by rw [Int.tmod_eq_emod_of_nonneg ha])) h
theorem l_cut (hty : Tys P ty) {a : Option Addr} {l c sz : Nat} {p q : Int} (hw : want n ops f ⟨d, op, tt, ps, af, gd⟩ = true) (he : evSl n f ty op = some (a, l, c, sz, p, q)) (h0 : 0 ≤ p) (h1 : p ≤ q) (h2 : q ≤ c)
    (h : WL P ops Q rest (act n (put f d (.slice (cutA a c p.toNat sz) (q.toNat - p.toNat) (c - p.toNat)))) w) : WL P ops Q (⟨d, op, tt, ps, af, gd⟩ :: rest) (act n f) w :=
  l_val hw (evSl_run (o := ⟨d, op, tt, ps, af, gd⟩) hty he h0 h1 h2) h
theorem l_cutN (hty : Tys P ty) {a : Option Addr} {l c sz : Nat} (p q : Nat) (hw : want n ops f ⟨d, op, tt, ps, af, gd⟩ = true) (he : evSl n f ty op = some (a, l, c, sz, (p : Int), (q : Int))) (h1 : p ≤ q) (h2 : q ≤ c)
    (h : WL P ops Q rest (act n (put f d (.slice (cutA a c p sz) (q - p) (c - p)))) w) : WL P ops Q (⟨d, op, tt, ps, af, gd⟩ :: rest) (act n f) w :=
  l_cut hty hw he (by omega) (by omega) (by omega) h
theorem Bt {w wi w' : World} (h : Below w.heap.size w wi) (k : Below wi.heap.size wi w') : Below w.heap.size w w' := below_then h h.size k
theorem q_cat {C : World → Prop} {K : Act → Prop} {s t : ByteArray} (hw : want n ops f ⟨d, op, tt, ps, af, gd⟩ = true) (he : evCat n f op = some (s, t)) (hl : s.size + t.size ≤ 9223372036854775807) (h : WQ P ops C K rest (act n (put f d (.string (s ++ t))))) : WQ P ops C K (⟨d, op, tt, ps, af, gd⟩ :: rest) (act n f) :=
  q_val hw (fun _ _ => evCat_run (o := ⟨d, op, tt, ps, af, gd⟩) he hl) h
theorem l_text {s t e : TypeId} {A : Option Addr} {m c : Nat} {xs : List Int} (hw : want n ops f ⟨d, op, tt, ps, af, gd⟩ = true) (he : evCv n f op = some (s, t, .slice A m c)) (hs : P.underlying s = some (.slice e)) (hb : P.underlying e = some (.int .u8)) (hd : P.underlying t = some .string)
    (HR : ReadsInt w .u8 A m xs) (h : WL P ops Q rest (act n (put f d (.string (strOfNums xs)))) w) : WL P ops Q (⟨d, op, tt, ps, af, gd⟩ :: rest) (act n f) w := by
  unfold evCv at he
  split at he
  · rename_i s1 t1 x
    simp only [Option.some.injEq, Prod.mk.injEq] at he
    obtain ⟨rfl, rfl, hx⟩ := he
    refine l_val hw ?_ h
    have := string_of_reads (P := P) (w := w) (c := c) hs hb hd HR
    unfold execOp
    simp [hx, this]
  · cases he
end
end Go.Proofs.YtnimaenhijlcmaaGreatDoor.Q
end
section
/-
  PRINTED WORDS, second file: A REGION THAT DRAWS ITS ORDER, WALKED BY HAND, where its last store writes what its own loads read ('x.f = append(x.f, f(i))'). Plain theorems; no macro, no elab. A claim may hold it (turn the namespace's name).
  A load may be taken first in every world that meets S; behind the operations of ds nothing is shown; sound because each of ds waits for what is taken (Region.lastB). The kernel checks it.
  By an AI agent of Go's test side, Mon Nov 16 2026. No person has read it.
-/
namespace Go.Proofs.YtnimaenhijlcmaaGreatDoorW.PrintLast
section
variable {P : Program} {ops : Array Oper} {Q : Exit → Act → World → Prop} {md : Region.Mode} {S : World → Prop} {ds : List Nat}
def Region.reachB (md : Region.Mode) (ops : Array Oper) (i : Nat) : Nat → Nat → Bool
  | 0, _ => false
  | fuel + 1, d => match ops[d]? with
    | some o => o.after.any fun e => Region.binds md e && (e.on == i || Region.reachB md ops i fuel e.on)
    | none => false
def Region.closedB (md : Region.Mode) (ops : Array Oper) (listed : Array Bool) : Bool :=
  (List.range ops.size).all fun j => !listed.getD j false || match ops[j]? with
    | some o => o.after.all fun e => !Region.binds md e || listed.getD e.on false
    | none => true
def Region.lastB (md : Region.Mode) (ops : Array Oper) (listed : Array Bool) (ds : List Nat) (i : Nat) : Bool :=
  ds.all fun d => listed.getD d true || Region.reachB md ops i ops.size d
def ListedClosed (md : Region.Mode) (ops : Array Oper) (listed : Array Bool) : Prop :=
  ∀ j oj, ops[j]? = some oj → listed.getD j false = true → ∀ e ∈ oj.after, Region.binds md e = true → listed.getD e.on false = true
theorem Region.closedB_spec {listed : Array Bool} (h : Region.closedB md ops listed = true) : ListedClosed md ops listed := by
  intro j oj hj hl e he hb
  have hlt : j < ops.size := (Array.getElem?_eq_some_iff.1 hj).1
  have h1 := List.all_eq_true.1 h j (List.mem_range.2 hlt)
  simp only [hl, hj, Bool.not_true, Bool.false_or] at h1
  have h2 := Array.all_eq_true_iff_forall_mem.1 h1 e he
  simpa [hb] using h2
theorem ListedClosed.set {listed : Array Bool} {i : Nat} (h : ListedClosed md ops listed) (hi : i ∈ Region.ready md ops listed) : ListedClosed md ops (listed.setIfInBounds i true) := by
  obtain ⟨_, oi, hoi, hall⟩ := mem_ready.1 hi
  intro j oj hj hl e he hb
  by_cases hij : i = j
  · subst hij
    have : oj = oi := Option.some.inj (hj.symm.trans hoi)
    subst this
    exact getD_set_true (hall e he hb)
  · rw [getD_set_ne false hij] at hl
    exact getD_set_true (h j oj hj hl e he hb)
theorem Region.reach_listed {listed : Array Bool} {i : Nat} (hc : ListedClosed md ops listed) : ∀ (fuel d : Nat), Region.reachB md ops i fuel d = true → listed.getD d false = true → listed.getD i false = true
  | 0, _, h, _ => by simp [Region.reachB] at h
  | fuel + 1, d, h, hl => by
    unfold Region.reachB at h
    cases ho : ops[d]? with
    | none => rw [ho] at h; simp at h
    | some o =>
      rw [ho] at h
      obtain ⟨e, he, h1⟩ := Array.any_eq_true'.1 h
      simp only [Bool.and_eq_true, Bool.or_eq_true, beq_iff_eq] at h1
      have hle := hc d o ho hl e he h1.1
      rcases h1.2 with h2 | h2
      · rw [← h2]; exact hle
      · exact Region.reach_listed hc fuel e.on h2 hle
theorem Region.reach_not_ready {listed : Array Bool} {i d fuel : Nat} (hc : ListedClosed md ops listed) (hr : Region.reachB md ops i fuel d = true) (hun : listed.getD i true = false) : d ∉ Region.ready md ops listed := by
  intro hd
  obtain ⟨_, o, ho, hall⟩ := mem_ready.1 hd
  have hi : listed.getD i false = true := by
    cases fuel with
    | zero => simp [Region.reachB] at hr
    | succ n =>
      unfold Region.reachB at hr
      rw [ho] at hr
      obtain ⟨e, he, h1⟩ := Array.any_eq_true'.1 hr
      simp only [Bool.and_eq_true, Bool.or_eq_true, beq_iff_eq] at h1
      have hle := hall e he h1.1
      rcases h1.2 with h2 | h2
      · rw [← h2]; exact hle
      · exact Region.reach_listed hc n e.on h2 hle
  rcases Nat.lt_or_ge i listed.size with h' | h'
  · simp [h'] at hun hi
    rw [hun] at hi
    cases hi
  · simp [Array.getElem?_eq_none h'] at hun
def wpAnyLast (P : Program) (md : Region.Mode) (ops : Array Oper) (Q : Exit → Act → World → Prop) (S : World → Prop) (ds : List Nat) : Nat → Array Bool → Act → World → Prop
  | 0, listed, a, w => Region.ready md ops listed = [] ∧ Q .normal a w
  | fuel + 1, listed, a, w =>
    (Region.ready md ops listed = [] → Q .normal a w) ∧
    ∀ i ∈ Region.ready md ops listed, wpOp P ops Q i (fun a' w' => (i ∉ ds → S w → S w') ∧ wpAnyLast P md ops Q S ds fuel (listed.setIfInBounds i true) a' w') a w
theorem wpAny_of_last : ∀ (fuel : Nat) (listed : Array Bool) (a : Act) (w : World), wpAnyLast P md ops Q S ds fuel listed a w → wpAny P md ops Q fuel listed a w
  | 0, _, _, _, h => h
  | fuel + 1, _, _, _, h => ⟨h.1, fun i hi => wpOp_mono (fun a' w' h' => wpAny_of_last fuel _ a' w' h'.2) (h.2 i hi)⟩
theorem wpAnyLast_first {i : Nat} {oi : Oper} {v : Value} (hi : ops[i]? = some oi) (hsel : ∀ (j : Nat) (o : Oper) cs b, ops[j]? = some o → o.op ≠ .select cs b)
    (hQ : ∀ c a w, Q (.panic c) (a.put oi.dst v) w → Q (.panic c) a w) (n : Nat) :
    ∀ (fuel : Nat) (listed : Array Bool) (a : Act) (w : World),
      (∀ j oj, ops[j]? = some oj → j ≠ i → listed.getD j true = false → (∀ e ∈ oj.after, Region.binds md e = true → e.on ≠ i) → oi.apart ops oj = true) →
      ListedClosed md ops listed → (∀ d ∈ ds, listed.getD d true = false → Region.reachB md ops i n d = true) →
      i ∈ Region.ready md ops listed → YieldsIf P ops S oi v a → S w →
      wpAnyLast P md ops Q S ds fuel (listed.setIfInBounds i true) (a.put oi.dst v) w → wpAnyLast P md ops Q S ds (fuel + 1) listed a w := by
  intro fuel
  induction fuel with
  | zero =>
    intro listed a w _ _ _ hr hy hS H
    refine ⟨fun h => (by rw [h] at hr; cases hr), fun j hj => ?_⟩
    by_cases hji : j = i
    · subst hji; exact hy.wpOp hi hS ⟨fun _ h => h, H⟩
    · have := ready_mono hj hji
      rw [H.1] at this
      cases this
  | succ fuel ih =>
    intro listed a w hfree hc hd hr hy hS H
    refine ⟨fun h => (by rw [h] at hr; cases hr), fun j hj => ?_⟩
    by_cases hji : j = i
    · subst hji; exact hy.wpOp hi hS ⟨fun _ h => h, H⟩
    · have h1 := H.2 j (ready_mono hj hji)
      obtain ⟨hjun, oj, hoj, hall⟩ := mem_ready.1 hj
      have hiun := (mem_ready.1 hr).1
      have hnot : ∀ e ∈ oj.after, Region.binds md e = true → e.on ≠ i := fun e he hb heq => by
        have h1 := hall e he hb
        rw [heq] at h1
        rcases Nat.lt_or_ge i listed.size with h' | h'
        · simp [h'] at hiun h1; rw [hiun] at h1; cases h1
        · simp [Array.getElem?_eq_none h'] at h1
      have hjd : j ∉ ds := fun hm => Region.reach_not_ready hc (hd j hm hjun) hiun hj
      have h2 := wpOp_putIf hoj (hfree j oj hoj hji hjun hnot) (fun cs b => hsel i oi cs b hi) (fun cs b => hsel j oj cs b hoj) hQ hy h1
      have hfree' : ∀ k ok, ops[k]? = some ok → k ≠ i → (listed.setIfInBounds j true).getD k true = false →
          (∀ e ∈ ok.after, Region.binds md e = true → e.on ≠ i) → oi.apart ops ok = true := fun k ok hk hki hun hno => by
        refine hfree k ok hk hki ?_ hno
        by_cases hjk : j = k
        · subst hjk; exact hjun
        · rw [getD_set_ne true hjk] at hun; exact hun
      have hd' : ∀ d ∈ ds, (listed.setIfInBounds j true).getD d true = false → Region.reachB md ops i n d = true := fun d hm hun => by
        refine hd d hm ?_
        by_cases hjk : j = d
        · subst hjk; exact hjun
        · rw [getD_set_ne true hjk] at hun; exact hun
      refine wpOp_mono (fun a' w' h3 => ⟨h3.2.1, ih (listed.setIfInBounds j true) a' w' hfree' (hc.set hj) hd' (ready_mono hr (Ne.symm hji)) h3.1 (h3.2.1 hjd hS) ?_⟩) h2
      rw [Array.setIfInBounds_comm _ _ hji]
      exact h3.2.2
theorem wpAnyLast_any {i : Nat} {oi : Oper} {v : Value} (hi : ops[i]? = some oi) (hsel : ∀ (j : Nat) (o : Oper) cs b, ops[j]? = some o → o.op ≠ .select cs b)
    (hQ : ∀ c a w, Q (.panic c) (a.put oi.dst v) w → Q (.panic c) a w) :
    ∀ (fuel : Nat) (listed : Array Bool) (a : Act) (w : World),
      (∀ j oj, ops[j]? = some oj → j ≠ i → listed.getD j true = false → (∀ e ∈ oj.after, Region.binds md e = true → e.on ≠ i) → oi.apart ops oj = true) →
      i ∈ Region.ready md ops listed → Yields P ops oi v a →
      wpAnyLast P md ops Q S ds fuel (listed.setIfInBounds i true) (a.put oi.dst v) w → wpAnyLast P md ops Q S ds (fuel + 1) listed a w := by
  intro fuel
  induction fuel with
  | zero =>
    intro listed a w _ hr hy H
    refine ⟨fun h => (by rw [h] at hr; cases hr), fun j hj => ?_⟩
    by_cases hji : j = i
    · subst hji; exact (hy.yieldsIf (S := fun _ => True)).wpOp hi trivial ⟨fun _ h => h, H⟩
    · have := ready_mono hj hji
      rw [H.1] at this
      cases this
  | succ fuel ih =>
    intro listed a w hfree hr hy H
    refine ⟨fun h => (by rw [h] at hr; cases hr), fun j hj => ?_⟩
    by_cases hji : j = i
    · subst hji; exact (hy.yieldsIf (S := fun _ => True)).wpOp hi trivial ⟨fun _ h => h, H⟩
    · have h1 := H.2 j (ready_mono hj hji)
      obtain ⟨hjun, oj, hoj, hall⟩ := mem_ready.1 hj
      have hiun := (mem_ready.1 hr).1
      have hnot : ∀ e ∈ oj.after, Region.binds md e = true → e.on ≠ i := fun e he hb heq => by
        have h1 := hall e he hb
        rw [heq] at h1
        rcases Nat.lt_or_ge i listed.size with h' | h'
        · simp [h'] at hiun h1; rw [hiun] at h1; cases h1
        · simp [Array.getElem?_eq_none h'] at h1
      have h2 := wpOp_put hoj (hfree j oj hoj hji hjun hnot) (fun cs b => hsel i oi cs b hi) (fun cs b => hsel j oj cs b hoj) hQ hy h1
      have hfree' : ∀ k ok, ops[k]? = some ok → k ≠ i → (listed.setIfInBounds j true).getD k true = false →
          (∀ e ∈ ok.after, Region.binds md e = true → e.on ≠ i) → oi.apart ops ok = true := fun k ok hk hki hun hno => by
        refine hfree k ok hk hki ?_ hno
        by_cases hjk : j = k
        · subst hjk; exact hjun
        · rw [getD_set_ne true hjk] at hun; exact hun
      refine wpOp_mono (fun a' w' h3 => ⟨h3.2.1, ih (listed.setIfInBounds j true) a' w' hfree' (ready_mono hr (Ne.symm hji)) h3.1 ?_⟩) h2
      rw [Array.setIfInBounds_comm _ _ hji]
      exact h3.2.2
theorem wpAnyLast_take {i : Nat} {oi : Oper} {v : Value} {fuel : Nat} {listed : Array Bool} {a : Act} {w : World} (hi : ops[i]? = some oi)
    (hs : Region.noSelect ops = true) (hf : Region.free md ops listed i = true) (hr : (Region.ready md ops listed).contains i = true)
    (hc : Region.closedB md ops listed = true) (hl : Region.lastB md ops listed ds i = true)
    (hQ : ∀ c a w, Q (.panic c) (a.put oi.dst v) w → Q (.panic c) a w) (hy : YieldsIf P ops S oi v a) (hS : S w)
    (h : wpAnyLast P md ops Q S ds fuel (listed.setIfInBounds i true) (a.put oi.dst v) w) : wpAnyLast P md ops Q S ds (fuel + 1) listed a w :=
  wpAnyLast_first hi (Region.noSelect_spec hs) hQ ops.size fuel listed a w (Region.free_spec hi hf) (Region.closedB_spec hc)
    (fun d hm hun => by have := List.all_eq_true.1 hl d hm; rw [hun] at this; simpa using this) (by simpa using hr) hy hS h
theorem wpAnyLast_all {rs : List Nat} {fuel : Nat} {listed : Array Bool} {a : Act} {w : World} (hr : Region.ready md ops listed = rs) (hne : rs ≠ [])
    (h : ∀ i ∈ rs, wpOp P ops Q i (fun a' w' => (i ∉ ds → S w → S w') ∧ wpAnyLast P md ops Q S ds fuel (listed.setIfInBounds i true) a' w') a w) : wpAnyLast P md ops Q S ds (fuel + 1) listed a w :=
  ⟨fun h0 => absurd (hr ▸ h0) hne, hr ▸ h⟩
theorem wpAnyLast_done {listed : Array Bool} {a : Act} {w : World} (hr : Region.ready md ops listed = []) (h : Q .normal a w) :
    ∀ fuel, wpAnyLast P md ops Q S ds fuel listed a w
  | 0 => ⟨hr, h⟩
  | _ + 1 => ⟨fun _ => h, by rw [hr]; simp⟩
theorem wp_region_last {id : Nat} {a : Act} {w : World} (hm : P.follows .mixedOrders = true)
    (h : wpAnyLast P .any ops Q S ds ops.size (Array.replicate ops.size false) a { w with drawn := w.drawn + 1 }) : (Code.region id ops true).wp P Q a w :=
  wp_region_any hm (wpAny_of_last _ _ _ _ h)
end
section
variable {P : Program} {ops : Array Oper} {Q : Exit → Act → World → Prop} {md : Region.Mode} {S : World → Prop} {ds : List Nat}
def AllReadyL (P : Program) (md : Region.Mode) (ops : Array Oper) (Q : Exit → Act → World → Prop) (S : World → Prop) (ds : List Nat) (fuel : Nat) (listed : Array Bool) (a : Act) (w : World) (rs : List Nat) : Prop :=
  ∀ i ∈ rs, wpOp P ops Q i (fun a' w' => (i ∉ ds → S w → S w') ∧ wpAnyLast P md ops Q S ds fuel (listed.setIfInBounds i true) a' w') a w
theorem AllReadyL.nil {fuel : Nat} {listed : Array Bool} {a : Act} {w : World} : AllReadyL P md ops Q S ds fuel listed a w [] := fun _ h => by cases h
theorem AllReadyL.cons {fuel : Nat} {listed : Array Bool} {a : Act} {w : World} {i : Nat} {o : Oper} {rs : List Nat} (ho : ops[i]? = some o) (hd : i ∉ ds)
    (h : ∀ K' : Act → World → Prop, Shut (∀ a w, S w → (S w → wpAnyLast P md ops Q S ds fuel (listed.setIfInBounds i true) a w) → K' a w) → if Region.wanted o (yielded ops a.tmps) = true then Oper.wp P o a w K' Q else K' (a.put o.dst undef) w)
    (hs : AllReadyL P md ops Q S ds fuel listed a w rs) : AllReadyL P md ops Q S ds fuel listed a w (i :: rs) := fun j hj => by
  rcases List.mem_cons.1 hj with rfl | hj
  · exact wpOp_step ho (fun K' hK => h K' (fun a w hS hW => hK a w ⟨fun _ _ => hS, hW hS⟩))
  · exact hs j hj
theorem wpAnyLast_ready {rs : List Nat} {fuel : Nat} {listed : Array Bool} {a : Act} {w : World} (hr : Region.ready md ops listed = rs) (hne : rs ≠ [])
    (h : AllReadyL P md ops Q S ds fuel listed a w rs) : wpAnyLast P md ops Q S ds (fuel + 1) listed a w := wpAnyLast_all hr hne h
theorem start_ {id n : Nat} {a : Act} {w : World} (l : Array Bool) (hm : P.follows .mixedOrders = true) (hn : ops.size = n) (hl : Array.replicate n false = l) (hS : S w.drew)
    (h : S w.drew → wpAnyLast P .any ops Q S ds n l a w.drew) : (Code.region id ops true).wp P Q a w := by
  subst hn
  subst hl
  exact wp_region_last hm (h hS)
def takeB (md : Region.Mode) (ops : Array Oper) (ds : List Nat) (l l' : Array Bool) (i : Nat) : Bool :=
  Region.noSelect ops && Region.free md ops l i && (Region.ready md ops l).contains i && Region.closedB md ops l && Region.lastB md ops l ds i && (l.setIfInBounds i true == l')
theorem take_ {i : Nat} {N : Option Tmp} {oi : Oper} {v : Value} {fuel : Nat} {l : Array Bool} {a : Act} {w : World} (l' : Array Bool) (hi : ops[i]? = some oi) (hN : oi.dst = N) (hc : takeB md ops ds l l' i = true)
    (hQ : ∀ c a w, Q (.panic c) (a.put oi.dst v) w → Q (.panic c) a w) (hy : YieldsIf P ops S oi v a) (hS : S w) {a' : Act} (ha : a.put N v = a')
    (h : wpAnyLast P md ops Q S ds fuel l' a' w) : wpAnyLast P md ops Q S ds (fuel + 1) l a w := by
  subst ha
  subst hN
  simp only [takeB, Bool.and_eq_true, beq_iff_eq] at hc
  obtain ⟨⟨⟨⟨⟨h1, h2⟩, h3⟩, h4⟩, h5⟩, h6⟩ := hc
  subst h6
  exact wpAnyLast_take hi h1 h2 h3 h4 h5 hQ hy hS h
def anyB (md : Region.Mode) (ops : Array Oper) (l l' : Array Bool) (i : Nat) : Bool :=
  Region.noSelect ops && Region.free md ops l i && (Region.ready md ops l).contains i && (l.setIfInBounds i true == l')
theorem pure_ {i : Nat} {N : Option Tmp} {oi : Oper} {v : Value} {fuel : Nat} {l : Array Bool} {a : Act} {w : World} (l' : Array Bool) (hi : ops[i]? = some oi) (hN : oi.dst = N) (hc : anyB md ops l l' i = true)
    (hQ : ∀ c a w, Q (.panic c) (a.put oi.dst v) w → Q (.panic c) a w) (hy : Yields P ops oi v a) {a' : Act} (ha : a.put N v = a')
    (h : wpAnyLast P md ops Q S ds fuel l' a' w) : wpAnyLast P md ops Q S ds (fuel + 1) l a w := by
  subst ha
  subst hN
  simp only [anyB, Bool.and_eq_true, beq_iff_eq] at hc
  obtain ⟨⟨⟨h1, h2⟩, h3⟩, h6⟩ := hc
  subst h6
  exact wpAnyLast_any hi (Region.noSelect_spec h1) hQ fuel l a w (Region.free_spec hi h2) (by simpa using h3) hy h
def readyB (md : Region.Mode) (ops : Array Oper) (l l' : Array Bool) (i : Nat) : Bool := (Region.ready md ops l == [i]) && (l.setIfInBounds i true == l')
theorem one_ {i : Nat} {N : Option Tmp} {oi : Oper} {fuel : Nat} {l : Array Bool} {a : Act} {w : World} (l' : Array Bool) (hi : ops[i]? = some oi) (hN : oi.dst = N) (hc : readyB md ops l l' i = true) (hd : i ∉ ds)
    (h : ∀ K : Act → World → Prop, Shut (∀ a' w', S w' → (S w' → wpAnyLast P md ops Q S ds fuel l' a' w') → K a' w') → if Region.wanted oi (yielded ops a.tmps) = true then Oper.wp P oi a w K Q else K (a.put N undef) w) :
    wpAnyLast P md ops Q S ds (fuel + 1) l a w := by
  subst hN
  simp only [readyB, Bool.and_eq_true, beq_iff_eq] at hc
  obtain ⟨h1, h2⟩ := hc
  subst h2
  exact wpAnyLast_ready h1 (by simp) (AllReadyL.cons hi hd (fun K hK => h K hK) AllReadyL.nil)
theorem done_ {l : Array Bool} {a : Act} {w : World} {n : Nat} (hr : (Region.ready md ops l == []) = true) (h : Q .normal a w) : wpAnyLast P md ops Q S ds n l a w := wpAnyLast_done (by simpa using hr) h n
end
end Go.Proofs.YtnimaenhijlcmaaGreatDoorW.PrintLast
end
section
namespace Go.Proofs.YtnimaenhijlcmaaGreatDoor.Q
open Go.RowKit Go.Proofs.YtnimaenhijlcmaaGreatDoorW.PrintWords Go.Proofs.YtnimaenhijlcmaaGreatDoorW.PrintLast
set_option linter.unusedVariables false
set_option linter.unusedSimpArgs false
structure WA (P : Program) (md : Region.Mode) (ops : Array Oper) (Q : Exit → Act → World → Prop) (S : World → Prop) (ds : List Nat) (fuel : Nat) (l : Array Bool) (a : Act) (w : World) : Prop where mk :: (out : wpAnyLast P md ops Q S ds fuel l a w)
section
variable {P : Program} {n : Nat} {ops : Array Oper} {Q : Exit → Act → World → Prop} {f : Fr} {w : World}
theorem wp_of_normal {o : Oper} {a : Act} {K : Act → World → Prop} (h : o.wp P a w K (fun ex a' w' => ex = .normal ∧ K a' w')) : o.wp P a w K Q := by
  unfold Oper.wp at *
  generalize (execOp a.eval o).run P w = r at *
  cases r with
  | ok m w' =>
    cases m <;> simp only [Oper.upon] at h ⊢ <;>
      first
        | exact h
        | exact Calls.mono h (fun e w'' he => by
            cases e with
            | returned v => exact he
            | panicked c => exact absurd he.1 (by simp)
            | outgrown => obtain ⟨_, _, h1, _⟩ := he; cases h1)
  | halt x w' =>
    cases x <;> simp only [Oper.upon] at h ⊢
    all_goals first | exact h | exact absurd h.1 (by simp)
end
end Go.Proofs.YtnimaenhijlcmaaGreatDoor.Q
end
section
namespace Go.Proofs.YtnimaenhijlcmaaGreatDoor.Q
open Go.RowKit Go.Proofs.YtnimaenhijlcmaaGreatDoorW.PrintWords Go.Proofs.YtnimaenhijlcmaaGreatDoorW.PrintLast
set_option linter.unusedVariables false
set_option linter.unusedSimpArgs false
structure RowD where
  v : Value
  e : TypeId
  sz : Nat
  n : Nat
  cs : List Value
abbrev Ent := Nat × TypeId × List Value
structure HpS (s : Bool) (w0 w : World) (l : List Ent) (r : List RowD) : Prop where
  B : Below w0.heap.size w0 w
  blk : ∀ (i : Nat) (p : Ent), l[i]? = some p → w0.heap.size ≤ p.1 ∧ w.heap[p.1]? = some (.cells p.2.2.toArray p.2.1 (0, 0))
  row : ∀ (i : Nat) (d : RowD), r[i]? = some d → w.ownsRow w0.heap.size d.e d.sz d.v d.n d.cs
  ndl : ∀ (i j : Nat) (p q : Ent), l[i]? = some p → l[j]? = some q → i ≠ j → p.1 ≠ q.1
  ndr : ∀ (i j : Nat) (d e : RowD), r[i]? = some d → r[j]? = some e → i ≠ j → ∀ b, d.v.ownBlock = some b → e.v.ownBlock ≠ some b
  ndm : ∀ (i j : Nat) (p : Ent) (d : RowD), l[i]? = some p → r[j]? = some d → d.v.ownBlock ≠ some p.1
  dr : s = true → w0.drawn ≤ w.drawn
abbrev Hp := HpS false
section
variable {s : Bool} {w0 w w' : World} {l l' : List Ent} {r r' : List RowD}
theorem HpS.nil (w : World) : HpS s w w [] [] := ⟨Below.refl _ w, by simp, by simp, by simp, by simp, by simp, fun _ => Nat.le_refl _⟩
theorem Hp.nil (w : World) : Hp w w [] [] := HpS.nil w
abbrev Hd := HpS true
structure Bel (b : Nat) (w w' : World) : Prop extends Below b w w' where
  drw : w.drawn ≤ w'.drawn
instance {b : Nat} : Coe (Bel b w w') (Below b w w') := ⟨Bel.toBelow⟩
instance : Coe (Hd w w' l r) (Hp w w' l r) := ⟨fun h => ⟨h.B, h.blk, h.row, h.ndl, h.ndr, h.ndm, nofun⟩⟩
theorem HpS.BD (H : Hd w0 w l r) : Bel w0.heap.size w0 w := ⟨H.B, H.dr rfl⟩
theorem HpS.lt (H : HpS s w0 w l r) {i : Nat} {p : Ent} (h : l[i]? = some p) : p.1 < w.heap.size := blk_lt (H.blk i p h).2
theorem HpS.rlt (H : HpS s w0 w l r) {i : Nat} {d : RowD} (h : r[i]? = some d) {b : Nat} (hb : d.v.ownBlock = some b) : b < w.heap.size := own_lt (H.row i d h) b hb
theorem HpS.call (H : HpS s w0 w l r) (hb : Below w.heap.size w w') (hd : s = true → w.drawn ≤ w'.drawn := by nofun) : HpS s w0 w' l r :=
  ⟨below_then H.B H.B.size hb, fun i p h => ⟨(H.blk i p h).1, blk_below (H.blk i p h).2 hb⟩, fun i d h => pw_own_below (H.row i d h) hb, H.ndl, H.ndr, H.ndm, fun e => Nat.le_trans (H.dr e) (hd e)⟩
theorem HpS.callD (H : Hd w0 w l r) (K : Bel w.heap.size w w') : Hd w0 w' l r := H.call K.toBelow (fun _ => K.drw)
theorem HpS.drew (H : HpS s w0 w l r) : HpS s w0 w.drew l r := H.call (below_drew (Below.refl _ w)) (fun _ => Nat.le_succ _)
theorem HpS.get (H : HpS s w0 w l r) (k : Nat) {g : Nat} {t : TypeId} {cs : List Value} (hk : l[k]? = some (g, t, cs)) : w.heap[g]? = some (.cells cs.toArray t (0, 0)) := (H.blk k _ hk).2
theorem HpS.cellAt (H : HpS s w0 w l r) (k : Nat) {g i : Nat} {t : TypeId} {cs : List Value} {v : Value} (hk : l[k]? = some (g, t, cs)) (hi : cs[i]? = some v) : w.cell? ⟨g, i, none⟩ = some v := by
  rw [blk_cell (H.get k hk) i]
  simpa using hi
theorem HpS.old (H : HpS s w0 w l r) {a : Addr} {v : Value} (hc : w0.cell? a = some v) : w.cell? a = some v := pw_cell_below H.B hc
theorem HpS.push (H : HpS s w0 w l r) (t : TypeId) (cs : List Value) : HpS s w0 (w.alloc (.cells cs.toArray t)) ((w.heap.size, t, cs) :: l) r := by
  have K := below_alloc (Below.refl w.heap.size w) (.cells cs.toArray t)
  have H1 := H.call K (fun _ => Nat.le_refl _)
  refine ⟨H1.B, fun i p h => ?_, H1.row, fun i j p q h1 h2 hne => ?_, H1.ndr, fun i j p d h1 h2 => ?_, H1.dr⟩
  · cases i with
    | zero => simp only [List.getElem?_cons_zero, Option.some.injEq] at h; subst h; exact ⟨H.B.size, blk_new w _⟩
    | succ i => simp only [List.getElem?_cons_succ] at h; exact H1.blk i p h
  · cases i with
    | zero =>
      cases j with
      | zero => exact absurd rfl hne
      | succ j =>
        simp only [List.getElem?_cons_zero, List.getElem?_cons_succ, Option.some.injEq] at h1 h2
        subst h1
        have := H.lt h2
        show w.heap.size ≠ q.1
        omega
    | succ i =>
      cases j with
      | zero =>
        simp only [List.getElem?_cons_zero, List.getElem?_cons_succ, Option.some.injEq] at h1 h2
        subst h2
        have := H.lt h1
        show p.1 ≠ w.heap.size
        omega
      | succ j =>
        simp only [List.getElem?_cons_succ] at h1 h2
        exact H.ndl i j p q h1 h2 (by omega)
  · cases i with
    | zero =>
      simp only [List.getElem?_cons_zero, Option.some.injEq] at h1
      subst h1
      intro hb
      exact absurd (H.rlt h2 hb) (Nat.lt_irrefl _)
    | succ i => simp only [List.getElem?_cons_succ] at h1; exact H.ndm i j p d h1 h2
theorem HpS.upd (H : HpS s w0 w l r) (k : Nat) {g : Nat} {t : TypeId} {cs : List Value} (hk : l[k]? = some (g, t, cs)) {cs' : List Value} (hg : w.grownBy w' (some g)) (hc : w'.heap[g]? = some (.cells cs'.toArray t (0, 0))) (hd : s = true → w.drawn ≤ w'.drawn := by nofun) : HpS s w0 w' (l.set k (g, t, cs')) r := by
  have hb := (H.blk k _ hk).1
  have hkl : k < l.length := (List.getElem?_eq_some_iff.1 hk).1
  have key : ∀ (i : Nat) (p : Ent), (l.set k (g, t, cs'))[i]? = some p → (i = k ∧ p = (g, t, cs')) ∨ (i ≠ k ∧ l[i]? = some p) := by
    intro i p h
    rw [List.getElem?_set] at h
    by_cases e : k = i
    · subst e
      simp only [if_true, hkl, Option.some.injEq] at h
      exact .inl ⟨rfl, h.symm⟩
    · rw [if_neg e] at h
      exact .inr ⟨fun e' => e e'.symm, h⟩
  refine ⟨H.B.grown hg H.B.size (fun b e => by cases e; exact hb), fun i p h => ?_, fun i d h => ?_, fun i j p q h1 h2 hne => ?_, H.ndr, fun i j p d h1 h2 => ?_, fun e => Nat.le_trans (H.dr e) (hd e)⟩
  · rcases key i p h with ⟨_, rfl⟩ | ⟨hne, h⟩
    · exact ⟨hb, hc⟩
    · exact ⟨(H.blk i p h).1, blk_grown (H.blk i p h).2 hg (fun e => H.ndl i k p _ h hk hne (Option.some.inj e))⟩
  · refine own_other (H.row i d h) hg ?_
    cases e : d.v.ownBlock with
    | none => exact .inl rfl
    | some b => exact .inr (fun e2 => H.ndm k i _ d hk h (by rw [e, e2]))
  · rcases key i p h1 with ⟨e1, ep⟩ | ⟨n1, g1⟩ <;> rcases key j q h2 with ⟨e2, eq⟩ | ⟨n2, g2⟩
    · exact absurd (e1.trans e2.symm) hne
    · rw [ep]; exact H.ndl k j (g, t, cs) q hk g2 (fun e => n2 e.symm)
    · rw [eq]; exact H.ndl i k p (g, t, cs) g1 hk n1
    · exact H.ndl i j p q g1 g2 hne
  · rcases key i p h1 with ⟨_, ep⟩ | ⟨_, g1⟩
    · rw [ep]; exact H.ndm k j (g, t, cs) d hk h2
    · exact H.ndm i j p d g1 h2
theorem HpS.put (H : HpS s w0 w l r) (k : Nat) {d d' : RowD} (hk : r[k]? = some d) (hg : w.grownBy w' d.v.ownBlock) (ho : w'.ownsRow w0.heap.size d'.e d'.sz d'.v d'.n d'.cs)
    (hat : d'.v.ownBlock = d.v.ownBlock ∨ ∃ b, d'.v.ownBlock = some b ∧ w.heap.size ≤ b) (hd : s = true → w.drawn ≤ w'.drawn := by nofun) : HpS s w0 w' l (r.set k d') := by
  have hkl : k < r.length := (List.getElem?_eq_some_iff.1 hk).1
  have key : ∀ (i : Nat) (p : RowD), (r.set k d')[i]? = some p → (i = k ∧ p = d') ∨ (i ≠ k ∧ r[i]? = some p) := by
    intro i p h
    rw [List.getElem?_set] at h
    by_cases e : k = i
    · subst e
      simp only [if_true, hkl, Option.some.injEq] at h
      exact .inl ⟨rfl, h.symm⟩
    · rw [if_neg e] at h
      exact .inr ⟨fun e' => e e'.symm, h⟩
  refine ⟨H.B.grown hg H.B.size (fun b e => own_base (H.row k d hk) b e), fun i p h => ⟨(H.blk i p h).1, blk_grown (H.blk i p h).2 hg (fun e => H.ndm i k p d h hk e.symm)⟩, fun i e h => ?_, H.ndl, fun i j p q h1 h2 hne b hb => ?_, fun i j p q h1 h2 => ?_, fun e => Nat.le_trans (H.dr e) (hd e)⟩
  · rcases key i e h with ⟨_, rfl⟩ | ⟨hne, h⟩
    · exact ho
    · refine own_other (H.row i e h) hg ?_
      cases e1 : e.v.ownBlock with
      | none => exact .inl rfl
      | some b => exact .inr (fun e2 => H.ndr i k e d h hk hne b e1 e2.symm)
  · rcases key i p h1 with ⟨e1, ep⟩ | ⟨n1, g1⟩ <;> rcases key j q h2 with ⟨e2, eq⟩ | ⟨n2, g2⟩
    · exact absurd (e1.trans e2.symm) hne
    · rw [ep] at hb
      rcases hat with hat | ⟨b', hat, hlt⟩
      · exact H.ndr k j d q hk g2 (fun e => n2 e.symm) b (hat.symm.trans hb)
      · intro hq
        have := H.rlt g2 hq
        rw [hat] at hb
        cases hb
        omega
    · rw [eq]
      rcases hat with hat | ⟨b', hat, hlt⟩
      · rw [hat]; exact H.ndr i k p d g1 hk n1 b hb
      · rw [hat]
        intro hq
        have := H.rlt g1 hb
        cases hq
        omega
    · exact H.ndr i j p q g1 g2 hne b hb
  · rcases key j q h2 with ⟨_, eq⟩ | ⟨_, g2⟩
    · rw [eq]
      rcases hat with hat | ⟨b', hat, hlt⟩
      · rw [hat]; exact H.ndm i k p d h1 hk
      · rw [hat]
        intro hq
        have := H.lt h1
        cases hq
        omega
    · exact H.ndm i j p q h1 g2
theorem HpS.nilRow (H : HpS s w0 w l r) (e : TypeId) (sz : Nat) : HpS s w0 w l (⟨.slice none 0 0, e, sz, 0, []⟩ :: r) := by
  refine ⟨H.B, H.blk, fun i d h => ?_, H.ndl, fun i j p q h1 h2 hne b hb => ?_, fun i j p q h1 h2 => ?_, H.dr⟩
  · cases i with
    | zero => simp only [List.getElem?_cons_zero, Option.some.injEq] at h; subst h; exact own_nil _ _ _ _
    | succ i => simp only [List.getElem?_cons_succ] at h; exact H.row i d h
  · cases i with
    | zero => simp only [List.getElem?_cons_zero, Option.some.injEq] at h1; subst h1; simp [Value.ownBlock] at hb
    | succ i =>
      cases j with
      | zero => simp only [List.getElem?_cons_zero, Option.some.injEq] at h2; subst h2; simp [Value.ownBlock]
      | succ j => simp only [List.getElem?_cons_succ] at h1 h2; exact H.ndr i j p q h1 h2 (by omega) b hb
  · cases j with
    | zero => simp only [List.getElem?_cons_zero, Option.some.injEq] at h2; subst h2; simp [Value.ownBlock]
    | succ j => simp only [List.getElem?_cons_succ] at h2; exact H.ndm i j p q h1 h2
theorem own_lower {w : World} {b b' : Nat} {e : TypeId} {sz n : Nat} {v : Value} {xs : List Value} (h : w.ownsRow b e sz v n xs) (hb : b' ≤ b) : w.ownsRow b' e sz v n xs := by
  refine ⟨h.1, ?_⟩
  rcases h.2 with h2 | ⟨g, cap, cur, h1, h2, h3⟩
  · exact .inl h2
  · exact .inr ⟨g, cap, cur, h1, Nat.le_trans hb h2, h3⟩
theorem HpS.join (H : HpS s w0 w l r) (K : HpS s w w' l' r') : HpS s w0 w' (l' ++ l) (r' ++ r) := by
  have H1 := H.call K.B K.dr
  have nl : ∀ {i : Nat} {p : Ent}, l'[i]? = some p → w.heap.size ≤ p.1 := fun h => (K.blk _ _ h).1
  have nr : ∀ {i : Nat} {d : RowD}, r'[i]? = some d → ∀ b, d.v.ownBlock = some b → w.heap.size ≤ b := fun h b hb => own_base (K.row _ _ h) b hb
  have kl : ∀ (i : Nat) (p : Ent), (l' ++ l)[i]? = some p → (i < l'.length ∧ l'[i]? = some p) ∨ (l'.length ≤ i ∧ l[i - l'.length]? = some p) := by
    intro i p h
    rcases Nat.lt_or_ge i l'.length with h1 | h1
    · rw [List.getElem?_append_left h1] at h; exact .inl ⟨h1, h⟩
    · rw [List.getElem?_append_right h1] at h; exact .inr ⟨h1, h⟩
  have kr : ∀ (i : Nat) (p : RowD), (r' ++ r)[i]? = some p → (i < r'.length ∧ r'[i]? = some p) ∨ (r'.length ≤ i ∧ r[i - r'.length]? = some p) := by
    intro i p h
    rcases Nat.lt_or_ge i r'.length with h1 | h1
    · rw [List.getElem?_append_left h1] at h; exact .inl ⟨h1, h⟩
    · rw [List.getElem?_append_right h1] at h; exact .inr ⟨h1, h⟩
  refine ⟨H1.B, fun i p h => ?_, fun i d h => ?_, fun i j p q h1 h2 hne => ?_, fun i j p q h1 h2 hne b hb => ?_, fun i j p q h1 h2 => ?_, H1.dr⟩
  · rcases kl i p h with ⟨_, h⟩ | ⟨_, h⟩
    · exact ⟨Nat.le_trans H.B.size (nl h), (K.blk i p h).2⟩
    · exact H1.blk _ p h
  · rcases kr i d h with ⟨_, h⟩ | ⟨_, h⟩
    · exact own_lower (K.row i d h) H.B.size
    · exact H1.row _ d h
  · rcases kl i p h1 with ⟨a1, h1⟩ | ⟨a1, h1⟩ <;> rcases kl j q h2 with ⟨a2, h2⟩ | ⟨a2, h2⟩
    · exact K.ndl i j p q h1 h2 hne
    · have := nl h1; have := H.lt h2; omega
    · have := nl h2; have := H.lt h1; omega
    · exact H.ndl _ _ p q h1 h2 (by omega)
  · rcases kr i p h1 with ⟨a1, h1⟩ | ⟨a1, h1⟩ <;> rcases kr j q h2 with ⟨a2, h2⟩ | ⟨a2, h2⟩
    · exact K.ndr i j p q h1 h2 hne b hb
    · intro hq; have := nr h1 b hb; have := H.rlt h2 hq; omega
    · intro hq; have := nr h2 b hq; have := H.rlt h1 hb; omega
    · exact H.ndr _ _ p q h1 h2 (by omega) b hb
  · rcases kl i p h1 with ⟨a1, h1⟩ | ⟨a1, h1⟩ <;> rcases kr j q h2 with ⟨a2, h2⟩ | ⟨a2, h2⟩
    · exact K.ndm i j p q h1 h2
    · intro hq; have := nl h1; have := H.rlt h2 hq; omega
    · intro hq; have := nr h2 _ hq; have := H.lt h1; omega
    · exact H.ndm _ _ p q h1 h2
theorem HpS.sel (H : HpS s w0 w l r) (ks ms : List Nat) (hk : ks.Nodup) (hm : ms.Nodup) (hl : ks.map (l[·]?) = l'.map some) (hr : ms.map (r[·]?) = r'.map some) : HpS s w0 w l' r' := by
  have key : ∀ {α : Type} {ks : List Nat} {l l' : List α}, ks.map (l[·]?) = l'.map some → ∀ (i : Nat) (p : α), l'[i]? = some p → ∃ k, ks[i]? = some k ∧ l[k]? = some p := by
    intro α ks l l' h i p hp
    have h1 := congrArg (fun z => z[i]?) h
    simp only [List.getElem?_map, hp, Option.map_some] at h1
    cases hq : ks[i]? with
    | none => rw [hq] at h1; simp at h1
    | some k => rw [hq] at h1; exact ⟨k, rfl, by simpa using h1⟩
  have nd : ∀ {ks : List Nat}, ks.Nodup → ∀ {i j a b : Nat}, ks[i]? = some a → ks[j]? = some b → i ≠ j → a ≠ b := by
    intro ks hn i j a b ha hb hne e
    subst e
    exact hne ((List.getElem?_inj (List.getElem?_eq_some_iff.1 ha).1 hn).1 (ha.trans hb.symm))
  refine ⟨H.B, fun i p h => ?_, fun i d h => ?_, fun i j p q h1 h2 hne => ?_, fun i j p q h1 h2 hne => ?_, fun i j p q h1 h2 => ?_, H.dr⟩
  · obtain ⟨k, _, h⟩ := key hl i p h; exact H.blk k p h
  · obtain ⟨k, _, h⟩ := key hr i d h; exact H.row k d h
  · obtain ⟨a, ha, h1⟩ := key hl i p h1
    obtain ⟨b, hb, h2⟩ := key hl j q h2
    exact H.ndl a b p q h1 h2 (nd hk ha hb hne)
  · obtain ⟨a, ha, h1⟩ := key hr i p h1
    obtain ⟨b, hb, h2⟩ := key hr j q h2
    exact H.ndr a b p q h1 h2 (nd hm ha hb hne)
  · obtain ⟨a, ha, h1⟩ := key hl i p h1
    obtain ⟨b, hb, h2⟩ := key hr j q h2
    exact H.ndm a b p q h1 h2
theorem Hp.ofOwn {e : TypeId} {sz n : Nat} {v : Value} {xs : List Value} (h : w'.ownsRow w.heap.size e sz v n xs) (hb : Below w.heap.size w w') : Hp w w' [] [⟨v, e, sz, n, xs⟩] := by
  refine ⟨hb, by simp, fun i d hi => ?_, by simp, fun i j p q h1 h2 hne => ?_, by simp, nofun⟩
  · cases i with
    | zero => simp only [List.getElem?_cons_zero, Option.some.injEq] at hi; subst hi; exact h
    | succ i => simp at hi
  · cases i with
    | zero => cases j with | zero => exact absurd rfl hne | succ j => simp at h2
    | succ i => simp at h1
theorem Hp.ofBelow (hb : Below w.heap.size w w') : Hp w w' [] [] := (Hp.nil w).call hb
end
def Rd (w : World) (A : Option Addr) (cs : List Value) : Prop := (A = none → cs = []) ∧ ∀ ad, A = some ad → ∀ i v, cs[i]? = some v → w.cell? (ad.add i) = some v
theorem Rd.below {w w' : World} {A : Option Addr} {cs : List Value} (h : Rd w A cs) (hb : Below w.heap.size w w') : Rd w' A cs := ⟨h.1, fun ad e i v hv => pw_cell_below hb (h.2 ad e i v hv)⟩
theorem own_rd {w : World} {base : Nat} {e : TypeId} {sz n : Nat} {v : Value} {xs : List Value} (h : w.ownsRow base e sz v n xs) : ∃ A c, v = .slice A n c ∧ n ≤ c ∧ Rd w A xs ∧ (A = none → c = 0 ∧ n = 0) := by
  obtain ⟨hlen, h2⟩ := h
  have h : w.ownsRow base e sz v n xs := ⟨hlen, h2⟩
  rcases h2 with ⟨rfl, rfl⟩ | ⟨g, cap, cur, rfl, hb, hg, hn, _⟩
  · refine ⟨none, 0, rfl, Nat.le_refl _, ⟨fun _ => List.eq_nil_of_length_eq_zero (by rw [hlen]; simp), fun ad e => (by cases e)⟩, fun _ => And.intro rfl rfl⟩
  · refine ⟨_, cap, rfl, hn, ⟨fun e => (by cases e), fun ad e i v hv => ?_⟩, fun e => (by cases e)⟩
    cases e
    exact h.cells (g := g) rfl i v hv
theorem HpS.rd {s : Bool} {w0 w : World} {l : List Ent} {r : List RowD} (H : HpS s w0 w l r) (k : Nat) {d : RowD} (hk : r[k]? = some d) : ∃ A c, d.v = .slice A d.n c ∧ d.n ≤ c ∧ Rd w A d.cs ∧ (A = none → c = 0 ∧ d.n = 0) := own_rd (H.row k d hk)
def nfL {α β : Type} : List α → (List α → Option β) → Option β
  | [], k => k []
  | x :: xs, k => nfL xs fun l => k (x :: l)
theorem nfL_eq {α β : Type} : ∀ (l : List α) (k : List α → Option β), nfL l k = k l
  | [], _ => rfl
  | x :: xs, k => by rw [nfL, nfL_eq xs]
theorem nfL_some {α : Type} {l m : List α} (h : nfL l some = some m) : m = l := by
  rw [nfL_eq] at h
  exact (Option.some.inj h).symm
def nfO {α β : Type} : List (Option α) → (List α → Option β) → Option β
  | [], k => k []
  | some x :: xs, k => nfO xs fun l => k (x :: l)
  | none :: _, _ => none
theorem nfO_eq {α β : Type} : ∀ (l : List (Option α)) (k : List α → Option β) (z : β), nfO l k = some z → ∃ m, l = m.map some ∧ k m = some z
  | [], k, z, h => ⟨[], rfl, h⟩
  | some x :: xs, k, z, h => by
    obtain ⟨m, h1, h2⟩ := nfO_eq xs _ z h
    exact ⟨x :: m, by rw [h1]; rfl, h2⟩
  | none :: _, k, z, h => by cases h
theorem nfO_some {α : Type} {l : List (Option α)} {m : List α} (h : nfO l some = some m) : l = m.map some := by
  obtain ⟨m', h1, h2⟩ := nfO_eq l some m h
  cases h2
  exact h1
theorem HpS.pick {s : Bool} {w0 w : World} {l l' : List Ent} {r r' : List RowD} (H : HpS s w0 w l r) (ks ms : List Nat) (hk : ks.Nodup) (hm : ms.Nodup) (hl : nfO (ks.map (l[·]?)) some = some l') (hr : nfO (ms.map (r[·]?)) some = some r') : HpS s w0 w l' r' :=
  H.sel ks ms hk hm (nfO_some hl) (nfO_some hr)
def RecOk (P : Program) (t : TypeId) (zs : List Value) : Prop := (∃ d, P.underlying t = some d ∧ d.isRow = true) ∧ (P.info? t).map (fun i => (i.zero.map Value.cells, i.size)) = some (some zs.toArray, zs.length)
abbrev Recs (P : Program) (rt : Nat → Option (List Value)) : Prop := ∀ t zs, rt t = some zs → RecOk P t zs
def fldB (P : Program) (t k : Nat) : Option Nat := match P.underlying t with
  | some (.struct fs) => match fs[k]? with
    | some fd => match P.info? fd.type with
      | some i => bif Nat.beq i.size 0 then none else some fd.offset
      | none => none
    | none => none
  | _ => none
abbrev Flds (P : Program) (fo : Nat → Nat → Option Nat) : Prop := ∀ t k o, fo t k = some o → fldB P t k = some o
abbrev Ones (P : Program) (ty : Nat → Option Ty) : Prop := ∀ t k, ty t = some k → (P.info? t).map (·.size) = some 1
def evF (n : Nat) (f : Fr) (fo : Nat → Nat → Option Nat) : Op → Option Value
  | .fieldAddr s x k => match fo s k, X n f x with
    | some o, .pointer (some ⟨b, i, none⟩) => some (.pointer (some ⟨b, i + o, none⟩))
    | _, _ => none
  | _ => none
def evG (n : Nat) (f : Fr) (fo : Nat → Nat → Option Nat) : Op → Option Value
  | .fieldAddr s x k => match fo s k, X n f x with
    | some o, .pointer (some a) => some (.pointer (some (a.add o)))
    | _, _ => none
  | _ => none
def evOps (n : Nat) (f : Fr) : List (Nat × Operand) → List (Nat × Value)
  | [] => []
  | (i, x) :: r => (i, X n f x) :: evOps n f r
def evBld (n : Nat) (f : Fr) : Op → Option (TypeId × List (Nat × Value))
  | .build t parts => some (t, evOps n f parts.toList)
  | _ => none
section
variable {P : Program} {ty : Nat → Option Ty} {rt : Nat → Option (List Value)} {fo : Nat → Nat → Option Nat} {n : Nat} {f : Fr} {w : World} {o : Oper}
theorem add_lit (b i j : Nat) : (⟨b, i, none⟩ : Addr).add j = ⟨b, i + j, none⟩ := by unfold Addr.add; split <;> simp_all
theorem fld_run {s k o : Nat} {a : Addr} (h : fldB P s k = some o) : (Instr.fieldAt s (.pointer (some a)) k).run P w = .ok (.pointer (some (a.add o))) w := by
  unfold fldB at h
  split at h
  · rename_i fs hs
    split at h
    · rename_i fd hf
      split at h
      · rename_i i hi
        by_cases hz : i.size = 0
        · simp [hz] at h
        · have : Nat.beq i.size 0 = false := by rw [Bool.eq_false_iff]; intro e; exact hz (Nat.eq_of_beq_eq_true e)
          simp only [this, cond_false, Option.some.injEq] at h
          subst h
          simp [Instr.fieldAt, Instr.sureAddr, fieldPlace, sizeOf, typeInfo, run_underlying hs, hf, hi, hz, go_sem]
      · cases h
    · cases h
  · cases h
theorem evF_run (hfo : Flds P fo) {v : Value} (h : evF n f fo o.op = some v) : (execOp (X n f) o).run P w = .ok (.value v) w := by
  unfold evF at h
  split at h
  · rename_i s x k ho
    split at h
    · rename_i off b i h1 h2
      simp only [Option.some.injEq] at h
      subst h
      have := fld_run (P := P) (w := w) (a := ⟨b, i, none⟩) (hfo _ _ _ h1)
      rw [add_lit] at this
      unfold execOp
      simp [ho, h2, this]
    · cases h
  · cases h
theorem evG_run (hfo : Flds P fo) {v : Value} (h : evG n f fo o.op = some v) : (execOp (X n f) o).run P w = .ok (.value v) w := by
  unfold evG at h
  split at h
  · rename_i s x k ho
    split at h
    · rename_i off a h1 h2
      simp only [Option.some.injEq] at h
      subst h
      have := fld_run (P := P) (w := w) (a := a) (hfo _ _ _ h1)
      unfold execOp
      simp [ho, h2, this]
    · cases h
  · cases h
theorem evOps_eq (n : Nat) (f : Fr) : ∀ l : List (Nat × Operand), evOps n f l = l.map fun (i, x) => (i, X n f x)
  | [] => rfl
  | (i, x) :: r => by rw [evOps, evOps_eq n f r]; rfl
theorem evBld_run {t : TypeId} {ps : List (Nat × Value)} {cs : Array Value} (h : evBld n f o.op = some (t, ps)) (hc : P.built t ps = some cs) : (execOp (X n f) o).run P w = .ok (.value (.agg cs)) w := by
  unfold evBld at h
  split at h
  · rename_i t1 parts ho
    simp only [Option.some.injEq, Prod.mk.injEq] at h
    obtain ⟨rfl, rfl⟩ := h
    have := run_build (P := P) w t1 (parts.map fun (i, x) => (i, X n f x)) cs (by rw [Array.toList_map, ← evOps_eq]; exact hc)
    unfold execOp
    simp [ho, this]
  · cases h
def evLR (n : Nat) (f : Fr) : Op → Option (TypeId × Nat × Nat)
  | .load t x => match X n f x with
    | .pointer (some ⟨g, i, none⟩) => some (t, g, i)
    | _ => none
  | _ => none
theorem evLR_run (hrt : Recs P rt) {t : TypeId} {g i : Nat} {cs zs : List Value} (h : evLR n f o.op = some (t, g, i)) (hz : rt t = some zs) (hc : w.rangeAt g i cs) (hs : cs.length = zs.length) : (execOp (X n f) o).run P w = .ok (.value (.agg cs.toArray)) w := by
  unfold evLR at h
  split at h
  · rename_i t1 x ho
    split at h
    · rename_i g1 i1 hx
      simp only [Option.some.injEq, Prod.mk.injEq] at h
      obtain ⟨rfl, rfl, rfl⟩ := h
      obtain ⟨⟨d, h1, h2⟩, h3⟩ := hrt _ _ hz
      have hsz : (P.info? t1).map (·.size) = some cs.length := by
        obtain ⟨i0, hi, h4⟩ := Option.map_eq_some_iff.1 h3
        simp only [Prod.mk.injEq] at h4
        rw [hi, hs, ← h4.2]; rfl
      have := run_loadAt_mid (P := P) w g1 i1 t1 cs d hc h1 h2 hsz
      unfold execOp
      simp [ho, hx, this]
    · cases h
  · cases h
def evLA (n : Nat) (f : Fr) : Op → Option (TypeId × Addr)
  | .load t x => match X n f x with
    | .pointer (some a) => some (t, a)
    | _ => none
  | _ => none
theorem evLA_run (hrt : Recs P rt) {t : TypeId} {a : Addr} {cs zs : List Value} (h : evLA n f o.op = some (t, a)) (hz : rt t = some zs) (hc : ∀ j v, cs[j]? = some v → w.cell? (a.add j) = some v) (hs : cs.length = zs.length) : (execOp (X n f) o).run P w = .ok (.value (.agg cs.toArray)) w := by
  unfold evLA at h
  split at h
  · rename_i t1 x ho
    split at h
    · rename_i a1 hx
      simp only [Option.some.injEq, Prod.mk.injEq] at h
      obtain ⟨rfl, rfl⟩ := h
      obtain ⟨⟨d, h1, h2⟩, h3⟩ := hrt _ _ hz
      obtain ⟨i0, hi, h4⟩ := Option.map_eq_some_iff.1 h3
      simp only [Prod.mk.injEq] at h4
      have hl : (loadCells a1 cs.length).run P w = .ok cs.toArray w := run_loadCells_list (P := P) w a1 cs hc
      have hagg : (isAgg t1).run P w = .ok true w := by
        unfold isAgg
        rw [Sem.run_bind, run_underlying h1 w]
        cases d <;> simp_all
      have hsz : i0.size = cs.length := by rw [hs, ← h4.2]
      unfold execOp
      simp [ho, hx, Instr.loadAt, Instr.sureAddr, loadVar, Sem.run_bind, hagg, sizeOf, typeInfo, hi, hsz, hl]
    · cases h
  · cases h
theorem Rd.part {ad : Addr} {cs : List Value} (h : Rd w (some ad) cs) (m : Nat) {vs : List Value} (hv : ∀ (j : Nat) (v : Value), vs[j]? = some v → cs[m + j]? = some v) : ∀ (j : Nat) (v : Value), vs[j]? = some v → w.cell? ((ad.add m).add j) = some v := by
  intro j v hj
  rw [add_add]
  exact h.2 ad rfl _ v (hv j v hj)
theorem HpS.range {s : Bool} {w0 : World} {l : List Ent} {r : List RowD} (H : HpS s w0 w l r) (k : Nat) {g : Nat} {t : TypeId} {cs : List Value} (hk : l[k]? = some (g, t, cs)) : w.rangeAt g 0 cs := by
  intro j v hv
  rw [Nat.zero_add]
  exact H.cellAt k hk hv
end
section
variable {s : Bool} {P : Program} {ty : Nat → Option Ty} {rt : Nat → Option (List Value)} {fo : Nat → Nat → Option Nat} {n : Nat} {ops : Array Oper} {Q : Exit → Act → World → Prop} {rest : List Oper} {f : Fr} {w0 w : World} {l l' : List Ent} {r r' : List RowD} {d : Option Nat} {op : Op} {tt : TypeId} {ps : String} {af : Array Edge} {gd : Option (Nat × Bool)}
theorem h_valw {v : Value} {w' : World} (hw : want n ops f ⟨d, op, tt, ps, af, gd⟩ = true) (hv : (execOp (X n f) ⟨d, op, tt, ps, af, gd⟩).run P w = .ok (.value v) w') (h : WL P ops Q rest (act n (put f d v)) w') : WL P ops Q (⟨d, op, tt, ps, af, gd⟩ :: rest) (act n f) w := by
  refine ⟨?_⟩
  have h := h.out
  simp only [wpList, want_eq, hw, if_true]
  left
  unfold Oper.wp
  rw [eval_act, hv]
  simp only [Oper.upon, put_act]
  exact h
theorem h_skip {w' : World} (hw : want n ops f ⟨none, op, tt, ps, af, gd⟩ = true) (hv : (execOp (X n f) ⟨none, op, tt, ps, af, gd⟩).run P w = .ok .skip w') (h : WL P ops Q rest (act n f) w') : WL P ops Q (⟨none, op, tt, ps, af, gd⟩ :: rest) (act n f) w := by
  refine ⟨?_⟩
  have h := h.out
  simp only [wpList, want_eq, hw, if_true]
  left
  unfold Oper.wp
  rw [eval_act, hv]
  simp only [Oper.upon, put_act]
  exact h
theorem h_fa (hfo : Flds P fo) {v : Value} (hw : want n ops f ⟨d, op, tt, ps, af, gd⟩ = true) (he : evF n f fo op = some v) (h : WL P ops Q rest (act n (put f d v)) w) : WL P ops Q (⟨d, op, tt, ps, af, gd⟩ :: rest) (act n f) w :=
  l_val hw (evF_run (o := ⟨d, op, tt, ps, af, gd⟩) hfo he) h
theorem h_bld {t : TypeId} {qs : List (Nat × Value)} {cs : Array Value} (hw : want n ops f ⟨d, op, tt, ps, af, gd⟩ = true) (he : evBld n f op = some (t, qs)) (hc : P.built t qs = some cs) (h : WL P ops Q rest (act n (put f d (.agg cs))) w) : WL P ops Q (⟨d, op, tt, ps, af, gd⟩ :: rest) (act n f) w :=
  l_val hw (evBld_run (o := ⟨d, op, tt, ps, af, gd⟩) he hc) h
theorem h_alloc (hrt : Recs P rt) (H : HpS s w0 w l r) {t : TypeId} {zs : List Value} (hw : want n ops f ⟨d, .alloc t, tt, ps, af, gd⟩ = true) (hz : rt t = some zs)
    (h : ∀ g w', HpS s w0 w' ((g, t, zs) :: l) r → WL P ops Q rest (act n (put f d (.pointer (some ⟨g, 0, none⟩)))) w') : WL P ops Q (⟨d, .alloc t, tt, ps, af, gd⟩ :: rest) (act n f) w := by
  refine h_valw hw ?_ (h w.heap.size _ (H.push t zs))
  obtain ⟨_, h3⟩ := hrt _ _ hz
  obtain ⟨i0, hi, h4⟩ := Option.map_eq_some_iff.1 h3
  simp only [Prod.mk.injEq] at h4
  obtain ⟨z, hz0, hzc⟩ := Option.map_eq_some_iff.1 h4.1
  unfold execOp
  have hn : (Instr.alloc t true (.tuple #[])).run P w = .ok (.pointer (some ⟨w.heap.size, 0, none⟩)) (w.alloc (.cells z.cells t)) := by
    simp [Instr.alloc, zeroValue, typeInfo, hi, hz0, newVar, newRow, go_sem]
  rw [hzc] at hn
  simp [hn]
theorem h_box (H : HpS s w0 w l r) {t : TypeId} {x : Operand} {v : Value} {cs : List Value} (hw : want n ops f ⟨d, .box t x, tt, ps, af, gd⟩ = true) (hx : nf (X n f x) = some v) (hc : nfL v.cells.toList some = some cs)
    (h : ∀ g w', HpS s w0 w' ((g, t, cs) :: l) r → WL P ops Q rest (act n (put f d (.pointer (some ⟨g, 0, none⟩)))) w') : WL P ops Q (⟨d, .box t x, tt, ps, af, gd⟩ :: rest) (act n f) w := by
  have e := nf_eq hx
  have e2 := nfL_some hc
  subst e2
  have H1 := H.push t v.cells.toList
  refine h_valw hw ?_ (h w.heap.size _ H1)
  unfold execOp
  simp [Instr.box, newVar, newRow, e, go_sem]
theorem h_ld (hty : Tys P ty) (H : HpS s w0 w l r) (k : Nat) {g i : Nat} {t : TypeId} {cs : List Value} {v : Value} (hw : want n ops f ⟨d, op, tt, ps, af, gd⟩ = true) (he : evL n f ty op = some ⟨g, i, none⟩) (hk : l[k]? = some (g, t, cs)) (hi : cs[i]? = some v)
    (h : WL P ops Q rest (act n (put f d v)) w) : WL P ops Q (⟨d, op, tt, ps, af, gd⟩ :: rest) (act n f) w :=
  l_val hw (evL_run (o := ⟨d, op, tt, ps, af, gd⟩) hty he (H.cellAt k hk hi)) h
theorem h_ldR (hrt : Recs P rt) (H : HpS s w0 w l r) (k : Nat) {g : Nat} {t t2 : TypeId} {cs zs : List Value} (hw : want n ops f ⟨d, op, tt, ps, af, gd⟩ = true) (he : evLR n f op = some (t, g, 0)) (hz : rt t = some zs) (hk : l[k]? = some (g, t2, cs)) (hs : cs.length = zs.length)
    (h : WL P ops Q rest (act n (put f d (.agg cs.toArray))) w) : WL P ops Q (⟨d, op, tt, ps, af, gd⟩ :: rest) (act n f) w :=
  l_val hw (evLR_run (o := ⟨d, op, tt, ps, af, gd⟩) hrt he hz (H.range k hk) hs) h
theorem h_ldA (hrt : Recs P rt) {t : TypeId} {a : Addr} {cs zs : List Value} (hc : ∀ (j : Nat) (v : Value), cs[j]? = some v → w.cell? (a.add j) = some v) (hw : want n ops f ⟨d, op, tt, ps, af, gd⟩ = true) (he : evLA n f op = some (t, a)) (hz : rt t = some zs) (hs : cs.length = zs.length)
    (h : WL P ops Q rest (act n (put f d (.agg cs.toArray))) w) : WL P ops Q (⟨d, op, tt, ps, af, gd⟩ :: rest) (act n f) w :=
  l_val hw (evLA_run (o := ⟨d, op, tt, ps, af, gd⟩) hrt he hz hc hs) h
def evSt (n : Nat) (f : Fr) : Op → Option (TypeId × Nat × Nat × Value)
  | .store t x y => match X n f x, nf (X n f y) with
    | .pointer (some ⟨g, i, none⟩), some v => some (t, g, i, v)
    | _, _ => none
  | _ => none
theorem drawn_setCells {g : Nat} : ∀ (vs : List Value) (o : Nat) (w : World), (w.setCells g o vs).drawn = w.drawn
  | [], _, w => rfl
  | v :: vs, o, w => drawn_setCells vs (o + 1) (w.setCell ⟨g, o, none⟩ v)
theorem grown_setCells {g : Nat} : ∀ (vs : List Value) (o : Nat) (w : World), w.grownBy (w.setCells g o vs) (some g)
  | [], _, w => World.grownBy.refl w _
  | v :: vs, o, w => by
    have h1 : w.grownBy (w.setCell ⟨g, o, none⟩ v) (some g) := ⟨rfl, rfl, rfl, by simp [World.setCell], fun k hk hne => Below.heap_setCell w _ v k (fun e => hne (by rw [e]))⟩
    exact World.grownBy.trans h1 (grown_setCells vs (o + 1) _)
theorem heap_setCells {g : Nat} {t : TypeId} {fr : Nat × Nat} : ∀ (vs : List Value) (o : Nat) (w : World) (cur : List Value), w.heap[g]? = some (.cells cur.toArray t (0, 0)) → o + vs.length ≤ cur.length → (w.setCells g o vs).heap[g]? = some (.cells (cur.take o ++ vs ++ cur.drop (o + vs.length)).toArray t (0, 0))
  | [], o, w, cur, h, _ => by simpa [World.setCells] using h
  | v :: vs, o, w, cur, h, hl => by
    have h1 : (w.setCell ⟨g, o, none⟩ v).heap[g]? = some (.cells (cur.set o v).toArray t (0, 0)) := by
      have := blk_set h o v
      rw [this]; simp
    have h2 := heap_setCells (fr := fr) vs (o + 1) _ (cur.set o v) h1 (by simp at hl ⊢; omega)
    show ((w.setCell ⟨g, o, none⟩ v).setCells g (o + 1) vs).heap[g]? = _
    rw [h2]
    have hol : o < cur.length := by simp at hl; omega
    have e1 : (cur.set o v).take (o + 1) = cur.take o ++ [v] := by
      rw [List.take_set, List.take_succ_eq_append_getElem hol, List.set_append_right _ _ (by simp; omega)]
      simp [Nat.min_eq_left (Nat.le_of_lt hol)]
    have e2 : (cur.set o v).drop (o + 1 + vs.length) = cur.drop (o + (v :: vs).length) := by
      rw [List.drop_set_of_lt (by omega)]
      congr 1
      simp; omega
    rw [e1, e2]
    simp
theorem h_st (hty : Tys P ty) (ones : Ones P ty) (H : HpS s w0 w l r) (k : Nat) {g i : Nat} {t t2 : TypeId} {τ : Ty} {cs cs' : List Value} {v : Value} (hw : want n ops f ⟨none, op, tt, ps, af, gd⟩ = true) (he : evSt n f op = some (t, g, i, v)) (ht : ty t = some τ) (hk : l[k]? = some (g, t2, cs)) (hi : Nat.blt i cs.length = true) (h1 : v.oneCell' = true) (hv : v.cells = #[v]) (hc : nfL (cs.set i v) some = some cs')
    (hl : nfL (l.set k (g, t2, cs')) some = some l') (h : ∀ w', HpS s w0 w' l' r → WL P ops Q rest (act n f) w') : WL P ops Q (⟨none, op, tt, ps, af, gd⟩ :: rest) (act n f) w := by
  have e1 := nfL_some hc
  have e2 := nfL_some hl
  subst e1 e2
  have hil : i < cs.length := by simpa [Nat.blt_eq] using hi
  unfold evSt at he
  split at he
  · rename_i t0 x y
    split at he
    · rename_i g0 i0 v0 hx hy
      simp only [Option.some.injEq, Prod.mk.injEq] at he
      obtain ⟨rfl, rfl, rfl, rfl⟩ := he
      have hy := nf_eq hy
      have hb := H.get k hk
      have hr := run_store_run (P := P) (o := i0) t0 v0 [v0] hb (by rw [hv]) (ones _ _ ht) (by simp; omega) (by simpa using h1)
      have hh := heap_setCells (fr := (0, 0)) [v0] i0 w cs hb (by simp; omega)
      have e3 : cs.take i0 ++ [v0] ++ cs.drop (i0 + [v0].length) = cs.set i0 v0 := by
        rw [List.set_eq_take_append_cons_drop, if_pos hil]; simp
      rw [e3] at hh
      refine h_skip hw ?_ (h _ (H.upd k hk (grown_setCells [v0] i0 w) hh (fun _ => Nat.le_of_eq (drawn_setCells _ _ _).symm)))
      unfold execOp
      simp [hx, ← hy, hr]
    · cases he
  · cases he
theorem h_stR (hrt : Recs P rt) (H : HpS s w0 w l r) (k : Nat) {g : Nat} {t t2 : TypeId} {cs cs' zs : List Value} {a : Array Value} (hw : want n ops f ⟨none, op, tt, ps, af, gd⟩ = true) (he : evSt n f op = some (t, g, 0, .agg a)) (hz : rt t = some zs) (hk : l[k]? = some (g, t2, cs)) (hs : cs.length = zs.length) (hc : nfL a.toList some = some cs') (hs2 : cs'.length = zs.length) (h1 : cs'.all (·.oneCell') = true)
    (hl : nfL (l.set k (g, t2, cs')) some = some l') (h : ∀ w', HpS s w0 w' l' r → WL P ops Q rest (act n f) w') : WL P ops Q (⟨none, op, tt, ps, af, gd⟩ :: rest) (act n f) w := by
  have e1 := nfL_some hc
  have e2 := nfL_some hl
  subst e1 e2
  unfold evSt at he
  split at he
  · rename_i t0 x y
    split at he
    · rename_i g0 i0 v0 hx hy
      simp only [Option.some.injEq, Prod.mk.injEq] at he
      obtain ⟨rfl, rfl, rfl, rfl⟩ := he
      have hy := nf_eq hy
      have hb := H.get k hk
      obtain ⟨_, h3⟩ := hrt _ _ hz
      have hsz : (P.info? t0).map (·.size) = some a.toList.length := by
        obtain ⟨i0, hi, h4⟩ := Option.map_eq_some_iff.1 h3
        simp only [Prod.mk.injEq] at h4
        rw [hi, hs2, ← h4.2]; rfl
      have hr := run_store_run (P := P) (o := 0) t0 (.agg a) a.toList hb (by simp [Value.cells]) hsz (by rw [List.size_toArray]; omega) (fun q hq => List.all_eq_true.1 h1 q hq)
      have hh := heap_setCells (fr := (0, 0)) a.toList 0 w cs hb (by omega)
      have e3 : cs.take 0 ++ a.toList ++ cs.drop (0 + a.toList.length) = a.toList := by
        rw [List.drop_eq_nil_of_le (by omega)]; simp
      rw [e3] at hh
      refine h_skip hw ?_ (h _ (H.upd k hk (grown_setCells a.toList 0 w) hh (fun _ => Nat.le_of_eq (drawn_setCells _ _ _).symm)))
      unfold execOp
      simp [hx, ← hy, hr]
    · cases he
  · cases he
end
section
variable {P : Program} {n : Nat} {ops : Array Oper} {Q : Exit → Act → World → Prop} {S : World → Prop} {f : Fr} {w : World}
theorem d_start {id m : Nat} {a : Act} (S : World → Prop) (l : Array Bool) (hm : P.follows .mixedOrders = true) (hn : ops.size = m) (hl : Array.replicate m false = l) (hS : S w.drew)
    (h : WA P .any ops Q S [] m l a w.drew) : (Code.region id ops true).wp P Q a w := start_ l hm hn hl hS (fun _ => h.out)
theorem d_pure {i fuel : Nat} {l : Array Bool} {o : Oper} {v : Value} (l' : Array Bool) (hi : ops[i]? = some o) (hc : anyB .any ops l l' i = true) (hQ : ∀ c a w, Q (.panic c) (a.put o.dst v) w → Q (.panic c) a w)
    (hw : want n ops f o = true) (hv : ∀ w, (execOp (X n f) o).run P w = .ok (.value v) w) (h : WA P .any ops Q S [] fuel l' (act n (put f o.dst v)) w) : WA P .any ops Q S [] (fuel + 1) l (act n f) w :=
  ⟨pure_ l' hi rfl hc hQ (Or.inl ⟨by rw [want_eq]; exact hw, fun w => by rw [eval_act]; exact hv w⟩) (put_act n f _ v) h.out⟩
theorem d_off {i fuel : Nat} {l : Array Bool} {o : Oper} (l' : Array Bool) (hi : ops[i]? = some o) (hc : anyB .any ops l l' i = true) (hQ : ∀ c a w, Q (.panic c) (a.put o.dst undef) w → Q (.panic c) a w)
    (hw : want n ops f o = false) (h : WA P .any ops Q S [] fuel l' (act n (put f o.dst undef)) w) : WA P .any ops Q S [] (fuel + 1) l (act n f) w :=
  ⟨pure_ l' hi rfl hc hQ (Or.inr ⟨by rw [want_eq]; exact hw, rfl⟩) (put_act n f _ undef) h.out⟩
theorem d_take {i fuel : Nat} {l : Array Bool} {o : Oper} {v : Value} (l' : Array Bool) (hi : ops[i]? = some o) (hc : takeB .any ops [] l l' i = true) (hQ : ∀ c a w, Q (.panic c) (a.put o.dst v) w → Q (.panic c) a w)
    (hw : want n ops f o = true) (hv : ∀ w, S w → (execOp (X n f) o).run P w = .ok (.value v) w) (hS : S w) (h : WA P .any ops Q S [] fuel l' (act n (put f o.dst v)) w) : WA P .any ops Q S [] (fuel + 1) l (act n f) w :=
  ⟨take_ l' hi rfl hc hQ (Or.inl ⟨by rw [want_eq]; exact hw, fun w hS => by rw [eval_act]; exact hv w hS⟩) hS (put_act n f _ v) h.out⟩
theorem d_one {i fuel : Nat} {l : Array Bool} {o : Oper} (l' : Array Bool) (hi : ops[i]? = some o) (hc : readyB .any ops l l' i = true) (hw : want n ops f o = true)
    (h : WL P ops (fun ex a' w' => ex = .normal ∧ S w' ∧ WA P .any ops Q S [] fuel l' a' w') [o] (act n f) w) : WA P .any ops Q S [] (fuel + 1) l (act n f) w := by
  have h := h.out
  refine ⟨?_⟩
  refine one_ l' hi rfl hc (by simp) (fun K hK => ?_)
  have hw' : Region.wanted o (yielded ops (act n f).tmps) = true := by rw [want_eq]; exact hw
  rw [if_pos hw']
  simp only [wpList, hw', if_true] at h
  rcases h with h | ⟨_, _, _, h, _⟩
  · refine Oper.wp_mono (fun a' w' hk => hK.out a' w' hk.1 (fun _ => hk.2.out)) (wp_of_normal (K := fun a' w' => S w' ∧ WA P .any ops Q S [] fuel l' a' w') ?_)
    exact Oper.wp_mono (fun a' w' hk => hk.2) h
  · cases h
theorem d_done {l : Array Bool} {m : Nat} {a : Act} (hr : (Region.ready .any ops l == []) = true) (h : Q .normal a w) : WA P .any ops Q S [] m l a w := ⟨done_ hr h⟩
end
section
variable {s : Bool} {P : Program} {rt : Nat → Option (List Value)} {n : Nat} {f : Fr} {w0 w : World} {l : List Ent} {r : List RowD}
theorem rec_size (hrt : Recs P rt) {t : TypeId} {cs zs : List Value} (hz : rt t = some zs) (hs : cs.length = zs.length) : (∃ d, P.underlying t = some d ∧ (match d with | .struct _ | .array _ _ => true | _ => false) = true) ∧ (P.info? t).map (·.size) = some cs.toArray.size := by
  obtain ⟨⟨d, h1, h2⟩, h3⟩ := hrt _ _ hz
  refine ⟨⟨d, h1, h2⟩, ?_⟩
  obtain ⟨i0, hi, h4⟩ := Option.map_eq_some_iff.1 h3
  simp only [Prod.mk.injEq] at h4
  rw [hi, List.size_toArray, hs, ← h4.2]; rfl
theorem end_ct {fn : Func} {R : Ending → World → Prop} {p u : Tmp} {ty : TypeId} (hrt : Recs P rt) (H : HpS s w0 w l r) (k : Nat) {g : Nat} {t : TypeId} {cs zs : List Value} {v : Value} (hr : fn.results = #[.cell p ty, .tmp u]) (hp : X n f (.tmp p) = .pointer (some ⟨g, 0, none⟩)) (hk : l[k]? = some (g, t, cs)) (hz : rt ty = some zs) (hs : cs.length = zs.length) (hv : nf (X n f (.tmp u)) = some v)
    (h : R (.returned (.tuple #[.agg cs.toArray, v])) w) : bodyPost P fn R .ret (act n f) w := by
  obtain ⟨⟨d, h1, h2⟩, h3⟩ := rec_size hrt hz hs
  refine bodyPost_ret (results_ct hr _ w g t cs.toArray (0, 0) d (by rw [show (act n f).tmps = arr n f from rfl, getD_arr]; exact hp) (H.get k hk) h1 (by cases d <;> simp_all) h3) rfl ?_
  rw [show (act n f).tmps = arr n f from rfl, getD_arr, ← nf_eq hv]
  exact h
theorem h_bs {ops : Array Oper} {Q : Exit → Act → World → Prop} {rest : List Oper} {d : Option Nat} {tt : TypeId} {ps : String} {af : Array Edge} (H : HpS s w0 w l r) {t e : TypeId} {x : Operand} {v : Value} {cs : List Value} {z : Value} {sz by_ : Nat}
    (hinfo : (P.info? e).map (fun i => (i.zero, i.size, i.bytes)) = some (some z, sz, by_)) (hu : P.underlying t = some (.slice e)) (h0 : 0 < sz) (hm : sz ≤ 16777216) (hx : nf (X n f x) = some v) (hc : nfL v.cells.toList some = some cs)
    (hf : Instr.fill (fun i => some (i * sz, sz)) ((Array.range (1 * sz)).map (z.cells[· % z.cells.size]!)) [(0, v)] = some cs.toArray)
    (h : ∀ g w', HpS s w0 w' ((g, e, cs) :: l) r → WL P ops Q rest (act n (put f d (.slice (some ⟨g, 0, none⟩) 1 1))) w') : WL P ops Q (⟨d, .buildSlice t 1 #[(0, x)], tt, ps, af, none⟩ :: rest) (act n f) w := by
  have e1 := nf_eq hx
  obtain ⟨i0, hi, hz⟩ := Option.map_eq_some_iff.1 hinfo
  simp only [Prod.mk.injEq] at hz
  obtain ⟨hz0, hz1, hz2⟩ := hz
  subst hz1
  refine ⟨wpList_buildSlice rfl t e 1 _ rfl cs.toArray i0 z hu hi hz0 (by omega) (by omega) ?_ (by rw [put_act]; exact (h w.heap.size _ (H.push e cs)).out)⟩
  rw [eval_act]
  simpa [← e1] using hf
theorem h_app {ops : Array Oper} {Q : Exit → Act → World → Prop} {rest : List Oper} {d : Option Nat} {tt : TypeId} {ps : String} {af : Array Edge} {op : Op} (H : Hp w0 w l r) (k : Nat) {q : RowD} {t : TypeId} {A : Option Addr} {m c : Nat} {ys : List Value} {z : Value} {by_ : Nat}
    (hk : r[k]? = some q) (hinfo : (P.info? q.e).map (fun i => (i.zero, i.size, i.bytes)) = some (some z, q.sz, by_)) (hu : P.underlying t = some (.slice q.e)) (he : evApp n f op = some (t, q.v, .slice A m c)) (hzs : z.cells.size = q.sz) (h0 : Nat.ble 1 q.sz = true) (hb0 : Nat.ble 1 by_ = true)
    (HR : Rd w A ys) (hm : ys.length = m * q.sz) (h1 : ys.all (·.oneCell') = true) (hl : (q.n + m) * by_ ≤ 140737488355328)
    (h : ∀ v w', (∃ A' c', v = .slice A' (q.n + m) c') → Hp w0 w' l (r.set k ⟨v, q.e, q.sz, q.n + m, q.cs ++ ys⟩) → WL P ops Q rest (act n (put f d v)) w') : WL P ops Q (⟨d, op, tt, ps, af, none⟩ :: rest) (act n f) w := by
  replace h0 : 0 < q.sz := Nat.le_of_ble_eq_true h0
  replace hb0 : 0 < by_ := Nat.le_of_ble_eq_true hb0
  obtain ⟨i0, hi, hzz⟩ := Option.map_eq_some_iff.1 hinfo
  simp only [Prod.mk.injEq] at hzz
  obtain ⟨hz0, hz1, hz2⟩ := hzz
  have HO := H.row k q hk
  have hlen : q.n + m ≤ 140737488355328 := Nat.le_trans (Nat.le_mul_of_pos_right _ hb0) hl
  have h1' : ∀ u ∈ ys, u.oneCell' = true := fun u hu => List.all_eq_true.1 h1 u hu
  have hrun : ∃ v1 w1, (Builtin.append_ #[t, t] tt #[q.v, .slice A m c]).run P w = .ok v1 w1 ∧ w1.ownsRow w0.heap.size q.e q.sz v1 (q.n + m) (q.cs ++ ys) ∧ w.grownBy w1 q.v.ownBlock ∧ (v1.ownBlock = q.v.ownBlock ∨ v1.ownBlock = some w.heap.size) := by
    rcases A with _ | ad
    · obtain rfl : ys = [] := HR.1 rfl
      have hm0 : m = 0 := by
        rcases Nat.eq_zero_or_pos m with h | h
        · exact h
        · have := Nat.mul_pos h h0
          simp only [List.length_nil] at hm
          omega
      subst hm0
      refine ⟨q.v, w, ?_, by simpa using HO, World.grownBy.refl w _, .inl rfl⟩
      rcases HO.2 with ⟨e1, hn⟩ | ⟨g, cap, cur, e1, _, _, hnc, _⟩
      · rw [e1]; simp [Builtin.append_, run_underlying hu, sizeOf, typeInfo, hi, Builtin.lenOf, Builtin.firstCells]
      · rw [e1]; simp [Builtin.append_, run_underlying hu, sizeOf, typeInfo, hi, Builtin.lenOf, Builtin.firstCells, hnc, storeCells]
    · obtain ⟨v1, w1, hr, h2, h3, _, h5⟩ := run_append_own_at (P := P) w w0.heap.size t tt q.e i0 z q.sz by_ hu hi hz0 hz1 hz2 hzs h0 q.v q.n q.cs HO ad m c ys hm (fun j u hj => HR.2 ad rfl j u hj) h1' (by simp only [maxLen]; omega) hl H.B.size
      exact ⟨v1, w1, hr, h2, h3, h5⟩
  obtain ⟨v1, w1, hrr, hown, hg, hat⟩ := hrun
  have H1 := H.put (d' := ⟨v1, q.e, q.sz, q.n + m, q.cs ++ ys⟩) k hk hg hown (by
    rcases hat with hat | hat
    · exact .inl hat
    · exact .inr ⟨_, hat, Nat.le_refl _⟩)
  obtain ⟨A', c', hv⟩ := own_slice hown
  unfold evApp at he
  split at he
  · rename_i cc
    split at he
    · rename_i x y t1 t2 h2 h3 h4
      by_cases ht : t1 = t2
      · subst ht
        simp only [Nat.beq_refl, cond_true, Option.some.injEq, Prod.mk.injEq] at he
        obtain ⟨rfl, he1, he2⟩ := he
        have hargs : cc.args = #[x, y] := by rw [← Array.toList_inj]; exact h3
        have htys : cc.argTypes = #[t1, t1] := by rw [← Array.toList_inj]; exact h4
        have ho : Op.call cc = .call { callee := .builtin .append, args := #[x, y], argTypes := #[t1, t1] } := by
          cases cc
          simp_all
        rw [ho]
        refine ⟨?_⟩
        refine wpList_plain rfl fun K hK => ?_
        unfold Oper.wp execOp
        rw [eval_act]
        simp only [resolve, invoke, builtin, Sem.run_bind, Sem.run_pure, Result.andThen_ok, List.map_toArray, List.map_cons, List.map_nil, he1, he2, hrr]
        refine hK _ _ ?_
        rw [put_act]
        exact (h v1 w1 ⟨A', c', hv⟩ H1).out
      · exfalso
        have : Nat.beq t1 t2 = false := by rw [Bool.eq_false_iff]; intro hb; exact ht (Nat.eq_of_beq_eq_true hb)
        simp [this] at he
    · cases he
  · cases he
theorem HpS.cellRd (H : HpS s w0 w l r) (k : Nat) {g : Nat} {t : TypeId} {cs : List Value} (hk : l[k]? = some (g, t, cs)) : Rd w (some ⟨g, 0, none⟩) cs :=
  ⟨fun e => (by cases e), fun ad e i v hv => (by cases e; rw [add_lit, Nat.zero_add]; exact H.cellAt k hk hv)⟩
end
theorem reads_of_rd {w : World} {k : IntKind} {A : Option Addr} {xs : List Int} (h : Rd w A (nums k xs)) (hl : xs.length ≤ 9223372036854775807) : ReadsInt w k A xs.length xs := by
  refine ⟨rfl, hl, fun h0 => ?_⟩
  cases A with
  | none =>
    have := h.1 rfl
    rw [nums, List.map_eq_nil_iff] at this
    rw [this] at h0
    simp at h0
  | some ad =>
    refine ⟨ad, rfl, fun j hj => h.2 ad rfl j _ ?_⟩
    rw [nums, List.getElem?_map, List.getElem?_eq_getElem hj, List.getD_eq_getElem?_getD, List.getElem?_eq_getElem hj]
    rfl
section
variable {P : Program} {Q : Exit → Act → World → Prop} {a : Act} {w : World}
theorem p_sn (h : Q .normal a w) : Exit.noGoto Q .normal a w := h
theorem p_sr (h : Q .ret a w) : Exit.noGoto Q .ret a w := h
theorem p_sx {id : Nat} (h : Q (.exit id) a w) : Exit.noGoto Q (.exit id) a w := h
end
section
variable {P : Program} {n : Nat} {ops : Array Oper} {Q : Exit → Act → World → Prop} {rest : List Oper} {f : Fr} {w : World} {d : Option Nat} {tt : TypeId} {ps : String} {af : Array Edge} {gd : Option (Nat × Bool)}
theorem g_on {op : Op} (h : WL P ops Q (⟨d, op, tt, ps, af, none⟩ :: rest) (act n f) w) : WL P ops Q (⟨d, op, tt, ps, af, none⟩ :: rest) (act n f) w := h
theorem g_if {op : Op} {g : Nat × Bool} (h : WL P ops Q (⟨d, op, tt, ps, af, some g⟩ :: rest) (act n f) w) : WL P ops Q (⟨d, op, tt, ps, af, some g⟩ :: rest) (act n f) w := h
theorem g_ld {t : TypeId} {x : Operand} (h : WL P ops Q (⟨d, .load t x, tt, ps, af, gd⟩ :: rest) (act n f) w) : WL P ops Q (⟨d, .load t x, tt, ps, af, gd⟩ :: rest) (act n f) w := h
theorem g_st {t : TypeId} {x y : Operand} (h : WL P ops Q (⟨none, .store t x y, tt, ps, af, gd⟩ :: rest) (act n f) w) : WL P ops Q (⟨none, .store t x y, tt, ps, af, gd⟩ :: rest) (act n f) w := h
theorem g_fa {s : TypeId} {x : Operand} {k : Nat} (h : WL P ops Q (⟨d, .fieldAddr s x k, tt, ps, af, gd⟩ :: rest) (act n f) w) : WL P ops Q (⟨d, .fieldAddr s x k, tt, ps, af, gd⟩ :: rest) (act n f) w := h
theorem g_al {t : TypeId} (h : WL P ops Q (⟨d, .alloc t, tt, ps, af, gd⟩ :: rest) (act n f) w) : WL P ops Q (⟨d, .alloc t, tt, ps, af, gd⟩ :: rest) (act n f) w := h
theorem g_mv {x : Operand} (h : WL P ops Q (⟨d, .move x, tt, ps, af, gd⟩ :: rest) (act n f) w) : WL P ops Q (⟨d, .move x, tt, ps, af, gd⟩ :: rest) (act n f) w := h
theorem g_as {x : Operand} (h : WL P ops Q (⟨d, .assign x, tt, ps, af, gd⟩ :: rest) (act n f) w) : WL P ops Q (⟨d, .assign x, tt, ps, af, gd⟩ :: rest) (act n f) w := h
theorem g_ex {x : Operand} {k : Nat} (h : WL P ops Q (⟨d, .extract x k, tt, ps, af, gd⟩ :: rest) (act n f) w) : WL P ops Q (⟨d, .extract x k, tt, ps, af, gd⟩ :: rest) (act n f) w := h
theorem g_pk {x y z : Operand} (h : WL P ops Q (⟨d, .pick x y z, tt, ps, af, gd⟩ :: rest) (act n f) w) : WL P ops Q (⟨d, .pick x y z, tt, ps, af, gd⟩ :: rest) (act n f) w := h
theorem g_un {u : UnOp} {t : TypeId} {x : Operand} (h : WL P ops Q (⟨d, .unOp u t x, tt, ps, af, gd⟩ :: rest) (act n f) w) : WL P ops Q (⟨d, .unOp u t x, tt, ps, af, gd⟩ :: rest) (act n f) w := h
theorem g_cl {c : Call} (h : WL P ops Q (⟨d, .call c, tt, ps, af, gd⟩ :: rest) (act n f) w) : WL P ops Q (⟨d, .call c, tt, ps, af, gd⟩ :: rest) (act n f) w := h
theorem g_ia {t : TypeId} {x y : Operand} (h : WL P ops Q (⟨d, .indexAddr t x y, tt, ps, af, gd⟩ :: rest) (act n f) w) : WL P ops Q (⟨d, .indexAddr t x y, tt, ps, af, gd⟩ :: rest) (act n f) w := h
theorem g_ix {t : TypeId} {x y : Operand} (h : WL P ops Q (⟨d, .index t x y, tt, ps, af, gd⟩ :: rest) (act n f) w) : WL P ops Q (⟨d, .index t x y, tt, ps, af, gd⟩ :: rest) (act n f) w := h
theorem g_sl {t : TypeId} {x : Operand} {lo hi mx : Option Operand} (h : WL P ops Q (⟨d, .slice t x lo hi mx, tt, ps, af, gd⟩ :: rest) (act n f) w) : WL P ops Q (⟨d, .slice t x lo hi mx, tt, ps, af, gd⟩ :: rest) (act n f) w := h
theorem g_cv {t u : TypeId} {x : Operand} (h : WL P ops Q (⟨d, .convert t u x, tt, ps, af, gd⟩ :: rest) (act n f) w) : WL P ops Q (⟨d, .convert t u x, tt, ps, af, gd⟩ :: rest) (act n f) w := h
theorem g_bi {b : BinOp} {t u : TypeId} {x y : Operand} (h : WL P ops Q (⟨d, .binOp b t x y u, tt, ps, af, gd⟩ :: rest) (act n f) w) : WL P ops Q (⟨d, .binOp b t x y u, tt, ps, af, gd⟩ :: rest) (act n f) w := h
end
end Go.Proofs.YtnimaenhijlcmaaGreatDoor.Q
end
section
namespace Go.Proofs.YtnimaenhijlcmaaGreatDoor.Mb
set_option linter.unusedVariables false
set_option linter.unusedSimpArgs false
abbrev L := List Int
def digB (c : Int) : Bool := decide (48 ≤ c) && decide (c ≤ 57)
def smlB (c : Int) : Bool := decide (97 ≤ c) && decide (c ≤ 122)
def capB (c : Int) : Bool := decide (65 ≤ c) && decide (c ≤ 90)
def pathB (c : Int) : Bool := digB c || smlB c || capB c || [45, 46, 95, 126, 47].contains c
def wordC (c : Int) : Bool := digB c || smlB c || capB c || decide (c = 45)
def lowB (c : Int) : Int := if 65 ≤ c ∧ c ≤ 90 then c + 32 else c
def lowS (s : L) : L := s.map lowB
def cutC (c : Int) : L → Option (L × L)
  | [] => none
  | x :: r => if x = c then some ([], r) else match cutC c r with
    | none => none
    | some (a, b) => some (x :: a, b)
def splitC (c : Int) : L → List L
  | [] => [[]]
  | x :: r => if x = c then [] :: splitC c r else match splitC c r with
    | [] => [[x]]
    | p :: q => (x :: p) :: q
def aheadC (c : Int) (s : L) : L := match cutC c s with | some (a, _) => a | none => s
def endCut (s e : L) : Option L := if e.length ≤ s.length ∧ s.drop (s.length - e.length) = e then some (s.take (s.length - e.length)) else none
def digTail (s : L) : L := (s.reverse.takeWhile digB).reverse
def digBare (s : L) : L := (s.reverse.dropWhile digB).reverse
def numB (s : L) : Bool := s.all digB && !s.isEmpty && (decide (s = [48]) || decide (s.head? ≠ some 48))
def devices : List L := [[99, 111, 110], [112, 114, 110], [97, 117, 120], [110, 117, 108], [99, 111, 109, 49], [99, 111, 109, 50], [99, 111, 109, 51], [99, 111, 109, 52], [99, 111, 109, 53], [99, 111, 109, 54], [99, 111, 109, 55], [99, 111, 109, 56], [99, 111, 109, 57], [108, 112, 116, 49], [108, 112, 116, 50], [108, 112, 116, 51], [108, 112, 116, 52], [108, 112, 116, 53], [108, 112, 116, 54], [108, 112, 116, 55], [108, 112, 116, 56], [108, 112, 116, 57]]
def elemB (e : L) : Bool :=
  !e.isEmpty && decide (e.head? ≠ some 46) && decide (e.getLast? ≠ some 46) && !(devices.contains (lowS (aheadC 46 e))) &&
    (decide (digTail (aheadC 46 e) = []) || decide ((digBare (aheadC 46 e)).getLast? ≠ some 126))
def hostB (e : L) : Bool := e.all (fun c => !(capB c || decide (c = 95) || decide (c = 126))) && e.contains 46 && decide (e.head? ≠ some 45)
def gopkg : L := [103, 111, 112, 107, 103, 46, 105, 110]
def unstable : L := [45, 117, 110, 115, 116, 97, 98, 108, 101]
def incompat : L := [43, 105, 110, 99, 111, 109, 112, 97, 116, 105, 98, 108, 101]
def majorE (es : List L) : L × Bool :=
  let last := es.getLastD []
  if es.headD [] = gopkg then
    let l2 := (endCut last unstable).getD last
    (digTail l2, decide ((digBare l2).drop ((digBare l2).length - 2) = [46, 118]) && numB (digTail l2))
  else if es.length = 1 ∨ last.length < 2 ∨ last.head? ≠ some 118 ∨ (last.tail.all fun c => digB c || decide (c = 46)) = false then ([], true)
  else (last.tail, numB last.tail && decide (last.tail ≠ [48]) && decide (last.tail ≠ [49]))
def majorS (p : L) : L × Bool := majorE (splitC 47 p)
def pathS (p : L) : Bool :=
  !p.isEmpty && decide (p.length ≤ 255) && p.all pathB && (splitC 47 p).all elemB && hostB ((splitC 47 p).headD []) && (majorS p).2
def wordB (s : L) : Bool := s.all wordC && !s.isEmpty && (!s.all digB || numB s)
structure Ver where
  a : L
  b : L
  c : L
  words : List L
  odd : Bool
deriving DecidableEq
def wordsOf : Option (L × L) → List L
  | some (_, p) => splitC 46 p
  | none => []
def parseV (s : L) : Option Ver :=
  if 128 < s.length then none
  else match s with
    | 118 :: r =>
      let body := (endCut r incompat).getD r
      let odd := (endCut r incompat).isSome
      let ws : List L := wordsOf (cutC 45 body)
      if ws.all wordB = false then none
      else match splitC 46 (aheadC 45 body) with
        | [a, b, c] => if numB a && numB b && numB c && (!odd || (decide (a ≠ [48]) && decide (a ≠ [49]))) then some ⟨a, b, c, ws, odd⟩ else none
        | _ => none
    | _ => none
def fitsV (v : Ver) (p : L) : Bool :=
  let m := (majorS p).1
  if m ≠ [] then !v.odd && decide (v.a = m) else v.odd || decide (v.a = [48]) || decide (v.a = [49])
def checkS (p v : L) : Nat := if pathS p = false then 110 else match parseV v with | none => 111 | some x => if fitsV x p then 0 else 111
def keyS (s : L) : Option (L × L) := match cutC 64 s with | some (p, v) => if v.contains 64 then none else some (p, v) | none => none
def cmpB : L → L → Int
  | [], [] => 0
  | [], _ :: _ => -1
  | _ :: _, [] => 1
  | x :: a, y :: b => if x < y then -1 else if y < x then 1 else cmpB a b
def cmpN (a b : L) : Int := if a.length < b.length then -1 else if b.length < a.length then 1 else cmpB a b
def cmpW (a b : L) : Int := if numB a then (if numB b then cmpN a b else -1) else if numB b then 1 else cmpB a b
def cmpL : List L → List L → Int
  | [], [] => 0
  | [], _ :: _ => -1
  | _ :: _, [] => 1
  | x :: a, y :: b => if cmpW x y ≠ 0 then cmpW x y else cmpL a b
def cmpP (a b : List L) : Int := if a = [] ∨ b = [] then (if a = [] ∧ b = [] then 0 else if a = [] then 1 else -1) else cmpL a b
def cmpV (v w : Ver) : Int := if cmpN v.a w.a ≠ 0 then cmpN v.a w.a else if cmpN v.b w.b ≠ 0 then cmpN v.b w.b else if cmpN v.c w.c ≠ 0 then cmpN v.c w.c else cmpP v.words w.words
def compareS (a b : L) : Int := match parseV a, parseV b with
  | some v, some w => cmpV v w
  | some _, none => 1
  | none, some _ => -1
  | none, none => 0
structure Ord3 {α : Type} (f : α → α → Int) : Prop where
  range : ∀ a b, f a b = -1 ∨ f a b = 0 ∨ f a b = 1
  anti : ∀ a b, f b a = -(f a b)
  trans : ∀ a b c, f a b ≤ 0 → f b c ≤ 0 → f a c ≤ 0 ∧ (f a c = 0 ↔ f a b = 0 ∧ f b c = 0)
theorem Ord3.refl {α : Type} {f : α → α → Int} (h : Ord3 f) (a : α) : f a a = 0 := by have := h.anti a a; omega
theorem Ord3.lex {α : Type} {f g : α → α → Int} (hf : Ord3 f) (hg : Ord3 g) : Ord3 (fun a b => if f a b ≠ 0 then f a b else g a b) where
  range a b := by
    by_cases h : f a b ≠ 0
    · simp only [if_pos h]; exact hf.range a b
    · simp only [if_neg h]; exact hg.range a b
  anti a b := by
    have h1 := hf.anti a b
    have h2 := hg.anti a b
    by_cases h : f a b ≠ 0
    · rw [if_pos h, if_pos (by omega)]; exact h1
    · rw [if_neg h, if_neg (by omega)]; exact h2
  trans a b c hab hbc := by
    have t1 := hf.trans a b c
    have t2 := hg.trans a b c
    by_cases h1 : f a b ≠ 0
    · rw [if_pos h1] at hab ⊢
      by_cases h2 : f b c ≠ 0
      · rw [if_pos h2] at hbc ⊢
        have := t1 hab hbc
        rw [if_pos (by omega)]; omega
      · rw [if_neg h2] at hbc ⊢
        have := t1 hab (by omega)
        rw [if_pos (by omega)]; omega
    · rw [if_neg h1] at hab ⊢
      by_cases h2 : f b c ≠ 0
      · rw [if_pos h2] at hbc ⊢
        have := t1 (by omega) hbc
        rw [if_pos (by omega)]; omega
      · rw [if_neg h2] at hbc ⊢
        have := t1 (by omega) (by omega)
        rw [if_neg (by omega)]
        exact t2 hab hbc
theorem Ord3.comap {α β : Type} {f : β → β → Int} (hf : Ord3 f) (g : α → β) : Ord3 (fun a b => f (g a) (g b)) :=
  ⟨fun a b => hf.range _ _, fun a b => hf.anti _ _, fun a b c => hf.trans _ _ _⟩
def cmpI (a b : Int) : Int := if a < b then -1 else if b < a then 1 else 0
theorem ordI : Ord3 cmpI where
  range a b := by unfold cmpI; (repeat' split) <;> omega
  anti a b := by unfold cmpI; (repeat' split) <;> omega
  trans a b c := by unfold cmpI; (repeat' split) <;> omega
def lexL {α : Type} (f : α → α → Int) : List α → List α → Int
  | [], [] => 0
  | [], _ :: _ => -1
  | _ :: _, [] => 1
  | x :: a, y :: b => if f x y ≠ 0 then f x y else lexL f a b
theorem ordL {α : Type} {f : α → α → Int} (hf : Ord3 f) : Ord3 (lexL f) where
  range a := by
    induction a with
    | nil => intro b; cases b <;> simp [lexL]
    | cons x a ih =>
      intro b
      cases b with
      | nil => simp [lexL]
      | cons y b =>
        simp only [lexL]
        split
        · exact hf.range x y
        · exact ih b
  anti a := by
    induction a with
    | nil => intro b; cases b <;> simp [lexL]
    | cons x a ih =>
      intro b
      cases b with
      | nil => simp [lexL]
      | cons y b =>
        simp only [lexL]
        have := hf.anti x y
        by_cases h : f x y ≠ 0
        · rw [if_pos h, if_pos (by omega)]; exact this
        · rw [if_neg h, if_neg (by omega)]; exact ih b
  trans a := by
    induction a with
    | nil => intro b c; cases b <;> cases c <;> simp [lexL]
    | cons x a ih =>
      intro b c
      cases b with
      | nil => cases c <;> simp [lexL]
      | cons y b =>
        cases c with
        | nil => simp [lexL]
        | cons z c =>
          simp only [lexL]
          have t1 := hf.trans x y z
          have t2 := ih b c
          by_cases h1 : f x y ≠ 0
          · rw [if_pos h1]
            intro hab
            by_cases h2 : f y z ≠ 0
            · rw [if_pos h2]
              intro hbc
              have := t1 hab hbc
              rw [if_pos (by omega)]; omega
            · rw [if_neg h2]
              intro hbc
              have := t1 hab (by omega)
              rw [if_pos (by omega)]; omega
          · rw [if_neg h1]
            intro hab
            by_cases h2 : f y z ≠ 0
            · rw [if_pos h2]
              intro hbc
              have := t1 (by omega) hbc
              rw [if_pos (by omega)]; omega
            · rw [if_neg h2]
              intro hbc
              have := t1 (by omega) (by omega)
              rw [if_neg (by omega)]
              exact t2 hab hbc
theorem cmpB_lex : ∀ a b, cmpB a b = lexL cmpI a b
  | [], [] => rfl
  | [], _ :: _ => rfl
  | _ :: _, [] => rfl
  | x :: a, y :: b => by
    simp only [cmpB, lexL, cmpB_lex a b]
    unfold cmpI
    (repeat' split) <;> omega
theorem ordB : Ord3 cmpB := by
  have e : cmpB = lexL cmpI := by funext a b; exact cmpB_lex a b
  rw [e]; exact ordL ordI
theorem cmpN_lex (a b : L) : cmpN a b = if cmpI a.length b.length ≠ 0 then cmpI a.length b.length else cmpB a b := by
  unfold cmpN cmpI
  (repeat' split) <;> omega
theorem ordN : Ord3 cmpN := by
  have e : cmpN = fun a b : L => if cmpI a.length b.length ≠ 0 then cmpI a.length b.length else cmpB a b := by funext a b; exact cmpN_lex a b
  rw [e]; exact (ordI.comap (fun a : L => (a.length : Int))).lex ordB
theorem ordW : Ord3 cmpW where
  range a b := by
    unfold cmpW
    split
    · split
      · exact ordN.range a b
      · omega
    · split
      · omega
      · exact ordB.range a b
  anti a b := by
    have h1 := ordN.anti a b
    have h2 := ordB.anti a b
    unfold cmpW
    cases numB a <;> cases numB b <;> simp <;> assumption
  trans a b c := by
    have h1 := ordN.trans a b c
    have h2 := ordB.trans a b c
    unfold cmpW
    cases numB a <;> cases numB b <;> cases numB c <;> simp <;> first | exact h1 | exact h2 | omega | skip
theorem cmpL_lex : ∀ a b, cmpL a b = lexL cmpW a b
  | [], [] => rfl
  | [], _ :: _ => rfl
  | _ :: _, [] => rfl
  | x :: a, y :: b => by simp only [cmpL, lexL, cmpL_lex a b]
theorem ordP : Ord3 cmpP := by
  have oL : Ord3 cmpL := by
    have e : cmpL = lexL cmpW := by funext a b; exact cmpL_lex a b
    rw [e]; exact ordL ordW
  refine ⟨fun a b => ?_, fun a b => ?_, fun a b c => ?_⟩
  · have := oL.range a b
    unfold cmpP
    cases a <;> cases b <;> simp at * <;> exact this
  · have := oL.anti a b
    unfold cmpP
    cases a <;> cases b <;> simp at * <;> exact this
  · have := oL.trans a b c
    unfold cmpP
    cases a <;> cases b <;> cases c <;> simp at * <;> first | exact this | skip
theorem ordV : Ord3 cmpV := by
  have e : cmpV = fun v w : Ver => if cmpN v.a w.a ≠ 0 then cmpN v.a w.a else (if cmpN v.b w.b ≠ 0 then cmpN v.b w.b else (if cmpN v.c w.c ≠ 0 then cmpN v.c w.c else cmpP v.words w.words)) := rfl
  rw [e]
  exact (ordN.comap Ver.a).lex ((ordN.comap Ver.b).lex ((ordN.comap Ver.c).lex (ordP.comap Ver.words)))
theorem ordS : Ord3 compareS := by
  refine ⟨fun a b => ?_, fun a b => ?_, fun a b c => ?_⟩
  · unfold compareS
    cases parseV a <;> cases parseV b <;> simp
    exact ordV.range _ _
  · unfold compareS
    cases parseV a <;> cases parseV b <;> simp
    exact ordV.anti _ _
  · unfold compareS
    cases parseV a <;> cases parseV b <;> cases parseV c <;> simp
    exact ordV.trans _ _ _
end Go.Proofs.YtnimaenhijlcmaaGreatDoor.Mb
end
section
namespace Go.Proofs.YtnimaenhijlcmaaGreatDoor.Mb
set_option linter.unusedVariables false
set_option linter.unusedSimpArgs false
theorem cutC_some {c : Int} : ∀ {b p r : L}, cutC c b = some (p, r) → b = p ++ c :: r ∧ c ∉ p
  | [], _, _, h => by simp [cutC] at h
  | x :: b, p, r, h => by
    unfold cutC at h
    by_cases e : x = c
    · rw [if_pos e] at h
      simp only [Option.some.injEq, Prod.mk.injEq] at h
      obtain ⟨rfl, rfl⟩ := h
      exact ⟨by simp [e], by simp⟩
    · rw [if_neg e] at h
      cases hc : cutC c b with
      | none => rw [hc] at h; cases h
      | some q =>
        obtain ⟨a, s⟩ := q
        rw [hc] at h
        simp only [Option.some.injEq, Prod.mk.injEq] at h
        obtain ⟨rfl, rfl⟩ := h
        obtain ⟨h1, h2⟩ := cutC_some hc
        refine ⟨by simp [h1], ?_⟩
        simp only [List.mem_cons, not_or]
        exact ⟨fun h => e h.symm, h2⟩
theorem cutC_none {c : Int} : ∀ {b : L}, cutC c b = none → c ∉ b
  | [], _ => by simp
  | x :: b, h => by
    unfold cutC at h
    by_cases e : x = c
    · rw [if_pos e] at h; cases h
    · rw [if_neg e] at h
      cases hc : cutC c b with
      | none =>
        simp only [List.mem_cons, not_or]
        exact ⟨fun h => e h.symm, cutC_none hc⟩
      | some q => rw [hc] at h; cases h
theorem cutC_mk {c : Int} : ∀ {p : L} (r : L), c ∉ p → cutC c (p ++ c :: r) = some (p, r)
  | [], r, _ => by simp [cutC]
  | x :: p, r, h => by
    simp only [List.mem_cons, not_or] at h
    simp only [List.cons_append, cutC]
    rw [if_neg (fun e => h.1 e.symm), cutC_mk r h.2]
theorem splitC_none {c : Int} : ∀ {s : L}, c ∉ s → splitC c s = [s]
  | [], _ => rfl
  | x :: s, h => by
    simp only [List.mem_cons, not_or] at h
    simp only [splitC]
    rw [if_neg (fun e => h.1 e.symm), splitC_none h.2]
theorem splitC_ne {c : Int} : ∀ (s : L), splitC c s ≠ []
  | [] => by simp [splitC]
  | x :: s => by
    simp only [splitC]
    split
    · simp
    · cases h : splitC c s with
      | nil => exact absurd h (splitC_ne s)
      | cons p q => simp
theorem splitC_app {c : Int} : ∀ (a b : L), splitC c (a ++ c :: b) = splitC c a ++ splitC c b
  | [], b => by simp [splitC]
  | x :: a, b => by
    simp only [List.cons_append, splitC]
    by_cases e : x = c
    · rw [if_pos e, if_pos e, splitC_app a b]; rfl
    · rw [if_neg e, if_neg e, splitC_app a b]
      cases h : splitC c a with
      | nil => exact absurd h (splitC_ne a)
      | cons p q => rfl
theorem splitC_cut {c : Int} {p : L} (r : L) (h : c ∉ p) : splitC c (p ++ c :: r) = p :: splitC c r := by
  rw [splitC_app, splitC_none h]; rfl
def joinC (c : Int) : List L → L
  | [] => []
  | [p] => p
  | p :: q :: r => p ++ c :: joinC c (q :: r)
theorem join_split {c : Int} : ∀ (s : L), joinC c (splitC c s) = s
  | [] => rfl
  | x :: s => by
    have ih := join_split (c := c) s
    simp only [splitC]
    by_cases e : x = c
    · rw [if_pos e]
      cases h : splitC c s with
      | nil => exact absurd h (splitC_ne s)
      | cons p q => rw [h] at ih; simp only [joinC, ih, e]; rfl
    · rw [if_neg e]
      cases h : splitC c s with
      | nil => exact absurd h (splitC_ne s)
      | cons p q =>
        rw [h] at ih
        simp only
        cases q with
        | nil => simp only [joinC] at ih ⊢; rw [ih]
        | cons q r => simp only [joinC] at ih ⊢; rw [← ih]; rfl
theorem split_no {c : Int} : ∀ (s : L), ∀ p ∈ splitC c s, c ∉ p
  | [], p, h => by simp [splitC] at h; rw [h]; simp
  | x :: s, p, h => by
    have ih := split_no (c := c) s
    simp only [splitC] at h
    by_cases e : x = c
    · rw [if_pos e] at h
      rcases List.mem_cons.1 h with rfl | h
      · simp
      · exact ih p h
    · rw [if_neg e] at h
      cases hs : splitC c s with
      | nil => exact absurd hs (splitC_ne s)
      | cons q r =>
        rw [hs] at h ih
        rcases List.mem_cons.1 h with rfl | h
        · simp only [List.mem_cons, not_or]
          exact ⟨fun h => e h.symm, ih q (by simp)⟩
        · exact ih p (by simp [h])
theorem split_all {c : Int} {f : Int → Bool} (s : L) (h : ∀ p ∈ splitC c s, p.all f = true) : ∀ x ∈ s, x = c ∨ f x = true := by
  induction s with
  | nil => simp
  | cons y s ih =>
    simp only [splitC] at h
    by_cases e : y = c
    · rw [if_pos e] at h
      intro x hx
      rcases List.mem_cons.1 hx with rfl | hx
      · exact .inl e
      · exact ih (fun p hp => h p (by simp [hp])) x hx
    · rw [if_neg e] at h
      cases hs : splitC c s with
      | nil => exact absurd hs (splitC_ne s)
      | cons q r =>
        rw [hs] at h ih
        have h1 := h (y :: q) (by simp)
        rw [List.all_cons, Bool.and_eq_true] at h1
        intro x hx
        rcases List.mem_cons.1 hx with rfl | hx
        · exact .inr h1.1
        · refine ih (fun p hp => ?_) x hx
          rcases List.mem_cons.1 hp with rfl | hp
          · exact h1.2
          · exact h p (by simp [hp])
theorem not_mem_all {p : Int → Bool} {c : Int} {l : L} (h : l.all p = true) (hc : p c = false) : c ∉ l := by
  intro hm
  have := List.all_eq_true.1 h c hm
  rw [hc] at this; cases this
theorem endCut_some {s e x : L} (h : endCut s e = some x) : s = x ++ e := by
  unfold endCut at h
  split at h
  · rename_i h1
    simp only [Option.some.injEq] at h
    rw [← h]
    conv => lhs; rw [← List.take_append_drop (s.length - e.length) s, h1.2]
  · cases h
theorem numB_dig {s : L} (h : numB s = true) : s.all digB = true ∧ s ≠ [] := by
  unfold numB at h
  simp only [Bool.and_eq_true] at h
  exact ⟨h.1.1, by intro e; rw [e] at h; simp at h⟩
theorem dig_not {c : Int} {s : L} (h : s.all digB = true) (hc : digB c = false) : c ∉ s := not_mem_all h hc
def preT : Option L → L
  | some p => 45 :: p
  | none => []
def verText (a b c : L) (pre : Option L) (odd : Bool) : L :=
  118 :: (a ++ 46 :: (b ++ 46 :: c) ++ preT pre ++ (if odd then incompat else []))
def verWords (pre : Option L) : List L := match pre with | some p => splitC 46 p | none => []
theorem parseV_text {s : L} {v : Ver} (h : parseV s = some v) : ∃ pre, s = verText v.a v.b v.c pre v.odd ∧ verWords pre = v.words ∧ numB v.a = true ∧ numB v.b = true ∧ numB v.c = true ∧ (∀ w ∈ v.words, wordB w = true) ∧ (v.odd = true → v.a ≠ [48] ∧ v.a ≠ [49]) ∧ s.length ≤ 128 := by
  unfold parseV at h
  split at h
  · cases h
  · rename_i hlen
    split at h
    · rename_i r
      simp only at h
      split at h
      · cases h
      · rename_i hws
        rw [Bool.not_eq_false] at hws
        split at h
        · rename_i a b c hs
          split at h
          · rename_i hn
            simp only [Option.some.injEq] at h
            subst h
            simp only [Bool.and_eq_true, Bool.or_eq_true, Bool.not_eq_true', decide_eq_true_eq] at hn
            have hj := join_split (c := 46) (aheadC 45 ((endCut r incompat).getD r))
            rw [hs] at hj
            simp only [joinC] at hj
            have hr : r = (endCut r incompat).getD r ++ (if (endCut r incompat).isSome then incompat else []) := by
              cases he : endCut r incompat with
              | none => simp
              | some x => simp only [Option.getD_some, Option.isSome_some, if_true]; exact endCut_some he
            refine ⟨(cutC 45 ((endCut r incompat).getD r)).map Prod.snd, ?_, ?_, hn.1.1.1, hn.1.1.2, hn.1.2, List.all_eq_true.1 hws, ?_, by omega⟩
            · unfold verText
              simp only
              congr 1
              conv => lhs; rw [hr]
              congr 1
              cases hc : cutC 45 ((endCut r incompat).getD r) with
              | none =>
                unfold aheadC at hj
                rw [hc] at hj
                simp only at hj
                simp only [Option.map_none, preT, List.append_nil]
                exact hj.symm
              | some q =>
                obtain ⟨x, y⟩ := q
                unfold aheadC at hj
                rw [hc] at hj
                simp only at hj
                simp only [Option.map_some, preT]
                rw [hj]
                exact (cutC_some hc).1
            · unfold verWords
              cases hc : cutC 45 ((endCut r incompat).getD r) with
              | none => rfl
              | some q => rfl
            · intro ho
              simp only at ho
              rcases hn.2 with h1 | h1
              · rw [ho] at h1; cases h1
              · exact h1
          · cases h
        · cases h
    · cases h
end Go.Proofs.YtnimaenhijlcmaaGreatDoor.Mb
end
section
namespace Go.Proofs.YtnimaenhijlcmaaGreatDoor.Mb
set_option linter.unusedVariables false
set_option linter.unusedSimpArgs false
def verB (c : Int) : Bool := wordC c || decide (c = 46) || decide (c = 43)
theorem path_ne {p : L} (h : pathS p = true) : p ≠ [] ∧ p.length ≤ 255 := by
  unfold pathS at h
  simp only [Bool.and_eq_true, decide_eq_true_eq] at h
  exact ⟨by intro e; rw [e] at h; simp at h, h.1.1.1.1.2⟩
theorem dig_ver {s : L} (h : s.all digB = true) : ∀ x ∈ s, verB x = true := by
  intro x hx
  have := List.all_eq_true.1 h x hx
  unfold verB wordC
  simp [this]
theorem ver_all {s : L} {v : Ver} (h : parseV s = some v) : ∀ x ∈ s, verB x = true := by
  obtain ⟨pre, h1, h2, h3, h4, h5, h6, _, _⟩ := parseV_text h
  rw [h1]
  intro x hx
  unfold verText at hx
  simp only [List.mem_cons, List.mem_append] at hx
  rcases hx with rfl | (((hx | rfl | hx | rfl | hx) | hx) | hx)
  · decide
  · exact dig_ver (numB_dig h3).1 x hx
  · decide
  · exact dig_ver (numB_dig h4).1 x hx
  · decide
  · exact dig_ver (numB_dig h5).1 x hx
  · cases pre with
    | none => cases hx
    | some p =>
      simp only [preT, List.mem_cons] at hx
      rcases hx with rfl | hx
      · decide
      · have hw : ∀ w ∈ splitC 46 p, w.all wordC = true := by
          intro w hw
          have h7 : verWords (some p) = splitC 46 p := rfl
          rw [h7] at h2
          rw [h2] at hw
          have := h6 w hw
          unfold wordB at this
          simp only [Bool.and_eq_true] at this
          exact this.1.1
        rcases split_all p hw x hx with rfl | h8
        · decide
        · unfold verB; simp [h8]
  · split at hx
    · have : incompat.all verB = true := by decide
      exact List.all_eq_true.1 this x hx
    · cases hx
theorem ver_no {s : L} {v : Ver} (h : parseV s = some v) : (33 : Int) ∉ s ∧ (64 : Int) ∉ s ∧ (32 : Int) ∉ s ∧ (10 : Int) ∉ s ∧ (47 : Int) ∉ s ∧ s ≠ [] ∧ s.length ≤ 128 := by
  have ha := ver_all h
  obtain ⟨pre, h1, _, _, _, _, _, _, h8⟩ := parseV_text h
  refine ⟨fun hm => ?_, fun hm => ?_, fun hm => ?_, fun hm => ?_, fun hm => ?_, ?_, h8⟩
  · have := ha _ hm; revert this; decide
  · have := ha _ hm; revert this; decide
  · have := ha _ hm; revert this; decide
  · have := ha _ hm; revert this; decide
  · have := ha _ hm; revert this; decide
  · rw [h1]; unfold verText; simp
theorem keyS_some {s p v : L} (h : keyS s = some (p, v)) : s = p ++ 64 :: v ∧ (64 : Int) ∉ p ∧ (64 : Int) ∉ v := by
  unfold keyS at h
  split at h
  · rename_i a b hc
    split at h
    · cases h
    · rename_i hn
      simp only [Option.some.injEq, Prod.mk.injEq] at h
      obtain ⟨rfl, rfl⟩ := h
      obtain ⟨h1, h2⟩ := cutC_some hc
      exact ⟨h1, h2, by simpa using hn⟩
  · cases h
theorem check_ok {p v : L} (h : checkS p v = 0) : pathS p = true ∧ ∃ x, parseV v = some x ∧ fitsV x p = true := by
  unfold checkS at h
  split at h
  · cases h
  · rename_i hp
    rw [Bool.not_eq_false] at hp
    cases hv : parseV v with
    | none => rw [hv] at h; cases h
    | some x =>
      rw [hv] at h
      simp only at h
      split at h
      · rename_i hf; exact ⟨hp, x, rfl, hf⟩
      · cases h
theorem getLastD_app {l : List L} {e : L} : (l ++ [e]).getLastD [] = e := by simp [List.getLastD_eq_getLast?]
end Go.Proofs.YtnimaenhijlcmaaGreatDoor.Mb
end
section
namespace Go.Proofs
open Go.Shelf
open Go.RowKit in
def Tryz.lays159_ren : Go.Shelf.Ren := ⟨fun | 159 => 140 | 165 => 155 | 166 => 156 | 167 => 148 | 169 => 150 | 230 => 157 | 204 => 158 | 240 => 163 | 241 => 166 | 197 => 151 | 118 => 167 | 168 => 149 | 270 => 168 | 262 => 169 | 276 => 173 | 277 => 175 | 260 => 165 | 242 => 164 | 313 => 176 | 278 => 174 | 274 => 179 | 275 => 180 | n => n, fun | 9 => 9 | 4 => 4 | 3 => 3 | 5 => 5 | 72 => 142 | 0 => 0 | 76 => 146 | 75 => 144 | 107 => 159 | 70 => 140 | 20 => 20 | 37 => 34 | 127 => 167 | 21 => 21 | 105 => 149 | 164 => 172 | 162 => 181 | 203 => 179 | 119 => 174 | 46 => 97 | 139 => 177 | 138 => 176 | 51 => 123 | 160 => 183 | 208 => 189 | 206 => 187 | 80 => 148 | n => n, fun | 13 => 6 | 3 => 4 | 4 => 5 | n => n⟩
theorem Tryz.lays159 : Go.Proofs.Lays.n159 Tryz.prog Tryz.lays159_ren := {
  mixed := by kernel_rfl
  f118 := Tryz.func167.trans (congrArg some (by kernel_rfl))
  f159 := Tryz.func140.trans (congrArg some (by kernel_rfl))
  f165 := Tryz.func155.trans (congrArg some (by kernel_rfl))
  f166 := Tryz.func156.trans (congrArg some (by kernel_rfl))
  f167 := Tryz.func148.trans (congrArg some (by kernel_rfl))
  f168 := Tryz.func149.trans (congrArg some (by kernel_rfl))
  f169 := Tryz.func150.trans (congrArg some (by kernel_rfl))
  f197 := Tryz.func151.trans (congrArg some (by kernel_rfl))
  f204 := Tryz.func158.trans (congrArg some (by kernel_rfl))
  f230 := Tryz.func157.trans (congrArg some (by kernel_rfl))
  f240 := Tryz.func163.trans (congrArg some (by kernel_rfl))
  f241 := Tryz.func166.trans (congrArg some (by kernel_rfl))
  f242 := Tryz.func164.trans (congrArg some (by kernel_rfl))
  f260 := Tryz.func165.trans (congrArg some (by kernel_rfl))
  f262 := Tryz.func169.trans (congrArg some (by kernel_rfl))
  f270 := Tryz.func168.trans (congrArg some (by kernel_rfl))
  f274 := Tryz.func179.trans (congrArg some (by kernel_rfl))
  f275 := Tryz.func180.trans (congrArg some (by kernel_rfl))
  f276 := Tryz.func173.trans (congrArg some (by kernel_rfl))
  f277 := Tryz.func175.trans (congrArg some (by kernel_rfl))
  f278 := Tryz.func174.trans (congrArg some (by kernel_rfl))
  f313 := Tryz.func176.trans (congrArg some (by kernel_rfl))
  t0 := Tryz.underlying0
  a0 := Tryz.isAgg0
  z0 := Tryz.sizeOf0
  v0 := Tryz.zeroValue0
  t3 := Tryz.underlying3
  a3 := Tryz.isAgg3
  z3 := Tryz.sizeOf3
  v3 := Tryz.zeroValue3
  t4 := Tryz.underlying4
  a4 := Tryz.isAgg4
  z4 := Tryz.sizeOf4
  v4 := Tryz.zeroValue4
  t5 := Tryz.underlying5
  a5 := Tryz.isAgg5
  z5 := Tryz.sizeOf5
  v5 := Tryz.zeroValue5
  t9 := Tryz.underlying9
  a9 := Tryz.isAgg9
  z9 := Tryz.sizeOf9
  v9 := Tryz.zeroValue9
  t20 := Tryz.underlying20
  a20 := Tryz.isAgg20
  z20 := Tryz.sizeOf20
  v20 := Tryz.zeroValue20
  t21 := Tryz.underlying21
  a21 := Tryz.isAgg21
  z21 := Tryz.sizeOf21
  v21 := Tryz.zeroValue21
  t37 := Tryz.underlying34
  a37 := Tryz.isAgg34
  z37 := Tryz.sizeOf34
  v37 := Tryz.zeroValue34
  t46 := Tryz.underlying97
  a46 := Tryz.isAgg97
  z46 := Tryz.sizeOf97
  v46 := Tryz.zeroValue97
  t51 := Tryz.underlying123
  a51 := Tryz.isAgg123
  z51 := Tryz.sizeOf123
  v51 := Tryz.zeroValue123
  t70 := Tryz.underlying140
  a70 := Tryz.isAgg140
  z70 := Tryz.sizeOf140
  v70 := Tryz.zeroValue140
  t72 := Tryz.underlying142
  a72 := Tryz.isAgg142
  z72 := Tryz.sizeOf142
  v72 := Tryz.zeroValue142
  t75 := Tryz.underlying144
  a75 := Tryz.isAgg144
  z75 := Tryz.sizeOf144
  v75 := Tryz.zeroValue144
  t76 := Tryz.underlying146
  a76 := Tryz.isAgg146
  z76 := Tryz.sizeOf146
  v76 := Tryz.zeroValue146
  t105 := Tryz.underlying149
  a105 := Tryz.isAgg149
  z105 := Tryz.sizeOf149
  v105 := Tryz.zeroValue149
  t107 := Tryz.underlying159
  a107 := Tryz.isAgg159
  z107 := Tryz.sizeOf159
  v107 := Tryz.zeroValue159
  t119 := Tryz.underlying174
  a119 := Tryz.isAgg174
  z119 := Tryz.sizeOf174
  t127 := Tryz.underlying167
  a127 := Tryz.isAgg167
  z127 := Tryz.sizeOf167
  v127 := Tryz.zeroValue167
  t138 := Tryz.underlying176
  a138 := Tryz.isAgg176
  z138 := Tryz.sizeOf176
  v138 := Tryz.zeroValue176
  t139 := Tryz.underlying177
  a139 := Tryz.isAgg177
  z139 := Tryz.sizeOf177
  v139 := Tryz.zeroValue177
  t160 := Tryz.underlying183
  a160 := Tryz.isAgg183
  z160 := Tryz.sizeOf183
  v160 := Tryz.zeroValue183
  t162 := Tryz.underlying181
  a162 := Tryz.isAgg181
  z162 := Tryz.sizeOf181
  v162 := Tryz.zeroValue181
  t164 := Tryz.underlying172
  a164 := Tryz.isAgg172
  z164 := Tryz.sizeOf172
  v164 := Tryz.zeroValue172
  t203 := Tryz.underlying179
  a203 := Tryz.isAgg179
  z203 := Tryz.sizeOf179
  v203 := Tryz.zeroValue179
  t206 := Tryz.underlying187
  a206 := Tryz.isAgg187
  z206 := Tryz.sizeOf187
  v206 := Tryz.zeroValue187
  t208 := Tryz.underlying189
  a208 := Tryz.isAgg189
  z208 := Tryz.sizeOf189
  v208 := Tryz.zeroValue189
  g3 := by kernel_rfl
  g4 := by kernel_rfl
  g13 := by kernel_rfl }
theorem Tryz.Builder_Extra_159 : Builder.Extra Tryz.prog Tryz.lays159_ren := {
  sizeBuilder := by kernel_rfl
  liesBuilder := by kernel_rfl
  t5 := Tryz.underlying5
  a5 := Tryz.isAgg5
  z5 := Tryz.sizeOf5
  v5 := Tryz.zeroValue5
  infoByte := by kernel_rfl
  cellsByte := by kernel_rfl
  sizeByte := by kernel_rfl
  neB5 := by decide }
open Go.RowKit in
theorem Tryz.strings_ToLower_ascii (s : ByteArray) (w : World) (hs : s.size ≤ 140737488355328) (hascii : ∀ (j : Nat) (b : UInt8), s.data.toList[j]? = some b → b.toNat < 128) :
    Calls Tryz.prog 140 #[.string s] w fun e w' => e = .returned (.string ⟨(Lib.toLowerA s.data.toList).toArray⟩) ∧ Below w.heap.size w w' := Any.strings_ToLower_ascii Tryz.lays159 Tryz.Builder_Extra_159 s w hs hascii
def Tryz.lays104_ren : Go.Shelf.Ren := ⟨fun | 104 => 89 | 211 => 127 | 207 => 86 | n => n, fun | 9 => 9 | 4 => 4 | 24 => 80 | 3 => 3 | n => n, fun | n => n⟩
theorem Tryz.lays104 : Go.Proofs.Lays.n104 Tryz.prog Tryz.lays104_ren := {
  mixed := by kernel_rfl
  f104 := Tryz.func89.trans (congrArg some (by kernel_rfl))
  f207 := Tryz.func86.trans (congrArg some (by kernel_rfl))
  f211 := Tryz.func127.trans (congrArg some (by kernel_rfl))
  t3 := Tryz.underlying3
  a3 := Tryz.isAgg3
  z3 := Tryz.sizeOf3
  v3 := Tryz.zeroValue3
  t4 := Tryz.underlying4
  a4 := Tryz.isAgg4
  z4 := Tryz.sizeOf4
  v4 := Tryz.zeroValue4
  t9 := Tryz.underlying9
  a9 := Tryz.isAgg9
  z9 := Tryz.sizeOf9
  v9 := Tryz.zeroValue9
  t24 := Tryz.underlying80
  a24 := Tryz.isAgg80
  z24 := Tryz.sizeOf80
  v24 := Tryz.zeroValue80 }
open Go.RowKit in
theorem Tryz.strings_CutSuffix (s p : ByteArray) (w : World) (hs : s.size ≤ 9223372036854775807) :
    Calls Tryz.prog 89 #[.string s, .string p] w fun e w' => e = .returned (.tuple #[.string ⟨(Lib.trimSuffix s.data.toList p.data.toList).toArray⟩, .bool (Lib.hasSuffix s.data.toList p.data.toList)]) ∧ w' = w := Any.strings_CutSuffix Tryz.lays104 s p w hs
open Go.RowKit in
def Tryz.lays144_ren : Go.Shelf.Ren := ⟨fun | 144 => 142 | 143 => 66 | 219 => 106 | 217 => 136 | 225 => 137 | 224 => 138 | 267 => 139 | 266 => 153 | 314 => 154 | n => n, fun | 9 => 9 | 4 => 4 | 3 => 3 | 5 => 5 | 46 => 97 | 146 => 154 | 51 => 123 | n => n, fun | 1 => 0 | n => n⟩
theorem Tryz.lays144 : Go.Proofs.Lays.n144 Tryz.prog Tryz.lays144_ren := {
  mixed := by kernel_rfl
  f143 := Tryz.func66.trans (congrArg some (by kernel_rfl))
  f144 := Tryz.func142.trans (congrArg some (by kernel_rfl))
  f217 := Tryz.func136.trans (congrArg some (by kernel_rfl))
  f219 := Tryz.func106.trans (congrArg some (by kernel_rfl))
  f224 := Tryz.func138.trans (congrArg some (by kernel_rfl))
  f225 := Tryz.func137.trans (congrArg some (by kernel_rfl))
  f266 := Tryz.func153.trans (congrArg some (by kernel_rfl))
  f267 := Tryz.func139.trans (congrArg some (by kernel_rfl))
  f314 := Tryz.func154.trans (congrArg some (by kernel_rfl))
  t3 := Tryz.underlying3
  a3 := Tryz.isAgg3
  z3 := Tryz.sizeOf3
  v3 := Tryz.zeroValue3
  t4 := Tryz.underlying4
  a4 := Tryz.isAgg4
  z4 := Tryz.sizeOf4
  v4 := Tryz.zeroValue4
  t5 := Tryz.underlying5
  a5 := Tryz.isAgg5
  z5 := Tryz.sizeOf5
  v5 := Tryz.zeroValue5
  t9 := Tryz.underlying9
  a9 := Tryz.isAgg9
  z9 := Tryz.sizeOf9
  v9 := Tryz.zeroValue9
  t46 := Tryz.underlying97
  a46 := Tryz.isAgg97
  z46 := Tryz.sizeOf97
  v46 := Tryz.zeroValue97
  t51 := Tryz.underlying123
  a51 := Tryz.isAgg123
  z51 := Tryz.sizeOf123
  v51 := Tryz.zeroValue123
  t146 := Tryz.underlying154
  a146 := Tryz.isAgg154
  z146 := Tryz.sizeOf154
  v146 := Tryz.zeroValue154
  g1 := by kernel_rfl }
open Go.RowKit Go.Lib in
theorem Tryz.strings_Contains_one (s : ByteArray) (c : UInt8) (w : World) :
    Calls Tryz.prog 142 #[.string s, .string ⟨#[c]⟩] w fun e w' => e = .returned (.bool (decide (0 ≤ Lib.indexByte s.data.toList c))) ∧ w' = w := Any.strings_Contains_one Tryz.lays144 s c w
open Go.RowKit Go.Lib in
def Tryz.lays145_ren : Go.Shelf.Ren := ⟨fun | 145 => 35 | 220 => 63 | 219 => 106 | 217 => 136 | 225 => 137 | 224 => 138 | 267 => 139 | 266 => 153 | 314 => 154 | n => n, fun | 9 => 9 | 4 => 4 | 59 => 70 | 3 => 3 | 5 => 5 | 46 => 97 | 146 => 154 | 51 => 123 | n => n, fun | 1 => 0 | n => n⟩
theorem Tryz.lays145 : Go.Proofs.Lays.n145 Tryz.prog Tryz.lays145_ren := {
  mixed := by kernel_rfl
  f145 := Tryz.func35.trans (congrArg some (by kernel_rfl))
  f217 := Tryz.func136.trans (congrArg some (by kernel_rfl))
  f219 := Tryz.func106.trans (congrArg some (by kernel_rfl))
  f220 := Tryz.func63.trans (congrArg some (by kernel_rfl))
  f224 := Tryz.func138.trans (congrArg some (by kernel_rfl))
  f225 := Tryz.func137.trans (congrArg some (by kernel_rfl))
  f266 := Tryz.func153.trans (congrArg some (by kernel_rfl))
  f267 := Tryz.func139.trans (congrArg some (by kernel_rfl))
  f314 := Tryz.func154.trans (congrArg some (by kernel_rfl))
  t3 := Tryz.underlying3
  a3 := Tryz.isAgg3
  z3 := Tryz.sizeOf3
  v3 := Tryz.zeroValue3
  t4 := Tryz.underlying4
  a4 := Tryz.isAgg4
  z4 := Tryz.sizeOf4
  v4 := Tryz.zeroValue4
  t5 := Tryz.underlying5
  a5 := Tryz.isAgg5
  z5 := Tryz.sizeOf5
  v5 := Tryz.zeroValue5
  t9 := Tryz.underlying9
  a9 := Tryz.isAgg9
  z9 := Tryz.sizeOf9
  v9 := Tryz.zeroValue9
  t46 := Tryz.underlying97
  a46 := Tryz.isAgg97
  z46 := Tryz.sizeOf97
  v46 := Tryz.zeroValue97
  t51 := Tryz.underlying123
  a51 := Tryz.isAgg123
  z51 := Tryz.sizeOf123
  v51 := Tryz.zeroValue123
  t59 := Tryz.underlying70
  a59 := Tryz.isAgg70
  z59 := Tryz.sizeOf70
  v59 := Tryz.zeroValue70
  t146 := Tryz.underlying154
  a146 := Tryz.isAgg154
  z146 := Tryz.sizeOf154
  v146 := Tryz.zeroValue154
  g1 := by kernel_rfl }
open Go.RowKit Go.Lib in
theorem Tryz.strings_Cut (s sep : ByteArray) (m : Int) (w : World) (hs : s.size < 4294967281) (hm : w.cell? ⟨0, 0, none⟩ = some (.int .i64 m)) :
    Calls Tryz.prog 35 #[.string s, .string sep] w fun e w' => e = .returned (.tuple #[.string ⟨(Lib.cut s.data.toList sep.data.toList).1.toArray⟩, .string ⟨(Lib.cut s.data.toList sep.data.toList).2.1.toArray⟩, .bool (Lib.cut s.data.toList sep.data.toList).2.2]) ∧ ∃ n, w' = w.drewN n := Any.strings_Cut Tryz.lays145 s sep m w hs hm
def Tryz.lays138_ren : Go.Shelf.Ren := ⟨fun | 138 => 38 | 195 => 64 | 218 => 65 | 143 => 66 | 219 => 106 | 217 => 136 | 225 => 137 | 224 => 138 | 267 => 139 | 266 => 153 | 314 => 154 | n => n, fun | 9 => 9 | 3 => 3 | 4 => 4 | 5 => 5 | 0 => 0 | 46 => 97 | 146 => 154 | 51 => 123 | n => n, fun | 1 => 0 | n => n⟩
theorem Tryz.lays138 : Go.Proofs.Lays.n138 Tryz.prog Tryz.lays138_ren := {
  mixed := by kernel_rfl
  f138 := Tryz.func38.trans (congrArg some (by kernel_rfl))
  f143 := Tryz.func66.trans (congrArg some (by kernel_rfl))
  f195 := Tryz.func64.trans (congrArg some (by kernel_rfl))
  f217 := Tryz.func136.trans (congrArg some (by kernel_rfl))
  f218 := Tryz.func65.trans (congrArg some (by kernel_rfl))
  f219 := Tryz.func106.trans (congrArg some (by kernel_rfl))
  f224 := Tryz.func138.trans (congrArg some (by kernel_rfl))
  f225 := Tryz.func137.trans (congrArg some (by kernel_rfl))
  f266 := Tryz.func153.trans (congrArg some (by kernel_rfl))
  f267 := Tryz.func139.trans (congrArg some (by kernel_rfl))
  f314 := Tryz.func154.trans (congrArg some (by kernel_rfl))
  t0 := Tryz.underlying0
  a0 := Tryz.isAgg0
  z0 := Tryz.sizeOf0
  v0 := Tryz.zeroValue0
  t3 := Tryz.underlying3
  a3 := Tryz.isAgg3
  z3 := Tryz.sizeOf3
  v3 := Tryz.zeroValue3
  t4 := Tryz.underlying4
  a4 := Tryz.isAgg4
  z4 := Tryz.sizeOf4
  v4 := Tryz.zeroValue4
  t5 := Tryz.underlying5
  a5 := Tryz.isAgg5
  z5 := Tryz.sizeOf5
  v5 := Tryz.zeroValue5
  t9 := Tryz.underlying9
  a9 := Tryz.isAgg9
  z9 := Tryz.sizeOf9
  v9 := Tryz.zeroValue9
  t46 := Tryz.underlying97
  a46 := Tryz.isAgg97
  z46 := Tryz.sizeOf97
  v46 := Tryz.zeroValue97
  t51 := Tryz.underlying123
  a51 := Tryz.isAgg123
  z51 := Tryz.sizeOf123
  v51 := Tryz.zeroValue123
  t146 := Tryz.underlying154
  a146 := Tryz.isAgg154
  z146 := Tryz.sizeOf154
  v146 := Tryz.zeroValue154
  g1 := by kernel_rfl }
open Go.RowKit Go.Lib in
def Tryz.lays99_ren : Go.Shelf.Ren := ⟨fun | 99 => 88 | 206 => 124 | n => n, fun | 9 => 9 | 4 => 4 | 3 => 3 | n => n, fun | n => n⟩
theorem Tryz.lays99 : Go.Proofs.Lays.n99 Tryz.prog Tryz.lays99_ren := {
  mixed := by kernel_rfl
  f99 := Tryz.func88.trans (congrArg some (by kernel_rfl))
  f206 := Tryz.func124.trans (congrArg some (by kernel_rfl))
  t3 := Tryz.underlying3
  a3 := Tryz.isAgg3
  z3 := Tryz.sizeOf3
  v3 := Tryz.zeroValue3
  t4 := Tryz.underlying4
  a4 := Tryz.isAgg4
  z4 := Tryz.sizeOf4
  v4 := Tryz.zeroValue4
  t9 := Tryz.underlying9
  a9 := Tryz.isAgg9
  z9 := Tryz.sizeOf9
  v9 := Tryz.zeroValue9 }
open Go.RowKit Go.Lib in
theorem Tryz.strings_HasPrefix (s p : ByteArray) (w : World) :
    Calls Tryz.prog 88 #[.string s, .string p] w fun e w' => e = .returned (.bool (Lib.hasPrefix s.data.toList p.data.toList)) ∧ w' = w := Any.strings_HasPrefix Tryz.lays99 s p w
def Tryz.lays100_ren : Go.Shelf.Ren := ⟨fun | 100 => 55 | 207 => 86 | n => n, fun | 9 => 9 | 4 => 4 | 3 => 3 | n => n, fun | n => n⟩
theorem Tryz.lays100 : Go.Proofs.Lays.n100 Tryz.prog Tryz.lays100_ren := {
  mixed := by kernel_rfl
  f100 := Tryz.func55.trans (congrArg some (by kernel_rfl))
  f207 := Tryz.func86.trans (congrArg some (by kernel_rfl))
  t3 := Tryz.underlying3
  a3 := Tryz.isAgg3
  z3 := Tryz.sizeOf3
  v3 := Tryz.zeroValue3
  t4 := Tryz.underlying4
  a4 := Tryz.isAgg4
  z4 := Tryz.sizeOf4
  v4 := Tryz.zeroValue4
  t9 := Tryz.underlying9
  a9 := Tryz.isAgg9
  z9 := Tryz.sizeOf9
  v9 := Tryz.zeroValue9 }
open Go.RowKit Go.Lib in
theorem Tryz.strings_HasSuffix (s p : ByteArray) (w : World) (hs : s.size ≤ 9223372036854775807) :
    Calls Tryz.prog 55 #[.string s, .string p] w fun e w' => e = .returned (.bool (Lib.hasSuffix s.data.toList p.data.toList)) ∧ w' = w := Any.strings_HasSuffix Tryz.lays100 s p w hs
def Tryz.lays102_ren : Go.Shelf.Ren := ⟨fun | 102 => 84 | 209 => 125 | 207 => 86 | n => n, fun | 9 => 9 | 4 => 4 | 3 => 3 | n => n, fun | n => n⟩
theorem Tryz.lays102 : Go.Proofs.Lays.n102 Tryz.prog Tryz.lays102_ren := {
  mixed := by kernel_rfl
  f102 := Tryz.func84.trans (congrArg some (by kernel_rfl))
  f207 := Tryz.func86.trans (congrArg some (by kernel_rfl))
  f209 := Tryz.func125.trans (congrArg some (by kernel_rfl))
  t3 := Tryz.underlying3
  a3 := Tryz.isAgg3
  z3 := Tryz.sizeOf3
  v3 := Tryz.zeroValue3
  t4 := Tryz.underlying4
  a4 := Tryz.isAgg4
  z4 := Tryz.sizeOf4
  v4 := Tryz.zeroValue4
  t9 := Tryz.underlying9
  a9 := Tryz.isAgg9
  z9 := Tryz.sizeOf9
  v9 := Tryz.zeroValue9 }
open Go.RowKit Go.Lib in
theorem Tryz.strings_TrimSuffix (s p : ByteArray) (w : World) (hs : s.size ≤ 9223372036854775807) :
    Calls Tryz.prog 84 #[.string s, .string p] w fun e w' => e = .returned (.string ⟨(Lib.trimSuffix s.data.toList p.data.toList).toArray⟩) ∧ w' = w := Any.strings_TrimSuffix Tryz.lays102 s p w hs
open Go.RowKit Go.Lib in
theorem Tryz.strings_Count_any (s sep : ByteArray) (m : Int) (w : World) (hs : s.size < 4294967281) (hm : w.cell? ⟨0, 0, none⟩ = some (.int .i64 m)) (h1 : 1 ≤ sep.size) :
    Calls Tryz.prog 38 #[.string s, .string sep] w fun e w' => e = .returned (.int .i64 (Lib.countB s sep)) ∧ w' = w := Any.strings_Count_any Tryz.lays138 s sep m w hs hm h1
def Tryz.lays146_ren : Go.Shelf.Ren := ⟨fun | 146 => 56 | 221 => 87 | 268 => 126 | 138 => 38 | 143 => 66 | 195 => 64 | 197 => 151 | 218 => 65 | 219 => 106 | 260 => 165 | 217 => 136 | 225 => 137 | 224 => 138 | 267 => 139 | 266 => 153 | 314 => 154 | n => n, fun | 9 => 9 | 31 => 25 | 3 => 3 | 4 => 4 | 0 => 0 | 105 => 149 | 21 => 21 | 5 => 5 | 46 => 97 | 119 => 174 | 139 => 177 | 138 => 176 | 146 => 154 | 51 => 123 | n => n, fun | 1 => 0 | 3 => 4 | 4 => 5 | n => n⟩
theorem Tryz.lays146 : Go.Proofs.Lays.n146 Tryz.prog Tryz.lays146_ren := {
  mixed := by kernel_rfl
  f138 := Tryz.func38.trans (congrArg some (by kernel_rfl))
  f143 := Tryz.func66.trans (congrArg some (by kernel_rfl))
  f146 := Tryz.func56.trans (congrArg some (by kernel_rfl))
  f195 := Tryz.func64.trans (congrArg some (by kernel_rfl))
  f197 := Tryz.func151.trans (congrArg some (by kernel_rfl))
  f217 := Tryz.func136.trans (congrArg some (by kernel_rfl))
  f218 := Tryz.func65.trans (congrArg some (by kernel_rfl))
  f219 := Tryz.func106.trans (congrArg some (by kernel_rfl))
  f221 := Tryz.func87.trans (congrArg some (by kernel_rfl))
  f224 := Tryz.func138.trans (congrArg some (by kernel_rfl))
  f225 := Tryz.func137.trans (congrArg some (by kernel_rfl))
  f260 := Tryz.func165.trans (congrArg some (by kernel_rfl))
  f266 := Tryz.func153.trans (congrArg some (by kernel_rfl))
  f267 := Tryz.func139.trans (congrArg some (by kernel_rfl))
  f268 := Tryz.func126.trans (congrArg some (by kernel_rfl))
  f314 := Tryz.func154.trans (congrArg some (by kernel_rfl))
  t0 := Tryz.underlying0
  a0 := Tryz.isAgg0
  z0 := Tryz.sizeOf0
  v0 := Tryz.zeroValue0
  t3 := Tryz.underlying3
  a3 := Tryz.isAgg3
  z3 := Tryz.sizeOf3
  v3 := Tryz.zeroValue3
  t4 := Tryz.underlying4
  a4 := Tryz.isAgg4
  z4 := Tryz.sizeOf4
  v4 := Tryz.zeroValue4
  t5 := Tryz.underlying5
  a5 := Tryz.isAgg5
  z5 := Tryz.sizeOf5
  v5 := Tryz.zeroValue5
  t9 := Tryz.underlying9
  a9 := Tryz.isAgg9
  z9 := Tryz.sizeOf9
  v9 := Tryz.zeroValue9
  t21 := Tryz.underlying21
  a21 := Tryz.isAgg21
  z21 := Tryz.sizeOf21
  v21 := Tryz.zeroValue21
  t31 := Tryz.underlying25
  a31 := Tryz.isAgg25
  z31 := Tryz.sizeOf25
  v31 := Tryz.zeroValue25
  t46 := Tryz.underlying97
  a46 := Tryz.isAgg97
  z46 := Tryz.sizeOf97
  v46 := Tryz.zeroValue97
  t51 := Tryz.underlying123
  a51 := Tryz.isAgg123
  z51 := Tryz.sizeOf123
  v51 := Tryz.zeroValue123
  t105 := Tryz.underlying149
  a105 := Tryz.isAgg149
  z105 := Tryz.sizeOf149
  v105 := Tryz.zeroValue149
  t119 := Tryz.underlying174
  a119 := Tryz.isAgg174
  z119 := Tryz.sizeOf174
  t138 := Tryz.underlying176
  a138 := Tryz.isAgg176
  z138 := Tryz.sizeOf176
  v138 := Tryz.zeroValue176
  t139 := Tryz.underlying177
  a139 := Tryz.isAgg177
  z139 := Tryz.sizeOf177
  v139 := Tryz.zeroValue177
  t146 := Tryz.underlying154
  a146 := Tryz.isAgg154
  z146 := Tryz.sizeOf154
  v146 := Tryz.zeroValue154
  g1 := by kernel_rfl
  g3 := by kernel_rfl
  g4 := by kernel_rfl }
open Go.RowKit Go.Lib in
theorem Tryz.strings_Split (s sep : ByteArray) (m : Int) (w : World) (hs : s.size < 4294967281) (hm : w.cell? ⟨0, 0, none⟩ = some (.int .i64 m)) (h1 : 1 ≤ sep.size) :
    Calls Tryz.prog 56 #[.string s, .string sep] w fun e w' =>
      e = .returned (.slice (some ⟨w.heap.size, 0, none⟩) (Lib.countB s sep + 1) (Lib.countB s sep + 1)) ∧ w' = w.alloc (.cells ((Lib.splitB sep 0 (Lib.countB s sep) s).map Value.string).toArray 9) := Any.strings_Split Tryz.lays146 (by kernel_rfl) s sep m w hs hm h1
def Tryz.lays227_ren : Go.Shelf.Ren := ⟨fun | 227 => 160 | n => n, fun | 9 => 9 | 116 => 161 | 4 => 4 | 0 => 0 | 3 => 3 | 5 => 5 | n => n, fun | n => n⟩
theorem Tryz.lays227 : Go.Proofs.Lays.n227 Tryz.prog Tryz.lays227_ren := {
  mixed := by kernel_rfl
  f227 := Tryz.func160.trans (congrArg some (by kernel_rfl))
  t0 := Tryz.underlying0
  a0 := Tryz.isAgg0
  z0 := Tryz.sizeOf0
  v0 := Tryz.zeroValue0
  t3 := Tryz.underlying3
  a3 := Tryz.isAgg3
  z3 := Tryz.sizeOf3
  v3 := Tryz.zeroValue3
  t4 := Tryz.underlying4
  a4 := Tryz.isAgg4
  z4 := Tryz.sizeOf4
  v4 := Tryz.zeroValue4
  t5 := Tryz.underlying5
  a5 := Tryz.isAgg5
  z5 := Tryz.sizeOf5
  v5 := Tryz.zeroValue5
  t9 := Tryz.underlying9
  a9 := Tryz.isAgg9
  z9 := Tryz.sizeOf9
  v9 := Tryz.zeroValue9
  t116 := Tryz.underlying161
  a116 := Tryz.isAgg161
  z116 := Tryz.sizeOf161 }
open Go.RowKit Go.Lib in
theorem Tryz.strings_makeASCIISet (hv116 : ∀ w, (zeroValue 161).run Tryz.prog w = .ok (.agg (Array.replicate 256 (.bool false))) w) (chars : ByteArray) (w : World) (hs : chars.size < 4294967281) (hascii : ∀ (j : Nat) b, chars.data.toList[j]? = some b → b.toNat < 128) :
    Calls Tryz.prog 160 #[.string chars] w fun e w' => e = .returned (.tuple #[.agg (Lib.setCells chars.data.toList), .bool true]) ∧ w' = w.alloc (.cells (Lib.setCells chars.data.toList) 161) := Any.strings_makeASCIISet Tryz.lays227 hv116 (by kernel_rfl) chars w hs hascii
def Tryz.lays228_ren : Go.Shelf.Ren := ⟨fun | 228 => 170 | n => n, fun | 124 => 165 | 5 => 5 | 4 => 4 | 0 => 0 | 116 => 161 | n => n, fun | n => n⟩
theorem Tryz.lays228 : Go.Proofs.Lays.n228 Tryz.prog Tryz.lays228_ren := {
  mixed := by kernel_rfl
  f228 := Tryz.func170.trans (congrArg some (by kernel_rfl))
  t0 := Tryz.underlying0
  a0 := Tryz.isAgg0
  z0 := Tryz.sizeOf0
  v0 := Tryz.zeroValue0
  t4 := Tryz.underlying4
  a4 := Tryz.isAgg4
  z4 := Tryz.sizeOf4
  v4 := Tryz.zeroValue4
  t5 := Tryz.underlying5
  a5 := Tryz.isAgg5
  z5 := Tryz.sizeOf5
  v5 := Tryz.zeroValue5
  t116 := Tryz.underlying161
  a116 := Tryz.isAgg161
  z116 := Tryz.sizeOf161
  t124 := Tryz.underlying165
  a124 := Tryz.isAgg165
  z124 := Tryz.sizeOf165
  v124 := Tryz.zeroValue165 }
open Go.RowKit Go.Lib in
theorem Tryz.asciiSet_contains (b : Nat) (x : UInt8) (v : Bool) (w : World) (hc : w.cell? ⟨b, x.toNat, none⟩ = some (.bool v)) :
    Calls Tryz.prog 170 #[.pointer (some ⟨b, 0, none⟩), .int .u8 x.toNat] w fun e w' => e = .returned (.bool v) ∧ w' = w := Any.asciiSet_contains Tryz.lays228 b x v w hc
end Go.Proofs
end
section
namespace Go.Proofs.YtnimaenhijlcmaaGreatDoor.K
open Go.RowKit Go.Proofs.YtnimaenhijlcmaaGreatDoor.Q Go.Proofs.YtnimaenhijlcmaaGreatDoor.Mb Go.Proofs.YtnimaenhijlcmaaGreatDoorW.PrintWords
set_option linter.unusedVariables false
set_option linter.unusedSimpArgs false
def ty : Nat → Option Ty
  | 3 => some (.int .i64)
  | 5 => some (.int .u8)
  | 21 => some (.int .i32)
  | 4 => some .bool
  | 9 => some .str
  | 34 => some (.slc 5 1)
  | _ => none
theorem info_u8 : (Tryz.prog.info? 5).map (fun i => (i.zero, i.size, i.bytes)) = some (some (.int .u8 0), 1, 1) := by kernel_rfl
theorem info_str3 : (Tryz.prog.info? 9).map (fun i => (i.zero, i.size, i.bytes)) = some (some (.string ⟨#[]⟩), 1, 16) := by kernel_rfl
theorem tys : Tys Tryz.prog ty := by
  intro t k h
  unfold ty at h
  split at h
  · cases h; exact Tryz.underlying3
  · cases h; exact Tryz.underlying5
  · cases h; exact Tryz.underlying21
  · cases h; exact Tryz.underlying4
  · cases h; exact Tryz.underlying9
  · cases h
    obtain ⟨i0, hi, hz⟩ := Option.map_eq_some_iff.1 info_u8
    simp only [Prod.mk.injEq] at hz
    exact ⟨Tryz.underlying34, i0, hi, hz.2.1⟩
  · cases h
def behindC (c : Int) (s : L) : L := match cutC c s with | some (_, b) => b | none => []
def Dr (w w' : World) : Prop := ∃ k, w' = w.drewN k
theorem Dr.refl (w : World) : Dr w w := ⟨0, rfl⟩
def find (c : Int) : L → Int
  | [] => -1
  | x :: r => if x = c then 0 else if find c r < 0 then -1 else find c r + 1
theorem find_ge (c : Int) : ∀ l, -1 ≤ find c l
  | [] => by simp [find]
  | x :: r => by have := find_ge c r; simp only [find]; split <;> (try split) <;> omega
theorem index_find {c : Int} (h0 : 0 ≤ c) (h1 : c ≤ 255) : ∀ l : List UInt8, Lib.indexByte l c.toNat.toUInt8 = find c (l.map fun b => (b.toNat : Int))
  | [] => rfl
  | b :: l => by
    have ih := index_find h0 h1 l
    have hg := find_ge c (l.map fun b => (b.toNat : Int))
    have hc : c.toNat.toUInt8.toNat = c.toNat := by simp; omega
    have he : (b == c.toNat.toUInt8) = decide ((b.toNat : Int) = c) := by
      rw [Bool.eq_iff_iff, beq_iff_eq, decide_eq_true_eq, ← UInt8.toNat_inj, hc]
      omega
    simp only [Lib.indexByte, List.map_cons, find, ih, he]
    by_cases h : (b.toNat : Int) = c
    · simp [h]
    · simp only [h, decide_false, if_false, Bool.false_eq_true, beq_iff_eq]
      split <;> split <;> omega
def Bytes (l : L) : Prop := ∀ x ∈ l, 0 ≤ x ∧ x ≤ 255
theorem bl_bytes (s : ByteArray) : Bytes (bl s) := by
  intro x hx
  obtain ⟨b, _, rfl⟩ := List.mem_map.1 hx
  have := b.toNat_lt
  omega
theorem ofNat_toNat {x : Int} (h0 : 0 ≤ x) (h1 : x ≤ 255) : ((UInt8.ofNat x.toNat).toNat : Int) = x := by
  simp only [UInt8.toNat_ofNat']
  omega
theorem blS {l : L} (h : Bytes l) : bl (strOfNums l) = l := by
  unfold bl strOfNums
  simp only [List.map_map]
  conv => rhs; rw [← List.map_id l]
  apply List.map_congr_left
  intro x hx
  exact ofNat_toNat (h x hx).1 (h x hx).2
theorem bl_inj {s t : ByteArray} (h : bl s = bl t) : s = t := by
  have := (Q.toList_iff s t).2 h
  rw [Lib.toList_data, Lib.toList_data] at this
  cases s; cases t
  simp only [ByteArray.mk.injEq]
  exact Array.toList_inj.1 this
theorem blE (s : ByteArray) (a b : Nat) : bl (s.extract a b) = ((bl s).drop a).take (b - a) := by
  simp [bl, ByteArray.data_extract, List.extract_eq_take_drop, List.map_take, List.map_drop]
theorem strS (s : ByteArray) : strOfNums (bl s) = s := bl_inj (blS (bl_bytes s))
theorem cut_find (c : Int) : ∀ l : L, (0 ≤ find c l → cutC c l = some (l.take (find c l).toNat, l.drop ((find c l).toNat + 1))) ∧ (find c l < 0 → cutC c l = none)
  | [] => by simp [find, cutC]
  | x :: r => by
    obtain ⟨h1, h2⟩ := cut_find c r
    have hg := find_ge c r
    simp only [find, cutC]
    by_cases hx : x = c
    · simp [hx]
    · rw [if_neg hx, if_neg hx]
      by_cases h : find c r < 0
      · rw [if_pos h, h2 h]; simp
      · rw [if_neg h, h1 (by omega)]
        have e : (find c r + 1).toNat = (find c r).toNat + 1 := by omega
        simp [e]
        omega
theorem cutb_cD (t : ByteArray) (c : UInt8) (ht : t.size < 4294967281) (w : World) (m : Int) (hm : w.cell? ⟨0, 0, none⟩ = some (.int .i64 m)) :
    Calls Tryz.prog 35 #[.string t, .string ⟨#[c]⟩] w fun e w' => e = .returned (.tuple #[.string (strOfNums (aheadC (c.toNat : Int) (bl t))), .string (strOfNums (behindC (c.toNat : Int) (bl t))), .bool (cutC (c.toNat : Int) (bl t)).isSome]) ∧ Bel w.heap.size w w' := by
  refine (Tryz.strings_Cut t ⟨#[c]⟩ m w ht hm).mono fun e w' h => ?_
  obtain ⟨h1, k, h2⟩ := h
  refine ⟨?_, by rw [h2]; exact ⟨pw_below_drewN (Below.refl _ w) k, Nat.le_add_right _ _⟩⟩
  rw [h1]
  have hcc : (c.toNat : Int).toNat.toUInt8 = c := by simp
  have hi := index_find (c := (c.toNat : Int)) (by omega) (by have := c.toNat_lt; omega) t.data.toList
  rw [hcc] at hi
  obtain ⟨h3, h4⟩ := cut_find (c.toNat : Int) (bl t)
  have hb : (t.data.toList.map fun b => (b.toNat : Int)) = bl t := rfl
  rw [hb] at hi
  have key : bl ⟨(Lib.cut t.data.toList [c]).1.toArray⟩ = aheadC (c.toNat : Int) (bl t) ∧ bl ⟨(Lib.cut t.data.toList [c]).2.1.toArray⟩ = behindC (c.toNat : Int) (bl t) ∧ (Lib.cut t.data.toList [c]).2.2 = (cutC (c.toNat : Int) (bl t)).isSome := by
    unfold Lib.cut
    rw [Lib.index_one, hi]
    by_cases h : 0 ≤ find (c.toNat : Int) (bl t)
    · rw [if_pos h]
      unfold aheadC behindC
      rw [h3 h]
      refine ⟨by simp [bl, List.map_take], by simp [bl, List.map_drop], rfl⟩
    · rw [if_neg h]
      unfold aheadC behindC
      rw [h4 (by omega)]
      exact ⟨rfl, rfl, rfl⟩
  rw [← key.1, ← key.2.1, ← key.2.2, strS, strS]
theorem cutb_c (t : ByteArray) (c : UInt8) (ht : t.size < 4294967281) (w : World) (m : Int) (hm : w.cell? ⟨0, 0, none⟩ = some (.int .i64 m)) :
    Calls Tryz.prog 35 #[.string t, .string ⟨#[c]⟩] w fun e w' => e = .returned (.tuple #[.string (strOfNums (aheadC (c.toNat : Int) (bl t))), .string (strOfNums (behindC (c.toNat : Int) (bl t))), .bool (cutC (c.toNat : Int) (bl t)).isSome]) ∧ Below w.heap.size w w' := (cutb_cD t c ht w m hm).mono fun _ _ h => ⟨h.1, h.2.toBelow⟩
theorem splitC_find (c : Int) : ∀ l : L, splitC c l = if find c l < 0 then [l] else l.take (find c l).toNat :: splitC c (l.drop ((find c l).toNat + 1))
  | [] => by rw [if_pos (by show (-1 : Int) < 0; omega)]; rfl
  | x :: r => by
    have ih := splitC_find c r
    have hg := find_ge c r
    by_cases hx : x = c
    · have ef : find c (x :: r) = 0 := by simp [find, hx]
      rw [ef, if_neg (by omega)]
      simp [splitC, hx]
    · by_cases h : find c r < 0
      · have ef : find c (x :: r) = -1 := by simp [find, hx, h]
        rw [if_pos h] at ih
        rw [ef, if_pos (by omega), splitC, if_neg hx, ih]
      · have ef : find c (x :: r) = find c r + 1 := by simp [find, hx, h]
        rw [if_neg h] at ih
        rw [ef, if_neg (by omega), splitC, if_neg hx, ih]
        have e : (find c r + 1).toNat = (find c r).toNat + 1 := by omega
        simp [e]
theorem split_eq (c : UInt8) : ∀ (k : Nat) (s : ByteArray), Lib.countB s ⟨#[c]⟩ = k → (Lib.splitB ⟨#[c]⟩ 0 k s).map bl = splitC (c.toNat : Int) (bl s) := by
  have hix : ∀ s : ByteArray, Lib.indexB s ⟨#[c]⟩ = find (c.toNat : Int) (bl s) := by
    intro s
    have hcc : (c.toNat : Int).toNat.toUInt8 = c := by simp
    have hi := index_find (c := (c.toNat : Int)) (by omega) (by have := c.toNat_lt; omega) s.data.toList
    rw [hcc] at hi
    show Lib.index s.data.toList [c] = _
    rw [Lib.index_one]
    exact hi
  intro k
  induction k with
  | zero =>
    intro s hk
    rw [splitC_find]
    by_cases h : find (c.toNat : Int) (bl s) < 0
    · rw [if_pos h]; rfl
    · obtain ⟨i, hi⟩ := Int.eq_ofNat_of_zero_le (show 0 ≤ find (c.toNat : Int) (bl s) by omega)
      have := Lib.countB_hit s ⟨#[c]⟩ i (Nat.le_refl 1) (by rw [hix, hi])
      omega
  | succ k ih =>
    intro s hk
    rw [splitC_find]
    by_cases h : find (c.toNat : Int) (bl s) < 0
    · have := Lib.countB_miss s ⟨#[c]⟩ (by rw [hix]; have := find_ge (c.toNat : Int) (bl s); omega)
      omega
    · rw [if_neg h]
      obtain ⟨i, hi⟩ := Int.eq_ofNat_of_zero_le (show 0 ≤ find (c.toNat : Int) (bl s) by omega)
      have h1 := Lib.countB_hit s ⟨#[c]⟩ i (Nat.le_refl 1) (by rw [hix, hi])
      rw [Lib.splitB_hit _ _ _ _ i (by rw [hix, hi]), List.map_cons, ih _ (by omega), hi, blE, blE]
      have e1 : (bl s).length = s.size := bl_length s
      have e2 : (ByteArray.mk #[c]).size = 1 := rfl
      rw [e2, Int.toNat_natCast]
      congr 1
      rw [List.take_of_length_le (by rw [List.length_drop]; omega)]
abbrev strC (l : List L) : List Value := l.map fun x => .string (strOfNums x)
theorem split_cD (t : ByteArray) (c : UInt8) (ht : t.size < 4294967281) (w : World) (m : Int) (hm : w.cell? ⟨0, 0, none⟩ = some (.int .i64 m)) :
    Calls Tryz.prog 56 #[.string t, .string ⟨#[c]⟩] w fun e w' => ∃ g, e = .returned (.slice (some ⟨g, 0, none⟩) (splitC (c.toNat : Int) (bl t)).length (splitC (c.toNat : Int) (bl t)).length) ∧ Hd w w' [(g, 9, strC (splitC (c.toNat : Int) (bl t)))] [] := by
  refine (Tryz.strings_Split t ⟨#[c]⟩ m w ht hm (Nat.le_refl 1)).mono fun e w' h => ?_
  obtain ⟨h1, h2⟩ := h
  have hs := split_eq c _ t rfl
  have hl : (splitC (c.toNat : Int) (bl t)).length = Lib.countB t ⟨#[c]⟩ + 1 := by
    rw [← hs, List.length_map, Lib.splitB_all ⟨#[c]⟩ (Nat.le_refl 1) _ _ _ rfl]
  have hc : (Lib.splitB ⟨#[c]⟩ 0 (Lib.countB t ⟨#[c]⟩) t).map Value.string = strC (splitC (c.toNat : Int) (bl t)) := by
    rw [← hs, strC, List.map_map]
    exact List.map_congr_left fun x _ => by simp [strS]
  refine ⟨w.heap.size, by rw [h1, hl], ?_⟩
  rw [h2, hc]
  exact (HpS.nil w).push 9 _
theorem split_c (t : ByteArray) (c : UInt8) (ht : t.size < 4294967281) (w : World) (m : Int) (hm : w.cell? ⟨0, 0, none⟩ = some (.int .i64 m)) :
    Calls Tryz.prog 56 #[.string t, .string ⟨#[c]⟩] w fun e w' => ∃ g, e = .returned (.slice (some ⟨g, 0, none⟩) (splitC (c.toNat : Int) (bl t)).length (splitC (c.toNat : Int) (bl t)).length) ∧ Hp w w' [(g, 9, strC (splitC (c.toNat : Int) (bl t)))] [] := (split_cD t c ht w m hm).mono fun _ _ h => let ⟨g, h1, h2⟩ := h; ⟨g, h1, h2⟩
theorem fill_s (a : ByteArray) : Instr.fill (fun i => some (i * 1, 1)) ((Array.range (1 * 1)).map ((Value.string ⟨#[]⟩).cells[· % (Value.string ⟨#[]⟩).cells.size]!)) [(0, .string a)] = some [Value.string a].toArray := by kernel_rfl
theorem strC_at {ls : List L} {i : Nat} {x : L} (h : ls[i]? = some x) : (strC ls)[i * 1]? = some (.string (strOfNums x)) := by
  rw [Nat.mul_one, List.getElem?_map, h]; rfl
theorem bl_cat (s t : ByteArray) : bl (s ++ t) = bl s ++ bl t := by
  unfold bl
  rw [ByteArray.data_append, Array.toList_append, List.map_append]
abbrev rowT (v : Value) (l : List L) : RowD := ⟨v, 9, 1, l.length, strC l⟩
theorem rowT_at {s : Bool} {w0 w : World} {l : List Ent} {r : List RowD} (H : HpS s w0 w l r) (k : Nat) {A : Option Addr} {c : Nat} {x : List L} (hk : r[k]? = some (rowT (.slice A x.length c) x)) : Rd w A (strC x) := by
  obtain ⟨A', c', e, _, hrd, _⟩ := H.rd k hk
  simp only [Value.slice.injEq] at e
  rw [e.1]
  exact hrd
theorem rdT_some {w : World} {A : Option Addr} {x : List L} {y : L} {i : Nat} (h : Rd w A (strC x)) (hy : x[i]? = some y) : ∃ a, A = some a := by
  have hc := strC_at hy
  cases A with
  | none =>
    have h1 : strC x = [] := h.1 rfl
    rw [h1] at hc
    simp at hc
  | some a => exact ⟨a, rfl⟩
theorem rdT_cell {w : World} {a : Addr} {x : List L} {y : L} {i : Nat} (h : Rd w (some a) (strC x)) (hy : x[i]? = some y) : w.cell? (a.add (i * 1)) = some (.string (strOfNums y)) := h.2 a rfl _ _ (strC_at hy)
end Go.Proofs.YtnimaenhijlcmaaGreatDoor.K
end
section
namespace Go.Proofs.YtnimaenhijlcmaaGreatDoor.K
open Go.RowKit Go.Proofs.YtnimaenhijlcmaaGreatDoor.Q Go.Proofs.YtnimaenhijlcmaaGreatDoor.Mb Go.Proofs.YtnimaenhijlcmaaGreatDoorW.PrintWords
set_option linter.unusedVariables false
set_option linter.unusedSimpArgs false
section
variable {P : Program} {n : Nat} {f : Fr} {w w0 : World} {ops : Array Oper} {Q : Exit → Act → World → Prop} {rest : List Oper} {d : Option Nat} {tt : TypeId} {ps : String} {af : Array Edge} {gd : Option (Nat × Bool)} {l : List Ent} {r : List RowD} {sd : Bool}
theorem l_range (H : HpS sd w0 w l r) {t : TypeId} {x : Operand} {s : ByteArray} (ht : P.underlying t = some .string) (hw : want n ops f ⟨d, .range t x, tt, ps, af, gd⟩ = true) (hx : nf (X n f x) = some (.string s))
    (h : ∀ g w', HpS sd w0 w' l r → w'.heap[g]? = some (.stringIter s 0) → w0.heap.size ≤ g → WL P ops Q rest (act n (put f d (.pointer (some ⟨g, 0, none⟩)))) w') : WL P ops Q (⟨d, .range t x, tt, ps, af, gd⟩ :: rest) (act n f) w := by
  have hx' := nf_eq hx
  have hr := run_range_string (P := P) w t s ht
  have K : Below w.heap.size w (w.iter s 0) := (Below.refl _ w).alloc (Nat.le_refl _) _
  refine h_valw hw ?_ (h w.heap.size _ (H.call K (fun _ => Nat.le_refl _)) (World.iter_heap w s 0) H.B.size)
  unfold execOp
  simp [← hx', hr]
theorem l_nextE {x : Operand} {g pos : Nat} {s : ByteArray} (hk : w.heap[g]? = some (.stringIter s pos)) (hp : ¬ pos < s.size) (hw : want n ops f ⟨d, .next x true, tt, ps, af, gd⟩ = true) (hx : nf (X n f x) = some (.pointer (some ⟨g, 0, none⟩)))
    (h : WL P ops Q rest (act n (put f d (.tuple #[.bool false]))) w) : WL P ops Q (⟨d, .next x true, tt, ps, af, gd⟩ :: rest) (act n f) w := by
  have hx' := nf_eq hx
  have hr := Lib.run_next_end_at (P := P) w g s pos tt hk hp
  refine l_val hw ?_ h
  unfold execOp
  simp [← hx', hr]
theorem l_nextV (H : HpS sd w0 w [] []) {x : Operand} {g pos : Nat} {s : ByteArray} (hk : w.heap[g]? = some (.stringIter s pos)) (hg : w0.heap.size ≤ g) (hp : pos < s.size) (hw : want n ops f ⟨d, .next x true, tt, ps, af, gd⟩ = true) (hx : nf (X n f x) = some (.pointer (some ⟨g, 0, none⟩)))
    (h : ∀ w', HpS sd w0 w' [] [] → w'.heap[g]? = some (.stringIter s (pos + (Utf8.decode s pos).2)) → WL P ops Q rest (act n (put f d (.tuple #[.bool true, .int .i64 pos, .int .i32 (Utf8.decode s pos).1]))) w') : WL P ops Q (⟨d, .next x true, tt, ps, af, gd⟩ :: rest) (act n f) w := by
  have hx' := nf_eq hx
  have hr := Lib.run_next_any_at (P := P) w g s pos tt hk hp
  refine h_valw hw ?_ (h _ ((HpS.nil w0).call (Lib.below_iterAt H.B hg s _) (fun e => H.dr e)) (Lib.iterAt_heap w g s pos _ hk))
  unfold execOp
  simp [← hx', hr]
end
theorem dec_byte (t : ByteArray) (pos : Nat) (h : pos < t.size) : ∃ b : Int, (bl t)[pos]? = some b ∧ ((b < 128 ∧ ((Utf8.decode t pos).1 : Int) = b ∧ (Utf8.decode t pos).2 = 1) ∨ (128 ≤ b ∧ (128 : Int) ≤ ((Utf8.decode t pos).1 : Int))) := by
  have hl : pos < t.data.toList.length := by rw [Array.length_toList]; exact h
  have e : (bl t)[pos]? = some ((t[pos]'h).toNat : Int) := by
    unfold bl
    rw [List.getElem?_map, List.getElem?_eq_getElem hl]
    rfl
  refine ⟨_, e, ?_⟩
  by_cases ha : (t[pos]'h).toNat < 128
  · have := decode_ascii t pos h ha
    exact .inl ⟨by omega, by rw [this], by rw [this]⟩
  · have := (decode_high t pos h (by omega)).1
    exact .inr ⟨by omega, by omega⟩
theorem not_all {p : Int → Bool} {l : L} {i : Nat} {b : Int} (h : l[i]? = some b) (hb : p b = false) : l.all p = false := by
  rw [List.all_eq_false]
  exact ⟨b, List.mem_of_getElem? h, by rw [hb]; simp⟩
theorem take_all {p : Int → Bool} {l : L} {i : Nat} {b : Int} (h : l[i]? = some b) (hb : p b = true) (ht : (l.take i).all p = true) : (l.take (i + 1)).all p = true := by
  have hi : i < l.length := (List.getElem?_eq_some_iff.1 h).1
  rw [List.take_succ_eq_append_getElem hi, List.all_append, ht, (List.getElem?_eq_some_iff.1 h).2]
  simp [hb]
theorem isDigit_c (c : Int) (w : World) : Calls Tryz.prog 128 #[.int .i32 c] w fun e w' => e = .returned (.bool (digB c)) ∧ w' = w := by
  refine enter (args := [.int .i32 c]) Tryz.func128 rfl Tryz.ntmps128 rfl ?_
  repeat' (first | (with_reducible first | refine p_tn ?_ | refine wp_seq ?_ | refine w_reg ?_ | refine wp_ret ?_ | refine l_nil ?_) | (with_reducible (refine is_l ?_; (first | (refine l_off rfl ?_) | (refine l_p tys rfl rfl ?_) | (refine l_t tys rfl rfl (fun _ => ?_) (fun _ => ?_))))))
  all_goals (refine end1 rfl rfl ?_; exact ⟨by simp [digB, *], rfl⟩)
theorem isSmall_c (c : Int) (w : World) : Calls Tryz.prog 129 #[.int .i32 c] w fun e w' => e = .returned (.bool (smlB c)) ∧ w' = w := by
  refine enter (args := [.int .i32 c]) Tryz.func129 rfl Tryz.ntmps129 rfl ?_
  repeat' (first | (with_reducible first | refine p_tn ?_ | refine wp_seq ?_ | refine w_reg ?_ | refine wp_ret ?_ | refine l_nil ?_) | (with_reducible (refine is_l ?_; (first | (refine l_off rfl ?_) | (refine l_p tys rfl rfl ?_) | (refine l_t tys rfl rfl (fun _ => ?_) (fun _ => ?_))))))
  all_goals (refine end1 rfl rfl ?_; exact ⟨by simp [smlB, *], rfl⟩)
theorem isCapital_c (c : Int) (w : World) : Calls Tryz.prog 130 #[.int .i32 c] w fun e w' => e = .returned (.bool (capB c)) ∧ w' = w := by
  refine enter (args := [.int .i32 c]) Tryz.func130 rfl Tryz.ntmps130 rfl ?_
  repeat' (first | (with_reducible first | refine p_tn ?_ | refine wp_seq ?_ | refine w_reg ?_ | refine wp_ret ?_ | refine l_nil ?_) | (with_reducible (refine is_l ?_; (first | (refine l_off rfl ?_) | (refine l_p tys rfl rfl ?_) | (refine l_t tys rfl rfl (fun _ => ?_) (fun _ => ?_))))))
  all_goals (refine end1 rfl rfl ?_; exact ⟨by simp [capB, *], rfl⟩)
set_option maxHeartbeats 4000000 in
theorem isNumber_cD (t : ByteArray) (w : World) (ht : t.size ≤ 100000000) : Calls Tryz.prog 91 #[.string t] w fun e w' => e = .returned (.bool (numB (bl t))) ∧ Bel w.heap.size w w' := by
  have hlen := bl_length t
  refine enter (args := [.string t]) Tryz.func91 rfl Tryz.ntmps91 rfl ?_
  have H : Hd w w [] [] := HpS.nil w
  repeat' (first | (with_reducible first | refine p_tn ?_ | refine wp_seq ?_ | refine w_reg ?_ | refine l_nil ?_) | (with_reducible (refine is_l ?_; (refine l_p tys rfl rfl ?_))))
  (with_reducible refine is_l ?_); refine l_range H Tryz.underlying9 rfl rfl (fun g w_ H hk hg => ?_)
  repeat' (with_reducible first | refine p_tn ?_ | refine wp_block ?_ | refine l_nil ?_)
  refine w_loop (σ := Nat) (S := fun s => [(0, .string t), (6, .pointer (some ⟨g, 0, none⟩))]) (J := fun s w' => Hd w w' [] [] ∧ w'.heap[g]? = some (.stringIter t s) ∧ ((bl t).take s).all digB = true) (μ := fun s => t.size - s) 0 ⟨rfl, rfl, trivial⟩ ⟨H, hk, by simp⟩ ?_
  clear hk H
  rintro p f w_ ⟨H, hk, ha⟩
  repeat' (with_reducible first | refine wp_seq ?_ | refine w_reg ?_)
  by_cases hp : p < t.size
  · obtain ⟨b, hb, hbb⟩ := dec_byte t p hp
    (with_reducible refine is_l ?_); refine l_nextV H hk hg hp rfl rfl (fun w_ H hk => ?_)
    rcases hbb with ⟨h1, h2, h3⟩ | ⟨h1, h2⟩
    · rw [h3] at hk
      rw [h2]
      repeat' (first | (with_reducible first | refine p_tn ?_ | refine wp_seq ?_ | refine wp_block ?_ | refine w_reg ?_) | (with_reducible (refine is_if ?_; (refine w_ift rfl ?_))) | (with_reducible first | refine wp_skip ?_ | refine l_nil ?_) | (with_reducible (refine is_l ?_; (refine l_p tys rfl rfl ?_))))
      (with_reducible refine is_l ?_); refine l_callp rfl rfl (by kernel_rfl) (isDigit_c b _) ?_
      cases hd : digB b
      · have hn : numB (bl t) = false := by unfold numB; rw [not_all hb hd]; rfl
        repeat' (first | (with_reducible first | refine p_tn ?_ | refine p_tr ?_ | refine p_br ?_ | refine wp_seq ?_ | refine w_reg ?_) | (with_reducible (refine is_if ?_; (refine w_ift rfl ?_))) | (with_reducible first | refine wp_ret ?_ | refine l_nil ?_) | (with_reducible (refine is_l ?_; (refine l_p tys rfl rfl ?_))))
        refine end1 rfl rfl ?_
        exact ⟨by rw [hn], H.BD⟩
      · repeat' (first | (with_reducible first | refine p_tn ?_ | refine p_bn ?_) | (with_reducible (refine is_if ?_; (refine w_iff rfl ?_))) | (with_reducible first | refine wp_skip ?_ | refine l_nil ?_) | (with_reducible (refine is_l ?_; (refine l_p tys rfl rfl ?_))))
        exact ⟨p + 1, _, rfl, ⟨rfl, rfl, trivial⟩, ⟨H, hk, take_all hb hd ha⟩, by omega⟩
    · have hd : digB b = false := by unfold digB; simp; omega
      have hn : numB (bl t) = false := by unfold numB; rw [not_all hb hd]; rfl
      repeat' (first | (with_reducible first | refine p_tn ?_ | refine wp_seq ?_ | refine wp_block ?_ | refine w_reg ?_) | (with_reducible (refine is_if ?_; (refine w_ift rfl ?_))) | (with_reducible first | refine wp_skip ?_ | refine l_nil ?_) | (with_reducible (refine is_l ?_; (refine l_p tys rfl rfl ?_))))
      have hd2 := fun w1 => isDigit_c ((Utf8.decode t p).1 : Int) w1
      rw [show digB ((Utf8.decode t p).1 : Int) = false by unfold digB; simp; omega] at hd2
      (with_reducible refine is_l ?_); refine l_callp rfl rfl (by kernel_rfl) (hd2 _) ?_
      repeat' (first | (with_reducible first | refine p_tn ?_ | refine p_tr ?_ | refine p_br ?_ | refine wp_seq ?_ | refine w_reg ?_) | (with_reducible (refine is_if ?_; (refine w_ift rfl ?_))) | (with_reducible first | refine wp_ret ?_ | refine l_nil ?_) | (with_reducible (refine is_l ?_; (refine l_p tys rfl rfl ?_))))
      refine end1 rfl rfl ?_
      exact ⟨by rw [hn], H.BD⟩
  · have hall : (bl t).all digB = true := by rw [← List.take_of_length_le (l := bl t) (i := p) (by omega)]; exact ha
    (with_reducible refine is_l ?_); refine l_nextE hk hp rfl rfl ?_
    repeat' (first | (with_reducible first | refine p_tn ?_ | refine p_tx ?_ | refine x_hit ?_ | refine wp_seq ?_ | refine w_reg ?_) | (with_reducible (refine is_if ?_; (refine w_iff rfl ?_))) | (with_reducible first | refine wp_exit ?_ | refine l_nil ?_) | (with_reducible (refine is_l ?_; (refine l_p tys rfl rfl ?_))))
    (with_reducible refine is_l ?_); refine l_t tys rfl rfl (fun h1 => ?_) (fun h1 => ?_)
    · have hne : bl t ≠ [] := h1
      have hpos : 0 < t.size := by rw [← hlen]; exact List.length_pos_iff.2 hne
      repeat' (with_reducible (refine is_l ?_; (refine l_p tys rfl rfl ?_)))
      (with_reducible refine is_l ?_); refine l_t tys rfl rfl (fun h2 => ?_) (fun h2 => ?_)
      · have h2 : bl t = [48] := h2
        repeat' (first | (with_reducible first | refine p_tn ?_ | refine wp_ret ?_ | refine l_nil ?_) | (with_reducible (refine is_l ?_; (first | (refine l_off rfl ?_) | (refine l_p tys rfl rfl ?_)))))
        refine end1 rfl rfl ?_
        exact ⟨by rw [h2]; rfl, H.BD⟩
      · have h2 : ¬ bl t = [48] := h2
        have h0 : (bl t).head? = some (at_ (bl t) 0) := by
          unfold at_
          cases hb : bl t with
          | nil => exact absurd hb hne
          | cons x r => rfl
        repeat' (with_reducible (refine is_l ?_; (first | (refine l_p tys rfl rfl ?_) | (refine l_ix tys rfl rfl (by first | omega | assumption | decide) (by first | omega | assumption | decide) ?_))))
        (with_reducible refine is_l ?_); refine l_t tys rfl rfl (fun h3 => ?_) (fun h3 => ?_)
        · have hn : numB (bl t) = true := by
            unfold numB
            rw [hall, h0]
            simp [hne, h3]
          repeat' (first | (with_reducible first | refine p_tn ?_ | refine wp_ret ?_ | refine l_nil ?_) | (with_reducible (refine is_l ?_; (refine l_p tys rfl rfl ?_))))
          refine end1 rfl rfl ?_
          exact ⟨by rw [hn], H.BD⟩
        · have h3 : at_ (bl t) 0 = 48 := Classical.not_not.1 h3
          have hn : numB (bl t) = false := by
            unfold numB
            rw [h0, h3]
            simp [h2]
          repeat' (first | (with_reducible first | refine p_tn ?_ | refine wp_ret ?_ | refine l_nil ?_) | (with_reducible (refine is_l ?_; (refine l_p tys rfl rfl ?_))))
          refine end1 rfl rfl ?_
          exact ⟨by rw [hn], H.BD⟩
    · have h1 : bl t = [] := Classical.not_not.1 h1
      have hn : numB (bl t) = false := by rw [h1]; rfl
      repeat' (first | (with_reducible first | refine p_tn ?_ | refine wp_ret ?_ | refine l_nil ?_) | (with_reducible (refine is_l ?_; (first | (refine l_off rfl ?_) | (refine l_p tys rfl rfl ?_)))))
      refine end1 rfl rfl ?_
      exact ⟨by rw [hn], H.BD⟩
theorem isNumber_c (t : ByteArray) (w : World) (ht : t.size ≤ 100000000) : Calls Tryz.prog 91 #[.string t] w fun e w' => e = .returned (.bool (numB (bl t))) ∧ Below w.heap.size w w' := (isNumber_cD t w ht).mono fun _ _ h => ⟨h.1, h.2.toBelow⟩
set_option maxHeartbeats 4000000 in
theorem isWord_cD (t : ByteArray) (w : World) (ht : t.size ≤ 100000000) : Calls Tryz.prog 90 #[.string t] w fun e w' => e = .returned (.bool (wordB (bl t))) ∧ Bel w.heap.size w w' := by
  have hlen := bl_length t
  refine enter (args := [.string t]) Tryz.func90 rfl Tryz.ntmps90 rfl ?_
  have H : Hd w w [] [] := HpS.nil w
  repeat' (first | (with_reducible first | refine p_tn ?_ | refine wp_seq ?_ | refine w_reg ?_ | refine l_nil ?_) | (with_reducible (refine is_l ?_; (refine l_p tys rfl rfl ?_))))
  (with_reducible refine is_l ?_); refine l_range H Tryz.underlying9 rfl rfl (fun g w_ H hk hg => ?_)
  repeat' (with_reducible first | refine p_tn ?_ | refine wp_block ?_ | refine l_nil ?_)
  refine w_loop (σ := Nat × Bool) (S := fun s => [(0, .string t), (3, .bool s.2), (7, .pointer (some ⟨g, 0, none⟩))]) (J := fun s w' => Hd w w' [] [] ∧ w'.heap[g]? = some (.stringIter t s.1) ∧ ((bl t).take s.1).all wordC = true ∧ s.2 = ((bl t).take s.1).all digB) (μ := fun s => t.size - s.1) (0, true) ⟨rfl, rfl, rfl, trivial⟩ ⟨H, hk, by simp, by simp⟩ ?_
  clear hk H
  rintro ⟨p, dg⟩ f w_ ⟨H, hk, ha, hdg⟩
  simp only at H hk ha hdg ⊢
  repeat' (with_reducible first | refine wp_seq ?_ | refine w_reg ?_)
  by_cases hp : p < t.size
  · obtain ⟨b, hb, hbb⟩ := dec_byte t p hp
    (with_reducible refine is_l ?_); refine l_nextV H hk hg hp rfl rfl (fun w_ H hk => ?_)
    have hmore : ∀ q : Int → Bool, ((bl t).take (p + 1)).all q = (((bl t).take p).all q && q b) := fun q => by
      rw [List.take_succ_eq_append_getElem (by omega), List.all_append, (List.getElem?_eq_some_iff.1 hb).2]
      simp
    rcases hbb with ⟨h1, h2, h3⟩ | ⟨h1, h2⟩
    · rw [h3] at hk
      rw [h2]
      repeat' (first | (with_reducible first | refine p_tn ?_ | refine wp_seq ?_ | refine wp_block ?_ | refine w_reg ?_) | (with_reducible (refine is_if ?_; (refine w_ift rfl ?_))) | (with_reducible first | refine wp_skip ?_ | refine l_nil ?_) | (with_reducible (refine is_l ?_; (refine l_p tys rfl rfl ?_))))
      (with_reducible refine is_l ?_); refine l_callp rfl rfl (by kernel_rfl) (isDigit_c b _) ?_
      cases hd : digB b
      · repeat' (first | (with_reducible first | refine p_tn ?_ | refine wp_seq ?_ | refine w_reg ?_) | (with_reducible (refine is_if ?_; (refine w_ift rfl ?_))) | (with_reducible refine l_nil ?_) | (with_reducible (refine is_l ?_; (refine l_p tys rfl rfl ?_))))
        (with_reducible refine is_l ?_); refine l_callp rfl rfl (by kernel_rfl) (isSmall_c b _) ?_
        cases hs : smlB b
        · repeat' (with_reducible (refine is_l ?_; (refine l_p tys rfl rfl ?_)))
          (with_reducible refine is_l ?_); refine l_callp rfl rfl (by kernel_rfl) (isCapital_c b _) ?_
          cases hc : capB b
          · repeat' (with_reducible (refine is_l ?_; (refine l_p tys rfl rfl ?_)))
            (with_reducible refine is_l ?_); refine l_t tys rfl rfl (fun h4 => ?_) (fun h4 => ?_)
            · have hw : wordC b = false := by unfold wordC; rw [hd, hs, hc]; simpa using h4
              have hn : wordB (bl t) = false := by unfold wordB; rw [not_all hb hw]; rfl
              repeat' (first | (with_reducible first | refine p_tn ?_ | refine p_tr ?_ | refine p_br ?_ | refine wp_seq ?_ | refine w_reg ?_) | (with_reducible (refine is_if ?_; (refine w_ift rfl ?_))) | (with_reducible first | refine wp_ret ?_ | refine l_nil ?_) | (with_reducible (refine is_l ?_; (refine l_p tys rfl rfl ?_))))
              refine end1 rfl rfl ?_
              exact ⟨by rw [hn], H.BD⟩
            · have hw : wordC b = true := by unfold wordC; rw [hd, hs, hc]; simpa using h4
              repeat' (first | (with_reducible first | refine p_tn ?_ | refine p_bn ?_) | (with_reducible (refine is_if ?_; (refine w_iff rfl ?_))) | (with_reducible first | refine wp_skip ?_ | refine l_nil ?_) | (with_reducible (refine is_l ?_; (refine l_p tys rfl rfl ?_))))
              exact ⟨(p + 1, false), _, rfl, ⟨rfl, rfl, rfl, trivial⟩, ⟨H, hk, by rw [hmore, ha, hw]; rfl, by rw [hmore, hd, Bool.and_false]⟩, by show _ - (p + 1) < _ - p; omega⟩
          · have hw : wordC b = true := by unfold wordC; rw [hc]; simp
            repeat' (first | (with_reducible first | refine p_tn ?_ | refine p_bn ?_) | (with_reducible (refine is_if ?_; (refine w_iff rfl ?_))) | (with_reducible first | refine wp_skip ?_ | refine l_nil ?_) | (with_reducible (refine is_l ?_; (first | (refine l_off rfl ?_) | (refine l_p tys rfl rfl ?_)))))
            exact ⟨(p + 1, false), _, rfl, ⟨rfl, rfl, rfl, trivial⟩, ⟨H, hk, by rw [hmore, ha, hw]; rfl, by rw [hmore, hd, Bool.and_false]⟩, by show _ - (p + 1) < _ - p; omega⟩
        · have hw : wordC b = true := by unfold wordC; rw [hs]; simp
          repeat' (first | (with_reducible first | refine p_tn ?_ | refine p_bn ?_) | (with_reducible (refine is_if ?_; (refine w_iff rfl ?_))) | (with_reducible first | refine wp_skip ?_ | refine l_nil ?_) | (with_reducible (refine is_l ?_; (first | (refine l_off rfl ?_) | (refine l_p tys rfl rfl ?_)))))
          exact ⟨(p + 1, false), _, rfl, ⟨rfl, rfl, rfl, trivial⟩, ⟨H, hk, by rw [hmore, ha, hw]; rfl, by rw [hmore, hd, Bool.and_false]⟩, by show _ - (p + 1) < _ - p; omega⟩
      · have hw : wordC b = true := by unfold wordC; rw [hd]; rfl
        repeat' (first | (with_reducible first | refine p_tn ?_ | refine p_bn ?_) | (with_reducible (refine is_if ?_; (refine w_iff rfl ?_))) | (with_reducible first | refine wp_skip ?_ | refine l_nil ?_) | (with_reducible (refine is_l ?_; (refine l_p tys rfl rfl ?_))))
        exact ⟨(p + 1, dg), _, rfl, ⟨rfl, rfl, rfl, trivial⟩, ⟨H, hk, by rw [hmore, ha, hw]; rfl, by rw [hmore, hd, Bool.and_true]; exact hdg⟩, by show _ - (p + 1) < _ - p; omega⟩
    · have hw : wordC b = false := by unfold wordC digB smlB capB; simp; omega
      generalize ((Utf8.decode t p).1 : Int) = q at h2 ⊢
      repeat' (first | (with_reducible first | refine p_tn ?_ | refine wp_seq ?_ | refine wp_block ?_ | refine w_reg ?_) | (with_reducible (refine is_if ?_; (refine w_ift rfl ?_))) | (with_reducible first | refine wp_skip ?_ | refine l_nil ?_) | (with_reducible (refine is_l ?_; (refine l_p tys rfl rfl ?_))))
      have hd2 := fun w1 => isDigit_c q w1
      have hs2 := fun w1 => isSmall_c q w1
      have hc2 := fun w1 => isCapital_c q w1
      rw [show digB q = false by unfold digB; simp; omega] at hd2
      rw [show smlB q = false by unfold smlB; simp; omega] at hs2
      rw [show capB q = false by unfold capB; simp; omega] at hc2
      (with_reducible refine is_l ?_); refine l_callp rfl rfl (by kernel_rfl) (hd2 _) ?_
      repeat' (first | (with_reducible first | refine p_tn ?_ | refine wp_seq ?_ | refine w_reg ?_) | (with_reducible (refine is_if ?_; (refine w_ift rfl ?_))) | (with_reducible refine l_nil ?_) | (with_reducible (refine is_l ?_; (refine l_p tys rfl rfl ?_))))
      (with_reducible refine is_l ?_); refine l_callp rfl rfl (by kernel_rfl) (hs2 _) ?_
      repeat' (with_reducible (refine is_l ?_; (refine l_p tys rfl rfl ?_)))
      (with_reducible refine is_l ?_); refine l_callp rfl rfl (by kernel_rfl) (hc2 _) ?_
      repeat' (with_reducible (refine is_l ?_; (refine l_p tys rfl rfl ?_)))
      (with_reducible refine is_l ?_); refine l_t tys rfl rfl (fun h4 => ?_) (fun h4 => absurd h4 (by omega))
      have hn : wordB (bl t) = false := by unfold wordB; rw [not_all hb hw]; rfl
      repeat' (first | (with_reducible first | refine p_tn ?_ | refine p_tr ?_ | refine p_br ?_ | refine wp_seq ?_ | refine w_reg ?_) | (with_reducible (refine is_if ?_; (refine w_ift rfl ?_))) | (with_reducible first | refine wp_ret ?_ | refine l_nil ?_) | (with_reducible (refine is_l ?_; (refine l_p tys rfl rfl ?_))))
      refine end1 rfl rfl ?_
      exact ⟨by rw [hn], H.BD⟩
  · have hfull : (bl t).take p = bl t := List.take_of_length_le (by omega)
    rw [hfull] at ha hdg
    (with_reducible refine is_l ?_); refine l_nextE hk hp rfl rfl ?_
    cases dg
    · skip
      repeat' (first | (with_reducible first | refine p_tn ?_ | refine p_tx ?_ | refine x_hit ?_ | refine wp_seq ?_ | refine w_reg ?_) | (with_reducible (refine is_if ?_; (refine w_iff rfl ?_))) | (with_reducible first | refine wp_exit ?_ | refine l_nil ?_) | (with_reducible (refine is_l ?_; (refine l_p tys rfl rfl ?_))))
      (with_reducible refine is_l ?_); refine l_t tys rfl rfl (fun h1 => ?_) (fun h1 => ?_)
      rotate_left
      · have h1 : bl t = [] := Classical.not_not.1 h1
        have hn : wordB (bl t) = false := by rw [h1]; rfl
        repeat' (first | (with_reducible first | refine p_tn ?_ | refine wp_ret ?_ | refine l_nil ?_) | (with_reducible (refine is_l ?_; (first | (refine l_off rfl ?_) | (refine l_p tys rfl rfl ?_)))))
        refine end1 rfl rfl ?_
        exact ⟨by rw [hn], H.BD⟩
      have hne : bl t ≠ [] := h1
      have hn : wordB (bl t) = true := by
        unfold wordB
        rw [ha, ← hdg]
        simp [hne]
      repeat' (first | (with_reducible first | refine p_tn ?_ | refine wp_ret ?_ | refine l_nil ?_) | (with_reducible (refine is_l ?_; (first | (refine l_off rfl ?_) | (refine l_p tys rfl rfl ?_)))))
      refine end1 rfl rfl ?_
      exact ⟨by rw [hn], H.BD⟩
    · skip
      repeat' (first | (with_reducible first | refine p_tn ?_ | refine p_tx ?_ | refine x_hit ?_ | refine wp_seq ?_ | refine w_reg ?_) | (with_reducible (refine is_if ?_; (refine w_iff rfl ?_))) | (with_reducible first | refine wp_exit ?_ | refine l_nil ?_) | (with_reducible (refine is_l ?_; (refine l_p tys rfl rfl ?_))))
      (with_reducible refine is_l ?_); refine l_t tys rfl rfl (fun h1 => ?_) (fun h1 => ?_)
      rotate_left
      · have h1 : bl t = [] := Classical.not_not.1 h1
        have hn : wordB (bl t) = false := by rw [h1]; rfl
        repeat' (first | (with_reducible first | refine p_tn ?_ | refine wp_ret ?_ | refine l_nil ?_) | (with_reducible (refine is_l ?_; (first | (refine l_off rfl ?_) | (refine l_p tys rfl rfl ?_)))))
        refine end1 rfl rfl ?_
        exact ⟨by rw [hn], H.BD⟩
      have hne : bl t ≠ [] := h1
      have hn : wordB (bl t) = numB (bl t) := by
        unfold wordB
        rw [ha, ← hdg]
        simp [hne]
      repeat' (with_reducible (refine is_l ?_; (refine l_p tys rfl rfl ?_)))
      (with_reducible refine is_l ?_); refine l_callv rfl rfl (by kernel_rfl) (isNumber_cD t _ ht) (fun w_ K => ?_)
      have H := H.callD K
      cases hnb : numB (bl t)
      all_goals
        repeat' (first | (with_reducible first | refine p_tn ?_ | refine wp_ret ?_ | refine l_nil ?_) | (with_reducible (refine is_l ?_; (refine l_p tys rfl rfl ?_))))
        refine end1 rfl rfl ?_
        exact ⟨by rw [hn, hnb], H.BD⟩
end Go.Proofs.YtnimaenhijlcmaaGreatDoor.K
end
section
namespace Go.Proofs.YtnimaenhijlcmaaGreatDoor.K
open Go.RowKit Go.Proofs.YtnimaenhijlcmaaGreatDoor.Q Go.Proofs.YtnimaenhijlcmaaGreatDoor.Mb Go.Proofs.YtnimaenhijlcmaaGreatDoorW.PrintWords
set_option linter.unusedVariables false
set_option linter.unusedSimpArgs false
theorem orderI_c (a b : Int) (w : World) : Calls Tryz.prog 93 #[.int .i64 a, .int .i64 b] w fun e w' => e = .returned (.int .i64 (cmpI a b)) ∧ w' = w := by
  refine enter (args := [.int .i64 a, .int .i64 b]) Tryz.func93 rfl Tryz.ntmps93 rfl ?_
  repeat' (first | (with_reducible first | refine p_tn ?_ | refine wp_seq ?_ | refine wp_block ?_ | refine w_reg ?_ | refine l_nil ?_) | (with_reducible (refine is_l ?_; (refine l_p tys rfl rfl ?_))))
  (with_reducible refine is_l ?_); refine l_t tys rfl rfl (fun h1 => ?_) (fun h1 => ?_)
  · repeat' (first | (with_reducible first | refine p_tn ?_ | refine p_tr ?_ | refine p_br ?_ | refine wp_seq ?_ | refine w_reg ?_) | (with_reducible (refine is_if ?_; (refine w_ift rfl ?_))) | (with_reducible first | refine wp_ret ?_ | refine l_nil ?_) | (with_reducible (refine is_l ?_; (refine l_p tys rfl rfl ?_))))
    refine end1 rfl rfl ?_
    exact ⟨by unfold cmpI; rw [if_pos h1], rfl⟩
  · repeat' (first | (with_reducible first | refine p_tn ?_ | refine wp_seq ?_ | refine w_reg ?_) | (with_reducible (refine is_if ?_; (refine w_iff rfl ?_))) | (with_reducible refine l_nil ?_) | (with_reducible (refine is_l ?_; (refine l_p tys rfl rfl ?_))))
    (with_reducible refine is_l ?_); refine l_t tys rfl rfl (fun h2 => ?_) (fun h2 => ?_)
    · repeat' (first | (with_reducible first | refine p_tn ?_ | refine p_tr ?_ | refine p_br ?_ | refine wp_seq ?_ | refine w_reg ?_) | (with_reducible (refine is_if ?_; (refine w_ift rfl ?_))) | (with_reducible first | refine wp_ret ?_ | refine l_nil ?_) | (with_reducible (refine is_l ?_; (refine l_p tys rfl rfl ?_))))
      refine end1 rfl rfl ?_
      exact ⟨by unfold cmpI; rw [if_neg h1, if_pos h2], rfl⟩
    · repeat' (first | (with_reducible first | refine p_tn ?_ | refine p_bn ?_ | refine wp_seq ?_ | refine w_reg ?_) | (with_reducible (refine is_if ?_; (refine w_iff rfl ?_))) | (with_reducible first | refine wp_skip ?_ | refine wp_ret ?_ | refine l_nil ?_) | (with_reducible (refine is_l ?_; (refine l_p tys rfl rfl ?_))))
      refine end1 rfl rfl ?_
      exact ⟨by unfold cmpI; rw [if_neg h1, if_neg h2], rfl⟩
theorem less_cmp : ∀ (s t : List UInt8), (Op.bytesLess s t = true ↔ cmpB (s.map fun b => (b.toNat : Int)) (t.map fun b => (b.toNat : Int)) = -1) ∧ (cmpB (s.map fun b => (b.toNat : Int)) (t.map fun b => (b.toNat : Int)) = 0 ↔ (s.map fun b => (b.toNat : Int)) = (t.map fun b => (b.toNat : Int))) ∧ (cmpB (s.map fun b => (b.toNat : Int)) (t.map fun b => (b.toNat : Int)) = -1 ∨ cmpB (s.map fun b => (b.toNat : Int)) (t.map fun b => (b.toNat : Int)) = 0 ∨ cmpB (s.map fun b => (b.toNat : Int)) (t.map fun b => (b.toNat : Int)) = 1)
  | [], [] => by simp [Op.bytesLess, cmpB]
  | [], y :: t => by simp [Op.bytesLess, cmpB]
  | x :: s, [] => by simp [Op.bytesLess, cmpB]
  | x :: s, y :: t => by
    obtain ⟨i1, i2, i3⟩ := less_cmp s t
    simp only [Op.bytesLess, List.map_cons, cmpB, List.cons.injEq]
    by_cases h1 : x < y
    · have h1' : (x.toNat : Int) < (y.toNat : Int) := by have := UInt8.lt_iff_toNat_lt.1 h1; omega
      rw [if_pos h1']
      refine ⟨by simp [h1], ⟨fun h => absurd h (by decide), fun h => by omega⟩, .inl rfl⟩
    · have h1' : ¬ (x.toNat : Int) < (y.toNat : Int) := by
        intro h; exact h1 (UInt8.lt_iff_toNat_lt.2 (by omega))
      rw [if_neg h1']
      by_cases h2 : (y.toNat : Int) < (x.toNat : Int)
      · rw [if_pos h2]
        have hne : ¬ x = y := fun e => by rw [e] at h2; omega
        refine ⟨by simp [h1, hne], ⟨fun h => absurd h (by decide), fun h => by omega⟩, .inr (.inr rfl)⟩
      · rw [if_neg h2]
        have he : x = y := UInt8.toNat_inj.1 (by omega)
        subst he
        refine ⟨by simp [h1, i1], by simp [i2], i3⟩
theorem less_bl (s t : ByteArray) : (Op.bytesLess s.toList t.toList = true ↔ cmpB (bl s) (bl t) = -1) ∧ (cmpB (bl s) (bl t) = 0 ↔ bl s = bl t) ∧ (cmpB (bl s) (bl t) = -1 ∨ cmpB (bl s) (bl t) = 0 ∨ cmpB (bl s) (bl t) = 1) := by
  have := less_cmp s.data.toList t.data.toList
  rw [ByteArray.toList_eq s, ByteArray.toList_eq t]
  exact this
theorem orderS_c (a b : ByteArray) (w : World) : Calls Tryz.prog 37 #[.string a, .string b] w fun e w' => e = .returned (.int .i64 (cmpB (bl a) (bl b))) ∧ w' = w := by
  obtain ⟨i1, i2, i3⟩ := less_bl a b
  refine enter (args := [.string a, .string b]) Tryz.func37 rfl Tryz.ntmps37 rfl ?_
  repeat' (first | (with_reducible first | refine p_tn ?_ | refine wp_seq ?_ | refine wp_block ?_ | refine w_reg ?_ | refine l_nil ?_) | (with_reducible (refine is_l ?_; (refine l_p tys rfl rfl ?_))))
  (with_reducible refine is_l ?_); refine l_t tys rfl rfl (fun h1 => ?_) (fun h1 => ?_)
  · repeat' (first | (with_reducible first | refine p_tn ?_ | refine p_tr ?_ | refine p_br ?_ | refine wp_seq ?_ | refine w_reg ?_) | (with_reducible (refine is_if ?_; (refine w_ift rfl ?_))) | (with_reducible first | refine wp_ret ?_ | refine l_nil ?_) | (with_reducible (refine is_l ?_; (refine l_p tys rfl rfl ?_))))
    refine end1 rfl rfl ?_
    exact ⟨by rw [i1.1 h1], rfl⟩
  · repeat' (first | (with_reducible first | refine p_tn ?_ | refine wp_seq ?_ | refine w_reg ?_) | (with_reducible (refine is_if ?_; (refine w_iff rfl ?_))) | (with_reducible refine l_nil ?_) | (with_reducible (refine is_l ?_; (refine l_p tys rfl rfl ?_))))
    (with_reducible refine is_l ?_); refine l_t tys rfl rfl (fun h2 => ?_) (fun h2 => ?_)
    · have hc : cmpB (bl a) (bl b) = 1 := by
        rcases i3 with h | h | h
        · exact absurd (i1.2 h) h1
        · exact absurd (.inr (i2.1 h)) h2
        · exact h
      repeat' (first | (with_reducible first | refine p_tn ?_ | refine p_tr ?_ | refine p_br ?_ | refine wp_seq ?_ | refine w_reg ?_) | (with_reducible (refine is_if ?_; (refine w_ift rfl ?_))) | (with_reducible first | refine wp_ret ?_ | refine l_nil ?_) | (with_reducible (refine is_l ?_; (refine l_p tys rfl rfl ?_))))
      refine end1 rfl rfl ?_
      exact ⟨by rw [hc], rfl⟩
    · have hc : cmpB (bl a) (bl b) = 0 := by
        rcases Classical.not_not.1 h2 with h | h
        · exact absurd h h1
        · exact i2.2 h
      repeat' (first | (with_reducible first | refine p_tn ?_ | refine p_bn ?_ | refine wp_seq ?_ | refine w_reg ?_) | (with_reducible (refine is_if ?_; (refine w_iff rfl ?_))) | (with_reducible first | refine wp_skip ?_ | refine wp_ret ?_ | refine l_nil ?_) | (with_reducible (refine is_l ?_; (refine l_p tys rfl rfl ?_))))
      refine end1 rfl rfl ?_
      exact ⟨by rw [hc], rfl⟩
end Go.Proofs.YtnimaenhijlcmaaGreatDoor.K
end
section
namespace Go.Proofs.YtnimaenhijlcmaaGreatDoor.K
open Go.Proofs.YtnimaenhijlcmaaGreatDoor.Q
set_option linter.unusedVariables false
def rt : Nat → Option (List Value)
  | 91 => some [.string ⟨#[]⟩, .string ⟨#[]⟩, .string ⟨#[]⟩, .slice none 0 0, .bool false]
  | _ => none
theorem recOk0 : RecOk Tryz.prog 91 [.string ⟨#[]⟩, .string ⟨#[]⟩, .string ⟨#[]⟩, .slice none 0 0, .bool false] := ⟨⟨_, Tryz.underlying91, rfl⟩, by kernel_rfl⟩
theorem recs : Recs Tryz.prog rt := by
  intro t zs h
  unfold rt at h
  split at h
  · cases h; exact recOk0
  · cases h
def fo : Nat → Nat → Option Nat
  | 91, 0 => some 0
  | 91, 1 => some 3
  | 91, 2 => some 4
  | _, _ => none
theorem fld0 : fldB Tryz.prog 91 0 = some 0 := by kernel_rfl
theorem fld1 : fldB Tryz.prog 91 1 = some 3 := by kernel_rfl
theorem fld2 : fldB Tryz.prog 91 2 = some 4 := by kernel_rfl
theorem flds : Flds Tryz.prog fo := by
  intro t k o h
  unfold fo at h
  split at h
  · cases h; exact fld0
  · cases h; exact fld1
  · cases h; exact fld2
  · cases h
def tx : Nat → Option Ty
  | 25 => some (.slc 9 1)
  | 98 => some (.slc 3 1)
  | 35 => some (.int .i64)
  | t => ty t
theorem slcOk0 : TyOk Tryz.prog 25 (.slc 9 1) := by
  have h : (Tryz.prog.info? 9).map (·.size) = some 1 := by kernel_rfl
  obtain ⟨i0, hi, hz⟩ := Option.map_eq_some_iff.1 h
  exact ⟨Tryz.underlying25, i0, hi, hz⟩
theorem slcOk1 : TyOk Tryz.prog 98 (.slc 3 1) := by
  have h : (Tryz.prog.info? 3).map (·.size) = some 1 := by kernel_rfl
  obtain ⟨i0, hi, hz⟩ := Option.map_eq_some_iff.1 h
  exact ⟨Tryz.underlying98, i0, hi, hz⟩
theorem txs : Tys Tryz.prog tx := by
  intro t k h
  unfold tx at h
  split at h
  · cases h; exact slcOk0
  · cases h; exact slcOk1
  · cases h; exact Tryz.underlying35
  · exact tys t k h
theorem one0_0 : (Tryz.prog.info? 3).map (·.size) = some 1 := by kernel_rfl
theorem one0_1 : (Tryz.prog.info? 5).map (·.size) = some 1 := by kernel_rfl
theorem one0_2 : (Tryz.prog.info? 21).map (·.size) = some 1 := by kernel_rfl
theorem one0_3 : (Tryz.prog.info? 4).map (·.size) = some 1 := by kernel_rfl
theorem one0_4 : (Tryz.prog.info? 9).map (·.size) = some 1 := by kernel_rfl
theorem one0_5 : (Tryz.prog.info? 34).map (·.size) = some 1 := by kernel_rfl
theorem one1_0 : (Tryz.prog.info? 25).map (·.size) = some 1 := by kernel_rfl
theorem one1_1 : (Tryz.prog.info? 98).map (·.size) = some 1 := by kernel_rfl
theorem one1_2 : (Tryz.prog.info? 35).map (·.size) = some 1 := by kernel_rfl
theorem ones0 : Ones Tryz.prog ty := by
  intro t k h
  unfold ty at h
  split at h
  · exact one0_0
  · exact one0_1
  · exact one0_2
  · exact one0_3
  · exact one0_4
  · exact one0_5
  · cases h
theorem ones : Ones Tryz.prog tx := by
  intro t k h
  unfold tx at h
  split at h
  · exact one1_0
  · exact one1_1
  · exact one1_2
  · exact ones0 t k h
end Go.Proofs.YtnimaenhijlcmaaGreatDoor.K
end
section
namespace Go.Proofs.YtnimaenhijlcmaaGreatDoor.K
open Go.RowKit Go.Proofs.YtnimaenhijlcmaaGreatDoor.Q Go.Proofs.YtnimaenhijlcmaaGreatDoor.Mb Go.Proofs.YtnimaenhijlcmaaGreatDoorW.PrintWords
set_option linter.unusedVariables false
set_option linter.unusedSimpArgs false
section
variable {P : Program} {ty : Nat → Option Ty} {n : Nat} {f : Fr} {w w0 : World} {ops : Array Oper} {Q : Exit → Act → World → Prop} {rest : List Oper} {d : Option Nat} {op : Op} {tt : TypeId} {ps : String} {af : Array Edge} {gd : Option (Nat × Bool)} {l : List Ent} {r : List RowD}
theorem h_bsn {m : Nat} {parts : List (Nat × Operand)} {pv : List (Nat × Value)} {cs : List Value} {sd : Bool} (H : HpS sd w0 w l r) {t e : TypeId} {z : Value} {by_ : Nat}
    (hinfo : (P.info? e).map (fun i => (i.zero, i.size, i.bytes)) = some (some z, 1, by_)) (hu : P.underlying t = some (.slice e)) (h0 : 0 < m) (hm : m ≤ 16777216) (hx : parts.map (fun p => (p.1, X n f p.2)) = pv)
    (hf : Instr.fill (fun i => some (i * 1, 1)) ((Array.range (m * 1)).map (z.cells[· % z.cells.size]!)) pv = some cs.toArray)
    (h : ∀ g w', HpS sd w0 w' ((g, e, cs) :: l) r → WL P ops Q rest (act n (put f d (.slice (some ⟨g, 0, none⟩) m m))) w') : WL P ops Q (⟨d, .buildSlice t m parts.toArray, tt, ps, af, none⟩ :: rest) (act n f) w := by
  obtain ⟨i0, hi, hz⟩ := Option.map_eq_some_iff.1 hinfo
  simp only [Prod.mk.injEq] at hz
  obtain ⟨hz0, hz1, hz2⟩ := hz
  refine ⟨wpList_buildSlice rfl t e m _ rfl cs.toArray i0 z hu hi hz0 (by rw [hz1]; omega) (by rw [hz1]; omega) ?_ (by rw [put_act]; exact (h w.heap.size _ (H.push e cs)).out)⟩
  rw [eval_act, hz1]
  subst hx
  simpa using hf
end
theorem info_int3 : (Tryz.prog.info? 3).map (fun i => (i.zero, i.size, i.bytes)) = some (some (.int .i64 0), 1, 8) := by kernel_rfl
def firstI : List Int → Int
  | [] => 0
  | x :: r => if x ≠ 0 then x else firstI r
set_option maxHeartbeats 4000000 in
theorem first_c {w : World} {A : Option Addr} {c : Nat} {l : List Int} (h : Rd w A (nums .i64 l)) (hl : l.length ≤ 100000000) :
    Calls Tryz.prog 36 #[.slice A l.length c] w fun e w' => e = .returned (.int .i64 (firstI l)) ∧ Bel w.heap.size w w' := by
  refine enter (args := [.slice A l.length c]) Tryz.func36 rfl Tryz.ntmps36 rfl ?_
  have H : Hd w w [] [] := HpS.nil w
  repeat' (first | (with_reducible first | refine p_tn ?_ | refine wp_seq ?_ | refine wp_block ?_ | refine w_reg ?_ | refine l_nil ?_) | ((with_reducible refine g_on ?_); (first | ((with_reducible refine g_mv ?_); refine l_p txs rfl rfl ?_) | ((with_reducible refine g_as ?_); refine l_p txs rfl rfl ?_) | ((with_reducible refine g_cl ?_); refine l_p txs rfl rfl ?_))))
  refine w_loop (σ := Nat) (S := fun s => [(5, .slice A l.length c), (6, .int .i64 (l.length : Int)), (7, .int .i64 (s : Int))]) (J := fun s w' => Hd w w' [] [] ∧ s ≤ l.length ∧ firstI l = firstI (l.drop s)) (μ := fun s => l.length - s) 0 ⟨rfl, rfl, rfl, trivial⟩ ⟨H, Nat.zero_le _, rfl⟩ ?_
  rintro i f w_ ⟨H, hi, hf⟩
  repeat' (with_reducible first | refine wp_seq ?_ | refine w_reg ?_)
  (with_reducible refine is_l ?_); refine l_t txs rfl rfl (fun hlt => ?_) (fun hge => ?_)
  · obtain ⟨x, hx⟩ : ∃ x, l[i]? = some x := ⟨_, List.getElem?_eq_getElem (by omega)⟩
    obtain ⟨ad, rfl⟩ : ∃ ad, A = some ad := by
      cases A with
      | none =>
        have := h.1 rfl
        simp only [nums, List.map_eq_nil_iff] at this
        rw [this] at hx
        simp at hx
      | some ad => exact ⟨ad, rfl⟩
    have hc := h.2 ad rfl i (.int .i64 x) (by simp [nums, hx])
    have hd : l.drop i = x :: l.drop (i + 1) := by
      have hil : i < l.length := by omega
      rw [List.drop_eq_getElem_cons hil]
      congr 1
      exact (List.getElem?_eq_some_iff.1 hx).2
    rw [hd, firstI] at hf
    repeat' (first | (with_reducible first | refine p_tn ?_ | refine wp_seq ?_ | refine wp_block ?_ | refine w_reg ?_) | (with_reducible (refine is_if ?_; (refine w_ift rfl ?_))) | (with_reducible first | refine wp_skip ?_ | refine l_nil ?_) | ((with_reducible refine g_on ?_); ((with_reducible refine g_ia ?_); refine l_ia txs rfl rfl (by first | omega | assumption | decide) (by first | omega | assumption | decide) ?_)))
    (with_reducible refine is_l ?_); refine l_ld txs rfl rfl (by rw [Int.toNat_natCast, Nat.mul_one]; exact H.old hc) ?_
    repeat' (first | (with_reducible first | refine p_tn ?_ | refine wp_seq ?_ | refine w_reg ?_ | refine l_nil ?_) | ((with_reducible refine g_on ?_); (first | ((with_reducible refine g_mv ?_); refine l_p txs rfl rfl ?_) | ((with_reducible refine g_as ?_); refine l_p txs rfl rfl ?_))))
    (with_reducible refine is_l ?_); refine l_t txs rfl rfl (fun h0 => ?_) (fun h0 => ?_)
    · rw [if_pos h0] at hf
      repeat' (first | (with_reducible first | refine p_tn ?_ | refine p_tr ?_ | refine p_br ?_ | refine wp_seq ?_ | refine w_reg ?_) | (with_reducible (refine is_if ?_; (refine w_ift rfl ?_))) | (with_reducible first | refine wp_ret ?_ | refine l_nil ?_) | ((with_reducible refine g_on ?_); (first | ((with_reducible refine g_mv ?_); refine l_p txs rfl rfl ?_) | ((with_reducible refine g_as ?_); refine l_p txs rfl rfl ?_))))
      refine end1 rfl rfl ?_
      exact ⟨by rw [hf], H.BD⟩
    · rw [if_neg h0] at hf
      repeat' (first | (with_reducible first | refine p_tn ?_ | refine p_bn ?_ | refine w_reg ?_) | (with_reducible (refine is_if ?_; (refine w_iff rfl ?_))) | (with_reducible first | refine wp_skip ?_ | refine l_nil ?_) | ((with_reducible refine g_on ?_); (first | ((with_reducible refine g_mv ?_); refine l_p txs rfl rfl ?_) | ((with_reducible refine g_bi ?_); (refine l_a txs rfl rfl (by first | exact in_i64 (by omega) (by omega) | exact in_u8 (by omega) (by omega) | exact in_u64 (by omega) (by omega) | exact in_i32 (by omega) (by omega)) ?_)))))
      exact ⟨i + 1, _, rfl, ⟨rfl, rfl, rfl, trivial⟩, ⟨H, by omega, hf⟩, by omega⟩
  · rw [List.drop_eq_nil_of_le (by omega)] at hf
    repeat' (first | (with_reducible first | refine p_tn ?_ | refine p_tx ?_ | refine x_hit ?_ | refine wp_seq ?_ | refine w_reg ?_) | (with_reducible (refine is_if ?_; (refine w_iff rfl ?_))) | (with_reducible first | refine wp_exit ?_ | refine wp_ret ?_ | refine l_nil ?_) | ((with_reducible refine g_on ?_); ((with_reducible refine g_as ?_); refine l_p txs rfl rfl ?_)))
    refine end1 rfl rfl ?_
    exact ⟨by rw [hf]; rfl, H.BD⟩
set_option maxHeartbeats 4000000 in
theorem byNumber_c (a b : ByteArray) (w : World) : Calls Tryz.prog 92 #[.string a, .string b] w fun e w' => e = .returned (.int .i64 (cmpN (bl a) (bl b))) ∧ Bel w.heap.size w w' := by
  have h1 := bl_length a
  have h2 := bl_length b
  have hN : cmpN (bl a) (bl b) = firstI [cmpI (a.size : Int) (b.size : Int), cmpB (bl a) (bl b)] := by
    rw [cmpN_lex, h1, h2]
    simp only [firstI]
    by_cases h5 : cmpB (bl a) (bl b) = 0
    · simp [h5]
    · simp [h5]
  refine enter (args := [.string a, .string b]) Tryz.func92 rfl Tryz.ntmps92 rfl ?_
  have H : Hd w w [] [] := HpS.nil w
  repeat' (first | (with_reducible first | refine p_tn ?_ | refine wp_seq ?_ | refine w_reg ?_ | refine l_nil ?_) | ((with_reducible refine g_on ?_); (first | ((with_reducible refine g_mv ?_); refine l_p txs rfl rfl ?_) | ((with_reducible refine g_as ?_); refine l_p txs rfl rfl ?_) | ((with_reducible refine g_cl ?_); refine l_p txs rfl rfl ?_))))
  (with_reducible refine is_l ?_); refine l_callp rfl rfl (by kernel_rfl) (orderI_c _ _ _) ?_
  repeat' ((with_reducible refine g_on ?_); ((with_reducible refine g_mv ?_); refine l_p txs rfl rfl ?_))
  (with_reducible refine is_l ?_); refine l_callp rfl rfl (by kernel_rfl) (orderS_c _ _ _) ?_
  skip
  generalize cmpI (a.size : Int) (b.size : Int) = x at hN ⊢
  generalize hy : cmpB (bl a) (bl b) = y at hN ⊢
  (with_reducible refine is_l ?_); refine h_bsn (cs := [.int .i64 x, .int .i64 y]) (pv := [(0, .int .i64 x), (1, .int .i64 y)]) H info_int3 Tryz.underlying98 (by decide) (by decide) rfl (by kernel_rfl) (fun g_ w_ H => ?_)
  skip
  (with_reducible refine is_l ?_); refine l_callv rfl rfl (by kernel_rfl) (first_c (l := [x, y]) (H.cellRd 0 rfl) (by show (2 : Nat) ≤ _; decide)) (fun w_ K => ?_)
  have H := H.callD K
  repeat' (first | (with_reducible first | refine p_tn ?_ | refine wp_ret ?_ | refine l_nil ?_) | ((with_reducible refine g_on ?_); ((with_reducible refine g_as ?_); refine l_p txs rfl rfl ?_)))
  refine end1 rfl rfl ?_
  exact ⟨by rw [hN], H.BD⟩
set_option maxHeartbeats 4000000 in
theorem byWord_c (a b : ByteArray) (w : World) (ha : a.size ≤ 100000000) (hb : b.size ≤ 100000000) : Calls Tryz.prog 95 #[.string a, .string b] w fun e w' => e = .returned (.int .i64 (cmpW (bl a) (bl b))) ∧ Bel w.heap.size w w' := by
  refine enter (args := [.string a, .string b]) Tryz.func95 rfl Tryz.ntmps95 rfl ?_
  have H : Hd w w [] [] := HpS.nil w
  repeat' (first | (with_reducible first | refine p_tn ?_ | refine wp_seq ?_ | refine w_reg ?_ | refine l_nil ?_) | ((with_reducible refine g_on ?_); (first | ((with_reducible refine g_mv ?_); refine l_p txs rfl rfl ?_) | ((with_reducible refine g_as ?_); refine l_p txs rfl rfl ?_))))
  (with_reducible refine is_l ?_); refine l_callv rfl rfl (by kernel_rfl) (isNumber_cD a _ ha) (fun w_ K => ?_)
  have H := H.callD K
  repeat' ((with_reducible refine g_on ?_); ((with_reducible refine g_mv ?_); refine l_p txs rfl rfl ?_))
  (with_reducible refine is_l ?_); refine l_callv rfl rfl (by kernel_rfl) (isNumber_cD b _ hb) (fun w_ K => ?_)
  have H := H.callD K
  cases h1 : numB (bl a)
  · cases h2 : numB (bl b)
    · repeat' (first | (with_reducible first | refine p_tn ?_ | refine p_bn ?_ | refine wp_seq ?_ | refine wp_block ?_ | refine w_reg ?_) | (with_reducible (refine is_if ?_; (refine w_iff rfl ?_))) | (with_reducible first | refine wp_skip ?_ | refine l_nil ?_) | ((with_reducible refine g_on ?_); (first | ((with_reducible refine g_mv ?_); refine l_p txs rfl rfl ?_) | ((with_reducible refine g_as ?_); refine l_p txs rfl rfl ?_) | ((with_reducible refine g_pk ?_); refine l_p txs rfl rfl ?_))) | ((with_reducible refine g_if ?_); (refine l_off rfl ?_)))
      (with_reducible refine is_l ?_); refine l_callp rfl rfl (by kernel_rfl) (orderS_c _ _ _) ?_
      repeat' (first | (with_reducible first | refine p_tn ?_ | refine wp_ret ?_ | refine l_nil ?_) | ((with_reducible refine g_on ?_); ((with_reducible refine g_as ?_); refine l_p txs rfl rfl ?_)))
      refine end1 rfl rfl ?_
      exact ⟨by unfold cmpW; rw [h1, h2]; rfl, H.BD⟩
    · repeat' (first | (with_reducible first | refine p_tn ?_ | refine p_tr ?_ | refine p_br ?_ | refine wp_seq ?_ | refine wp_block ?_ | refine w_reg ?_) | (with_reducible (refine is_if ?_; (first | (refine w_ift rfl ?_) | (refine w_iff rfl ?_)))) | (with_reducible first | refine wp_ret ?_ | refine l_nil ?_) | ((with_reducible refine g_on ?_); (first | ((with_reducible refine g_mv ?_); refine l_p txs rfl rfl ?_) | ((with_reducible refine g_as ?_); refine l_p txs rfl rfl ?_) | ((with_reducible refine g_pk ?_); refine l_p txs rfl rfl ?_))) | ((with_reducible refine g_if ?_); (refine l_off rfl ?_)))
      refine end1 rfl rfl ?_
      exact ⟨by unfold cmpW; rw [h1, h2]; rfl, H.BD⟩
  · cases h2 : numB (bl b)
    · repeat' (first | (with_reducible first | refine p_tn ?_ | refine p_tr ?_ | refine p_br ?_ | refine wp_seq ?_ | refine wp_block ?_ | refine w_reg ?_) | (with_reducible (refine is_if ?_; (first | (refine w_ift rfl ?_) | (refine w_iff rfl ?_)))) | (with_reducible first | refine wp_ret ?_ | refine l_nil ?_) | ((with_reducible refine g_on ?_); (first | ((with_reducible refine g_mv ?_); refine l_p txs rfl rfl ?_) | ((with_reducible refine g_as ?_); refine l_p txs rfl rfl ?_) | ((with_reducible refine g_pk ?_); refine l_p txs rfl rfl ?_))) | ((with_reducible refine g_if ?_); ((with_reducible refine g_mv ?_); refine l_p txs rfl rfl ?_)))
      refine end1 rfl rfl ?_
      exact ⟨by unfold cmpW; rw [h1, h2]; rfl, H.BD⟩
    · repeat' (first | (with_reducible first | refine p_tn ?_ | refine wp_seq ?_ | refine wp_block ?_ | refine w_reg ?_) | (with_reducible (refine is_if ?_; (refine w_ift rfl ?_))) | (with_reducible refine l_nil ?_) | ((with_reducible refine g_on ?_); (first | ((with_reducible refine g_mv ?_); refine l_p txs rfl rfl ?_) | ((with_reducible refine g_as ?_); refine l_p txs rfl rfl ?_) | ((with_reducible refine g_pk ?_); refine l_p txs rfl rfl ?_))) | ((with_reducible refine g_if ?_); ((with_reducible refine g_mv ?_); refine l_p txs rfl rfl ?_)))
      (with_reducible refine is_l ?_); refine l_callv rfl rfl (by kernel_rfl) (byNumber_c _ _ _) (fun w_ K => ?_)
      have H := H.callD K
      repeat' (first | (with_reducible first | refine p_tn ?_ | refine p_tr ?_ | refine p_br ?_ | refine wp_ret ?_ | refine l_nil ?_) | ((with_reducible refine g_on ?_); ((with_reducible refine g_as ?_); refine l_p txs rfl rfl ?_)))
      refine end1 rfl rfl ?_
      exact ⟨by unfold cmpW; rw [h1, h2]; rfl, H.BD⟩
end Go.Proofs.YtnimaenhijlcmaaGreatDoor.K
end
