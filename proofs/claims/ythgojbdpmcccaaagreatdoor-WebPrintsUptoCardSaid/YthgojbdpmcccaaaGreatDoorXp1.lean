/- Joined texts of mine, 1: Q, QS, WSpec, WParse, WForm, WResp, WEsc, Shelf, Wa, WWords, QM, WLast, WApart, WArr, WFoot, WKept, WShare, WN, WMore, ExtD, Ext, Is, Wb, Wu, Wh, LaidF, LaidT, LaidZ, QR, Wc. -/
import Derived.Deep.Quiet
import Derived.Tactics
import Derived.WalkKit
import Derived.WalkLawsBesides
import Derived.KernelRfl
import Derived.Lib.Strings
import Derived.Deep.LoopGhost
import Derived.Shelf.Strings.Builder1
import Derived.Shelf.Strings.Trim
import Derived.Shelf.Small.Utf8
import Derived.Shelf.Small.Strs
import Derived.Shelf.Strings.BuilderF
import Derived.Shelf.Strings.BuilderK
import Derived.Shelf.Utf8.RuneCount
import Derived.Shelf.Strconv.Itoa0
import Derived.Shelf.Strconv.Itoa1
import Derived.Shelf.LaysM
import Derived.Shelf.Strconv.Itoa2
import Derived.Shelf.Strconv.Itoa3
import Derived.Shelf.Strconv.Itoa4
import Derived.Shelf.Bytes.Len
import Derived.Shelf.Bytes.TryGrow
import Derived.Shelf.Bytes.GrowSliceCatch
import Derived.Shelf.Bytes.GrowSlice
import Derived.Shelf.Bytes.GrowRow0
import Derived.Shelf.Bytes.GrowRow
import Derived.Shelf.Bytes.GrowNil
import Derived.Shelf.Bytes.Reset
import Derived.Shelf.Bytes.Bytes
import Derived.Shelf.Strings.Search1
import Derived.Shelf.Bytes.GrowRow0Kept
import Derived.Shelf.Strings.Search2
import Derived.Shelf.Bytes.GrowRowKept
import Derived.Shelf.Strings.Search3
import Derived.Shelf.Bytes.GrowNilKept
import Derived.Shelf.Strings.Cut
import Derived.Shelf.Bytes.GrowKept
import Derived.Shelf.Strings.Count
import Derived.Shelf.Strings.Shaped
import Derived.Shelf.Bytes.WriteStringKept
import Derived.Shelf.Bytes.ResetKept
import Derived.Shelf.Bytes.WriteKept
import Derived.Shelf.Bytes.BufferK
import Derived.Shelf.Bytes.GrowRow0Own
import Derived.Shelf.Bytes.GrowRowOwn
import Derived.Shelf.Bytes.GrowNilOwn
import Derived.Shelf.Bytes.GrowOwn
import Derived.Shelf.Bytes.WriteAny
import Derived.Shelf.Bytes.LenAt
import Derived.Shelf.Bytes.TryGrowAt
import Derived.Shelf.Bytes.GrowRow0At
import Derived.Shelf.Bytes.GrowRowAt
import Derived.Shelf.Bytes.GrowNilAt
import Derived.Shelf.Bytes.GrowAt
import Derived.Shelf.Bytes.WriteStringAt
import Derived.Shelf.Bytes.WriteAt
import Derived.Shelf.Strings.Prefix
import Derived.Shelf.Strings.Split
import Derived.Shelf.Strings.SplitShaped
import Derived.Shelf.Unicode.Decode
import Derived.Shelf.Strings.Runes
import Derived.Shelf.Strings.RuneCount
import Derived.Shelf.Strings.AsciiSet
import Derived.Shelf.Strings.Explode
import Derived.Shelf.Unicode.DecodeSlow
import Derived.Shelf.Unicode.DecodeAny
import Derived.Shelf.Unicode.DecodeLast
import Derived.Shelf.Strings.BuilderCap
import Derived.Shelf.Bytes.SlIndexAt
import Derived.Shelf.Bytes.SlSearch0
import Derived.Ground.SlbCloneProg
import Derived.Shelf.Bytes.SlClone
import Derived.Shelf.Bytes.SlSmallAll
import Derived.Shelf.Bytes.SlEqualAll
import Derived.Shelf.Bytes.Small
import Derived.Shelf.Bytes.IndexByte
import Derived.Test.YthgojbdpmcccaaaGreatDoorProg
import Derived.Below
import Derived.Deep.Draws
import Derived.Deep.AppendLies
import Derived.Maps.AppendAt
import Derived.OwnWalk
import Derived.Laws.BytesArg
import Derived.Laws.MakeOwn
import Derived.Laws.OwnMore
import Derived.Deep.OwnRows
import Derived.Lib.ConvBytes
import Derived.Laws.Slices
import Derived.RowKit3
import Derived.Deep.QuietTactic
import Derived.BigQuiet
import Derived.WideLaws
import Derived.Deep.DeepCutAuto
import Derived.Deep.CutBlock
import Derived.Deep.RegionHeld3
import Derived.Laws.Rows
import Derived.Lib.AppendStr
import Derived.ArgAppend
import Derived.Laws.IdiomCopy
import Derived.RowKit
import Derived.Great.BuildSlice
import Derived.OrdersHeld
import Derived.Laws.BitsLemmas
import Derived.LoopTactic
import Derived.Laws.Tables
import Derived.Outline
import Derived.LaidEql
import Derived.Stop.Asserts
import Derived.RowKitTokens
import Derived.Deep.WholeRow
import Derived.Test.YthgojbdpmcccaaaGreatDoorCards
import Derived.LaidLaws
import Derived.Stop.LaidErr
import Derived.Stop.Texts
import Derived.ChangeSame
import Derived.ChangeArms
import Derived.OpenShut
import Derived.Lib.LaidU8
import Derived.Lib.LaidTab
import Derived.ProofKit
section
namespace Go.Proofs.YthgojbdpmcccaaaGreatDoor.Q
set_option linter.unusedVariables false
set_option linter.unusedSimpArgs false
abbrev Fr := Nat → Value
def put (f : Fr) (d : Option Nat) (v : Value) : Fr := match d with | none => f | some d => fun k => bif Nat.beq k d then v else f k
def arr (n : Nat) (f : Fr) : Array Value := ((List.range n).map f).toArray
def act (n : Nat) (f : Fr) : Act := ⟨arr n f, []⟩
def X (n : Nat) (f : Fr) : Operand → Value
  | .tmp t => bif Nat.blt t n then f t else undef
  | .const v => v
  | .global g => .pointer (some ⟨g, 0, none⟩)
  | .func g => .func (.func g) #[] #[]
theorem getD_arr (n : Nat) (f : Fr) (t : Nat) : (arr n f).getD t undef = X n f (.tmp t) := by
  simp only [arr, X]
  by_cases h : t < n
  · have : Nat.blt t n = true := by simpa [Nat.blt_eq] using h
    simp [this, Array.getD, h]
  · have : Nat.blt t n = false := by rw [Bool.eq_false_iff]; simpa [Nat.blt_eq] using h
    simp [this, Array.getD, h]
theorem eval_act (n : Nat) (f : Fr) : (act n f).eval = X n f := by
  funext x
  cases x with
  | tmp t => exact getD_arr n f t
  | const v => rfl
  | global g => rfl
  | func g => rfl
theorem put_act (n : Nat) (f : Fr) (d : Option Nat) (v : Value) : (act n f).put d v = act n (put f d v) := by
  cases d with
  | none => rfl
  | some d =>
    simp only [Act.put, act, put]
    congr 1
    apply Array.ext
    · simp [arr]
    · intro i h1 h2
      simp only [arr, List.size_toArray, List.length_map, List.length_range] at h2
      simp [arr]
      by_cases e : d = i
      · subst e; simp
      · have : Nat.beq i d = false := by rw [Bool.eq_false_iff]; intro h; exact e (Nat.eq_of_beq_eq_true h).symm
        simp [e, this]
def want (n : Nat) (ops : Array Oper) (f : Fr) (o : Oper) : Bool := match o.guard with
  | none => true
  | some (j, b) => match (ops[j]?).bind (·.dst) with
    | none => false
    | some d => bif Nat.blt d n then (match f d with | .bool c => c == b | _ => false) else false
theorem want_eq (n : Nat) (ops : Array Oper) (f : Fr) (o : Oper) : Region.wanted o (yielded ops (act n f).tmps) = want n ops f o := by
  unfold Region.wanted want
  cases hg : o.guard with
  | none => rfl
  | some g =>
    obtain ⟨j, b⟩ := g
    simp only [yielded]
    cases hd : (ops[j]?).bind (·.dst) with
    | none => simp
    | some d =>
      simp only [Option.bind_some, act, arr]
      by_cases h : d < n
      · have : Nat.blt d n = true := by simpa [Nat.blt_eq] using h
        simp [this, h]
        cases hf : f d <;> simp
      · have : Nat.blt d n = false := by rw [Bool.eq_false_iff]; simpa [Nat.blt_eq] using h
        simp [this, h]
inductive Ty where
  | int (k : IntKind)
  | bool
  | str
  | slc (e sz : Nat)
  | err
def TyOk (P : Program) (t : TypeId) : Ty → Prop
  | .int k => P.underlying t = some (.int k)
  | .bool => P.underlying t = some .bool
  | .str => P.underlying t = some .string
  | .slc e sz => P.underlying t = some (.slice e) ∧ ∃ i, P.info? e = some i ∧ i.size = sz
  | .err => P.underlying t = some (.interface (P.methodsAt t))
abbrev Tys (P : Program) (ty : Nat → Option Ty) : Prop := ∀ t k, ty t = some k → TyOk P t k
def bl (s : ByteArray) : List Int := s.data.toList.map fun b => (b.toNat : Int)
def at_ (l : List Int) (i : Int) : Int := l.getD i.toNat 0
theorem bl_length (s : ByteArray) : (bl s).length = s.size := by
  simp [bl]
theorem toList_iff (s t : ByteArray) : s.toList = t.toList ↔ bl s = bl t := by
  rw [Lib.toList_data, Lib.toList_data]
  unfold bl
  constructor
  · intro e; rw [e]
  · intro e
    have : ∀ {l m : List UInt8}, (l.map fun b => (b.toNat : Int)) = m.map (fun b => (b.toNat : Int)) → l = m := by
      intro l
      induction l with
      | nil => intro m h; cases m with | nil => rfl | cons _ _ => simp at h
      | cons x l ih =>
        intro m h
        cases m with
        | nil => simp at h
        | cons y m =>
          simp only [List.map_cons, List.cons.injEq] at h
          have hxy : x = y := by
            apply UInt8.toNat_inj.1
            omega
          rw [hxy, ih h.2]
    exact this e
def nf : Value → Option Value
  | .bool b => some (.bool b)
  | .int k n => some (.int k n)
  | .float k n => some (.float k n)
  | .complex k a b => some (.complex k a b)
  | .string s => some (.string s)
  | .pointer a => some (.pointer a)
  | .slice a l c => some (.slice a l c)
  | .map r => some (.map r)
  | .chan r => some (.chan r)
  | .func a b c => some (.func a b c)
  | .nilFunc => some .nilFunc
  | .iface t v => some (.iface t v)
  | .nilIface => some .nilIface
  | .agg c => some (.agg c)
  | .tuple c => some (.tuple c)
theorem nf_eq {v u : Value} (h : nf v = some u) : u = v := by
  cases v <;> simp only [nf, Option.some.injEq] at h <;> exact h.symm
section
variable (ty : Nat → Option Ty)
def evP (n : Nat) (f : Fr) : Op → Option Value
  | .move x => nf (X n f x)
  | .assign x => nf (X n f x)
  | .pick c a b => match X n f c with
    | .bool t => nf (bif t then X n f a else X n f b)
    | _ => none
  | .unOp .not _ x => match X n f x with
    | .bool b => some (.bool (!b))
    | _ => none
  | .extract x i => match X n f x with
    | .tuple vs => (vs.toList[i]?).bind nf
    | _ => none
  | .convert s d x => match ty s, ty d, X n f x with
    | some .str, some .str, .string s => some (.string s)
    | _, _, _ => none
  | .call c => match c.callee with
    | .builtin .len => match c.args.toList, c.argTypes.toList with
      | [x], [t] => match ty t, X n f x with
        | some .str, .string s => some (.int .i64 s.size)
        | some (.slc _ _), .slice _ l _ => some (.int .i64 l)
        | _, _ => none
      | _, _ => none
    | .builtin .min => match c.args.toList with
      | [x, y] => match X n f x, X n f y with
        | .int .i64 a, .int .i64 b => some (.int .i64 (if b < a then b else a))
        | _, _ => none
      | _ => none
    | _ => none
  | .binOp .and _ x y _ => match X n f x, X n f y with
    | .int .u8 a, .int .u8 b => some (.int .u8 (Go.bits .and .u8 a b))
    | _, _ => none
  | .binOp .shr _ x y _ => match X n f x, X n f y with
    | .int k a, .int _ b => bif decide (0 ≤ b) then some (.int k (a.fdiv (2 ^ min b.toNat k.bits))) else none
    | _, _ => none
  | _ => none
def evA (n : Nat) (f : Fr) : Op → Option (IntKind × Int)
  | .binOp .add _ x y _ => match X n f x, X n f y with
    | .int k a, .int k2 b => bif decide (k = k2) then some (k, a + b) else none
    | _, _ => none
  | .binOp .sub _ x y _ => match X n f x, X n f y with
    | .int k a, .int k2 b => bif decide (k = k2) then some (k, a - b) else none
    | _, _ => none
  | .binOp .mul _ x y _ => match X n f x, X n f y with
    | .int k a, .int k2 b => bif decide (k = k2) then some (k, a * b) else none
    | _, _ => none
  | .convert s d x => match ty s, ty d, X n f x with
    | some (.int _), some (.int k), .int _ a => some (k, a)
    | _, _, _ => none
  | .unOp .neg _ x => match X n f x with
    | .int k a => some (k, -a)
    | _ => none
  | _ => none
def cmpP : BinOp → Int → Int → Option Prop
  | .eql, a, b => some (a = b)
  | .neq, a, b => some (a ≠ b)
  | .lss, a, b => some (a < b)
  | .leq, a, b => some (a ≤ b)
  | .gtr, a, b => some (b < a)
  | .geq, a, b => some (b ≤ a)
  | _, _, _ => none
def cmpT : BinOp → ByteArray → ByteArray → Option Prop
  | .eql, s, t => some (bl s = bl t)
  | .neq, s, t => some (bl s ≠ bl t)
  | .lss, s, t => some (Op.bytesLess s.toList t.toList = true)
  | .gtr, s, t => some (¬ (Op.bytesLess s.toList t.toList = true ∨ bl s = bl t))
  | .leq, s, t => some (Op.bytesLess s.toList t.toList = true ∨ bl s = bl t)
  | .geq, s, t => some (¬ Op.bytesLess s.toList t.toList = true)
  | _, _, _ => none
def evT (n : Nat) (f : Fr) : Op → Option Prop
  | .binOp op t x y _ => match X n f x, X n f y with
    | .int k a, .int k2 b => bif decide (k = k2) then cmpP op a b else none
    | .string s, .string t => cmpT op s t
    | .iface _ _, .nilIface => match op, ty t with
      | .eql, some .err => some False
      | .neq, some .err => some True
      | _, _ => none
    | .nilIface, .nilIface => match op, ty t, y with
      | .eql, some .err, .const _ => some True
      | .neq, some .err, .const _ => some False
      | _, _, _ => none
    | _, _ => none
  | _ => none
def evC (n : Nat) (f : Fr) : Op → Option (FuncId × List Value)
  | .call c => match c.callee with
    | .value g => match X n f g with
      | .func (.func k) first captured => bif first.isEmpty then some (k, c.args.toList.map (X n f) ++ captured.toList) else none
      | _ => none
    | _ => none
  | _ => none
end
section
variable {P : Program} {ty : Nat → Option Ty} {n : Nat} {f : Fr} {w : World} {o : Oper}
theorem evP_run (hty : Tys P ty) {v : Value} (h : evP ty n f o.op = some v) : (execOp (X n f) o).run P w = .ok (.value v) w := by
  unfold evP at h
  unfold execOp
  split at h
  · rename_i x ho; rw [ho, nf_eq h]; simp
  · rename_i x ho; rw [ho, nf_eq h]; simp
  · rename_i c a b ho
    rw [ho]
    split at h
    · rename_i t ht
      have h := nf_eq h
      subst h
      cases t <;> simp [go_sem, ht]
    · cases h
  · rename_i x ho
    rw [ho]
    split at h
    · rename_i t ht
      simp only [Option.some.injEq] at h
      subst h
      simp [go_sem, ht]
    · cases h
  · rename_i x i ho
    rw [ho]
    split at h
    · rename_i vs ht
      obtain ⟨u, h1, h2⟩ := Option.bind_eq_some_iff.1 h
      have h2 := nf_eq h2
      subst h2
      rw [Array.getElem?_toList] at h1
      simp [go_sem, ht, h1]
    · cases h
  · rename_i s d x ho
    rw [ho]
    split at h
    · rename_i s0 h1 h2 h3
      simp only [Option.some.injEq] at h
      subst h
      have a1 : P.underlying s = some .string := hty _ _ h1
      have a2 : P.underlying d = some .string := hty _ _ h2
      simp [convert, go_sem, run_underlying a1, run_underlying a2, h3]
    · cases h
  · rename_i c ho
    rw [ho]
    split at h
    · rename_i hc
      split at h
      · rename_i x t hx ht
        have hx' : c.args = #[x] := by rw [← Array.toList_inj]; exact hx
        have ht' : c.argTypes = #[t] := by rw [← Array.toList_inj]; exact ht
        split at h
        · rename_i s h1 hs
          simp only [Option.some.injEq] at h
          subst h
          have a1 : P.underlying t = some .string := hty _ _ h1
          simp [go_sem, resolve, invoke, builtin, Builtin.len_, hc, hx', ht', hs, run_underlying a1, goInt]
        · rename_i e sz a l cp h1 hs
          simp only [Option.some.injEq] at h
          subst h
          have a1 : P.underlying t = some (.slice e) := (hty _ _ h1).1
          simp [go_sem, resolve, invoke, builtin, Builtin.len_, hc, hx', ht', hs, run_underlying a1, goInt]
        · cases h
      · cases h
    · rename_i hc
      split at h
      · rename_i x y hx
        have hx' : c.args = #[x, y] := by rw [← Array.toList_inj]; exact hx
        split at h
        · rename_i a b h1 h2
          simp only [Option.some.injEq] at h
          subst h
          simp [go_sem, resolve, invoke, builtin, Builtin.min_, Builtin.min2, hc, hx', h1, h2]
        · cases h
      · cases h
    · cases h
  · rename_i x y t ho
    rw [ho]
    split at h
    · rename_i a b h1 h2
      simp only [Option.some.injEq] at h
      subst h
      simp [go_sem, eqGuard, binOp, Op.intBits, h1, h2, Go.bits]
    · cases h
  · rename_i x y t ho
    rw [ho]
    split at h
    · rename_i k a k2 b h1 h2
      by_cases hb : 0 ≤ b
      · simp only [hb, decide_true, cond_true, Option.some.injEq] at h
        subst h
        simp [go_sem, eqGuard, binOp, Op.shift, h1, h2, hb]
      · simp [hb] at h
    · cases h
  · cases h
theorem evA_run (hty : Tys P ty) {k : IntKind} {a : Int} (h : evA ty n f o.op = some (k, a)) : (execOp (X n f) o).run P w = .ok (.value (.int k (k.wrap a))) w := by
  unfold evA at h
  unfold execOp
  split at h
  · rename_i t x y t2 ho
    rw [ho]
    split at h
    · rename_i k1 a1 k2 b1 h1 h2
      by_cases hk : k1 = k2
      · subst hk
        simp only [decide_true, cond_true, Option.some.injEq, Prod.mk.injEq] at h
        obtain ⟨rfl, rfl⟩ := h
        simp [go_sem, eqGuard, binOp, Op.intArith, h1, h2]
      · simp [hk] at h
    · cases h
  · rename_i t x y t2 ho
    rw [ho]
    split at h
    · rename_i k1 a1 k2 b1 h1 h2
      by_cases hk : k1 = k2
      · subst hk
        simp only [decide_true, cond_true, Option.some.injEq, Prod.mk.injEq] at h
        obtain ⟨rfl, rfl⟩ := h
        simp [go_sem, eqGuard, binOp, Op.intArith, h1, h2]
      · simp [hk] at h
    · cases h
  · rename_i t x y t2 ho
    rw [ho]
    split at h
    · rename_i k1 a1 k2 b1 h1 h2
      by_cases hk : k1 = k2
      · subst hk
        simp only [decide_true, cond_true, Option.some.injEq, Prod.mk.injEq] at h
        obtain ⟨rfl, rfl⟩ := h
        simp [go_sem, eqGuard, binOp, Op.intArith, h1, h2]
      · simp [hk] at h
    · cases h
  · rename_i s d x ho
    rw [ho]
    split at h
    · rename_i k0 k1 k2 a1 h1 h2 h3
      simp only [Option.some.injEq, Prod.mk.injEq] at h
      obtain ⟨rfl, rfl⟩ := h
      have e1 : P.underlying s = some (.int k0) := hty _ _ h1
      have e2 : P.underlying d = some (.int k1) := hty _ _ h2
      simp [convert, go_sem, run_underlying e1, run_underlying e2, h3, Conv.intToInt]
    · cases h
  · rename_i t x ho
    rw [ho]
    split at h
    · rename_i k1 a1 h1
      simp only [Option.some.injEq, Prod.mk.injEq] at h
      obtain ⟨rfl, rfl⟩ := h
      simp [go_sem, Op.unary, h1]
    · cases h
  · cases h
theorem cmpP_run {op : BinOp} {a b : Int} {p : Prop} (h : cmpP op a b = some p) : ∃ t : Bool, (Op.intCmp op a b).run P w = .ok (.bool t) w ∧ (t = true ↔ p) := by
  unfold cmpP at h
  split at h
  all_goals first
    | (simp only [Option.some.injEq] at h; subst h; exact ⟨_, by simp only [Op.intCmp]; rfl, by simp⟩)
    | cases h
theorem cmpT_run {op : BinOp} {s t : ByteArray} {p : Prop} (h : cmpT op s t = some p) : ∃ b : Bool, (Op.stringOp op s t).run P w = .ok (.bool b) w ∧ (b = true ↔ p) := by
  unfold cmpT at h
  split at h
  all_goals first
    | (simp only [Option.some.injEq] at h; subst h; exact ⟨_, by simp only [Op.stringOp]; rfl, by simp [toList_iff]⟩)
    | cases h
theorem evT_run (hty : Tys P ty) {p : Prop} (h : evT ty n f o.op = some p) : ∃ t : Bool, (execOp (X n f) o).run P w = .ok (.value (.bool t)) w ∧ (t = true ↔ p) := by
  unfold evT at h
  unfold execOp
  split at h
  · rename_i op t x y t2 ho
    rw [ho]
    split at h
    · rename_i k a k2 b h1 h2
      by_cases hk : k = k2
      · subst hk
        simp only [decide_true, cond_true] at h
        obtain ⟨b1, hr, hp⟩ := cmpP_run (P := P) (w := w) h
        refine ⟨b1, ?_, hp⟩
        have hb : binOp op t (.int k a) (.int k b) = Op.intCmp op a b := by
          unfold cmpP at h
          split at h
          all_goals first
            | (simp [binOp]; done)
            | cases h
        rw [← hb] at hr
        simp only [h1, h2]
        generalize binOp op t (.int k a) (.int k b) = e at hr
        simp [go_sem, eqGuard, hr]
      · simp [hk] at h
    · rename_i s1 s2 h1 h2
      obtain ⟨b1, hr, hp⟩ := cmpT_run (P := P) (w := w) h
      refine ⟨b1, ?_, hp⟩
      have hb : binOp op t (.string s1) (.string s2) = Op.stringOp op s1 s2 := by
        unfold cmpT at h
        split at h
        all_goals first
          | (simp [binOp]; done)
          | cases h
      rw [← hb] at hr
      simp only [h1, h2]
      generalize binOp op t (.string s1) (.string s2) = e at hr
      simp [go_sem, eqGuard, hr]
    · rename_i u v h1 h2
      split at h
      · rename_i h3
        simp only [Option.some.injEq] at h
        subst h
        refine ⟨false, ?_, by simp⟩
        simp [go_sem, eqGuard, h1, h2, run_eql_held_nil (P := P) w t _ _ (hty _ _ h3)]
      · rename_i h3
        simp only [Option.some.injEq] at h
        subst h
        refine ⟨true, ?_, by simp⟩
        simp [go_sem, eqGuard, h1, h2, run_neq_held_nil (P := P) w t _ _ (hty _ _ h3)]
      · cases h
    · rename_i h1 h2
      split at h
      · rename_i c h3
        simp only [Option.some.injEq] at h
        subst h
        refine ⟨true, ?_, by simp⟩
        simp [go_sem, eqGuard, h1, h2, run_eql_nil_nil (P := P) w t (hty _ _ h3)]
      · rename_i c h3
        simp only [Option.some.injEq] at h
        subst h
        refine ⟨false, ?_, by simp⟩
        simp [go_sem, eqGuard, h1, h2, run_neq_nil_nil (P := P) w t (hty _ _ h3)]
      · cases h
    · cases h
  · cases h
def callable (P : Program) (g : FuncId) : Bool := match P.funcs[g]? with
  | some fn => fn.body.isSome && !(fn.name == "runtime.NumGoroutine")
  | none => false
theorem evC_run {g : FuncId} {args : List Value} (h : evC n f o.op = some (g, args)) (hg : callable P g = true) : (execOp (X n f) o).run P w = .ok (.enter g args.toArray) w := by
  unfold evC at h
  unfold execOp
  split at h
  · rename_i c ho
    rw [ho]
    split at h
    · rename_i x hc
      split at h
      · rename_i k first captured hx
        cases hf : first.isEmpty with
        | false => simp [hf] at h
        | true =>
          simp only [hf, cond_true, Option.some.injEq, Prod.mk.injEq] at h
          obtain ⟨rfl, rfl⟩ := h
          have hfe : first = #[] := by simpa using hf
          subst hfe
          unfold callable at hg
          split at hg
          · rename_i fn hfn
            simp only [Bool.and_eq_true, Bool.not_eq_true'] at hg
            have hb : fn.body.isNone = false := by
              cases hb : fn.body with
              | none => rw [hb] at hg; simp at hg
              | some _ => rfl
            have harr : c.args.map (X n f) ++ captured = (c.args.toList.map (X n f) ++ captured.toList).toArray := by
              rw [← Array.toList_inj]; simp
            have hb2 : fn.body ≠ none := by intro e; rw [e] at hb; simp at hb
            have hn2 : fn.name ≠ "runtime.NumGoroutine" := by intro e; rw [e] at hg; simp at hg
            simp [go_sem, resolve, hc, hx, Deferred.ofValue, invoke, callFunc, hfn, hb, harr]
            rw [if_neg hn2, if_neg hb2]
          · cases hg
      · cases h
    · cases h
  · cases h
end
end Go.Proofs.YthgojbdpmcccaaaGreatDoor.Q
end
section
namespace Go.Proofs.YthgojbdpmcccaaaGreatDoor.Q
set_option linter.unusedVariables false
set_option linter.unusedSimpArgs false
def inK : IntKind → Int → Prop
  | .i8, x => -128 ≤ x ∧ x ≤ 127
  | .i16, x => -32768 ≤ x ∧ x ≤ 32767
  | .i32, x => -2147483648 ≤ x ∧ x ≤ 2147483647
  | .i64, x => -9223372036854775808 ≤ x ∧ x ≤ 9223372036854775807
  | .u8, x => 0 ≤ x ∧ x ≤ 255
  | .u16, x => 0 ≤ x ∧ x ≤ 65535
  | .u32, x => 0 ≤ x ∧ x ≤ 4294967295
  | .u64, x => 0 ≤ x ∧ x ≤ 18446744073709551615
theorem wrap_in {k : IntKind} {x : Int} (h : inK k x) : k.wrap x = x := by
  cases k <;> simp only [inK] at h <;> simp only [IntKind.wrap, IntKind.signed, IntKind.bits] <;> simp <;> omega
theorem in_i64 {x : Int} (h : -9223372036854775808 ≤ x) (g : x ≤ 9223372036854775807) : inK .i64 x := ⟨h, g⟩
theorem in_u8 {x : Int} (h : 0 ≤ x) (g : x ≤ 255) : inK .u8 x := ⟨h, g⟩
theorem in_u64 {x : Int} (h : 0 ≤ x) (g : x ≤ 18446744073709551615) : inK .u64 x := ⟨h, g⟩
theorem in_i32 {x : Int} (h : -2147483648 ≤ x) (g : x ≤ 2147483647) : inK .i32 x := ⟨h, g⟩
def evI (n : Nat) (f : Fr) (ty : Nat → Option Ty) : Op → Option (ByteArray × Int)
  | .index t x i => match ty t, X n f x, X n f i with
    | some .str, .string s, .int _ j => some (s, j)
    | _, _, _ => none
  | _ => none
def bound (n : Nat) (f : Fr) (d : Int) : Option Operand → Option Int
  | none => some d
  | some x => match X n f x with
    | .int _ j => some j
    | _ => none
def evS (n : Nat) (f : Fr) (ty : Nat → Option Ty) : Op → Option (ByteArray × Int × Int)
  | .slice t x lo hi none => match ty t, X n f x with
    | some .str, .string s => match bound n f 0 lo, bound n f s.size hi with
      | some l, some h => some (s, l, h)
      | _, _ => none
    | _, _ => none
  | _ => none
def evSl (n : Nat) (f : Fr) (ty : Nat → Option Ty) : Op → Option (Option Addr × Nat × Nat × Nat × Int × Int)
  | .slice t x lo hi none => match ty t, X n f x with
    | some (.slc _ sz), .slice a l c => match bound n f 0 lo, bound n f l hi with
      | some p, some q => some (a, l, c, sz, p, q)
      | _, _ => none
    | _, _ => none
  | _ => none
def evIA (n : Nat) (f : Fr) (ty : Nat → Option Ty) : Op → Option (Option Addr × Nat × Nat × Int)
  | .indexAddr t x i => match ty t, X n f x, X n f i with
    | some (.slc _ sz), .slice a l _, .int _ j => some (a, l, sz, j)
    | _, _, _ => none
  | _ => none
def evL (n : Nat) (f : Fr) (ty : Nat → Option Ty) : Op → Option Addr
  | .load t x => match ty t, X n f x with
    | some _, .pointer (some a) => some a
    | _, _ => none
  | _ => none
section
variable {P : Program} {ty : Nat → Option Ty} {n : Nat} {f : Fr} {w : World} {o : Oper}
theorem evI_run (hty : Tys P ty) {s : ByteArray} {j : Int} (h : evI n f ty o.op = some (s, j)) (h0 : 0 ≤ j) (h1 : j < s.size) : (execOp (X n f) o).run P w = .ok (.value (.int .u8 (at_ (bl s) j))) w := by
  unfold evI at h
  split at h
  · rename_i t x i ho
    split at h
    · rename_i s1 k j1 h2 h3 h4
      simp only [Option.some.injEq, Prod.mk.injEq] at h
      obtain ⟨rfl, rfl⟩ := h
      have a1 : P.underlying t = some .string := hty _ _ h2
      obtain ⟨m, rfl⟩ := Int.eq_ofNat_of_zero_le h0
      have hm : m < s1.size := by omega
      have hb : at_ (bl s1) (m : Int) = ((s1[m]'hm).toNat : Int) := by
        unfold at_ bl
        rw [Int.toNat_natCast, List.getD_eq_getElem?_getD, List.getElem?_map]
        have : s1.data.toList[m]? = some (s1[m]'hm) := by
          have hl : m < s1.data.toList.length := by simpa using hm
          rw [List.getElem?_eq_getElem hl]
          rfl
        rw [this]; rfl
      unfold execOp
      rw [ho, hb]
      simp [go_sem, h3, h4, Instr.index, run_underlying a1, hm]
    · cases h
  · cases h
theorem evS_run (hty : Tys P ty) {s : ByteArray} {l h : Int} (he : evS n f ty o.op = some (s, l, h)) (h0 : 0 ≤ l) (h1 : l ≤ h) (h2 : h ≤ s.size) : (execOp (X n f) o).run P w = .ok (.value (.string (s.extract l.toNat h.toNat))) w := by
  unfold evS at he
  split at he
  · rename_i t x lo hi ho
    split at he
    · rename_i s1 h3 h4
      have a1 : P.underlying t = some .string := hty _ _ h3
      unfold execOp
      rw [ho]
      cases lo with
      | none =>
        cases hi with
        | none =>
          simp only [bound, Option.some.injEq, Prod.mk.injEq] at he
          obtain ⟨rfl, rfl, rfl⟩ := he
          simp [go_sem, h4, Instr.sliceAt, Instr.slice, Instr.sliceBounds, Instr.sliceBound, run_underlying a1]
        | some y =>
          simp only [bound] at he
          split at he
          · rename_i p q e1 e2
            split at e2
            · rename_i k j e3
              simp only [Option.some.injEq, Prod.mk.injEq] at he e1 e2
              obtain ⟨rfl, rfl, rfl⟩ := he
              subst e1 e2
              simp [go_sem, h4, e3, Instr.sliceAt, Instr.slice, Instr.sliceBounds, Instr.sliceBound, run_underlying a1, h1, h2]
            · cases e2
          · cases he
      | some z =>
        cases hi with
        | none =>
          simp only [bound] at he
          split at he
          · rename_i p q e1 e2
            split at e1
            · rename_i k j e3
              simp only [Option.some.injEq, Prod.mk.injEq] at he e1 e2
              obtain ⟨rfl, rfl, rfl⟩ := he
              subst e1 e2
              simp [go_sem, h4, e3, Instr.sliceAt, Instr.slice, Instr.sliceBounds, Instr.sliceBound, run_underlying a1, h0, h1]
            · cases e1
          · cases he
        | some y =>
          simp only [bound] at he
          split at he
          · rename_i p q e1 e2
            split at e1
            · rename_i k j e3
              split at e2
              · rename_i k2 j2 e4
                simp only [Option.some.injEq, Prod.mk.injEq] at he e1 e2
                obtain ⟨rfl, rfl, rfl⟩ := he
                subst e1 e2
                have hh : 0 ≤ j2 := by omega
                have hz : j ≤ (j2.toNat : Int) := by omega
                simp [go_sem, h4, e3, e4, Instr.sliceAt, Instr.slice, Instr.sliceBounds, Instr.sliceBound, run_underlying a1, h0, h2, hh, hz]
                intro hx
                exfalso
                omega
              · cases e2
            · cases e1
          · cases he
    · cases he
  · cases he
theorem evIA_run (hty : Tys P ty) {a : Addr} {l sz : Nat} {j : Int} (h : evIA n f ty o.op = some (some a, l, sz, j)) (h0 : 0 ≤ j) (h1 : j < l) : (execOp (X n f) o).run P w = .ok (.value (.pointer (some (a.add (j.toNat * sz))))) w := by
  unfold evIA at h
  split at h
  · rename_i t x i ho
    split at h
    · rename_i e sz1 a1 l1 c1 k j1 h2 h3 h4
      simp only [Option.some.injEq, Prod.mk.injEq] at h
      obtain ⟨rfl, rfl, rfl, rfl⟩ := h
      obtain ⟨b1, i0, b2, b3⟩ : P.underlying t = some (.slice e) ∧ ∃ i, P.info? e = some i ∧ i.size = sz1 := hty _ _ h2
      unfold execOp
      rw [ho]
      simp [go_sem, h3, h4, Instr.indexAt, run_underlying b1, sizeOf, typeInfo, b2, b3, h0, h1]
    · cases h
  · cases h
theorem evL_run (hty : Tys P ty) {a : Addr} {v : Value} (h : evL n f ty o.op = some a) (hc : w.cell? a = some v) : (execOp (X n f) o).run P w = .ok (.value v) w := by
  unfold evL at h
  split at h
  · rename_i t x ho
    split at h
    · rename_i k a1 h2 h3
      simp only [Option.some.injEq] at h
      subst h
      have hk := hty _ _ h2
      unfold execOp
      rw [ho]
      cases k with
      | int k => have e : P.underlying t = some (.int k) := hk; simp [go_sem, h3, Instr.loadAt, loadVar, isAgg, run_underlying e, hc]
      | bool => have e : P.underlying t = some .bool := hk; simp [go_sem, h3, Instr.loadAt, loadVar, isAgg, run_underlying e, hc]
      | str => have e : P.underlying t = some .string := hk; simp [go_sem, h3, Instr.loadAt, loadVar, isAgg, run_underlying e, hc]
      | slc e2 sz => have e : P.underlying t = some (.slice e2) := hk.1; simp [go_sem, h3, Instr.loadAt, loadVar, isAgg, run_underlying e, hc]
      | err => have e : P.underlying t = some (.interface (P.methodsAt t)) := hk; simp [go_sem, h3, Instr.loadAt, loadVar, isAgg, run_underlying e, hc]
    · cases h
  · cases h
end
structure WL (P : Program) (ops : Array Oper) (Q : Exit → Act → World → Prop) (l : List Oper) (a : Act) (w : World) : Prop where mk :: (out : wpList P ops Q l a w)
structure WQ (P : Program) (ops : Array Oper) (C : World → Prop) (K : Act → Prop) (l : List Oper) (a : Act) : Prop where mk :: (out : wpQuiet P ops C K l a)
section
variable {P : Program} {ty : Nat → Option Ty} {n : Nat} {ops : Array Oper} {Q : Exit → Act → World → Prop} {rest : List Oper} {f : Fr} {w : World} {d : Option Nat} {op : Op} {tt : TypeId} {ps : String} {af : Array Edge} {gd : Option (Nat × Bool)}
theorem l_nil (h : Q .normal (act n f) w) : WL P ops Q [] (act n f) w := ⟨h⟩
theorem l_off (hw : want n ops f ⟨d, op, tt, ps, af, gd⟩ = false) (h : WL P ops Q rest (act n (put f d undef)) w) : WL P ops Q (⟨d, op, tt, ps, af, gd⟩ :: rest) (act n f) w := by
  refine ⟨?_⟩
  have h := h.out
  simp only [wpList, want_eq, hw, put_act]
  exact h
theorem l_val {v : Value} (hw : want n ops f ⟨d, op, tt, ps, af, gd⟩ = true) (hv : (execOp (X n f) ⟨d, op, tt, ps, af, gd⟩).run P w = .ok (.value v) w) (h : WL P ops Q rest (act n (put f d v)) w) : WL P ops Q (⟨d, op, tt, ps, af, gd⟩ :: rest) (act n f) w := by
  refine ⟨?_⟩
  have h := h.out
  simp only [wpList, want_eq, hw, if_true]
  left
  unfold Oper.wp
  rw [eval_act, hv]
  simp only [Oper.upon, put_act]
  exact h
theorem l_p (hty : Tys P ty) {v : Value} (hw : want n ops f ⟨d, op, tt, ps, af, gd⟩ = true) (he : evP ty n f op = some v) (h : WL P ops Q rest (act n (put f d v)) w) : WL P ops Q (⟨d, op, tt, ps, af, gd⟩ :: rest) (act n f) w :=
  l_val hw (evP_run (o := ⟨d, op, tt, ps, af, gd⟩) hty he) h
theorem l_a (hty : Tys P ty) {k : IntKind} {x : Int} (hw : want n ops f ⟨d, op, tt, ps, af, gd⟩ = true) (he : evA ty n f op = some (k, x)) (hr : inK k x) (h : WL P ops Q rest (act n (put f d (.int k x))) w) : WL P ops Q (⟨d, op, tt, ps, af, gd⟩ :: rest) (act n f) w :=
  l_val hw ((evA_run (o := ⟨d, op, tt, ps, af, gd⟩) hty he).trans (by rw [wrap_in hr])) h
theorem l_t (hty : Tys P ty) {p : Prop} (hw : want n ops f ⟨d, op, tt, ps, af, gd⟩ = true) (he : evT ty n f op = some p) (h1 : p → WL P ops Q rest (act n (put f d (.bool true))) w) (h2 : ¬ p → WL P ops Q rest (act n (put f d (.bool false))) w) : WL P ops Q (⟨d, op, tt, ps, af, gd⟩ :: rest) (act n f) w := by
  obtain ⟨t, hr, ht⟩ := evT_run (w := w) (o := ⟨d, op, tt, ps, af, gd⟩) hty he
  cases t with
  | true => exact l_val hw hr (h1 (ht.1 rfl))
  | false => exact l_val hw hr (h2 (fun hp => by have := ht.2 hp; cases this))
theorem l_ix (hty : Tys P ty) {s : ByteArray} {j : Int} (hw : want n ops f ⟨d, op, tt, ps, af, gd⟩ = true) (he : evI n f ty op = some (s, j)) (h0 : 0 ≤ j) (h1 : j < s.size) (h : WL P ops Q rest (act n (put f d (.int .u8 (at_ (bl s) j)))) w) : WL P ops Q (⟨d, op, tt, ps, af, gd⟩ :: rest) (act n f) w :=
  l_val hw (evI_run (o := ⟨d, op, tt, ps, af, gd⟩) hty he h0 h1) h
theorem l_sl (hty : Tys P ty) {s : ByteArray} {l r : Int} (hw : want n ops f ⟨d, op, tt, ps, af, gd⟩ = true) (he : evS n f ty op = some (s, l, r)) (h0 : 0 ≤ l) (h1 : l ≤ r) (h2 : r ≤ s.size) (h : WL P ops Q rest (act n (put f d (.string (s.extract l.toNat r.toNat)))) w) : WL P ops Q (⟨d, op, tt, ps, af, gd⟩ :: rest) (act n f) w :=
  l_val hw (evS_run (o := ⟨d, op, tt, ps, af, gd⟩) hty he h0 h1 h2) h
theorem l_ia (hty : Tys P ty) {a : Addr} {l sz : Nat} {j : Int} (hw : want n ops f ⟨d, op, tt, ps, af, gd⟩ = true) (he : evIA n f ty op = some (some a, l, sz, j)) (h0 : 0 ≤ j) (h1 : j < l) (h : WL P ops Q rest (act n (put f d (.pointer (some (a.add (j.toNat * sz)))))) w) : WL P ops Q (⟨d, op, tt, ps, af, gd⟩ :: rest) (act n f) w :=
  l_val hw (evIA_run (o := ⟨d, op, tt, ps, af, gd⟩) hty he h0 h1) h
theorem l_ld (hty : Tys P ty) {a : Addr} {v : Value} (hw : want n ops f ⟨d, op, tt, ps, af, gd⟩ = true) (he : evL n f ty op = some a) (hc : w.cell? a = some v) (h : WL P ops Q rest (act n (put f d v)) w) : WL P ops Q (⟨d, op, tt, ps, af, gd⟩ :: rest) (act n f) w :=
  l_val hw (evL_run (o := ⟨d, op, tt, ps, af, gd⟩) hty he hc) h
theorem is_l {o : Oper} (h : WL P ops Q (o :: rest) (act n f) w) : WL P ops Q (o :: rest) (act n f) w := h
theorem l_call {g : FuncId} {args : List Value} {R : Ending → World → Prop} (hw : want n ops f ⟨d, op, tt, ps, af, gd⟩ = true) (he : evC n f op = some (g, args)) (hg : callable P g = true) (hc : Calls P g args.toArray w R)
    (h : ∀ e w', R e w' → ∃ v, e = .returned v ∧ WL P ops Q rest (act n (put f d v)) w') : WL P ops Q (⟨d, op, tt, ps, af, gd⟩ :: rest) (act n f) w := by
  refine ⟨?_⟩
  simp only [wpList, want_eq, hw, if_true]
  left
  unfold Oper.wp
  rw [eval_act, evC_run (o := ⟨d, op, tt, ps, af, gd⟩) he hg]
  simp only [Oper.upon]
  refine hc.mono fun e w' hR => ?_
  obtain ⟨v, rfl, hk⟩ := h e w' hR
  simp only [put_act]
  exact hk.out
theorem l_callv {g : FuncId} {args : List Value} {v : Value} {J : World → Prop} (hw : want n ops f ⟨d, op, tt, ps, af, gd⟩ = true) (he : evC n f op = some (g, args)) (hg : callable P g = true) (hc : Calls P g args.toArray w fun e w' => e = .returned v ∧ J w')
    (h : ∀ w', J w' → WL P ops Q rest (act n (put f d v)) w') : WL P ops Q (⟨d, op, tt, ps, af, gd⟩ :: rest) (act n f) w :=
  l_call hw he hg hc fun e w' hR => ⟨v, hR.1, h w' hR.2⟩
theorem l_callp {g : FuncId} {args : List Value} {v : Value} (hw : want n ops f ⟨d, op, tt, ps, af, gd⟩ = true) (he : evC n f op = some (g, args)) (hg : callable P g = true) (hc : Calls P g args.toArray w fun e w' => e = .returned v ∧ w' = w)
    (h : WL P ops Q rest (act n (put f d v)) w) : WL P ops Q (⟨d, op, tt, ps, af, gd⟩ :: rest) (act n f) w :=
  l_call hw he hg hc fun e w' hR => ⟨v, hR.1, by rw [hR.2]; exact h⟩
theorem w_reg {id : Nat} {l : List Oper} (h : WL P l.toArray Q l (act n f) w) : (Code.region id l.toArray false).wp P Q (act n f) w := by
  refine wp_region ?_
  have := wpOps_eq_wpList (P := P) (ops := l.toArray) (Q := Q) l 0 (fun j => by simp)
  rw [List.range_eq_range']
  simp only [List.size_toArray]
  rw [this]
  exact h.out
end
section
variable {P : Program} {ty : Nat → Option Ty} {n : Nat} {ops : Array Oper} {C : World → Prop} {K : Act → Prop} {rest : List Oper} {f : Fr} {d : Option Nat} {op : Op} {tt : TypeId} {ps : String} {af : Array Edge} {gd : Option (Nat × Bool)}
theorem q_nil (h : K (act n f)) : WQ P ops C K [] (act n f) := ⟨h⟩
theorem q_val {v : Value} (hw : want n ops f ⟨d, op, tt, ps, af, gd⟩ = true) (hv : ∀ w, C w → (execOp (X n f) ⟨d, op, tt, ps, af, gd⟩).run P w = .ok (.value v) w) (h : WQ P ops C K rest (act n (put f d v))) : WQ P ops C K (⟨d, op, tt, ps, af, gd⟩ :: rest) (act n f) := by
  refine ⟨?_⟩
  have h := h.out
  simp only [wpQuiet, want_eq, hw, if_true]
  refine ⟨v, fun w hC => ?_, by rw [put_act]; exact h⟩
  unfold Oper.quietAt
  rw [eval_act, hv w hC]
  exact ⟨rfl, rfl⟩
theorem q_p (hty : Tys P ty) {v : Value} (hw : want n ops f ⟨d, op, tt, ps, af, gd⟩ = true) (he : evP ty n f op = some v) (h : WQ P ops C K rest (act n (put f d v))) : WQ P ops C K (⟨d, op, tt, ps, af, gd⟩ :: rest) (act n f) :=
  q_val hw (fun _ _ => evP_run (o := ⟨d, op, tt, ps, af, gd⟩) hty he) h
theorem q_ld (hty : Tys P ty) {a : Addr} {v : Value} (hw : want n ops f ⟨d, op, tt, ps, af, gd⟩ = true) (he : evL n f ty op = some a) (hc : ∀ w, C w → w.cell? a = some v) (h : WQ P ops C K rest (act n (put f d v))) : WQ P ops C K (⟨d, op, tt, ps, af, gd⟩ :: rest) (act n f) :=
  q_val hw (fun w hC => evL_run (o := ⟨d, op, tt, ps, af, gd⟩) hty he (hc w hC)) h
theorem is_q {o : Oper} (h : WQ P ops C K (o :: rest) (act n f)) : WQ P ops C K (o :: rest) (act n f) := h
theorem w_draw {Q : Exit → Act → World → Prop} {w : World} {id : Nat} {l : List Oper} (hm : P.follows .mixedOrders = true) (hB : Region.lexB .any l.toArray = true) (hC : C w.drew)
    (h : WQ P l.toArray C (fun a' => ∀ w', C w' → Q .normal a' w') l (act n f)) : (Code.region id l.toArray true).wp P Q (act n f) w :=
  wp_region_quiet hm hB hC (by simpa using h.out)
end
section
variable {P : Program} {n : Nat} {Q : Exit → Act → World → Prop} {f : Fr} {w : World}
theorem w_if {c : Operand} {x y : Code} {t : Bool} (hc : X n f c = .bool t) (h : (bif t then x else y).wp P Q (act n f) w) : (Code.cond c x y).wp P Q (act n f) w := by
  refine wp_cond (t := t) (by rw [eval_act]; exact hc) ?_
  cases t <;> exact h
theorem is_if {c : Operand} {x y : Code} (h : (Code.cond c x y).wp P Q (act n f) w) : (Code.cond c x y).wp P Q (act n f) w := h
theorem w_ift {c : Operand} {x y : Code} (hc : X n f c = .bool true) (h : x.wp P Q (act n f) w) : (Code.cond c x y).wp P Q (act n f) w := w_if hc h
theorem w_iff {c : Operand} {x y : Code} (hc : X n f c = .bool false) (h : y.wp P Q (act n f) w) : (Code.cond c x y).wp P Q (act n f) w := w_if hc h
theorem p_tn {next : Act → World → Prop} {a : Act} (h : next a w) : Exit.then next Q .normal a w := h
theorem p_tx {next : Act → World → Prop} {a : Act} {id : Nat} (h : Q (.exit id) a w) : Exit.then next Q (.exit id) a w := h
theorem p_tr {next : Act → World → Prop} {a : Act} (h : Q .ret a w) : Exit.then next Q .ret a w := h
theorem p_bn {a : Act} {id : Nat} (h : Q .normal a w) : Exit.inBlock id Q .normal a w := h
theorem p_br {a : Act} {id : Nat} (h : Q .ret a w) : Exit.inBlock id Q .ret a w := h
theorem x_hit {id : Nat} {a : Act} (h : Q .normal a w) : Exit.inBlock id Q (.exit id) a w := by simpa [Exit.inBlock] using h
theorem x_miss {id id2 : Nat} {a : Act} (hne : Nat.beq id2 id = false) (h : Q (.exit id2) a w) : Exit.inBlock id Q (.exit id2) a w := by
  have : id2 ≠ id := by intro e; subst e; simp at hne
  simpa [Exit.inBlock, this] using h
def over (f : Fr) : List (Nat × Value) → Fr
  | [] => f
  | (k, v) :: l => put (over f l) (some k) v
def Slots (f : Fr) : List (Nat × Value) → Prop
  | [] => True
  | (k, v) :: l => f k = v ∧ Slots f l
theorem over_eq {f : Fr} : ∀ {l : List (Nat × Value)}, Slots f l → over f l = f
  | [], _ => rfl
  | (k, v) :: l, h => by
    obtain ⟨h1, h2⟩ := h
    funext j
    simp only [over, put, over_eq h2]
    by_cases e : j = k
    · subst e; simp [h1]
    · have : Nat.beq j k = false := by rw [Bool.eq_false_iff]; intro h; exact e (Nat.eq_of_beq_eq_true h)
      simp [this]
theorem w_loop {σ : Type} (S : σ → List (Nat × Value)) (J : σ → World → Prop) (μ : σ → Nat) (s0 : σ) {c : Code} (h0 : Slots f (S s0)) (hJ : J s0 w)
    (round : ∀ s f w, J s w → c.wp P (Exit.then (fun a' w' => ∃ s' f', a' = act n f' ∧ Slots f' (S s') ∧ J s' w' ∧ μ s' < μ s) Q) (act n (over f (S s))) w) : (Code.loop c).wp P Q (act n f) w := by
  refine wp_loop_ghost (fun m a w => ∃ s f, a = act n f ∧ Slots f (S s) ∧ J s w ∧ μ s = m) (μ s0) ⟨s0, f, rfl, h0, hJ, rfl⟩ ?_
  rintro m a w ⟨s, f, rfl, g2, g3, g4⟩
  have := round s f w g3
  rw [over_eq g2] at this
  refine wp_mono this ?_
  intro e a' w' hq
  cases e with
  | normal =>
    obtain ⟨s', f', rfl, k2, k3, k4⟩ := hq
    exact ⟨μ s', by omega, s', f', rfl, k2, k3, rfl⟩
  | exit id => exact hq
  | goto l => exact hq
  | ret => exact hq
  | panic ch => exact hq
  | outgrown => exact hq
def ini (l : List Value) : Fr := fun k => l.getD k undef
theorem enter {g : FuncId} {fn : Func} {c : Code} {args : List Value} {R : Ending → World → Prop} (hf : P.funcs[g]? = some fn) (hb : fn.body = some c) (hn : fn.ntmps = n) (hl : Nat.ble args.length n = true)
    (h : c.wp P (bodyPost P fn R) (act n (ini args)) w) : Calls P g args.toArray w R := by
  refine calls_of_wp hf hb ?_
  have e : ({ tmps := args.toArray ++ Array.replicate (fn.ntmps - args.toArray.size) undef, defers := [] } : Act) = act n (ini args) := by
    unfold act
    congr 1
    have hl' : args.length ≤ n := Nat.le_of_ble_eq_true hl
    apply Array.ext
    · simp [arr, hn]; omega
    · intro i h1 h2
      simp only [arr, ini, List.getElem_toArray, List.getElem_map, List.getElem_range]
      by_cases hi : i < args.length
      · rw [Array.getElem_append_left (by simpa using hi)]
        simp [hi]
      · rw [Array.getElem_append_right (by simpa using hi)]
        simp [hi]
  rw [e]
  exact h
theorem end1 {fn : Func} {R : Ending → World → Prop} {t : Tmp} (hr : fn.results = #[.tmp t]) {v : Value} (hv : nf (X n f (.tmp t)) = some v) (h : R (.returned v) w) : bodyPost P fn R .ret (act n f) w :=
  bodyPost_ret (results_tmp hr _ _ _) rfl (by rw [show (act n f).tmps = arr n f from rfl, getD_arr, ← nf_eq hv]; exact h)
theorem end2 {fn : Func} {R : Ending → World → Prop} {t u : Tmp} (hr : fn.results = #[.tmp t, .tmp u]) {v v2 : Value} (hv : nf (X n f (.tmp t)) = some v) (hv2 : nf (X n f (.tmp u)) = some v2) (h : R (.returned (.tuple #[v, v2])) w) : bodyPost P fn R .ret (act n f) w :=
  bodyPost_ret (results_tmp2 hr _ _ _) rfl (by rw [show (act n f).tmps = arr n f from rfl, getD_arr, getD_arr, ← nf_eq hv, ← nf_eq hv2]; exact h)
theorem end3 {fn : Func} {R : Ending → World → Prop} {t u x : Tmp} (hr : fn.results = #[.tmp t, .tmp u, .tmp x]) {v v2 v3 : Value} (hv : nf (X n f (.tmp t)) = some v) (hv2 : nf (X n f (.tmp u)) = some v2) (hv3 : nf (X n f (.tmp x)) = some v3) (h : R (.returned (.tuple #[v, v2, v3])) w) : bodyPost P fn R .ret (act n f) w :=
  bodyPost_ret (results_tmp3 hr _ _ _) rfl (by rw [show (act n f).tmps = arr n f from rfl, getD_arr, getD_arr, getD_arr, ← nf_eq hv, ← nf_eq hv2, ← nf_eq hv3]; exact h)
end
end Go.Proofs.YthgojbdpmcccaaaGreatDoor.Q
end
section
namespace Go.Proofs.YthgojbdpmcccaaaGreatDoor.Wb
set_option linter.unusedVariables false
set_option linter.unusedSimpArgs false
abbrev L := List Int
def digB (c : Int) : Bool := decide (48 ≤ c) && decide (c ≤ 57)
def letB (c : Int) : Bool := (decide (97 ≤ c) && decide (c ≤ 122)) || (decide (65 ≤ c) && decide (c ≤ 90))
def tokB (c : Int) : Bool := letB c || digB c || [33, 35, 36, 37, 38, 39, 42, 43, 45, 46, 94, 95, 96, 124, 126].contains c
def visB (c : Int) : Bool := decide (33 ≤ c) && decide (c ≤ 126)
def valB (c : Int) : Bool := decide (c = 9) || (decide (32 ≤ c) && decide (c ≤ 126)) || decide (128 ≤ c)
def plnB (c : Int) : Bool := letB c || digB c || [45, 46, 95, 126, 33, 36, 38, 39, 40, 41, 42, 43, 44, 59, 61, 58, 64, 47].contains c
def blkB (c : Int) : Bool := decide (c = 32) || decide (c = 9)
def hostB (c : Int) : Bool := visB c && !([47, 63, 35, 64, 92].contains c)
def lowB (c : Int) : Int := if 65 ≤ c ∧ c ≤ 90 then c + 32 else c
def lowS (s : L) : L := s.map lowB
def tokS (s : L) : Bool := !s.isEmpty && s.all tokB
def trimR (s : L) : L := (s.reverse.dropWhile blkB).reverse
def trimS (s : L) : L := trimR (s.dropWhile blkB)
def cutC (c : Int) : L → Option (L × L)
  | [] => none
  | x :: r => if x = c then some ([], r) else match cutC c r with
    | none => none
    | some (a, b) => some (x :: a, b)
def splitC (c : Int) : L → List L
  | [] => [[]]
  | x :: r => if x = c then [] :: splitC c r else match splitC c r with
    | [] => [[x]]
    | p :: q => (x :: p) :: q
def chop (l : L) : L := if l.getLast? = some 13 then l.dropLast else l
def lineS (b : L) : Option (L × L) := (cutC 10 b).map fun p => (chop p.1, p.2)
def linesS : Nat → L → Option (List L × L)
  | 0, _ => none
  | f + 1, b => match lineS b with
    | none => none
    | some ([], r) => some ([], r)
    | some (x :: l, r) => match linesS f r with
      | none => none
      | some (ls, q) => some ((x :: l) :: ls, q)
def cutS (tl : Nat) (b : L) : Except Nat (L × List L × L) :=
  match lineS b with
  | none => if 8001 < b.length then .error tl else .error 140
  | some (first, rest) =>
    if 8000 < first.length then .error tl
    else match linesS (rest.length + 1) rest with
      | none => if 16384 < rest.length then .error 2 else .error 140
      | some (ls, r) => if 16384 < rest.length - r.length then .error 2 else .ok (first, ls, r)
theorem cutC_some {c : Int} : ∀ {b p r : L}, cutC c b = some (p, r) → b = p ++ c :: r ∧ c ∉ p
  | [], _, _, h => by simp [cutC] at h
  | x :: b, p, r, h => by
    unfold cutC at h
    by_cases e : x = c
    · rw [if_pos e] at h
      simp only [Option.some.injEq, Prod.mk.injEq] at h
      obtain ⟨rfl, rfl⟩ := h
      exact ⟨by simp [e], by simp⟩
    · rw [if_neg e] at h
      cases hc : cutC c b with
      | none => rw [hc] at h; cases h
      | some q =>
        obtain ⟨a, s⟩ := q
        rw [hc] at h
        simp only [Option.some.injEq, Prod.mk.injEq] at h
        obtain ⟨rfl, rfl⟩ := h
        obtain ⟨h1, h2⟩ := cutC_some hc
        refine ⟨by simp [h1], ?_⟩
        simp only [List.mem_cons, not_or]
        exact ⟨fun h => e h.symm, h2⟩
theorem lineS_some {b p r : L} (h : lineS b = some (p, r)) : ∃ q, b = q ++ 10 :: r ∧ (10 : Int) ∉ q ∧ p = chop q := by
  unfold lineS at h
  cases hc : cutC 10 b with
  | none => rw [hc] at h; cases h
  | some q =>
    obtain ⟨a, s⟩ := q
    rw [hc] at h
    simp only [Option.map_some, Option.some.injEq, Prod.mk.injEq] at h
    obtain ⟨rfl, rfl⟩ := h
    obtain ⟨h1, h2⟩ := cutC_some hc
    exact ⟨a, h1, h2, rfl⟩
end Go.Proofs.YthgojbdpmcccaaaGreatDoor.Wb
end
section
namespace Go.Proofs.YthgojbdpmcccaaaGreatDoor.Wb
set_option linter.unusedVariables false
set_option linter.unusedSimpArgs false
abbrev Fld := L × L
def hexV (c : Int) : Option Nat := if 48 ≤ c ∧ c ≤ 57 then some (c - 48).toNat else if 97 ≤ c ∧ c ≤ 102 then some (c - 87).toNat else if 65 ≤ c ∧ c ≤ 70 then some (c - 55).toNat else none
def hexN : Nat → L → Option Nat
  | n, [] => some n
  | n, c :: r => match hexV c with
    | none => none
    | some d => hexN (16 * n + d) r
def aheadC (c : Int) (s : L) : L := match cutC c s with | some (a, _) => a | none => s
def behindC (c : Int) (s : L) : L := match cutC c s with | some (_, b) => b | none => []
def sizeS (s : L) : Option Nat :=
  if 256 < s.length then none
  else if aheadC 59 s = [] ∨ 8 < (aheadC 59 s).length ∨ (behindC 59 s).all valB = false then none
  else hexN 0 (aheadC 59 s)
def endS : L → Except Nat L
  | [] => .error 140
  | 10 :: r => .ok r
  | 13 :: 10 :: r => .ok r
  | [13] => .error 140
  | _ => .error 146
def unchS : Nat → L → L → Except Nat (L × L)
  | 0, _, _ => .error 140
  | f + 1, acc, rest => match lineS rest with
    | none => if 257 < rest.length then .error 146 else .error 140
    | some (l, behind) => match sizeS l with
      | none => .error 146
      | some n => if 1048576 < acc.length + n then .error 2
        else if behind.length < n then .error 140
        else match endS (behind.drop n) with
          | .error e => .error e
          | .ok r => if n = 0 then .ok (acc, r) else unchS f (acc ++ behind.take n) r
def unchunkS (b : L) : Except Nat (L × Nat) := match unchS (b.length + 1) [] b with
  | .ok (body, r) => .ok (body, b.length - r.length)
  | .error e => .error e
theorem endS_app {b r : L} (t : L) (h : endS b = .ok r) : endS (b ++ t) = .ok (r ++ t) ∧ r.length < b.length ∧ ∃ p, b = p ++ r := by
  unfold endS at h
  split at h
  · cases h
  · simp only [Except.ok.injEq] at h; subst h; exact ⟨rfl, by simp, [10], rfl⟩
  · simp only [Except.ok.injEq] at h; subst h; exact ⟨rfl, by simp; omega, [13, 10], rfl⟩
  · cases h
  · cases h
theorem unchS_rest : ∀ {f : Nat} {acc b body r : L}, unchS f acc b = .ok (body, r) → r.length < b.length ∧ ∃ p, b = p ++ r
  | 0, _, _, _, _, h => by simp [unchS] at h
  | f + 1, acc, b, body, r, h => by
    unfold unchS at h
    cases hl : lineS b with
    | none => rw [hl] at h; simp only at h; split at h <;> cases h
    | some q =>
      obtain ⟨l, behind⟩ := q
      rw [hl] at h
      simp only at h
      obtain ⟨q, h1, _, _⟩ := lineS_some hl
      cases hs : sizeS l with
      | none => rw [hs] at h; cases h
      | some n =>
        rw [hs] at h
        simp only at h
        split at h
        · cases h
        · split at h
          · cases h
          · rename_i hn
            cases he : endS (behind.drop n) with
            | error e => rw [he] at h; cases h
            | ok z =>
              rw [he] at h
              simp only at h
              obtain ⟨_, h3, p, h4⟩ := endS_app [] he
              have hd : behind = behind.take n ++ (p ++ z) := by rw [← h4, List.take_append_drop]
              have hlen : z.length < behind.length := by have := congrArg List.length hd; simp at this; simp at h3; omega
              split at h
              · simp only [Except.ok.injEq, Prod.mk.injEq] at h
                obtain ⟨_, rfl⟩ := h
                refine ⟨by rw [h1]; simp; omega, q ++ 10 :: (behind.take n ++ p), ?_⟩
                rw [h1]
                conv => lhs; rw [hd]
                simp
              · obtain ⟨h5, p2, h6⟩ := unchS_rest h
                refine ⟨by rw [h1]; simp; omega, q ++ 10 :: (behind.take n ++ p ++ p2), ?_⟩
                rw [h1]
                conv => lhs; rw [hd, h6]
                simp
theorem unchunkS_le {b body : L} {n : Nat} (h : unchunkS b = .ok (body, n)) : n ≤ b.length ∧ 0 < n := by
  unfold unchunkS at h
  cases hu : unchS (b.length + 1) [] b with
  | error e => rw [hu] at h; cases h
  | ok z =>
    obtain ⟨bd, r⟩ := z
    have := (unchS_rest hu).1
    rw [hu] at h
    simp only [Except.ok.injEq, Prod.mk.injEq] at h
    omega
def fieldS (s : L) : Option Fld := match cutC 58 s with
  | none => none
  | some (n, v) => if tokS n = true ∧ v.all valB = true then some (n, trimS v) else none
def fieldsS : List L → Option (List Fld)
  | [] => some []
  | l :: r => match fieldS l with
    | none => none
    | some f => match fieldsS r with
      | none => none
      | some fs => some (f :: fs)
def vals (l : List Fld) (name : L) : List L := l.filterMap fun f => if lowS f.1 = name then some f.2 else none
def nHost : L := [104, 111, 115, 116]
def nConn : L := [99, 111, 110, 110, 101, 99, 116, 105, 111, 110]
def nCode : L := [116, 114, 97, 110, 115, 102, 101, 114, 45, 101, 110, 99, 111, 100, 105, 110, 103]
def nLen : L := [99, 111, 110, 116, 101, 110, 116, 45, 108, 101, 110, 103, 116, 104]
def wClose : L := [99, 108, 111, 115, 101]
def wKeep : L := [107, 101, 101, 112, 45, 97, 108, 105, 118, 101]
def wChunked : L := [99, 104, 117, 110, 107, 101, 100]
def numV : Nat → L → Nat
  | n, [] => n
  | n, c :: r => numV (10 * n + (c - 48).toNat) r
def numS (s : L) : Option Nat := if s = [] ∨ s.all digB = false ∨ (1 < s.length ∧ s.head? = some 48) then none else some (numV 0 s)
def hostOk (l : List Fld) (minor : Int) : Bool := match vals l nHost with
  | [] => minor != 1
  | [v] => v.all hostB
  | _ => false
def closesS (l : List Fld) (minor : Int) : Bool :=
  let ws := (vals l nConn).flatMap fun v => (splitC 44 v).map fun w => lowS (trimS w)
  ws.contains wClose || (minor != 1 && !ws.contains wKeep)
inductive Frame where
  | none
  | chunks
  | len (n : Nat)
def frameS (l : List Fld) (minor : Int) : Except Nat Frame := match vals l nCode with
  | [] => match vals l nLen with
    | [] => .ok .none
    | [v] => match numS v with
      | .none => .error 143
      | some n => if 1048576 < n then .error 145 else .ok (.len n)
    | _ => .error 143
  | [c] => if minor = 0 ∨ lowS c ≠ wChunked ∨ vals l nLen ≠ [] then .error 143 else .ok .chunks
  | _ => .error 143
def bodyS (rest : L) : Frame → Except Nat (L × Nat)
  | .none => .ok ([], 0)
  | .chunks => match unchunkS rest with
    | .error e => .error (if e = 2 then 145 else e)
    | .ok r => .ok r
  | .len n => if rest.length < n then .error 140 else .ok (rest.take n, n)
def methodsS : List L := [[71, 69, 84], [72, 69, 65, 68], [80, 79, 83, 84], [80, 85, 84], [68, 69, 76, 69, 84, 69], [67, 79, 78, 78, 69, 67, 84], [79, 80, 84, 73, 79, 78, 83], [84, 82, 65, 67, 69], [80, 65, 84, 67, 72]]
def versS (s : L) : Option (Int × Int) := match s with
  | [72, 84, 84, 80, 47, a, 46, b] => if digB a = true ∧ digB b = true then some (a - 48, b - 48) else none
  | _ => none
def startS (first : L) : Except Nat (L × L × Int) := match splitC 32 first with
  | [m, t, v] =>
    if tokS m = false ∨ t = [] ∨ t.all visB = false then .error 141
    else match versS v with
      | none => .error 141
      | some (a, b) => if methodsS.contains m = false then .error 148 else if a = 1 ∧ b ≤ 1 then .ok (m, t, b) else .error 142
  | _ => .error 141
structure ReqS where
  method : L
  target : L
  minor : Int
  fields : List Fld
  body : L
  close : Bool
def fieldsE (ls : List L) : Except Nat (List Fld) := if 64 < ls.length then .error 2 else match fieldsS ls with | none => .error 143 | some l => .ok l
def parseReqS (b : L) : Except Nat (ReqS × Nat) := match cutS 147 b with
  | .error e => .error e
  | .ok (first, ls, rest) => match startS first with
    | .error e => .error e
    | .ok (m, t, v) => match fieldsE ls with
      | .error e => .error e
      | .ok l => if hostOk l v = false then .error 144 else match frameS l v with
        | .error e => .error e
        | .ok fr => match bodyS rest fr with
          | .error e => .error e
          | .ok (body, k) => .ok (⟨m, t, v, l, body, closesS l v⟩, b.length - rest.length + k)
structure ResS where
  status : Int
  minor : Int
  fields : List Fld
  body : L
  close : Bool
def bareS (s : Int) : Bool := (decide (100 ≤ s) && decide (s < 200)) || decide (s = 204) || decide (s = 304)
theorem bodyS_le {rest body : L} {fr : Frame} {k : Nat} (h : bodyS rest fr = .ok (body, k)) : k ≤ rest.length := by
  cases fr with
  | none => simp only [bodyS, Except.ok.injEq, Prod.mk.injEq] at h; omega
  | chunks =>
    simp only [bodyS] at h
    cases hu : unchunkS rest with
    | error e => rw [hu] at h; cases h
    | ok z =>
      rw [hu] at h
      simp only [Except.ok.injEq] at h
      subst h
      exact (unchunkS_le hu).1
  | len n =>
    simp only [bodyS] at h
    split at h
    · cases h
    · simp only [Except.ok.injEq, Prod.mk.injEq] at h; omega
end Go.Proofs.YthgojbdpmcccaaaGreatDoor.Wb
end
section
namespace Go.Proofs.YthgojbdpmcccaaaGreatDoor.Wb
set_option linter.unusedVariables false
set_option linter.unusedSimpArgs false
def decS (n : Nat) : L := if n < 10 then [48 + (n : Int)] else decS (n / 10) ++ [48 + ((n % 10 : Nat) : Int)]
termination_by n
decreasing_by omega
theorem trim_sub (s : L) : ∀ x ∈ trimS s, x ∈ s := by
  intro x hx
  unfold trimS trimR at hx
  rw [List.mem_reverse] at hx
  have h1 := (List.dropWhile_sublist blkB).mem hx
  rw [List.mem_reverse] at h1
  exact (List.dropWhile_sublist blkB).mem h1
def nLenP : L := [67, 111, 110, 116, 101, 110, 116, 45, 76, 101, 110, 103, 116, 104]
def keptF (f : Fld) : Bool := decide (lowS f.1 ≠ nLen) && decide (lowS f.1 ≠ nCode)
def printedS (l : List Fld) (told : Option Nat) : List Fld :=
  (l.filter keptF).map (fun f => (f.1, trimS f.2)) ++ match told with | none => [] | some n => [(nLenP, decS n)]
def lineF (f : Fld) : L := f.1 ++ [58, 32] ++ f.2
def headLen (l : List Fld) : Nat := 2 + (l.map fun f => f.1.length + 2 + f.2.length + 2).sum
def headF : List Fld → L
  | [] => [13, 10]
  | f :: r => lineF f ++ [13, 10] ++ headF r
def wholeS (start : L) (l : List Fld) (body : L) : L := start ++ [13, 10] ++ headF l ++ body
def goodF (f : Fld) : Bool := tokS f.1 && f.2.all valB
theorem headF_length : ∀ l, (headF l).length = headLen l
  | [] => rfl
  | f :: r => by
    simp only [headF, List.length_append, headF_length r, lineF, headLen, List.map_cons, List.sum_cons, List.length_cons, List.length_nil]
    omega
theorem vals_app (a b : List Fld) (n : L) : vals (a ++ b) n = vals a n ++ vals b n := by simp [vals]
def checkReqS (m t : L) (minor : Int) (start : L) (l : List Fld) (body : L) : Nat :=
  if 8000 < start.length then 147
  else if 16384 < headLen l then 2
  else if tokS m = false ∨ t = [] ∨ t.all visB = false then 141
  else if methodsS.contains m = false then 148
  else if minor ≠ 0 ∧ minor ≠ 1 then 142
  else if 64 < l.length then 2
  else if l.all goodF = false then 143
  else if hostOk l minor = false then 144
  else if 1048576 < body.length then 145
  else 0
def toldB (body : L) : Option Nat := if body = [] then none else some body.length
end Go.Proofs.YthgojbdpmcccaaaGreatDoor.Wb
end
section
namespace Go.Proofs.YthgojbdpmcccaaaGreatDoor.Wb
set_option linter.unusedVariables false
set_option linter.unusedSimpArgs false
def wordsS : List (Int × L) := [(100, [67, 111, 110, 116, 105, 110, 117, 101]), (200, [79, 75]), (204, [78, 111, 32, 67, 111, 110, 116, 101, 110, 116]), (301, [77, 111, 118, 101, 100, 32, 80, 101, 114, 109, 97, 110, 101, 110, 116, 108, 121]), (302, [70, 111, 117, 110, 100]), (304, [78, 111, 116, 32, 77, 111, 100, 105, 102, 105, 101, 100]), (400, [66, 97, 100, 32, 82, 101, 113, 117, 101, 115, 116]), (403, [70, 111, 114, 98, 105, 100, 100, 101, 110]), (404, [78, 111, 116, 32, 70, 111, 117, 110, 100]), (405, [77, 101, 116, 104, 111, 100, 32, 78, 111, 116, 32, 65, 108, 108, 111, 119, 101, 100]), (408, [82, 101, 113, 117, 101, 115, 116, 32, 84, 105, 109, 101, 111, 117, 116]), (409, [67, 111, 110, 102, 108, 105, 99, 116]), (410, [71, 111, 110, 101]), (411, [76, 101, 110, 103, 116, 104, 32, 82, 101, 113, 117, 105, 114, 101, 100]), (413, [67, 111, 110, 116, 101, 110, 116, 32, 84, 111, 111, 32, 76, 97, 114, 103, 101]), (414, [85, 82, 73, 32, 84, 111, 111, 32, 76, 111, 110, 103]), (429, [84, 111, 111, 32, 77, 97, 110, 121, 32, 82, 101, 113, 117, 101, 115, 116, 115]), (431, [82, 101, 113, 117, 101, 115, 116, 32, 72, 101, 97, 100, 101, 114, 32, 70, 105, 101, 108, 100, 115, 32, 84, 111, 111, 32, 76, 97, 114, 103, 101]), (500, [73, 110, 116, 101, 114, 110, 97, 108, 32, 83, 101, 114, 118, 101, 114, 32, 69, 114, 114, 111, 114]), (501, [78, 111, 116, 32, 73, 109, 112, 108, 101, 109, 101, 110, 116, 101, 100]), (502, [66, 97, 100, 32, 71, 97, 116, 101, 119, 97, 121]), (503, [83, 101, 114, 118, 105, 99, 101, 32, 85, 110, 97, 118, 97, 105, 108, 97, 98, 108, 101]), (504, [71, 97, 116, 101, 119, 97, 121, 32, 84, 105, 109, 101, 111, 117, 116]), (505, [72, 84, 84, 80, 32, 86, 101, 114, 115, 105, 111, 110, 32, 78, 111, 116, 32, 83, 117, 112, 112, 111, 114, 116, 101, 100])]
def decI (n : Int) : L := if 0 ≤ n then decS n.toNat else 45 :: decS (-n).toNat
def findW (st : Int) : List (Int × L) → Option L
  | [] => none
  | (s, w) :: r => if s = st then some w else findW st r
def reasonS (st : Int) : L := match findW st wordsS with
  | some w => w
  | none => [83, 116, 97, 116, 117, 115, 32] ++ decI st
def startRes (st minor : Int) : L := [72, 84, 84, 80, 47, 49, 46] ++ decI minor ++ [32] ++ decI st ++ [32] ++ reasonS st
def toldR (st : Int) (body : L) : Option Nat := if bareS st = true then none else some body.length
def checkResS (st minor : Int) (l : List Fld) (body : L) : Nat :=
  if 16384 < headLen l then 2
  else if minor ≠ 0 ∧ minor ≠ 1 then 142
  else if st < 100 ∨ 599 < st then 149
  else if 64 < l.length then 2
  else if l.all goodF = false then 143
  else if 1048576 < body.length ∨ (bareS st = true ∧ body ≠ []) then 145
  else 0
end Go.Proofs.YthgojbdpmcccaaaGreatDoor.Wb
end
section
namespace Go.Proofs.YthgojbdpmcccaaaGreatDoor.Wb
set_option linter.unusedVariables false
set_option linter.unusedSimpArgs false
def ctlB (c : Int) : Bool := decide (c < 32) || decide (c = 127)
def hexU (d : Int) : Int := if d < 10 then 48 + d else 55 + d
def esc1 (c : Int) : L := if plnB c then [c] else [37, hexU (c / 16), hexU (c % 16)]
def escL (p : L) : L := p.flatMap esc1
def decodeS : Nat → L → Option L
  | 0, _ => none
  | f + 1, s => match s with
    | [] => some []
    | c :: r =>
      if c = 37 then match r with
        | a :: b :: q => match hexV a, hexV b with
          | some x, some y => if ctlB ((16 * x + y : Nat) : Int) = true ∨ ((16 * x + y : Nat) : Int) = 47 then none else (decodeS f q).map (((16 * x + y : Nat) : Int) :: ·)
          | _, _ => none
        | _ => none
      else if plnB c = false then none else (decodeS f r).map (c :: ·)
theorem ahead_sub (c : Int) (s : L) : ∀ x ∈ aheadC c s, x ∈ s := by
  intro x hx
  unfold aheadC at hx
  split at hx
  · rename_i a b hc
    rw [(cutC_some hc).1]
    simp [hx]
  · exact hx
end Go.Proofs.YthgojbdpmcccaaaGreatDoor.Wb
end
section
namespace Go.Proofs
open Go.Shelf
def Tryz.lays169_ren : Go.Shelf.Ren := ⟨fun | 169 => 107 | n => n, fun | 70 => 166 | 9 => 9 | 0 => 0 | 72 => 168 | 37 => 23 | 127 => 223 | 3 => 3 | 5 => 5 | n => n, fun | n => n⟩
theorem Tryz.lays169 : Go.Proofs.Lays.n169 Tryz.prog Tryz.lays169_ren := {
  mixed := by kernel_rfl
  f169 := Tryz.func107.trans (congrArg some (by kernel_rfl))
  t0 := Tryz.underlying0
  a0 := Tryz.isAgg0
  z0 := Tryz.sizeOf0
  v0 := Tryz.zeroValue0
  t3 := Tryz.underlying3
  a3 := Tryz.isAgg3
  z3 := Tryz.sizeOf3
  v3 := Tryz.zeroValue3
  t9 := Tryz.underlying9
  a9 := Tryz.isAgg9
  z9 := Tryz.sizeOf9
  v9 := Tryz.zeroValue9
  t37 := Tryz.underlying23
  a37 := Tryz.isAgg23
  z37 := Tryz.sizeOf23
  v37 := Tryz.zeroValue23
  t70 := Tryz.underlying166
  a70 := Tryz.isAgg166
  z70 := Tryz.sizeOf166
  v70 := Tryz.zeroValue166
  t72 := Tryz.underlying168
  a72 := Tryz.isAgg168
  z72 := Tryz.sizeOf168
  v72 := Tryz.zeroValue168
  t127 := Tryz.underlying223
  a127 := Tryz.isAgg223
  z127 := Tryz.sizeOf223
  v127 := Tryz.zeroValue223 }
theorem Tryz.Builder_Extra_169 : Builder.Extra Tryz.prog Tryz.lays169_ren := {
  sizeBuilder := by kernel_rfl
  liesBuilder := by kernel_rfl
  t5 := Tryz.underlying5
  a5 := Tryz.isAgg5
  z5 := Tryz.sizeOf5
  v5 := Tryz.zeroValue5
  infoByte := by kernel_rfl
  cellsByte := by kernel_rfl
  sizeByte := by kernel_rfl
  neB5 := by decide }
open Go.RowKit in
theorem Tryz.Builder_String_any (B b : Nat) (l : List UInt8) (w : World) (h : Lib.IsBuilder 168 5 B b (Lib.byteCells l) w) (hBw : B ≤ w.heap.size) :
    Calls Tryz.prog 107 #[.pointer (some ⟨b, 0, none⟩)] w fun e w' => e = .returned (.string ⟨l.toArray⟩) ∧ Below B w w' := Any.Builder_String_any Tryz.lays169 Tryz.Builder_Extra_169 B b l w h hBw
def Tryz.lays160_ren : Go.Shelf.Ren := ⟨fun | 160 => 149 | 232 => 176 | 231 => 175 | 227 => 177 | 234 => 179 | 233 => 178 | 236 => 181 | 235 => 180 | 228 => 196 | 271 => 199 | 151 => 198 | 197 => 197 | 120 => 209 | 152 => 208 | 260 => 207 | 137 => 152 | 119 => 213 | 224 => 211 | 225 => 210 | 217 => 182 | 266 => 200 | n => n, fun | 9 => 9 | 4 => 4 | 3 => 3 | 5 => 5 | 117 => 244 | 116 => 243 | 0 => 0 | 124 => 247 | 21 => 21 | 105 => 269 | 46 => 216 | 119 => 276 | 139 => 279 | 138 => 278 | n => n, fun | 3 => 23 | 4 => 24 | n => n⟩
theorem Tryz.lays160 : Go.Proofs.Lays.n160 Tryz.prog Tryz.lays160_ren := {
  mixed := by kernel_rfl
  f119 := Tryz.func213.trans (congrArg some (by kernel_rfl))
  f120 := Tryz.func209.trans (congrArg some (by kernel_rfl))
  f137 := Tryz.func152.trans (congrArg some (by kernel_rfl))
  f151 := Tryz.func198.trans (congrArg some (by kernel_rfl))
  f152 := Tryz.func208.trans (congrArg some (by kernel_rfl))
  f160 := Tryz.func149.trans (congrArg some (by kernel_rfl))
  f197 := Tryz.func197.trans (congrArg some (by kernel_rfl))
  f217 := Tryz.func182.trans (congrArg some (by kernel_rfl))
  f224 := Tryz.func211.trans (congrArg some (by kernel_rfl))
  f225 := Tryz.func210.trans (congrArg some (by kernel_rfl))
  f227 := Tryz.func177.trans (congrArg some (by kernel_rfl))
  f228 := Tryz.func196.trans (congrArg some (by kernel_rfl))
  f231 := Tryz.func175.trans (congrArg some (by kernel_rfl))
  f232 := Tryz.func176.trans (congrArg some (by kernel_rfl))
  f233 := Tryz.func178.trans (congrArg some (by kernel_rfl))
  f234 := Tryz.func179.trans (congrArg some (by kernel_rfl))
  f235 := Tryz.func180.trans (congrArg some (by kernel_rfl))
  f236 := Tryz.func181.trans (congrArg some (by kernel_rfl))
  f260 := Tryz.func207.trans (congrArg some (by kernel_rfl))
  f266 := Tryz.func200.trans (congrArg some (by kernel_rfl))
  f271 := Tryz.func199.trans (congrArg some (by kernel_rfl))
  t0 := Tryz.underlying0
  a0 := Tryz.isAgg0
  z0 := Tryz.sizeOf0
  v0 := Tryz.zeroValue0
  t3 := Tryz.underlying3
  a3 := Tryz.isAgg3
  z3 := Tryz.sizeOf3
  v3 := Tryz.zeroValue3
  t4 := Tryz.underlying4
  a4 := Tryz.isAgg4
  z4 := Tryz.sizeOf4
  v4 := Tryz.zeroValue4
  t5 := Tryz.underlying5
  a5 := Tryz.isAgg5
  z5 := Tryz.sizeOf5
  v5 := Tryz.zeroValue5
  t9 := Tryz.underlying9
  a9 := Tryz.isAgg9
  z9 := Tryz.sizeOf9
  v9 := Tryz.zeroValue9
  t21 := Tryz.underlying21
  a21 := Tryz.isAgg21
  z21 := Tryz.sizeOf21
  v21 := Tryz.zeroValue21
  t46 := Tryz.underlying216
  a46 := Tryz.isAgg216
  z46 := Tryz.sizeOf216
  v46 := Tryz.zeroValue216
  t105 := Tryz.underlying269
  a105 := Tryz.isAgg269
  z105 := Tryz.sizeOf269
  v105 := Tryz.zeroValue269
  t116 := Tryz.underlying243
  a116 := Tryz.isAgg243
  z116 := Tryz.sizeOf243
  t117 := Tryz.underlying244
  a117 := Tryz.isAgg244
  z117 := Tryz.sizeOf244
  v117 := Tryz.zeroValue244
  t119 := Tryz.underlying276
  a119 := Tryz.isAgg276
  z119 := Tryz.sizeOf276
  t124 := Tryz.underlying247
  a124 := Tryz.isAgg247
  z124 := Tryz.sizeOf247
  v124 := Tryz.zeroValue247
  t138 := Tryz.underlying278
  a138 := Tryz.isAgg278
  z138 := Tryz.sizeOf278
  v138 := Tryz.zeroValue278
  t139 := Tryz.underlying279
  a139 := Tryz.isAgg279
  z139 := Tryz.sizeOf279
  v139 := Tryz.zeroValue279
  g3 := by kernel_rfl
  g4 := by kernel_rfl }
def Tryz.lays137_ren : Go.Shelf.Ren := ⟨fun | 137 => 152 | 217 => 182 | 266 => 200 | n => n, fun | 9 => 9 | 5 => 5 | 3 => 3 | n => n, fun | n => n⟩
theorem Tryz.lays137 : Go.Proofs.Lays.n137 Tryz.prog Tryz.lays137_ren := {
  mixed := by kernel_rfl
  f137 := Tryz.func152.trans (congrArg some (by kernel_rfl))
  f217 := Tryz.func182.trans (congrArg some (by kernel_rfl))
  f266 := Tryz.func200.trans (congrArg some (by kernel_rfl))
  t3 := Tryz.underlying3
  a3 := Tryz.isAgg3
  z3 := Tryz.sizeOf3
  v3 := Tryz.zeroValue3
  t5 := Tryz.underlying5
  a5 := Tryz.isAgg5
  z5 := Tryz.sizeOf5
  v5 := Tryz.zeroValue5
  t9 := Tryz.underlying9
  a9 := Tryz.isAgg9
  z9 := Tryz.sizeOf9
  v9 := Tryz.zeroValue9 }
open Go.RowKit in
theorem Tryz.strings_IndexByte (s : ByteArray) (c : Int) (w : World) :
    Calls Tryz.prog 152 #[.string s, .int .u8 c] w fun e w' => e = .returned (.int .i64 (Lib.indexByte s.data.toList c.toNat.toUInt8)) ∧ w' = w := Any.strings_IndexByte Tryz.lays137 s c w
open Go.RowKit in
def Tryz.laysM171_ren : Go.Shelf.Ren := ⟨fun | 171 => 49 | 243 => 95 | 246 => 116 | 283 => 163 | 284 => 164 | 285 => 165 | 286 => 166 | 129 => 189 | 317 => 188 | 318 => 190 | 319 => 191 | 320 => 192 | 337 => 204 | 338 => 205 | n => n, fun | 3 => 3 | 9 => 9 | 2 => 2 | 4 => 4 | 171 => 229 | 0 => 0 | 53 => 230 | 37 => 23 | 5 => 5 | 173 => 233 | 212 => 264 | 51 => 265 | 20 => 20 | 213 => 266 | 46 => 216 | 232 => 274 | 233 => 275 | n => n, fun | 17 => 19 | 18 => 21 | 19 => 22 | n => n⟩
theorem Tryz.laysM171 : Go.Proofs.LaysM.n171 Tryz.prog Tryz.laysM171_ren := {
  mixed := by kernel_rfl
  f129 := Tryz.func189.trans (congrArg some (by kernel_rfl))
  f171 := Tryz.func49.trans (congrArg some (by kernel_rfl))
  f243 := Tryz.func95.trans (congrArg some (by kernel_rfl))
  f246 := Tryz.func116.trans (congrArg some (by kernel_rfl))
  f283 := Tryz.func163.trans (congrArg some (by kernel_rfl))
  f284 := Tryz.func164.trans (congrArg some (by kernel_rfl))
  f285 := Tryz.func165.trans (congrArg some (by kernel_rfl))
  f286 := Tryz.func166.trans (congrArg some (by kernel_rfl))
  f317 := Tryz.func188.trans (congrArg some (by kernel_rfl))
  f318 := Tryz.func190.trans (congrArg some (by kernel_rfl))
  f319 := Tryz.func191.trans (congrArg some (by kernel_rfl))
  f320 := Tryz.func192.trans (congrArg some (by kernel_rfl))
  f337 := Tryz.func204.trans (congrArg some (by kernel_rfl))
  f338 := Tryz.func205.trans (congrArg some (by kernel_rfl))
  t0 := Tryz.underlying0
  a0 := Tryz.isAgg0
  z0 := Tryz.sizeOf0
  v0 := Tryz.zeroValue0
  t2 := Tryz.underlying2
  a2 := Tryz.isAgg2
  z2 := Tryz.sizeOf2
  v2 := Tryz.zeroValue2
  t3 := Tryz.underlying3
  a3 := Tryz.isAgg3
  z3 := Tryz.sizeOf3
  v3 := Tryz.zeroValue3
  t4 := Tryz.underlying4
  a4 := Tryz.isAgg4
  z4 := Tryz.sizeOf4
  v4 := Tryz.zeroValue4
  t5 := Tryz.underlying5
  a5 := Tryz.isAgg5
  z5 := Tryz.sizeOf5
  v5 := Tryz.zeroValue5
  t9 := Tryz.underlying9
  a9 := Tryz.isAgg9
  z9 := Tryz.sizeOf9
  v9 := Tryz.zeroValue9
  t20 := Tryz.underlying20
  a20 := Tryz.isAgg20
  z20 := Tryz.sizeOf20
  v20 := Tryz.zeroValue20
  t37 := Tryz.underlying23
  a37 := Tryz.isAgg23
  z37 := Tryz.sizeOf23
  v37 := Tryz.zeroValue23
  t46 := Tryz.underlying216
  a46 := Tryz.isAgg216
  z46 := Tryz.sizeOf216
  v46 := Tryz.zeroValue216
  t51 := Tryz.underlying265
  a51 := Tryz.isAgg265
  z51 := Tryz.sizeOf265
  v51 := Tryz.zeroValue265
  t53 := Tryz.underlying230
  a53 := Tryz.isAgg230
  z53 := Tryz.sizeOf230
  v53 := Tryz.zeroValue230
  t171 := Tryz.underlying229
  a171 := Tryz.isAgg229
  z171 := Tryz.sizeOf229
  v171 := Tryz.zeroValue229
  t173 := Tryz.underlying233
  a173 := Tryz.isAgg233
  z173 := Tryz.sizeOf233
  v173 := Tryz.zeroValue233
  t212 := Tryz.underlying264
  a212 := Tryz.isAgg264
  z212 := Tryz.sizeOf264
  v212 := Tryz.zeroValue264
  t213 := Tryz.underlying266
  a213 := Tryz.isAgg266
  z213 := Tryz.sizeOf266
  t232 := Tryz.underlying274
  a232 := Tryz.isAgg274
  z232 := Tryz.sizeOf274
  v232 := Tryz.zeroValue274
  t233 := Tryz.underlying275
  a233 := Tryz.isAgg275
  z233 := Tryz.sizeOf275
  v233 := Tryz.zeroValue275
  g17 := by kernel_rfl
  g18 := by kernel_rfl
  g19 := by kernel_rfl
  i0 := by kernel_rfl
  i2 := by kernel_rfl
  i3 := by kernel_rfl
  i4 := by kernel_rfl
  i5 := by kernel_rfl
  i9 := by kernel_rfl
  i20 := by kernel_rfl
  i37 := by kernel_rfl
  i46 := by kernel_rfl
  i51 := by kernel_rfl
  i53 := by kernel_rfl
  i171 := by kernel_rfl
  i173 := by kernel_rfl
  i212 := by kernel_rfl
  i232 := by kernel_rfl
  i233 := by kernel_rfl
  m17 := by kernel_rfl
  m18 := by kernel_rfl
  m19 := by kernel_rfl }
open Go.RowKit Go.Sort Go.Lib in
theorem Tryz.strconv_Itoa (n : Int) (h0 : -9223372036854775808 ≤ n) (h1 : n ≤ 9223372036854775807) (w : World) (htab : Lib.TabIs Tryz.prog w "internal/strconv.uint64pow10" .u64 Lib.pow10Tab) :
    Calls Tryz.prog 49 #[.int .i64 n] w fun e w' => e = .returned (.string ⟨(Lib.itoa n).toArray⟩) ∧ ∃ k os, w' = grow (w.drewN k) os := Any.strconv_Itoa Tryz.laysM171 n h0 h1 w htab
def Tryz.lays145_ren : Go.Shelf.Ren := ⟨fun | 145 => 169 | 220 => 195 | 219 => 203 | 217 => 182 | 225 => 210 | 224 => 211 | 267 => 212 | 266 => 200 | 314 => 214 | n => n, fun | 9 => 9 | 4 => 4 | 59 => 237 | 3 => 3 | 5 => 5 | 46 => 216 | 146 => 281 | 51 => 265 | n => n, fun | 1 => 20 | n => n⟩
theorem Tryz.lays145 : Go.Proofs.Lays.n145 Tryz.prog Tryz.lays145_ren := {
  mixed := by kernel_rfl
  f145 := Tryz.func169.trans (congrArg some (by kernel_rfl))
  f217 := Tryz.func182.trans (congrArg some (by kernel_rfl))
  f219 := Tryz.func203.trans (congrArg some (by kernel_rfl))
  f220 := Tryz.func195.trans (congrArg some (by kernel_rfl))
  f224 := Tryz.func211.trans (congrArg some (by kernel_rfl))
  f225 := Tryz.func210.trans (congrArg some (by kernel_rfl))
  f266 := Tryz.func200.trans (congrArg some (by kernel_rfl))
  f267 := Tryz.func212.trans (congrArg some (by kernel_rfl))
  f314 := Tryz.func214.trans (congrArg some (by kernel_rfl))
  t3 := Tryz.underlying3
  a3 := Tryz.isAgg3
  z3 := Tryz.sizeOf3
  v3 := Tryz.zeroValue3
  t4 := Tryz.underlying4
  a4 := Tryz.isAgg4
  z4 := Tryz.sizeOf4
  v4 := Tryz.zeroValue4
  t5 := Tryz.underlying5
  a5 := Tryz.isAgg5
  z5 := Tryz.sizeOf5
  v5 := Tryz.zeroValue5
  t9 := Tryz.underlying9
  a9 := Tryz.isAgg9
  z9 := Tryz.sizeOf9
  v9 := Tryz.zeroValue9
  t46 := Tryz.underlying216
  a46 := Tryz.isAgg216
  z46 := Tryz.sizeOf216
  v46 := Tryz.zeroValue216
  t51 := Tryz.underlying265
  a51 := Tryz.isAgg265
  z51 := Tryz.sizeOf265
  v51 := Tryz.zeroValue265
  t59 := Tryz.underlying237
  a59 := Tryz.isAgg237
  z59 := Tryz.sizeOf237
  v59 := Tryz.zeroValue237
  t146 := Tryz.underlying281
  a146 := Tryz.isAgg281
  z146 := Tryz.sizeOf281
  v146 := Tryz.zeroValue281
  g1 := by kernel_rfl }
open Go.RowKit Go.Lib in
theorem Tryz.strings_Cut (s sep : ByteArray) (m : Int) (w : World) (hs : s.size < 4294967281) (hm : w.cell? ⟨20, 0, none⟩ = some (.int .i64 m)) :
    Calls Tryz.prog 169 #[.string s, .string sep] w fun e w' => e = .returned (.tuple #[.string ⟨(Lib.cut s.data.toList sep.data.toList).1.toArray⟩, .string ⟨(Lib.cut s.data.toList sep.data.toList).2.1.toArray⟩, .bool (Lib.cut s.data.toList sep.data.toList).2.2]) ∧ ∃ n, w' = w.drewN n := Any.strings_Cut Tryz.lays145 s sep m w hs hm
open Go.RowKit Go.Lib in
def Tryz.lays146_ren : Go.Shelf.Ren := ⟨fun | 146 => 109 | 221 => 156 | 268 => 184 | 138 => 185 | 143 => 186 | 195 => 201 | 197 => 197 | 218 => 202 | 219 => 203 | 260 => 207 | 217 => 182 | 225 => 210 | 224 => 211 | 267 => 212 | 266 => 200 | 314 => 214 | n => n, fun | 9 => 9 | 31 => 22 | 3 => 3 | 4 => 4 | 0 => 0 | 105 => 269 | 21 => 21 | 5 => 5 | 46 => 216 | 119 => 276 | 139 => 279 | 138 => 278 | 146 => 281 | 51 => 265 | n => n, fun | 1 => 20 | 3 => 23 | 4 => 24 | n => n⟩
theorem Tryz.lays146 : Go.Proofs.Lays.n146 Tryz.prog Tryz.lays146_ren := {
  mixed := by kernel_rfl
  f138 := Tryz.func185.trans (congrArg some (by kernel_rfl))
  f143 := Tryz.func186.trans (congrArg some (by kernel_rfl))
  f146 := Tryz.func109.trans (congrArg some (by kernel_rfl))
  f195 := Tryz.func201.trans (congrArg some (by kernel_rfl))
  f197 := Tryz.func197.trans (congrArg some (by kernel_rfl))
  f217 := Tryz.func182.trans (congrArg some (by kernel_rfl))
  f218 := Tryz.func202.trans (congrArg some (by kernel_rfl))
  f219 := Tryz.func203.trans (congrArg some (by kernel_rfl))
  f221 := Tryz.func156.trans (congrArg some (by kernel_rfl))
  f224 := Tryz.func211.trans (congrArg some (by kernel_rfl))
  f225 := Tryz.func210.trans (congrArg some (by kernel_rfl))
  f260 := Tryz.func207.trans (congrArg some (by kernel_rfl))
  f266 := Tryz.func200.trans (congrArg some (by kernel_rfl))
  f267 := Tryz.func212.trans (congrArg some (by kernel_rfl))
  f268 := Tryz.func184.trans (congrArg some (by kernel_rfl))
  f314 := Tryz.func214.trans (congrArg some (by kernel_rfl))
  t0 := Tryz.underlying0
  a0 := Tryz.isAgg0
  z0 := Tryz.sizeOf0
  v0 := Tryz.zeroValue0
  t3 := Tryz.underlying3
  a3 := Tryz.isAgg3
  z3 := Tryz.sizeOf3
  v3 := Tryz.zeroValue3
  t4 := Tryz.underlying4
  a4 := Tryz.isAgg4
  z4 := Tryz.sizeOf4
  v4 := Tryz.zeroValue4
  t5 := Tryz.underlying5
  a5 := Tryz.isAgg5
  z5 := Tryz.sizeOf5
  v5 := Tryz.zeroValue5
  t9 := Tryz.underlying9
  a9 := Tryz.isAgg9
  z9 := Tryz.sizeOf9
  v9 := Tryz.zeroValue9
  t21 := Tryz.underlying21
  a21 := Tryz.isAgg21
  z21 := Tryz.sizeOf21
  v21 := Tryz.zeroValue21
  t31 := Tryz.underlying22
  a31 := Tryz.isAgg22
  z31 := Tryz.sizeOf22
  v31 := Tryz.zeroValue22
  t46 := Tryz.underlying216
  a46 := Tryz.isAgg216
  z46 := Tryz.sizeOf216
  v46 := Tryz.zeroValue216
  t51 := Tryz.underlying265
  a51 := Tryz.isAgg265
  z51 := Tryz.sizeOf265
  v51 := Tryz.zeroValue265
  t105 := Tryz.underlying269
  a105 := Tryz.isAgg269
  z105 := Tryz.sizeOf269
  v105 := Tryz.zeroValue269
  t119 := Tryz.underlying276
  a119 := Tryz.isAgg276
  z119 := Tryz.sizeOf276
  t138 := Tryz.underlying278
  a138 := Tryz.isAgg278
  z138 := Tryz.sizeOf278
  v138 := Tryz.zeroValue278
  t139 := Tryz.underlying279
  a139 := Tryz.isAgg279
  z139 := Tryz.sizeOf279
  v139 := Tryz.zeroValue279
  t146 := Tryz.underlying281
  a146 := Tryz.isAgg281
  z146 := Tryz.sizeOf281
  v146 := Tryz.zeroValue281
  g1 := by kernel_rfl
  g3 := by kernel_rfl
  g4 := by kernel_rfl }
open Go.RowKit Go.Lib in
theorem Tryz.strings_Split (s sep : ByteArray) (m : Int) (w : World) (hs : s.size < 4294967281) (hm : w.cell? ⟨20, 0, none⟩ = some (.int .i64 m)) (h1 : 1 ≤ sep.size) :
    Calls Tryz.prog 109 #[.string s, .string sep] w fun e w' =>
      e = .returned (.slice (some ⟨w.heap.size, 0, none⟩) (Lib.countB s sep + 1) (Lib.countB s sep + 1)) ∧ w' = w.alloc (.cells ((Lib.splitB sep 0 (Lib.countB s sep) s).map Value.string).toArray 9) := Any.strings_Split Tryz.lays146 (by kernel_rfl) s sep m w hs hm h1
def Tryz.lays187_ren : Go.Shelf.Ren := ⟨fun | 187 => 167 | 255 => 193 | n => n, fun | 37 => 23 | 5 => 5 | 3 => 3 | n => n, fun | n => n⟩
theorem Tryz.lays187 : Go.Proofs.Lays.n187 Tryz.prog Tryz.lays187_ren := {
  mixed := by kernel_rfl
  f187 := Tryz.func167.trans (congrArg some (by kernel_rfl))
  f255 := Tryz.func193.trans (congrArg some (by kernel_rfl))
  t3 := Tryz.underlying3
  a3 := Tryz.isAgg3
  z3 := Tryz.sizeOf3
  v3 := Tryz.zeroValue3
  t5 := Tryz.underlying5
  a5 := Tryz.isAgg5
  z5 := Tryz.sizeOf5
  v5 := Tryz.zeroValue5
  t37 := Tryz.underlying23
  a37 := Tryz.isAgg23
  z37 := Tryz.sizeOf23
  v37 := Tryz.zeroValue23 }
open Go.RowKit Go.Lib in
theorem Tryz.bytes_IndexByte_at (a : Addr) (n c : Nat) (xs : List Int) (cv : Int) (w : World) (hx : xs.length = n) (hc : ∀ i, i < n → w.cell? (a.add i) = some (.int .u8 (xs.getD i 0))) :
    Calls Tryz.prog 167 #[.slice (some a) n c, .int .u8 cv] w fun e w' => e = .returned (.int .i64 (Lib.indexByte (Lib.bytesOf xs) cv.toNat.toUInt8)) ∧ w' = w := Any.bytes_IndexByte_at Tryz.lays187 a n c xs cv w hx hc
open Go.Proofs Go.RowKit Go.Lib in
def Tryz.laysSlK4_ren : Go.Shelf.Ren := ⟨fun | 4 => 123 | n => n, fun | 22 => 23 | 4 => 4 | 5 => 5 | n => n, fun | n => n⟩
theorem Tryz.laysSlK4 : Go.Proofs.SlLaysK.n4 Tryz.prog Tryz.laysSlK4_ren := {
  mixed := by kernel_rfl
  f4 := Tryz.func123.trans (congrArg some (by kernel_rfl))
  t4 := Tryz.underlying4
  a4 := Tryz.isAgg4
  z4 := Tryz.sizeOf4
  v4 := Tryz.zeroValue4
  t22 := Tryz.underlying23
  a22 := Tryz.isAgg23
  z22 := Tryz.sizeOf23
  v22 := Tryz.zeroValue23
  t5 := Tryz.underlying5
  i5 := by kernel_rfl }
open Go.RowKit Go.Lib in
theorem Tryz.bytes_Clone_at (a : Addr) (n c : Nat) (xs : List Int) (w : World) (hx : xs.length = n) (hbig : n ≤ 140737488355328) (hc : ∀ i, i < n → w.cell? (a.add i) = some (.int .u8 (xs.getD i 0))) :
    Calls Tryz.prog 123 #[.slice (some a) n c] w fun e w' => ∃ v', e = .returned v' ∧ w'.ownsRow w.heap.size 5 1 v' n (xs.map (Value.int .u8)) ∧ v' ≠ .slice none 0 0 ∧ Below w.heap.size w w' := Any.bytes_Clone_at Tryz.laysSlK4 a n c xs w hx hbig hc
open Go.RowKit Go.Lib in
theorem Tryz.bytes_Clone_nil (n c : Nat) (w : World) :
    Calls Tryz.prog 123 #[.slice none n c] w fun e w' => e = .returned (.slice none 0 0) ∧ w' = w := Any.bytes_Clone_nil Tryz.laysSlK4 n c w
def Tryz.laysnb140_ren : Go.Shelf.Ren := ⟨fun | 140 => 168 | 117 => 194 | 115 => 206 | n => n, fun | 37 => 23 | 4 => 4 | 3 => 3 | 9 => 9 | 5 => 5 | n => n, fun | n => n⟩
theorem Tryz.laysnb140 : Go.Proofs.Lays.nb140 Tryz.prog Tryz.laysnb140_ren := {
  mixed := by kernel_rfl
  f115 := Tryz.func206.trans (congrArg some (by kernel_rfl))
  f117 := Tryz.func194.trans (congrArg some (by kernel_rfl))
  f140 := Tryz.func168.trans (congrArg some (by kernel_rfl))
  t3 := Tryz.underlying3
  a3 := Tryz.isAgg3
  z3 := Tryz.sizeOf3
  v3 := Tryz.zeroValue3
  t4 := Tryz.underlying4
  a4 := Tryz.isAgg4
  z4 := Tryz.sizeOf4
  v4 := Tryz.zeroValue4
  t9 := Tryz.underlying9
  a9 := Tryz.isAgg9
  z9 := Tryz.sizeOf9
  v9 := Tryz.zeroValue9
  t37 := Tryz.underlying23
  a37 := Tryz.isAgg23
  z37 := Tryz.sizeOf23
  v37 := Tryz.zeroValue23
  t5 := Tryz.underlying5
  a5 := Tryz.isAgg5
  z5 := Tryz.sizeOf5
  v5 := Tryz.zeroValue5 }
theorem Tryz.bytes_TrimSuffix_all (p1 p2 : Option Addr) (n c m d : Nat) (xs ys : List Int) (w : World) (hx : xs.length = n) (hy : ys.length = m) (hnc : n ≤ c) (hbig : n ≤ 9223372036854775807) (h1 : Lib.BytesIn w p1 n xs) (h2 : Lib.BytesIn w p2 m ys) :
    Calls Tryz.prog 168 #[.slice p1 n c, .slice p2 m d] w fun e w' => e = .returned (Lib.trimSuffixV p1 n c xs ys) ∧ w' = w := Any.bytes_TrimSuffix_all Tryz.laysnb140 p1 p2 n c m d xs ys w hx hy hnc hbig h1 h2
theorem Tryz.bytes_IndexByte_nil (cv : Int) (w : World) :
    Calls Tryz.prog 167 #[.slice none 0 0, .int .u8 cv] w fun e w' => e = .returned (.int .i64 (-1)) ∧ w' = w := Any.bytes_IndexByte_nil Tryz.lays187 cv w
end Go.Proofs
end
section
namespace Go.Proofs.YthgojbdpmcccaaaGreatDoor.K
open Go.Proofs.YthgojbdpmcccaaaGreatDoor.Q Go.Proofs.YthgojbdpmcccaaaGreatDoor.Wb
set_option linter.unusedVariables false
set_option linter.unusedSimpArgs false
def ty : Nat → Option Ty
  | 3 => some (.int .i64)
  | 5 => some (.int .u8)
  | 4 => some .bool
  | 9 => some .str
  | 23 => some (.slc 5 1)
  | 98 => some .err
  | _ => none
theorem info_u8 : (Tryz.prog.info? 5).map (fun i => (i.zero, i.size, i.bytes)) = some (some (.int .u8 0), 1, 1) := by kernel_rfl
theorem err_under : Tryz.prog.underlying 98 = some (.interface (Tryz.prog.methodsAt 98)) := by kernel_rfl
theorem tys : Tys Tryz.prog ty := by
  intro t k h
  unfold ty at h
  split at h
  · cases h; exact Tryz.underlying3
  · cases h; exact Tryz.underlying5
  · cases h; exact Tryz.underlying4
  · cases h; exact Tryz.underlying9
  · cases h
    obtain ⟨i0, hi, hz⟩ := Option.map_eq_some_iff.1 info_u8
    simp only [Prod.mk.injEq] at hz
    exact ⟨Tryz.underlying23, i0, hi, hz.2.1⟩
  · cases h; exact err_under
  · cases h
def Dr (w w' : World) : Prop := ∃ k, w' = w.drewN k
theorem Dr.refl (w : World) : Dr w w := ⟨0, rfl⟩
theorem Dr.trans {w w1 w2 : World} (h : Dr w w1) (g : Dr w1 w2) : Dr w w2 := by
  obtain ⟨k, rfl⟩ := h
  obtain ⟨j, rfl⟩ := g
  refine ⟨k + j, ?_⟩
  induction j with
  | zero => rfl
  | succ j ih => exact congrArg World.drew ih
abbrev Kind (g : FuncId) (p : Int → Bool) : Prop := callable Tryz.prog g = true ∧ ∀ (c : Int) (w : World), 0 ≤ c → c ≤ 255 → Calls Tryz.prog g #[.int .u8 c] w fun e w' => e = .returned (.bool (p c)) ∧ w' = w
theorem isDigit_c (c : Int) (w : World) : Calls Tryz.prog 157 #[.int .u8 c] w fun e w' => e = .returned (.bool (digB c)) ∧ w' = w := by
  refine enter (args := [.int .u8 c]) Tryz.func157 rfl Tryz.ntmps157 rfl ?_
  repeat' (first | (with_reducible first | refine p_tn ?_ | refine wp_seq ?_ | refine w_reg ?_ | refine wp_ret ?_ | refine l_nil ?_) | (with_reducible (refine is_l ?_; (first | (refine l_off rfl ?_) | (refine l_p tys rfl rfl ?_) | (refine l_t tys rfl rfl (fun _ => ?_) (fun _ => ?_))))))
  all_goals (refine end1 rfl rfl ?_; exact ⟨by simp [digB, *], rfl⟩)
theorem isLetter_c (c : Int) (w : World) : Calls Tryz.prog 174 #[.int .u8 c] w fun e w' => e = .returned (.bool (letB c)) ∧ w' = w := by
  refine enter (args := [.int .u8 c]) Tryz.func174 rfl Tryz.ntmps174 rfl ?_
  repeat' (first | (with_reducible first | refine p_tn ?_ | refine wp_seq ?_ | refine w_reg ?_ | refine wp_ret ?_ | refine l_nil ?_) | (with_reducible (refine is_l ?_; (first | (refine l_off rfl ?_) | (refine l_p tys rfl rfl ?_) | (refine l_t tys rfl rfl (fun _ => ?_) (fun _ => ?_))))))
  all_goals (refine end1 rfl rfl ?_; exact ⟨by simp [letB, *], rfl⟩)
theorem isVisible_c (c : Int) (w : World) : Calls Tryz.prog 100 #[.int .u8 c] w fun e w' => e = .returned (.bool (visB c)) ∧ w' = w := by
  refine enter (args := [.int .u8 c]) Tryz.func100 rfl Tryz.ntmps100 rfl ?_
  repeat' (first | (with_reducible first | refine p_tn ?_ | refine wp_seq ?_ | refine w_reg ?_ | refine wp_ret ?_ | refine l_nil ?_) | (with_reducible (refine is_l ?_; (first | (refine l_off rfl ?_) | (refine l_p tys rfl rfl ?_) | (refine l_t tys rfl rfl (fun _ => ?_) (fun _ => ?_))))))
  all_goals (refine end1 rfl rfl ?_; exact ⟨by simp [visB, *], rfl⟩)
theorem isValueByte_c (c : Int) (w : World) : Calls Tryz.prog 121 #[.int .u8 c] w fun e w' => e = .returned (.bool (valB c)) ∧ w' = w := by
  refine enter (args := [.int .u8 c]) Tryz.func121 rfl Tryz.ntmps121 rfl ?_
  repeat' (first | (with_reducible first | refine p_tn ?_ | refine wp_seq ?_ | refine w_reg ?_ | refine wp_ret ?_ | refine l_nil ?_) | (with_reducible (refine is_l ?_; (first | (refine l_off rfl ?_) | (refine l_p tys rfl rfl ?_) | (refine l_t tys rfl rfl (fun _ => ?_) (fun _ => ?_))))))
  all_goals (refine end1 rfl rfl ?_; exact ⟨by simp [valB, *], rfl⟩)
def find (c : Int) : L → Int
  | [] => -1
  | x :: r => if x = c then 0 else if find c r < 0 then -1 else find c r + 1
theorem find_ge (c : Int) : ∀ l, -1 ≤ find c l
  | [] => by simp [find]
  | x :: r => by have := find_ge c r; simp only [find]; split <;> (try split) <;> omega
theorem find_has (c : Int) : ∀ l : L, (0 ≤ find c l) ↔ c ∈ l
  | [] => by simp [find]
  | x :: r => by
    have ih := find_has c r
    have := find_ge c r
    simp only [find, List.mem_cons]
    by_cases h : x = c
    · simp [h]
    · rw [if_neg h]
      have h' : ¬ c = x := fun e => h e.symm
      simp only [h', false_or]
      rw [← ih]
      split <;> omega
theorem index_find {c : Int} (h0 : 0 ≤ c) (h1 : c ≤ 255) : ∀ l : List UInt8, Lib.indexByte l c.toNat.toUInt8 = find c (l.map fun b => (b.toNat : Int))
  | [] => rfl
  | b :: l => by
    have ih := index_find h0 h1 l
    have hg := find_ge c (l.map fun b => (b.toNat : Int))
    have hc : c.toNat.toUInt8.toNat = c.toNat := by simp; omega
    have he : (b == c.toNat.toUInt8) = decide ((b.toNat : Int) = c) := by
      rw [Bool.eq_iff_iff, beq_iff_eq, decide_eq_true_eq, ← UInt8.toNat_inj, hc]
      omega
    simp only [Lib.indexByte, List.map_cons, find, ih, he]
    by_cases h : (b.toNat : Int) = c
    · simp [h]
    · simp only [h, decide_false, if_false, Bool.false_eq_true, beq_iff_eq]
      split <;> split <;> omega
theorem index_has (s : ByteArray) (c : Int) (h0 : 0 ≤ c) (h1 : c ≤ 255) : (0 ≤ (Lib.indexByte s.data.toList c.toNat.toUInt8)) ↔ (bl s).contains c = true := by
  rw [List.contains_eq_mem, decide_eq_true_eq, index_find h0 h1, find_has]
  rfl
theorem isTokenByte_c (c : Int) (w : World) (h0 : 0 ≤ c) (h1 : c ≤ 255) : Calls Tryz.prog 150 #[.int .u8 c] w fun e w' => e = .returned (.bool (tokB c)) ∧ w' = w := by
  refine enter (args := [.int .u8 c]) Tryz.func150 rfl Tryz.ntmps150 rfl ?_
  have hx := index_has ⟨#[33, 35, 36, 37, 38, 39, 42, 43, 45, 46, 94, 95, 96, 124, 126]⟩ c h0 h1
  have hb : bl ⟨#[33, 35, 36, 37, 38, 39, 42, 43, 45, 46, 94, 95, 96, 124, 126]⟩ = [33, 35, 36, 37, 38, 39, 42, 43, 45, 46, 94, 95, 96, 124, 126] := rfl
  rw [hb] at hx
  repeat' (first | (with_reducible first | refine p_tn ?_ | refine wp_seq ?_ | refine w_reg ?_ | refine wp_ret ?_) | (first | (with_reducible refine l_nil ?_) | (with_reducible (refine is_l ?_; (first | (refine l_off rfl ?_) | (refine l_p tys rfl rfl ?_) | (refine l_t tys rfl rfl (fun _ => ?_) (fun _ => ?_)))))) | ((with_reducible refine is_l ?_); refine l_callp rfl rfl (by kernel_rfl) (isLetter_c c w) ?_; cases hl : letB c) | ((with_reducible refine is_l ?_); refine l_callp rfl rfl (by kernel_rfl) (isDigit_c c w) ?_; cases hd : digB c) | ((with_reducible refine is_l ?_); refine l_callp rfl rfl (by kernel_rfl) (Tryz.strings_IndexByte _ c w) ?_))
  all_goals (refine end1 rfl rfl ?_; exact ⟨by simp_all [tokB], rfl⟩)
theorem at_range (s : ByteArray) (i : Int) : 0 ≤ at_ (bl s) i ∧ at_ (bl s) i ≤ 255 := by
  unfold at_ bl
  rw [List.getD_eq_getElem?_getD, List.getElem?_map]
  cases s.data.toList[i.toNat]? with
  | none => simp
  | some b => have := b.toNat_lt; simp; omega
theorem drop_at (l : L) (i : Int) (h0 : 0 ≤ i) (h1 : i < l.length) : l.drop i.toNat = at_ l i :: l.drop (i + 1).toNat := by
  have h2 : i.toNat < l.length := by omega
  rw [List.drop_eq_getElem_cons h2, show (i + 1).toNat = i.toNat + 1 by omega]
  congr 1
  unfold at_
  rw [List.getD_eq_getElem?_getD, List.getElem?_eq_getElem h2]; rfl
set_option maxHeartbeats 1000000 in
theorem all_c (s : ByteArray) (g : FuncId) (p : Int → Bool) (hk : Kind g p) (w : World) (hs : (s.size : Int) ≤ 9223372036854775806) : Calls Tryz.prog 99 #[.string s, .func (.func g) #[] #[]] w fun e w' => e = .returned (.bool ((bl s).all p)) ∧ w' = w := by
  refine enter (args := [.string s, .func (.func g) #[] #[]]) Tryz.func99 rfl Tryz.ntmps99 rfl ?_
  repeat' (first | (with_reducible first | refine p_tn ?_ | refine wp_seq ?_ | refine wp_block ?_ | refine w_reg ?_ | refine l_nil ?_) | (with_reducible (refine is_l ?_; (refine l_p tys rfl rfl ?_))))
  refine w_loop (σ := Int) (S := fun i => [(0, .string s), (1, .func (.func g) #[] #[]), (7, .int .i64 s.size), (8, .int .i64 i)]) (J := fun i w' => w' = w ∧ 0 ≤ i ∧ i ≤ s.size ∧ (bl s).all p = ((bl s).drop i.toNat).all p) (μ := fun i => ((s.size : Int) - i).toNat) 0 ⟨rfl, rfl, rfl, rfl, trivial⟩ ⟨rfl, by omega, by omega, rfl⟩ ?_
  rintro i f w' ⟨rfl, h0, h1, h2⟩
  have hl := bl_length s
  repeat' (first | (with_reducible first | refine p_tn ?_ | refine p_tx ?_ | refine x_hit ?_ | refine wp_seq ?_ | refine wp_block ?_ | refine w_reg ?_) | (with_reducible (refine is_if ?_; (first | (refine w_ift rfl ?_) | (refine w_iff rfl ?_)))) | (with_reducible first | refine wp_skip ?_ | refine wp_exit ?_ | refine wp_ret ?_ | refine l_nil ?_) | (with_reducible (refine is_l ?_; (first | (refine l_p tys rfl rfl ?_) | (refine l_t tys rfl rfl (fun _ => ?_) (fun _ => ?_)) | (refine l_ix tys rfl rfl (by first | omega | assumption | decide) (by first | omega | assumption | decide) ?_)))))
  · have hr := at_range s i
    have hd := drop_at (bl s) i h0 (by omega)
    ((with_reducible refine is_l ?_); refine l_callp rfl rfl hk.1 (hk.2 _ w' hr.1 hr.2) ?_)
    cases hb : p (at_ (bl s) i) <;> repeat' (first | (with_reducible first | refine p_tn ?_ | refine p_tr ?_ | refine p_bn ?_ | refine p_br ?_ | refine wp_seq ?_ | refine w_reg ?_) | (with_reducible (refine is_if ?_; (first | (refine w_ift rfl ?_) | (refine w_iff rfl ?_)))) | (with_reducible first | refine wp_skip ?_ | refine wp_ret ?_ | refine l_nil ?_) | (with_reducible (refine is_l ?_; (first | (refine l_p tys rfl rfl ?_) | (refine l_a tys rfl rfl (by first | exact in_i64 (by omega) (by omega) | exact in_u8 (by omega) (by omega) | exact in_u64 (by omega) (by omega) | exact in_i32 (by omega) (by omega)) ?_)))))
    · refine end1 rfl rfl ?_
      exact ⟨by rw [h2, hd, List.all_cons, hb]; rfl, rfl⟩
    · refine ⟨i + 1, _, rfl, ⟨rfl, rfl, rfl, rfl, trivial⟩, ⟨rfl, by omega, by omega, ?_⟩, by omega⟩
      rw [h2, hd, List.all_cons, hb]; rfl
  · refine end1 rfl rfl ?_
    refine ⟨?_, rfl⟩
    rw [h2, List.drop_eq_nil_of_le (by omega)]; rfl
end Go.Proofs.YthgojbdpmcccaaaGreatDoor.K
end
section
set_option linter.unusedVariables false
set_option linter.unusedSimpArgs false
namespace Go.Proofs.YthgojbdpmcccaaaGreatDoorW.PrintWords
open Go.RowKit
structure Aside0 (p : Prop) : Prop where mk :: (out : p)
structure Drawn0 (w w' : World) : Prop where mk :: (out : ∃ n, w' = w.drewN n)
theorem Drawn0.refl (w : World) : Drawn0 w w := ⟨⟨0, rfl⟩⟩
theorem Drawn0.step {w w' : World} (h : Drawn0 w w') (n : Nat) : Drawn0 w (w'.drewN n) := by
  obtain ⟨m, rfl⟩ := h
  exact ⟨⟨m + n, World.drewN_drewN ..⟩⟩
theorem Drawn0.grown {w w' : World} (h : Drawn0 w w') : Grown w w' := by
  obtain ⟨n, rfl⟩ := h
  induction n with
  | zero => exact Grown.refl _
  | succ n ih => rw [← World.drew_drewN]; exact Grown.drew ih
theorem Drawn0.below {w w' : World} (h : Drawn0 w w') : Below w.heap.size w w' := by
  obtain ⟨n, rfl⟩ := h
  induction n with
  | zero => exact Below.refl _ _
  | succ n ih => rw [← World.drew_drewN]; exact ih.drew
def rd (xs : List Int) (i : Int) : Int := xs.getD i.toNat 0
def bt (s : ByteArray) (i : Int) : Int := if h : i.toNat < s.size then ((s[i.toNat]'h).toNat : Int) else 0
def nums (k : IntKind) (xs : List Int) : List Value := xs.map fun x => .int k x
theorem nums_append (k : IntKind) (xs ys : List Int) : nums k (xs ++ ys) = nums k xs ++ nums k ys := by simp [nums]
theorem below_alloc {w W : World} (h : Below w.heap.size w W) (o : Obj) : Below w.heap.size w (W.alloc o) := h.alloc h.size o
theorem below_drew {B : Nat} {w W : World} (h : Below B w W) : Below B w W.drew := ⟨h.os, h.tape, h.output, h.size, h.block⟩
theorem pw_below_drewN {B : Nat} {w W : World} (h : Below B w W) (n : Nat) : Below B w (W.drewN n) := ⟨h.os, h.tape, h.output, h.size, h.block⟩
theorem below_then {B : Nat} {w w1 w2 : World} (h : Below B w w1) (hB : B ≤ w1.heap.size) (k : Below w1.heap.size w1 w2) : Below B w w2 :=
  h.trans ⟨k.os, k.tape, k.output, k.size, fun i hi => k.block i (Nat.lt_of_lt_of_le hi hB)⟩
theorem grown_of_below {w w1 : World} (h : Below w.heap.size w w1) (row : Option Nat) : w.grownBy w1 row := ⟨h.os, h.tape, h.output, h.size, fun i hi _ => h.block i hi⟩
theorem pw_cell_below {w w1 : World} (h : Below w.heap.size w w1) {a : Addr} {v : Value} (hc : w.cell? a = some v) : w1.cell? a = some v := (h.cell (World.block_lt_of_cell? w a hc)).trans hc
theorem add_plain (g j : Nat) : (⟨g, 0, none⟩ : Addr).add j = ⟨g, j, none⟩ := by unfold Addr.add; split <;> simp_all
def ReadsInt (w : World) (k : IntKind) (A : Option Addr) (n : Nat) (xs : List Int) : Prop :=
  xs.length = n ∧ n ≤ 9223372036854775807 ∧ (0 < n → ∃ ad, A = some ad ∧ ∀ j, j < n → w.cell? (ad.add j) = some (.int k (xs.getD j 0)))
theorem ReadsInt.at_ {w : World} {k : IntKind} {A : Option Addr} {n : Nat} {xs : List Int} (h : ReadsInt w k A n xs) (i : Int) (h0 : 0 ≤ i) (h1 : i < n) : ∃ ad, A = some ad ∧ w.cell? (ad.add i.toNat) = some (.int k (rd xs i)) := by
  obtain ⟨ad, e, hc⟩ := h.2.2 (by omega)
  exact ⟨ad, e, hc _ (by omega)⟩
theorem ReadsInt.below {w w1 : World} {k : IntKind} {A : Option Addr} {n : Nat} {xs : List Int} (h : ReadsInt w k A n xs) (hb : Below w.heap.size w w1) : ReadsInt w1 k A n xs :=
  ⟨h.1, h.2.1, fun hn => by
    obtain ⟨ad, e, hc⟩ := h.2.2 hn
    exact ⟨ad, e, fun j hj => pw_cell_below hb (hc j hj)⟩⟩
theorem own_nil (W : World) (base : Nat) (e : TypeId) (size : Nat) : W.ownsRow base e size (.slice none 0 0) 0 [] := ⟨by simp, .inl ⟨rfl, rfl⟩⟩
theorem own_base {w : World} {base : Nat} {e : TypeId} {size n : Nat} {v : Value} {xs : List Value} (h : w.ownsRow base e size v n xs) (k : Nat) (hk : v.ownBlock = some k) : base ≤ k := by
  rcases h.2 with ⟨rfl, _⟩ | ⟨g, cap, cur, rfl, hb, _⟩
  · simp [Value.ownBlock] at hk
  · have : g = k := by simpa [Value.ownBlock] using hk
    omega
theorem own_lt {w : World} {base : Nat} {e : TypeId} {size n : Nat} {v : Value} {xs : List Value} (h : w.ownsRow base e size v n xs) (k : Nat) (hk : v.ownBlock = some k) : k < w.heap.size := by
  rcases h.2 with ⟨rfl, _⟩ | ⟨g, cap, cur, rfl, hb, hh, _⟩
  · simp [Value.ownBlock] at hk
  · have : g = k := by simpa [Value.ownBlock] using hk
    subst this
    exact (Array.getElem?_eq_some_iff.1 hh).1
theorem pw_own_below {w w1 : World} {base : Nat} {e : TypeId} {size n : Nat} {v : Value} {xs : List Value} (h : w.ownsRow base e size v n xs) (hb : Below w.heap.size w w1) : w1.ownsRow base e size v n xs :=
  h.kept (grown_of_below hb none) (by cases v.ownBlock <;> simp)
theorem own_other {w w1 : World} {base : Nat} {e : TypeId} {size n : Nat} {v : Value} {xs : List Value} (h : w.ownsRow base e size v n xs) {row : Option Nat} (hg : w.grownBy w1 row) (hne : v.ownBlock = none ∨ v.ownBlock ≠ row) : w1.ownsRow base e size v n xs := h.kept hg hne
theorem own_reads {w : World} {base n : Nat} {e : TypeId} {k : IntKind} {v : Value} {xs : List Int} (h : w.ownsRow base e 1 v n (nums k xs)) : ∃ A c, v = .slice A n c ∧ ReadsInt w k A n xs := by
  have hl : xs.length = n := by have := h.1; simp [nums] at this; exact this
  rcases Nat.eq_zero_or_pos n with h0 | h0
  · rcases h.2 with ⟨rfl, rfl⟩ | ⟨g, cap, cur, rfl, _⟩
    · exact ⟨none, 0, rfl, hl, by omega, fun hp => absurd hp (by omega)⟩
    · exact ⟨_, cap, rfl, hl, by omega, fun hp => absurd hp (by omega)⟩
  · obtain ⟨g, cap, rfl, _, _⟩ := h.form h0
    have hm : n ≤ 9223372036854775807 := by
      rcases h.2 with ⟨_, h1⟩ | ⟨g', cap', cur, he, _, _, h1, h2, _⟩
      · omega
      · simp only [maxLen] at h2
        omega
    refine ⟨_, cap, rfl, hl, hm, fun _ => ⟨_, rfl, fun j hj => h.cells (g := g) rfl j _ ?_⟩⟩
    simp [nums, List.getElem?_eq_getElem (show j < xs.length by omega), List.getD_eq_getElem?_getD]
theorem own_slice {w : World} {base n : Nat} {e : TypeId} {size : Nat} {v : Value} {xs : List Value} (h : w.ownsRow base e size v n xs) : ∃ A c, v = .slice A n c := by
  rcases h.2 with ⟨rfl, rfl⟩ | ⟨g, cap, cur, rfl, _⟩
  · exact ⟨none, 0, rfl⟩
  · exact ⟨_, cap, rfl⟩
section
variable {P : Program} {ops : Array Oper} {rest : List Oper} {o : Oper} {a : Act} {Q : Exit → Act → World → Prop}
end
section
variable {P : Program}
end
theorem own_lit (W : World) (base : Nat) (e : TypeId) (k : IntKind) (xs : List Int) (hb : base ≤ W.heap.size) (hm : xs.length ≤ 9223372036854775807) :
    (W.alloc (.cells (nums k xs).toArray e)).ownsRow base e 1 (.slice (some ⟨W.heap.size, 0, none⟩) xs.length xs.length) xs.length (nums k xs) := by
  have h := World.ownsRow_lit (base := base) (e := e) (size := 1) W (nums k xs).toArray xs.length hb (by simpa [maxLen] using hm) (by simp [nums])
  simpa using h
section
variable {P : Program} {ops : Array Oper} {rest : List Oper} {o : Oper} {a : Act} {Q : Exit → Act → World → Prop}
theorem print_append_row {w0 W : World} (base : Nat) (hgd : o.guard = none) (s x : Operand) (t e : TypeId) (k : IntKind) (bytes : Nat)
    (ho : o.op = .call { callee := .builtin .append, args := #[s, x], argTypes := #[t, t] })
    (ht : P.underlying t = some (.slice e)) (hinfo : (P.info? e).map (fun i => (i.zero, i.size, i.bytes)) = some (some (.int k 0), 1, bytes)) (hb0 : 0 < bytes)
    (v : Value) (xs ys : List Int) (A : Option Addr) (m c : Nat) (hs : a.eval s = v) (hx : a.eval x = .slice A m c)
    (HO : W.ownsRow base e 1 v xs.length (nums k xs)) (HR : ReadsInt W k A m ys) (HB : Below base w0 W) (hbase : base ≤ W.heap.size) (hl : (xs.length + m) * bytes ≤ 140737488355328)
    (h : ∀ v1 w1, w1.ownsRow base e 1 v1 (xs ++ ys).length (nums k (xs ++ ys)) → Below base w0 w1 → W.grownBy w1 v.ownBlock → (v1.ownBlock = v.ownBlock ∨ ∃ b, v1.ownBlock = some b ∧ W.heap.size ≤ b) → wpList P ops Q rest (a.put o.dst v1) w1) :
    wpList P ops Q (o :: rest) a W := by
  obtain ⟨i0, hi, hzz⟩ := Option.map_eq_some_iff.1 hinfo
  simp only [Prod.mk.injEq] at hzz
  obtain ⟨hz0, hz1, hz2⟩ := hzz
  have hm : ys.length = m := HR.1
  have hlen : xs.length + m ≤ 140737488355328 := Nat.le_trans (Nat.le_mul_of_pos_right _ hb0) hl
  have hrun : ∃ v1 w1, (Builtin.append_ #[t, t] o.type #[v, .slice A m c]).run P W = .ok v1 w1 ∧ w1.ownsRow base e 1 v1 (xs ++ ys).length (nums k (xs ++ ys)) ∧ W.grownBy w1 v.ownBlock ∧ (v1.ownBlock = v.ownBlock ∨ v1.ownBlock = some W.heap.size) := by
    rcases A with _ | ad
    · have h0 : m = 0 := by
        rcases Nat.eq_zero_or_pos m with h0 | h0
        · exact h0
        · obtain ⟨ad, h, _⟩ := HR.2.2 h0
          cases h
      subst h0
      obtain rfl : ys = [] := List.eq_nil_of_length_eq_zero hm
      refine ⟨v, W, ?_, by simpa using HO, World.grownBy.refl W _, .inl rfl⟩
      rcases HO.2 with ⟨rfl, hn⟩ | ⟨g, cap, cur, rfl, _, _, hnc, _⟩
      · simp [Builtin.append_, run_underlying ht, sizeOf, typeInfo, hi, Builtin.lenOf, Builtin.firstCells]
      · simp [Builtin.append_, run_underlying ht, sizeOf, typeInfo, hi, Builtin.lenOf, Builtin.firstCells, hnc, storeCells]
    · have hcells : ∀ j u, (nums k ys)[j]? = some u → W.cell? (ad.add j) = some u := by
        intro j u hu
        have hj : j < ys.length := by
          rcases Nat.lt_or_ge j ys.length with h | h
          · exact h
          · simp [nums, List.getElem?_eq_none h] at hu
        obtain ⟨ad', h', hc⟩ := HR.2.2 (by omega)
        injection h' with h'
        subst h'
        have := hc j (by omega)
        simp [nums, List.getElem?_eq_getElem hj] at hu
        subst hu
        rw [this]
        simp [List.getD_eq_getElem?_getD, List.getElem?_eq_getElem hj]
      obtain ⟨v1, w1, hr, h2, h3, _, h5⟩ := run_append_own_at (P := P) W base t o.type e i0 (.int k 0) 1 bytes ht hi hz0 hz1 hz2 rfl (by omega) v xs.length (nums k xs) HO ad m c (nums k ys) (by simp [nums, hm]) hcells
        (by intro u hu; simp only [nums, List.mem_map] at hu; obtain ⟨q, _, rfl⟩ := hu; rfl) (by simp only [maxLen]; omega) hl hbase
      exact ⟨v1, w1, hr, by simpa [nums, hm] using h2, h3, h5⟩
  obtain ⟨v1, w1, hr, hown, hg, hat⟩ := hrun
  refine wpList_plain hgd fun K hK => ?_
  unfold Oper.wp execOp
  simp only [ho, resolve, invoke, builtin, Sem.run_bind, Sem.run_pure, Result.andThen_ok, List.map_toArray, List.map_cons, List.map_nil, hs, hx, hr]
  refine hK _ _ (h v1 w1 hown (HB.grown hg hbase (own_base HO)) hg ?_)
  rcases hat with hat | hat
  · exact .inl hat
  · exact .inr ⟨_, hat, Nat.le_refl _⟩
end
def bytesOf (s : ByteArray) : List Int := s.data.toList.map fun b => (b.toNat : Int)
theorem data_length (s : ByteArray) : s.data.toList.length = s.size := by rw [Array.length_toList]; rfl
theorem bytesOf_length (s : ByteArray) : (bytesOf s).length = s.size := by rw [bytesOf, List.length_map, data_length]
theorem rd_bytesOf (s : ByteArray) (i : Int) : rd (bytesOf s) i = bt s i := by
  unfold rd bt bytesOf
  split
  · rename_i h
    have h' : i.toNat < s.data.toList.length := by rw [data_length]; exact h
    simp [List.getD_eq_getElem?_getD, List.getElem?_eq_getElem h']
    rfl
  · rename_i h
    have h' : s.data.toList.length ≤ i.toNat := by rw [data_length]; omega
    simp [List.getD_eq_getElem?_getD, List.getElem?_eq_none h']
theorem print_bytes {P : Program} (src dst e : TypeId) {u : TypeDesc} (hs : P.underlying src = some u) (hd : P.underlying dst = some (.slice e)) (he : P.underlying e = some (.int .u8)) (s : ByteArray) (W : World) :
    (convert src dst (.string s)).run P W = .ok (.slice (some ⟨W.heap.size, 0, none⟩) s.size (grownCap W s.size 0 e)) (Lib.bytesWorld W e s) := Lib.run_convert_string_bytes W src dst e s hs hd he
theorem bytes_below {B : Nat} {w W : World} (h : Below B w W) (hB : B ≤ W.heap.size) (e : TypeId) (s : ByteArray) : Below B w (Lib.bytesWorld W e s) :=
  h.trans ⟨rfl, rfl, rfl, by rw [Lib.bytesWorld_size]; omega, fun i hi => Lib.bytesWorld_at_old W e s i (by omega)⟩
theorem ReadsInt.take_ {w : World} {k : IntKind} {A : Option Addr} {n : Nat} {xs : List Int} (h : ReadsInt w k A n xs) (i : Nat) (hi : i ≤ n) : ReadsInt w k A i (xs.take i) := by
  refine ⟨by rw [List.length_take, h.1]; omega, by have := h.2.1; omega, fun hp => ?_⟩
  obtain ⟨ad, e, hc⟩ := h.2.2 (by omega)
  refine ⟨ad, e, fun j hj => ?_⟩
  rw [hc j (by omega)]
  simp [List.getD_eq_getElem?_getD, hj]
theorem ReadsInt.drop_ {w : World} {k : IntKind} {A : Option Addr} {n c : Nat} {xs : List Int} (h : ReadsInt w k A n xs) (i : Nat) (hi : i ≤ n) (hc : n ≤ c) : ReadsInt w k (if c = i then A else A.map (·.add i)) (n - i) (xs.drop i) := by
  refine ⟨by rw [List.length_drop, h.1], by have := h.2.1; omega, fun hp => ?_⟩
  obtain ⟨ad, rfl, hcell⟩ := h.2.2 (by omega)
  rw [if_neg (by omega)]
  refine ⟨ad.add i, rfl, fun j hj => ?_⟩
  have ha : (ad.add i).add j = ad.add (i + j) := by
    unfold Addr.add
    by_cases h1 : i = 0 <;> by_cases h2 : j = 0 <;> simp [h1, h2, Nat.add_assoc]
  rw [ha, hcell (i + j) (by omega)]
  simp [List.getD_eq_getElem?_getD, List.getElem?_drop]
def LeO {α : Type} (a b : Option α) : Prop := ∀ r, a = some r → b = some r
theorem LeO.refl {α : Type} (a : Option α) : LeO a a := fun _ h => h
theorem LeO.none {α : Type} (b : Option α) : LeO Option.none b := fun _ h => by cases h
theorem LeO.trans {α : Type} {a b c : Option α} (h : LeO a b) (k : LeO b c) : LeO a c := fun r hr => k r (h r hr)
theorem LeO.bind {α β : Type} {a a' : Option α} {f f' : α → Option β} (h : LeO a a') (k : ∀ x, LeO (f x) (f' x)) : LeO (a.bind f) (a'.bind f') := by
  intro r hr
  obtain ⟨x, hx, hf⟩ := Option.bind_eq_some_iff.1 hr
  exact Option.bind_eq_some_iff.2 ⟨x, h x hx, k x r hf⟩
theorem LeO.map {α β : Type} {a a' : Option α} (f : α → β) (h : LeO a a') : LeO (a.map f) (a'.map f) := by
  intro r hr
  obtain ⟨x, hx, hf⟩ := Option.map_eq_some_iff.1 hr
  exact Option.map_eq_some_iff.2 ⟨x, h x hx, hf⟩
theorem more_rounds {α : Type} {g : Nat → Option α} (h : ∀ k, LeO (g k) (g (k + 1))) (k : Nat) : ∀ j, LeO (g k) (g (k + j))
  | 0 => LeO.refl _
  | j + 1 => (more_rounds h k j).trans (h (k + j))
theorem at_rounds {α : Type} {g : Nat → Option α} (h : ∀ k, LeO (g k) (g (k + 1))) {k k' : Nat} (hk : k ≤ k') {r : α} (hr : g k = some r) : g k' = some r := by
  have := more_rounds h k (k' - k) r hr
  rwa [Nat.add_sub_cancel' hk] at this
def Reps {α : Type} (R : α → List Value → Prop) (size : Nat) (ps : List α) (cs : List Value) : Prop :=
  cs.length = ps.length * size ∧ ∀ j p, ps[j]? = some p → R p ((cs.drop (j * size)).take size)
theorem Reps.none {α : Type} (R : α → List Value → Prop) (size : Nat) : Reps R size [] [] := ⟨by simp, fun j p h => by simp at h⟩
theorem Reps.snoc {α : Type} {R : α → List Value → Prop} {size : Nat} {ps : List α} {cs c : List Value} {p : α} (h : Reps R size ps cs) (hp : R p c) (hc : c.length = size) : Reps R size (ps ++ [p]) (cs ++ c) := by
  refine ⟨by rw [List.length_append, h.1, hc, List.length_append, List.length_singleton, Nat.add_mul, Nat.one_mul], fun j q hq => ?_⟩
  rcases Nat.lt_or_ge j ps.length with hj | hj
  · rw [List.getElem?_append_left hj] at hq
    have h1 : j * size + size ≤ cs.length := by rw [h.1, ← Nat.succ_mul]; exact Nat.mul_le_mul_right _ hj
    have h2 := h.2 j q hq
    rw [List.drop_append_of_le_length (by omega), List.take_append_of_le_length (by rw [List.length_drop]; omega)]
    exact h2
  · have hj' : j = ps.length := by
      have := (List.getElem?_eq_some_iff.1 hq).1
      rw [List.length_append, List.length_singleton] at this
      omega
    subst hj'
    have hq' : p = q := by simpa using hq
    subst hq'
    rw [← h.1, List.drop_left, ← hc, List.take_length]
    exact hp
theorem Reps.imp_ {α : Type} {R R' : α → List Value → Prop} {size : Nat} {ps : List α} {cs : List Value} (h : Reps R size ps cs) (hR : ∀ p c, R p c → R' p c) : Reps R' size ps cs := ⟨h.1, fun j p hj => hR _ _ (h.2 j p hj)⟩
def ReadsRow {α : Type} (R : α → List Value → Prop) (size : Nat) (w : World) (A : Option Addr) (n : Nat) (ps : List α) : Prop :=
  ps.length = n ∧ n ≤ 9223372036854775807 ∧ (0 < n → ∃ ad, A = some ad ∧ ∀ j p, ps[j]? = some p → ∃ c, c.length = size ∧ R p c ∧ ∀ i u, c[i]? = some u → w.cell? (ad.add (j * size + i)) = some u)
theorem ReadsRow.imp_ {α : Type} {R R' : α → List Value → Prop} {size : Nat} {w w1 : World} {A : Option Addr} {n : Nat} {ps : List α} (h : ReadsRow R size w A n ps) (hb : Below w.heap.size w w1) (hR : ∀ p c, R p c → R' p c) : ReadsRow R' size w1 A n ps :=
  ⟨h.1, h.2.1, fun hn => by
    obtain ⟨ad, e, hc⟩ := h.2.2 hn
    refine ⟨ad, e, fun j p hj => ?_⟩
    obtain ⟨c, hs, hr, hcell⟩ := hc j p hj
    exact ⟨c, hs, hR _ _ hr, fun i u hu => pw_cell_below hb (hcell i u hu)⟩⟩
theorem own_reads_row {α : Type} {R : α → List Value → Prop} {w : World} {base n size : Nat} {e : TypeId} {v : Value} {ps : List α} {cs : List Value} (h : w.ownsRow base e size v n cs) (hR : Reps R size ps cs) (hn : ps.length = n) :
    ∃ A c, v = .slice A n c ∧ ReadsRow R size w A n ps := by
  rcases Nat.eq_zero_or_pos n with h0 | h0
  · rcases h.2 with ⟨rfl, rfl⟩ | ⟨g, cap, cur, rfl, _⟩
    · exact ⟨none, 0, rfl, hn, by omega, fun hp => absurd hp (by omega)⟩
    · exact ⟨_, cap, rfl, hn, by omega, fun hp => absurd hp (by omega)⟩
  · obtain ⟨g, cap, rfl, _, _⟩ := h.form h0
    have hm : n ≤ 9223372036854775807 := by
      rcases h.2 with ⟨_, h1⟩ | ⟨g', cap', cur, he, _, _, h1, h2, _⟩
      · omega
      · simp only [maxLen] at h2
        omega
    refine ⟨_, cap, rfl, hn, hm, fun _ => ⟨_, rfl, fun j p hj => ⟨(cs.drop (j * size)).take size, ?_, hR.2 j p hj, fun i u hu => ?_⟩⟩⟩
    · have hjl := (List.getElem?_eq_some_iff.1 hj).1
      have h1 : j * size + size ≤ cs.length := by rw [hR.1, ← Nat.succ_mul]; exact Nat.mul_le_mul_right _ hjl
      rw [List.length_take, List.length_drop]
      omega
    · refine h.cells (g := g) rfl _ u ?_
      rw [List.getElem?_take] at hu
      split at hu
      · rw [List.getElem?_drop] at hu
        exact hu
      · cases hu
section
variable {P : Program} {ops : Array Oper} {rest : List Oper} {o : Oper} {a : Act} {Q : Exit → Act → World → Prop}
theorem print_append_cells {w0 W : World} (base : Nat) (hgd : o.guard = none) (s x : Operand) (t e : TypeId) (z : Value) (size bytes : Nat)
    (ho : o.op = .call { callee := .builtin .append, args := #[s, x], argTypes := #[t, t] })
    (ht : P.underlying t = some (.slice e)) (hinfo : (P.info? e).map (fun i => (i.zero, i.size, i.bytes)) = some (some z, size, bytes)) (hz : z.cells.size = size) (hs0 : 0 < size) (hb0 : 0 < bytes)
    (v : Value) (n : Nat) (xs ys : List Value) (hs : a.eval s = v) (hx : a.eval x = .slice (some ⟨W.heap.size, 0, none⟩) 1 1) (hys : ys.length = size) (h1 : ∀ u ∈ ys, u.oneCell' = true)
    (HO : W.ownsRow base e size v n xs) (HB : Below base w0 W) (hbase : base ≤ W.heap.size) (hl : (n + 1) * bytes ≤ 140737488355328)
    (h : ∀ v1 w1, w1.ownsRow base e size v1 (n + 1) (xs ++ ys) → Below base w0 w1 → W.grownBy w1 v.ownBlock → (v1.ownBlock = v.ownBlock ∨ ∃ b, v1.ownBlock = some b ∧ W.heap.size ≤ b) → wpList P ops Q rest (a.put o.dst v1) w1) :
    wpList P ops Q (o :: rest) a (W.alloc (.cells ys.toArray e)) := by
  obtain ⟨i0, hi, hzz⟩ := Option.map_eq_some_iff.1 hinfo
  simp only [Prod.mk.injEq] at hzz
  obtain ⟨hz0, hz1, hz2⟩ := hzz
  have hlen : n + 1 ≤ 140737488355328 := Nat.le_trans (Nat.le_mul_of_pos_right _ hb0) hl
  refine wpList_append_own_at (W.alloc (.cells ys.toArray e)) hgd s x t ho base e i0 z size bytes ht hi hz0 hz1 hz2 hz hs0 v n xs hs (HO.alloc _) ⟨W.heap.size, 0, none⟩ 1 1 ys hx (by rw [hys]; simp)
    (by simpa using World.news_of_block (cs := ys.toArray) (t := e) (fr := (0, 0)) (heap_alloc_new W (.cells ys.toArray e))) h1 (by simp only [maxLen]; omega) hl (by simp; omega) ?_
  intro v1 w1 hown hg _ hat
  refine h v1 w1 hown ((HB.alloc hbase _).grown hg (by simp; omega) (own_base HO)) (World.grownBy.trans (World.grownBy_alloc W _ _) hg) ?_
  rcases hat with hat | hat
  · exact .inl hat
  · exact .inr ⟨_, hat, by simp⟩
end
theorem blk_set {w : World} {g : Nat} {t : TypeId} {cs : Array Value} (h : w.heap[g]? = some (.cells cs t (0, 0))) (i : Nat) (u : Value) : (w.setCell ⟨g, i, none⟩ u).heap[g]? = some (.cells (cs.setIfInBounds i u) t (0, 0)) := by
  simp [World.setCell, Array.getElem?_modify, h]
theorem blk_lt {w : World} {g : Nat} {o : Obj} (h : w.heap[g]? = some o) : g < w.heap.size := (Array.getElem?_eq_some_iff.1 h).1
theorem blk_cell {w : World} {g : Nat} {t : TypeId} {cs : Array Value} (h : w.heap[g]? = some (.cells cs t (0, 0))) (i : Nat) : w.cell? ⟨g, i, none⟩ = cs[i]? := cell_of_row w g i cs t (0, 0) h
theorem blk_frozen {w : World} {g : Nat} {t : TypeId} {cs : Array Value} (h : w.heap[g]? = some (.cells cs t (0, 0))) (i : Nat) : w.frozen? ⟨g, i, none⟩ = false := by simp [World.frozen?, h]
theorem blk_grown {w w1 : World} {g : Nat} {o : Obj} {row : Option Nat} (h : w.heap[g]? = some o) (hg : w.grownBy w1 row) (hne : some g ≠ row) : w1.heap[g]? = some o := (hg.block g (blk_lt h) hne).trans h
def KeepBut (w w' : World) (g : Nat) (row : Option Nat) : Prop := w.heap.size ≤ w'.heap.size ∧ ∀ i, i < w.heap.size → i ≠ g → some i ≠ row → w'.heap[i]? = w.heap[i]?
theorem KeepBut.refl (w : World) (g : Nat) (row : Option Nat) : KeepBut w w g row := ⟨Nat.le_refl _, fun _ _ _ _ => rfl⟩
theorem KeepBut.of_below {w w1 : World} (h : Below w.heap.size w w1) (g : Nat) (row : Option Nat) : KeepBut w w1 g row := ⟨h.size, fun i hi _ _ => h.block i hi⟩
theorem KeepBut.trans {w w1 w2 : World} {g : Nat} {row row1 : Option Nat} (h : KeepBut w w1 g row) (k : KeepBut w1 w2 g row1) (hr : row1 = row ∨ ∃ b, row1 = some b ∧ w.heap.size ≤ b) : KeepBut w w2 g row :=
  ⟨Nat.le_trans h.1 k.1, fun i hi hg hn => by
    refine (k.2 i (Nat.lt_of_lt_of_le hi h.1) hg ?_).trans (h.2 i hi hg hn)
    rcases hr with rfl | ⟨b, rfl, hb⟩
    · exact hn
    · intro e
      injection e with e
      omega⟩
theorem KeepBut.blk {w w1 : World} {g g' : Nat} {row : Option Nat} {o : Obj} (h : KeepBut w w1 g row) (hb : w.heap[g']? = some o) (hg : g' ≠ g) (hr : some g' ≠ row) : w1.heap[g']? = some o := (h.2 g' (blk_lt hb) hg hr).trans hb
theorem KeepBut.own {w w1 : World} {g : Nat} {row : Option Nat} {base : Nat} {e : TypeId} {size n : Nat} {v : Value} {xs : List Value} (h : KeepBut w w1 g row) (ho : w.ownsRow base e size v n xs) (hg : v.ownBlock ≠ some g) (hr : v.ownBlock = none ∨ v.ownBlock ≠ row) : w1.ownsRow base e size v n xs := by
  obtain ⟨h1, h2⟩ := ho
  refine ⟨h1, ?_⟩
  rcases h2 with h2 | ⟨b, cap, cur, rfl, hb, hh, r⟩
  · exact .inl h2
  · refine .inr ⟨b, cap, cur, rfl, hb, h.blk hh ?_ ?_, r⟩
    · intro e
      exact hg (by rw [← e]; rfl)
    · rcases hr with hr | hr
      · simp [Value.ownBlock] at hr
      · exact hr
def Ev {α : Type} (g : Nat → Option α) (r : α) : Prop := ∃ K, ∀ k, K ≤ k → g k = some r
theorem Ev.of {α : Type} {g : Nat → Option α} {r : α} (hg : ∀ k, LeO (g k) (g (k + 1))) {k : Nat} (h : g k = some r) : Ev g r := ⟨k, fun _ hk => at_rounds hg hk h⟩
theorem Ev.now {α : Type} (r : α) : Ev (fun _ => some r) r := ⟨0, fun _ _ => rfl⟩
theorem Ev.bind {α β : Type} {g : Nat → Option α} {f : Nat → α → Option β} {a : α} {r : β} (h : Ev g a) (k : Ev (fun n => f n a) r) : Ev (fun n => (g n).bind (f n)) r := by
  obtain ⟨K, h⟩ := h
  obtain ⟨K', k⟩ := k
  refine ⟨max K K', fun n hn => ?_⟩
  have h1 := h n (by omega)
  have h2 := k n (by omega)
  simp only [h1, Option.bind_some]
  exact h2
theorem Ev.step {α : Type} {g f : Nat → Option α} {r : α} (h : ∀ k, g (k + 1) = f k) (k : Ev f r) : Ev g r := by
  obtain ⟨K, k⟩ := k
  refine ⟨K + 1, fun n hn => ?_⟩
  obtain ⟨m, rfl⟩ : ∃ m, n = m + 1 := ⟨n - 1, by omega⟩
  rw [h]
  exact k m (by omega)
theorem Ev.congr {α : Type} {g f : Nat → Option α} {r : α} (h : ∀ k, g k = f k) (k : Ev f r) : Ev g r := by
  obtain ⟨K, k⟩ := k
  exact ⟨K, fun n hn => (h n).trans (k n hn)⟩
section
variable {P : Program} {ops : Array Oper} {o : Oper} {a : Act} {Q : Exit → Act → World → Prop} {K : Act → World → Prop}
end
theorem own_weaken {w : World} {base base' : Nat} {e : TypeId} {size n : Nat} {v : Value} {xs : List Value} (h : w.ownsRow base e size v n xs) (hb : base' ≤ base) : w.ownsRow base' e size v n xs := by
  obtain ⟨h1, h2⟩ := h
  refine ⟨h1, ?_⟩
  rcases h2 with h2 | ⟨g, cap, cur, rfl, hg, r⟩
  · exact .inl h2
  · exact .inr ⟨g, cap, cur, rfl, Nat.le_trans hb hg, r⟩
section
variable {α : Type} {enc : α → Value} {d : α}
def encs (enc : α → Value) (xs : List α) : List Value := xs.map enc
def rdOf (d : α) (xs : List α) (i : Int) : α := xs.getD i.toNat d
theorem encs_get (xs : List α) (j : Nat) (h : j < xs.length) : (encs enc xs)[j]? = some (enc (xs.getD j d)) := by
  simp [encs, List.getElem?_eq_getElem h, List.getD_eq_getElem?_getD]
def ReadsOf (enc : α → Value) (d : α) (w : World) (A : Option Addr) (n : Nat) (xs : List α) : Prop :=
  xs.length = n ∧ n ≤ 9223372036854775807 ∧ (0 < n → ∃ ad, A = some ad ∧ ∀ j, j < n → w.cell? (ad.add j) = some (enc (xs.getD j d)))
theorem ReadsOf.at_ {w : World} {A : Option Addr} {n : Nat} {xs : List α} (h : ReadsOf enc d w A n xs) (i : Int) (h0 : 0 ≤ i) (h1 : i < n) : ∃ ad, A = some ad ∧ w.cell? (ad.add i.toNat) = some (enc (rdOf d xs i)) := by
  obtain ⟨ad, e, hc⟩ := h.2.2 (by omega)
  exact ⟨ad, e, hc _ (by omega)⟩
theorem ReadsOf.below {w w1 : World} {A : Option Addr} {n : Nat} {xs : List α} (h : ReadsOf enc d w A n xs) (hb : Below w.heap.size w w1) : ReadsOf enc d w1 A n xs :=
  ⟨h.1, h.2.1, fun hn => by
    obtain ⟨ad, e, hc⟩ := h.2.2 hn
    exact ⟨ad, e, fun j hj => pw_cell_below hb (hc j hj)⟩⟩
theorem ReadsOf.take_ {w : World} {A : Option Addr} {n : Nat} {xs : List α} (h : ReadsOf enc d w A n xs) (i : Nat) (hi : i ≤ n) : ReadsOf enc d w A i (xs.take i) := by
  refine ⟨by rw [List.length_take, h.1]; omega, by have := h.2.1; omega, fun hp => ?_⟩
  obtain ⟨ad, e, hc⟩ := h.2.2 (by omega)
  refine ⟨ad, e, fun j hj => ?_⟩
  rw [hc j (by omega)]
  simp [List.getD_eq_getElem?_getD, hj]
theorem ReadsOf.drop_ {w : World} {A : Option Addr} {n c : Nat} {xs : List α} (h : ReadsOf enc d w A n xs) (i : Nat) (hi : i ≤ n) (hc : n ≤ c) : ReadsOf enc d w (if c = i then A else A.map (·.add i)) (n - i) (xs.drop i) := by
  refine ⟨by rw [List.length_drop, h.1], by have := h.2.1; omega, fun hp => ?_⟩
  obtain ⟨ad, rfl, hcell⟩ := h.2.2 (by omega)
  rw [if_neg (by omega)]
  refine ⟨ad.add i, rfl, fun j hj => ?_⟩
  have ha : (ad.add i).add j = ad.add (i + j) := by
    unfold Addr.add
    by_cases h1 : i = 0 <;> by_cases h2 : j = 0 <;> simp [h1, h2, Nat.add_assoc]
  rw [ha, hcell (i + j) (by omega)]
  simp [List.getD_eq_getElem?_getD, List.getElem?_drop]
theorem own_reads_of {w : World} {base n : Nat} {e : TypeId} {v : Value} {xs : List α} (h : w.ownsRow base e 1 v n (encs enc xs)) : ∃ A c, v = .slice A n c ∧ ReadsOf enc d w A n xs := by
  have hl : xs.length = n := by have := h.1; simp [encs] at this; exact this
  rcases Nat.eq_zero_or_pos n with h0 | h0
  · rcases h.2 with ⟨rfl, rfl⟩ | ⟨g, cap, cur, rfl, _⟩
    · exact ⟨none, 0, rfl, hl, by omega, fun hp => absurd hp (by omega)⟩
    · exact ⟨_, cap, rfl, hl, by omega, fun hp => absurd hp (by omega)⟩
  · obtain ⟨g, cap, rfl, _, _⟩ := h.form h0
    have hm : n ≤ 9223372036854775807 := by
      rcases h.2 with ⟨_, h1⟩ | ⟨g', cap', cur, he, _, _, h1, h2, _⟩
      · omega
      · simp only [maxLen] at h2
        omega
    exact ⟨_, cap, rfl, hl, hm, fun _ => ⟨_, rfl, fun j hj => h.cells (g := g) rfl j _ (encs_get xs j (by omega))⟩⟩
end
section
variable {α : Type} {P : Program} {ops : Array Oper} {rest : List Oper} {o : Oper} {a : Act} {Q : Exit → Act → World → Prop}
end
theorem blk_below {w w1 : World} {g : Nat} {o : Obj} (h : w.heap[g]? = some o) (hb : Below w.heap.size w w1) : w1.heap[g]? = some o := (hb.block g (blk_lt h)).trans h
theorem blk_new (w : World) (o : Obj) : (w.alloc o).heap[w.heap.size]? = some o := heap_alloc_new w o
section
variable {P : Program}
theorem results_ct {fn : Func} {p u : Tmp} {ty : TypeId} (h : fn.results = #[.cell p ty, .tmp u]) (tmps : Array Value) (w : World) (g : Nat) (t : TypeId) (cs : Array Value) (fr : Nat × Nat) (d : TypeDesc)
    (hp : tmps.getD p undef = .pointer (some ⟨g, 0, none⟩)) (hg : w.heap[g]? = some (.cells cs t fr))
    (hu : P.underlying ty = some d) (hd : (match d with | .struct _ | .array _ _ => true | _ => false) = true) (hi : (P.info? ty).map (·.size) = some cs.size) :
    (results fn tmps).run P w = .ok (.tuple #[.agg cs, tmps.getD u undef]) w := by
  have hp' : tmps[p]?.getD undef = .pointer (some ⟨g, 0, none⟩) := by simpa using hp
  simp [results, h, hp', asAddr, run_loadVar_row w g t ty cs fr d hg hu hd hi]
theorem results_ctt {fn : Func} {p u v : Tmp} {ty : TypeId} (h : fn.results = #[.cell p ty, .tmp u, .tmp v]) (tmps : Array Value) (w : World) (g : Nat) (t : TypeId) (cs : Array Value) (fr : Nat × Nat) (d : TypeDesc)
    (hp : tmps.getD p undef = .pointer (some ⟨g, 0, none⟩)) (hg : w.heap[g]? = some (.cells cs t fr))
    (hu : P.underlying ty = some d) (hd : (match d with | .struct _ | .array _ _ => true | _ => false) = true) (hi : (P.info? ty).map (·.size) = some cs.size) :
    (results fn tmps).run P w = .ok (.tuple #[.agg cs, tmps.getD u undef, tmps.getD v undef]) w := by
  have hp' : tmps[p]?.getD undef = .pointer (some ⟨g, 0, none⟩) := by simpa using hp
  simp [results, h, hp', asAddr, run_loadVar_row w g t ty cs fr d hg hu hd hi]
end
theorem own_le {w : World} {base n m c size : Nat} {e : TypeId} {A : Option Addr} {xs : List Value} (h : w.ownsRow base e size (.slice A m c) n xs) : m ≤ c := by
  rcases h.2 with ⟨he, _⟩ | ⟨g, cap, cur, he, _, _, hnc, _⟩
  · injection he with _ h2 h3
    omega
  · injection he with _ h2 h3
    omega
theorem own_reads_of_le {α : Type} {enc : α → Value} {d : α} {w : World} {base n : Nat} {e : TypeId} {v : Value} {xs : List α} (h : w.ownsRow base e 1 v n (encs enc xs)) : ∃ A c, v = .slice A n c ∧ n ≤ c ∧ ReadsOf enc d w A n xs := by
  obtain ⟨A, c, rfl, hr⟩ := own_reads_of (d := d) h
  exact ⟨A, c, rfl, own_le h, hr⟩
def OwnRow {α : Type} (R : α → List Value → Prop) (e : TypeId) (size : Nat) (w : World) (base : Nat) (v : Value) (ps : List α) : Prop :=
  ∃ inner, w.ownsRow base e size v ps.length inner ∧ Reps R size ps inner
section
variable {α : Type} {R R' : α → List Value → Prop} {e : TypeId} {size : Nat} {w w1 : World} {base : Nat} {v : Value} {ps : List α}
theorem OwnRow.imp_ (h : OwnRow R e size w base v ps) (hR : ∀ p c, R p c → R' p c) : OwnRow R' e size w base v ps := by
  obtain ⟨inner, ho, hr⟩ := h
  exact ⟨inner, ho, hr.imp_ hR⟩
theorem OwnRow.below (h : OwnRow R e size w base v ps) (hb : Below w.heap.size w w1) : OwnRow R e size w1 base v ps := by
  obtain ⟨inner, ho, hr⟩ := h
  exact ⟨inner, pw_own_below ho hb, hr⟩
theorem OwnRow.other (h : OwnRow R e size w base v ps) {row : Option Nat} (hg : w.grownBy w1 row) (hne : v.ownBlock = none ∨ v.ownBlock ≠ row) : OwnRow R e size w1 base v ps := by
  obtain ⟨inner, ho, hr⟩ := h
  exact ⟨inner, own_other ho hg hne, hr⟩
theorem OwnRow.reads (h : OwnRow R e size w base v ps) : ∃ A c, v = .slice A ps.length c ∧ ps.length ≤ c ∧ ReadsRow R size w A ps.length ps := by
  obtain ⟨inner, ho, hr⟩ := h
  obtain ⟨A, c, rfl, hrow⟩ := own_reads_row ho hr rfl
  exact ⟨A, c, rfl, own_le ho, hrow⟩
theorem OwnRow.lit (W : World) (base : Nat) {inner : List Value} (hr : Reps R size ps inner) (hb : base ≤ W.heap.size) (hm : ps.length ≤ 9223372036854775807) :
    OwnRow R e size (W.alloc (.cells inner.toArray e)) base (.slice (some ⟨W.heap.size, 0, none⟩) ps.length ps.length) ps := by
  have h := World.ownsRow_lit (base := base) (e := e) (size := size) W inner.toArray ps.length hb (by simpa [maxLen] using hm) (by simpa using hr.1)
  exact ⟨inner, by simpa using h, hr⟩
end
section
variable {P : Program} {ops : Array Oper} {rest : List Oper} {o : Oper} {a : Act} {Q : Exit → Act → World → Prop} {α : Type} {R : α → List Value → Prop}
theorem OwnRow.append {w0 W : World} (base : Nat) (hgd : o.guard = none) (s x : Operand) (t e : TypeId) (z : Value) (size bytes : Nat)
    (ho : o.op = .call { callee := .builtin .append, args := #[s, x], argTypes := #[t, t] })
    (ht : P.underlying t = some (.slice e)) (hinfo : (P.info? e).map (fun i => (i.zero, i.size, i.bytes)) = some (some z, size, bytes)) (hz : z.cells.size = size) (hs0 : 0 < size) (hb0 : 0 < bytes)
    (v : Value) (ps : List α) (p : α) (cs : List Value) (hs : a.eval s = v) (hx : a.eval x = .slice (some ⟨W.heap.size, 0, none⟩) 1 1) (hp : R p cs) (hcs : cs.length = size) (h1 : ∀ u ∈ cs, u.oneCell' = true)
    (HO : OwnRow R e size W base v ps) (HB : Below base w0 W) (hbase : base ≤ W.heap.size) (hl : (ps.length + 1) * bytes ≤ 140737488355328)
    (h : ∀ v1 w1, OwnRow R e size w1 base v1 (ps ++ [p]) → Below base w0 w1 → W.grownBy w1 v.ownBlock → (v1.ownBlock = v.ownBlock ∨ ∃ b, v1.ownBlock = some b ∧ W.heap.size ≤ b) → wpList P ops Q rest (a.put o.dst v1) w1) :
    wpList P ops Q (o :: rest) a (W.alloc (.cells cs.toArray e)) := by
  obtain ⟨inner, hown, hr⟩ := HO
  refine print_append_cells base hgd s x t e z size bytes ho ht hinfo hz hs0 hb0 v ps.length inner cs hs hx hcs h1 hown HB hbase hl ?_
  intro v1 w1 hown1 hb1 hg1 hat1
  exact h v1 w1 ⟨inner ++ cs, by rw [List.length_append, List.length_singleton]; exact hown1, hr.snoc hp hcs⟩ hb1 hg1 hat1
end
section
variable {P : Program} {ops : Array Oper} {o : Oper} {a : Act} {Q : Exit → Act → World → Prop} {K : Act → World → Prop} {α : Type} {R : α → List Value → Prop}
end
section
variable {α : Type} {P : Program}
theorem ReadsOf.len_ {enc : α → Value} {d : α} {w : World} {A : Option Addr} {n : Nat} {xs : List α} (h : ReadsOf enc d w A n xs) : ReadsOf enc d w A xs.length xs := by rw [h.1]; exact h
theorem readsInt_of {w : World} {k : IntKind} {A : Option Addr} {n : Nat} {xs : List Int} : ReadsInt w k A n xs ↔ ReadsOf (Value.int k) (0 : Int) w A n xs := Iff.rfl
end
section
variable {P : Program} {ops : Array Oper} {rest : List Oper} {o : Oper} {a : Act} {Q : Exit → Act → World → Prop}
end
structure Kd (α : Type) where
  sz : Nat
  E : List Nat
  K : World → α → List Value → Prop
  M : World → Nat → (Nat → Prop) → α → List Value → Prop
  K_len : ∀ {w x cs}, K w x cs → cs.length = sz
  K_one : ∀ {w x cs}, K w x cs → ∀ u ∈ cs, u.oneCell' = true
  K_below : ∀ {w w1 : World} {x cs}, Below w.heap.size w w1 → K w x cs → K w1 x cs
  K_of_M : ∀ {w base ok x cs}, M w base ok x cs → K w x cs
  M_mono : ∀ {w base ok ok' x cs}, (∀ k, ok k → ok' k) → M w base ok x cs → M w base ok' x cs
  M_bound : ∀ {w : World} {base ok x cs}, M w base ok x cs → M w base (fun k => ok k ∧ base ≤ k ∧ k < w.heap.size ∧ ∃ q, q ∈ E ∧ ∃ cells, w.heap[k]? = some (.cells cells q (0, 0))) x cs
  M_move : ∀ {w w1 : World} {base ok x cs}, (∀ k, ok k → w1.heap[k]? = w.heap[k]?) → M w base ok x cs → M w1 base ok x cs
  M_lower : ∀ {w base base' ok x cs}, base' ≤ base → M w base ok x cs → M w base' ok x cs
theorem own_move {w w1 : World} {base : Nat} {e : TypeId} {size n : Nat} {v : Value} {xs : List Value} (h : w.ownsRow base e size v n xs) (hm : ∀ k, v.ownBlock = some k → w1.heap[k]? = w.heap[k]?) : w1.ownsRow base e size v n xs := by
  obtain ⟨h1, h2⟩ := h
  refine ⟨h1, ?_⟩
  rcases h2 with h2 | ⟨g, cap, cur, rfl, hg, hh, r⟩
  · exact .inl h2
  · exact .inr ⟨g, cap, cur, rfl, hg, (hm g (by simp [Value.ownBlock])).trans hh, r⟩
theorem own_typed {w : World} {base : Nat} {e : TypeId} {size n : Nat} {v : Value} {xs : List Value} (h : w.ownsRow base e size v n xs) (k : Nat) (hk : v.ownBlock = some k) : ∃ cells, w.heap[k]? = some (.cells cells e (0, 0)) := by
  rcases h.2 with ⟨rfl, _⟩ | ⟨g, cap, cur, rfl, hg, hh, r⟩
  · simp [Value.ownBlock] at hk
  · have : g = k := by simpa [Value.ownBlock] using hk
    subst this
    exact ⟨cur, hh⟩
namespace Kd
def C {α : Type} (d : Kd α) (w : World) (A : Option Addr) (n : Nat) (xs : List α) : Prop := ReadsRow (d.K w) d.sz w A n xs
def R {α : Type} (d : Kd α) (e : Nat) (w : World) (base : Nat) (ok : Nat → Prop) (v : Value) (xs : List α) : Prop :=
  (∀ k, v.ownBlock = some k → ok k) ∧ OwnRow (d.M w base (fun k => ok k ∧ some k ≠ v.ownBlock)) e d.sz w base v xs
section
variable {α : Type} {d : Kd α} {e : Nat} {w w1 : World} {base : Nat} {ok ok' : Nat → Prop} {v : Value} {xs : List α}
theorem C_below {A : Option Addr} {n : Nat} (h : d.C w A n xs) (hb : Below w.heap.size w w1) : d.C w1 A n xs := ReadsRow.imp_ h hb (fun _ _ hp => d.K_below hb hp)
theorem R_mono (h : d.R e w base ok v xs) (hok : ∀ k, ok k → ok' k) : d.R e w base ok' v xs := ⟨fun k hk => hok k (h.1 k hk), h.2.imp_ (fun _ _ hp => d.M_mono (fun k hk => ⟨hok k hk.1, hk.2⟩) hp)⟩
theorem R_bound (h : d.R e w base ok v xs) : d.R e w base (fun k => ok k ∧ base ≤ k ∧ k < w.heap.size ∧ ∃ q, q ∈ e :: d.E ∧ ∃ cells, w.heap[k]? = some (.cells cells q (0, 0))) v xs := by
  obtain ⟨h0, inner, ho, hr⟩ := h
  refine ⟨fun k hk => ?_, inner, ho, hr.imp_ (fun _ _ hp => d.M_mono (fun k hk => ?_) (d.M_bound hp))⟩
  · obtain ⟨cells, hc⟩ := own_typed ho k hk
    exact ⟨h0 k hk, own_base ho k hk, own_lt ho k hk, e, List.mem_cons_self, cells, hc⟩
  · obtain ⟨⟨h1, h2⟩, h3, h4, q, hq, hc⟩ := hk
    exact ⟨⟨h1, h3, h4, q, List.mem_cons_of_mem _ hq, hc⟩, h2⟩
theorem R_move (h : d.R e w base ok v xs) (hm : ∀ k, ok k → w1.heap[k]? = w.heap[k]?) : d.R e w1 base ok v xs := by
  obtain ⟨h0, inner, ho, hr⟩ := h
  exact ⟨h0, inner, own_move ho (fun k hk => hm k (h0 k hk)), hr.imp_ (fun _ _ hp => d.M_move (fun k hk => hm k hk.1) hp)⟩
theorem R_lower {base' : Nat} (h : d.R e w base ok v xs) (hb : base' ≤ base) : d.R e w base' ok v xs := by
  obtain ⟨h0, inner, ho, hr⟩ := h
  exact ⟨h0, inner, own_weaken ho hb, hr.imp_ (fun _ _ hp => d.M_lower hb hp)⟩
theorem R_reads (h : d.R e w base ok v xs) : ∃ A c, v = .slice A xs.length c ∧ xs.length ≤ c ∧ d.C w A xs.length xs := by
  obtain ⟨A, c, he, hl, hr⟩ := OwnRow.reads h.2
  exact ⟨A, c, he, hl, hr.imp_ (Below.refl _ _) (fun _ _ hp => d.K_of_M hp)⟩
end
def scalar {α : Type} (enc : α → Value) (h1 : ∀ x, (enc x).oneCell' = true) : Kd α where
  sz := 1
  E := []
  K := fun _ x cs => cs = [enc x]
  M := fun _ _ _ x cs => cs = [enc x]
  K_len := fun h => by rw [h]; rfl
  K_one := fun h u hu => by
    rw [h] at hu
    rw [List.mem_singleton.1 hu]
    exact h1 _
  K_below := fun _ h => h
  K_of_M := fun h => h
  M_mono := fun _ h => h
  M_bound := fun h => h
  M_move := fun _ h => h
  M_lower := fun _ h => h
def int (k : IntKind) : Kd Int := scalar (Value.int k) (fun _ => rfl)
def bool : Kd Bool := scalar Value.bool (fun _ => rfl)
def string : Kd ByteArray := scalar Value.string (fun _ => rfl)
def slice {α : Type} (e : Nat) (d : Kd α) : Kd (List α) where
  sz := 1
  E := e :: d.E
  K := fun w xs cs => ∃ A c, cs = [.slice A xs.length c] ∧ xs.length ≤ c ∧ d.C w A xs.length xs
  M := fun w base ok xs cs => ∃ v, cs = [v] ∧ d.R e w base ok v xs
  K_len := by
    rintro w x cs ⟨A, c, rfl, _⟩
    rfl
  K_one := by
    rintro w x cs ⟨A, c, rfl, _⟩ u hu
    rw [List.mem_singleton.1 hu]
    rfl
  K_below := by
    rintro w w1 x cs hb ⟨A, c, rfl, hl, hr⟩
    exact ⟨A, c, rfl, hl, C_below hr hb⟩
  K_of_M := by
    rintro w base ok x cs ⟨v, rfl, h⟩
    obtain ⟨A, c, rfl, hl, hr⟩ := R_reads h
    exact ⟨A, c, rfl, hl, hr⟩
  M_mono := by
    rintro w base ok ok' x cs hok ⟨v, rfl, h⟩
    exact ⟨v, rfl, R_mono h hok⟩
  M_bound := by
    rintro w base ok x cs ⟨v, rfl, h⟩
    exact ⟨v, rfl, R_bound h⟩
  M_move := by
    rintro w w1 base ok x cs hm ⟨v, rfl, h⟩
    exact ⟨v, rfl, R_move h hm⟩
  M_lower := by
    rintro w base base' ok x cs hb ⟨v, rfl, h⟩
    exact ⟨v, rfl, R_lower h hb⟩
def iso {α β : Type} (d : Kd α) (f : β → α) : Kd β where
  sz := d.sz
  E := d.E
  K := fun w x cs => d.K w (f x) cs
  M := fun w base ok x cs => d.M w base ok (f x) cs
  K_len := d.K_len
  K_one := d.K_one
  K_below := d.K_below
  K_of_M := d.K_of_M
  M_mono := d.M_mono
  M_bound := d.M_bound
  M_move := d.M_move
  M_lower := d.M_lower
def bot {α : Type} (sz : Nat) (E : List Nat) : Kd α where
  sz := sz
  E := E
  K := fun _ _ _ => False
  M := fun _ _ _ _ _ => False
  K_len := fun h => h.elim
  K_one := fun h => h.elim
  K_below := fun _ h => h
  K_of_M := fun h => h
  M_mono := fun _ h => h
  M_bound := fun h => h
  M_move := fun _ h => h
  M_lower := fun _ h => h
def upto {α : Type} (F : Kd α → Kd α) (sz : Nat) (E : List Nat) : Nat → Kd α
  | 0 => bot sz E
  | n + 1 => F (upto F sz E n)
section
variable {P : Program} {ops : Array Oper} {rest : List Oper} {o : Oper} {a : Act} {Q : Exit → Act → World → Prop} {α : Type}
end
section
variable {P : Program} {ops : Array Oper} {o : Oper} {a : Act} {Q : Exit → Act → World → Prop} {Kc : Act → World → Prop} {α : Type}
end
end Kd
namespace Kd
structure Mono {α β : Type} (F : Kd α → Kd β) : Prop where
  sz : ∀ d d' : Kd α, d.sz = d'.sz → (F d).sz = (F d').sz
  K : ∀ d d' : Kd α, d.sz = d'.sz → (∀ w x cs, d.K w x cs → d'.K w x cs) → ∀ w x cs, (F d).K w x cs → (F d').K w x cs
  M : ∀ d d' : Kd α, d.sz = d'.sz → (∀ w base ok x cs, d.M w base ok x cs → d'.M w base ok x cs) → ∀ w base ok x cs, (F d).M w base ok x cs → (F d').M w base ok x cs
section
variable {α : Type} {F : Kd α → Kd α} {sz : Nat} {E : List Nat} {hs : ∀ n, (upto F sz E n).sz = sz} {hE : ∀ n q, q ∈ (upto F sz E n).E → q ∈ E}
end
end Kd
namespace Kd
end Kd
namespace Kd
section
variable {α β : Type} {d : Kd α} {d' : Kd β} {e e' : Nat} {w w1 W : World} {base b b' : Nat} {ok ok' okv oku : Nat → Prop} {v u : Value} {xs : List α} {ys : List β}
end
section
variable {w W : World} {A : Option Addr} {n : Nat}
variable {α : Type} {enc : α → Value} {h1 : ∀ x, (enc x).oneCell' = true} {e base g cap : Nat} {ok : Nat → Prop} {xs : List α}
end
section
variable {P : Program} {ops : Array Oper} {rest : List Oper} {o : Oper} {a : Act} {Q : Exit → Act → World → Prop}
variable {α : Type}
end
end Kd
section
variable {P : Program}
end
def QRow (w : World) (base : Nat) (e : TypeId) (size : Nat) (v : Value) (n : Nat) (xs : List Value) : Prop :=
  xs.length = n * size ∧
  ((n = 0 ∧ ∃ A, v = .slice A 0 0 ∧ ∀ a, A = some a → base ≤ a.block ∧ ∃ cur, w.heap[a.block]? = some (.cells cur e (0, 0))) ∨
   ∃ g off cap cur, v = .slice (some ⟨g, off * size, none⟩) n cap ∧ base ≤ g ∧ w.heap[g]? = some (.cells cur e (0, 0)) ∧ n ≤ cap ∧ off + cap ≤ maxLen ∧ cur.size = (off + cap) * size ∧ (cur.toList.drop (off * size)).take (n * size) = xs)
section
variable {w w1 : World} {base n size : Nat} {e : TypeId} {v : Value} {xs : List Value}
end
section
variable {P : Program}
end
namespace Kd
def Q {α : Type} (d : Kd α) (e : Nat) (w : World) (base : Nat) (ok : Nat → Prop) (v : Value) (xs : List α) : Prop :=
  (∀ k, v.ownBlock = some k → ok k) ∧ ∃ inner, QRow w base e d.sz v xs.length inner ∧ Reps (d.M w base (fun k => ok k ∧ some k ≠ v.ownBlock)) d.sz xs inner
section
variable {α : Type} {d : Kd α} {e : Nat} {w w1 W : World} {base : Nat} {ok ok' : Nat → Prop} {v : Value} {xs : List α}
end
section
variable {P : Program} {ops : Array Oper} {rest : List Oper} {o : Oper} {a : Act} {Q' : Exit → Act → World → Prop} {Kc : Act → World → Prop} {α : Type}
end
end Kd
namespace Kd
section
variable {α : Type} {d : Kd α} {e e' : Nat} {w w1 W : World} {base : Nat} {ok : Nat → Prop} {u v : Value} {xs : List α}
end
end Kd
namespace Kd
section
variable {α : Type} {d : Kd α} {e base g n cap : Nat} {ok okp : Nat → Prop} {W : World} {xs : List α}
end
end Kd
namespace Kd
section
variable {α : Type} {F : Kd α → Kd α} {sz : Nat} {E : List Nat} {hs : ∀ n, (upto F sz E n).sz = sz} {hE : ∀ n q, q ∈ (upto F sz E n).E → q ∈ E}
end
end Kd
namespace Kd
section
variable {P : Program} {ops : Array Oper} {rest : List Oper} {o : Oper} {a : Act} {Q : Exit → Act → World → Prop} {α : Type}
end
end Kd
theorem run_store_run {P : Program} {w : World} {g o : Nat} {e : TypeId} {cur : Array Value} (t : TypeId) (u : Value) (seg : List Value) (hh : w.heap[g]? = some (.cells cur e (0, 0))) (hu : u.cells.toList = seg) (ht : (P.info? t).map (·.size) = some seg.length)
    (hfit : o + seg.length ≤ cur.size) (h1 : ∀ q ∈ seg, q.oneCell' = true) : (Instr.storeAt t (.pointer (some ⟨g, o, none⟩)) u).run P w = .ok () (w.setCells g o seg) := by
  obtain ⟨i, hi, hsz⟩ := Option.map_eq_some_iff.1 ht
  have hc : u.cells.size = i.size := by rw [hsz, ← hu, Array.length_toList]
  have hst := run_storeCells_cells (P := P) g o seg 0 w (fun j hj => by rw [cell_of_row w g _ cur e (0, 0) hh]; simp; omega) (fun j _ => blk_frozen hh _) h1
  simp only [Nat.add_zero] at hst
  simp [Instr.storeAt, Instr.sureAddr, storeVar, sizeOf, typeInfo, hi, hc, hu, hst]
namespace Kd
section
variable {P : Program} {ops : Array Oper} {rest : List Oper} {o : Oper} {a : Act} {Q : Exit → Act → World → Prop} {α : Type}
end
end Kd
theorem add_add (a : Addr) (i j : Nat) : (a.add i).add j = a.add (i + j) := by
  unfold Addr.add
  by_cases h1 : i = 0 <;> by_cases h2 : j = 0 <;> simp [h1, h2, Nat.add_assoc]
namespace Kd
section
variable {α : Type} {k : Kd α} {w : World} {A : Option Addr} {xs : List α} {m c : Nat}
end
end Kd
section
variable {P : Program}
end
theorem string_of_reads {P : Program} {w : World} {src dst e : TypeId} {A : Option Addr} {n c : Nat} {xs : List Int} (hs : P.underlying src = some (.slice e)) (he : P.underlying e = some (.int .u8)) (hd : P.underlying dst = some .string)
    (h : ReadsInt w .u8 A n xs) : (convert src dst (.slice A n c)).run P w = .ok (.string (strOfNums xs)) w := by
  have hn : xs.length = n := h.1
  rcases A with _ | ad
  · have h0 : n = 0 := by
      rcases Nat.eq_zero_or_pos n with h0 | h0
      · exact h0
      · obtain ⟨ad, h', _⟩ := h.2.2 h0
        cases h'
    subst h0
    obtain rfl : xs = [] := List.eq_nil_of_length_eq_zero hn
    exact run_convert_bytes_nil w src e hs he 0 c dst hd
  · have hl : (loadCells ad n).run P w = .ok (xs.map (Value.int .u8)).toArray w := by
      have := run_loadCells_list (P := P) w ad (xs.map (Value.int .u8)) (fun j v hj => by
        have hjl : j < xs.length := by
          rcases Nat.lt_or_ge j xs.length with h' | h'
          · exact h'
          · rw [List.getElem?_eq_none (by rw [List.length_map]; exact h')] at hj
            cases hj
        obtain ⟨ad', he', hc⟩ := h.2.2 (by omega)
        injection he' with he'
        subst he'
        rw [hc j (by omega)]
        rw [List.getElem?_map, List.getElem?_eq_getElem hjl] at hj
        simp at hj
        subst hj
        simp [List.getD_eq_getElem?_getD, List.getElem?_eq_getElem hjl])
      simpa [hn] using this
    rw [run_convert_bytes_string w src dst e _ n c hs he hd, run_bytesToString w ad n c xs hl, foldl_push_bytes]
    simp [strOfNums, ByteArray.empty, ByteArray.emptyWithCapacity]
    rfl
theorem ReadsInt.nil (W : World) (k : IntKind) : ReadsInt W k none ([] : List Int).length [] := ⟨rfl, by simp, fun h => absurd h (Nat.lt_irrefl 0)⟩
theorem ReadsInt.drewN {W : World} {k : IntKind} {A : Option Addr} {n : Nat} {xs : List Int} (h : ReadsInt W k A n xs) (m : Nat) : ReadsInt (W.drewN m) k A n xs := h
theorem ReadsOf.nil {α : Type} (enc : α → Value) (d : α) (W : World) : ReadsOf enc d W none ([] : List α).length [] := ⟨rfl, by simp, fun h => absurd h (Nat.lt_irrefl 0)⟩
theorem ReadsOf.drewN {α : Type} {enc : α → Value} {d : α} {W : World} {A : Option Addr} {n : Nat} {xs : List α} (h : ReadsOf enc d W A n xs) (m : Nat) : ReadsOf enc d (W.drewN m) A n xs := h
namespace Kd
section
variable {α β : Type} {d : Kd α} {d' : Kd β} {e e' base base' n : Nat} {ok ok' : Nat → Prop} {w W w1 W1 : World} {v u : Value} {xs : List α} {ys : List β} {A : Option Addr} {c : Nat}
end
section
variable {α : Type} {enc : α → Value} {h1 : ∀ x, (enc x).oneCell' = true} {w W : World} {A : Option Addr} {n g : Nat} {xs : List α}
end
end Kd
namespace Kd
section
variable {α : Type} {d : Kd α} {e base g : Nat} {ok : Nat → Prop} {w w1 : World} {v : Value} {xs : List α} {o : Obj}
end
end Kd
section
variable {P : Program} {ops : Array Oper} {rest : List Oper} {o : Oper} {a : Act} {Q : Exit → Act → World → Prop}
end
namespace Kd
section
variable {α : Type} {enc : α → Value} {h1 : ∀ x, (enc x).oneCell' = true} {e base g n cap : Nat} {ok : Nat → Prop} {W : World} {xs : List α}
end
end Kd
section
variable {P : Program} {ops : Array Oper} {rest : List Oper} {o : Oper} {a : Act} {Q : Exit → Act → World → Prop}
end
namespace Kd
section
variable {α : Type} {enc : α → Value} {h1 : ∀ x, (enc x).oneCell' = true} {e base g n cap : Nat} {ok : Nat → Prop} {W : World} {xs : List α}
end
end Kd
section
variable {P : Program} {ops : Array Oper} {rest : List Oper} {o : Oper} {a : Act} {Q : Exit → Act → World → Prop} {W : World}
end
section
variable {P : Program} {ops : Array Oper} {o : Oper} {a : Act} {Q : Exit → Act → World → Prop} {Kc : Act → World → Prop}
namespace Kd
variable {α : Type}
end Kd
end
inductive Vals (P : Program) (tmps : Array Value) (w : World) : List ResultVar → List Value → Prop where
  | nil : Vals P tmps w [] []
  | tmp {u : Tmp} {rs : List ResultVar} {vs : List Value} (h : Vals P tmps w rs vs) : Vals P tmps w (.tmp u :: rs) (tmps.getD u undef :: vs)
  | cell {p : Tmp} {ty : TypeId} {rs : List ResultVar} {vs : List Value} (g : Nat) (t : TypeId) (cs : Array Value) (fr : Nat × Nat) (d : TypeDesc)
      (hp : tmps.getD p undef = .pointer (some ⟨g, 0, none⟩)) (hg : w.heap[g]? = some (.cells cs t fr))
      (hu : P.underlying ty = some d) (hd : (match d with | .struct _ | .array _ _ => true | _ => false) = true) (hi : (P.info? ty).map (·.size) = some cs.size)
      (h : Vals P tmps w rs vs) : Vals P tmps w (.cell p ty :: rs) (.agg cs :: vs)
section
variable {P : Program} {tmps : Array Value} {w : World}
end
namespace Kd
section
variable {P : Program} {α : Type}
end
section
variable {P : Program} {ops : Array Oper} {rest : List Oper} {o : Oper} {a : Act} {Q : Exit → Act → World → Prop} {Kc : Act → World → Prop} {α : Type}
end
end Kd
end Go.Proofs.YthgojbdpmcccaaaGreatDoorW.PrintWords
end
section
namespace Go.Proofs.YthgojbdpmcccaaaGreatDoor.Q
open Go.RowKit Go.Proofs.YthgojbdpmcccaaaGreatDoorW.PrintWords
set_option linter.unusedVariables false
set_option linter.unusedSimpArgs false
def evCat (n : Nat) (f : Fr) : Op → Option (ByteArray × ByteArray)
  | .binOp .add _ x y _ => match X n f x, X n f y with
    | .string s, .string t => some (s, t)
    | _, _ => none
  | _ => none
def evRem (n : Nat) (f : Fr) : Op → Option (IntKind × Int × Int)
  | .binOp .rem _ x y _ => match X n f x, X n f y with
    | .int k a, .int k2 b => bif decide (k = k2) then some (k, a, b) else none
    | _, _ => none
  | _ => none
def evB (n : Nat) (f : Fr) : Op → Option (TypeId × List Int)
  | .buildSlice t 1 parts => match parts.toList with
    | [(0, x)] => match X n f x with
      | .int .u8 a => some (t, [a])
      | _ => none
    | _ => none
  | .buildSlice t 2 parts => match parts.toList with
    | [(0, x), (1, y)] => match X n f x, X n f y with
      | .int .u8 a, .int .u8 b => some (t, [a, b])
      | _, _ => none
    | _ => none
  | .buildSlice t 3 parts => match parts.toList with
    | [(0, x), (1, y), (2, z)] => match X n f x, X n f y, X n f z with
      | .int .u8 a, .int .u8 b, .int .u8 c => some (t, [a, b, c])
      | _, _, _ => none
    | _ => none
  | _ => none
def evApp (n : Nat) (f : Fr) : Op → Option (TypeId × Value × Value)
  | .call c => match c.callee, c.args.toList, c.argTypes.toList with
    | .builtin .append, [x, y], [t, t2] => bif Nat.beq t t2 then some (t, X n f x, X n f y) else none
    | _, _, _ => none
  | _ => none
def evCv (n : Nat) (f : Fr) : Op → Option (TypeId × TypeId × Value)
  | .convert s d x => some (s, d, X n f x)
  | _ => none
section
variable {P : Program} {ty : Nat → Option Ty} {n : Nat} {f : Fr} {w : World} {o : Oper}
theorem evCat_run {s t : ByteArray} (h : evCat n f o.op = some (s, t)) (hl : s.size + t.size ≤ 9223372036854775807) : (execOp (X n f) o).run P w = .ok (.value (.string (s ++ t))) w := by
  unfold evCat at h
  split at h
  · rename_i t0 x y t2 ho
    split at h
    · rename_i s1 s2 h1 h2
      simp only [Option.some.injEq, Prod.mk.injEq] at h
      obtain ⟨rfl, rfl⟩ := h
      have hm : IntKind.i64.max = 9223372036854775807 := by decide +kernel
      have hc : ¬ ((s1.size : Int) + (s2.size : Int) > 9223372036854775807) := by omega
      unfold execOp
      rw [ho]
      simp [go_sem, eqGuard, binOp, Op.stringOp, h1, h2, hm, hc]
    · cases h
  · cases h
theorem evRem_run {k : IntKind} {a b : Int} (h : evRem n f o.op = some (k, a, b)) (hb : b ≠ 0) : (execOp (X n f) o).run P w = .ok (.value (.int k (a.tmod b))) w := by
  unfold evRem at h
  split at h
  · rename_i t0 x y t2 ho
    split at h
    · rename_i k1 a1 k2 b1 h1 h2
      by_cases hk : k1 = k2
      · subst hk
        simp only [decide_true, cond_true, Option.some.injEq, Prod.mk.injEq] at h
        obtain ⟨rfl, rfl, rfl⟩ := h
        unfold execOp
        rw [ho]
        simp [go_sem, eqGuard, binOp, Op.intDiv, h1, h2, hb]
      · simp [hk] at h
    · cases h
  · cases h
def cutA (a : Option Addr) (c p sz : Nat) : Option Addr := if c = p then a else a.map (·.add (p * sz))
theorem evSl_run (hty : Tys P ty) {a : Option Addr} {l c sz : Nat} {p q : Int} (he : evSl n f ty o.op = some (a, l, c, sz, p, q)) (h0 : 0 ≤ p) (h1 : p ≤ q) (h2 : q ≤ c) :
    (execOp (X n f) o).run P w = .ok (.value (.slice (cutA a c p.toNat sz) (q.toNat - p.toNat) (c - p.toNat))) w := by
  unfold evSl at he
  split at he
  · rename_i t x lo hi ho
    split at he
    · rename_i e sz1 a1 l1 c1 h3 h4
      obtain ⟨b1, i0, b2, b3⟩ : P.underlying t = some (.slice e) ∧ ∃ i, P.info? e = some i ∧ i.size = sz1 := hty _ _ h3
      have hel : P.elem t = e := by simp [Program.elem, b1]
      unfold execOp
      rw [ho]
      cases lo with
      | none =>
        cases hi with
        | none =>
          simp only [bound, Option.some.injEq, Prod.mk.injEq] at he
          obtain ⟨rfl, rfl, rfl, rfl, rfl, rfl⟩ := he
          simp [go_sem, h4, Instr.sliceAt, Instr.slice, Instr.sliceBounds, Instr.sliceBound, run_underlying b1, sizeOf, typeInfo, b2, b3, cutA]
        | some y =>
          simp only [bound] at he
          split at he
          · rename_i p0 q0 e1 e2
            split at e2
            · rename_i k j e3
              simp only [Option.some.injEq, Prod.mk.injEq] at he e1 e2
              obtain ⟨rfl, rfl, rfl, rfl, rfl, rfl⟩ := he
              subst e1 e2
              have hq : 0 ≤ j := by omega
              simp [go_sem, h4, e3, Instr.sliceAt, Instr.slice, Instr.sliceBounds, Instr.sliceBound, run_underlying b1, sizeOf, typeInfo, b2, b3, cutA, hq, h2]
            · cases e2
          · cases he
      | some z =>
        cases hi with
        | none =>
          simp only [bound] at he
          split at he
          · rename_i p0 q0 e1 e2
            split at e1
            · rename_i k j e3
              simp only [Option.some.injEq, Prod.mk.injEq] at he e1 e2
              obtain ⟨rfl, rfl, rfl, rfl, rfl, rfl⟩ := he
              subst e1 e2
              simp [go_sem, h4, e3, Instr.sliceAt, Instr.slice, Instr.sliceBounds, Instr.sliceBound, run_underlying b1, sizeOf, typeInfo, b2, b3, cutA, h0, h1]
            · cases e1
          · cases he
        | some y =>
          simp only [bound] at he
          split at he
          · rename_i p0 q0 e1 e2
            split at e1
            · rename_i k j e3
              split at e2
              · rename_i k2 j2 e4
                simp only [Option.some.injEq, Prod.mk.injEq] at he e1 e2
                obtain ⟨rfl, rfl, rfl, rfl, rfl, rfl⟩ := he
                subst e1 e2
                have hq : 0 ≤ j2 := by omega
                have hz : j ≤ (j2.toNat : Int) := by omega
                simp [go_sem, h4, e3, e4, Instr.sliceAt, Instr.slice, Instr.sliceBounds, Instr.sliceBound, run_underlying b1, sizeOf, typeInfo, b2, b3, cutA, h0, h2, hq, hz]
                all_goals (intro hx; exfalso; omega)
              · cases e2
            · cases e1
          · cases he
    · cases he
  · cases he
theorem reads_cut {k : IntKind} {A : Option Addr} {m c : Nat} {xs : List Int} (h : ReadsInt w k A m xs) {p q : Nat} (h1 : p ≤ q) (h2 : q ≤ m) (hc : m ≤ c) : ReadsInt w k (cutA A c p 1) (q - p) ((xs.take q).drop p) := by
  have h3 := ((readsInt_of.1 h).take_ q h2).drop_ (c := c) p h1 (by omega)
  unfold cutA
  rw [Nat.mul_one]
  exact readsInt_of.2 h3
end
section
variable {P : Program} {ty : Nat → Option Ty} {n : Nat} {ops : Array Oper} {Q : Exit → Act → World → Prop} {rest : List Oper} {f : Fr} {w : World} {d : Option Nat} {op : Op} {tt : TypeId} {ps : String} {af : Array Edge} {gd : Option (Nat × Bool)}
theorem l_cat {s t : ByteArray} (hw : want n ops f ⟨d, op, tt, ps, af, gd⟩ = true) (he : evCat n f op = some (s, t)) (hl : s.size + t.size ≤ 9223372036854775807) (h : WL P ops Q rest (act n (put f d (.string (s ++ t)))) w) : WL P ops Q (⟨d, op, tt, ps, af, gd⟩ :: rest) (act n f) w :=
  l_val hw (evCat_run (o := ⟨d, op, tt, ps, af, gd⟩) he hl) h
theorem l_cut (hty : Tys P ty) {a : Option Addr} {l c sz : Nat} {p q : Int} (hw : want n ops f ⟨d, op, tt, ps, af, gd⟩ = true) (he : evSl n f ty op = some (a, l, c, sz, p, q)) (h0 : 0 ≤ p) (h1 : p ≤ q) (h2 : q ≤ c)
    (h : WL P ops Q rest (act n (put f d (.slice (cutA a c p.toNat sz) (q.toNat - p.toNat) (c - p.toNat)))) w) : WL P ops Q (⟨d, op, tt, ps, af, gd⟩ :: rest) (act n f) w :=
  l_val hw (evSl_run (o := ⟨d, op, tt, ps, af, gd⟩) hty he h0 h1 h2) h
theorem l_cutN (hty : Tys P ty) {a : Option Addr} {l c sz : Nat} (p q : Nat) (hw : want n ops f ⟨d, op, tt, ps, af, gd⟩ = true) (he : evSl n f ty op = some (a, l, c, sz, (p : Int), (q : Int))) (h1 : p ≤ q) (h2 : q ≤ c)
    (h : WL P ops Q rest (act n (put f d (.slice (cutA a c p sz) (q - p) (c - p)))) w) : WL P ops Q (⟨d, op, tt, ps, af, gd⟩ :: rest) (act n f) w :=
  l_cut hty hw he (by omega) (by omega) (by omega) h
theorem Bt {w wi w' : World} (h : Below w.heap.size w wi) (k : Below wi.heap.size wi w') : Below w.heap.size w w' := below_then h h.size k
theorem l_lit (hg : gd = none) {t e : TypeId} {zs : List Int} (he : evB n f op = some (t, zs)) (hu : P.underlying t = some (.slice e)) (hinfo : (P.info? e).map (fun i => (i.zero, i.size, i.bytes)) = some (some (.int .u8 0), 1, 1))
    (h : WL P ops Q rest (act n (put f d (.slice (some ⟨w.heap.size, 0, none⟩) zs.length zs.length))) (w.alloc (.cells (nums .u8 zs).toArray e))) : WL P ops Q (⟨d, op, tt, ps, af, gd⟩ :: rest) (act n f) w := by
  subst hg
  obtain ⟨i0, hi, hz⟩ := Option.map_eq_some_iff.1 hinfo
  simp only [Prod.mk.injEq] at hz
  obtain ⟨hz0, hz1, hz2⟩ := hz
  have key : ∀ (k : Nat) (parts : Array (Nat × Operand)), op = .buildSlice t k parts → k = zs.length → 0 < k → k ≤ 3 → (parts.map fun (i, x) => (i, X n f x)).toList = ((zs.map (Value.int .u8)).zipIdx 0).map (fun x => (x.2, x.1)) → WL P ops Q (⟨d, op, tt, ps, af, none⟩ :: rest) (act n f) w := by
    intro k parts ho hk h0 h3 hp
    refine ⟨?_⟩
    refine wpList_buildSlice rfl t e k parts ho (nums .u8 zs).toArray i0 (.int .u8 0) hu hi hz0 (by rw [hz1]; omega) (by rw [hz1]; omega) ?_ (by rw [put_act, hk]; exact h.out)
    rw [eval_act, hp, hz1]
    exact Great.fill_flat _ _ (fun v hv => by obtain ⟨m, _, rfl⟩ := List.mem_map.1 hv; rfl) (by simp [hk])
  unfold evB at he
  split at he
  · rename_i t0 parts
    split at he
    · rename_i x hx
      have hx' : parts = #[(0, x)] := by rw [← Array.toList_inj]; exact hx
      split at he
      · rename_i a ha
        simp only [Option.some.injEq, Prod.mk.injEq] at he
        obtain ⟨rfl, rfl⟩ := he
        exact key 1 _ rfl rfl (by decide) (by decide) (by rw [hx']; simp [ha])
      · cases he
    · cases he
  · rename_i t0 parts
    split at he
    · rename_i x y hx
      have hx' : parts = #[(0, x), (1, y)] := by rw [← Array.toList_inj]; exact hx
      split at he
      · rename_i a b ha hb
        simp only [Option.some.injEq, Prod.mk.injEq] at he
        obtain ⟨rfl, rfl⟩ := he
        exact key 2 _ rfl rfl (by decide) (by decide) (by rw [hx']; simp [ha, hb])
      · cases he
    · cases he
  · rename_i t0 parts
    split at he
    · rename_i x y z hx
      have hx' : parts = #[(0, x), (1, y), (2, z)] := by rw [← Array.toList_inj]; exact hx
      split at he
      · rename_i a b c ha hb hc
        simp only [Option.some.injEq, Prod.mk.injEq] at he
        obtain ⟨rfl, rfl⟩ := he
        exact key 3 _ rfl rfl (by decide) (by decide) (by rw [hx']; simp [ha, hb, hc])
      · cases he
    · cases he
  · cases he
theorem lit_reads (w : World) (e : TypeId) (zs : List Int) (hz : zs.length ≤ 3) : ReadsInt (w.alloc (.cells (nums .u8 zs).toArray e)) .u8 (some ⟨w.heap.size, 0, none⟩) zs.length zs := by
  have h := own_lit w w.heap.size e .u8 zs (Nat.le_refl _) (by omega)
  obtain ⟨A, c, hv, hr⟩ := own_reads h
  injection hv with h1
  rw [← h1] at hr
  exact hr
abbrev Own (e : TypeId) (w : World) (base : Nat) (v : Value) (xs : List Int) : Prop := w.ownsRow base e 1 v xs.length (nums .u8 xs)
theorem l_app (hg : gd = none) {w0 : World} {base : Nat} {t e : TypeId} {v : Value} {A : Option Addr} {m c : Nat} {xs ys : List Int} (he : evApp n f op = some (t, v, .slice A m c)) (hu : P.underlying t = some (.slice e)) (hinfo : (P.info? e).map (fun i => (i.zero, i.size, i.bytes)) = some (some (.int .u8 0), 1, 1))
    (HO : Own e w base v xs) (HR : ReadsInt w .u8 A m ys) (HB : Below base w0 w) (hbase : base ≤ w.heap.size) (hl : xs.length + m ≤ 140737488355328)
    (h : ∀ A1 c1 w1, Own e w1 base (.slice A1 (xs ++ ys).length c1) (xs ++ ys) → (xs ++ ys).length ≤ c1 → ReadsInt w1 .u8 A1 (xs ++ ys).length (xs ++ ys) → Below base w0 w1 → base ≤ w1.heap.size → WL P ops Q rest (act n (put f d (.slice A1 (xs ++ ys).length c1))) w1) : WL P ops Q (⟨d, op, tt, ps, af, gd⟩ :: rest) (act n f) w := by
  subst hg
  unfold evApp at he
  split at he
  · rename_i cc
    split at he
    · rename_i x y t1 t2 h1 h2 h3
      by_cases ht : t1 = t2
      · subst ht
        simp only [Nat.beq_refl, cond_true, Option.some.injEq, Prod.mk.injEq] at he
        obtain ⟨rfl, he1, he2⟩ := he
        have hargs : cc.args = #[x, y] := by rw [← Array.toList_inj]; exact h2
        have htys : cc.argTypes = #[t1, t1] := by rw [← Array.toList_inj]; exact h3
        have ho : Op.call cc = .call { callee := .builtin .append, args := #[x, y], argTypes := #[t1, t1] } := by
          cases cc
          simp_all
        refine ⟨?_⟩
        refine print_append_row base rfl x y t1 e .u8 1 ho hu hinfo (by decide) v xs ys A m c (by rw [eval_act]; exact he1) (by rw [eval_act]; exact he2) HO HR HB hbase (by omega) ?_
        intro v1 w1 hO hB hgr _
        obtain ⟨A1, c1, rfl, hle, hr⟩ := own_reads_of_le (enc := Value.int .u8) (d := (0 : Int)) hO
        rw [put_act]
        exact (h A1 c1 w1 hO hle (readsInt_of.2 hr) hB (Nat.le_trans hbase hgr.size)).out
      · exfalso
        have : Nat.beq t1 t2 = false := by rw [Bool.eq_false_iff]; intro hb; exact ht (Nat.eq_of_beq_eq_true hb)
        simp [this] at he
    · cases he
  · cases he
theorem l_text {s t e : TypeId} {A : Option Addr} {m c : Nat} {xs : List Int} (hw : want n ops f ⟨d, op, tt, ps, af, gd⟩ = true) (he : evCv n f op = some (s, t, .slice A m c)) (hs : P.underlying s = some (.slice e)) (hb : P.underlying e = some (.int .u8)) (hd : P.underlying t = some .string)
    (HR : ReadsInt w .u8 A m xs) (h : WL P ops Q rest (act n (put f d (.string (strOfNums xs)))) w) : WL P ops Q (⟨d, op, tt, ps, af, gd⟩ :: rest) (act n f) w := by
  unfold evCv at he
  split at he
  · rename_i s1 t1 x
    simp only [Option.some.injEq, Prod.mk.injEq] at he
    obtain ⟨rfl, rfl, hx⟩ := he
    refine l_val hw ?_ h
    have := string_of_reads (P := P) (w := w) (c := c) hs hb hd HR
    unfold execOp
    simp [hx, this]
  · cases he
end
end Go.Proofs.YthgojbdpmcccaaaGreatDoor.Q
end
section
/-
  PRINTED WORDS, second file: A REGION THAT DRAWS ITS ORDER, WALKED BY HAND, where its last store writes what its own loads read ('x.f = append(x.f, f(i))'). Plain theorems; no macro, no elab. A claim may hold it (turn the namespace's name).
  A load may be taken first in every world that meets S; behind the operations of ds nothing is shown; sound because each of ds waits for what is taken (Region.lastB). The kernel checks it.
  By an AI agent of Go's test side, Mon Nov 16 2026. No person has read it.
-/
namespace Go.Proofs.YthgojbdpmcccaaaGreatDoorW.PrintLast
section
variable {P : Program} {ops : Array Oper} {Q : Exit → Act → World → Prop} {md : Region.Mode} {S : World → Prop} {ds : List Nat}
def Region.reachB (md : Region.Mode) (ops : Array Oper) (i : Nat) : Nat → Nat → Bool
  | 0, _ => false
  | fuel + 1, d => match ops[d]? with
    | some o => o.after.any fun e => Region.binds md e && (e.on == i || Region.reachB md ops i fuel e.on)
    | none => false
def Region.closedB (md : Region.Mode) (ops : Array Oper) (listed : Array Bool) : Bool :=
  (List.range ops.size).all fun j => !listed.getD j false || match ops[j]? with
    | some o => o.after.all fun e => !Region.binds md e || listed.getD e.on false
    | none => true
def Region.lastB (md : Region.Mode) (ops : Array Oper) (listed : Array Bool) (ds : List Nat) (i : Nat) : Bool :=
  ds.all fun d => listed.getD d true || Region.reachB md ops i ops.size d
def ListedClosed (md : Region.Mode) (ops : Array Oper) (listed : Array Bool) : Prop :=
  ∀ j oj, ops[j]? = some oj → listed.getD j false = true → ∀ e ∈ oj.after, Region.binds md e = true → listed.getD e.on false = true
theorem Region.closedB_spec {listed : Array Bool} (h : Region.closedB md ops listed = true) : ListedClosed md ops listed := by
  intro j oj hj hl e he hb
  have hlt : j < ops.size := (Array.getElem?_eq_some_iff.1 hj).1
  have h1 := List.all_eq_true.1 h j (List.mem_range.2 hlt)
  simp only [hl, hj, Bool.not_true, Bool.false_or] at h1
  have h2 := Array.all_eq_true_iff_forall_mem.1 h1 e he
  simpa [hb] using h2
theorem ListedClosed.set {listed : Array Bool} {i : Nat} (h : ListedClosed md ops listed) (hi : i ∈ Region.ready md ops listed) : ListedClosed md ops (listed.setIfInBounds i true) := by
  obtain ⟨_, oi, hoi, hall⟩ := mem_ready.1 hi
  intro j oj hj hl e he hb
  by_cases hij : i = j
  · subst hij
    have : oj = oi := Option.some.inj (hj.symm.trans hoi)
    subst this
    exact getD_set_true (hall e he hb)
  · rw [getD_set_ne false hij] at hl
    exact getD_set_true (h j oj hj hl e he hb)
theorem Region.reach_listed {listed : Array Bool} {i : Nat} (hc : ListedClosed md ops listed) : ∀ (fuel d : Nat), Region.reachB md ops i fuel d = true → listed.getD d false = true → listed.getD i false = true
  | 0, _, h, _ => by simp [Region.reachB] at h
  | fuel + 1, d, h, hl => by
    unfold Region.reachB at h
    cases ho : ops[d]? with
    | none => rw [ho] at h; simp at h
    | some o =>
      rw [ho] at h
      obtain ⟨e, he, h1⟩ := Array.any_eq_true'.1 h
      simp only [Bool.and_eq_true, Bool.or_eq_true, beq_iff_eq] at h1
      have hle := hc d o ho hl e he h1.1
      rcases h1.2 with h2 | h2
      · rw [← h2]; exact hle
      · exact Region.reach_listed hc fuel e.on h2 hle
theorem Region.reach_not_ready {listed : Array Bool} {i d fuel : Nat} (hc : ListedClosed md ops listed) (hr : Region.reachB md ops i fuel d = true) (hun : listed.getD i true = false) : d ∉ Region.ready md ops listed := by
  intro hd
  obtain ⟨_, o, ho, hall⟩ := mem_ready.1 hd
  have hi : listed.getD i false = true := by
    cases fuel with
    | zero => simp [Region.reachB] at hr
    | succ n =>
      unfold Region.reachB at hr
      rw [ho] at hr
      obtain ⟨e, he, h1⟩ := Array.any_eq_true'.1 hr
      simp only [Bool.and_eq_true, Bool.or_eq_true, beq_iff_eq] at h1
      have hle := hall e he h1.1
      rcases h1.2 with h2 | h2
      · rw [← h2]; exact hle
      · exact Region.reach_listed hc n e.on h2 hle
  rcases Nat.lt_or_ge i listed.size with h' | h'
  · simp [h'] at hun hi
    rw [hun] at hi
    cases hi
  · simp [Array.getElem?_eq_none h'] at hun
def wpAnyLast (P : Program) (md : Region.Mode) (ops : Array Oper) (Q : Exit → Act → World → Prop) (S : World → Prop) (ds : List Nat) : Nat → Array Bool → Act → World → Prop
  | 0, listed, a, w => Region.ready md ops listed = [] ∧ Q .normal a w
  | fuel + 1, listed, a, w =>
    (Region.ready md ops listed = [] → Q .normal a w) ∧
    ∀ i ∈ Region.ready md ops listed, wpOp P ops Q i (fun a' w' => (i ∉ ds → S w → S w') ∧ wpAnyLast P md ops Q S ds fuel (listed.setIfInBounds i true) a' w') a w
theorem wpAny_of_last : ∀ (fuel : Nat) (listed : Array Bool) (a : Act) (w : World), wpAnyLast P md ops Q S ds fuel listed a w → wpAny P md ops Q fuel listed a w
  | 0, _, _, _, h => h
  | fuel + 1, _, _, _, h => ⟨h.1, fun i hi => wpOp_mono (fun a' w' h' => wpAny_of_last fuel _ a' w' h'.2) (h.2 i hi)⟩
theorem wpAnyLast_first {i : Nat} {oi : Oper} {v : Value} (hi : ops[i]? = some oi) (hsel : ∀ (j : Nat) (o : Oper) cs b, ops[j]? = some o → o.op ≠ .select cs b)
    (hQ : ∀ c a w, Q (.panic c) (a.put oi.dst v) w → Q (.panic c) a w) (n : Nat) :
    ∀ (fuel : Nat) (listed : Array Bool) (a : Act) (w : World),
      (∀ j oj, ops[j]? = some oj → j ≠ i → listed.getD j true = false → (∀ e ∈ oj.after, Region.binds md e = true → e.on ≠ i) → oi.apart ops oj = true) →
      ListedClosed md ops listed → (∀ d ∈ ds, listed.getD d true = false → Region.reachB md ops i n d = true) →
      i ∈ Region.ready md ops listed → YieldsIf P ops S oi v a → S w →
      wpAnyLast P md ops Q S ds fuel (listed.setIfInBounds i true) (a.put oi.dst v) w → wpAnyLast P md ops Q S ds (fuel + 1) listed a w := by
  intro fuel
  induction fuel with
  | zero =>
    intro listed a w _ _ _ hr hy hS H
    refine ⟨fun h => (by rw [h] at hr; cases hr), fun j hj => ?_⟩
    by_cases hji : j = i
    · subst hji; exact hy.wpOp hi hS ⟨fun _ h => h, H⟩
    · have := ready_mono hj hji
      rw [H.1] at this
      cases this
  | succ fuel ih =>
    intro listed a w hfree hc hd hr hy hS H
    refine ⟨fun h => (by rw [h] at hr; cases hr), fun j hj => ?_⟩
    by_cases hji : j = i
    · subst hji; exact hy.wpOp hi hS ⟨fun _ h => h, H⟩
    · have h1 := H.2 j (ready_mono hj hji)
      obtain ⟨hjun, oj, hoj, hall⟩ := mem_ready.1 hj
      have hiun := (mem_ready.1 hr).1
      have hnot : ∀ e ∈ oj.after, Region.binds md e = true → e.on ≠ i := fun e he hb heq => by
        have h1 := hall e he hb
        rw [heq] at h1
        rcases Nat.lt_or_ge i listed.size with h' | h'
        · simp [h'] at hiun h1; rw [hiun] at h1; cases h1
        · simp [Array.getElem?_eq_none h'] at h1
      have hjd : j ∉ ds := fun hm => Region.reach_not_ready hc (hd j hm hjun) hiun hj
      have h2 := wpOp_putIf hoj (hfree j oj hoj hji hjun hnot) (fun cs b => hsel i oi cs b hi) (fun cs b => hsel j oj cs b hoj) hQ hy h1
      have hfree' : ∀ k ok, ops[k]? = some ok → k ≠ i → (listed.setIfInBounds j true).getD k true = false →
          (∀ e ∈ ok.after, Region.binds md e = true → e.on ≠ i) → oi.apart ops ok = true := fun k ok hk hki hun hno => by
        refine hfree k ok hk hki ?_ hno
        by_cases hjk : j = k
        · subst hjk; exact hjun
        · rw [getD_set_ne true hjk] at hun; exact hun
      have hd' : ∀ d ∈ ds, (listed.setIfInBounds j true).getD d true = false → Region.reachB md ops i n d = true := fun d hm hun => by
        refine hd d hm ?_
        by_cases hjk : j = d
        · subst hjk; exact hjun
        · rw [getD_set_ne true hjk] at hun; exact hun
      refine wpOp_mono (fun a' w' h3 => ⟨h3.2.1, ih (listed.setIfInBounds j true) a' w' hfree' (hc.set hj) hd' (ready_mono hr (Ne.symm hji)) h3.1 (h3.2.1 hjd hS) ?_⟩) h2
      rw [Array.setIfInBounds_comm _ _ hji]
      exact h3.2.2
theorem wpAnyLast_any {i : Nat} {oi : Oper} {v : Value} (hi : ops[i]? = some oi) (hsel : ∀ (j : Nat) (o : Oper) cs b, ops[j]? = some o → o.op ≠ .select cs b)
    (hQ : ∀ c a w, Q (.panic c) (a.put oi.dst v) w → Q (.panic c) a w) :
    ∀ (fuel : Nat) (listed : Array Bool) (a : Act) (w : World),
      (∀ j oj, ops[j]? = some oj → j ≠ i → listed.getD j true = false → (∀ e ∈ oj.after, Region.binds md e = true → e.on ≠ i) → oi.apart ops oj = true) →
      i ∈ Region.ready md ops listed → Yields P ops oi v a →
      wpAnyLast P md ops Q S ds fuel (listed.setIfInBounds i true) (a.put oi.dst v) w → wpAnyLast P md ops Q S ds (fuel + 1) listed a w := by
  intro fuel
  induction fuel with
  | zero =>
    intro listed a w _ hr hy H
    refine ⟨fun h => (by rw [h] at hr; cases hr), fun j hj => ?_⟩
    by_cases hji : j = i
    · subst hji; exact (hy.yieldsIf (S := fun _ => True)).wpOp hi trivial ⟨fun _ h => h, H⟩
    · have := ready_mono hj hji
      rw [H.1] at this
      cases this
  | succ fuel ih =>
    intro listed a w hfree hr hy H
    refine ⟨fun h => (by rw [h] at hr; cases hr), fun j hj => ?_⟩
    by_cases hji : j = i
    · subst hji; exact (hy.yieldsIf (S := fun _ => True)).wpOp hi trivial ⟨fun _ h => h, H⟩
    · have h1 := H.2 j (ready_mono hj hji)
      obtain ⟨hjun, oj, hoj, hall⟩ := mem_ready.1 hj
      have hiun := (mem_ready.1 hr).1
      have hnot : ∀ e ∈ oj.after, Region.binds md e = true → e.on ≠ i := fun e he hb heq => by
        have h1 := hall e he hb
        rw [heq] at h1
        rcases Nat.lt_or_ge i listed.size with h' | h'
        · simp [h'] at hiun h1; rw [hiun] at h1; cases h1
        · simp [Array.getElem?_eq_none h'] at h1
      have h2 := wpOp_put hoj (hfree j oj hoj hji hjun hnot) (fun cs b => hsel i oi cs b hi) (fun cs b => hsel j oj cs b hoj) hQ hy h1
      have hfree' : ∀ k ok, ops[k]? = some ok → k ≠ i → (listed.setIfInBounds j true).getD k true = false →
          (∀ e ∈ ok.after, Region.binds md e = true → e.on ≠ i) → oi.apart ops ok = true := fun k ok hk hki hun hno => by
        refine hfree k ok hk hki ?_ hno
        by_cases hjk : j = k
        · subst hjk; exact hjun
        · rw [getD_set_ne true hjk] at hun; exact hun
      refine wpOp_mono (fun a' w' h3 => ⟨h3.2.1, ih (listed.setIfInBounds j true) a' w' hfree' (ready_mono hr (Ne.symm hji)) h3.1 ?_⟩) h2
      rw [Array.setIfInBounds_comm _ _ hji]
      exact h3.2.2
theorem wpAnyLast_take {i : Nat} {oi : Oper} {v : Value} {fuel : Nat} {listed : Array Bool} {a : Act} {w : World} (hi : ops[i]? = some oi)
    (hs : Region.noSelect ops = true) (hf : Region.free md ops listed i = true) (hr : (Region.ready md ops listed).contains i = true)
    (hc : Region.closedB md ops listed = true) (hl : Region.lastB md ops listed ds i = true)
    (hQ : ∀ c a w, Q (.panic c) (a.put oi.dst v) w → Q (.panic c) a w) (hy : YieldsIf P ops S oi v a) (hS : S w)
    (h : wpAnyLast P md ops Q S ds fuel (listed.setIfInBounds i true) (a.put oi.dst v) w) : wpAnyLast P md ops Q S ds (fuel + 1) listed a w :=
  wpAnyLast_first hi (Region.noSelect_spec hs) hQ ops.size fuel listed a w (Region.free_spec hi hf) (Region.closedB_spec hc)
    (fun d hm hun => by have := List.all_eq_true.1 hl d hm; rw [hun] at this; simpa using this) (by simpa using hr) hy hS h
theorem wpAnyLast_all {rs : List Nat} {fuel : Nat} {listed : Array Bool} {a : Act} {w : World} (hr : Region.ready md ops listed = rs) (hne : rs ≠ [])
    (h : ∀ i ∈ rs, wpOp P ops Q i (fun a' w' => (i ∉ ds → S w → S w') ∧ wpAnyLast P md ops Q S ds fuel (listed.setIfInBounds i true) a' w') a w) : wpAnyLast P md ops Q S ds (fuel + 1) listed a w :=
  ⟨fun h0 => absurd (hr ▸ h0) hne, hr ▸ h⟩
theorem wpAnyLast_done {listed : Array Bool} {a : Act} {w : World} (hr : Region.ready md ops listed = []) (h : Q .normal a w) :
    ∀ fuel, wpAnyLast P md ops Q S ds fuel listed a w
  | 0 => ⟨hr, h⟩
  | _ + 1 => ⟨fun _ => h, by rw [hr]; simp⟩
theorem wp_region_last {id : Nat} {a : Act} {w : World} (hm : P.follows .mixedOrders = true)
    (h : wpAnyLast P .any ops Q S ds ops.size (Array.replicate ops.size false) a { w with drawn := w.drawn + 1 }) : (Code.region id ops true).wp P Q a w :=
  wp_region_any hm (wpAny_of_last _ _ _ _ h)
end
section
variable {P : Program} {ops : Array Oper} {Q : Exit → Act → World → Prop} {md : Region.Mode} {S : World → Prop} {ds : List Nat}
def AllReadyL (P : Program) (md : Region.Mode) (ops : Array Oper) (Q : Exit → Act → World → Prop) (S : World → Prop) (ds : List Nat) (fuel : Nat) (listed : Array Bool) (a : Act) (w : World) (rs : List Nat) : Prop :=
  ∀ i ∈ rs, wpOp P ops Q i (fun a' w' => (i ∉ ds → S w → S w') ∧ wpAnyLast P md ops Q S ds fuel (listed.setIfInBounds i true) a' w') a w
theorem AllReadyL.nil {fuel : Nat} {listed : Array Bool} {a : Act} {w : World} : AllReadyL P md ops Q S ds fuel listed a w [] := fun _ h => by cases h
theorem AllReadyL.cons {fuel : Nat} {listed : Array Bool} {a : Act} {w : World} {i : Nat} {o : Oper} {rs : List Nat} (ho : ops[i]? = some o) (hd : i ∉ ds)
    (h : ∀ K' : Act → World → Prop, Shut (∀ a w, S w → (S w → wpAnyLast P md ops Q S ds fuel (listed.setIfInBounds i true) a w) → K' a w) → if Region.wanted o (yielded ops a.tmps) = true then Oper.wp P o a w K' Q else K' (a.put o.dst undef) w)
    (hs : AllReadyL P md ops Q S ds fuel listed a w rs) : AllReadyL P md ops Q S ds fuel listed a w (i :: rs) := fun j hj => by
  rcases List.mem_cons.1 hj with rfl | hj
  · exact wpOp_step ho (fun K' hK => h K' (fun a w hS hW => hK a w ⟨fun _ _ => hS, hW hS⟩))
  · exact hs j hj
theorem AllReadyL.cons_last {fuel : Nat} {listed : Array Bool} {a : Act} {w : World} {i : Nat} {o : Oper} {rs : List Nat} (ho : ops[i]? = some o) (hd : i ∈ ds)
    (h : ∀ K' : Act → World → Prop, Shut (∀ a w, wpAnyLast P md ops Q S ds fuel (listed.setIfInBounds i true) a w → K' a w) → if Region.wanted o (yielded ops a.tmps) = true then Oper.wp P o a w K' Q else K' (a.put o.dst undef) w)
    (hs : AllReadyL P md ops Q S ds fuel listed a w rs) : AllReadyL P md ops Q S ds fuel listed a w (i :: rs) := fun j hj => by
  rcases List.mem_cons.1 hj with rfl | hj
  · exact wpOp_step ho (fun K' hK => h K' (fun a w hW => hK a w ⟨fun hn => absurd hd hn, hW⟩))
  · exact hs j hj
theorem wpAnyLast_ready {rs : List Nat} {fuel : Nat} {listed : Array Bool} {a : Act} {w : World} (hr : Region.ready md ops listed = rs) (hne : rs ≠ [])
    (h : AllReadyL P md ops Q S ds fuel listed a w rs) : wpAnyLast P md ops Q S ds (fuel + 1) listed a w := wpAnyLast_all hr hne h
theorem start_ {id n : Nat} {a : Act} {w : World} (l : Array Bool) (hm : P.follows .mixedOrders = true) (hn : ops.size = n) (hl : Array.replicate n false = l) (hS : S w.drew)
    (h : S w.drew → wpAnyLast P .any ops Q S ds n l a w.drew) : (Code.region id ops true).wp P Q a w := by
  subst hn
  subst hl
  exact wp_region_last hm (h hS)
def takeB (md : Region.Mode) (ops : Array Oper) (ds : List Nat) (l l' : Array Bool) (i : Nat) : Bool :=
  Region.noSelect ops && Region.free md ops l i && (Region.ready md ops l).contains i && Region.closedB md ops l && Region.lastB md ops l ds i && (l.setIfInBounds i true == l')
theorem take_ {i : Nat} {N : Option Tmp} {oi : Oper} {v : Value} {fuel : Nat} {l : Array Bool} {a : Act} {w : World} (l' : Array Bool) (hi : ops[i]? = some oi) (hN : oi.dst = N) (hc : takeB md ops ds l l' i = true)
    (hQ : ∀ c a w, Q (.panic c) (a.put oi.dst v) w → Q (.panic c) a w) (hy : YieldsIf P ops S oi v a) (hS : S w) {a' : Act} (ha : a.put N v = a')
    (h : wpAnyLast P md ops Q S ds fuel l' a' w) : wpAnyLast P md ops Q S ds (fuel + 1) l a w := by
  subst ha
  subst hN
  simp only [takeB, Bool.and_eq_true, beq_iff_eq] at hc
  obtain ⟨⟨⟨⟨⟨h1, h2⟩, h3⟩, h4⟩, h5⟩, h6⟩ := hc
  subst h6
  exact wpAnyLast_take hi h1 h2 h3 h4 h5 hQ hy hS h
def anyB (md : Region.Mode) (ops : Array Oper) (l l' : Array Bool) (i : Nat) : Bool :=
  Region.noSelect ops && Region.free md ops l i && (Region.ready md ops l).contains i && (l.setIfInBounds i true == l')
theorem pure_ {i : Nat} {N : Option Tmp} {oi : Oper} {v : Value} {fuel : Nat} {l : Array Bool} {a : Act} {w : World} (l' : Array Bool) (hi : ops[i]? = some oi) (hN : oi.dst = N) (hc : anyB md ops l l' i = true)
    (hQ : ∀ c a w, Q (.panic c) (a.put oi.dst v) w → Q (.panic c) a w) (hy : Yields P ops oi v a) {a' : Act} (ha : a.put N v = a')
    (h : wpAnyLast P md ops Q S ds fuel l' a' w) : wpAnyLast P md ops Q S ds (fuel + 1) l a w := by
  subst ha
  subst hN
  simp only [anyB, Bool.and_eq_true, beq_iff_eq] at hc
  obtain ⟨⟨⟨h1, h2⟩, h3⟩, h6⟩ := hc
  subst h6
  exact wpAnyLast_any hi (Region.noSelect_spec h1) hQ fuel l a w (Region.free_spec hi h2) (by simpa using h3) hy h
def readyB (md : Region.Mode) (ops : Array Oper) (l l' : Array Bool) (i : Nat) : Bool := (Region.ready md ops l == [i]) && (l.setIfInBounds i true == l')
theorem one_ {i : Nat} {N : Option Tmp} {oi : Oper} {fuel : Nat} {l : Array Bool} {a : Act} {w : World} (l' : Array Bool) (hi : ops[i]? = some oi) (hN : oi.dst = N) (hc : readyB md ops l l' i = true) (hd : i ∉ ds)
    (h : ∀ K : Act → World → Prop, Shut (∀ a' w', S w' → (S w' → wpAnyLast P md ops Q S ds fuel l' a' w') → K a' w') → if Region.wanted oi (yielded ops a.tmps) = true then Oper.wp P oi a w K Q else K (a.put N undef) w) :
    wpAnyLast P md ops Q S ds (fuel + 1) l a w := by
  subst hN
  simp only [readyB, Bool.and_eq_true, beq_iff_eq] at hc
  obtain ⟨h1, h2⟩ := hc
  subst h2
  exact wpAnyLast_ready h1 (by simp) (AllReadyL.cons hi hd (fun K hK => h K hK) AllReadyL.nil)
theorem last_ {i : Nat} {N : Option Tmp} {oi : Oper} {fuel : Nat} {l : Array Bool} {a : Act} {w : World} (l' : Array Bool) (hi : ops[i]? = some oi) (hN : oi.dst = N) (hc : readyB md ops l l' i = true) (hd : i ∈ ds)
    (h : ∀ K : Act → World → Prop, Shut (∀ a' w', wpAnyLast P md ops Q S ds fuel l' a' w' → K a' w') → if Region.wanted oi (yielded ops a.tmps) = true then Oper.wp P oi a w K Q else K (a.put N undef) w) :
    wpAnyLast P md ops Q S ds (fuel + 1) l a w := by
  subst hN
  simp only [readyB, Bool.and_eq_true, beq_iff_eq] at hc
  obtain ⟨h1, h2⟩ := hc
  subst h2
  exact wpAnyLast_ready h1 (by simp) (AllReadyL.cons_last hi hd (fun K hK => h K hK) AllReadyL.nil)
theorem done_ {l : Array Bool} {a : Act} {w : World} {n : Nat} (hr : (Region.ready md ops l == []) = true) (h : Q .normal a w) : wpAnyLast P md ops Q S ds n l a w := wpAnyLast_done (by simpa using hr) h n
theorem two_ {i j : Nat} {Ni Nj : Option Tmp} {oi oj : Oper} {fuel : Nat} {l : Array Bool} {a : Act} {w : World} (li lj : Array Bool) (hi : ops[i]? = some oi) (hj : ops[j]? = some oj) (hNi : oi.dst = Ni) (hNj : oj.dst = Nj)
    (hc : (Region.ready md ops l == [i, j] && l.setIfInBounds i true == li && l.setIfInBounds j true == lj) = true) (hdi : i ∉ ds) (hdj : j ∉ ds)
    (h1 : ∀ K : Act → World → Prop, Shut (∀ a' w', S w' → (S w' → wpAnyLast P md ops Q S ds fuel li a' w') → K a' w') → if Region.wanted oi (yielded ops a.tmps) = true then Oper.wp P oi a w K Q else K (a.put Ni undef) w)
    (h2 : ∀ K : Act → World → Prop, Shut (∀ a' w', S w' → (S w' → wpAnyLast P md ops Q S ds fuel lj a' w') → K a' w') → if Region.wanted oj (yielded ops a.tmps) = true then Oper.wp P oj a w K Q else K (a.put Nj undef) w) :
    wpAnyLast P md ops Q S ds (fuel + 1) l a w := by
  subst hNi
  subst hNj
  simp only [Bool.and_eq_true, beq_iff_eq] at hc
  obtain ⟨⟨h3, h4⟩, h5⟩ := hc
  subst h4
  subst h5
  exact wpAnyLast_ready h3 (by simp) (AllReadyL.cons hi hdi (fun K hK => h1 K hK) (AllReadyL.cons hj hdj (fun K hK => h2 K hK) AllReadyL.nil))
end
end Go.Proofs.YthgojbdpmcccaaaGreatDoorW.PrintLast
end
section
namespace Go.Proofs.YthgojbdpmcccaaaGreatDoorW.PrintWords
open Go.RowKit
namespace Kd
def tag {α : Type} (f : Nat → Nat) (d : Kd α) : Kd (α × Nat) where
  sz := d.sz
  E := d.E
  K := fun w x cs => d.K w x.1 cs
  M := fun w base ok x cs => d.M w base (fun k => ok k ∧ f k = x.2) x.1 cs
  K_len := fun h => d.K_len h
  K_one := fun h => d.K_one h
  K_below := fun hb h => d.K_below hb h
  K_of_M := fun h => d.K_of_M h
  M_mono := fun hok h => d.M_mono (fun k hk => ⟨hok k hk.1, hk.2⟩) h
  M_bound := fun h => d.M_mono (fun _ hk => ⟨⟨hk.1.1, hk.2⟩, hk.1.2⟩) (d.M_bound h)
  M_move := fun hm h => d.M_move (fun k hk => hm k hk.1) h
  M_lower := fun hb h => d.M_lower hb h
def bare {α : Type} (d : Kd α) : Kd α where
  sz := d.sz
  E := d.E
  K := d.K
  M := fun w base _ x cs => d.M w base (fun _ => False) x cs
  K_len := fun h => d.K_len h
  K_one := fun h => d.K_one h
  K_below := fun hb h => d.K_below hb h
  K_of_M := fun h => d.K_of_M h
  M_mono := fun _ h => h
  M_bound := fun h => h
  M_move := fun _ h => d.M_move (fun _ hk => hk.elim) h
  M_lower := fun hb h => d.M_lower hb h
def raw (sz : Nat) : Kd (List Value) where
  sz := sz
  E := []
  K := fun _ x cs => cs = x ∧ cs.length = sz ∧ ∀ u ∈ cs, u.oneCell' = true
  M := fun _ _ _ x cs => cs = x ∧ cs.length = sz ∧ ∀ u ∈ cs, u.oneCell' = true
  K_len := fun h => h.2.1
  K_one := fun h => h.2.2
  K_below := fun _ h => h
  K_of_M := fun h => h
  M_mono := fun _ h => h
  M_bound := fun h => h
  M_move := fun _ h => h
  M_lower := fun _ h => h
def S {α : Type} (d : Kd α) (e : Nat) (w : World) (base : Nat) (ok : Nat → Prop) (v : Value) (xs : List α) : Prop := ∃ f, (tag f d).R e w base ok v xs.zipIdx
section
variable {α β : Type} {d : Kd α} {d' : Kd β} {e e' : Nat} {w w1 W : World} {base b : Nat} {ok ok' okv oku : Nat → Prop} {u v : Value} {xs : List α} {ys : List β}
end
section
variable {α β : Type} {d : Kd α} {d' : Kd β} {e e' g : Nat} {w w1 W : World} {base b : Nat} {ok ok' okv oku : Nat → Prop} {u v : Value} {xs : List α} {ys : List β}
end
section
variable {P : Program} {ops : Array Oper} {rest : List Oper} {o : Oper} {a : Act} {Q : Exit → Act → World → Prop} {Kc : Act → World → Prop} {α : Type}
end
def gap {α : Type} (f : Nat → Nat) (d : Kd α) (i : Nat) (c : List Value) : Kd (α × Nat) where
  sz := d.sz
  E := d.E
  K := fun w x cs => (x.2 = i → cs = c ∧ cs.length = d.sz ∧ ∀ u ∈ cs, u.oneCell' = true) ∧ (x.2 ≠ i → d.K w x.1 cs)
  M := fun w base ok x cs => (x.2 = i → cs = c ∧ cs.length = d.sz ∧ ∀ u ∈ cs, u.oneCell' = true) ∧ (x.2 ≠ i → d.M w base (fun k => ok k ∧ f k = x.2) x.1 cs)
  K_len := fun {w x cs} h => by
    by_cases hx : x.2 = i
    · exact (h.1 hx).2.1
    · exact d.K_len (h.2 hx)
  K_one := fun {w x cs} h => by
    by_cases hx : x.2 = i
    · exact (h.1 hx).2.2
    · exact d.K_one (h.2 hx)
  K_below := fun hb h => ⟨h.1, fun hx => d.K_below hb (h.2 hx)⟩
  K_of_M := fun h => ⟨h.1, fun hx => d.K_of_M (h.2 hx)⟩
  M_mono := fun hok h => ⟨h.1, fun hx => d.M_mono (fun k hk => ⟨hok k hk.1, hk.2⟩) (h.2 hx)⟩
  M_bound := fun h => ⟨h.1, fun hx => d.M_mono (fun _ hk => ⟨⟨hk.1.1, hk.2⟩, hk.1.2⟩) (d.M_bound (h.2 hx))⟩
  M_move := fun hm h => ⟨h.1, fun hx => d.M_move (fun k hk => hm k hk.1) (h.2 hx)⟩
  M_lower := fun hb h => ⟨h.1, fun hx => d.M_lower hb (h.2 hx)⟩
def H {α : Type} (d : Kd α) (e : Nat) (w : World) (base : Nat) (ok : Nat → Prop) (v : Value) (xs : List α) (i : Int) (oki : Nat → Prop) (c : List Value) : Prop :=
  (∀ k, oki k → ok k) ∧ ∃ f, (gap f d i.toNat c).R e w base (fun k => ok k ∧ ¬ oki k) v xs.zipIdx
section
variable {α β : Type} {d : Kd α} {e e' g n cap : Nat} {w w1 W : World} {base : Nat} {ok ok' oki okp : Nat → Prop} {u v : Value} {xs : List α} {i : Int} {c : List Value}
end
section
variable {P : Program} {ops : Array Oper} {rest : List Oper} {o : Oper} {a : Act} {Q : Exit → Act → World → Prop} {α : Type}
end
end Kd
end Go.Proofs.YthgojbdpmcccaaaGreatDoorW.PrintWords
end
section
namespace Go.Proofs.YthgojbdpmcccaaaGreatDoorW.PrintWords
open Go.RowKit
namespace Kd
theorem reps_one {α : Type} {R : α → List Value → Prop} {size : Nat} {ps : List α} {cs : List Value} (h : Reps R size ps cs) (hs0 : 0 < size) (hR : ∀ p c, R p c → ∀ u ∈ c, u.oneCell' = true) : ∀ u ∈ cs, u.oneCell' = true := by
  intro u hu
  obtain ⟨q, hq, rfl⟩ := List.mem_iff_getElem.1 hu
  have hql : q / size < ps.length := by
    rw [Nat.div_lt_iff_lt_mul hs0, ← h.1]
    exact hq
  refine hR _ _ (h.2 (q / size) _ (List.getElem?_eq_getElem hql)) _ ?_
  rw [List.mem_iff_getElem?]
  refine ⟨q % size, ?_⟩
  rw [List.getElem?_take, if_pos (Nat.mod_lt _ hs0), List.getElem?_drop, Nat.mul_comm, Nat.div_add_mod, List.getElem?_eq_getElem hq]
def arr {α : Type} (n : Nat) (d : Kd α) (hs : 0 < d.sz) : Kd (List α) where
  sz := n * d.sz
  E := d.E
  K := fun w xs cs => xs.length = n ∧ Reps (d.K w) d.sz xs cs
  M := fun w base ok xs cs => xs.length = n ∧ Reps (d.M w base ok) d.sz xs cs
  K_len := fun h => by rw [← h.1]; exact h.2.1
  K_one := fun h => reps_one h.2 hs (fun _ _ hk => d.K_one hk)
  K_below := fun hb h => ⟨h.1, h.2.imp_ (fun _ _ hk => d.K_below hb hk)⟩
  K_of_M := fun h => ⟨h.1, h.2.imp_ (fun _ _ hk => d.K_of_M hk)⟩
  M_mono := fun hok h => ⟨h.1, h.2.imp_ (fun _ _ hk => d.M_mono hok hk)⟩
  M_bound := fun h => ⟨h.1, h.2.imp_ (fun _ _ hk => d.M_bound hk)⟩
  M_move := fun hm h => ⟨h.1, h.2.imp_ (fun _ _ hk => d.M_move hm hk)⟩
  M_lower := fun hb h => ⟨h.1, h.2.imp_ (fun _ _ hk => d.M_lower hb hk)⟩
section
variable {α : Type} {n : Nat} {d : Kd α} {hs : 0 < d.sz} {w : World} {base : Nat} {ok : Nat → Prop} {xs : List α} {cs : List Value}
end
section
variable {α : Type} {n : Nat} {enc : α → Value} {h1 : ∀ x, (enc x).oneCell' = true} {hs : 0 < (scalar enc h1).sz} {w : World} {base : Nat} {ok : Nat → Prop} {xs : List α} {cs : List Value}
end
end Kd
end Go.Proofs.YthgojbdpmcccaaaGreatDoorW.PrintWords
end
section
namespace Go.Proofs.YthgojbdpmcccaaaGreatDoorW.PrintWords
open Go.RowKit
namespace Kd
structure Heap {α : Type} (d : Kd α) : Prop where
  K : ∀ {w w1 : World} {x : α} {cs : List Value}, (∀ k, k < w.heap.size → w1.heap[k]? = w.heap[k]?) → d.K w x cs → d.K w1 x cs
theorem cell_heap {w w1 : World} (hb : ∀ k, k < w.heap.size → w1.heap[k]? = w.heap[k]?) {a : Addr} {v : Value} (h : w.cell? a = some v) : w1.cell? a = some v := by
  have := hb a.block (World.block_lt_of_cell? w a h)
  simpa [World.cell?, this] using h
theorem Heap.C {α : Type} {d : Kd α} (hd : Heap d) {w w1 : World} {A : Option Addr} {n : Nat} {xs : List α} (hb : ∀ k, k < w.heap.size → w1.heap[k]? = w.heap[k]?) (h : d.C w A n xs) : d.C w1 A n xs :=
  ⟨h.1, h.2.1, fun hn => by
    obtain ⟨ad, e, hc⟩ := h.2.2 hn
    refine ⟨ad, e, fun j p hj => ?_⟩
    obtain ⟨c, hs, hr, hcell⟩ := hc j p hj
    exact ⟨c, hs, hd.K hb hr, fun i u hu => cell_heap hb (hcell i u hu)⟩⟩
section
variable {α : Type} {d : Kd α} {e base g n c : Nat} {ok : Nat → Prop} {w w0 W : World} {A : Option Addr} {xs : List α}
end
end Kd
end Go.Proofs.YthgojbdpmcccaaaGreatDoorW.PrintWords
end
section
namespace Go.Proofs.YthgojbdpmcccaaaGreatDoorW.PrintWords
open Go.RowKit
def Kept (w W : World) (S : Nat → Prop) : Prop := w.heap.size ≤ W.heap.size ∧ ∀ i, i < w.heap.size → ¬ S i → W.heap[i]? = w.heap[i]?
section
variable {w W W2 : World} {S S2 S' : Nat → Prop}
theorem Kept.refl (w : World) (S : Nat → Prop) : Kept w w S := ⟨Nat.le_refl _, fun _ _ _ => rfl⟩
theorem Kept.of_below (h : Below w.heap.size w W) (S : Nat → Prop) : Kept w W S := ⟨h.size, fun i hi _ => h.block i hi⟩
theorem Kept.mono (h : Kept w W S) (hs : ∀ k, S k → S' k) : Kept w W S' := ⟨h.1, fun i hi hn => h.2 i hi (fun hk => hn (hs i hk))⟩
theorem Kept.then_ (h : Kept w W S) (k : Kept W W2 S2) (hs : ∀ k, S2 k → S k ∨ w.heap.size ≤ k) : Kept w W2 S :=
  ⟨Nat.le_trans h.1 k.1, fun i hi hn => (k.2 i (Nat.lt_of_lt_of_le hi h.1) (fun h2 => (hs i h2).elim hn (fun h3 => by omega))).trans (h.2 i hi hn)⟩
theorem Kept.below (h : Kept w W S) (hb : Below W.heap.size W W2) : Kept w W2 S := h.then_ (Kept.of_below hb (fun _ => False)) (fun _ hk => hk.elim)
theorem Kept.alloc (h : Kept w W S) (o : Obj) : Kept w (W.alloc o) S := h.below (below_alloc (Below.refl _ _) o)
theorem Kept.drew (h : Kept w W S) : Kept w W.drew S := h
theorem Kept.drewN (h : Kept w W S) (m : Nat) : Kept w (W.drewN m) S := h
theorem Kept.setCell (h : Kept w W S) {p : Addr} (hp : S p.block ∨ w.heap.size ≤ p.block) (u : Value) : Kept w (W.setCell p u) S :=
  h.then_ (S2 := fun k => k = p.block) ⟨by simp [World.setCell], fun i _ hn => Below.heap_setCell W p u i hn⟩ (fun k hk => by rw [hk]; exact hp)
end
namespace Kd
section
variable {α : Type} {d : Kd α} {e base n c : Nat} {ok oki S S2 : Nat → Prop} {w w0 W W1 W2 : World} {v : Value} {A : Option Addr} {xs : List α} {i : Int} {cs : List Value}
end
end Kd
end Go.Proofs.YthgojbdpmcccaaaGreatDoorW.PrintWords
end
section
namespace Go.Proofs.YthgojbdpmcccaaaGreatDoorW.PrintWords
open Go.RowKit
def Foot (P : World → Prop) (W : World) (ok : Nat → Prop) : Prop := ∀ W' : World, (∀ k, ok k → k < W.heap.size → W'.heap[k]? = W.heap[k]?) → P W'
theorem heap_lt {W W1 : World} {k : Nat} (h : W1.heap[k]? = W.heap[k]?) (hlt : k < W.heap.size) : k < W1.heap.size := by
  rw [Array.getElem?_eq_getElem hlt] at h
  exact (Array.getElem?_eq_some_iff.1 h).1
namespace Foot
variable {P Q : World → Prop} {W W1 : World} {ok ok' : Nat → Prop}
theorem now (h : Foot P W ok) : P W := h W (fun _ _ _ => rfl)
theorem mono (h : Foot P W ok) (hok : ∀ k, ok k → ok' k) : Foot P W ok' := fun W' hW => h W' (fun k hk hlt => hW k (hok k hk) hlt)
theorem bound (h : Foot P W ok) : Foot P W (fun k => ok k ∧ k < W.heap.size) := fun W' hW => h W' (fun k hk hlt => hW k ⟨hk, hlt⟩ hlt)
theorem step (h : Foot P W ok) (hm : ∀ k, ok k → k < W.heap.size → W1.heap[k]? = W.heap[k]?) : Foot P W1 ok := fun W' hW => h W' (fun k hk hlt => (hW k hk (heap_lt (hm k hk hlt) hlt)).trans (hm k hk hlt))
theorem imp (h : Foot P W ok) (hi : ∀ W', P W' → Q W') : Foot Q W ok := fun W' hW => hi W' (h W' hW)
theorem old (h : Foot P W ok) (hb : Below W.heap.size W W1) : Foot P W1 (fun k => ok k ∧ k < W.heap.size) := (h.bound).step (fun k _ hlt => hb.block k hlt)
end Foot
namespace Kd
def F {α : Type} (d : Kd α) (W : World) (ok : Nat → Prop) (A : Option Addr) (n : Nat) (xs : List α) : Prop := Foot (fun W => d.C W A n xs) W ok
def FK {α : Type} (d : Kd α) (W : World) (ok : Nat → Prop) (x : α) (c : List Value) : Prop := Foot (fun W => d.K W x c) W ok
section
variable {α β : Type} {d : Kd α} {e base n n' cc g N : Nat} {ok ok' okp S : Nat → Prop} {w w0 w1 W W1 : World} {A A' : Option Addr} {u v v1 : Value} {xs : List α} {xs' : List β} {d' : Kd β} {x : α} {c : List Value}
end
end Kd
end Go.Proofs.YthgojbdpmcccaaaGreatDoorW.PrintWords
end
section
namespace Go.Proofs.YthgojbdpmcccaaaGreatDoorW.PrintWords
open Go.RowKit
namespace Kd
def chunks (sz : Nat) (n : Nat) (inner : List Value) : List (List Value) := (List.range n).map fun j => (inner.drop (j * sz)).take sz
section
variable {α : Type} {d : Kd α} {e base n cc g : Nat} {ok ok' okp S : Nat → Prop} {w w1 W W1 : World} {A : Option Addr} {u v v1 : Value} {xs : List α} {x : α} {c : List Value}
def N {α : Type} (d : Kd α) (e : Nat) (w : World) (base : Nat) (ok : Nat → Prop) (v : Value) (xs : List α) : Prop :=
  (∀ k, v.ownBlock = some k → ok k) ∧ ∃ rows : List (List Value), rows.length = xs.length ∧ (raw d.sz).R e w base (fun k => some k = v.ownBlock) v rows ∧ ∀ (j : Nat) (x : α) (c : List Value), xs[j]? = some x → rows[j]? = some c → FK d w (fun k => ok k ∧ some k ≠ v.ownBlock) x c
end
end Kd
end Go.Proofs.YthgojbdpmcccaaaGreatDoorW.PrintWords
end
section
namespace Go.Proofs.YthgojbdpmcccaaaGreatDoorW.PrintMore
open Go.RowKit Go.Proofs.YthgojbdpmcccaaaGreatDoorW.PrintWords
namespace Kd
open Go.Proofs.YthgojbdpmcccaaaGreatDoorW.PrintWords.Kd
end Kd
namespace Kd
open Go.Proofs.YthgojbdpmcccaaaGreatDoorW.PrintWords.Kd
section
variable {α : Type} {d : Kd α} {e base g N : Nat} {ok : Nat → Prop} {W w1 : World} {u v : Value} {xs : List α}
end
end Kd
end Go.Proofs.YthgojbdpmcccaaaGreatDoorW.PrintMore
namespace Go.Proofs.YthgojbdpmcccaaaGreatDoorW.PrintWords
open Go.RowKit
section
variable {P : Program} {ops : Array Oper} {rest : List Oper} {o : Oper} {a : Act} {Q : Exit → Act → World → Prop} {W : World}
end
def mx (a b : Int) : Int := if a < b then b else a
def shr (k : IntKind) (x y : Int) : Int := x / 2 ^ min y.toNat k.bits
namespace Kd
section
variable {α : Type} {d : Kd α} {e base : Nat} {ok : Nat → Prop} {W w1 : World} {v : Value} {xs : List α}
end
section
variable {α : Type} {d : Kd α} {e base g n cap : Nat} {ok oki okp : Nat → Prop} {W : World} {xs : List α} {i : Int} {c : List Value}
end
section
variable {α : Type} {d : Kd α} {e base b b' g N : Nat} {ok ok1 : Nat → Prop} {W W2 w1 : World} {u v : Value} {xs ys : List α} {S : Nat → Prop}
end
end Kd
end Go.Proofs.YthgojbdpmcccaaaGreatDoorW.PrintWords
namespace Go.Proofs.YthgojbdpmcccaaaGreatDoorW.PrintWords
open Go.RowKit
namespace Kd
def V {α : Type} (d : Kd α) (_e : Nat) (W : World) (_base : Nat) (ok : Nat → Prop) (v : Value) (xs : List α) : Prop := ∃ A c, v = .slice A xs.length c ∧ xs.length ≤ c ∧ F d W ok A xs.length xs
section
variable {α β : Type} {d : Kd α} {e base base' n m c g N' lo hi : Nat} {ok ok' S : Nat → Prop} {w W w1 : World} {A : Option Addr} {ad : Addr} {u v v1 : Value} {xs : List α}
end
end Kd
end Go.Proofs.YthgojbdpmcccaaaGreatDoorW.PrintWords
end
section
namespace Go.Proofs.YthgojbdpmcccaaaGreatDoor.G
open Go.RowKit Go.Proofs.YthgojbdpmcccaaaGreatDoorW.PrintWords Go.Proofs.YthgojbdpmcccaaaGreatDoorW.PrintLast Go.Proofs.YthgojbdpmcccaaaGreatDoorW.PrintMore
def low1 (c : Int) : Int := if 65 ≤ c then (if c ≤ 90 then c + 32 else c) else c
def web_lower.f (a0 : ByteArray) : Option ByteArray := if a0.size ≤ 140737488351232 then some (strOfNums ((bytesOf a0).map low1)) else none
end Go.Proofs.YthgojbdpmcccaaaGreatDoor.G
end
section
namespace Go.Proofs.YthgojbdpmcccaaaGreatDoor.G
open Go.RowKit Go.Proofs.YthgojbdpmcccaaaGreatDoorW.PrintWords Go.Proofs.YthgojbdpmcccaaaGreatDoorW.PrintLast Go.Proofs.YthgojbdpmcccaaaGreatDoorW.PrintMore
set_option linter.unusedVariables false
set_option linter.unusedSimpArgs false
theorem row_set (w : World) (g i : Nat) (cur : Array Value) (t : TypeId) (fr : Nat × Nat) (v : Value) (hg : w.heap[g]? = some (.cells cur t fr)) :
    (w.setCell ⟨g, i, none⟩ v).heap[g]? = some (.cells (cur.setIfInBounds i v) t fr) := by
  rw [setCell_eq_setRow w g i cur t fr v hg]
  have hlt : g < w.heap.size := (Array.getElem?_eq_some_iff.1 hg).1
  simp [World.setRow, Array.getElem?_modify, hg]
def Done (a0 : ByteArray) (n : Nat) (cur : Array Value) (fz : Nat × Nat) : Prop :=
  cur.size ≤ fz.1 ∧ ∀ j, j < a0.size → cur[j]? = some (.int .u8 (if j < n then low1 (bt a0 (j : Int)) else bt a0 (j : Int)))
theorem Done.step {a0 : ByteArray} {n : Nat} {cur : Array Value} {fz : Nat × Nat} (h : Done a0 n cur fz) (hn : n < a0.size) : Done a0 (n + 1) (cur.setIfInBounds n (.int .u8 (low1 (bt a0 (n : Int))))) fz := by
  refine ⟨by simpa using h.1, fun j hj => ?_⟩
  have hs : n < cur.size := (Array.getElem?_eq_some_iff.1 (h.2 n hn)).1
  rw [Array.getElem?_setIfInBounds]
  by_cases e : n = j
  · subst e
    rw [if_pos rfl, if_pos hs, if_pos (Nat.lt_succ_self n)]
  · rw [if_neg e, h.2 j hj]
    by_cases hl : j < n
    · rw [if_pos hl, if_pos (by omega)]
    · rw [if_neg hl, if_neg (by omega)]
theorem Done.same {a0 : ByteArray} {n : Nat} {cur : Array Value} {fz : Nat × Nat} (h : Done a0 n cur fz) (e : low1 (bt a0 (n : Int)) = bt a0 (n : Int)) : Done a0 (n + 1) cur fz := by
  refine ⟨h.1, fun j hj => ?_⟩
  rw [h.2 j hj]
  by_cases hl : j < n
  · rw [if_pos hl, if_pos (by omega)]
  · rw [if_neg hl]
    by_cases hl2 : j < n + 1
    · obtain rfl : j = n := by omega
      rw [if_pos hl2, e]
    · rw [if_neg hl2]
set_option maxHeartbeats 2000000 in
theorem web_lower.calls (a0 : ByteArray) (r : ByteArray) (w : World) (h : web_lower.f a0 = some r) :
    Calls Tryz.prog 96 #[.string a0] w fun e w' => e = .returned (.string r) ∧ Below w.heap.size w w' := by
  have hs0 : a0.size ≤ 140737488351232 ∧ strOfNums ((bytesOf a0).map low1) = r := by
    unfold web_lower.f at h
    split at h
    · rename_i hz; exact ⟨hz, Option.some.inj h⟩
    · cases h
  have hsz := Aside0.mk hs0.1
  have hres := Aside0.mk hs0.2
  clear hs0 h
  have kb := fun W => print_bytes (P := Tryz.prog) 9 23 5 Tryz.underlying9 Tryz.underlying23 Tryz.underlying5 a0 W
  go_enter Tryz.func96, Tryz.ntmps96
  go_wp2
  go_loopw [10] (fun i wr => ∃ (n : Nat) (cur : Array Value) (fz : Nat × Nat), i = .int .i64 n ∧ n ≤ a0.size ∧ wr.heap[w.heap.size]? = some (.cells cur 5 fz) ∧ Aside0 (Below w.heap.size w wr) ∧ Aside0 (Done a0 n cur fz)) (fun i wr => a0.size - (intOf i).toNat)
  case atStart =>
    refine ⟨0, _, _, rfl, Nat.zero_le _, Lib.bytesWorld_at_new w _ a0, ⟨bytes_below (Below.refl _ w) (Nat.le_refl _) _ a0⟩, ⟨⟨Nat.le_refl _, fun j hj => ?_⟩⟩⟩
    rw [if_neg (Nat.not_lt_zero j)]
    have h1 := Lib.bytesWorld_cell w 5 a0 j hj
    simp only [World.cell?, Lib.bytesWorld_at_new] at h1
    have h2 : bt a0 (j : Int) = ((a0.data.toList.getD j 0).toNat : Int) := by
      rw [← rd_bytesOf]
      unfold rd bytesOf
      have hl : j < a0.data.toList.length := by rw [Array.length_toList]; exact hj
      rw [Int.toNat_natCast, List.getD_eq_getElem?_getD, List.getD_eq_getElem?_getD, List.getElem?_map, List.getElem?_eq_getElem hl]
      rfl
    rw [h2]
    simpa using h1
  case round =>
    obtain ⟨n, cur, fz, rfl, hn, hrow, HB, HC⟩ := hrel
    have hw := Aside0.mk (show wrap64 ((n : Int) + 1) = ((n + 1 : Nat) : Int) by have := hsz.out; unfold wrap64; omega)
    by_cases hlt : n < a0.size
    · have hc : wr.cell? ⟨w.heap.size, n, none⟩ = some (.int .u8 (bt a0 (n : Int))) := by
        have := HC.out.2 n hlt
        rw [if_neg (Nat.lt_irrefl n)] at this
        simp [World.cell?, hrow, this]
      have hf : wr.frozen? ⟨w.heap.size, n, none⟩ = false := by
        have h1 := HC.out.1
        have h2 : n < cur.size := (Array.getElem?_eq_some_iff.1 (HC.out.2 n hlt)).1
        simp [World.frozen?, hrow]
        omega
      have q1 : decide ((n : Int) < (a0.size : Int)) = true := decide_eq_true (by omega)
      have q2 : decide (n < a0.size) = true := decide_eq_true hlt
      have p0 : (0 ≤ (n : Int)) = True := eq_true (by omega)
      have q0 : ((n : Int) < (a0.size : Int)) = True := eq_true (by omega)
      by_cases g1 : 65 ≤ bt a0 (n : Int)
      · have b1 : decide (65 ≤ bt a0 (n : Int)) = true := decide_eq_true g1
        by_cases g2 : bt a0 (n : Int) ≤ 90
        · have b2 : decide (bt a0 (n : Int) ≤ 90) = true := decide_eq_true g2
          have hl1 : low1 (bt a0 (n : Int)) = bt a0 (n : Int) + 97 - 65 := by unfold low1; rw [if_pos g1, if_pos g2]; omega
          have HC2 := Aside0.mk (HC.out.step hlt)
          have hrow2 := Aside0.mk (row_set wr w.heap.size n cur _ fz (.int .u8 (low1 (bt a0 (n : Int)))) hrow)
          rw [hl1] at HC2 hrow2
          clear hl1
          go_wp2
          go_roundw
          case rel => exact ⟨n + 1, _, fz, by rw [hw.out], by omega, hrow2.out, ⟨HB.out.setCell (Nat.le_refl _) _⟩, HC2⟩
          case measure => rw [hw.out]; simp only [intOf, Int.toNat_natCast]; omega
        · have b2 : decide (bt a0 (n : Int) ≤ 90) = false := decide_eq_false g2
          have HC2 := Aside0.mk (HC.out.same (by unfold low1; rw [if_pos g1, if_neg g2]))
          clear g1 g2
          go_wp2
          go_roundw
          case rel => exact ⟨n + 1, cur, fz, by rw [hw.out], by omega, hrow, HB, HC2⟩
          case measure => rw [hw.out]; simp only [intOf, Int.toNat_natCast]; omega
      · have b1 : decide (65 ≤ bt a0 (n : Int)) = false := decide_eq_false g1
        have HC2 := Aside0.mk (HC.out.same (by unfold low1; rw [if_neg g1]))
        clear g1
        go_wp2
        go_roundw
        case rel => exact ⟨n + 1, cur, fz, by rw [hw.out], by omega, hrow, HB, HC2⟩
        case measure => rw [hw.out]; simp only [intOf, Int.toNat_natCast]; omega
    · obtain rfl : n = a0.size := by omega
      have q1 : decide ((a0.size : Int) < (a0.size : Int)) = false := decide_eq_false (by omega)
      have hR : ReadsInt wr .u8 (some ⟨w.heap.size, 0, none⟩) a0.size ((bytesOf a0).map low1) := by
        refine ⟨by rw [List.length_map, bytesOf_length], by have := hsz.out; omega, fun _ => ⟨_, rfl, fun j hj => ?_⟩⟩
        rw [add_plain]
        have h1 := HC.out.2 j hj
        rw [if_pos hj] at h1
        have hl : j < (bytesOf a0).length := by rw [bytesOf_length]; exact hj
        simp only [World.cell?, hrow, h1]
        rw [← rd_bytesOf]
        simp [rd, List.getD_eq_getElem?_getD, List.getElem?_map, List.getElem?_eq_getElem hl]
      have kc := fun c => string_of_reads (c := c) Tryz.underlying23 Tryz.underlying5 Tryz.underlying9 hR
      go_wp2
      go_ret
      exact ⟨by rw [← hres.out]; rfl, HB.out⟩
end Go.Proofs.YthgojbdpmcccaaaGreatDoor.G
end
section
namespace Go.Proofs.YthgojbdpmcccaaaGreatDoor.Is
open Go.RowKit Go.Extern.Stop Go.Stop Go.Extern
set_option linter.unusedVariables false
set_option linter.unusedSimpArgs false
theorem isTypeOf (v : Value) (w : World) : (Extern.ReflectliteType.typeOf #[.iface 283 v]).run Tryz.prog w = .ok (.iface 249 (.agg #[.pointer (some ⟨25, 283, none⟩)])) w := by kernel_rfl
theorem isComparable (w : World) : ((Extern.ReflectliteType.method fun t => do Go.Extern.Rtype.noPackHeld "Comparable" t; (fun a => Value.bool a.comparable) <$> typeInfo t) #[.agg #[.pointer (some ⟨25, 283, none⟩)]]).run Tryz.prog w = .ok (.bool true) w := by kernel_rfl
theorem isMethodComparable (v : Value) (w : World) : (Go.method 416 249 v "Comparable").run Tryz.prog w = .ok (238, v) w := by kernel_rfl
theorem isComp : (Tryz.prog.info? 283).map (·.comparable) = some true := by kernel_rfl
theorem isSize : (Tryz.prog.info? 305).map (·.size) = some 1 := by kernel_rfl
theorem noIsE (v : Value) (xT : TypeId) (w : World) : (Instr.typeAssert (.iface 283 v) xT 251 true).run Tryz.prog w = .ok (.tuple #[.nilIface, .bool false]) w := run_typeAssert_lacksB Tryz.underlying251 (by kernel_rfl) (by kernel_rfl) v xT w
theorem noUnwrapE (v : Value) (xT : TypeId) (w : World) : (Instr.typeAssert (.iface 283 v) xT 254 true).run Tryz.prog w = .ok (.tuple #[.nilIface, .bool false]) w := run_typeAssert_lacksB Tryz.underlying254 (by kernel_rfl) (by kernel_rfl) v xT w
theorem noUnwrapsE (v : Value) (xT : TypeId) (w : World) : (Instr.typeAssert (.iface 283 v) xT 256 true).run Tryz.prog w = .ok (.tuple #[.nilIface, .bool false]) w := run_typeAssert_lacksB Tryz.underlying256 (by kernel_rfl) (by kernel_rfl) v xT w
set_option maxRecDepth 100000 in
theorem is_same (a : Addr) (w : World) :
    Calls Tryz.prog 104 #[.iface 283 (.pointer (some a)), .iface 283 (.pointer (some a))] w fun e w' => e = .returned (.bool true) ∧ w' = w := by
  obtain ⟨i, hi, hcmp⟩ := Option.map_eq_some_iff.1 isComp
  obtain ⟨j, hj, hjs⟩ := Option.map_eq_some_iff.1 isSize
  have h8 := @run_callFunc_extern Tryz.prog 153 _ Extern.ReflectliteType.typeOf Tryz.func153 (by kernel_rfl) (by kernel_rfl) (by kernel_rfl) (by kernel_rfl)
  have h32 := @run_callFunc_extern Tryz.prog 238 _ (Extern.ReflectliteType.method fun t => do Go.Extern.Rtype.noPackHeld "Comparable" t; pure (.bool (← typeInfo t).comparable)) Tryz.func238 (by kernel_rfl) (by kernel_rfl) (by kernel_rfl) (by kernel_rfl)
  have tT := isTypeOf
  have cT := isComparable
  have mR := isMethodComparable
  have heq := run_eql_iface_ptr_same (P := Tryz.prog) w a Tryz.underlying98 Tryz.underlying283 hi hcmp hj
  go_enter Tryz.func104, Tryz.ntmps104
  go_wp2
  refine wp_loop_rounds 1 ?_
  rw [rounds_succ]
  go_wp2
  go_ret
  exact ⟨rfl, rfl⟩
set_option maxRecDepth 100000 in
theorem is_other (a b : Addr) (ca cb : Array Value) (ta tb : TypeId) (w : World) (hne : a ≠ b) (ha : w.heap[a.block]? = some (.cells ca ta (0, 0))) (hb : w.heap[b.block]? = some (.cells cb tb (0, 0))) :
    Calls Tryz.prog 104 #[.iface 283 (.pointer (some a)), .iface 283 (.pointer (some b))] w fun e w' => e = .returned (.bool false) ∧ w' = w := by
  obtain ⟨i, hi, hcmp⟩ := Option.map_eq_some_iff.1 isComp
  obtain ⟨j, hj, hjs⟩ := Option.map_eq_some_iff.1 isSize
  have h8 := @run_callFunc_extern Tryz.prog 153 _ Extern.ReflectliteType.typeOf Tryz.func153 (by kernel_rfl) (by kernel_rfl) (by kernel_rfl) (by kernel_rfl)
  have h32 := @run_callFunc_extern Tryz.prog 238 _ (Extern.ReflectliteType.method fun t => do Go.Extern.Rtype.noPackHeld "Comparable" t; pure (.bool (← typeInfo t).comparable)) Tryz.func238 (by kernel_rfl) (by kernel_rfl) (by kernel_rfl) (by kernel_rfl)
  have tT := isTypeOf
  have cT := isComparable
  have mR := isMethodComparable
  have nE := noIsE
  have uE := noUnwrapE
  have vE := noUnwrapsE
  have heq := run_eql_iface_ptr_other (P := Tryz.prog) w Tryz.underlying98 Tryz.underlying283 hi hcmp hj (by rw [hjs]; decide) hne ha hb
  go_enter Tryz.func104, Tryz.ntmps104
  go_wp2
  refine wp_loop_rounds 1 ?_
  rw [rounds_succ]
  go_wp2
  go_ret
  exact ⟨rfl, rfl⟩
end Go.Proofs.YthgojbdpmcccaaaGreatDoor.Is
end
section
namespace Go.Proofs.YthgojbdpmcccaaaGreatDoor.K
open Go.RowKit Go.Proofs.YthgojbdpmcccaaaGreatDoor.Q Go.Proofs.YthgojbdpmcccaaaGreatDoor.Wb Go.Proofs.YthgojbdpmcccaaaGreatDoorW.PrintWords
set_option linter.unusedVariables false
set_option linter.unusedSimpArgs false
def Bytes (l : L) : Prop := ∀ x ∈ l, 0 ≤ x ∧ x ≤ 255
theorem bl_bytes (s : ByteArray) : Bytes (bl s) := by
  intro x hx
  obtain ⟨b, _, rfl⟩ := List.mem_map.1 hx
  have := b.toNat_lt
  omega
theorem ofNat_toNat {x : Int} (h0 : 0 ≤ x) (h1 : x ≤ 255) : ((UInt8.ofNat x.toNat).toNat : Int) = x := by
  simp only [UInt8.toNat_ofNat']
  omega
theorem blS {l : L} (h : Bytes l) : bl (strOfNums l) = l := by
  unfold bl strOfNums
  simp only [List.map_map]
  conv => rhs; rw [← List.map_id l]
  apply List.map_congr_left
  intro x hx
  exact ofNat_toNat (h x hx).1 (h x hx).2
theorem bl_inj {s t : ByteArray} (h : bl s = bl t) : s = t := by
  have := (Q.toList_iff s t).2 h
  rw [Lib.toList_data, Lib.toList_data] at this
  cases s; cases t
  simp only [ByteArray.mk.injEq]
  exact Array.toList_inj.1 this
theorem blE (s : ByteArray) (a b : Nat) : bl (s.extract a b) = ((bl s).drop a).take (b - a) := by
  simp [bl, ByteArray.data_extract, List.extract_eq_take_drop, List.map_take, List.map_drop]
theorem sizeS' {l : L} (h : Bytes l) : (strOfNums l).size = l.length := by rw [← bl_length, blS h]
theorem strS (s : ByteArray) : strOfNums (bl s) = s := bl_inj (blS (bl_bytes s))
theorem low_eq : G.low1 = lowB := by
  funext c
  unfold G.low1 lowB
  by_cases h1 : 65 ≤ c <;> by_cases h2 : c ≤ 90 <;> simp [h1, h2]
theorem lowB_range {c : Int} (h : 0 ≤ c ∧ c ≤ 255) : 0 ≤ lowB c ∧ lowB c ≤ 255 := by
  unfold lowB
  split <;> omega
theorem lower_c (s : ByteArray) (w : World) (hs : s.size ≤ 140737488351232) : Calls Tryz.prog 96 #[.string s] w fun e w' => e = .returned (.string (strOfNums (lowS (bl s)))) ∧ Below w.heap.size w w' := by
  refine G.web_lower.calls s _ w ?_
  unfold G.web_lower.f
  rw [if_pos hs, low_eq]
  rfl
def hexI (c : Int) : Int := match hexV c with | some v => (v : Int) | none => -1
set_option maxRecDepth 100000 in
theorem find_hex : ∀ i : Fin 256, find (lowB (i.val : Int)) [48, 49, 50, 51, 52, 53, 54, 55, 56, 57, 97, 98, 99, 100, 101, 102] = hexI (i.val : Int) ∧ hexI (i.val : Int) ≤ 15 := by decide +kernel
theorem hexI_le {c : Int} (h0 : 0 ≤ c) (h1 : c ≤ 255) : hexI c ≤ 15 := by
  have h := (find_hex ⟨c.toNat, by omega⟩).2
  have e : ((c.toNat : Nat) : Int) = c := by omega
  simp only [e] at h
  exact h
abbrev errV (a : Addr) : Value := .iface 283 (.pointer (some a))
structure Sent (w : World) (g : Nat) (a : Addr) : Prop where
  cell : w.cell? ⟨g, 0, none⟩ = some (errV a)
  row : ∃ c t, w.heap[a.block]? = some (.cells c t (0, 0))
theorem Sent.below {w w' : World} {g : Nat} {a : Addr} (h : Sent w g a) (hb : Below w.heap.size w w') : Sent w' g a := by
  refine ⟨pw_cell_below hb h.cell, ?_⟩
  obtain ⟨c, t, hr⟩ := h.row
  exact ⟨c, t, blk_below hr hb⟩
def gE : Nat → Nat
  | 2 => 5
  | 3 => 8
  | 4 => 1
  | 5 => 9
  | 6 => 6
  | 7 => 2
  | 8 => 10
  | 9 => 11
  | 10 => 4
  | 11 => 12
  | 12 => 7
  | _ => 3
structure LayS (A : Nat → Addr) (w : World) : Prop where
  sent : ∀ g, 2 ≤ g → g ≤ 12 → Sent w (gE g) (A g)
  row : ∀ g, 2 ≤ g → g ≤ 13 → ∃ c t, w.heap[(A g).block]? = some (.cells c t (0, 0))
  ne : ∀ g h, 2 ≤ g → g ≤ 13 → 2 ≤ h → h ≤ 13 → g ≠ h → A g ≠ A h
theorem LayS.below {A : Nat → Addr} {w w' : World} (h : LayS A w) (hb : Below w.heap.size w w') : LayS A w' := ⟨fun g h2 h12 => (h.sent g h2 h12).below hb, fun g h2 h13 => (h.row g h2 h13).elim fun c ⟨t, hr⟩ => ⟨c, t, blk_below hr hb⟩, h.ne⟩
theorem is_not {A : Nat → Addr} {w : World} (h : LayS A w) {g k : Nat} (h2 : 2 ≤ g) (h12 : g ≤ 13) (k2 : 2 ≤ k) (k12 : k ≤ 13) (hn : g ≠ k) :
    Calls Tryz.prog 104 #[errV (A g), errV (A k)] w fun e w' => e = .returned (.bool false) ∧ w' = w := by
  obtain ⟨c, t, hr⟩ := h.row g h2 h12
  obtain ⟨c', t', hr'⟩ := h.row k k2 k12
  exact Is.is_other (A g) (A k) c c' t t' w (h.ne g k h2 h12 k2 k12 hn) hr hr'
end Go.Proofs.YthgojbdpmcccaaaGreatDoor.K
end
section
namespace Go.Proofs.YthgojbdpmcccaaaGreatDoor.K
open Go.RowKit Go.Proofs.YthgojbdpmcccaaaGreatDoor.Q Go.Proofs.YthgojbdpmcccaaaGreatDoor.Wb Go.Proofs.YthgojbdpmcccaaaGreatDoorW.PrintWords
set_option linter.unusedVariables false
set_option linter.unusedSimpArgs false
section
variable {P : Program} {n : Nat} {ops : Array Oper} {Q : Exit → Act → World → Prop} {rest : List Oper} {f : Fr} {w : World} {d : Option Nat} {op : Op} {tt : TypeId} {ps : String} {af : Array Edge} {gd : Option (Nat × Bool)}
theorem l_valw {v : Value} {w' : World} (hw : want n ops f ⟨d, op, tt, ps, af, gd⟩ = true) (hv : (execOp (X n f) ⟨d, op, tt, ps, af, gd⟩).run P w = .ok (.value v) w') (h : WL P ops Q rest (act n (put f d v)) w') : WL P ops Q (⟨d, op, tt, ps, af, gd⟩ :: rest) (act n f) w := by
  refine ⟨?_⟩
  have h := h.out
  simp only [wpList, want_eq, hw, if_true]
  left
  unfold Oper.wp
  rw [eval_act, hv]
  simp only [Oper.upon, put_act]
  exact h
theorem l_skip {w' : World} (hw : want n ops f ⟨d, op, tt, ps, af, gd⟩ = true) (hv : (execOp (X n f) ⟨d, op, tt, ps, af, gd⟩).run P w = .ok .skip w') (h : WL P ops Q rest (act n (put f d undef)) w') : WL P ops Q (⟨d, op, tt, ps, af, gd⟩ :: rest) (act n f) w := by
  refine ⟨?_⟩
  have h := h.out
  simp only [wpList, want_eq, hw, if_true]
  left
  unfold Oper.wp
  rw [eval_act, hv]
  simp only [Oper.upon, put_act]
  exact h
theorem run_alloc {t : TypeId} {i : TypeInfo} {z : Value} (hi : P.info? t = some i) (hz : i.zero = some z) : (Instr.alloc t true (.tuple #[])).run P w = .ok (.pointer (some ⟨w.heap.size, 0, none⟩)) (w.alloc (.cells z.cells t)) := by
  simp [Instr.alloc, zeroValue, typeInfo, hi, hz, newVar, newRow, go_sem]
theorem run_index_agg {t e : TypeId} {m sz : Nat} {i : TypeInfo} {fs : Array Field} {cs : Array Value} {k : Nat} (ht : P.underlying t = some (.array m e)) (he : P.underlying e = some (.struct fs)) (hi : P.info? e = some i) (hs : i.size = sz) (hk : k < m) :
    (Instr.index t (.agg cs) (.int .i64 (k : Int))).run P w = .ok (.agg (cs.extract (k * sz) (k * sz + sz))) w := by
  simp [Instr.index, part, isAgg, sizeOf, typeInfo, asIntOf, run_underlying ht, run_underlying he, hi, hs, hk, go_sem]
theorem run_field {s : TypeId} {fs : Array Field} {fd : Field} {a : Addr} {k : Nat} {i : TypeInfo} (hs : P.underlying s = some (.struct fs)) (hf : fs[k]? = some fd) (hi : P.info? fd.type = some i) (h1 : i.size = 1) :
    (Instr.fieldAt s (.pointer (some a)) k).run P w = .ok (.pointer (some (a.add fd.offset))) w := by
  simp [Instr.fieldAt, Instr.sureAddr, fieldPlace, sizeOf, typeInfo, run_underlying hs, hf, hi, h1, go_sem]
theorem run_load_row {g : Nat} {t ty : TypeId} {cs : Array Value} {fr : Nat × Nat} {m : Nat} {e : TypeId} (hg : w.heap[g]? = some (.cells cs t fr)) (hu : P.underlying ty = some (.array m e)) (hi : (P.info? ty).map (·.size) = some cs.size) :
    (Instr.loadAt ty (.pointer (some ⟨g, 0, none⟩))).run P w = .ok (.agg cs) w := by
  simp only [Instr.loadAt, Instr.sureAddr, Sem.run_bind, Sem.run_pure, Result.andThen_ok, run_loadVar_row w g t ty cs fr _ hg hu rfl hi]
theorem l_load_row {g : Nat} {t t2 : TypeId} {cs : Array Value} {fr : Nat × Nat} {m : Nat} {e : TypeId} {x : Operand} (hw : want n ops f ⟨d, .load t x, tt, ps, af, gd⟩ = true) (hx : X n f x = .pointer (some ⟨g, 0, none⟩)) (hg : w.heap[g]? = some (.cells cs t2 fr)) (hu : P.underlying t = some (.array m e)) (hi : (P.info? t).map (·.size) = some cs.size)
    (h : WL P ops Q rest (act n (put f d (.agg cs))) w) : WL P ops Q (⟨d, .load t x, tt, ps, af, gd⟩ :: rest) (act n f) w := by
  refine l_val hw ?_ h
  have := run_load_row (P := P) hg hu hi
  unfold execOp
  simp [hx, this]
theorem l_idx_agg {t e : TypeId} {m sz : Nat} {i : TypeInfo} {fs : Array Field} {cs : Array Value} {k : Nat} {x y : Operand} (hw : want n ops f ⟨d, .index t x y, tt, ps, af, gd⟩ = true) (hx : X n f x = .agg cs) (hy : X n f y = .int .i64 (k : Int)) (ht : P.underlying t = some (.array m e)) (he : P.underlying e = some (.struct fs)) (hi : P.info? e = some i) (hs : i.size = sz) (hk : k < m)
    {c' : Array Value} (hc : cs.extract (k * sz) (k * sz + sz) = c') (h : WL P ops Q rest (act n (put f d (.agg c'))) w) : WL P ops Q (⟨d, .index t x y, tt, ps, af, gd⟩ :: rest) (act n f) w := by
  subst hc
  refine l_val hw ?_ h
  have := run_index_agg (P := P) (w := w) (cs := cs) ht he hi hs hk
  unfold execOp
  simp [hx, hy, this]
theorem l_alloc {t : TypeId} {i : TypeInfo} {z : Value} (hw : want n ops f ⟨d, .alloc t, tt, ps, af, gd⟩ = true) (hi : P.info? t = some i) (hz : i.zero = some z)
    (h : WL P ops Q rest (act n (put f d (.pointer (some ⟨w.heap.size, 0, none⟩)))) (w.alloc (.cells z.cells t))) : WL P ops Q (⟨d, .alloc t, tt, ps, af, gd⟩ :: rest) (act n f) w := by
  refine l_valw hw ?_ h
  have := run_alloc (P := P) (w := w) hi hz
  unfold execOp
  simp [this]
theorem l_store_new {t : TypeId} {c c' : Array Value} {x y : Operand} (hw : want n ops f ⟨none, .store t x y, tt, ps, af, gd⟩ = true) (hx : X n f x = .pointer (some ⟨w.heap.size, 0, none⟩)) (hy : X n f y = .agg c') (hi : (P.info? t).map (·.size) = some c'.size) (ho : c.size = c'.size) (h1 : c'.all (·.oneCell') = true)
    (h : WL P ops Q rest (act n f) (w.alloc (.cells c' t))) : WL P ops Q (⟨none, .store t x y, tt, ps, af, gd⟩ :: rest) (act n f) (w.alloc (.cells c t)) := by
  refine l_skip hw ?_ h
  have := run_storeAt_new (P := P) w t c c' hi ho h1
  unfold execOp
  simp [hx, hy, this]
theorem l_field {s : TypeId} {fs : Array Field} {fd : Field} {a : Addr} {k : Nat} {i : TypeInfo} {x : Operand} (hw : want n ops f ⟨d, .fieldAddr s x k, tt, ps, af, gd⟩ = true) (hx : X n f x = .pointer (some a)) (hs : P.underlying s = some (.struct fs)) (hf : fs[k]? = some fd) (hi : P.info? fd.type = some i) (h1 : i.size = 1) {a' : Addr} (ha : a.add fd.offset = a')
    (h : WL P ops Q rest (act n (put f d (.pointer (some a')))) w) : WL P ops Q (⟨d, .fieldAddr s x k, tt, ps, af, gd⟩ :: rest) (act n f) w := by
  subst ha
  refine l_val hw ?_ h
  have := run_field (P := P) (w := w) (a := a) hs hf hi h1
  unfold execOp
  simp [hx, this]
end
def tyT : Nat → Option Ty
  | 31 => some (.int .i64)
  | t => ty t
theorem tysT : Tys Tryz.prog tyT := by
  intro t k h
  unfold tyT at h
  split at h
  · cases h; exact Tryz.underlying31
  · exact tys t k h
theorem new_cell (w : World) (t : TypeId) (cs : Array Value) (j : Nat) : (w.alloc (.cells cs t)).cell? ⟨w.heap.size, j, none⟩ = cs[j]? := cell_of_row _ _ _ cs t (0, 0) (heap_alloc_new w _)
def look {α : Type} (z : α) : List (Int × α) → Int → α
  | [], _ => z
  | (a, b) :: r, e => if a = e then b else look z r e
def stC : Array Value := #[.int .i64 0, .int .i64 200, .int .i64 140, .int .i64 400, .int .i64 141, .int .i64 400, .int .i64 143, .int .i64 400, .int .i64 144, .int .i64 400, .int .i64 146, .int .i64 400, .int .i64 145, .int .i64 413, .int .i64 147, .int .i64 414, .int .i64 2, .int .i64 431, .int .i64 148, .int .i64 501, .int .i64 142, .int .i64 505]
def reT : List (Int × ByteArray) := [(100, ⟨#[67, 111, 110, 116, 105, 110, 117, 101]⟩), (200, ⟨#[79, 75]⟩), (204, ⟨#[78, 111, 32, 67, 111, 110, 116, 101, 110, 116]⟩), (301, ⟨#[77, 111, 118, 101, 100, 32, 80, 101, 114, 109, 97, 110, 101, 110, 116, 108, 121]⟩), (302, ⟨#[70, 111, 117, 110, 100]⟩), (304, ⟨#[78, 111, 116, 32, 77, 111, 100, 105, 102, 105, 101, 100]⟩), (400, ⟨#[66, 97, 100, 32, 82, 101, 113, 117, 101, 115, 116]⟩), (403, ⟨#[70, 111, 114, 98, 105, 100, 100, 101, 110]⟩), (404, ⟨#[78, 111, 116, 32, 70, 111, 117, 110, 100]⟩), (405, ⟨#[77, 101, 116, 104, 111, 100, 32, 78, 111, 116, 32, 65, 108, 108, 111, 119, 101, 100]⟩), (408, ⟨#[82, 101, 113, 117, 101, 115, 116, 32, 84, 105, 109, 101, 111, 117, 116]⟩), (409, ⟨#[67, 111, 110, 102, 108, 105, 99, 116]⟩), (410, ⟨#[71, 111, 110, 101]⟩), (411, ⟨#[76, 101, 110, 103, 116, 104, 32, 82, 101, 113, 117, 105, 114, 101, 100]⟩), (413, ⟨#[67, 111, 110, 116, 101, 110, 116, 32, 84, 111, 111, 32, 76, 97, 114, 103, 101]⟩), (414, ⟨#[85, 82, 73, 32, 84, 111, 111, 32, 76, 111, 110, 103]⟩), (429, ⟨#[84, 111, 111, 32, 77, 97, 110, 121, 32, 82, 101, 113, 117, 101, 115, 116, 115]⟩), (431, ⟨#[82, 101, 113, 117, 101, 115, 116, 32, 72, 101, 97, 100, 101, 114, 32, 70, 105, 101, 108, 100, 115, 32, 84, 111, 111, 32, 76, 97, 114, 103, 101]⟩), (500, ⟨#[73, 110, 116, 101, 114, 110, 97, 108, 32, 83, 101, 114, 118, 101, 114, 32, 69, 114, 114, 111, 114]⟩), (501, ⟨#[78, 111, 116, 32, 73, 109, 112, 108, 101, 109, 101, 110, 116, 101, 100]⟩), (502, ⟨#[66, 97, 100, 32, 71, 97, 116, 101, 119, 97, 121]⟩), (503, ⟨#[83, 101, 114, 118, 105, 99, 101, 32, 85, 110, 97, 118, 97, 105, 108, 97, 98, 108, 101]⟩), (504, ⟨#[71, 97, 116, 101, 119, 97, 121, 32, 84, 105, 109, 101, 111, 117, 116]⟩), (505, ⟨#[72, 84, 84, 80, 32, 86, 101, 114, 115, 105, 111, 110, 32, 78, 111, 116, 32, 83, 117, 112, 112, 111, 114, 116, 101, 100]⟩)]
def reC : Array Value := #[.int .i64 100, .string ⟨#[67, 111, 110, 116, 105, 110, 117, 101]⟩, .int .i64 200, .string ⟨#[79, 75]⟩, .int .i64 204, .string ⟨#[78, 111, 32, 67, 111, 110, 116, 101, 110, 116]⟩, .int .i64 301, .string ⟨#[77, 111, 118, 101, 100, 32, 80, 101, 114, 109, 97, 110, 101, 110, 116, 108, 121]⟩, .int .i64 302, .string ⟨#[70, 111, 117, 110, 100]⟩, .int .i64 304, .string ⟨#[78, 111, 116, 32, 77, 111, 100, 105, 102, 105, 101, 100]⟩, .int .i64 400, .string ⟨#[66, 97, 100, 32, 82, 101, 113, 117, 101, 115, 116]⟩, .int .i64 403, .string ⟨#[70, 111, 114, 98, 105, 100, 100, 101, 110]⟩, .int .i64 404, .string ⟨#[78, 111, 116, 32, 70, 111, 117, 110, 100]⟩, .int .i64 405, .string ⟨#[77, 101, 116, 104, 111, 100, 32, 78, 111, 116, 32, 65, 108, 108, 111, 119, 101, 100]⟩, .int .i64 408, .string ⟨#[82, 101, 113, 117, 101, 115, 116, 32, 84, 105, 109, 101, 111, 117, 116]⟩, .int .i64 409, .string ⟨#[67, 111, 110, 102, 108, 105, 99, 116]⟩, .int .i64 410, .string ⟨#[71, 111, 110, 101]⟩, .int .i64 411, .string ⟨#[76, 101, 110, 103, 116, 104, 32, 82, 101, 113, 117, 105, 114, 101, 100]⟩, .int .i64 413, .string ⟨#[67, 111, 110, 116, 101, 110, 116, 32, 84, 111, 111, 32, 76, 97, 114, 103, 101]⟩, .int .i64 414, .string ⟨#[85, 82, 73, 32, 84, 111, 111, 32, 76, 111, 110, 103]⟩, .int .i64 429, .string ⟨#[84, 111, 111, 32, 77, 97, 110, 121, 32, 82, 101, 113, 117, 101, 115, 116, 115]⟩, .int .i64 431, .string ⟨#[82, 101, 113, 117, 101, 115, 116, 32, 72, 101, 97, 100, 101, 114, 32, 70, 105, 101, 108, 100, 115, 32, 84, 111, 111, 32, 76, 97, 114, 103, 101]⟩, .int .i64 500, .string ⟨#[73, 110, 116, 101, 114, 110, 97, 108, 32, 83, 101, 114, 118, 101, 114, 32, 69, 114, 114, 111, 114]⟩, .int .i64 501, .string ⟨#[78, 111, 116, 32, 73, 109, 112, 108, 101, 109, 101, 110, 116, 101, 100]⟩, .int .i64 502, .string ⟨#[66, 97, 100, 32, 71, 97, 116, 101, 119, 97, 121]⟩, .int .i64 503, .string ⟨#[83, 101, 114, 118, 105, 99, 101, 32, 85, 110, 97, 118, 97, 105, 108, 97, 98, 108, 101]⟩, .int .i64 504, .string ⟨#[71, 97, 116, 101, 119, 97, 121, 32, 84, 105, 109, 101, 111, 117, 116]⟩, .int .i64 505, .string ⟨#[72, 84, 84, 80, 32, 86, 101, 114, 115, 105, 111, 110, 32, 78, 111, 116, 32, 83, 117, 112, 112, 111, 114, 116, 101, 100]⟩]
def reE (k : Nat) : Int × ByteArray := reT.getD k (0, ⟨#[]⟩)
theorem re_cut : ∀ k, k < 24 → reC.extract (k * 2) (k * 2 + 2) = #[.int .i64 (reE k).1, .string (reE k).2]
  | 0, _ => rfl
  | 1, _ => rfl
  | 2, _ => rfl
  | 3, _ => rfl
  | 4, _ => rfl
  | 5, _ => rfl
  | 6, _ => rfl
  | 7, _ => rfl
  | 8, _ => rfl
  | 9, _ => rfl
  | 10, _ => rfl
  | 11, _ => rfl
  | 12, _ => rfl
  | 13, _ => rfl
  | 14, _ => rfl
  | 15, _ => rfl
  | 16, _ => rfl
  | 17, _ => rfl
  | 18, _ => rfl
  | 19, _ => rfl
  | 20, _ => rfl
  | 21, _ => rfl
  | 22, _ => rfl
  | 23, _ => rfl
  | k + 24, h => absurd h (by omega)
theorem re_drop (k : Nat) (h : k < 24) : reT.drop k = reE k :: reT.drop (k + 1) := by
  have hl : k < reT.length := h
  rw [List.drop_eq_getElem_cons hl]
  unfold reE
  rw [List.getD_eq_getElem?_getD, List.getElem?_eq_getElem hl]; rfl
def wordsOf (e : Int) : ByteArray := (⟨#[83, 116, 97, 116, 117, 115, 32]⟩ : ByteArray) ++ ⟨(Lib.itoa e).toArray⟩
theorem grow_below {w : World} {k : Nat} {os : Array Obj} : Below w.heap.size w (Sort.grow (w.drewN k) os) :=
  ⟨rfl, rfl, rfl, by simp [Sort.grow], fun i hi => by simp [Sort.grow, Array.getElem?_append, hi]⟩
theorem info_reE : (Tryz.prog.info? 185).map (fun i => (i.zero, i.size)) = some (some (.agg #[.int .i64 0, .string ⟨#[]⟩]), 2) := by kernel_rfl
theorem info_reA : (Tryz.prog.info? 186).map (·.size) = some reC.size := by kernel_rfl
theorem info_re0 : (Tryz.prog.info? 3).map (·.size) = some 1 := by kernel_rfl
theorem info_re1 : (Tryz.prog.info? 9).map (·.size) = some 1 := by kernel_rfl
set_option maxHeartbeats 2000000 in
theorem re_c {w : World} {t2 : TypeId} {fr : Nat × Nat} (hT : w.heap[13]? = some (.cells reC t2 fr)) (htab : ∀ w', Below w.heap.size w w' → Lib.TabIs Tryz.prog w' "internal/strconv.uint64pow10" .u64 Lib.pow10Tab) (e : Int) (he : -9223372036854775808 ≤ e ∧ e ≤ 9223372036854775807) (hz : (Lib.itoa e).length ≤ 100) :
    Calls Tryz.prog 65 #[.int .i64 e] w fun en w' => en = .returned (.string (look (wordsOf e) reT e)) ∧ Below w.heap.size w w' := by
  obtain ⟨iE, hiE, hzE⟩ := Option.map_eq_some_iff.1 info_reE
  simp only [Prod.mk.injEq] at hzE
  obtain ⟨i0, hi0, hs0⟩ := Option.map_eq_some_iff.1 info_re0
  obtain ⟨i1, hi1, hs1⟩ := Option.map_eq_some_iff.1 info_re1
  refine enter (args := [.int .i64 e]) Tryz.func65 rfl Tryz.ntmps65 rfl ?_
  repeat' (first | (with_reducible first | refine p_tn ?_ | refine wp_seq ?_ | refine w_reg ?_ | refine l_nil ?_) | (with_reducible (refine is_l ?_; (refine l_p tys rfl rfl ?_))))
  (with_reducible refine is_l ?_); refine l_load_row rfl rfl hT Tryz.underlying186 info_reA ?_
  repeat' (first | (with_reducible first | refine p_tn ?_ | refine wp_block ?_ | refine l_nil ?_) | (with_reducible (refine is_l ?_; (refine l_p tys rfl rfl ?_))))
  refine w_loop (σ := Nat) (S := fun k => [(0, .int .i64 e), (5, .agg reC), (6, .int .i64 (k : Int))]) (J := fun k w' => Below w.heap.size w w' ∧ k ≤ 24 ∧ look (wordsOf e) reT e = look (wordsOf e) (reT.drop k) e) (μ := fun k => 24 - k) 0 ⟨rfl, rfl, rfl, trivial⟩ ⟨Below.refl _ w, by omega, rfl⟩ ?_
  rintro k f w1 ⟨B1, hk, hl⟩
  repeat' (with_reducible first | refine wp_seq ?_ | refine w_reg ?_)
  (with_reducible refine is_l ?_); refine l_t tys rfl rfl (fun hlt => ?_) (fun hge => ?_)
  · have hk' : k < 24 := by omega
    rw [re_drop k hk', look] at hl
    repeat' (first | (with_reducible first | refine p_tn ?_ | refine wp_seq ?_ | refine wp_block ?_ | refine w_reg ?_) | (with_reducible (refine is_if ?_; (refine w_ift rfl ?_))) | (with_reducible first | refine wp_skip ?_ | refine l_nil ?_))
    (with_reducible refine is_l ?_); refine l_idx_agg rfl rfl rfl Tryz.underlying186 Tryz.underlying185 hiE hzE.2 hk' (re_cut k hk') ?_
    (with_reducible refine is_l ?_); refine l_alloc rfl hiE hzE.1 ?_
    (with_reducible refine is_l ?_); refine l_store_new (c := #[.int .i64 0, .string ⟨#[]⟩]) rfl rfl rfl (by rw [hiE]; simp [hzE.2]) rfl (by simp [Value.oneCell']) ?_
    have B2 := below_alloc B1 (.cells #[.int .i64 (reE k).1, .string (reE k).2] 185)
    repeat' (with_reducible first | refine p_tn ?_ | refine wp_seq ?_ | refine w_reg ?_ | refine l_nil ?_)
    (with_reducible refine is_l ?_); refine l_field rfl rfl Tryz.underlying185 rfl hi0 hs0 (add_plain _ _) ?_
    (with_reducible refine is_l ?_); refine l_ld tysT rfl rfl (new_cell w1 _ _ 0) ?_
    repeat' (with_reducible (refine is_l ?_; (refine l_p tys rfl rfl ?_)))
    (with_reducible refine is_l ?_); refine l_t tysT rfl rfl (fun hh => ?_) (fun hn => ?_)
    · repeat' (first | (with_reducible first | refine p_tn ?_ | refine wp_seq ?_ | refine w_reg ?_) | (with_reducible (refine is_if ?_; (refine w_ift rfl ?_))) | (with_reducible refine l_nil ?_))
      (with_reducible refine is_l ?_); refine l_field rfl rfl Tryz.underlying185 rfl hi1 hs1 (add_plain _ _) ?_
      (with_reducible refine is_l ?_); refine l_ld tysT rfl rfl (new_cell w1 _ _ 1) ?_
      repeat' (first | (with_reducible first | refine p_tn ?_ | refine p_tr ?_ | refine p_br ?_ | refine wp_ret ?_ | refine l_nil ?_) | (with_reducible (refine is_l ?_; (refine l_p tys rfl rfl ?_))))
      refine end1 rfl rfl ?_
      rw [if_pos hh] at hl
      exact ⟨by rw [hl], B2⟩
    · repeat' (first | (with_reducible first | refine p_tn ?_ | refine p_bn ?_ | refine w_reg ?_) | (with_reducible (refine is_if ?_; (refine w_iff rfl ?_))) | (with_reducible first | refine wp_skip ?_ | refine l_nil ?_) | (with_reducible (refine is_l ?_; (first | (refine l_p tys rfl rfl ?_) | (refine l_a tys rfl rfl (by first | exact in_i64 (by omega) (by omega) | exact in_u8 (by omega) (by omega) | exact in_u64 (by omega) (by omega) | exact in_i32 (by omega) (by omega)) ?_)))))
      exact ⟨k + 1, _, rfl, ⟨rfl, rfl, rfl, trivial⟩, ⟨B2, by omega, by rw [hl, if_neg hn]⟩, by omega⟩
  · have hnil : reT.drop k = [] := List.drop_eq_nil_of_le (by show 24 ≤ k; omega)
    rw [hnil, look] at hl
    repeat' (first | (with_reducible first | refine p_tn ?_ | refine p_tx ?_ | refine x_hit ?_ | refine wp_seq ?_ | refine w_reg ?_) | (with_reducible (refine is_if ?_; (refine w_iff rfl ?_))) | (with_reducible first | refine wp_exit ?_ | refine l_nil ?_) | (with_reducible (refine is_l ?_; (refine l_p tys rfl rfl ?_))))
    (with_reducible refine is_l ?_); refine l_callv rfl rfl (by kernel_rfl) (Tryz.strconv_Itoa e he.1 he.2 w1 (htab w1 B1)) (fun w2 K2 => ?_)
    have B2 : Below w.heap.size w w2 := by
      obtain ⟨kk, os, rfl⟩ := K2
      exact Bt B1 grow_below
    skip
    (with_reducible refine is_l ?_); refine l_cat rfl rfl (by
      show 7 + (Lib.itoa e).toArray.size ≤ _
      rw [List.size_toArray]
      omega) ?_
    repeat' (first | (with_reducible first | refine p_tn ?_ | refine wp_ret ?_ | refine l_nil ?_) | (with_reducible (refine is_l ?_; (refine l_p tys rfl rfl ?_))))
    refine end1 rfl rfl ?_
    exact ⟨by rw [hl]; rfl, B2⟩
end Go.Proofs.YthgojbdpmcccaaaGreatDoor.K
end
section
namespace Go.Proofs.YthgojbdpmcccaaaGreatDoor.K
open Go.RowKit Go.Proofs.YthgojbdpmcccaaaGreatDoor.Q Go.Proofs.YthgojbdpmcccaaaGreatDoor.Wb Go.Proofs.YthgojbdpmcccaaaGreatDoorW.PrintWords
set_option linter.unusedVariables false
set_option linter.unusedSimpArgs false
section
variable {P : Program} {n : Nat} {ops : Array Oper} {Q : Exit → Act → World → Prop} {rest : List Oper} {f : Fr} {w : World} {d : Option Nat} {op : Op} {tt : TypeId} {ps : String} {af : Array Edge} {gd : Option (Nat × Bool)}
theorem run_index_text {t e : TypeId} {m : Nat} {i : TypeInfo} {cs : Array Value} {k : Nat} {v : Value} (ht : P.underlying t = some (.array m e)) (he : P.underlying e = some .string) (hi : P.info? e = some i) (hs : i.size = 1) (hk : k < m) (hv : cs[k]? = some v) :
    (Instr.index t (.agg cs) (.int .i64 (k : Int))).run P w = .ok v w := by
  simp [Instr.index, part, isAgg, sizeOf, typeInfo, asIntOf, run_underlying ht, run_underlying he, hi, hs, hk, hv, go_sem]
theorem l_idx_text {t e : TypeId} {m : Nat} {i : TypeInfo} {cs : Array Value} {k : Nat} {v : Value} {x y : Operand} (hw : want n ops f ⟨d, .index t x y, tt, ps, af, gd⟩ = true) (hx : X n f x = .agg cs) (hy : X n f y = .int .i64 (k : Int)) (ht : P.underlying t = some (.array m e)) (he : P.underlying e = some .string) (hi : P.info? e = some i) (hs : i.size = 1) (hk : k < m) (hv : cs[k]? = some v)
    (h : WL P ops Q rest (act n (put f d v)) w) : WL P ops Q (⟨d, .index t x y, tt, ps, af, gd⟩ :: rest) (act n f) w := by
  refine l_val hw ?_ h
  have := run_index_text (P := P) (w := w) ht he hi hs hk hv
  unfold execOp
  simp [hx, hy, this]
end
def meB : List ByteArray := methodsS.map strOfNums
def meC : Array Value := (meB.map Value.string).toArray
theorem me_at : ∀ k, k < 9 → meC[k]? = some (.string (meB.getD k ⟨#[]⟩)) ∧ methodsS.drop k = bl (meB.getD k ⟨#[]⟩) :: methodsS.drop (k + 1)
  | 0, _ => ⟨rfl, rfl⟩
  | 1, _ => ⟨rfl, rfl⟩
  | 2, _ => ⟨rfl, rfl⟩
  | 3, _ => ⟨rfl, rfl⟩
  | 4, _ => ⟨rfl, rfl⟩
  | 5, _ => ⟨rfl, rfl⟩
  | 6, _ => ⟨rfl, rfl⟩
  | 7, _ => ⟨rfl, rfl⟩
  | 8, _ => ⟨rfl, rfl⟩
  | k + 9, h => absurd h (by omega)
theorem info_meA : (Tryz.prog.info? 208).map (·.size) = some meC.size := by kernel_rfl
theorem info_str : (Tryz.prog.info? 9).map (·.size) = some 1 := by kernel_rfl
set_option maxHeartbeats 2000000 in
theorem isMethod_c {w : World} {t2 : TypeId} {fr : Nat × Nat} (hT : w.heap[17]? = some (.cells meC t2 fr)) (s : ByteArray) :
    Calls Tryz.prog 101 #[.string s] w fun e w' => e = .returned (.bool (methodsS.contains (bl s))) ∧ w' = w := by
  obtain ⟨i0, hi0, hs0⟩ := Option.map_eq_some_iff.1 info_str
  refine enter (args := [.string s]) Tryz.func101 rfl Tryz.ntmps101 rfl ?_
  repeat' (first | (with_reducible first | refine p_tn ?_ | refine wp_seq ?_ | refine w_reg ?_ | refine l_nil ?_) | (with_reducible (refine is_l ?_; (refine l_p tys rfl rfl ?_))))
  (with_reducible refine is_l ?_); refine l_load_row rfl rfl hT Tryz.underlying208 info_meA ?_
  repeat' (first | (with_reducible first | refine p_tn ?_ | refine wp_block ?_ | refine l_nil ?_) | (with_reducible (refine is_l ?_; (refine l_p tys rfl rfl ?_))))
  refine w_loop (σ := Nat) (S := fun k => [(0, .string s), (5, .agg meC), (6, .int .i64 (k : Int))]) (J := fun k w' => w' = w ∧ k ≤ 9 ∧ methodsS.contains (bl s) = (methodsS.drop k).contains (bl s)) (μ := fun k => 9 - k) 0 ⟨rfl, rfl, rfl, trivial⟩ ⟨rfl, by omega, rfl⟩ ?_
  rintro k f w1 ⟨rfl, hk, hl⟩
  repeat' (with_reducible first | refine wp_seq ?_ | refine w_reg ?_)
  (with_reducible refine is_l ?_); refine l_t tys rfl rfl (fun hlt => ?_) (fun hge => ?_)
  · have hk' : k < 9 := by omega
    obtain ⟨h1, h2⟩ := me_at k hk'
    rw [h2, List.contains_cons] at hl
    repeat' (first | (with_reducible first | refine p_tn ?_ | refine wp_seq ?_ | refine wp_block ?_ | refine w_reg ?_) | (with_reducible (refine is_if ?_; (refine w_ift rfl ?_))) | (with_reducible first | refine wp_skip ?_ | refine l_nil ?_))
    (with_reducible refine is_l ?_); refine l_idx_text rfl rfl rfl Tryz.underlying208 Tryz.underlying9 hi0 hs0 hk' h1 ?_
    repeat' (first | (with_reducible first | refine p_tn ?_ | refine wp_seq ?_ | refine w_reg ?_ | refine l_nil ?_) | (with_reducible (refine is_l ?_; (refine l_p tys rfl rfl ?_))))
    (with_reducible refine is_l ?_); refine l_t tys rfl rfl (fun hh => ?_) (fun hn => ?_)
    · repeat' (first | (with_reducible first | refine p_tn ?_ | refine p_tr ?_ | refine p_br ?_ | refine wp_seq ?_ | refine w_reg ?_) | (with_reducible (refine is_if ?_; (refine w_ift rfl ?_))) | (with_reducible first | refine wp_ret ?_ | refine l_nil ?_) | (with_reducible (refine is_l ?_; (refine l_p tys rfl rfl ?_))))
      refine end1 rfl rfl ?_
      exact ⟨by rw [hl, hh]; simp, rfl⟩
    · repeat' (first | (with_reducible first | refine p_tn ?_ | refine p_bn ?_ | refine w_reg ?_) | (with_reducible (refine is_if ?_; (refine w_iff rfl ?_))) | (with_reducible first | refine wp_skip ?_ | refine l_nil ?_) | (with_reducible (refine is_l ?_; (first | (refine l_p tys rfl rfl ?_) | (refine l_a tys rfl rfl (by first | exact in_i64 (by omega) (by omega) | exact in_u8 (by omega) (by omega) | exact in_u64 (by omega) (by omega) | exact in_i32 (by omega) (by omega)) ?_)))))
      exact ⟨k + 1, _, rfl, ⟨rfl, rfl, rfl, trivial⟩, ⟨rfl, by omega, by rw [hl, beq_eq_false_iff_ne.2 hn]; simp⟩, by omega⟩
  · have hnil : methodsS.drop k = [] := List.drop_eq_nil_of_le (by show 9 ≤ k; omega)
    rw [hnil] at hl
    repeat' (first | (with_reducible first | refine p_tn ?_ | refine p_tx ?_ | refine x_hit ?_ | refine wp_seq ?_ | refine w_reg ?_) | (with_reducible (refine is_if ?_; (refine w_iff rfl ?_))) | (with_reducible first | refine wp_exit ?_ | refine wp_ret ?_ | refine l_nil ?_) | (with_reducible (refine is_l ?_; (refine l_p tys rfl rfl ?_))))
    refine end1 rfl rfl ?_
    exact ⟨by rw [hl]; rfl, rfl⟩
end Go.Proofs.YthgojbdpmcccaaaGreatDoor.K
end
section
namespace Go.Proofs.YthgojbdpmcccaaaGreatDoor.LaidF
open Go.ChangeShapes Go.WideShapes Go.ChangeAt Go.RowKit
open Go.Proofs.YthgojbdpmcccaaaGreatDoor.K Go.Proofs.YthgojbdpmcccaaaGreatDoor.Wb
open Go.Lib (VarReads)
set_option linter.unusedVariables false
set_option linter.unusedSimpArgs false
theorem own : ownKnob Tryz.prog.godebug = none := by kernel_rfl
theorem star : "*" ++ "errors.errorString" = "*errors.errorString" := by decide
theorem rowE (u : TypeId) (h : Tryz.prog.typeName? 3 u = some "*errors.errorString") : u = 283 :=
  typeName_ptr_named (nm := "errors.errorString") (by rw [star]; kernel_rfl) (by kernel_rfl) (by decide) u (by rw [star]; exact h)
theorem cellsE : Tryz.prog.cellsOf 305 = 1 := by kernel_rfl
theorem cellsS : Tryz.prog.cellsOf 9 = 1 := by kernel_rfl
abbrev errD (text : List UInt8) : DataW Unit := .iface "*errors.errorString" (.ptr (.agg [.lit (.string text)]))
set_option maxRecDepth 100000 in
theorem sent_of_laid {W : World} : ∀ {l : List (String × DataW Unit)} {ps : List MemPlace}, DataW.LaidVars Tryz.prog W l ps →
    (∀ b off, MemPlace.cell b off ∈ ps → (∃ c t, W.heap[b]? = some (.cells c t (0, 0))) ∧ ∀ u v, W.cell? ⟨b, off, none⟩ = some (.iface u v) → Value.okWide Tryz.prog W .any 0 u v) →
    ∀ (n : String) (text : List UInt8), (n, errD text) ∈ l → ∀ g, Tryz.prog.globalNamed n = some g → (Tryz.prog.globals[g]?).map (·.type) = some 98 → ∃ a s, Sent W g a ∧ W.cell? a = some (.string s) ∧ s.data.toList = text
  | [], _, _, _, _, _, hm, _, _, _ => by cases hm
  | (n', d') :: r, ps, h, hrows, n, text, hm, g, hg, ht => by
    obtain ⟨g0, t0, cs0, f0, p0, q0, hg0, ht0, hv0, hd0, hr0, e0⟩ := h
    subst e0
    rcases List.mem_cons.1 hm with e | e
    · cases e
      obtain rfl := Option.some.inj (hg.symm.trans hg0)
      obtain rfl := Option.some.inj (ht.symm.trans ht0)
      obtain ⟨l0⟩ := cs0
      have ok0 : ∀ u v, l0 = [.iface u v] → Value.okWide Tryz.prog W .any 0 u v := fun u v e => by
        subst e
        exact (hrows g 0 (by simp [MemPlace.row])).2 u v (by simpa using World.var?_cell hg0 hv0 0)
      obtain ⟨a0, s0, rfl, hc0, hs0, hz0, rfl⟩ := errorString_of_trod Tryz.underlying98 rowE Tryz.underlying283 Tryz.underlying305 rfl rfl Tryz.underlying9 cellsE cellsS hd0 ok0
      refine ⟨a0, s0, ⟨by simpa using World.var?_cell hg0 hv0 0, ?_⟩, hc0, hs0⟩
      exact (hrows a0.block a0.off (by simp [MemPlace.row])).1
    · exact sent_of_laid hr0 (fun b off hb => hrows b off (by simp [hb])) n text e g hg ht
def textE : Nat → List UInt8
  | 2 => [116, 104, 101, 32, 116, 97, 114, 103, 101, 116]
  | 3 => [97, 32, 110, 117, 109, 98, 101, 114, 32, 116, 104, 97, 116, 32, 109, 97, 121, 32, 110, 111, 116, 32, 98, 101]
  | 4 => [116, 111, 111, 32, 108, 111, 110, 103]
  | 5 => [116, 104, 101, 32, 109, 101, 115, 115, 97, 103, 101, 32, 101, 110, 100, 115, 32, 116, 111, 111, 32, 101, 97, 114, 108, 121]
  | 6 => [116, 104, 101, 32, 102, 105, 114, 115, 116, 32, 108, 105, 110, 101]
  | 7 => [116, 104, 101, 32, 118, 101, 114, 115, 105, 111, 110]
  | 8 => [97, 32, 102, 105, 101, 108, 100]
  | 9 => [116, 104, 101, 32, 104, 111, 115, 116]
  | 10 => [116, 104, 101, 32, 108, 101, 110, 103, 116, 104, 32, 111, 102, 32, 116, 104, 101, 32, 98, 111, 100, 121]
  | 11 => [97, 32, 99, 104, 117, 110, 107]
  | 12 => [116, 104, 101, 32, 109, 101, 116, 104, 111, 100]
  | 13 => [116, 104, 101, 32, 115, 116, 97, 116, 117, 115]
  | _ => []
def nameE : Nat → String
  | 2 => "ledger/web.errTarget"
  | 3 => "ledger/web.errArg"
  | 4 => "ledger/web.errLong"
  | 5 => "ledger/web.errShort"
  | 6 => "ledger/web.errStart"
  | 7 => "ledger/web.errProtocol"
  | 8 => "ledger/web.errField"
  | 9 => "ledger/web.errHost"
  | 10 => "ledger/web.errLength"
  | 11 => "ledger/web.errChunk"
  | 12 => "ledger/web.errMethod"
  | 13 => "ledger/web.errStatus"
  | _ => ""
theorem textE_ne : ∀ g : Fin 14, ∀ h : Fin 14, 2 ≤ g.val → 2 ≤ h.val → g.val ≠ h.val → textE g.val ≠ textE h.val := by decide +kernel
def At (W : World) (g : Nat) (a : Addr) : Prop := Sent W (gE g) a ∧ ∃ s, W.cell? a = some (.string s) ∧ s.data.toList = textE g
theorem At.ne {W : World} {g h : Nat} {a b : Addr} (ha : At W g a) (hb : At W h b) (g2 : 2 ≤ g) (g13 : g ≤ 13) (h2 : 2 ≤ h) (h13 : h ≤ 13) (hne : g ≠ h) : a ≠ b := by
  intro he
  obtain ⟨_, s, hc, hs⟩ := ha
  obtain ⟨_, s', hc', hs'⟩ := hb
  rw [he, hc'] at hc
  injection hc with hc
  injection hc with hc
  subst hc
  exact textE_ne ⟨g, by omega⟩ ⟨h, by omega⟩ g2 h2 hne (hs.symm.trans hs')
theorem lay0 {W : World} (H : ∀ g, 2 ≤ g → g ≤ 12 → ∃ a, At W g a) : ∃ A : Nat → Addr, ∀ g, 2 ≤ g → g ≤ 12 → At W g (A g) := by
  have H' : ∀ g, ∃ a, 2 ≤ g → g ≤ 12 → At W g a := fun g => by
    by_cases h2 : 2 ≤ g
    · by_cases h12 : g ≤ 12
      · obtain ⟨a, h⟩ := H g h2 h12
        exact ⟨a, fun _ _ => h⟩
      · exact ⟨⟨0, 0, none⟩, fun _ h => absurd h h12⟩
    · exact ⟨⟨0, 0, none⟩, fun h => absurd h h2⟩
  exact Classical.axiomOfChoice H'
theorem lay1 {W : World} {A : Nat → Addr} (h : ∀ g, 2 ≤ g → g ≤ 12 → At W g (A g)) (x : Addr) (hx : ∃ c t, W.heap[x.block]? = some (.cells c t (0, 0))) (hne : ∀ g, 2 ≤ g → g ≤ 12 → A g ≠ x) : ∃ A', LayS A' W ∧ A' 13 = x := by
  obtain ⟨A', hA⟩ : ∃ A' : Nat → Addr, A' = fun g => if g = 13 then x else A g := ⟨_, rfl⟩
  have e13 : A' 13 = x := by rw [hA]; rfl
  have e : ∀ g, g ≤ 12 → A' g = A g := fun g hg => by rw [hA]; exact if_neg (by omega)
  refine ⟨A', ⟨fun g h2 h12 => ?_, fun g h2 h13 => ?_, fun g k g2 g13 k2 k13 hn => ?_⟩, e13⟩
  · rw [e g h12]; exact (h g h2 h12).1
  · rcases Nat.lt_or_ge 12 g with h12 | h12
    · obtain rfl : g = 13 := by omega
      rw [e13]; exact hx
    · rw [e g h12]; exact (h g h2 h12).1.row
  · rcases Nat.lt_or_ge 12 g with h12 | h12
    · obtain rfl : g = 13 := by omega
      rw [e13, e k (by omega)]
      exact fun e => hne k k2 (by omega) e.symm
    · rw [e g h12]
      rcases Nat.lt_or_ge 12 k with h12' | h12'
      · obtain rfl : k = 13 := by omega
        rw [e13]; exact hne g g2 h12
      · rw [e k h12']
        exact (h g g2 h12).ne (h k k2 h12') g2 (by omega) k2 (by omega) hn
theorem layS13 {W : World} (H : ∀ g, 2 ≤ g → g ≤ 13 → ∃ a, At W g a) : ∃ A, LayS A W ∧ Sent W (gE 13) (A 13) := by
  obtain ⟨A, h⟩ := lay0 fun g h2 h12 => H g h2 (by omega)
  obtain ⟨x, hx⟩ := H 13 (by omega) (by omega)
  obtain ⟨A', h', e⟩ := lay1 h x hx.1.row fun g h2 h12 => (h g h2 h12).ne hx h2 (by omega) (by omega) (by omega) (by omega)
  exact ⟨A', h', by rw [e]; exact hx.1⟩
theorem at_of_laid {W : World} {l : List (String × DataW Unit)} {ps : List MemPlace} (h : DataW.LaidVars Tryz.prog W l ps) (hr : ∀ b off, MemPlace.cell b off ∈ ps → (∃ c t, W.heap[b]? = some (.cells c t (0, 0))) ∧ ∀ u v, W.cell? ⟨b, off, none⟩ = some (.iface u v) → Value.okWide Tryz.prog W .any 0 u v)
    {n : String} {g : Nat} (hm : (n, errD (textE g)) ∈ l) (hg : Tryz.prog.globalNamed n = some (gE g)) (ht : (Tryz.prog.globals[gE g]?).map (·.type) = some 98) : ∃ a, At W g a := by
  obtain ⟨a, s, h1, h2, h3⟩ := sent_of_laid h hr n _ hm _ hg ht
  exact ⟨a, h1, s, h2, h3⟩
set_option maxRecDepth 100000 in
theorem layE {W : World} {l : List (String × DataW Unit)} (hL : laidMet Tryz.prog l W) (m : ∀ g, 2 ≤ g → g ≤ 13 → (nameE g, errD (textE g)) ∈ l) : ∃ A, LayS A W ∧ Sent W (gE 13) (A 13) := by
  obtain ⟨ps, hv, _, hrows⟩ := hL
  refine layS13 fun g h2 h12 => ?_
  have m := m g h2 h12
  match g, h2, h12 with
  | 2, _, _ => exact at_of_laid hv hrows m (by kernel_rfl) (by kernel_rfl)
  | 3, _, _ => exact at_of_laid hv hrows m (by kernel_rfl) (by kernel_rfl)
  | 4, _, _ => exact at_of_laid hv hrows m (by kernel_rfl) (by kernel_rfl)
  | 5, _, _ => exact at_of_laid hv hrows m (by kernel_rfl) (by kernel_rfl)
  | 6, _, _ => exact at_of_laid hv hrows m (by kernel_rfl) (by kernel_rfl)
  | 7, _, _ => exact at_of_laid hv hrows m (by kernel_rfl) (by kernel_rfl)
  | 8, _, _ => exact at_of_laid hv hrows m (by kernel_rfl) (by kernel_rfl)
  | 9, _, _ => exact at_of_laid hv hrows m (by kernel_rfl) (by kernel_rfl)
  | 10, _, _ => exact at_of_laid hv hrows m (by kernel_rfl) (by kernel_rfl)
  | 11, _, _ => exact at_of_laid hv hrows m (by kernel_rfl) (by kernel_rfl)
  | 12, _, _ => exact at_of_laid hv hrows m (by kernel_rfl) (by kernel_rfl)
  | 13, _, _ => exact at_of_laid hv hrows m (by kernel_rfl) (by kernel_rfl)
def ldT (s : ByteArray) : DataW Unit := .lit (.string s.data.toList)
theorem text_in {W : World} {m : Nat} {t : TypeId} {c : List Value} {y : DataW Unit × List MemPlace} {s : ByteArray} (ht : Tryz.prog.underlying t = some .string) (h : DataW.trod (fun _ => ()) Tryz.prog W 0 (fun _ => true) false m t c = some y) (hy : y.1 = ldT s) : c = [.string s] := by
  obtain ⟨s', rfl, rfl, _⟩ := DataW.trod_string ht h
  simp [ldT] at hy
  have : s' = s := by
    cases s; cases s'
    simp only [ByteArray.mk.injEq]
    exact Array.toList_inj.1 (by simpa using hy)
  rw [this]
theorem cells_of_texts {W : World} {fuel n : Nat} {arr E : TypeId} {cs : List Value} {p : List MemPlace} {T : List ByteArray} (ht : Tryz.prog.underlying arr = some (.array n E)) (hE : Tryz.prog.underlying E = some .string) (kE : Tryz.prog.cellsOf E = 1) (kA : Tryz.prog.cellsOf arr = n) (hn : T.length = n)
    (h : DataW.trod (fun _ => ()) Tryz.prog W 0 (fun _ => true) false fuel arr cs = some (.agg (T.map ldT), p)) : cs = T.map Value.string := by
  obtain ⟨xs, m, _, hx, hl, hxl, hall⟩ := DataW.trod_array ht h
  have hmap : xs.map (·.1) = T.map ldT := by
    have := congrArg Prod.fst hx
    simpa using this.symm
  refine List.ext_getElem? fun i => ?_
  by_cases hi : i < n
  · have hiT : i < T.length := by omega
    have hxi : i < xs.length := by omega
    have ha := hall i hi
    rw [List.getElem?_eq_getElem hxi, kE, Nat.mul_one] at ha
    have he : (xs[i]).1 = ldT T[i] := by
      have := congrArg (fun l => l[i]?) hmap
      simp only [List.getElem?_map, List.getElem?_eq_getElem hxi, List.getElem?_eq_getElem hiT, Option.map_some, Option.some.injEq] at this
      exact this
    have h1 := congrArg (fun l => l[0]?) (text_in hE ha he)
    simp only [List.getElem?_map, List.getElem?_eq_getElem hiT, Option.map_some] at h1 ⊢
    rw [List.getElem?_take_of_lt (by omega), List.getElem?_drop] at h1
    simpa using h1
  · rw [List.getElem?_eq_none (by omega), List.getElem?_eq_none (by rw [List.length_map]; omega)]
theorem heap_of_var {W : World} {nm : String} {g : Nat} {cs : Array Value} (hg : Tryz.prog.globalNamed nm = some g) (h : W.var? Tryz.prog nm = some cs) : ∃ t fr, W.heap[g]? = some (.cells cs t fr) := by
  unfold World.var? at h
  rw [hg, Option.bind_some] at h
  cases hx : W.heap[g]? with
  | none => rw [hx] at h; cases h
  | some o =>
    rw [hx] at h
    cases o <;> simp at h
    subst h
    exact ⟨_, _, rfl⟩
theorem meData : Rows.laid_ledger_web_methods = .agg (meB.map ldT) := by kernel_rfl
theorem layM {W : World} (h : VarReads Tryz.prog W "ledger/web.methods" Rows.laid_ledger_web_methods) : ∃ t fr, W.heap[17]? = some (.cells meC t fr) := by
  rw [meData] at h
  obtain ⟨g', t', cs, fuel, p, hg', ht', hvar, hd⟩ := h
  obtain rfl := Option.some.inj ((show Tryz.prog.globalNamed "ledger/web.methods" = some 17 by kernel_rfl).symm.trans hg')
  obtain rfl := Option.some.inj ((show (Tryz.prog.globals[17]?).map (·.type) = some 208 by kernel_rfl).symm.trans ht')
  have e := cells_of_texts Tryz.underlying208 Tryz.underlying9 (by kernel_rfl) (by kernel_rfl) rfl hd
  have e2 : cs = meC := by
    rw [← Array.toList_inj, e]; rfl
  rw [e2] at hvar
  exact heap_of_var (by kernel_rfl) hvar
def put (vs : List Value) : Obj → Obj
  | .cells _ t frozen => .cells vs.toArray t frozen
  | o => o
def accs : List Int := [128, 191, 160, 191, 128, 159, 144, 191, 128, 143, 0, 0, 0, 0, 0, 0, 0, 0, 0, 0, 0, 0, 0, 0, 0, 0, 0, 0, 0, 0, 0, 0]
noncomputable def low : Nat := (World.holding Tryz.prog default ⟨#[], #[], []⟩).heap.size
noncomputable def world (os : Os) : World :=
  let w0 := World.holding Tryz.prog os ⟨#[.cells #[.string ⟨(textE 2).toArray⟩] 305, .cells #[.string ⟨(textE 3).toArray⟩] 305, .cells #[.string ⟨(textE 4).toArray⟩] 305, .cells #[.string ⟨(textE 5).toArray⟩] 305, .cells #[.string ⟨(textE 6).toArray⟩] 305, .cells #[.string ⟨(textE 7).toArray⟩] 305, .cells #[.string ⟨(textE 8).toArray⟩] 305, .cells #[.string ⟨(textE 9).toArray⟩] 305, .cells #[.string ⟨(textE 10).toArray⟩] 305, .cells #[.string ⟨(textE 11).toArray⟩] 305, .cells #[.string ⟨(textE 12).toArray⟩] 305, .cells #[.string ⟨(textE 13).toArray⟩] 305], #[], []⟩
  { w0 with heap := ((((((((((((((w0.heap.modify (gE 2) (put [.iface 283 (.pointer (some ⟨low + 0, 0, none⟩))])).modify (gE 3) (put [.iface 283 (.pointer (some ⟨low + 1, 0, none⟩))])).modify (gE 4) (put [.iface 283 (.pointer (some ⟨low + 2, 0, none⟩))])).modify (gE 5) (put [.iface 283 (.pointer (some ⟨low + 3, 0, none⟩))])).modify (gE 6) (put [.iface 283 (.pointer (some ⟨low + 4, 0, none⟩))])).modify (gE 7) (put [.iface 283 (.pointer (some ⟨low + 5, 0, none⟩))])).modify (gE 8) (put [.iface 283 (.pointer (some ⟨low + 6, 0, none⟩))])).modify (gE 9) (put [.iface 283 (.pointer (some ⟨low + 7, 0, none⟩))])).modify (gE 10) (put [.iface 283 (.pointer (some ⟨low + 8, 0, none⟩))])).modify (gE 11) (put [.iface 283 (.pointer (some ⟨low + 9, 0, none⟩))])).modify (gE 12) (put [.iface 283 (.pointer (some ⟨low + 10, 0, none⟩))])).modify (gE 13) (put [.iface 283 (.pointer (some ⟨low + 11, 0, none⟩))])).modify 17 (put meC.toList)).modify 24 (put (accs.map (Value.int .u8)))).modify 23 (put (Lib.firstTab.map (Value.int .u8))) }
end Go.Proofs.YthgojbdpmcccaaaGreatDoor.LaidF
end
section
namespace Go.Proofs.YthgojbdpmcccaaaGreatDoor.LaidT
open Go.ChangeShapes Go.WideShapes Go.ChangeAt Go.RowKit
open Go.Proofs.YthgojbdpmcccaaaGreatDoor.K
open Go.Lib (VarReads)
set_option linter.unusedVariables false
set_option linter.unusedSimpArgs false
theorem own : ownKnob Tryz.prog.godebug = none := by kernel_rfl
theorem tabIs_of_reads {P : Program} {W : World} {name : String} {k : IntKind} {zs : List Int} {g : Nat} {t e : TypeId} {n : Nat}
    (hg : P.globalNamed name = some g) (hty : (P.globals[g]?).map (·.type) = some t) (ht : P.underlying t = some (.array n e)) (he : P.underlying e = some (.int k)) (hce : P.cellsOf e = 1) (hct : P.cellsOf t = n)
    (h : VarReads P W name (Lib.tabData k zs)) : Lib.TabIs P W name k zs := by
  obtain ⟨g', t', cs, fuel, p, hg', ht', hvar, hd⟩ := h
  obtain rfl := Option.some.inj (hg.symm.trans hg')
  obtain rfl := Option.some.inj (hty.symm.trans ht')
  unfold Lib.TabIs
  rw [hvar, ← Lib.cells_of_tab ht he hce hct hd]
theorem gPow : Tryz.prog.globalNamed "internal/strconv.uint64pow10" = some 19 := by kernel_rfl
theorem powData : Rows.laid_internal_strconv_uint64pow10 = Lib.tabData (H := Unit) .u64 Lib.pow10Tab := by kernel_rfl
theorem layP {W : World} (h : VarReads Tryz.prog W "internal/strconv.uint64pow10" Rows.laid_internal_strconv_uint64pow10) : ∀ w', Below W.heap.size W w' → Lib.TabIs Tryz.prog w' "internal/strconv.uint64pow10" .u64 Lib.pow10Tab := by
  rw [powData] at h
  have t : Lib.TabIs Tryz.prog W "internal/strconv.uint64pow10" .u64 Lib.pow10Tab := tabIs_of_reads gPow (show (Tryz.prog.globals[19]?).map (·.type) = some 264 by kernel_rfl) Tryz.underlying264 Tryz.underlying230 (show Tryz.prog.cellsOf 230 = 1 by kernel_rfl) (show Tryz.prog.cellsOf 264 = 20 by kernel_rfl) h
  have hlt := World.block_lt_of_cell? W _ (t.cell gPow 0 (by rw [Lib.pow10Tab_length]; omega))
  exact fun w' hb => var?_below hb gPow hlt t
def ld (v : Value) : DataW Unit := match v with
  | .int k z => .lit (.int k z)
  | .string s => .lit (.string s.data.toList)
  | _ => .nil
def pd (x : Int × Value) : DataW Unit := .agg [.lit (.int .i64 x.1), ld x.2]
def pv (x : Int × Value) : List Value := [.int .i64 x.1, x.2]
theorem chunks : ∀ (T : List (Int × Value)) (cs : List Value), cs.length = T.length * 2 → (∀ i (h : i < T.length), (cs.drop (i * 2)).take 2 = pv T[i]) → cs = T.flatMap pv
  | [], cs, hl, _ => by
    simp at hl; simp [hl]
  | x :: T, cs, hl, h => by
    simp only [List.length_cons] at hl
    match cs, hl with
    | [c0], hl => exfalso; simp only [List.length_cons, List.length_nil] at hl; omega
    | c0 :: c1 :: r, hl =>
      have h0 := h 0 (by simp)
      have ih := chunks T r (by simp only [List.length_cons] at hl; omega) (fun i hi => by
        have := h (i + 1) (by simp only [List.length_cons]; omega)
        rw [show (i + 1) * 2 = i * 2 + 2 by omega] at this
        simpa using this)
      rw [List.flatMap_cons, ← ih]
      have e : pv x = [c0, c1] := by simpa using h0.symm
      rw [e]; rfl
theorem int_in {W : World} {m : Nat} {t : TypeId} {k : IntKind} {c : List Value} {y : DataW Unit × List MemPlace} {v : Value} (ht : Tryz.prog.underlying t = some (.int k)) (h : DataW.trod (fun _ => ()) Tryz.prog W 0 (fun _ => true) false m t c = some y) (hy : y.1 = ld v) : c = [v] := by
  obtain ⟨z, rfl, rfl, _⟩ := DataW.trod_int ht h
  cases v <;> simp [ld] at hy
  obtain ⟨rfl, rfl⟩ := hy
  rfl
theorem text_in {W : World} {m : Nat} {t : TypeId} {c : List Value} {y : DataW Unit × List MemPlace} {v : Value} (ht : Tryz.prog.underlying t = some .string) (h : DataW.trod (fun _ => ()) Tryz.prog W 0 (fun _ => true) false m t c = some y) (hy : y.1 = ld v) : c = [v] := by
  obtain ⟨s, rfl, rfl, _⟩ := DataW.trod_string ht h
  cases v <;> simp [ld] at hy
  rename_i s'
  have : s = s' := by
    cases s; cases s'
    simp only [ByteArray.mk.injEq]
    exact Array.toList_inj.1 (by simpa using hy)
  rw [this]
theorem cells_of_pairs {W : World} {fuel n : Nat} {arr E : TypeId} {f0 f1 : Field} {cs : List Value} {p : List MemPlace} {T : List (Int × Value)}
    (ht : Tryz.prog.underlying arr = some (.array n E)) (hE : Tryz.prog.underlying E = some (.struct #[f0, f1])) (h0 : Tryz.prog.underlying f0.type = some (.int .i64)) (o0 : f0.offset = 0) (o1 : f1.offset = 1)
    (k0 : Tryz.prog.cellsOf f0.type = 1) (k1 : Tryz.prog.cellsOf f1.type = 1) (kE : Tryz.prog.cellsOf E = 2) (kA : Tryz.prog.cellsOf arr = n * 2) (hn : T.length = n)
    (h1 : ∀ m c y v, DataW.trod (fun _ => ()) Tryz.prog W 0 (fun _ => true) false m f1.type c = some y → y.1 = ld v → c = [v])
    (h : DataW.trod (fun _ => ()) Tryz.prog W 0 (fun _ => true) false fuel arr cs = some (.agg (T.map pd), p)) : cs = T.flatMap pv := by
  obtain ⟨xs, m, _, hx, hl, hxl, hall⟩ := DataW.trod_array ht h
  have hmap : xs.map (·.1) = T.map pd := by
    have := congrArg Prod.fst hx
    simpa using this.symm
  refine chunks T cs (by rw [hl, kA, hn]) fun i hi => ?_
  have hi' : i < n := by omega
  have hxi : i < xs.length := by omega
  have ha := hall i hi'
  rw [List.getElem?_eq_getElem hxi, kE] at ha
  have he : (xs[i]).1 = pd T[i] := by
    have := congrArg (fun l => l[i]?) hmap
    simp only [List.getElem?_map, List.getElem?_eq_getElem hxi, List.getElem?_eq_getElem hi, Option.map_some, Option.some.injEq] at this
    exact this
  obtain ⟨y0, y1, q, hy, hlen, t0, t1⟩ := trod_struct2 hE ha
  rw [hy] at he
  simp only [pd, DataW.agg.injEq, List.cons.injEq, and_true] at he
  obtain ⟨e0, e1⟩ := he
  rw [kE] at hlen
  match hc : (cs.drop (i * 2)).take 2, hlen with
  | [c0, c1], _ =>
    rw [hc, o0, k0] at t0
    rw [hc, o1, k1] at t1
    have r0 := int_in (v := .int .i64 T[i].1) h0 t0 (by rw [e0]; rfl)
    have r1 := h1 _ _ _ _ t1 e1
    simp at r0 r1
    rw [r0, r1]; rfl
def reTV : List (Int × Value) := reT.map fun x => (x.1, .string x.2)
theorem reData : Rows.laid_ledger_web_reasons = .agg (reTV.map pd) := by kernel_rfl
theorem heap_of_var {W : World} {nm : String} {g : Nat} {cs : Array Value} (hg : Tryz.prog.globalNamed nm = some g) (h : W.var? Tryz.prog nm = some cs) : ∃ t fr, W.heap[g]? = some (.cells cs t fr) := by
  unfold World.var? at h
  rw [hg, Option.bind_some] at h
  cases hx : W.heap[g]? with
  | none => rw [hx] at h; cases h
  | some o =>
    rw [hx] at h
    cases o <;> simp at h
    subst h
    exact ⟨_, _, rfl⟩
theorem layT1 {W : World} (h : VarReads Tryz.prog W "ledger/web.reasons" Rows.laid_ledger_web_reasons) : ∃ t fr, W.heap[13]? = some (.cells reC t fr) := by
  rw [reData] at h
  obtain ⟨g', t', cs, fuel, p, hg', ht', hvar, hd⟩ := h
  obtain rfl := Option.some.inj ((show Tryz.prog.globalNamed "ledger/web.reasons" = some 13 by kernel_rfl).symm.trans hg')
  obtain rfl := Option.some.inj ((show (Tryz.prog.globals[13]?).map (·.type) = some 186 by kernel_rfl).symm.trans ht')
  have e := cells_of_pairs Tryz.underlying186 Tryz.underlying185 Tryz.underlying3 rfl rfl (by kernel_rfl) (by kernel_rfl) (by kernel_rfl) (by kernel_rfl) rfl (fun m c y v h hy => text_in Tryz.underlying9 h hy) hd
  have e2 : cs = reC := by
    rw [← Array.toList_inj, e]; rfl
  rw [e2] at hvar
  exact heap_of_var (by kernel_rfl) hvar
def put (vs : List Value) : Obj → Obj
  | .cells _ t frozen => .cells vs.toArray t frozen
  | o => o
def bru32 : List Int := [0, 1, 28, 2, 29, 14, 24, 3, 30, 22, 20, 15, 25, 17, 4, 8, 31, 27, 13, 23, 21, 19, 16, 7, 26, 12, 18, 6, 11, 5, 10, 9]
def bru64 : List Int := [0, 1, 56, 2, 57, 49, 28, 3, 61, 58, 42, 50, 38, 29, 17, 4, 62, 47, 59, 36, 45, 43, 51, 22, 53, 39, 33, 30, 24, 18, 12, 5, 63, 55, 48, 27, 60, 41, 37, 16, 46, 35, 44, 21, 52, 32, 23, 11, 54, 26, 40, 15, 34, 20, 31, 10, 25, 14, 19, 9, 13, 8, 7, 6]
noncomputable def world (os : Os) : World :=
  let w0 := World.holding Tryz.prog os ⟨#[], #[], []⟩
  { w0 with heap := ((((w0.heap.modify 19 (put (Lib.pow10Tab.map (Value.int .u64)))).modify 21 (put (bru32.map (Value.int .u8)))).modify 22 (put (bru64.map (Value.int .u8)))).modify 0 (put stC.toList)).modify 13 (put reC.toList) }
end Go.Proofs.YthgojbdpmcccaaaGreatDoor.LaidT
end
section
namespace Go.Proofs.YthgojbdpmcccaaaGreatDoor.LaidZ
open Go.ChangeShapes Go.WideShapes Go.ChangeAt Go.RowKit
open Go.Proofs.YthgojbdpmcccaaaGreatDoor.K Go.Proofs.YthgojbdpmcccaaaGreatDoor.Wb Go.Proofs.YthgojbdpmcccaaaGreatDoor.LaidT Go.Proofs.YthgojbdpmcccaaaGreatDoor.LaidF
open Go.Lib (VarReads)
set_option linter.unusedVariables false
set_option linter.unusedSimpArgs false
noncomputable def world (os : Os) : World :=
  let w0 := World.holding Tryz.prog os ⟨#[.cells #[.string ⟨(textE 2).toArray⟩] 305, .cells #[.string ⟨(textE 3).toArray⟩] 305, .cells #[.string ⟨(textE 4).toArray⟩] 305, .cells #[.string ⟨(textE 5).toArray⟩] 305, .cells #[.string ⟨(textE 6).toArray⟩] 305, .cells #[.string ⟨(textE 7).toArray⟩] 305, .cells #[.string ⟨(textE 8).toArray⟩] 305, .cells #[.string ⟨(textE 9).toArray⟩] 305, .cells #[.string ⟨(textE 10).toArray⟩] 305, .cells #[.string ⟨(textE 11).toArray⟩] 305, .cells #[.string ⟨(textE 12).toArray⟩] 305, .cells #[.string ⟨(textE 13).toArray⟩] 305, .cells #[.string ⟨([98, 121, 116, 101, 115, 46, 66, 117, 102, 102, 101, 114, 58, 32, 116, 111, 111, 32, 108, 97, 114, 103, 101] : List UInt8).toArray⟩] 305], #[], []⟩
  { w0 with heap := ((((((((((((((((((((w0.heap.modify (gE 2) (LaidF.put [.iface 283 (.pointer (some ⟨LaidF.low + 0, 0, none⟩))])).modify (gE 3) (LaidF.put [.iface 283 (.pointer (some ⟨LaidF.low + 1, 0, none⟩))])).modify (gE 4) (LaidF.put [.iface 283 (.pointer (some ⟨LaidF.low + 2, 0, none⟩))])).modify (gE 5) (LaidF.put [.iface 283 (.pointer (some ⟨LaidF.low + 3, 0, none⟩))])).modify (gE 6) (LaidF.put [.iface 283 (.pointer (some ⟨LaidF.low + 4, 0, none⟩))])).modify (gE 7) (LaidF.put [.iface 283 (.pointer (some ⟨LaidF.low + 5, 0, none⟩))])).modify (gE 8) (LaidF.put [.iface 283 (.pointer (some ⟨LaidF.low + 6, 0, none⟩))])).modify (gE 9) (LaidF.put [.iface 283 (.pointer (some ⟨LaidF.low + 7, 0, none⟩))])).modify (gE 10) (LaidF.put [.iface 283 (.pointer (some ⟨LaidF.low + 8, 0, none⟩))])).modify (gE 11) (LaidF.put [.iface 283 (.pointer (some ⟨LaidF.low + 9, 0, none⟩))])).modify (gE 12) (LaidF.put [.iface 283 (.pointer (some ⟨LaidF.low + 10, 0, none⟩))])).modify (gE 13) (LaidF.put [.iface 283 (.pointer (some ⟨LaidF.low + 11, 0, none⟩))])).modify 17 (LaidF.put meC.toList)).modify 24 (LaidF.put (accs.map (Value.int .u8)))).modify 23 (LaidF.put (Lib.firstTab.map (Value.int .u8)))).modify 18 (LaidF.put [.iface 283 (.pointer (some ⟨LaidF.low + 12, 0, none⟩))])).modify 19 (LaidF.put (Lib.pow10Tab.map (Value.int .u64)))).modify 21 (LaidF.put (bru32.map (Value.int .u8)))).modify 22 (LaidF.put (bru64.map (Value.int .u8)))).modify 0 (LaidF.put stC.toList)).modify 13 (LaidF.put reC.toList) }
end Go.Proofs.YthgojbdpmcccaaaGreatDoor.LaidZ
end
section
namespace Go.Proofs.YthgojbdpmcccaaaGreatDoor.Q
open Go.RowKit Go.Proofs.YthgojbdpmcccaaaGreatDoorW.PrintWords Go.Proofs.YthgojbdpmcccaaaGreatDoorW.PrintLast
set_option linter.unusedVariables false
set_option linter.unusedSimpArgs false
structure WA (P : Program) (md : Region.Mode) (ops : Array Oper) (Q : Exit → Act → World → Prop) (S : World → Prop) (ds : List Nat) (fuel : Nat) (l : Array Bool) (a : Act) (w : World) : Prop where mk :: (out : wpAnyLast P md ops Q S ds fuel l a w)
section
variable {P : Program} {n : Nat} {ops : Array Oper} {Q : Exit → Act → World → Prop} {f : Fr} {w : World}
theorem wp_of_normal {o : Oper} {a : Act} {K : Act → World → Prop} (h : o.wp P a w K (fun ex a' w' => ex = .normal ∧ K a' w')) : o.wp P a w K Q := by
  unfold Oper.wp at *
  generalize (execOp a.eval o).run P w = r at *
  cases r with
  | ok m w' =>
    cases m <;> simp only [Oper.upon] at h ⊢ <;>
      first
        | exact h
        | exact Calls.mono h (fun e w'' he => by
            cases e with
            | returned v => exact he
            | panicked c => exact absurd he.1 (by simp)
            | outgrown => obtain ⟨_, _, h1, _⟩ := he; cases h1)
  | halt x w' =>
    cases x <;> simp only [Oper.upon] at h ⊢
    all_goals first | exact h | exact absurd h.1 (by simp)
theorem r_start {id m : Nat} {a : Act} (l : Array Bool) (hm : P.follows .mixedOrders = true) (hn : ops.size = m) (hl : Array.replicate m false = l)
    (h : WA P .any ops Q (fun _ => True) [] m l a w.drew) : (Code.region id ops true).wp P Q a w := start_ l hm hn hl trivial (fun _ => h.out)
theorem r_pure {i fuel : Nat} {l : Array Bool} {o : Oper} {v : Value} (l' : Array Bool) (hi : ops[i]? = some o) (hc : anyB .any ops l l' i = true) (hQ : ∀ c a w, Q (.panic c) (a.put o.dst v) w → Q (.panic c) a w)
    (hw : want n ops f o = true) (hv : ∀ w, (execOp (X n f) o).run P w = .ok (.value v) w) (h : WA P .any ops Q (fun _ => True) [] fuel l' (act n (put f o.dst v)) w) : WA P .any ops Q (fun _ => True) [] (fuel + 1) l (act n f) w :=
  ⟨pure_ l' hi rfl hc hQ (Or.inl ⟨by rw [want_eq]; exact hw, fun w => by rw [eval_act]; exact hv w⟩) (put_act n f _ v) h.out⟩
theorem r_list {i fuel : Nat} {l : Array Bool} {o : Oper} (l' : Array Bool) (hi : ops[i]? = some o) (hc : readyB .any ops l l' i = true) (hw : want n ops f o = true)
    (h : WL P ops (fun ex a' w' => ex = .normal ∧ WA P .any ops Q (fun _ => True) [] fuel l' a' w') [o] (act n f) w) : WA P .any ops Q (fun _ => True) [] (fuel + 1) l (act n f) w := by
  have h := h.out
  refine ⟨?_⟩
  refine one_ l' hi rfl hc (by simp) (fun K hK => ?_)
  have hw' : Region.wanted o (yielded ops (act n f).tmps) = true := by rw [want_eq]; exact hw
  rw [if_pos hw']
  simp only [wpList, hw', if_true] at h
  rcases h with h | ⟨_, _, _, h, _⟩
  · refine Oper.wp_mono (fun a' w' hk => hK.out a' w' trivial (fun _ => hk.out)) (wp_of_normal (K := fun a' w' => WA P .any ops Q (fun _ => True) [] fuel l' a' w') ?_)
    exact Oper.wp_mono (fun a' w' hk => hk.2) h
  · cases h
theorem r_done {l : Array Bool} {m : Nat} {a : Act} (hr : (Region.ready .any ops l == []) = true) (h : Q .normal a w) : WA P .any ops Q (fun _ => True) [] m l a w := ⟨done_ hr h⟩
end
end Go.Proofs.YthgojbdpmcccaaaGreatDoor.Q
end
section
namespace Go.Proofs.YthgojbdpmcccaaaGreatDoor.K
open Go.RowKit Go.Proofs.YthgojbdpmcccaaaGreatDoor.Q Go.Proofs.YthgojbdpmcccaaaGreatDoor.Wb Go.Proofs.YthgojbdpmcccaaaGreatDoorW.PrintWords
set_option linter.unusedVariables false
set_option linter.unusedSimpArgs false
theorem cut_find (c : Int) : ∀ l : L, (0 ≤ find c l → cutC c l = some (l.take (find c l).toNat, l.drop ((find c l).toNat + 1))) ∧ (find c l < 0 → cutC c l = none)
  | [] => by simp [find, cutC]
  | x :: r => by
    obtain ⟨h1, h2⟩ := cut_find c r
    have hg := find_ge c r
    simp only [find, cutC]
    by_cases hx : x = c
    · simp [hx]
    · rw [if_neg hx, if_neg hx]
      by_cases h : find c r < 0
      · rw [if_pos h, h2 h]; simp
      · rw [if_neg h, h1 (by omega)]
        have e : (find c r + 1).toNat = (find c r).toNat + 1 := by omega
        simp [e]
        omega
theorem cut_c (t : ByteArray) (c : UInt8) (ht : t.size < 4294967281) : ∃ (cd qr : ByteArray) (b : Bool), bl cd = aheadC (c.toNat : Int) (bl t) ∧ bl qr = behindC (c.toNat : Int) (bl t) ∧
    ∀ (w : World) (m : Int), w.cell? ⟨20, 0, none⟩ = some (.int .i64 m) → Calls Tryz.prog 169 #[.string t, .string ⟨#[c]⟩] w fun e w' => e = .returned (.tuple #[.string cd, .string qr, .bool b]) ∧ Dr w w' := by
  refine ⟨⟨(Lib.cut t.data.toList [c]).1.toArray⟩, ⟨(Lib.cut t.data.toList [c]).2.1.toArray⟩, (Lib.cut t.data.toList [c]).2.2, ?_, ?_, fun w m hm => (Tryz.strings_Cut t ⟨#[c]⟩ m w ht hm).mono fun e w' h => h⟩
  all_goals
    have hcc : (c.toNat : Int).toNat.toUInt8 = c := by simp
    have hi := index_find (c := (c.toNat : Int)) (by omega) (by have := c.toNat_lt; omega) t.data.toList
    rw [hcc] at hi
    obtain ⟨h1, h2⟩ := cut_find (c.toNat : Int) (bl t)
    have hb : (t.data.toList.map fun b => (b.toNat : Int)) = bl t := rfl
    rw [hb] at hi
    unfold Lib.cut
    rw [Lib.index_one, hi]
    by_cases h : 0 ≤ find (c.toNat : Int) (bl t)
    · rw [if_pos h]
      first
      | (unfold aheadC; rw [h1 h]; simp [bl, List.map_take])
      | (unfold behindC; rw [h1 h]; simp [bl, List.map_drop])
    · rw [if_neg h]
      first
      | (unfold aheadC; rw [h2 (by omega)]; done)
      | (unfold aheadC; rw [h2 (by omega)]; rfl)
      | (unfold behindC; rw [h2 (by omega)]; done)
      | (unfold behindC; rw [h2 (by omega)]; rfl)
theorem hexI_none {c : Int} (h : hexI c < 0) : hexV c = none := by
  unfold hexI at h
  cases hv : hexV c with
  | none => rfl
  | some v => rw [hv] at h; simp only at h; omega
theorem hexI_some {c : Int} (h : ¬ hexI c < 0) : ∃ v : Nat, hexV c = some v ∧ hexI c = (v : Int) := by
  unfold hexI at h ⊢
  cases hv : hexV c with
  | none => rw [hv] at h; simp at h
  | some v => exact ⟨v, rfl, rfl⟩
theorem Dr.below {w w' : World} (h : Dr w w') : Below w.heap.size w w' := by
  obtain ⟨n, rfl⟩ := h
  exact pw_below_drewN (Below.refl _ _) n
structure PJ (w : World) (dec : Option L) (cl : L) (i : Int) (acc : L) (A : Option Addr) (c : Nat) (w' : World) : Prop where
  B : Below w.heap.size w w'
  O : Own 5 w' w.heap.size (.slice A acc.length c) acc
  R : ReadsInt w' .u8 A acc.length acc
  i0 : 0 ≤ i
  i1 : i ≤ cl.length
  al : (acc.length : Int) ≤ i
  D : dec = (decodeS (cl.length + 1 - i.toNat) (cl.drop i.toNat)).map (acc ++ ·)
structure EJ (w : World) (l : L) (i : Int) (acc : L) (A : Option Addr) (c : Nat) (w' : World) : Prop where
  B : Below w.heap.size w w'
  O : Own 5 w' w.heap.size (.slice A acc.length c) acc
  R : ReadsInt w' .u8 A acc.length acc
  i0 : 0 ≤ i
  i1 : i ≤ l.length
  al : (acc.length : Int) ≤ 3 * i
  D : escL l = acc ++ escL (l.drop i.toNat)
end Go.Proofs.YthgojbdpmcccaaaGreatDoor.K
end
