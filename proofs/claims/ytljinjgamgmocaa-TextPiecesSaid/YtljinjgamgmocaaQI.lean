/- Steps inside a fence: in the round of a range over a function, behind one, and at a call of yield. -/
import Derived.Test.YtljinjgamgmocaaQA
import Derived.RangeFuncNested
import Derived.RangeFuncBound
import Derived.RangeFuncCalls
import Derived.RangeFuncLeaves
import Derived.RangeFuncBox
import Derived.TacticsIn
namespace Go.Proofs.Ytljinjgamgmocaa.Q
open Go.RowKit Go.Proofs.YtljinjgamgmocaaW.PrintWords Go.Proofs.YtljinjgamgmocaaW.PrintLast
set_option linter.unusedVariables false
set_option linter.unusedSimpArgs false

def actD (n : Nat) (f : Fr) (ds : List Deferred) : Act := ⟨arr n f, ds⟩
theorem eval_actD (n : Nat) (f : Fr) (ds : List Deferred) : (actD n f ds).eval = X n f := (show (actD n f ds).eval = (act n f).eval from rfl).trans (eval_act n f)
theorem put_actD (n : Nat) (f : Fr) (ds : List Deferred) (d : Option Nat) (v : Value) : (actD n f ds).put d v = actD n (put f d v) ds := by
  have h := put_act n f d v
  cases d with
  | none => rfl
  | some d =>
    have h1 := congrArg Act.tmps h
    show Act.mk _ ds = Act.mk _ ds
    congr 1
structure WI (F : Fence) (m : Nat) (P : Program) (ops : Array Oper) (Q : Exit → Act → World → Prop) (l : List Oper) (a : Act) (w : World) : Prop where mk :: (out : wpListIn F m P ops Q l a w)
section
variable {F : Fence} {m : Nat} {P : Program} {n : Nat} {ops : Array Oper} {Q : Exit → Act → World → Prop} {rest : List Oper} {f : Fr} {ds : List Deferred} {w : World} {d : Option Nat} {op : Op} {tt : TypeId} {ps : String} {af : Array Edge} {gd : Option (Nat × Bool)}
theorem want_eqD (o : Oper) : Region.wanted o (yielded ops (actD n f ds).tmps) = want n ops f o := want_eq n ops f o
theorem i_nil {a : Act} (h : Q .normal a w) : WI F m P ops Q [] a w := ⟨h⟩
theorem i_nil0 (h : Q .normal (act n f) w) : WI F m P ops Q [] (actD n f []) w := ⟨h⟩
theorem i_region {id : Nat} {l : List Oper} {a : Act} (h : WI F m P l.toArray Q l a w) : (Code.region id l.toArray false).wpIn F m P Q a w := wpIn_region_lit h.out
theorem i_val {v : Value} {w' : World} (hF : ∀ g, F.fn g) (hnd : ∀ c, op ≠ .defer c) (hw : want n ops f ⟨d, op, tt, ps, af, gd⟩ = true) (hv : (execOp (X n f) ⟨d, op, tt, ps, af, gd⟩).run P w = .ok (.value v) w') (h : WI F m P ops Q rest (actD n (put f d v) ds) w') : WI F m P ops Q (⟨d, op, tt, ps, af, gd⟩ :: rest) (actD n f ds) w := by
  refine ⟨?_⟩
  have h := h.out
  simp only [wpListIn, want_eqD, hw, if_true]
  refine ⟨fun g _ => hF g, ?_⟩
  rw [eval_actD, Oper.semAt_eq _ _ _ hnd, hv]
  simp only [Oper.uponIn, put_actD]
  exact h
theorem i_skip {w' : World} (hF : ∀ g, F.fn g) (hnd : ∀ c, op ≠ .defer c) (hw : want n ops f ⟨none, op, tt, ps, af, gd⟩ = true) (hv : (execOp (X n f) ⟨none, op, tt, ps, af, gd⟩).run P w = .ok .skip w') (h : WI F m P ops Q rest (actD n f ds) w') : WI F m P ops Q (⟨none, op, tt, ps, af, gd⟩ :: rest) (actD n f ds) w := by
  refine ⟨?_⟩
  have h := h.out
  simp only [wpListIn, want_eqD, hw, if_true]
  refine ⟨fun g _ => hF g, ?_⟩
  rw [eval_actD, Oper.semAt_eq _ _ _ hnd, hv]
  simp only [Oper.uponIn, put_actD]
  exact h
theorem i_yield {x : Operand} {xs : Array Operand} {ts : Array TypeId} {l : Nat} {args : List Value} {fn : FuncId} {tmps : Array Value} {assign body : Code} {R : Ending → World → Prop} (hF : ∀ g, F.fn g) (hd : F.depth = none) (hw : want n ops f ⟨d, .call { callee := .value x, args := xs, argTypes := ts }, tt, ps, af, gd⟩ = true)
    (hx : X n f x = .func (.yield l) #[] #[]) (ha : xs.toList.map (X n f) = args) (hy : (Instr.yield l args.toArray).run P w = .ok (.round l fn tmps assign body) w) (hR : RoundIn F (m - 1) P l fn tmps assign body w R)
    (h : ∀ e w', R e w' → ∃ v, e = .returned v ∧ WI F m P ops Q rest (actD n (put f d v) ds) w') : WI F m P ops Q (⟨d, .call { callee := .value x, args := xs, argTypes := ts }, tt, ps, af, gd⟩ :: rest) (actD n f ds) w := by
  refine ⟨?_⟩
  simp only [wpListIn, want_eqD, hw, if_true]
  refine ⟨fun g _ => hF g, ?_⟩
  have hrun : (execOp (X n f) ⟨d, .call { callee := .value x, args := xs, argTypes := ts }, tt, ps, af, gd⟩).run P w = .ok (.round l fn tmps assign body) w := by
    unfold execOp
    have ha2 : xs.map (X n f) = args.toArray := by rw [← ha, ← Array.toList_inj]; simp
    simp [resolve, invoke, hx, ha2, hy, go_sem]
  rw [eval_actD, Oper.semAt_eq _ _ _ (fun c e => by cases e), hrun]
  simp only [Oper.uponIn]
  refine ⟨fun e => (by rw [hd] at e; cases e), hR.mono fun e w' hq => ?_⟩
  obtain ⟨v, rfl, hk⟩ := h e w' hq
  simp only [put_actD]
  exact hk.out
theorem end0 {fn : Func} {R : Ending → World → Prop} (hr : fn.results = #[]) (h : R (.returned (.tuple #[])) w) : bodyPost P fn R .normal (act n f) w :=
  ⟨rfl, .tuple #[], by unfold results; simp [hr], h⟩
theorem end0r {fn : Func} {R : Ending → World → Prop} (hr : fn.results = #[]) (h : R (.returned (.tuple #[])) w) : bodyPost P fn R .ret (act n f) w :=
  ⟨rfl, .tuple #[], by unfold results; simp [hr], h⟩
end
end Go.Proofs.Ytljinjgamgmocaa.Q
