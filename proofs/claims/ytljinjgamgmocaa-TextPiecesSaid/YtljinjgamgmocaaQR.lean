/- The calculus' steps in a region that draws its order and writes memory: what yields everywhere is taken first, what writes is taken where it alone may come up. -/
import Derived.Test.YtljinjgamgmocaaQM
import Derived.Test.YtljinjgamgmocaaWLast
namespace Go.Proofs.Ytljinjgamgmocaa.Q
open Go.RowKit Go.Proofs.YtljinjgamgmocaaW.PrintWords Go.Proofs.YtljinjgamgmocaaW.PrintLast
set_option linter.unusedVariables false
set_option linter.unusedSimpArgs false
/-- A goal that no step opens. -/
structure WA (P : Program) (md : Region.Mode) (ops : Array Oper) (Q : Exit → Act → World → Prop) (S : World → Prop) (ds : List Nat) (fuel : Nat) (l : Array Bool) (a : Act) (w : World) : Prop where mk :: (out : wpAnyLast P md ops Q S ds fuel l a w)
section
variable {P : Program} {n : Nat} {ops : Array Oper} {Q : Exit → Act → World → Prop} {f : Fr} {w : World}
theorem wp_of_normal {o : Oper} {a : Act} {K : Act → World → Prop} (h : o.wp P a w K (fun ex a' w' => ex = .normal ∧ K a' w')) : o.wp P a w K Q := by
  unfold Oper.wp at *
  generalize (execOp a.eval o).run P w = r at *
  cases r with
  | ok m w' =>
    cases m <;> simp only [Oper.upon] at h ⊢ <;>
      first
        | exact h
        | exact Calls.mono h (fun e w'' he => by
            cases e with
            | returned v => exact he
            | panicked c => exact absurd he.1 (by simp)
            | outgrown => obtain ⟨_, _, h1, _⟩ := he; cases h1)
  | halt x w' =>
    cases x <;> simp only [Oper.upon] at h ⊢
    all_goals first | exact h | exact absurd h.1 (by simp)
theorem r_start {id m : Nat} {a : Act} (l : Array Bool) (hm : P.follows .mixedOrders = true) (hn : ops.size = m) (hl : Array.replicate m false = l)
    (h : WA P .any ops Q (fun _ => True) [] m l a w.drew) : (Code.region id ops true).wp P Q a w := start_ l hm hn hl trivial (fun _ => h.out)
theorem r_pure {i fuel : Nat} {l : Array Bool} {o : Oper} {v : Value} (l' : Array Bool) (hi : ops[i]? = some o) (hc : anyB .any ops l l' i = true) (hQ : ∀ c a w, Q (.panic c) (a.put o.dst v) w → Q (.panic c) a w)
    (hw : want n ops f o = true) (hv : ∀ w, (execOp (X n f) o).run P w = .ok (.value v) w) (h : WA P .any ops Q (fun _ => True) [] fuel l' (act n (put f o.dst v)) w) : WA P .any ops Q (fun _ => True) [] (fuel + 1) l (act n f) w :=
  ⟨pure_ l' hi rfl hc hQ (Or.inl ⟨by rw [want_eq]; exact hw, fun w => by rw [eval_act]; exact hv w⟩) (put_act n f _ v) h.out⟩
theorem r_list {i fuel : Nat} {l : Array Bool} {o : Oper} (l' : Array Bool) (hi : ops[i]? = some o) (hc : readyB .any ops l l' i = true) (hw : want n ops f o = true)
    (h : WL P ops (fun ex a' w' => ex = .normal ∧ WA P .any ops Q (fun _ => True) [] fuel l' a' w') [o] (act n f) w) : WA P .any ops Q (fun _ => True) [] (fuel + 1) l (act n f) w := by
  have h := h.out
  refine ⟨?_⟩
  refine one_ l' hi rfl hc (by simp) (fun K hK => ?_)
  have hw' : Region.wanted o (yielded ops (act n f).tmps) = true := by rw [want_eq]; exact hw
  rw [if_pos hw']
  simp only [wpList, hw', if_true] at h
  rcases h with h | ⟨_, _, _, h, _⟩
  · refine Oper.wp_mono (fun a' w' hk => hK.out a' w' trivial (fun _ => hk.out)) (wp_of_normal (K := fun a' w' => WA P .any ops Q (fun _ => True) [] fuel l' a' w') ?_)
    exact Oper.wp_mono (fun a' w' hk => hk.2) h
  · cases h
theorem r_done {l : Array Bool} {m : Nat} {a : Act} (hr : (Region.ready .any ops l == []) = true) (h : Q .normal a w) : WA P .any ops Q (fun _ => True) [] m l a w := ⟨done_ hr h⟩
end
end Go.Proofs.Ytljinjgamgmocaa.Q
