/- A region that draws its order, the last of whose stores writes what its own loads read: ds: the operations behind which S need not hold. -/
import Derived.Test.YtnimaenhijlcmaaGreatDoorQH
namespace Go.Proofs.YtnimaenhijlcmaaGreatDoor.Q
open Go.RowKit Go.Proofs.YtnimaenhijlcmaaGreatDoorW.PrintWords Go.Proofs.YtnimaenhijlcmaaGreatDoorW.PrintLast
set_option linter.unusedVariables false
set_option linter.unusedSimpArgs false

section
variable {P : Program} {n : Nat} {ops : Array Oper} {Q : Exit → Act → World → Prop} {S : World → Prop} {ds : List Nat} {f : Fr} {w : World}
theorem e_start {id m : Nat} {a : Act} (S : World → Prop) (ds : List Nat) (l : Array Bool) (hm : P.follows .mixedOrders = true) (hn : ops.size = m) (hl : Array.replicate m false = l) (hS : S w.drew)
    (h : WA P .any ops Q S ds m l a w.drew) : (Code.region id ops true).wp P Q a w := start_ l hm hn hl hS (fun _ => h.out)
theorem e_pure {i fuel : Nat} {l : Array Bool} {o : Oper} {v : Value} (l' : Array Bool) (hi : ops[i]? = some o) (hc : anyB .any ops l l' i = true) (hQ : ∀ c a w, Q (.panic c) (a.put o.dst v) w → Q (.panic c) a w)
    (hw : want n ops f o = true) (hv : ∀ w, (execOp (X n f) o).run P w = .ok (.value v) w) (h : WA P .any ops Q S ds fuel l' (act n (put f o.dst v)) w) : WA P .any ops Q S ds (fuel + 1) l (act n f) w :=
  ⟨pure_ l' hi rfl hc hQ (Or.inl ⟨by rw [want_eq]; exact hw, fun w => by rw [eval_act]; exact hv w⟩) (put_act n f _ v) h.out⟩
theorem e_take {i fuel : Nat} {l : Array Bool} {o : Oper} {v : Value} (l' : Array Bool) (hi : ops[i]? = some o) (hc : takeB .any ops ds l l' i = true) (hQ : ∀ c a w, Q (.panic c) (a.put o.dst v) w → Q (.panic c) a w)
    (hw : want n ops f o = true) (hv : ∀ w, S w → (execOp (X n f) o).run P w = .ok (.value v) w) (hS : S w) (h : WA P .any ops Q S ds fuel l' (act n (put f o.dst v)) w) : WA P .any ops Q S ds (fuel + 1) l (act n f) w :=
  ⟨take_ l' hi rfl hc hQ (Or.inl ⟨by rw [want_eq]; exact hw, fun w hS => by rw [eval_act]; exact hv w hS⟩) hS (put_act n f _ v) h.out⟩
theorem e_one {i fuel : Nat} {l : Array Bool} {o : Oper} (l' : Array Bool) (hi : ops[i]? = some o) (hc : readyB .any ops l l' i = true) (hd : i ∉ ds) (hw : want n ops f o = true)
    (h : WL P ops (fun ex a' w' => ex = .normal ∧ S w' ∧ WA P .any ops Q S ds fuel l' a' w') [o] (act n f) w) : WA P .any ops Q S ds (fuel + 1) l (act n f) w := by
  have h := h.out
  refine ⟨?_⟩
  refine one_ l' hi rfl hc hd (fun K hK => ?_)
  have hw' : Region.wanted o (yielded ops (act n f).tmps) = true := by rw [want_eq]; exact hw
  rw [if_pos hw']
  simp only [wpList, hw', if_true] at h
  rcases h with h | ⟨_, _, _, h, _⟩
  · refine Oper.wp_mono (fun a' w' hk => hK.out a' w' hk.1 (fun _ => hk.2.out)) (wp_of_normal (K := fun a' w' => S w' ∧ WA P .any ops Q S ds fuel l' a' w') ?_)
    exact Oper.wp_mono (fun a' w' hk => hk.2) h
  · cases h
theorem e_two {i j fuel : Nat} {l : Array Bool} {o p : Oper} (li lj : Array Bool) (hi : ops[i]? = some o) (hj : ops[j]? = some p) (hc : (Region.ready .any ops l == [i, j] && l.setIfInBounds i true == li && l.setIfInBounds j true == lj) = true) (hdi : i ∉ ds) (hdj : j ∉ ds) (hw : want n ops f o = true) (hv : want n ops f p = true)
    (h : WL P ops (fun ex a' w' => ex = .normal ∧ S w' ∧ WA P .any ops Q S ds fuel li a' w') [o] (act n f) w)
    (g : WL P ops (fun ex a' w' => ex = .normal ∧ S w' ∧ WA P .any ops Q S ds fuel lj a' w') [p] (act n f) w) : WA P .any ops Q S ds (fuel + 1) l (act n f) w := by
  have h := h.out
  have g := g.out
  have hw' : Region.wanted o (yielded ops (act n f).tmps) = true := by rw [want_eq]; exact hw
  have hv' : Region.wanted p (yielded ops (act n f).tmps) = true := by rw [want_eq]; exact hv
  refine ⟨?_⟩
  refine two_ li lj hi hj rfl rfl hc hdi hdj (fun K hK => ?_) (fun K hK => ?_)
  · rw [if_pos hw']
    simp only [wpList, hw', if_true] at h
    rcases h with h | ⟨_, _, _, h, _⟩
    · refine Oper.wp_mono (fun a' w' hk => hK.out a' w' hk.1 (fun _ => hk.2.out)) (wp_of_normal (K := fun a' w' => S w' ∧ WA P .any ops Q S ds fuel li a' w') ?_)
      exact Oper.wp_mono (fun a' w' hk => hk.2) h
    · cases h
  · rw [if_pos hv']
    simp only [wpList, hv', if_true] at g
    rcases g with g | ⟨_, _, _, g, _⟩
    · refine Oper.wp_mono (fun a' w' hk => hK.out a' w' hk.1 (fun _ => hk.2.out)) (wp_of_normal (K := fun a' w' => S w' ∧ WA P .any ops Q S ds fuel lj a' w') ?_)
      exact Oper.wp_mono (fun a' w' hk => hk.2) g
    · cases g
theorem e_last {i fuel : Nat} {l : Array Bool} {o : Oper} (l' : Array Bool) (hi : ops[i]? = some o) (hc : readyB .any ops l l' i = true) (hd : i ∈ ds) (hw : want n ops f o = true)
    (h : WL P ops (fun ex a' w' => ex = .normal ∧ WA P .any ops Q S ds fuel l' a' w') [o] (act n f) w) : WA P .any ops Q S ds (fuel + 1) l (act n f) w := by
  have h := h.out
  refine ⟨?_⟩
  refine last_ l' hi rfl hc hd (fun K hK => ?_)
  have hw' : Region.wanted o (yielded ops (act n f).tmps) = true := by rw [want_eq]; exact hw
  rw [if_pos hw']
  simp only [wpList, hw', if_true] at h
  rcases h with h | ⟨_, _, _, h, _⟩
  · refine Oper.wp_mono (fun a' w' hk => hK.out a' w' hk.out) (wp_of_normal (K := fun a' w' => WA P .any ops Q S ds fuel l' a' w') ?_)
    exact Oper.wp_mono (fun a' w' hk => hk.2) h
  · cases h
theorem e_done {l : Array Bool} {m : Nat} {a : Act} (hr : (Region.ready .any ops l == []) = true) (h : Q .normal a w) : WA P .any ops Q S ds m l a w := ⟨done_ hr h⟩
end
end Go.Proofs.YtnimaenhijlcmaaGreatDoor.Q
