/- Lines: the rounds gather the lines. -/
import Derived.Test.YtljinjgamgmocaaPc
import Derived.RangeFuncFrom
import Derived.Shelf.Abstract
import Derived.OwnWalkIn
namespace Go.Proofs.Ytljinjgamgmocaa.K
open Go.RowKit Go.Shelf Go.Proofs.Ytljinjgamgmocaa.Q Go.Proofs.Ytljinjgamgmocaa.Mb Go.Proofs.YtljinjgamgmocaaW.PrintWords
set_option linter.unusedVariables false
set_option linter.unusedSimpArgs false
section
variable {P : Program} {n m : Nat} {w : World} {f : Fr} {F : Fence}
theorem enterM {g : FuncId} {fn : Func} {c : Code} {args : List Value} {R : Ending → World → Prop} (m : Nat) (hf : P.funcs[g]? = some fn) (hb : fn.body = some c) (hn : fn.ntmps = n) (hl : Nat.ble args.length n = true)
    (h : c.wp P (bodyPostM Fence.wide m P fn R) (act n (ini args)) w) : Calls P g args.toArray w R := by
  refine callsIn_wide.1 (callsIn_of_wp_marks (F := Fence.wide) (n := m) hf hb trivial (wpIn_wide.2 ?_) rfl)
  have e : ({ tmps := args.toArray ++ Array.replicate (fn.ntmps - args.toArray.size) undef, defers := [] } : Act) = act n (ini args) := by
    unfold act
    congr 1
    have hl' : args.length ≤ n := Nat.le_of_ble_eq_true hl
    apply Array.ext
    · simp [arr, hn]; omega
    · intro i h1 h2
      simp only [arr, ini, List.getElem_toArray, List.getElem_map, List.getElem_range]
      by_cases hi : i < args.length
      · rw [Array.getElem_append_left (by simpa using hi)]
        simp [hi]
      · rw [Array.getElem_append_right (by simpa using hi)]
        simp [hi, List.getD_eq_getElem?_getD]
  rw [e]
  exact h
theorem res2 {fn : Func} {ds : List Deferred} {t u : Tmp} (hr : fn.results = #[.tmp t, .tmp u]) {v v2 : Value} (hv : nf (X n f (.tmp t)) = some v) (hv2 : nf (X n f (.tmp u)) = some v2) : (results fn (actD n f ds).tmps).run P w = .ok (.tuple #[v, v2]) w := by
  refine (results_tmp2 hr _ _ _).trans ?_
  rw [show (actD n f ds).tmps = arr n f from rfl, getD_arr, getD_arr, ← nf_eq hv, ← nf_eq hv2]
theorem end2M {fn : Func} {R : Ending → World → Prop} {t u : Tmp} (hr : fn.results = #[.tmp t, .tmp u]) {v v2 : Value} (hv : nf (X n f (.tmp t)) = some v) (hv2 : nf (X n f (.tmp u)) = some v2) (h : R (.returned (.tuple #[v, v2])) w) : bodyPostM F m P fn R .ret (act n f) w :=
  ⟨_, res2 (ds := []) hr hv hv2, h⟩
end
section
variable {P : Program} {n : Nat} {Q : Exit → Act → World → Prop} {f : Fr} {w : World}
/-- Where several ways meet: what stands in the slots there, and what holds of the world. -/
theorem w_cut {σ : Type} (S : σ → List (Nat × Value)) (J : σ → World → Prop) {x z : Code}
    (h1 : x.wp P (Exit.then (fun a' w' => ∃ s f', a' = act n f' ∧ Slots f' (S s) ∧ J s w') Q) (act n f) w)
    (h2 : ∀ s f w', J s w' → z.wp P Q (act n (over f (S s))) w') : (Code.seq x z).wp P Q (act n f) w := by
  refine wp_seq (wp_mono h1 ?_)
  intro e a' w' hq
  cases e with
  | normal =>
    obtain ⟨s, f', rfl, k2, k3⟩ := hq
    have := h2 s f' w' k3
    rw [over_eq k2] at this
    exact this
  | exit id => exact hq
  | goto l => exact hq
  | ret => exact hq
  | panic ch => exact hq
  | outgrown => exact hq
end
section
variable {P : Program} {n : Nat} {ops : Array Oper} {Q : Exit → Act → World → Prop} {rest : List Oper} {f : Fr} {w : World} {d : Option Nat} {op : Op} {tt : TypeId} {ps : String} {af : Array Edge} {gd : Option (Nat × Bool)}
theorem run_alloc {t : TypeId} {i : TypeInfo} {z : Value} (hi : P.info? t = some i) (hz : i.zero = some z) : (Instr.alloc t true (.tuple #[])).run P w = .ok (.pointer (some ⟨w.heap.size, 0, none⟩)) (w.alloc (.cells z.cells t)) := by
  simp [Instr.alloc, zeroValue, typeInfo, hi, hz, newVar, newRow, go_sem]
theorem l_alloc {t : TypeId} {i : TypeInfo} {z : Value} (hw : want n ops f ⟨d, .alloc t, tt, ps, af, gd⟩ = true) (hi : P.info? t = some i) (hz : i.zero = some z)
    (h : WL P ops Q rest (act n (put f d (.pointer (some ⟨w.heap.size, 0, none⟩)))) (w.alloc (.cells z.cells t))) : WL P ops Q (⟨d, .alloc t, tt, ps, af, gd⟩ :: rest) (act n f) w := by
  refine l_valw hw ?_ h
  have := run_alloc (P := P) (w := w) hi hz
  unfold execOp
  simp [this]
end
theorem info_sl : (Try.prog.info? 25).map (·.zero) = some (some (.slice none 0 0)) := by kernel_rfl
section
variable {F : Fence} {m : Nat} {P : Program} {n : Nat} {ops : Array Oper} {Q : Exit → Act → World → Prop} {rest : List Oper} {f : Fr} {ds : List Deferred} {w : World} {d : Option Nat} {op : Op} {tt : TypeId} {ps : String} {af : Array Edge} {gd : Option (Nat × Bool)}
theorem bs_run {t e : TypeId} {x : Operand} {v : Value} {i : TypeInfo} {z : Value} (hu : P.underlying t = some (.slice e)) (hi : P.info? e = some i) (hz : i.zero = some z) (hs : i.size = 1) (hx : X n f x = v) (hc : v.cells = #[v])
    : (execOp (X n f) ⟨d, .buildSlice t 1 #[(0, x)], tt, ps, af, gd⟩).run P w = .ok (.value (.slice (some ⟨w.heap.size, 0, none⟩) 1 1)) (w.alloc (.cells #[v] e)) := by
  have h := run_buildSlice (P := P) w t e 1 #[(0, v)] #[v] i z hu hi hz (by rw [hs]; decide) (by rw [hs]; decide) (by simp [Instr.fill, hs, hc]; rw [show Array.range 1 = #[0] from rfl, List.map_toArray]; rfl)
  unfold execOp
  simp [hx, h]
theorem app_run {t e : TypeId} {x y : Operand} {v : Value} {base k : Nat} {xs : List Value} {u : Value} {i : TypeInfo} {z : Value} {ad : Addr} {c by_ : Nat} (hu : P.underlying t = some (.slice e)) (hi : P.info? e = some i) (hz : i.zero = some z) (hs : i.size = 1) (hb : i.bytes = by_) (hzs : z.cells.size = 1)
    (hx : X n f x = v) (hy : X n f y = .slice (some ad) 1 c) (hr : w.ownsRow base e 1 v k xs) (hc : w.cell? ad = some u) (h1 : u.oneCell' = true) (hl : (k + 1) * by_ ≤ 140737488355328) (hk : k + 1 ≤ 140737488355328) (hbs : base ≤ w.heap.size) :
    ∃ v' w', (execOp (X n f) ⟨d, .call { callee := .builtin .append, args := #[x, y], argTypes := #[t, t] }, tt, ps, af, gd⟩).run P w = .ok (.value v') w' ∧ w'.ownsRow base e 1 v' (k + 1) (xs ++ [u]) ∧ w.grownBy w' v.ownBlock := by
  obtain ⟨v', w', h, h2, h3, _⟩ := run_append_own (P := P) w base t tt e i z 1 by_ hu hi hz hs hb hzs (by decide) v k xs hr ad 1 c [u] rfl (fun j q hj => by
    cases j with
    | zero => simp only [List.getElem?_cons_zero, Option.some.injEq] at hj; subst hj; exact hc
    | succ j => cases hj) (fun q hq => by simp only [List.mem_singleton] at hq; subst hq; exact h1) (by simp only [maxLen]; omega) hl hbs
  refine ⟨v', w', ?_, h2, h3⟩
  unfold execOp
  simp only [resolve, invoke, builtin, Sem.run_bind, Sem.run_pure, Result.andThen_ok, List.map_toArray, List.map_cons, List.map_nil, hx, hy, h]
theorem i_app {t e : TypeId} {x y : Operand} {v : Value} {base k : Nat} {xs : List Value} {u : Value} {i : TypeInfo} {z : Value} {ad : Addr} {c by_ : Nat} (hF : ∀ g, F.fn g) (hw : want n ops f ⟨d, .call { callee := .builtin .append, args := #[x, y], argTypes := #[t, t] }, tt, ps, af, gd⟩ = true) (hu : P.underlying t = some (.slice e)) (hi : P.info? e = some i) (hz : i.zero = some z) (hs : i.size = 1) (hb : i.bytes = by_) (hzs : z.cells.size = 1)
    (hx : X n f x = v) (hy : X n f y = .slice (some ad) 1 c) (hr : w.ownsRow base e 1 v k xs) (hc : w.cell? ad = some u) (h1 : u.oneCell' = true) (hl : (k + 1) * by_ ≤ 140737488355328) (hk : k + 1 ≤ 140737488355328) (hbs : base ≤ w.heap.size)
    (h : ∀ v' w', w'.ownsRow base e 1 v' (k + 1) (xs ++ [u]) → w.grownBy w' v.ownBlock → WI F m P ops Q rest (actD n (put f d v') ds) w') : WI F m P ops Q (⟨d, .call { callee := .builtin .append, args := #[x, y], argTypes := #[t, t] }, tt, ps, af, gd⟩ :: rest) (actD n f ds) w := by
  obtain ⟨v', w', hr, h2, h3⟩ := app_run (n := n) (f := f) (d := d) (tt := tt) (ps := ps) (af := af) (gd := gd) hu hi hz hs hb hzs hx hy hr hc h1 hl hk hbs
  exact i_val hF (fun c e => by cases e) hw hr (h v' w' h2 h3)
theorem st_run {t e : TypeId} {x y : Operand} {g : Nat} {v old : Value} (hb : Boxed w g e old) (hx : X n f x = .pointer (some ⟨g, 0, none⟩)) (hy : X n f y = v) (hv : v.cells = #[v]) (h1 : v.oneCell' = true) (hi : (P.info? t).map (·.size) = some 1) :
    (execOp (X n f) ⟨d, .store t x y, tt, ps, af, gd⟩).run P w = .ok .skip (w.setCell ⟨g, 0, none⟩ v) := by
  have h := run_store_run (P := P) (w := w) (o := 0) t v [v] hb (by rw [hv]) hi (by simp) (by simpa using h1)
  rw [show w.setCells g 0 [v] = w.setCell ⟨g, 0, none⟩ v from rfl] at h
  unfold execOp
  simp [hx, hy, h]
end
theorem zip2 {n : Nat} (f : Fr) (a b : Nat) (x y : Value) : ({ tmps := (#[a, b].zip #[x, y]).foldl (fun t (p, v) => t.setIfInBounds p v) (act n f).tmps, defers := [] } : Act) = act n (put (put f (some a) x) (some b) y) := by
  rw [← put_act, ← put_act]
  simp [Act.put, act]
abbrev sv (b : L) : Value := .string (strOfNums b)
theorem numL_sv : ∀ (l : List L) (i : Nat), (numL i l).map (fun x => sv x.2) = l.map sv
  | [], _ => rfl
  | x :: r, i => by simp only [numL, List.map_cons, numL_sv r]
theorem at_last {s : L} (h : s ≠ []) : s.getLast? = some (at_ s ((s.length : Int) - 1)) := by
  have h0 : 0 < s.length := List.length_pos_iff.2 h
  unfold at_
  rw [List.getLast?_eq_getElem?, List.getD_eq_getElem?_getD, show ((s.length : Int) - 1).toNat = s.length - 1 by omega, List.getElem?_eq_getElem (by omega)]
  rfl
def lnE (s : L) : Int := if 1048576 < s.length then 2 else if s ≠ [] ∧ s.getLast? ≠ some 10 then 64 else 0
def lnL (s : L) : List L := if lnE s = 0 then lines s else []
def LnR (w0 : World) (s : L) (e : Ending) (w' : World) : Prop :=
  ∃ v, e = .returned (.tuple #[v, .int .i64 (lnE s)]) ∧ w'.ownsRow w0.heap.size 9 1 v (lnL s).length ((lnL s).map sv) ∧ Below w0.heap.size w0 w'
set_option maxRecDepth 100000 in
set_option maxHeartbeats 8000000 in
theorem lines_c {mx : Int} (s : L) (hs : Bytes s) (hl : s.length ≤ 140737488351232) (w : World) (hM : w.cell? ⟨0, 0, none⟩ = some (.int .i64 mx)) (hMn : 0 < w.heap.size) :
    Calls Try.prog 7 #[.string (strOfNums s)] w (LnR w s) := by
  refine enterM 9 (args := [.string (strOfNums s)]) Try.func7 rfl Try.ntmps7 rfl ?_
  repeat' (first | (first | (first | (with_reducible refine p_tn ?_) | (with_reducible refine p_tx ?_) | (with_reducible refine p_tr ?_) | (with_reducible refine p_bn ?_) | (with_reducible refine p_br ?_) | (with_reducible refine x_hit ?_) | (with_reducible refine x_miss rfl ?_) | (with_reducible refine wp_seq ?_) | (with_reducible refine wp_block ?_) | (with_reducible refine w_reg ?_) | (with_reducible (refine is_if ?_; first | refine w_ift rfl ?_ | refine w_iff rfl ?_)) | ((with_reducible refine is_if ?_); first | refine w_ift rfl ?_ | refine w_iff rfl ?_) | (with_reducible refine wp_skip ?_) | (with_reducible refine wp_exit ?_) | (with_reducible refine wp_ret ?_)) | (with_reducible refine p_sn ?_) | (with_reducible refine p_sr ?_) | (with_reducible refine p_sx ?_) | (with_reducible refine wp_scope_straight ?_) | (with_reducible refine wp_label ?_)) | (first | (with_reducible refine l_nil ?_) | ((with_reducible refine g_on ?_); (first | ((with_reducible refine g_mv ?_); refine l_p txs rfl rfl ?_) | ((with_reducible refine g_as ?_); refine l_p txs rfl rfl ?_) | ((with_reducible refine g_cl ?_); refine l_p txs rfl rfl ?_)))))
  (with_reducible refine is_l ?_); refine l_t txs rfl rfl (fun h1 => ?_) (fun h1 => ?_)
  · repeat' (first | (first | (first | (with_reducible refine p_tn ?_) | (with_reducible refine p_tx ?_) | (with_reducible refine p_tr ?_) | (with_reducible refine p_bn ?_) | (with_reducible refine p_br ?_) | (with_reducible refine x_hit ?_) | (with_reducible refine x_miss rfl ?_) | (with_reducible refine wp_seq ?_) | (with_reducible refine wp_block ?_) | (with_reducible refine w_reg ?_) | (with_reducible (refine is_if ?_; first | refine w_ift rfl ?_ | refine w_iff rfl ?_)) | ((with_reducible refine is_if ?_); first | refine w_ift rfl ?_ | refine w_iff rfl ?_) | (with_reducible refine wp_skip ?_) | (with_reducible refine wp_exit ?_) | (with_reducible refine wp_ret ?_)) | (with_reducible refine p_sn ?_) | (with_reducible refine p_sr ?_) | (with_reducible refine p_sx ?_) | (with_reducible refine wp_scope_straight ?_) | (with_reducible refine wp_label ?_)) | (first | (with_reducible refine l_nil ?_) | ((with_reducible refine g_on ?_); ((with_reducible refine g_as ?_); refine l_p txs rfl rfl ?_))))
    have h2 : 1048576 < s.length := by simp only [← bl_length, blS hs] at h1; omega
    exact end2M rfl rfl rfl ⟨.slice none 0 0, by unfold lnE; rw [if_pos h2], by unfold lnL lnE; rw [if_pos h2]; exact World.ownsRow_nil _ _ _ _, Below.refl _ _⟩
  have h2 : s.length ≤ 1048576 := by simp only [← bl_length, blS hs] at h1; omega
  have h2' : ¬ 1048576 < s.length := by omega
  repeat' (with_reducible refine l_nil ?_)
  with_reducible refine p_tn ?_
  (with_reducible refine is_if ?_); refine w_iff rfl ?_
  with_reducible refine wp_skip ?_
  with_reducible refine p_tn ?_
  refine w_cut (σ := Unit) (S := fun _ => [(0, .string (strOfNums s))]) (J := fun _ w' => w = w' ∧ ¬ (s ≠ [] ∧ s.getLast? ≠ some 10)) ?_ ?_
  · repeat' (with_reducible first | refine wp_seq ?_ | refine w_reg ?_)
    repeat' ((with_reducible refine g_on ?_); ((with_reducible refine g_mv ?_); refine l_p txs rfl rfl ?_))
    (with_reducible refine is_l ?_); refine l_t txs rfl rfl (fun h3 => ?_) (fun h3 => ?_)
    · have hne : s ≠ [] := fun e => h3 (by rw [e]; rfl)
      have hla := at_last hne
      have h0 : 0 < s.length := List.length_pos_iff.2 hne
      have hz : (strOfNums s).size = s.length := by rw [← bl_length, blS hs]
      repeat' (first | (first | (first | (with_reducible refine p_tn ?_) | (with_reducible refine p_tx ?_) | (with_reducible refine p_tr ?_) | (with_reducible refine p_bn ?_) | (with_reducible refine p_br ?_) | (with_reducible refine x_hit ?_) | (with_reducible refine x_miss rfl ?_) | (with_reducible refine wp_seq ?_) | (with_reducible refine wp_block ?_) | (with_reducible refine w_reg ?_) | (with_reducible (refine is_if ?_; first | refine w_ift rfl ?_ | refine w_iff rfl ?_)) | ((with_reducible refine is_if ?_); first | refine w_ift rfl ?_ | refine w_iff rfl ?_) | (with_reducible refine wp_skip ?_) | (with_reducible refine wp_exit ?_) | (with_reducible refine wp_ret ?_)) | (with_reducible refine p_sn ?_) | (with_reducible refine p_sr ?_) | (with_reducible refine p_sx ?_) | (with_reducible refine wp_scope_straight ?_) | (with_reducible refine wp_label ?_)) | (first | ((with_reducible refine g_on ?_); ((with_reducible refine g_mv ?_); refine l_p txs rfl rfl ?_)) | ((with_reducible refine g_if ?_); (first | ((with_reducible refine g_mv ?_); refine l_p txs rfl rfl ?_) | ((with_reducible refine g_cl ?_); refine l_p txs rfl rfl ?_) | ((with_reducible refine g_ix ?_); refine l_ix txs rfl rfl (by first | omega | assumption | decide) (by first | omega | assumption | decide) ?_) | ((with_reducible refine g_bi ?_); (refine l_a txs rfl rfl (by first | exact in_i64 (by omega) (by omega) | exact in_u8 (by omega) (by omega) | exact in_u64 (by omega) (by omega) | exact in_i32 (by omega) (by omega)) ?_))))))
      (with_reducible refine is_l ?_); refine l_t txs rfl rfl (fun h4 => ?_) (fun h4 => ?_)
      · rw [blS hs, hz] at h4
        have h5 : s ≠ [] ∧ s.getLast? ≠ some 10 := ⟨hne, by rw [hla]; intro e; exact h4 (Option.some.inj e)⟩
        repeat' (first | (first | (first | (with_reducible refine p_tn ?_) | (with_reducible refine p_tx ?_) | (with_reducible refine p_tr ?_) | (with_reducible refine p_bn ?_) | (with_reducible refine p_br ?_) | (with_reducible refine x_hit ?_) | (with_reducible refine x_miss rfl ?_) | (with_reducible refine wp_seq ?_) | (with_reducible refine wp_block ?_) | (with_reducible refine w_reg ?_) | (with_reducible (refine is_if ?_; first | refine w_ift rfl ?_ | refine w_iff rfl ?_)) | ((with_reducible refine is_if ?_); first | refine w_ift rfl ?_ | refine w_iff rfl ?_) | (with_reducible refine wp_skip ?_) | (with_reducible refine wp_exit ?_) | (with_reducible refine wp_ret ?_)) | (with_reducible refine p_sn ?_) | (with_reducible refine p_sr ?_) | (with_reducible refine p_sx ?_) | (with_reducible refine wp_scope_straight ?_) | (with_reducible refine wp_label ?_)) | (first | (with_reducible refine l_nil ?_) | ((with_reducible refine g_on ?_); (first | ((with_reducible refine g_as ?_); refine l_p txs rfl rfl ?_) | ((with_reducible refine g_pk ?_); refine l_p txs rfl rfl ?_)))))
        exact end2M rfl rfl rfl ⟨.slice none 0 0, by unfold lnE; rw [if_neg h2', if_pos h5], by unfold lnL lnE; rw [if_neg h2', if_pos h5]; exact World.ownsRow_nil _ _ _ _, Below.refl _ _⟩
      · rw [blS hs, hz] at h4
        repeat' (first | (first | (first | (with_reducible refine p_tn ?_) | (with_reducible refine p_tx ?_) | (with_reducible refine p_tr ?_) | (with_reducible refine p_bn ?_) | (with_reducible refine p_br ?_) | (with_reducible refine x_hit ?_) | (with_reducible refine x_miss rfl ?_) | (with_reducible refine wp_seq ?_) | (with_reducible refine wp_block ?_) | (with_reducible refine w_reg ?_) | (with_reducible (refine is_if ?_; first | refine w_ift rfl ?_ | refine w_iff rfl ?_)) | ((with_reducible refine is_if ?_); first | refine w_ift rfl ?_ | refine w_iff rfl ?_) | (with_reducible refine wp_skip ?_) | (with_reducible refine wp_exit ?_) | (with_reducible refine wp_ret ?_)) | (with_reducible refine p_sn ?_) | (with_reducible refine p_sr ?_) | (with_reducible refine p_sx ?_) | (with_reducible refine wp_scope_straight ?_) | (with_reducible refine wp_label ?_)) | (first | (with_reducible refine l_nil ?_) | ((with_reducible refine g_on ?_); ((with_reducible refine g_pk ?_); refine l_p txs rfl rfl ?_))))
        exact ⟨(), _, rfl, ⟨rfl, trivial⟩, rfl, fun h5 => h5.2 (by rw [hla]; exact congrArg some (Classical.not_not.1 h4))⟩
    · have hne : s = [] := by
        have h5 : bl (strOfNums s) = bl ⟨#[]⟩ := Classical.not_not.1 h3
        rw [blS hs] at h5
        exact h5
      repeat' (first | (first | (first | (with_reducible refine p_tn ?_) | (with_reducible refine p_tx ?_) | (with_reducible refine p_tr ?_) | (with_reducible refine p_bn ?_) | (with_reducible refine p_br ?_) | (with_reducible refine x_hit ?_) | (with_reducible refine x_miss rfl ?_) | (with_reducible refine wp_seq ?_) | (with_reducible refine wp_block ?_) | (with_reducible refine w_reg ?_) | (with_reducible (refine is_if ?_; first | refine w_ift rfl ?_ | refine w_iff rfl ?_)) | ((with_reducible refine is_if ?_); first | refine w_ift rfl ?_ | refine w_iff rfl ?_) | (with_reducible refine wp_skip ?_) | (with_reducible refine wp_exit ?_) | (with_reducible refine wp_ret ?_)) | (with_reducible refine p_sn ?_) | (with_reducible refine p_sr ?_) | (with_reducible refine p_sx ?_) | (with_reducible refine wp_scope_straight ?_) | (with_reducible refine wp_label ?_)) | (first | (with_reducible refine l_nil ?_) | ((with_reducible refine g_on ?_); (first | ((with_reducible refine g_mv ?_); refine l_p txs rfl rfl ?_) | ((with_reducible refine g_pk ?_); refine l_p txs rfl rfl ?_))) | ((with_reducible refine g_if ?_); (refine l_off rfl ?_))))
      exact ⟨(), _, rfl, ⟨rfl, trivial⟩, rfl, fun h5 => h5.1 hne⟩
  · rintro ⟨⟩ f w' ⟨rfl, hg⟩
    have hE : lnE s = 0 := by unfold lnE; rw [if_neg h2', if_neg hg]
    have hL : lnL s = lines s := by unfold lnL; rw [if_pos hE]
    unfold LnR
    rw [hE, hL]
    repeat' (with_reducible first | refine wp_seq ?_ | refine w_reg ?_)
    obtain ⟨i0, hi, hz⟩ := Option.map_eq_some_iff.1 info_sl
    (with_reducible refine is_l ?_); refine l_alloc rfl hi hz ?_
    repeat' (first | (first | (first | (with_reducible refine p_tn ?_) | (with_reducible refine p_tx ?_) | (with_reducible refine p_tr ?_) | (with_reducible refine p_bn ?_) | (with_reducible refine p_br ?_) | (with_reducible refine x_hit ?_) | (with_reducible refine x_miss rfl ?_) | (with_reducible refine wp_seq ?_) | (with_reducible refine wp_block ?_) | (with_reducible refine w_reg ?_) | (with_reducible (refine is_if ?_; first | refine w_ift rfl ?_ | refine w_iff rfl ?_)) | ((with_reducible refine is_if ?_); first | refine w_ift rfl ?_ | refine w_iff rfl ?_) | (with_reducible refine wp_skip ?_) | (with_reducible refine wp_exit ?_) | (with_reducible refine wp_ret ?_)) | (with_reducible refine p_sn ?_) | (with_reducible refine p_sr ?_) | (with_reducible refine p_sx ?_) | (with_reducible refine wp_scope_straight ?_) | (with_reducible refine wp_label ?_)) | (first | (with_reducible refine l_nil ?_) | ((with_reducible refine g_on ?_); ((with_reducible refine g_mv ?_); refine l_p txs rfl rfl ?_))))
    (with_reducible refine is_l ?_); refine l_call rfl rfl (by kernel_rfl) (each_c s hs h2 _) (fun e w2 hQ => ?_)
    obtain ⟨rfl, rfl⟩ := hQ
    refine ⟨_, rfl, ?_⟩
    repeat' (first | (first | (first | (with_reducible refine p_tn ?_) | (with_reducible refine p_tx ?_) | (with_reducible refine p_tr ?_) | (with_reducible refine p_bn ?_) | (with_reducible refine p_br ?_) | (with_reducible refine x_hit ?_) | (with_reducible refine x_miss rfl ?_) | (with_reducible refine wp_seq ?_) | (with_reducible refine wp_block ?_) | (with_reducible refine w_reg ?_) | (with_reducible (refine is_if ?_; first | refine w_ift rfl ?_ | refine w_iff rfl ?_)) | ((with_reducible refine is_if ?_); first | refine w_ift rfl ?_ | refine w_iff rfl ?_) | (with_reducible refine wp_skip ?_) | (with_reducible refine wp_exit ?_) | (with_reducible refine wp_ret ?_)) | (with_reducible refine p_sn ?_) | (with_reducible refine p_sr ?_) | (with_reducible refine p_sx ?_) | (with_reducible refine wp_scope_straight ?_) | (with_reducible refine wp_label ?_)) | (with_reducible refine l_nil ?_))
    have bO := Boxed.new w 25 (.slice none 0 0)
    have bN := Boxed.new (w.alloc (.cells #[.slice none 0 0] 25)) 9 (.string (strOfNums s))
    rw [World.size_alloc] at bN
    have hB0 : Below w.heap.size w ((w.alloc (.cells #[.slice none 0 0] 25)).alloc (.cells #[.string (strOfNums s)] 9)) := ((Below.refl _ w).alloc (Nat.le_refl _) _).alloc (by simp) _
    show Code.wp _ _ _ _ ((w.alloc (.cells #[.slice none 0 0] 25)).alloc (.cells #[.string (strOfNums s)] 9))
    rw [World.size_alloc]
    obtain ⟨i1, hi1, hz1⟩ := Option.map_eq_some_iff.1 info_str3
    simp only [Prod.mk.injEq] at hz1
    obtain ⟨hz1, hz2, hz3⟩ := hz1
    have hsz : (Try.prog.info? 25).map (·.size) = some 1 := by kernel_rfl
    have hll := lines_len _ s (Nat.le_refl _)
    refine (wpIn_wide (n := 9)).1 ?_
    refine wpIn_rangeFunc_ownF (F := Fence.wide) rfl (by decide) (gf := 13) (lb := #[.pointer (some ⟨w.heap.size + 1, 0, none⟩)]) (by rw [eval_act]; rfl) trivial (enters_of Try.func13 (by kernel_rfl) rfl)
      (encs := encL) (Kp := Below w.heap.size) (S := fun xs => xs = numL 0 (lines s)) (Sp := fun _ => True) (N := (lines s).length) (w0 := (w.alloc (.cells #[.slice none 0 0] 25)).alloc (.cells #[.string (strOfNums s)] 9))
      (fun l J Jx W hW hJ hJx hY h0 => callsIn_wide.2 (each1_c 8 l (w.heap.size + 1) w.heap.size s hs h2 J Jx hY W (pw_cell_of hW (by simp) bN.cell) (pw_cell_of hW (by first | omega | (simp; done) | (simp; omega)) (pw_cell_of hB0 hMn hM)) hMn (by have := hW.size; simp at this; omega) h0 hJ))
      belowK_t (belowK_b (by simp; omega)) (Below.refl _ _) (fun _ => rfl)
      (fun pre W => (∃ v, Boxed W w.heap.size 25 v ∧ W.ownsRow w.heap.size 9 1 v pre.length (pre.map fun x => sv x.2) ∧ True) ∧ Below w.heap.size w W)
      (fun _ _ _ => False)
      (OwnFrom.and (Own.from (holdsRow_own w.heap.size w.heap.size 25 9 1 (fun pre : List (Nat × L) => pre.length) (fun pre => pre.map fun x => sv x.2) (fun pre v => True)) _) (ownFrom_below (Nat.le_refl _) (by simp; omega)))
      (fun _ _ _ _ _ hs _ _ => hs)
      ⟨⟨_, bO.alloc _, World.ownsRow_nil _ _ _ _, trivial⟩, hB0⟩
      (fun x => act 29 (put (put (put (put (put (put (over f [(0, Value.string (strOfNums s))]) (some 4) (Value.pointer (some ⟨w.heap.size, 0, none⟩))) (some 20) (Value.string (strOfNums s))) (some 21) (Value.func (Fn.func 13) #[] #[Value.pointer (some ⟨w.heap.size + 1, 0, none⟩)])) (some 22) (.int .i64 (x.1 : Int))) (some 23) (sv x.2)) (some 6) (sv x.2))) ?assign ?body ?done ?stop
    case assign =>
      intro l x W K hK
      rw [zip2]
      refine i_region ?_
      refine i_val (ds := []) (fun _ => trivial) (fun c e => by cases e) rfl (evP_run (o := ⟨_, _, _, _, _, _⟩) txs rfl) ?_
      exact i_nil hK
    case body =>
      rintro l pre x W ⟨⟨v, hv, hrow, -⟩, hB⟩ hlt
      refine wpIn_block (i_region ?_)
      refine i_val (ds := []) (fun _ => trivial) (fun c e => by cases e) rfl (evL_run (o := ⟨_, _, _, _, _, _⟩) txs rfl hv.cell) ?_
      refine i_val (fun _ => trivial) (fun c e => by cases e) rfl (evP_run (o := ⟨_, _, _, _, _, _⟩) txs rfl) ?_
      refine i_val (fun _ => trivial) (fun c e => by cases e) rfl (bs_run (v := sv x.2) Try.underlying25 hi1 hz1 hz2 rfl rfl) ?_
      refine i_app (k := pre.length) (by_ := 16) (fun _ => trivial) rfl Try.underlying25 hi1 hz1 hz2 hz3 rfl rfl rfl (hrow.alloc _) (new_cell W _ _ 0) rfl (by omega) (by omega) (by have := hB.size; simp; omega) (fun v' w1 hown' hgrow => ?_)
      obtain ⟨hv1, hv2, hr2, hk2, hb2⟩ := hv.appended (by decide) hrow hB.size (Nat.le_refl _) hown' hgrow
      obtain ⟨g', cap', rfl⟩ := ownsRow_succ hown'
      refine i_skip (fun _ => trivial) (fun c e => by cases e) rfl (st_run hv1 rfl rfl rfl rfl hsz) ?_
      refine i_nil0 ?_
      exact ⟨hk2, hb2, ⟨_, hv2, by rw [List.length_append, List.map_append]; exact hr2, trivial⟩, hB.trans hb2⟩
    case done =>
      rintro D ys W hD rfl ⟨⟨v, hv, hrow, -⟩, hB⟩ hK
      with_reducible refine p_bn ?_
      with_reducible refine p_tn ?_
      obtain ⟨A', c', rfl⟩ := own_slice hrow
      refine (wpIn_wide (n := 9)).1 ?_
      refine wpIn_seq (i_region ?_)
      show WI _ _ _ _ _ _ (actD 29 (put (put (put (over f [(0, Value.string (strOfNums s))]) (some 4) (Value.pointer (some ⟨w.heap.size, 0, none⟩))) (some 20) (Value.string (strOfNums s))) (some 21) (Value.func (Fn.func 13) #[] #[Value.pointer (some ⟨w.heap.size + 1, 0, none⟩)])) [{ target := .collected D, args := #[] }]) W
      refine i_val (fun _ => trivial) (fun c e => by cases e) rfl (evL_run (o := ⟨_, _, _, _, _, _⟩) txs rfl hv.cell) ?_
      refine i_val (fun _ => trivial) (fun c e => by cases e) rfl (evP_run (o := ⟨_, _, _, _, _, _⟩) txs rfl) ?_
      refine i_val (fun _ => trivial) (fun c e => by cases e) rfl (evP_run (o := ⟨_, _, _, _, _, _⟩) txs rfl) ?_
      refine i_nil ?_
      with_reducible refine p_tn ?_
      refine wpIn_ret ?_
      refine ⟨by simp, .inl ⟨_, _, rfl, run_takeDeferred hK, ?_⟩⟩
      refine ⟨_, res2 rfl rfl rfl, _, rfl, ?_, ?_⟩
      · rw [numL_sv] at hrow
        simp only [numL_len] at hrow ⊢
        exact ownsRow_putObj hrow _ hK rfl
      · exact hB.trans (belowK_b (w := w) (Nat.le_refl _) W D _ _ (by simp at hD; omega) hK rfl rfl)
    case stop =>
      rintro D c pre W _ _ h _
      exact h.elim
end Go.Proofs.Ytljinjgamgmocaa.K
