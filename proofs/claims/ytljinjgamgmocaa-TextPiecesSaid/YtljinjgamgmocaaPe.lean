/- Rows of texts; a text appended to bytes; the lines of a text; holds. -/
import Derived.Test.YtljinjgamgmocaaPd
namespace Go.Proofs.Ytljinjgamgmocaa.K
open Go.RowKit Go.Proofs.Ytljinjgamgmocaa.Q Go.Proofs.Ytljinjgamgmocaa.Mb Go.Proofs.YtljinjgamgmocaaW.PrintWords Go.Proofs.YtljinjgamgmocaaW.PrintLast
set_option linter.unusedVariables false
set_option linter.unusedSimpArgs false
abbrev strC (l : List L) : List Value := l.map fun x => .string (strOfNums x)
theorem strC_at {ls : List L} {i : Nat} {x : L} (h : ls[i]? = some x) : (strC ls)[i * 1]? = some (.string (strOfNums x)) := by
  rw [Nat.mul_one, List.getElem?_map, h]; rfl
abbrev rowT (v : Value) (l : List L) : RowD := ⟨v, 9, 1, l.length, strC l⟩
theorem rowT_at {s : Bool} {w0 w : World} {l : List Ent} {r : List RowD} (H : HpS s w0 w l r) (k : Nat) {A : Option Addr} {c : Nat} {x : List L} (hk : r[k]? = some (rowT (.slice A x.length c) x)) : Rd w A (strC x) := by
  obtain ⟨A', c', e, _, hrd, _⟩ := H.rd k hk
  simp only [Value.slice.injEq] at e
  rw [e.1]
  exact hrd
theorem rdT_some {w : World} {A : Option Addr} {x : List L} {y : L} {i : Nat} (h : Rd w A (strC x)) (hy : x[i]? = some y) : ∃ a, A = some a := by
  have hc := strC_at hy
  cases A with
  | none =>
    have h1 : strC x = [] := h.1 rfl
    rw [h1] at hc
    simp at hc
  | some a => exact ⟨a, rfl⟩
theorem rdT_cell {w : World} {a : Addr} {x : List L} {y : L} {i : Nat} (h : Rd w (some a) (strC x)) (hy : x[i]? = some y) : w.cell? (a.add (i * 1)) = some (.string (strOfNums y)) := h.2 a rfl _ _ (strC_at hy)
abbrev rowB (v : Value) (x : L) : RowD := ⟨v, 5, 1, x.length, nums .u8 x⟩
theorem nums_append (k : IntKind) (x y : L) : nums k (x ++ y) = nums k x ++ nums k y := List.map_append
section
variable {P : Program} {ty : Nat → Option Ty} {n : Nat} {ops : Array Oper} {Q : Exit → Act → World → Prop} {rest : List Oper} {f : Fr} {w w0 : World} {d : Option Nat} {op : Op} {tt : TypeId} {ps : String} {af : Array Edge} {gd : Option (Nat × Bool)} {l l' : List Ent} {r : List RowD} {o : Oper}
theorem append_string_block (base : Nat) (t u ty e : TypeId) (i : TypeInfo) (ht : P.underlying t = some (.slice e)) (hu : P.underlying u = some .string) (hi : P.info? e = some i) (hz : i.zero = some (.int .u8 0)) (hsize : i.size = 1) (hby : i.bytes = 1)
    (v : Value) (m : Nat) (xs : List Value) (hown : w.ownsRow base e 1 v m xs) (s : ByteArray) (hbytes : m + s.size ≤ 140737488355328) {v' : Value} {w' : World} (hr : (Builtin.append_ #[t, u] ty #[v, .string s]).run P w = .ok v' w') :
    v'.ownBlock = v.ownBlock ∨ v'.ownBlock = some w.heap.size := by
  have hxl : xs.length = m := by simpa using hown.1
  rcases hown.2 with ⟨rfl, rfl⟩ | ⟨g, cap, cur, rfl, hbg, hg, hnc, hcm, hcs, htake⟩
  · by_cases hm : s.size = 0
    · have hf := Lib.run_firstCells_string (P := P) w 1 s
      rw [hm] at hf
      have h2 : (Builtin.append_ #[t, u] ty #[.slice none 0 0, .string s]).run P w = .ok (.slice none 0 0) w := by
        simp [Builtin.append_, run_underlying ht, run_underlying hu, sizeOf, typeInfo, hi, hsize, Builtin.lenOf, hm, hf]
      have := hr.symm.trans h2
      injection this with e1 _
      subst e1
      exact .inl rfl
    · have h2 := run_append_nil_string (P := P) w t u ty e i (.int .u8 0) ht hu hi hz s (by omega) (by omega) (by rw [hby]; omega)
      have := hr.symm.trans h2
      injection this with e1 _
      subst e1
      exact .inr rfl
  · by_cases hroom : m + s.size ≤ cap
    · have hcs' : cur.size = cap := by simpa using hcs
      have h2 := Lib.run_append_room_string (P := P) w t u ty e i ht hu hi hsize g m cap cur hg s hroom (by omega)
      have := hr.symm.trans h2
      injection this with e1 _
      subst e1
      exact .inl rfl
    · have holds : ∀ j u, xs[j]? = some u → w.cell? ((⟨g, 0, none⟩ : Addr).add j) = some u := hown.cells (g := g) rfl
      have h2 := Lib.run_append_grow_string (P := P) w t u ty e i (.int .u8 0) ht hu hi hz ⟨g, 0, none⟩ m cap xs (by rw [hsize]; simpa using hxl) holds s (by omega) (by omega) (by rw [hby]; exact growslice_fits (by omega) (by omega))
      have := hr.symm.trans h2
      injection this with e1 _
      subst e1
      exact .inr rfl
theorem h_appS (H : Hp w0 w l r) (k : Nat) {t u e : TypeId} {v0 : Value} {xs : L} {s : ByteArray} {x y : Operand} (hinfo : (P.info? e).map (fun i => (i.zero, i.size, i.bytes)) = some (some (.int .u8 0), 1, 1)) (ht : P.underlying t = some (.slice e)) (hu : P.underlying u = some .string)
    (hk : r[k]? = some ⟨v0, e, 1, xs.length, nums .u8 xs⟩) (hx : nf (X n f x) = some v0) (hy : nf (X n f y) = some (.string s)) (hl : xs.length + s.size ≤ 140737488355328)
    (h : ∀ v w', (∃ A' c', v = .slice A' (xs ++ bl s).length c') → Hp w0 w' l (r.set k ⟨v, e, 1, (xs ++ bl s).length, nums .u8 (xs ++ bl s)⟩) → WL P ops Q rest (act n (put f d v)) w') : WL P ops Q (⟨d, .call { callee := .builtin .append, args := #[x, y], argTypes := #[t, u] }, tt, ps, af, none⟩ :: rest) (act n f) w := by
  obtain ⟨i0, hi, hzz⟩ := Option.map_eq_some_iff.1 hinfo
  simp only [Prod.mk.injEq] at hzz
  obtain ⟨hz0, hz1, hz2⟩ := hzz
  have HO := H.row k _ hk
  obtain ⟨v1, w1, hr, hown, hg, _⟩ := Lib.run_append_own_string (P := P) w w0.heap.size t u tt e i0 ht hu hi hz0 hz1 hz2 v0 xs.length (nums .u8 xs) HO s (by simp only [maxLen]; omega) hl H.B.size
  have hat := append_string_block (P := P) w0.heap.size t u tt e i0 ht hu hi hz0 hz1 hz2 v0 xs.length (nums .u8 xs) HO s hl hr
  have hlen : xs.length + s.size = (xs ++ bl s).length := by rw [List.length_append, bl_length]
  have hc : nums .u8 xs ++ Lib.strCells s = nums .u8 (xs ++ bl s) := by
    rw [nums_append]
    congr 1
    simp [nums, bl, Lib.strCells]
  rw [hlen, hc] at hown
  have H1 := H.put (d' := ⟨v1, e, 1, (xs ++ bl s).length, nums .u8 (xs ++ bl s)⟩) k hk hg hown (by
    rcases hat with hat | hat
    · exact .inl hat
    · exact .inr ⟨_, hat, Nat.le_refl _⟩)
  obtain ⟨A', c', hv⟩ := own_slice hown
  have hx' := nf_eq hx
  have hy' := nf_eq hy
  refine ⟨?_⟩
  refine wpList_plain rfl fun K hK => ?_
  unfold Oper.wp execOp
  rw [eval_act]
  simp only [resolve, invoke, builtin, Sem.run_bind, Sem.run_pure, Result.andThen_ok, List.map_toArray, List.map_cons, List.map_nil, ← hx', ← hy', hr]
  refine hK _ _ ?_
  rw [put_act]
  exact (h v1 w1 ⟨A', c', hv⟩ H1).out
theorem evText_run {s t e : TypeId} {A : Option Addr} {m c : Nat} {xs : List Int} (he : evCv n f o.op = some (s, t, .slice A m c)) (hs : P.underlying s = some (.slice e)) (hb : P.underlying e = some (.int .u8)) (hd : P.underlying t = some .string)
    (HR : ReadsInt w .u8 A m xs) : (execOp (X n f) o).run P w = .ok (.value (.string (strOfNums xs))) w := by
  obtain ⟨d, op, tt, ps, af, gd⟩ := o
  unfold evCv at he
  simp only at he
  split at he
  · rename_i s1 t1 x
    simp only [Option.some.injEq, Prod.mk.injEq] at he
    obtain ⟨rfl, rfl, hx⟩ := he
    have := string_of_reads (P := P) (w := w) (c := c) hs hb hd HR
    unfold execOp
    simp [hx, this]
  · cases he
theorem evSlN_run (hty : Tys P ty) {a : Option Addr} {l c sz : Nat} (p q : Nat) (he : evSl n f ty o.op = some (a, l, c, sz, (p : Int), (q : Int))) (h1 : p ≤ q) (h2 : q ≤ c) :
    (execOp (X n f) o).run P w = .ok (.value (.slice (cutA a c p sz) (q - p) (c - p))) w := evSl_run hty he (by omega) (by omega) (by omega)
end
theorem drop_of {α : Type} {l : List α} {i : Nat} {x : α} (h : l[i]? = some x) : l.drop i = x :: l.drop (i + 1) := by
  rw [List.drop_eq_getElem_cons (List.getElem?_eq_some_iff.1 h).1, (List.getElem?_eq_some_iff.1 h).2]
theorem take_of {α : Type} {l : List α} {i : Nat} {x : α} (h : l[i]? = some x) : l.take (i + 1) = l.take i ++ [x] := by
  rw [List.take_succ_eq_append_getElem (List.getElem?_eq_some_iff.1 h).1, (List.getElem?_eq_some_iff.1 h).2]
/-- Lines with their ends. -/
def glue (l : List L) : L := l.flatMap fun x => x ++ [10]
theorem glue_snoc (l : List L) (x : L) : glue (l ++ [x]) = glue l ++ (x ++ [10]) := by simp [glue]
theorem glue_cons (l : List L) (x : L) : glue (x :: l) = x ++ 10 :: glue l := by simp [glue]
theorem cutC_none {c : Int} : ∀ {b : L}, cutC c b = none → c ∉ b
  | [], _ => by simp
  | x :: b, h => by
    unfold cutC at h
    by_cases e : x = c
    · rw [if_pos e] at h; cases h
    · rw [if_neg e] at h
      cases hc : cutC c b with
      | none =>
        have := cutC_none hc
        simp only [List.mem_cons, not_or]
        exact ⟨fun h => e h.symm, this⟩
      | some q => rw [hc] at h; cases h
theorem ahead_no (s : L) : 10 ∉ aheadC 10 s := by
  unfold aheadC
  cases hc : cutC 10 s with
  | none => exact cutC_none hc
  | some p => exact (cutC_some (p := p.1) (r := p.2) hc).2
theorem lines_ind {P : L → List L → Prop} (h0 : P [] []) (h1 : ∀ s, s ≠ [] → P (behindC 10 s) (lines (behindC 10 s)) → P s (aheadC 10 s :: lines (behindC 10 s))) : ∀ (k : Nat) (s : L), s.length ≤ k → P s (lines s) := by
  intro k
  induction k with
  | zero =>
    intro s h
    have : s = [] := List.eq_nil_of_length_eq_zero (by omega)
    subst this
    exact h0
  | succ k ih =>
    intro s h
    by_cases hs : s = []
    · subst hs; exact h0
    · have hb := behind_lt hs
      rw [lines_cons hs]
      exact h1 s hs (ih _ (by omega))
theorem lines_no (s : L) : ∀ x ∈ lines s, (10 : Int) ∉ x :=
  lines_ind (P := fun s l => ∀ x ∈ l, (10 : Int) ∉ x) (fun x h => by cases h) (fun s hs ih x hx => by
    rcases List.mem_cons.1 hx with rfl | hx
    · exact ahead_no s
    · exact ih x hx) _ s (Nat.le_refl _)
theorem lines_bytes {s : L} (hs : Bytes s) : ∀ x ∈ lines s, Bytes x :=
  lines_ind (P := fun s l => Bytes s → ∀ x ∈ l, Bytes x) (fun _ x h => by cases h) (fun s hs ih hb x hx => by
    obtain ⟨b1, b2, _⟩ := cut_bytes hb
    rcases List.mem_cons.1 hx with rfl | hx
    · exact b1
    · exact ih b2 x hx) _ s (Nat.le_refl _) hs
theorem lines_glue {s : L} (h : s = [] ∨ s.getLast? = some 10) : glue (lines s) = s :=
  lines_ind (P := fun s l => s = [] ∨ s.getLast? = some 10 → glue l = s) (fun _ => rfl) (fun s hs ih h => by
    have hl : s.getLast? = some 10 := h.resolve_left hs
    rw [glue_cons]
    unfold aheadC behindC at *
    cases hc : cutC 10 s with
    | none => exact absurd (List.mem_of_getLast? hl) (cutC_none hc)
    | some p =>
      obtain ⟨p, r⟩ := p
      obtain ⟨e, _⟩ := cutC_some hc
      rw [hc] at ih
      simp only at ih ⊢
      rw [ih ?_]
      · exact e.symm
      · by_cases hr : r = []
        · exact .inl hr
        · right
          subst e
          rw [List.getLast?_append, List.getLast?_cons_of_ne_nil hr] at hl
          cases hg : r.getLast? with
          | none => exact absurd (List.getLast?_eq_none_iff.1 hg) hr
          | some z => rw [hg] at hl; exact hl) _ s (Nat.le_refl _) h
theorem glue_take_len (l : List L) (i : Nat) : (glue (l.take i)).length ≤ (glue l).length := by
  have h := congrArg (fun x => (glue x).length) (List.take_append_drop i l)
  simp only [glue, List.flatMap_append, List.length_append] at h
  unfold glue
  omega
theorem glue_mem_len {l : List L} {x : L} (h : x ∈ l) : x.length + 1 ≤ (glue l).length := by
  obtain ⟨a, b, rfl⟩ := List.append_of_mem h
  simp only [glue, List.flatMap_append, List.flatMap_cons, List.length_append, List.length_cons, List.length_nil]
  omega
set_option maxRecDepth 100000 in
set_option maxHeartbeats 8000000 in
theorem holds_c {s : L} (hs : Bytes s) (hl : s.length ≤ 1048576) (hn : (10 : Int) ∉ s) (w : World) :
    Calls Try.prog 8 #[.string (strOfNums s), .int .u8 10] w fun e w' => e = .returned (.bool false) ∧ w' = w := by
  have hz : (strOfNums s).size = s.length := by rw [← bl_length, blS hs]
  have hb := blS hs
  generalize strOfNums s = t at hz hb
  refine enter (args := [.string t, .int .u8 10]) Try.func8 rfl Try.ntmps8 rfl ?_
  repeat' (first | (with_reducible first | refine p_tn ?_ | refine wp_seq ?_ | refine wp_block ?_ | refine w_reg ?_ | refine l_nil ?_) | ((with_reducible refine g_on ?_); ((with_reducible refine g_as ?_); refine l_p txs rfl rfl ?_)))
  refine w_loop (σ := Nat) (S := fun i => [(0, .string t), (1, .int .u8 10), (5, .int .i64 (i : Int))]) (J := fun i w' => w' = w ∧ i ≤ s.length) (μ := fun i => s.length - i) 0 ⟨rfl, rfl, rfl, trivial⟩ ⟨rfl, Nat.zero_le _⟩ ?_
  rintro i f w_ ⟨rfl, hi⟩
  repeat' (first | (with_reducible first | refine wp_seq ?_ | refine w_reg ?_) | ((with_reducible refine g_on ?_); (first | ((with_reducible refine g_mv ?_); refine l_p txs rfl rfl ?_) | ((with_reducible refine g_cl ?_); refine l_p txs rfl rfl ?_))))
  (with_reducible refine is_l ?_); refine l_t txs rfl rfl (fun hlt => ?_) (fun hge => ?_)
  · repeat' (first | (with_reducible first | refine p_tn ?_ | refine wp_seq ?_ | refine wp_block ?_ | refine w_reg ?_) | (with_reducible (refine is_if ?_; (refine w_ift rfl ?_))) | (with_reducible first | refine wp_skip ?_ | refine l_nil ?_) | ((with_reducible refine g_on ?_); (first | ((with_reducible refine g_mv ?_); refine l_p txs rfl rfl ?_) | ((with_reducible refine g_ix ?_); refine l_ix txs rfl rfl (by first | omega | assumption | decide) (by first | omega | assumption | decide) ?_))))
    (with_reducible refine is_l ?_); refine l_t txs rfl rfl (fun h => ?_) (fun h => ?_)
    · exfalso
      apply hn
      rw [← h, hb]
      unfold at_
      rw [Int.toNat_natCast, List.getD_eq_getElem?_getD, List.getElem?_eq_getElem (by omega)]
      exact List.getElem_mem _
    · repeat' (first | (with_reducible first | refine p_tn ?_ | refine p_bn ?_ | refine w_reg ?_) | (with_reducible (refine is_if ?_; (refine w_iff rfl ?_))) | (with_reducible first | refine wp_skip ?_ | refine l_nil ?_) | ((with_reducible refine g_on ?_); (first | ((with_reducible refine g_mv ?_); refine l_p txs rfl rfl ?_) | ((with_reducible refine g_as ?_); refine l_p txs rfl rfl ?_) | ((with_reducible refine g_bi ?_); (refine l_a txs rfl rfl (by first | exact in_i64 (by omega) (by omega) | exact in_u8 (by omega) (by omega) | exact in_u64 (by omega) (by omega) | exact in_i32 (by omega) (by omega)) ?_)))))
      exact ⟨i + 1, _, rfl, ⟨rfl, rfl, rfl, trivial⟩, ⟨rfl, by omega⟩, by omega⟩
  · repeat' (first | (with_reducible first | refine p_tn ?_ | refine p_tx ?_ | refine x_hit ?_ | refine wp_seq ?_ | refine w_reg ?_) | (with_reducible (refine is_if ?_; (refine w_iff rfl ?_))) | (with_reducible first | refine wp_exit ?_ | refine wp_ret ?_ | refine l_nil ?_) | ((with_reducible refine g_on ?_); ((with_reducible refine g_as ?_); refine l_p txs rfl rfl ?_)))
    refine end1 rfl rfl ?_
    exact ⟨rfl, rfl⟩
end Go.Proofs.Ytljinjgamgmocaa.K
