/- Joined texts of mine, 5: Yc, Yd, Yf, QL, Yg, Open, Yh, Yi, QK, Yj, Yk, Yl, Ym, OpenS. -/
import Derived.Lib.Builder
import Derived.Lib.FrozenHead
import Derived.Laws.Pointers
import Derived.Lib.ItoaLen
import Derived.OpenShut
import Derived.ShutString
import Derived.SliceStrings
import Derived.ChangeSlices
import Derived.Below
import Derived.Carry
import Derived.WalkKit
import Derived.ProofKit
import Derived.Deep.DeepHandedRow
import Derived.Laws.IdiomCopy
import Derived.Test.YthgojbdpmcccaaaGreatDoorAns4
section
namespace Go.Proofs.YthgojbdpmcccaaaGreatDoor.K
open Go.RowKit Go.Proofs.YthgojbdpmcccaaaGreatDoor.Q Go.Proofs.YthgojbdpmcccaaaGreatDoor.Wb Go.Proofs.YthgojbdpmcccaaaGreatDoorW.PrintWords
set_option linter.unusedVariables false
set_option linter.unusedSimpArgs false
section
variable {P : Program} {n : Nat} {ops : Array Oper} {Q : Exit → Act → World → Prop} {rest : List Oper} {f : Fr} {w w0 : World} {d : Option Nat} {op : Op} {tt : TypeId} {ps : String} {af : Array Edge} {gd : Option (Nat × Bool)} {l l' : List Ent} {r : List RowD}
theorem l_ldp {t te : TypeId} {x : Operand} {a : Addr} {v : Value} (ht : P.underlying t = some (.pointer te)) (hw : want n ops f ⟨d, .load t x, tt, ps, af, gd⟩ = true) (hx : X n f x = .pointer (some a)) (hc : w.cell? a = some v) (h : WL P ops Q rest (act n (put f d v)) w) : WL P ops Q (⟨d, .load t x, tt, ps, af, gd⟩ :: rest) (act n f) w :=
  l_val hw (by unfold execOp; simp [go_sem, hx, Instr.loadAt, loadVar, isAgg, run_underlying ht, hc]) h
theorem l_nc {x : Operand} {a : Addr} (hw : want n ops f ⟨d, .nilCheck x, tt, ps, af, gd⟩ = true) (hx : X n f x = .pointer (some a)) (h : WL P ops Q rest (act n (put f d (.pointer (some a)))) w) : WL P ops Q (⟨d, .nilCheck x, tt, ps, af, gd⟩ :: rest) (act n f) w :=
  l_val hw (by unfold execOp; simp [hx]) h
theorem l_bop {b : BinOp} {t t2 : TypeId} {x y : Operand} {p q : Option Addr} {z : Bool} (hw : want n ops f ⟨d, .binOp b t x y t2, tt, ps, af, gd⟩ = true) (hx : X n f x = .pointer p) (hy : X n f y = .pointer q)
    (hr : (binOp b t (.pointer p) (.pointer q)).run P w = .ok (.bool z) w) (h : WL P ops Q rest (act n (put f d (.bool z))) w) : WL P ops Q (⟨d, .binOp b t x y t2, tt, ps, af, gd⟩ :: rest) (act n f) w := by
  refine l_val hw ?_ h
  have hge : (eqGuard b t x y (.pointer p) (.pointer q)).run P w = .ok () w := by
    unfold eqGuard
    cases b <;> rfl
  unfold execOp
  simp [hx, hy, hge, hr]
theorem h_stp {t te : TypeId} {x y : Operand} (ht : P.underlying t = some (.pointer te)) (ho : (P.info? t).map (·.size) = some 1) (H : Hp w0 w l r) (k : Nat) {g i : Nat} {t2 : TypeId} {cs : List Value} {q : Option Addr} (hw : want n ops f ⟨none, .store t x y, tt, ps, af, gd⟩ = true) (hx : X n f x = .pointer (some ⟨g, i, none⟩)) (hy : X n f y = .pointer q) (hk : l[k]? = some (g, t2, cs)) (hi : i < cs.length)
    (hl : l.set k (g, t2, cs.set i (.pointer q)) = l') (h : ∀ w', Hp w0 w' l' r → WL P ops Q rest (act n f) w') : WL P ops Q (⟨none, .store t x y, tt, ps, af, gd⟩ :: rest) (act n f) w := by
  subst hl
  have hb := H.get k hk
  have hr := run_store_run (P := P) (o := i) t (.pointer q) [.pointer q] hb (by simp [Value.cells]) ho (by simp; omega) (by intro q1 h1; simp at h1; subst h1; rfl)
  have hh := heap_setCells (fr := (0, 0)) [.pointer q] i w cs hb (by simp; omega)
  have e3 : cs.take i ++ [.pointer q] ++ cs.drop (i + [Value.pointer q].length) = cs.set i (.pointer q) := by
    rw [List.set_eq_take_append_cons_drop, if_pos hi]; simp
  rw [e3] at hh
  refine h_skip hw ?_ (h _ (H.upd k hk (grown_setCells [.pointer q] i w) hh))
  unfold execOp
  simp [hx, hy, hr]
theorem l_ext {g : FuncId} {args : List Value} {v : Value} (hw : want n ops f ⟨d, op, tt, ps, af, gd⟩ = true) (he : evC n f op = some (g, args)) (hr : (callFunc g args.toArray).run P w = .ok (.value v) w)
    (h : WL P ops Q rest (act n (put f d v)) w) : WL P ops Q (⟨d, op, tt, ps, af, gd⟩ :: rest) (act n f) w := by
  refine l_val hw ?_ h
  unfold evC at he
  unfold execOp
  split at he
  · rename_i c
    split at he
    · rename_i x hc
      split at he
      · rename_i k first captured hx
        cases hf : first.isEmpty with
        | false => simp [hf] at he
        | true =>
          simp only [hf, cond_true, Option.some.injEq, Prod.mk.injEq] at he
          obtain ⟨rfl, rfl⟩ := he
          have hfe : first = #[] := by simpa using hf
          subst hfe
          have harr : c.args.map (X n f) ++ captured = (c.args.toList.map (X n f) ++ captured.toList).toArray := by
            rw [← Array.toList_inj]; simp
          rw [← harr] at hr
          simp [go_sem, hc, resolve, invoke, hx, Deferred.ofValue, hr]
      · cases he
    · cases he
  · cases he
theorem append_string_block (base : Nat) (t u ty e : TypeId) (i : TypeInfo) (ht : P.underlying t = some (.slice e)) (hu : P.underlying u = some .string) (hi : P.info? e = some i) (hz : i.zero = some (.int .u8 0)) (hsize : i.size = 1) (hby : i.bytes = 1)
    (v : Value) (m : Nat) (xs : List Value) (hown : w.ownsRow base e 1 v m xs) (s : ByteArray) (hbytes : m + s.size ≤ 140737488355328) {v' : Value} {w' : World} (hr : (Builtin.append_ #[t, u] ty #[v, .string s]).run P w = .ok v' w') :
    v'.ownBlock = v.ownBlock ∨ v'.ownBlock = some w.heap.size := by
  have hxl : xs.length = m := by simpa using hown.1
  rcases hown.2 with ⟨rfl, rfl⟩ | ⟨g, cap, cur, rfl, hbg, hg, hnc, hcm, hcs, htake⟩
  · by_cases hm : s.size = 0
    · have hf := Lib.run_firstCells_string (P := P) w 1 s
      rw [hm] at hf
      have h2 : (Builtin.append_ #[t, u] ty #[.slice none 0 0, .string s]).run P w = .ok (.slice none 0 0) w := by
        simp [Builtin.append_, run_underlying ht, run_underlying hu, sizeOf, typeInfo, hi, hsize, Builtin.lenOf, hm, hf]
      have := hr.symm.trans h2
      injection this with e1 _
      subst e1
      exact .inl rfl
    · have h2 := run_append_nil_string (P := P) w t u ty e i (.int .u8 0) ht hu hi hz s (by omega) (by omega) (by rw [hby]; omega)
      have := hr.symm.trans h2
      injection this with e1 _
      subst e1
      exact .inr rfl
  · by_cases hroom : m + s.size ≤ cap
    · have hcs' : cur.size = cap := by simpa using hcs
      have h2 := Lib.run_append_room_string (P := P) w t u ty e i ht hu hi hsize g m cap cur hg s hroom (by omega)
      have := hr.symm.trans h2
      injection this with e1 _
      subst e1
      exact .inl rfl
    · have holds : ∀ j u, xs[j]? = some u → w.cell? ((⟨g, 0, none⟩ : Addr).add j) = some u := hown.cells (g := g) rfl
      have h2 := Lib.run_append_grow_string (P := P) w t u ty e i (.int .u8 0) ht hu hi hz ⟨g, 0, none⟩ m cap xs (by rw [hsize]; simpa using hxl) holds s (by omega) (by omega) (by rw [hby]; exact growslice_fits (by omega) (by omega))
      have := hr.symm.trans h2
      injection this with e1 _
      subst e1
      exact .inr rfl
theorem h_appS (H : Hp w0 w l r) (k : Nat) {t u e : TypeId} {v0 : Value} {xs : L} {s : ByteArray} {x y : Operand} (hinfo : (P.info? e).map (fun i => (i.zero, i.size, i.bytes)) = some (some (.int .u8 0), 1, 1)) (ht : P.underlying t = some (.slice e)) (hu : P.underlying u = some .string)
    (hk : r[k]? = some ⟨v0, e, 1, xs.length, nums .u8 xs⟩) (hx : nf (X n f x) = some v0) (hy : nf (X n f y) = some (.string s)) (hl : xs.length + s.size ≤ 140737488355328)
    (h : ∀ v w', (∃ A' c', v = .slice A' (xs ++ bl s).length c') → Hp w0 w' l (r.set k ⟨v, e, 1, (xs ++ bl s).length, nums .u8 (xs ++ bl s)⟩) → WL P ops Q rest (act n (put f d v)) w') : WL P ops Q (⟨d, .call { callee := .builtin .append, args := #[x, y], argTypes := #[t, u] }, tt, ps, af, none⟩ :: rest) (act n f) w := by
  obtain ⟨i0, hi, hzz⟩ := Option.map_eq_some_iff.1 hinfo
  simp only [Prod.mk.injEq] at hzz
  obtain ⟨hz0, hz1, hz2⟩ := hzz
  have HO := H.row k _ hk
  obtain ⟨v1, w1, hr, hown, hg, _⟩ := Lib.run_append_own_string (P := P) w w0.heap.size t u tt e i0 ht hu hi hz0 hz1 hz2 v0 xs.length (nums .u8 xs) HO s (by simp only [maxLen]; omega) hl H.B.size
  have hat := append_string_block (P := P) w0.heap.size t u tt e i0 ht hu hi hz0 hz1 hz2 v0 xs.length (nums .u8 xs) HO s hl hr
  have hlen : xs.length + s.size = (xs ++ bl s).length := by rw [List.length_append, bl_length]
  have hc : nums .u8 xs ++ Lib.strCells s = nums .u8 (xs ++ bl s) := by
    rw [nums_append]
    congr 1
    simp [nums, bl, Lib.strCells]
  rw [hlen, hc] at hown
  have H1 := H.put (d' := ⟨v1, e, 1, (xs ++ bl s).length, nums .u8 (xs ++ bl s)⟩) k hk hg hown (by
    rcases hat with hat | hat
    · exact .inl hat
    · exact .inr ⟨_, hat, Nat.le_refl _⟩)
  obtain ⟨A', c', hv⟩ := own_slice hown
  have hx' := nf_eq hx
  have hy' := nf_eq hy
  refine ⟨?_⟩
  refine wpList_plain rfl fun K hK => ?_
  unfold Oper.wp execOp
  rw [eval_act]
  simp only [resolve, invoke, builtin, Sem.run_bind, Sem.run_pure, Result.andThen_ok, List.map_toArray, List.map_cons, List.map_nil, ← hx', ← hy', hr]
  refine hK _ _ ?_
  rw [put_act]
  exact (h v1 w1 ⟨A', c', hv⟩ H1).out
theorem end0 {fn : Func} {R : Ending → World → Prop} (hr : fn.results = #[]) (h : R (.returned (.tuple #[])) w) : bodyPost P fn R .normal (act n f) w :=
  ⟨rfl, .tuple #[], by unfold results; simp [hr], h⟩
theorem l_cvp {src dst : TypeId} {x : Operand} {a : Addr} (hw : want n ops f ⟨d, .convert src dst x, tt, ps, af, gd⟩ = true) (hx : X n f x = .pointer (some a)) (hr : (convert src dst (.pointer (some a))).run P w = .ok (.pointer (some a)) w) (h : WL P ops Q rest (act n (put f d (.pointer (some a)))) w) : WL P ops Q (⟨d, .convert src dst x, tt, ps, af, gd⟩ :: rest) (act n f) w :=
  l_val hw (by unfold execOp; simp [hx, hr]) h
end
abbrev bT : TypeId := 168
abbrev entB (b : Nat) (p v : Value) : Ent := (b, bT, [p, v])
abbrev ptrB (b : Nat) : Value := .pointer (some ⟨b, 0, none⟩)
theorem sizeB : (Tryz.prog.info? bT).map (·.size) = some 2 := by kernel_rfl
theorem liesB : liesAt Tryz.prog Tryz.prog.depth bT (2 / Tryz.prog.cellsOf bT) 0 bT 1 = true := by kernel_rfl
theorem onePB : (Tryz.prog.info? 166).map (·.size) = some 1 := by kernel_rfl
set_option maxHeartbeats 4000000 in
theorem copyCheck_c {w0 w : World} {b : Nat} {p v : Value} {xs : L} (H : Hp w0 w [entB b p v] [rowB v xs]) (hp : p = .pointer none ∨ p = ptrB b) :
    Calls Tryz.prog 155 #[ptrB b] w fun e w' => e = .returned (.tuple #[]) ∧ Hp w0 w' [entB b (ptrB b) v] [rowB v xs] := by
  obtain ⟨j, hj, hjs⟩ := Option.map_eq_some_iff.1 sizeB
  refine enter (args := [ptrB b]) Tryz.func155 rfl Tryz.ntmps155 rfl ?_
  have hsh : ∀ (w1 : World) (p1 : Value), Hp w0 w1 [entB b p1 v] [rowB v xs] → w1.shape? b = some (bT, 2) := fun w1 p1 H1 => by
    have := H1.get 0 rfl
    unfold World.shape?
    rw [this]
    rfl
  rcases hp with rfl | rfl
  · repeat' (first | (first | (with_reducible refine wp_seq ?_) | (with_reducible refine w_reg ?_)) | ((with_reducible refine g_on ?_); ((with_reducible refine g_mv ?_); refine l_p txs rfl rfl ?_)))
    (with_reducible refine is_l ?_); refine l_nc rfl rfl ?_
    repeat' ((with_reducible refine g_on ?_); ((with_reducible refine g_fa ?_); refine h_fa flds rfl rfl ?_))
    (with_reducible refine is_l ?_); refine l_ldp Tryz.underlying166 rfl rfl (H.cellAt 0 rfl rfl) ?_
    skip
    (with_reducible refine is_l ?_); refine l_bop rfl rfl rfl (run_eql_pointer_nil w 166 none (by kernel_rfl)) ?_
    repeat' (first | (first | (with_reducible refine p_tn ?_) | (with_reducible refine w_reg ?_) | (with_reducible (refine is_if ?_; (refine w_ift rfl ?_)))) | (first | (with_reducible refine l_nil ?_) | ((with_reducible refine g_on ?_); ((with_reducible refine g_mv ?_); refine l_p txs rfl rfl ?_))))
    (with_reducible refine is_l ?_); refine l_cvp rfl rfl (Lib.run_to_unsafe w ⟨b, 0, none⟩ Tryz.underlying166 Tryz.underlying259 hj (by rw [hjs]; decide) (hsh _ _ H) (Nat.zero_lt_succ 1)) ?_
    skip
    (with_reducible refine is_l ?_); refine l_ext (args := [ptrB b]) (v := ptrB b) rfl rfl (by
      rw [run_callFunc_extern Tryz.func183 (by kernel_rfl) (by kernel_rfl) (by kernel_rfl) (e := Extern.AbiNoEscape.same) (by kernel_rfl), Lib.run_noEscape]
      rfl) ?_
    skip
    (with_reducible refine is_l ?_); refine l_cvp rfl rfl (Lib.run_from_unsafe w ⟨b, 0, none⟩ Tryz.underlying259 Tryz.underlying166 hj (hsh _ _ H) liesB) ?_
    skip
    (with_reducible refine is_l ?_); refine l_nc rfl rfl ?_
    repeat' ((with_reducible refine g_on ?_); ((with_reducible refine g_fa ?_); refine h_fa flds rfl rfl ?_))
    (with_reducible refine is_l ?_); refine h_stp Tryz.underlying166 onePB H 0 rfl rfl rfl rfl (Nat.zero_lt_succ 1) rfl (fun w_ H => ?_)
    repeat' (with_reducible refine l_nil ?_)
    refine end0 rfl ?_
    exact ⟨rfl, H⟩
  · repeat' (first | (first | (with_reducible refine wp_seq ?_) | (with_reducible refine w_reg ?_)) | ((with_reducible refine g_on ?_); ((with_reducible refine g_mv ?_); refine l_p txs rfl rfl ?_)))
    (with_reducible refine is_l ?_); refine l_nc rfl rfl ?_
    repeat' ((with_reducible refine g_on ?_); ((with_reducible refine g_fa ?_); refine h_fa flds rfl rfl ?_))
    (with_reducible refine is_l ?_); refine l_ldp Tryz.underlying166 rfl rfl (H.cellAt 0 rfl rfl) ?_
    skip
    (with_reducible refine is_l ?_); refine l_bop rfl rfl rfl (run_eql_pointer_nil w 166 (some ⟨b, 0, none⟩) (by kernel_rfl)) ?_
    repeat' (first | (first | (with_reducible refine p_tn ?_) | (with_reducible refine wp_seq ?_) | (with_reducible refine w_reg ?_) | (with_reducible (refine is_if ?_; (refine w_iff rfl ?_)))) | (first | (with_reducible refine l_nil ?_) | ((with_reducible refine g_on ?_); ((with_reducible refine g_mv ?_); refine l_p txs rfl rfl ?_))))
    (with_reducible refine is_l ?_); refine l_nc rfl rfl ?_
    repeat' ((with_reducible refine g_on ?_); ((with_reducible refine g_fa ?_); refine h_fa flds rfl rfl ?_))
    (with_reducible refine is_l ?_); refine l_ldp Tryz.underlying166 rfl rfl (H.cellAt 0 rfl rfl) ?_
    repeat' ((with_reducible refine g_on ?_); ((with_reducible refine g_mv ?_); refine l_p txs rfl rfl ?_))
    (with_reducible refine is_l ?_); refine l_bop rfl rfl rfl (Lib.run_neq_ptr_same w ⟨b, 0, none⟩ Tryz.underlying166 hj) ?_
    repeat' (first | (first | (with_reducible refine p_tn ?_) | (with_reducible (refine is_if ?_; (refine w_iff rfl ?_))) | (with_reducible refine wp_skip ?_)) | (with_reducible refine l_nil ?_))
    refine end0 rfl ?_
    exact ⟨rfl, H⟩
theorem info_u8x : (Tryz.prog.info? 5).map (fun i => (i.zero, i.size, i.bytes)) = some (some (.int .u8 0), 1, 1) := by kernel_rfl
set_option maxHeartbeats 4000000 in
theorem bWriteS_c {w0 w : World} {b : Nat} {p v : Value} {xs : L} (H : Hp w0 w [entB b p v] [rowB v xs]) (hp : p = .pointer none ∨ p = ptrB b) (s : ByteArray) (hs : xs.length + s.size ≤ 140737488355328) :
    Calls Tryz.prog 105 #[ptrB b, .string s] w fun e w' => ∃ v', e = .returned (.tuple #[.int .i64 (s.size : Int), .nilIface]) ∧ Hp w0 w' [entB b (ptrB b) v'] [rowB v' (xs ++ bl s)] := by
  obtain ⟨A0, c0, he, _⟩ := H.rd 0 rfl
  have he : v = .slice A0 xs.length c0 := he
  subst he
  refine enter (args := [ptrB b, .string s]) Tryz.func105 rfl Tryz.ntmps105 rfl ?_
  repeat' (first | (first | (with_reducible refine p_tn ?_) | (with_reducible refine wp_seq ?_) | (with_reducible refine w_reg ?_)) | (first | (with_reducible refine l_nil ?_) | ((with_reducible refine g_on ?_); (first | ((with_reducible refine g_mv ?_); refine l_p txs rfl rfl ?_) | ((with_reducible refine g_as ?_); refine l_p txs rfl rfl ?_)))))
  (with_reducible refine is_l ?_); refine l_callv rfl rfl (by kernel_rfl) (copyCheck_c H hp) (fun w_ H => ?_)
  repeat' (first | (first | (with_reducible refine p_tn ?_) | (with_reducible refine wp_seq ?_) | (with_reducible refine w_reg ?_)) | (first | (with_reducible refine l_nil ?_) | ((with_reducible refine g_on ?_); ((with_reducible refine g_mv ?_); refine l_p txs rfl rfl ?_))))
  (with_reducible refine is_l ?_); refine l_nc rfl rfl ?_
  repeat' ((with_reducible refine g_on ?_); (first | ((with_reducible refine g_mv ?_); refine l_p txs rfl rfl ?_) | ((with_reducible refine g_fa ?_); refine h_fa flds rfl rfl ?_) | ((with_reducible refine g_ld ?_); (refine h_ld txs H 0 rfl rfl rfl rfl ?_))))
  (with_reducible refine is_l ?_); refine h_appS H 0 info_u8x Tryz.underlying23 Tryz.underlying9 rfl rfl rfl hs (fun v' w_ hv H => ?_)
  obtain ⟨A', c', rfl⟩ := hv
  skip
  (with_reducible refine is_l ?_); refine l_nc rfl rfl ?_
  repeat' (first | (first | (with_reducible refine p_tn ?_) | (with_reducible refine wp_seq ?_) | (with_reducible refine w_reg ?_) | (with_reducible refine wp_ret ?_)) | (first | (with_reducible refine l_nil ?_) | ((with_reducible refine g_on ?_); (first | ((with_reducible refine g_mv ?_); refine l_p txs rfl rfl ?_) | ((with_reducible refine g_as ?_); refine l_p txs rfl rfl ?_) | ((with_reducible refine g_fa ?_); refine h_fa flds rfl rfl ?_) | ((with_reducible refine g_st ?_); (refine h_st txs ones H 0 rfl rfl rfl rfl rfl rfl rfl rfl rfl (fun w_ H => ?_))) | ((with_reducible refine g_cl ?_); refine l_p txs rfl rfl ?_)))))
  refine end2 rfl rfl rfl ?_
  exact ⟨_, rfl, H⟩
set_option maxHeartbeats 4000000 in
theorem bWrite_c {w0 w : World} {b : Nat} {p v : Value} {xs : L} (H : Hp w0 w [entB b p v] [rowB v xs]) (hp : p = .pointer none ∨ p = ptrB b) {B : Option Addr} {c : Nat} {ys : L} (hr : ∀ w1, Below w0.heap.size w0 w1 → ReadsInt w1 .u8 B ys.length ys) (hs : xs.length + ys.length ≤ 140737488355328) :
    Calls Tryz.prog 106 #[ptrB b, .slice B ys.length c] w fun e w' => ∃ v', e = .returned (.tuple #[.int .i64 (ys.length : Int), .nilIface]) ∧ Hp w0 w' [entB b (ptrB b) v'] [rowB v' (xs ++ ys)] := by
  obtain ⟨A0, c0, he, _⟩ := H.rd 0 rfl
  have he : v = .slice A0 xs.length c0 := he
  subst he
  refine enter (args := [ptrB b, .slice B ys.length c]) Tryz.func106 rfl Tryz.ntmps106 rfl ?_
  repeat' (first | (first | (with_reducible refine p_tn ?_) | (with_reducible refine wp_seq ?_) | (with_reducible refine w_reg ?_)) | (first | (with_reducible refine l_nil ?_) | ((with_reducible refine g_on ?_); (first | ((with_reducible refine g_mv ?_); refine l_p txs rfl rfl ?_) | ((with_reducible refine g_as ?_); refine l_p txs rfl rfl ?_)))))
  (with_reducible refine is_l ?_); refine l_callv rfl rfl (by kernel_rfl) (copyCheck_c H hp) (fun w_ H => ?_)
  repeat' (first | (first | (with_reducible refine p_tn ?_) | (with_reducible refine wp_seq ?_) | (with_reducible refine w_reg ?_)) | (first | (with_reducible refine l_nil ?_) | ((with_reducible refine g_on ?_); ((with_reducible refine g_mv ?_); refine l_p txs rfl rfl ?_))))
  (with_reducible refine is_l ?_); refine l_nc rfl rfl ?_
  repeat' ((with_reducible refine g_on ?_); (first | ((with_reducible refine g_mv ?_); refine l_p txs rfl rfl ?_) | ((with_reducible refine g_fa ?_); refine h_fa flds rfl rfl ?_) | ((with_reducible refine g_ld ?_); (refine h_ld txs H 0 rfl rfl rfl rfl ?_))))
  (with_reducible refine is_l ?_); refine h_app H 0 rfl info_u8 Tryz.underlying23 rfl rfl rfl rfl (rd_of_reads (hr _ H.B)) (by simp [nums]) (by simp [nums, List.all_map]; intros; rfl) (by show (xs.length + ys.length) * 1 ≤ _; omega) (fun v' w_ hv H => ?_)
  obtain ⟨A', c', rfl⟩ := hv
  have e0 : nums .u8 xs ++ nums .u8 ys = nums .u8 (xs ++ ys) := (nums_append _ _ _).symm
  have hlt : (xs ++ ys).length = xs.length + ys.length := List.length_append
  simp only [e0] at H
  skip
  (with_reducible refine is_l ?_); refine l_nc rfl rfl ?_
  repeat' (first | (first | (with_reducible refine p_tn ?_) | (with_reducible refine wp_seq ?_) | (with_reducible refine w_reg ?_) | (with_reducible refine wp_ret ?_)) | (first | (with_reducible refine l_nil ?_) | ((with_reducible refine g_on ?_); (first | ((with_reducible refine g_mv ?_); refine l_p txs rfl rfl ?_) | ((with_reducible refine g_as ?_); refine l_p txs rfl rfl ?_) | ((with_reducible refine g_fa ?_); refine h_fa flds rfl rfl ?_) | ((with_reducible refine g_st ?_); (refine h_st txs ones H 0 rfl rfl rfl rfl rfl rfl rfl rfl rfl (fun w_ H => ?_))) | ((with_reducible refine g_cl ?_); refine l_p txs rfl rfl ?_)))))
  refine end2 rfl rfl rfl ?_
  unfold rowB
  rw [hlt]
  exact ⟨_, rfl, H⟩
end Go.Proofs.YthgojbdpmcccaaaGreatDoor.K
end
section
namespace Go.Proofs.YthgojbdpmcccaaaGreatDoor.K
open Go.RowKit Go.Proofs.YthgojbdpmcccaaaGreatDoor.Q Go.Proofs.YthgojbdpmcccaaaGreatDoor.Wb Go.Proofs.YthgojbdpmcccaaaGreatDoorW.PrintWords
set_option linter.unusedVariables false
set_option linter.unusedSimpArgs false
theorem bl_cat (s t : ByteArray) : bl (s ++ t) = bl s ++ bl t := by
  unfold bl
  rw [ByteArray.data_append, Array.toList_append, List.map_append]
theorem l_cvb {P : Program} {n : Nat} {ops : Array Oper} {Q : Exit → Act → World → Prop} {rest : List Oper} {f : Fr} {w : World} {d : Option Nat} {tt : TypeId} {ps : String} {af : Array Edge} {gd : Option (Nat × Bool)} {src dst e : TypeId} {x : Operand} {s : ByteArray} {u : TypeDesc}
    (hs : P.underlying src = some u) (hd : P.underlying dst = some (.slice e)) (he : P.underlying e = some (.int .u8)) (hw : want n ops f ⟨d, .convert src dst x, tt, ps, af, gd⟩ = true) (hx : nf (X n f x) = some (.string s))
    (h : WL P ops Q rest (act n (put f d (.slice (some ⟨w.heap.size, 0, none⟩) s.size (grownCap w s.size 0 e)))) (Lib.bytesWorld w e s)) : WL P ops Q (⟨d, .convert src dst x, tt, ps, af, gd⟩ :: rest) (act n f) w := by
  have hx' := nf_eq hx
  have hr := Lib.run_convert_string_bytes (P := P) w src dst e s hs hd he
  refine h_valw hw ?_ h
  unfold execOp
  simp [← hx', hr]
def linesF (l : List Fld) : L := l.flatMap fun f => lineF f ++ [13, 10]
theorem headF_lines' (l : List Fld) : headF l = linesF l ++ [13, 10] := by
  induction l with
  | nil => rfl
  | cons f r ih => simp only [headF, linesF, List.flatMap_cons] at ih ⊢; rw [ih]; simp
theorem lines_take {l : List Fld} {i : Nat} {x : Fld} (h : l[i]? = some x) : linesF (l.take (i + 1)) = linesF (l.take i) ++ (lineF x ++ [13, 10]) := by
  have hi : i < l.length := (List.getElem?_eq_some_iff.1 h).1
  have hx : l[i] = x := (List.getElem?_eq_some_iff.1 h).2
  unfold linesF
  rw [List.take_succ_eq_append_getElem hi, hx, List.flatMap_append]
  simp
theorem lines_len {l : List Fld} (h : headLen l ≤ 16384) (i : Nat) : (linesF (l.take i)).length ≤ 16384 := by
  have h1 : (linesF l).length + 2 = headLen l := by rw [← headF_length, headF_lines']; simp
  have h2 : linesF l = linesF (l.take i) ++ linesF (l.drop i) := by
    unfold linesF
    rw [← List.flatMap_append, List.take_append_drop]
  have h3 := congrArg List.length h2
  rw [List.length_append] at h3
  omega
/-- What whole ends in: bytes in a block of their own that ends in the mark of a text's bytes. -/
def WhR (w : World) (x : L) (e : Ending) (w' : World) : Prop := ∃ g cur c, e = .returned (.slice (some ⟨g, 0, none⟩) x.length c) ∧ x.length ≤ c ∧ Below w.heap.size w w' ∧ w.heap.size ≤ g ∧ w'.heap[g]? = some (.cells cur 5 (c, c + 1)) ∧ cur.size = c ∧ c ≤ maxLen ∧ cur.toList.take x.length = nums .u8 x
set_option maxHeartbeats 8000000 in
theorem whole_c {w : World} {B B2 : Option Addr} {c c2 : Nat} {l : List Fld} {body : L} {start : ByteArray} (h : Rd w B (fldC l)) (hb : BytesF l) (hl : headLen l ≤ 16384) (hr : ReadsInt w .u8 B2 body.length body) (hbb : Bytes body) (hbl : body.length ≤ 100000000) (hs : start.size ≤ 100000000) (hll : l.length ≤ 100000) :
    Calls Tryz.prog 53 #[.string start, .slice B l.length c, .slice B2 body.length c2] w (WhR w (wholeS (bl start) l body)) := by
  refine enter (args := [.string start, .slice B l.length c, .slice B2 body.length c2]) Tryz.func53 rfl Tryz.ntmps53 rfl ?_
  have H := (Hp.nil w).nilRow 5 1
  repeat' (first | (first | (with_reducible refine p_tn ?_) | (with_reducible refine wp_seq ?_) | (with_reducible refine w_reg ?_)) | (first | (with_reducible refine l_nil ?_) | ((with_reducible refine g_on ?_); (first | ((with_reducible refine g_mv ?_); refine l_p txs rfl rfl ?_) | ((with_reducible refine g_as ?_); refine l_p txs rfl rfl ?_) | ((with_reducible refine g_al ?_); refine h_alloc recs H rfl rfl (fun g_ w_ H => ?_))))))
  obtain ⟨gB, rfl⟩ : ∃ z, z = g_ := ⟨_, rfl⟩
  (with_reducible refine is_l ?_); refine l_cat rfl rfl (by show start.size + 2 ≤ _; omega) ?_
  skip
  (with_reducible refine is_l ?_); refine l_call rfl rfl (by kernel_rfl) (bWriteS_c (xs := []) H (.inl rfl) _ (by show 0 + (start ++ _).size ≤ _; rw [ByteArray.size_append]; show 0 + (start.size + 2) ≤ _; omega)) (fun e w_ hR => ?_)
  obtain ⟨v1, rfl, H⟩ := hR
  refine ⟨_, rfl, ?_⟩
  rw [List.nil_append, bl_cat] at H
  repeat' (first | (first | (with_reducible refine p_tn ?_) | (with_reducible refine wp_seq ?_) | (with_reducible refine wp_block ?_) | (with_reducible refine w_reg ?_)) | (first | (with_reducible refine l_nil ?_) | ((with_reducible refine g_on ?_); (first | ((with_reducible refine g_mv ?_); refine l_p txs rfl rfl ?_) | ((with_reducible refine g_cl ?_); refine l_p txs rfl rfl ?_)))))
  have e13 : bl (⟨#[13, 10]⟩ : ByteArray) = [13, 10] := rfl
  rw [e13] at H
  have hsl := bl_length start
  refine w_loop (σ := Nat × Value) (S := fun s => [(2, .slice B2 body.length c2), (7, ptrB gB), (13, .slice B l.length c), (14, .int .i64 (l.length : Int)), (15, .int .i64 (s.1 : Int))])
    (J := fun s w' => Hp w w' [entB gB (ptrB gB) s.2] [rowB s.2 (bl start ++ [13, 10] ++ linesF (l.take s.1))] ∧ s.1 ≤ l.length) (μ := fun s => l.length - s.1) (0, v1) ⟨rfl, rfl, rfl, rfl, rfl, trivial⟩ ⟨by simpa [linesF] using H, by omega⟩ ?_
  rintro ⟨i, v2⟩ f w_ ⟨H, hi⟩
  simp only at H hi ⊢
  have hll2 := lines_len hl i
  repeat' (first | (with_reducible refine wp_seq ?_) | (with_reducible refine w_reg ?_))
  (with_reducible refine is_l ?_); refine l_t txs rfl rfl (fun hlt => ?_) (fun hge => ?_)
  · obtain ⟨x, hx⟩ : ∃ x, l[i]? = some x := ⟨_, List.getElem?_eq_getElem (by omega)⟩
    obtain ⟨a1, rfl⟩ := rd_some h (i := i) (by omega)
    obtain ⟨bx1, bx2, lx1, lx2⟩ := hb x (List.mem_of_getElem? hx)
    have zx1 := sizeS' bx1
    have zx2 := sizeS' bx2
    have hlt' := lines_take hx
    repeat' (first | (first | (with_reducible refine p_tn ?_) | (with_reducible refine wp_seq ?_) | (with_reducible refine wp_block ?_) | (with_reducible refine w_reg ?_) | (with_reducible (refine is_if ?_; (refine w_ift rfl ?_))) | (with_reducible refine wp_skip ?_)) | (first | (with_reducible refine l_nil ?_) | ((with_reducible refine g_on ?_); ((with_reducible refine g_ia ?_); refine l_ia txs rfl rfl (by first | omega | assumption | decide) (by first | omega | assumption | decide) ?_))))
    rw [Int.toNat_natCast]
    (with_reducible refine is_l ?_); refine h_ldA recs (fld_part (h.below H.B) hx) rfl rfl rfl rfl ?_
    repeat' (first | (first | (with_reducible refine p_tn ?_) | (with_reducible refine w_reg ?_)) | (first | (with_reducible refine l_nil ?_) | ((with_reducible refine g_on ?_); (first | ((with_reducible refine g_fa ?_); refine h_fa flds rfl rfl ?_) | ((with_reducible refine g_ld ?_); (refine h_ld txs H 0 rfl rfl rfl rfl ?_)) | ((with_reducible refine g_st ?_); (refine h_stR recs H 0 rfl rfl rfl rfl rfl rfl rfl rfl rfl (fun w_ H => ?_))) | ((with_reducible refine g_al ?_); refine h_alloc recs H rfl rfl (fun g_ w_ H => ?_))))))
    have e2 : (⟨#[58, 32]⟩ : ByteArray).size = 2 := rfl
    have e3 : (⟨#[13, 10]⟩ : ByteArray).size = 2 := rfl
    (with_reducible refine is_l ?_); refine l_cat rfl rfl (by rw [e2]; omega) ?_
    repeat' ((with_reducible refine g_on ?_); (first | ((with_reducible refine g_fa ?_); refine h_fa flds rfl rfl ?_) | ((with_reducible refine g_ld ?_); (refine h_ld txs H 0 rfl rfl rfl rfl ?_))))
    (with_reducible refine is_l ?_); refine l_cat rfl rfl (by rw [ByteArray.size_append, e2]; omega) ?_
    skip
    (with_reducible refine is_l ?_); refine l_cat rfl rfl (by rw [ByteArray.size_append, ByteArray.size_append, e2, e3]; omega) ?_
    skip
    have HP := H.pick [1] [0] (by decide) (by decide) rfl rfl
    have hpre : (bl start ++ [13, 10] ++ linesF (l.take i)).length = start.size + 2 + (linesF (l.take i)).length := by simp [hsl]; omega
    (with_reducible refine is_l ?_); refine l_call rfl rfl (by kernel_rfl) (bWriteS_c HP (.inr rfl) _ (by rw [hpre, ByteArray.size_append, ByteArray.size_append, ByteArray.size_append, e2, e3]; omega)) (fun e w_ hR => ?_)
    obtain ⟨v3, rfl, H⟩ := hR
    refine ⟨_, rfl, ?_⟩
    rw [bl_cat, bl_cat, bl_cat, blS bx1, blS bx2] at H
    repeat' (first | (first | (with_reducible refine p_tn ?_) | (with_reducible refine p_bn ?_) | (with_reducible refine w_reg ?_)) | (first | (with_reducible refine l_nil ?_) | ((with_reducible refine g_on ?_); (first | ((with_reducible refine g_mv ?_); refine l_p txs rfl rfl ?_) | ((with_reducible refine g_bi ?_); (refine l_a txs rfl rfl (by first | exact in_i64 (by omega) (by omega) | exact in_u8 (by omega) (by omega) | exact in_u64 (by omega) (by omega) | exact in_i32 (by omega) (by omega)) ?_))))))
    refine ⟨(i + 1, v3), _, rfl, ⟨rfl, rfl, rfl, rfl, rfl, trivial⟩, ⟨?_, by show i + 1 ≤ _; omega⟩, by show _ - (i + 1) < _ - i; omega⟩
    show Hp w _ [entB gB (ptrB gB) v3] [rowB v3 (bl start ++ [13, 10] ++ linesF (l.take (i + 1)))]
    rw [hlt', ← List.append_assoc]
    exact H
  · have hall : l.take i = l := List.take_of_length_le (by omega)
    rw [hall] at H hll2
    have hpre : (bl start ++ [13, 10] ++ linesF l).length = start.size + 2 + (linesF l).length := by simp [hsl]; omega
    have e3 : (⟨#[13, 10]⟩ : ByteArray).size = 2 := rfl
    repeat' (first | (first | (with_reducible refine p_tn ?_) | (with_reducible refine p_tx ?_) | (with_reducible refine x_hit ?_) | (with_reducible refine wp_seq ?_) | (with_reducible refine w_reg ?_) | (with_reducible (refine is_if ?_; (refine w_iff rfl ?_))) | (with_reducible refine wp_exit ?_)) | (with_reducible refine l_nil ?_))
    (with_reducible refine is_l ?_); refine l_call rfl rfl (by kernel_rfl) (bWriteS_c H (.inr rfl) _ (by rw [hpre, e3]; omega)) (fun e w_ hR => ?_)
    obtain ⟨v3, rfl, H⟩ := hR
    refine ⟨_, rfl, ?_⟩
    have e13 : bl (⟨#[13, 10]⟩ : ByteArray) = [13, 10] := rfl
    rw [e13] at H
    repeat' (first | (first | (with_reducible refine p_tn ?_) | (with_reducible refine wp_seq ?_) | (with_reducible refine w_reg ?_)) | (first | (with_reducible refine l_nil ?_) | ((with_reducible refine g_on ?_); ((with_reducible refine g_mv ?_); refine l_p txs rfl rfl ?_))))
    (with_reducible refine is_l ?_); refine l_call rfl rfl (by kernel_rfl) (bWrite_c H (.inr rfl) (fun w1 K => hr.below K) (by rw [List.length_append, hpre]; show _ + 2 + _ ≤ _; omega)) (fun e w_ hR => ?_)
    obtain ⟨v4, rfl, H⟩ := hR
    refine ⟨_, rfl, ?_⟩
    have hw : bl start ++ [13, 10] ++ linesF l ++ [13, 10] ++ body = wholeS (bl start) l body := by
      unfold wholeS
      rw [headF_lines']
      simp only [List.append_assoc]
    rw [hw] at H
    have hX : Bytes (wholeS (bl start) l body) := by
      unfold wholeS
      rw [headF_lines']
      intro y hy
      simp only [List.mem_append] at hy
      rcases hy with ((hy | hy) | hy | hy) | hy
      · exact bl_bytes _ y hy
      · simp only [List.mem_cons, List.not_mem_nil, or_false] at hy; omega
      · unfold linesF at hy
        obtain ⟨f1, hf1, hy⟩ := List.mem_flatMap.1 hy
        obtain ⟨k1, k2, _, _⟩ := hb f1 hf1
        unfold lineF at hy
        simp only [List.mem_append] at hy
        rcases hy with ((hy | hy) | hy) | hy
        · exact k1 y hy
        · simp only [List.mem_cons, List.not_mem_nil, or_false] at hy; omega
        · exact k2 y hy
        · simp only [List.mem_cons, List.not_mem_nil, or_false] at hy; omega
      · simp only [List.mem_cons, List.not_mem_nil, or_false] at hy; omega
      · exact hbb y hy
    have hlenX : (wholeS (bl start) l body).length ≤ 200100000 := by rw [← hw, List.length_append, List.length_append, hpre]; show _ + 2 + _ ≤ _; omega
    generalize wholeS (bl start) l body = Y at H hX hlenX ⊢
    obtain ⟨sX, rfl⟩ : ∃ sX, Y = bl sX := ⟨strOfNums Y, (blS hX).symm⟩
    have hsX := bl_length sX
    have hcells : nums .u8 (bl sX) = Lib.byteCells sX.data.toList := by simp [nums, bl, Lib.byteCells]
    have hlenC : (bl sX).length = (Lib.byteCells sX.data.toList).length := by simp [bl, Lib.byteCells]
    have hIs : Lib.IsBuilder bT 5 w.heap.size gB (Lib.byteCells sX.data.toList) w_ := by
      have h1 := H.row 0 _ rfl
      have h2 := H.blk 0 _ rfl
      have h3 := H.ndm 0 0 _ _ rfl rfl
      simp only [hcells, hlenC] at h1
      exact .inr ⟨h2.1, v4, h2.2, h1, h3⟩
    repeat' (first | (first | (with_reducible refine p_tn ?_) | (with_reducible refine wp_seq ?_) | (with_reducible refine w_reg ?_)) | (with_reducible refine l_nil ?_))
    (with_reducible refine is_l ?_); refine l_callv rfl rfl (by kernel_rfl) (Tryz.Builder_String_any w.heap.size gB sX.data.toList w_ hIs H.B.size) (fun w_ K => ?_)
    have es : (⟨sX.data.toList.toArray⟩ : ByteArray) = sX := by cases sX; simp
    rw [es]
    (with_reducible refine is_l ?_); refine l_cvb Tryz.underlying9 Tryz.underlying23 Tryz.underlying5 rfl rfl ?_
    repeat' (first | (first | (with_reducible refine p_tn ?_) | (with_reducible refine wp_ret ?_)) | (first | (with_reducible refine l_nil ?_) | ((with_reducible refine g_on ?_); ((with_reducible refine g_as ?_); refine l_p txs rfl rfl ?_))))
    refine end1 rfl rfl ?_
    have hge := grownCap_ge w_ sX.size 0 5
    have hcs : (Lib.bytesCells w_ 5 sX).size = grownCap w_ sX.size 0 5 := by
      unfold Lib.bytesCells
      simp only [Array.size_append, Array.size_map, Array.size_replicate]
      show sX.size + _ = _
      omega
    refine ⟨w_.heap.size, Lib.bytesCells w_ 5 sX, grownCap w_ sX.size 0 5, by rw [hsX], by omega, bytes_below (H.B.trans K) (H.B.trans K).size _ _, (H.B.trans K).size, ?_, hcs, grownCap_le_maxLen _ _ _ _ (by simp only [maxLen]; omega), ?_⟩
    · have := Lib.bytesWorld_at_new w_ 5 sX
      rw [hcs] at this
      exact this
    · unfold Lib.bytesCells
      rw [hcells, Array.toList_append, hlenC]
      have : (Lib.byteCells sX.data.toList).length = (sX.data.map fun b => Value.int .u8 (b.toNat : Int)).toList.length := by simp [Lib.byteCells]
      rw [this, List.take_left]
      simp [Lib.byteCells]
end Go.Proofs.YthgojbdpmcccaaaGreatDoor.K
end
section
namespace Go.Proofs.YthgojbdpmcccaaaGreatDoor.K
open Go.RowKit Go.Proofs.YthgojbdpmcccaaaGreatDoor.Q Go.Proofs.YthgojbdpmcccaaaGreatDoor.Wb Go.Proofs.YthgojbdpmcccaaaGreatDoorW.PrintWords
set_option linter.unusedVariables false
set_option linter.unusedSimpArgs false
theorem itoa_I (n : Int) : (⟨(Lib.itoa n).toArray⟩ : ByteArray) = strOfNums (decI n) := by
  unfold Lib.itoa decI strOfNums
  by_cases h : n < 0
  · rw [if_pos h, if_neg (by omega), decDigits_S, show n.natAbs = (-n).toNat by omega]
    rfl
  · rw [if_neg h, if_pos (by omega), decDigits_S]
theorem decS_le (n : Nat) : (decS n).length ≤ n + 1 := by
  induction n using Nat.strongRecOn with
  | ind n ih =>
    rw [decS]
    by_cases h : n < 10
    · rw [if_pos h]; simp
    · rw [if_neg h, List.length_append]
      have := ih (n / 10) (by omega)
      simp only [List.length_cons, List.length_nil]
      omega
theorem decS_bytes (n : Nat) : Bytes (decS n) := by
  induction n using Nat.strongRecOn with
  | ind n ih =>
    rw [decS]
    by_cases h : n < 10
    · rw [if_pos h]; intro x hx; simp at hx; omega
    · rw [if_neg h]
      intro x hx
      rcases List.mem_append.1 hx with hx | hx
      · exact ih (n / 10) (by omega) x hx
      · simp at hx; omega
theorem decI_bytes (n : Int) : Bytes (decI n) := by
  unfold decI
  split
  · exact decS_bytes _
  · intro x hx
    rcases List.mem_cons.1 hx with hx | hx
    · omega
    · exact decS_bytes _ x hx
theorem itoaI_c {w : World} (hP : TabP w) (n : Int) (h0 : -9223372036854775808 ≤ n) (h1 : n ≤ 9223372036854775807) : Calls Tryz.prog 49 #[.int .i64 n] w fun e w' => e = .returned (.string (strOfNums (decI n))) ∧ Below w.heap.size w w' := by
  refine (Tryz.strconv_Itoa n h0 h1 w (hP w (Below.refl _ w))).mono fun e w' ⟨he, kk, os, hw⟩ => ?_
  subst hw
  exact ⟨by rw [he, itoa_I], grow_below⟩
theorem itoaI_size (n : Int) (h0 : -9223372036854775808 ≤ n) (h1 : n ≤ 9223372036854775807) : (strOfNums (decI n)).size ≤ 21 := by
  rw [← itoa_I]
  show (Lib.itoa n).toArray.size ≤ 21
  rw [List.size_toArray]
  exact Lib.itoa_length_le n h0 h1
theorem printed_bytes {l : List Fld} (hb : BytesF l) {t : Option Nat} (ht : ∀ n, t = some n → n ≤ 10000000) : BytesF (printedS l t) := by
  intro x hx
  unfold printedS at hx
  rcases List.mem_append.1 hx with hx | hx
  · obtain ⟨y, hy, rfl⟩ := List.mem_map.1 hx
    obtain ⟨k1, k2, k3, k4⟩ := hb y (List.mem_filter.1 hy).1
    refine ⟨k1, bytes_trim k2, k3, ?_⟩
    have h4 : (y.2.dropWhile blkB).length ≤ y.2.length := List.Sublist.length_le (List.dropWhile_sublist _)
    have h5 : (trimR (y.2.dropWhile blkB)).length ≤ (y.2.dropWhile blkB).length := by
      unfold trimR
      rw [List.length_reverse]
      have := List.Sublist.length_le (List.dropWhile_sublist blkB (l := (y.2.dropWhile blkB).reverse))
      rw [List.length_reverse] at this
      exact this
    show (trimS y.2).length ≤ _
    unfold trimS
    omega
  · cases t with
    | none => cases hx
    | some n =>
      simp only [List.mem_cons, List.not_mem_nil, or_false] at hx
      subst hx
      have := decS_le n
      have := ht n rfl
      exact ⟨by intro x hx; simp [nLenP] at hx; omega, decS_bytes n, (by show nLenP.length ≤ _; decide), by show (decS n).length ≤ _; omega⟩
theorem printed_len' (l : List Fld) (t : Option Nat) : (printedS l t).length ≤ l.length + 1 := by
  unfold printedS
  rw [List.length_append, List.length_map]
  have := List.length_filter_le keptF l
  cases t <;> simp <;> omega
/-- Bytes in a block of their own that ends in the mark of a text's bytes. -/
def BytB (w w' : World) (x : L) (v : Value) : Prop := ∃ g cur c, v = .slice (some ⟨g, 0, none⟩) x.length c ∧ x.length ≤ c ∧ w.heap.size ≤ g ∧ w'.heap[g]? = some (.cells cur 5 (c, c + 1)) ∧ cur.size = c ∧ c ≤ maxLen ∧ cur.toList.take x.length = nums .u8 x
end Go.Proofs.YthgojbdpmcccaaaGreatDoor.K
end
section
namespace Go.Proofs.YthgojbdpmcccaaaGreatDoor.Q
open Go.RowKit Go.Proofs.YthgojbdpmcccaaaGreatDoorW.PrintWords Go.Proofs.YthgojbdpmcccaaaGreatDoorW.PrintLast
set_option linter.unusedVariables false
set_option linter.unusedSimpArgs false
section
variable {P : Program} {n : Nat} {ops : Array Oper} {Q : Exit → Act → World → Prop} {S : World → Prop} {ds : List Nat} {f : Fr} {w : World}
theorem e_start {id m : Nat} {a : Act} (S : World → Prop) (ds : List Nat) (l : Array Bool) (hm : P.follows .mixedOrders = true) (hn : ops.size = m) (hl : Array.replicate m false = l) (hS : S w.drew)
    (h : WA P .any ops Q S ds m l a w.drew) : (Code.region id ops true).wp P Q a w := start_ l hm hn hl hS (fun _ => h.out)
theorem e_pure {i fuel : Nat} {l : Array Bool} {o : Oper} {v : Value} (l' : Array Bool) (hi : ops[i]? = some o) (hc : anyB .any ops l l' i = true) (hQ : ∀ c a w, Q (.panic c) (a.put o.dst v) w → Q (.panic c) a w)
    (hw : want n ops f o = true) (hv : ∀ w, (execOp (X n f) o).run P w = .ok (.value v) w) (h : WA P .any ops Q S ds fuel l' (act n (put f o.dst v)) w) : WA P .any ops Q S ds (fuel + 1) l (act n f) w :=
  ⟨pure_ l' hi rfl hc hQ (Or.inl ⟨by rw [want_eq]; exact hw, fun w => by rw [eval_act]; exact hv w⟩) (put_act n f _ v) h.out⟩
theorem e_take {i fuel : Nat} {l : Array Bool} {o : Oper} {v : Value} (l' : Array Bool) (hi : ops[i]? = some o) (hc : takeB .any ops ds l l' i = true) (hQ : ∀ c a w, Q (.panic c) (a.put o.dst v) w → Q (.panic c) a w)
    (hw : want n ops f o = true) (hv : ∀ w, S w → (execOp (X n f) o).run P w = .ok (.value v) w) (hS : S w) (h : WA P .any ops Q S ds fuel l' (act n (put f o.dst v)) w) : WA P .any ops Q S ds (fuel + 1) l (act n f) w :=
  ⟨take_ l' hi rfl hc hQ (Or.inl ⟨by rw [want_eq]; exact hw, fun w hS => by rw [eval_act]; exact hv w hS⟩) hS (put_act n f _ v) h.out⟩
theorem e_one {i fuel : Nat} {l : Array Bool} {o : Oper} (l' : Array Bool) (hi : ops[i]? = some o) (hc : readyB .any ops l l' i = true) (hd : i ∉ ds) (hw : want n ops f o = true)
    (h : WL P ops (fun ex a' w' => ex = .normal ∧ S w' ∧ WA P .any ops Q S ds fuel l' a' w') [o] (act n f) w) : WA P .any ops Q S ds (fuel + 1) l (act n f) w := by
  have h := h.out
  refine ⟨?_⟩
  refine one_ l' hi rfl hc hd (fun K hK => ?_)
  have hw' : Region.wanted o (yielded ops (act n f).tmps) = true := by rw [want_eq]; exact hw
  rw [if_pos hw']
  simp only [wpList, hw', if_true] at h
  rcases h with h | ⟨_, _, _, h, _⟩
  · refine Oper.wp_mono (fun a' w' hk => hK.out a' w' hk.1 (fun _ => hk.2.out)) (wp_of_normal (K := fun a' w' => S w' ∧ WA P .any ops Q S ds fuel l' a' w') ?_)
    exact Oper.wp_mono (fun a' w' hk => hk.2) h
  · cases h
theorem e_two {i j fuel : Nat} {l : Array Bool} {o p : Oper} (li lj : Array Bool) (hi : ops[i]? = some o) (hj : ops[j]? = some p) (hc : (Region.ready .any ops l == [i, j] && l.setIfInBounds i true == li && l.setIfInBounds j true == lj) = true) (hdi : i ∉ ds) (hdj : j ∉ ds) (hw : want n ops f o = true) (hv : want n ops f p = true)
    (h : WL P ops (fun ex a' w' => ex = .normal ∧ S w' ∧ WA P .any ops Q S ds fuel li a' w') [o] (act n f) w)
    (g : WL P ops (fun ex a' w' => ex = .normal ∧ S w' ∧ WA P .any ops Q S ds fuel lj a' w') [p] (act n f) w) : WA P .any ops Q S ds (fuel + 1) l (act n f) w := by
  have h := h.out
  have g := g.out
  have hw' : Region.wanted o (yielded ops (act n f).tmps) = true := by rw [want_eq]; exact hw
  have hv' : Region.wanted p (yielded ops (act n f).tmps) = true := by rw [want_eq]; exact hv
  refine ⟨?_⟩
  refine two_ li lj hi hj rfl rfl hc hdi hdj (fun K hK => ?_) (fun K hK => ?_)
  · rw [if_pos hw']
    simp only [wpList, hw', if_true] at h
    rcases h with h | ⟨_, _, _, h, _⟩
    · refine Oper.wp_mono (fun a' w' hk => hK.out a' w' hk.1 (fun _ => hk.2.out)) (wp_of_normal (K := fun a' w' => S w' ∧ WA P .any ops Q S ds fuel li a' w') ?_)
      exact Oper.wp_mono (fun a' w' hk => hk.2) h
    · cases h
  · rw [if_pos hv']
    simp only [wpList, hv', if_true] at g
    rcases g with g | ⟨_, _, _, g, _⟩
    · refine Oper.wp_mono (fun a' w' hk => hK.out a' w' hk.1 (fun _ => hk.2.out)) (wp_of_normal (K := fun a' w' => S w' ∧ WA P .any ops Q S ds fuel lj a' w') ?_)
      exact Oper.wp_mono (fun a' w' hk => hk.2) g
    · cases g
theorem e_last {i fuel : Nat} {l : Array Bool} {o : Oper} (l' : Array Bool) (hi : ops[i]? = some o) (hc : readyB .any ops l l' i = true) (hd : i ∈ ds) (hw : want n ops f o = true)
    (h : WL P ops (fun ex a' w' => ex = .normal ∧ WA P .any ops Q S ds fuel l' a' w') [o] (act n f) w) : WA P .any ops Q S ds (fuel + 1) l (act n f) w := by
  have h := h.out
  refine ⟨?_⟩
  refine last_ l' hi rfl hc hd (fun K hK => ?_)
  have hw' : Region.wanted o (yielded ops (act n f).tmps) = true := by rw [want_eq]; exact hw
  rw [if_pos hw']
  simp only [wpList, hw', if_true] at h
  rcases h with h | ⟨_, _, _, h, _⟩
  · refine Oper.wp_mono (fun a' w' hk => hK.out a' w' hk.out) (wp_of_normal (K := fun a' w' => WA P .any ops Q S ds fuel l' a' w') ?_)
    exact Oper.wp_mono (fun a' w' hk => hk.2) h
  · cases h
theorem e_done {l : Array Bool} {m : Nat} {a : Act} (hr : (Region.ready .any ops l == []) = true) (h : Q .normal a w) : WA P .any ops Q S ds m l a w := ⟨done_ hr h⟩
end
end Go.Proofs.YthgojbdpmcccaaaGreatDoor.Q
end
section
namespace Go.Proofs.YthgojbdpmcccaaaGreatDoor.K
open Go.RowKit Go.Proofs.YthgojbdpmcccaaaGreatDoor.Q Go.Proofs.YthgojbdpmcccaaaGreatDoor.Wb Go.Proofs.YthgojbdpmcccaaaGreatDoorW.PrintWords
set_option linter.unusedVariables false
set_option linter.unusedSimpArgs false
set_option maxHeartbeats 2000000 in
theorem value14_c {w : World} {B : Option Addr} {c : Nat} {l : List L} (h : Rd w B (strC l)) (i : Nat) (hi : i ≤ 100000000) :
    Calls Tryz.prog 48 #[.slice B l.length c, .int .i64 (i : Int)] w fun e w' => e = .returned (.string (strOfNums (l.getD i []))) ∧ Below w.heap.size w w' := by
  refine enter (args := [.slice B l.length c, .int .i64 (i : Int)]) Tryz.func48 rfl Tryz.ntmps48 rfl ?_
  have H := Hp.nil w
  repeat' (first | (first | (with_reducible refine p_tn ?_) | (with_reducible refine wp_seq ?_) | (with_reducible refine w_reg ?_)) | (first | (with_reducible refine l_nil ?_) | ((with_reducible refine g_on ?_); (first | ((with_reducible refine g_mv ?_); refine l_p txs rfl rfl ?_) | ((with_reducible refine g_as ?_); refine l_p txs rfl rfl ?_) | ((with_reducible refine g_cl ?_); refine l_p txs rfl rfl ?_)))))
  (with_reducible refine is_l ?_); refine l_t txs rfl rfl (fun hlt => ?_) (fun hge => ?_)
  · obtain ⟨x, hx⟩ : ∃ x, l[i]? = some x := ⟨_, List.getElem?_eq_getElem (by omega)⟩
    obtain ⟨ad, rfl⟩ : ∃ ad, B = some ad := by
      cases B with
      | none =>
        have := h.1 rfl
        simp only [strC, List.map_eq_nil_iff] at this
        rw [this] at hx
        simp at hx
      | some ad => exact ⟨ad, rfl⟩
    have hcell := h.2 ad rfl _ _ (strC_at hx)
    have hg : l.getD i [] = x := by rw [List.getD_eq_getElem?_getD, hx]; rfl
    rw [hg]
    repeat' (first | (first | (with_reducible refine p_tn ?_) | (with_reducible refine wp_seq ?_) | (with_reducible refine w_reg ?_) | (with_reducible (refine is_if ?_; (refine w_ift rfl ?_)))) | (first | (with_reducible refine l_nil ?_) | ((with_reducible refine g_on ?_); (first | ((with_reducible refine g_mv ?_); refine l_p txs rfl rfl ?_) | ((with_reducible refine g_ia ?_); refine l_ia txs rfl rfl (by first | omega | assumption | decide) (by first | omega | assumption | decide) ?_)))))
    (with_reducible refine is_l ?_); refine l_ld txs rfl rfl (by rw [Int.toNat_natCast]; exact H.old hcell) ?_
    repeat' (first | (first | (with_reducible refine p_tn ?_) | (with_reducible refine p_tr ?_) | (with_reducible refine wp_ret ?_)) | (first | (with_reducible refine l_nil ?_) | ((with_reducible refine g_on ?_); ((with_reducible refine g_as ?_); refine l_p txs rfl rfl ?_))))
    refine end1 rfl rfl ?_
    exact ⟨rfl, H.B⟩
  · have hg : l.getD i [] = [] := by rw [List.getD_eq_getElem?_getD, List.getElem?_eq_none (by omega)]; rfl
    rw [hg]
    repeat' (first | (first | (with_reducible refine p_tn ?_) | (with_reducible refine wp_seq ?_) | (with_reducible refine w_reg ?_) | (with_reducible (refine is_if ?_; (refine w_iff rfl ?_))) | (with_reducible refine wp_skip ?_) | (with_reducible refine wp_ret ?_)) | (first | (with_reducible refine l_nil ?_) | ((with_reducible refine g_on ?_); ((with_reducible refine g_as ?_); refine l_p txs rfl rfl ?_))))
    refine end1 rfl rfl ?_
    exact ⟨rfl, H.B⟩
/-- The fields: what is missing is empty. -/
def mkF : List L → List L → List Fld
  | [], _ => []
  | n :: ns, [] => (n, []) :: mkF ns []
  | n :: ns, v :: vs => (n, v) :: mkF ns vs
theorem mkF_len : ∀ ns vs, (mkF ns vs).length = ns.length
  | [], _ => by simp [mkF]
  | n :: ns, [] => by simp [mkF, mkF_len ns []]
  | n :: ns, v :: vs => by simp [mkF, mkF_len ns vs]
theorem mkF_at : ∀ (ns vs : List L) (i : Nat) (x : L), ns[i]? = some x → (mkF ns vs)[i]? = some (x, vs.getD i [])
  | [], _, i, x, h => by simp at h
  | n :: ns, [], 0, x, h => by simp at h; subst h; simp [mkF]
  | n :: ns, [], i + 1, x, h => by
    have := mkF_at ns [] i x (by simpa using h)
    simpa [mkF] using this
  | n :: ns, v :: vs, 0, x, h => by simp at h; subst h; simp [mkF]
  | n :: ns, v :: vs, i + 1, x, h => by
    have := mkF_at ns vs i x (by simpa using h)
    simpa [mkF] using this
theorem mkF_take {ns vs : List L} {i : Nat} {x : L} (h : ns[i]? = some x) : (mkF ns vs).take (i + 1) = (mkF ns vs).take i ++ [(x, vs.getD i [])] := by
  have h2 := mkF_at ns vs i x h
  have hi : i < (mkF ns vs).length := (List.getElem?_eq_some_iff.1 h2).1
  have hx : (mkF ns vs)[i] = (x, vs.getD i []) := (List.getElem?_eq_some_iff.1 h2).2
  rw [List.take_succ_eq_append_getElem hi, hx]
end Go.Proofs.YthgojbdpmcccaaaGreatDoor.K
end
section
namespace Go.Proofs.YthgojbdpmcccaaaGreatDoor.Op
open Go.ChangeShapes Go.WideShapes Go.ChangeAt Go.RowKit
open Go.Proofs.YthgojbdpmcccaaaGreatDoor.K Go.Proofs.YthgojbdpmcccaaaGreatDoor.Q Go.Proofs.YthgojbdpmcccaaaGreatDoor.Wb Go.Proofs.YthgojbdpmcccaaaGreatDoor.LaidF Go.Proofs.YthgojbdpmcccaaaGreatDoorW.PrintWords
set_option linter.unusedVariables false
set_option linter.unusedSimpArgs false
theorem part_le {H : Type} {d : DataW H} {l : List (DataW H)} (h : d ∈ l) : Rows.uptoBulk d ≤ Rows.uptoBulkAll l := by
  induction l with
  | nil => cases h
  | cons x r ih =>
    simp only [Rows.uptoBulkAll]
    cases List.mem_cons.1 h with
    | inl e => subst e; omega
    | inr e => have := ih e; omega
theorem lits_le {H : Type} (k : IntKind) : ∀ l : List Int, l.length ≤ Rows.uptoBulkAll (lits (H := H) k l)
  | [] => by simp [lits, Rows.uptoBulkAll]
  | x :: l => by
    have h := lits_le (H := H) k l
    have e : Rows.uptoBulkAll (lits (H := H) k (x :: l)) = 1 + Rows.uptoBulkAll (lits (H := H) k l) := by simp only [lits, List.map_cons, Rows.uptoBulkAll, Rows.uptoBulk]
    rw [e]
    simp only [List.length_cons]
    omega
theorem strs_le {H : Type} : ∀ l : List ByteArray, l.length ≤ Rows.uptoBulkAll (strs (H := H) l) ∧ ∀ x ∈ l, x.size ≤ Rows.uptoBulkAll (strs (H := H) l)
  | [] => by simp [strs, Rows.uptoBulkAll]
  | s :: l => by
    obtain ⟨h1, h2⟩ := strs_le (H := H) l
    have e : Rows.uptoBulkAll (strs (H := H) (s :: l)) = (s.data.toList.length + 1) + Rows.uptoBulkAll (strs (H := H) l) := by simp only [strs, List.map_cons, Rows.uptoBulkAll, Rows.uptoBulk]
    rw [e, data_length]
    refine ⟨by simp only [List.length_cons]; omega, fun x hx => ?_⟩
    rcases List.mem_cons.1 hx with rfl | hx
    · omega
    · have := h2 x hx; omega
section
variable {H : Type} {enc : TypeId × Value → H} {W : World} {fuel : Nat} {cs : List Value} {x : DataW H × List MemPlace}
set_option maxRecDepth 100000 in
theorem bytes_in (hf : DataW.trod enc Tryz.prog W 0 (fun _ => true) true fuel 23 cs = some x) :
    ∃ (A : Option Addr) (c : Nat) (l : L), cs = [.slice A l.length c] ∧ l.length ≤ c ∧ ReadsInt W .u8 A l.length l ∧ l.length ≤ Rows.uptoBulk x.1 ∧ Bytes l ∧ (A = none → c = 0 ∧ l.length = 0) := by
  rcases open_ints Tryz.underlying23 Tryz.underlying5 (by kernel_rfl) hf with ⟨rfl, hx⟩ | ⟨a, len, cap, ss, rfl, _, hl, hm, hz, rfl, hcell, hwf⟩
  · exact ⟨none, 0, [], rfl, Nat.le_refl _, ⟨rfl, by simp, fun h => absurd h (Nat.lt_irrefl 0)⟩, by simp, (fun _ h => by cases h), fun _ => ⟨rfl, rfl⟩⟩
  · simp only [if_true] at hz
    have hlen : (ss.take len).length = len := by rw [List.length_take]; omega
    have h1 := lits_le (H := H) .u8 (ss.take len)
    have hb : Rows.uptoBulk (.slice (lits (H := H) .u8 (ss.take len)) (lits .u8 (ss.drop len))) = Rows.uptoBulkAll (lits (H := H) .u8 (ss.take len)) + Rows.uptoBulkAll (lits (H := H) .u8 (ss.drop len)) + 1 := by simp only [Rows.uptoBulk]
    refine ⟨some a, cap, ss.take len, by rw [hlen], by omega, ⟨rfl, by rw [hlen]; simp only [maxLen] at hm; omega, fun _ => ⟨a, rfl, fun j hj => ?_⟩⟩, by rw [hb]; omega, fun y hy => bounds_u8 (hwf y (List.mem_of_mem_take hy)), fun h => by cases h⟩
    rw [hcell j (by omega)]
    congr 2
    rw [List.getD_eq_getElem?_getD, List.getD_eq_getElem?_getD, List.getElem?_take_of_lt (by omega)]
set_option maxRecDepth 100000 in
theorem strs_in (hf : DataW.trod enc Tryz.prog W 0 (fun _ => true) true fuel 22 cs = some x) :
    ∃ (A : Option Addr) (c : Nat) (l : List L), cs = [.slice A l.length c] ∧ l.length ≤ c ∧ Rd W A (strC l) ∧ l.length ≤ Rows.uptoBulk x.1 ∧ ∀ y ∈ l, Bytes y ∧ y.length ≤ Rows.uptoBulk x.1 := by
  rcases open_strings Tryz.underlying22 Tryz.underlying9 (by kernel_rfl) hf with ⟨rfl, hx⟩ | ⟨a, len, cap, ss, rfl, _, hl, hm, hz, rfl, hcell, hsz⟩
  · exact ⟨none, 0, [], rfl, Nat.le_refl _, ⟨fun _ => rfl, fun ad e => (by cases e)⟩, by simp, by simp⟩
  · simp only [if_true] at hz
    have hlen : ((ss.take len).map bl).length = len := by rw [List.length_map, List.length_take]; omega
    obtain ⟨h1, h2⟩ := strs_le (H := H) (ss.take len)
    have hb : Rows.uptoBulk (.slice (strs (H := H) (ss.take len)) (strs (ss.drop len))) = Rows.uptoBulkAll (strs (H := H) (ss.take len)) + Rows.uptoBulkAll (strs (H := H) (ss.drop len)) + 1 := by simp only [Rows.uptoBulk]
    refine ⟨some a, cap, (ss.take len).map bl, by rw [hlen], by rw [hlen]; omega, ⟨fun e => (by cases e), fun ad e i v hv => ?_⟩, ?_, fun y hy => ?_⟩
    · injection e with e
      subst e
      have hi : i < len := by
        have := (List.getElem?_eq_some_iff.1 hv).1
        simp only [strC, List.length_map, List.length_take] at this
        omega
      rw [hcell i (by omega)]
      simp only [strC, List.getElem?_map, List.getElem?_take_of_lt hi, Option.map_map, Option.map_eq_some_iff] at hv
      obtain ⟨s, hs, rfl⟩ := hv
      rw [List.getD_eq_getElem?_getD, hs]
      simp [strS]
    · rw [hb, List.length_map]; omega
    · obtain ⟨s, hs, rfl⟩ := List.mem_map.1 hy
      refine ⟨bl_bytes s, ?_⟩
      have := h2 s hs
      rw [bl_length, hb]
      omega
theorem i64_range {n : Int} (h : (Lit.int .i64 n).wf = true) : -9223372036854775808 ≤ n ∧ n ≤ 9223372036854775807 := by
  simp only [Lit.wf, Bool.and_eq_true, decide_eq_true_eq] at h
  have e1 : IntKind.min .i64 = -9223372036854775808 := by decide +kernel
  have e2 : IntKind.max .i64 = 9223372036854775807 := by decide +kernel
  rw [e1, e2] at h
  exact h
theorem int_in {t : TypeId} (ht : Tryz.prog.underlying t = some (.int .i64)) (hf : DataW.trod enc Tryz.prog W 0 (fun _ => true) true fuel t cs = some x) : ∃ n : Int, cs = [.int .i64 n] ∧ -9223372036854775808 ≤ n ∧ n ≤ 9223372036854775807 := by
  obtain ⟨n, rfl, rfl, hw⟩ := DataW.trod_int ht hf
  exact ⟨n, rfl, (i64_range hw).1, (i64_range hw).2⟩
noncomputable def oneB (fs : Array Field) : Bool := fs.toList.zipIdx.all fun p => p.1.offset == p.2 && Tryz.prog.cellsOf p.1.type == 1
theorem one_at {fs : Array Field} {t : TypeId} (ht : Tryz.prog.underlying t = some (.struct fs)) (h1 : oneB fs = true) (h : DataW.trod enc Tryz.prog W 0 (fun _ => true) true fuel t cs = some x) :
    ∃ (xs : List (DataW H × List MemPlace)) (n : Nat), x.1 = .agg (xs.map (·.1)) ∧ cs.length = Tryz.prog.cellsOf t ∧ ∀ (i : Nat) (f : Field), fs[i]? = some f → ∃ y, y ∈ xs ∧ DataW.trod enc Tryz.prog W 0 (fun _ => true) true n f.type ((cs.drop i).take 1) = some y := by
  obtain ⟨xs, n, _, rfl, hl, hxl, hall⟩ := DataW.trod_struct ht h
  refine ⟨xs, n, rfl, hl, fun i f hf => ?_⟩
  have hi : i < fs.size := (Array.getElem?_eq_some_iff.1 hf).1
  have hz : (f, i) ∈ fs.toList.zipIdx := by
    refine List.mem_of_getElem? (i := i) ?_
    rw [List.getElem?_zipIdx, Array.getElem?_toList, hf]
    simp
  have h2 := List.all_eq_true.1 h1 _ hz
  simp only [Bool.and_eq_true, beq_iff_eq] at h2
  have h3 := hall i f hf
  rw [h2.1, h2.2, List.getElem?_eq_getElem (by omega)] at h3
  exact ⟨_, List.getElem_mem _, h3⟩
theorem agg_le {xs : List (DataW H × List MemPlace)} {y : DataW H × List MemPlace} (h : y ∈ xs) : Rows.uptoBulk y.1 ≤ Rows.uptoBulk (.agg (xs.map (·.1))) := by
  have := part_le (H := H) (List.mem_map_of_mem (f := (·.1)) h)
  have e : Rows.uptoBulk (.agg (xs.map (·.1))) = Rows.uptoBulkAll (xs.map (·.1)) + 1 := by simp only [Rows.uptoBulk]
  omega
set_option maxRecDepth 100000 in
theorem open_bytes {base : Nat} {v : Value} {d : DataW H} {ps : List MemPlace} (hval : Value.okWide Tryz.prog W .any base 23 v) (h : DataW.Trod enc Tryz.prog W 0 (fun _ => true) true 23 v d ps) :
    ∃ (A : Option Addr) (c : Nat) (l : L), v = .slice A l.length c ∧ l.length ≤ c ∧ ReadsInt W .u8 A l.length l ∧ l.length ≤ Rows.uptoBulk d ∧ Bytes l ∧ (A = none → c = 0 ∧ l.length = 0) := by
  obtain ⟨a, len, cap, rfl⟩ := okWide_slice Tryz.underlying23 hval
  obtain ⟨fuel, hf⟩ := h
  obtain ⟨A, c, l, h1, h2⟩ := bytes_in hf
  refine ⟨A, c, l, ?_, h2⟩
  have h3 : (Value.slice a len cap).cells.toList = [Value.slice a len cap] := rfl
  rw [h3] at h1
  exact (List.cons.inj h1).1
/-- A request in plain data, opened. -/
structure ReqIn (W : World) (k : Nat) where
  m : L
  t : L
  mi : Int
  ns : List L
  vs : List L
  body : L
  pad : Int
  NB : Option Addr
  nc : Nat
  VB : Option Addr
  vc : Nat
  BB : Option Addr
  bc : Nat
  hm : Bytes m ∧ m.length ≤ k
  ht : Bytes t ∧ t.length ≤ k
  hmi : -9223372036854775808 ≤ mi ∧ mi ≤ 9223372036854775807
  hn : Rd W NB (strC ns) ∧ ns.length ≤ k ∧ ∀ x ∈ ns, Bytes x ∧ x.length ≤ k
  hvs : Rd W VB (strC vs) ∧ vs.length ≤ k ∧ ∀ x ∈ vs, Bytes x ∧ x.length ≤ k
  hb : ReadsInt W .u8 BB body.length body ∧ body.length ≤ bc ∧ body.length ≤ k ∧ Bytes body ∧ (BB = none → bc = 0 ∧ body.length = 0)
  hp : -9223372036854775808 ≤ pad ∧ pad ≤ 9223372036854775807
def ReqIn.val {W : World} {k : Nat} (R : ReqIn W k) : Value := .agg #[.string (strOfNums R.m), .string (strOfNums R.t), .int .i64 R.mi, .slice R.NB R.ns.length R.nc, .slice R.VB R.vs.length R.vc, .slice R.BB R.body.length R.bc, .int .i64 R.pad]
end
end Go.Proofs.YthgojbdpmcccaaaGreatDoor.Op
end
section
namespace Go.Proofs.YthgojbdpmcccaaaGreatDoor.K
open Go.RowKit Go.Proofs.YthgojbdpmcccaaaGreatDoor.Q Go.Proofs.YthgojbdpmcccaaaGreatDoor.Wb Go.Proofs.YthgojbdpmcccaaaGreatDoorW.PrintWords
set_option linter.unusedVariables false
set_option linter.unusedSimpArgs false
section
variable {P : Program} {ty : Nat → Option Ty} {n : Nat} {f : Fr} {w w0 : World} {ops : Array Oper} {Q : Exit → Act → World → Prop} {rest : List Oper} {d : Option Nat} {op : Op} {tt : TypeId} {ps : String} {af : Array Edge} {gd : Option (Nat × Bool)} {l : List Ent} {r : List RowD}
end
theorem app_bytes {a b : L} (h1 : Bytes a) (h2 : Bytes b) : Bytes (a ++ b) := fun x hx => (List.mem_append.1 hx).elim (h1 x) (h2 x)
theorem headF_bytes : ∀ {l : List Fld}, BytesF l → Bytes (headF l)
  | [], _ => by intro x hx; simp [headF] at hx; omega
  | f :: r, h => by
    rw [headF]
    have hf := h f (by simp)
    refine app_bytes (app_bytes ?_ (by intro x hx; simp at hx; omega)) (headF_bytes fun y hy => h y (by simp [hy]))
    unfold lineF
    exact app_bytes (app_bytes hf.1 (by intro x hx; simp at hx; omega)) hf.2.1
theorem nums_one (k : IntKind) (l : L) : (nums k l).all (·.oneCell') = true := by
  rw [List.all_eq_true]
  intro v hv
  obtain ⟨x, _, rfl⟩ := List.mem_map.1 hv
  rfl
theorem mkF_mem : ∀ (ns vs : List L) (x : Fld), x ∈ mkF ns vs → x.1 ∈ ns ∧ (x.2 = [] ∨ x.2 ∈ vs)
  | [], _, x, h => by simp [mkF] at h
  | n :: ns, [], x, h => by
    rw [mkF] at h
    rcases List.mem_cons.1 h with rfl | h
    · exact ⟨by simp, .inl rfl⟩
    · have := mkF_mem ns [] x h
      exact ⟨by simp [this.1], this.2⟩
  | n :: ns, v :: vs, x, h => by
    rw [mkF] at h
    rcases List.mem_cons.1 h with rfl | h
    · exact ⟨by simp, .inr (by simp)⟩
    · have := mkF_mem ns vs x h
      exact ⟨by simp [this.1], this.2.imp id (by intro h; simp [h])⟩
theorem mkF_bytes {ns vs : List L} (h1 : ∀ x ∈ ns, Bytes x ∧ x.length ≤ 100000000) (h2 : ∀ x ∈ vs, Bytes x ∧ x.length ≤ 100000000) : BytesF (mkF ns vs) := by
  intro x hx
  obtain ⟨a, b⟩ := mkF_mem ns vs x hx
  have h3 := h1 _ a
  rcases b with b | b
  · rw [b]; exact ⟨h3.1, (fun _ h => by cases h), h3.2, by simp⟩
  · have h4 := h2 _ b
    exact ⟨h3.1, h4.1, h3.2, h4.2⟩
end Go.Proofs.YthgojbdpmcccaaaGreatDoor.K
end
section
namespace Go.Proofs.YthgojbdpmcccaaaGreatDoor.K
open Go.RowKit Go.Proofs.YthgojbdpmcccaaaGreatDoor.Q Go.Proofs.YthgojbdpmcccaaaGreatDoor.Wb Go.Proofs.YthgojbdpmcccaaaGreatDoorW.PrintWords
set_option linter.unusedVariables false
set_option linter.unusedSimpArgs false
theorem low_take {l : L} {i : Nat} {x : Int} (h : l[i]? = some x) : lowS (l.take (i + 1)) = lowS (l.take i) ++ [lowB x] := by
  have hi : i < l.length := (List.getElem?_eq_some_iff.1 h).1
  have hx : l[i] = x := (List.getElem?_eq_some_iff.1 h).2
  unfold lowS
  rw [List.take_succ_eq_append_getElem hi, hx, List.map_append]
  rfl
set_option maxHeartbeats 4000000 in
theorem lower14_c (s : ByteArray) (w : World) (hs : s.size ≤ 1000000000) : Calls Tryz.prog 55 #[.string s] w fun e w' => e = .returned (.string (strOfNums (lowS (bl s)))) ∧ Below w.heap.size w w' := by
  refine enter (args := [.string s]) Tryz.func55 rfl Tryz.ntmps55 rfl ?_
  have hbl := bl_length s
  have H := (Hp.nil w).nilRow 5 1
  repeat' (first | (first | (with_reducible refine p_tn ?_) | (with_reducible refine wp_seq ?_) | (with_reducible refine wp_block ?_) | (with_reducible refine w_reg ?_)) | (first | (with_reducible refine l_nil ?_) | ((with_reducible refine g_on ?_); ((with_reducible refine g_as ?_); refine l_p txs rfl rfl ?_))))
  refine w_loop (σ := Nat × Option Addr × Nat) (S := fun s' => [(0, .string s), (3, .slice s'.2.1 (lowS ((bl s).take s'.1)).length s'.2.2), (4, .int .i64 (s'.1 : Int))])
    (J := fun s' w' => Hp w w' [] [rowB (.slice s'.2.1 (lowS ((bl s).take s'.1)).length s'.2.2) (lowS ((bl s).take s'.1))] ∧ s'.1 ≤ s.size) (μ := fun s' => s.size - s'.1) (0, none, 0) ⟨rfl, rfl, rfl, trivial⟩ ⟨H, by omega⟩ ?_
  rintro ⟨i, A2, c2⟩ f w_ ⟨H, hi⟩
  simp only at H hi ⊢
  repeat' (first | (first | (with_reducible refine wp_seq ?_) | (with_reducible refine w_reg ?_)) | ((with_reducible refine g_on ?_); (first | ((with_reducible refine g_mv ?_); refine l_p txs rfl rfl ?_) | ((with_reducible refine g_cl ?_); refine l_p txs rfl rfl ?_))))
  (with_reducible refine is_l ?_); refine l_t txs rfl rfl (fun hlt => ?_) (fun hge => ?_)
  · obtain ⟨x, hx⟩ : ∃ x, (bl s)[i]? = some x := ⟨_, List.getElem?_eq_getElem (by omega)⟩
    have hx2 := bl_bytes s x (List.mem_of_getElem? hx)
    have hlow := low_take hx
    have hl0 : (lowS ((bl s).take i)).length = i := by unfold lowS; rw [List.length_map, List.length_take]; omega
    have hl1 : (lowS ((bl s).take (i + 1))).length = (lowS ((bl s).take i)).length + 1 := by rw [hlow]; simp
    have hat : at_ (bl s) (i : Int) = x := by unfold at_; rw [Int.toNat_natCast, List.getD_eq_getElem?_getD, hx]; rfl
    repeat' (first | (first | (with_reducible refine p_tn ?_) | (with_reducible refine wp_seq ?_) | (with_reducible refine wp_block ?_) | (with_reducible refine w_reg ?_) | (with_reducible (refine is_if ?_; (refine w_ift rfl ?_))) | (with_reducible refine wp_skip ?_)) | (first | (with_reducible refine l_nil ?_) | ((with_reducible refine g_on ?_); (first | ((with_reducible refine g_mv ?_); refine l_p txs rfl rfl ?_) | ((with_reducible refine g_as ?_); refine l_p txs rfl rfl ?_) | ((with_reducible refine g_ix ?_); refine l_ix txs rfl rfl (by first | omega | assumption | decide) (by first | omega | assumption | decide) ?_)))))
    rw [hat]
    skip
    (with_reducible refine is_l ?_); refine l_t txs rfl rfl (fun h1 => ?_) (fun h1 => ?_)
    · repeat' (first | ((with_reducible refine g_on ?_); ((with_reducible refine g_mv ?_); refine l_p txs rfl rfl ?_)) | ((with_reducible refine g_if ?_); ((with_reducible refine g_mv ?_); refine l_p txs rfl rfl ?_)))
      (with_reducible refine is_l ?_); refine l_t txs rfl rfl (fun h2 => ?_) (fun h2 => ?_)
      · have hxe : lowB x = x + 32 := if_pos ⟨by omega, by omega⟩
        repeat' (first | (first | (with_reducible refine p_tn ?_) | (with_reducible refine w_reg ?_) | (with_reducible (refine is_if ?_; (refine w_ift rfl ?_)))) | (first | (with_reducible refine l_nil ?_) | ((with_reducible refine g_on ?_); (first | ((with_reducible refine g_mv ?_); refine l_p txs rfl rfl ?_) | ((with_reducible refine g_as ?_); refine l_p txs rfl rfl ?_) | ((with_reducible refine g_pk ?_); refine l_p txs rfl rfl ?_) | ((with_reducible refine g_bi ?_); (refine l_a txs rfl rfl (by first | exact in_i64 (by omega) (by omega) | exact in_u8 (by omega) (by omega) | exact in_u64 (by omega) (by omega) | exact in_i32 (by omega) (by omega)) ?_))))))
        (with_reducible refine is_l ?_); refine h_bs H info_u8 Tryz.underlying23 (by decide) (by decide) rfl rfl (by kernel_rfl) (fun g_ w_ H => ?_)
        (with_reducible refine is_l ?_); refine h_app H 0 rfl info_u8 Tryz.underlying23 rfl rfl rfl rfl (H.cellRd 0 rfl) rfl rfl (by show ((lowS ((bl s).take i)).length + 1) * 1 ≤ _; omega) (fun v w_ hv H => ?_)
        obtain ⟨A', c', rfl⟩ := hv
        have H := H.pick [] [0] (by decide) (by decide) rfl rfl
        repeat' (first | (first | (with_reducible refine p_tn ?_) | (with_reducible refine p_bn ?_) | (with_reducible refine w_reg ?_)) | (first | (with_reducible refine l_nil ?_) | ((with_reducible refine g_on ?_); (first | ((with_reducible refine g_mv ?_); refine l_p txs rfl rfl ?_) | ((with_reducible refine g_as ?_); refine l_p txs rfl rfl ?_) | ((with_reducible refine g_bi ?_); (refine l_a txs rfl rfl (by first | exact in_i64 (by omega) (by omega) | exact in_u8 (by omega) (by omega) | exact in_u64 (by omega) (by omega) | exact in_i32 (by omega) (by omega)) ?_))))))
        refine ⟨(i + 1, A', c'), _, rfl, ⟨rfl, ?_, rfl, trivial⟩, ⟨?_, by show i + 1 ≤ _; omega⟩, by show _ - (i + 1) < _ - i; omega⟩
        · show Value.slice A' ((lowS ((bl s).take i)).length + 1) c' = Value.slice A' (lowS ((bl s).take (i + 1))).length c'
          rw [hl1]
        · show Hp w _ [] [rowB (.slice A' (lowS ((bl s).take (i + 1))).length c') (lowS ((bl s).take (i + 1)))]
          unfold rowB
          rw [hl1, hlow, hxe, nums_append]
          exact H
      · have hxe : lowB x = x := if_neg (by omega)
        repeat' (first | (first | (with_reducible refine p_tn ?_) | (with_reducible refine w_reg ?_) | (with_reducible (refine is_if ?_; (refine w_iff rfl ?_))) | (with_reducible refine wp_skip ?_)) | (first | (with_reducible refine l_nil ?_) | ((with_reducible refine g_on ?_); (first | ((with_reducible refine g_mv ?_); refine l_p txs rfl rfl ?_) | ((with_reducible refine g_pk ?_); refine l_p txs rfl rfl ?_)))))
        (with_reducible refine is_l ?_); refine h_bs H info_u8 Tryz.underlying23 (by decide) (by decide) rfl rfl (by kernel_rfl) (fun g_ w_ H => ?_)
        (with_reducible refine is_l ?_); refine h_app H 0 rfl info_u8 Tryz.underlying23 rfl rfl rfl rfl (H.cellRd 0 rfl) rfl rfl (by show ((lowS ((bl s).take i)).length + 1) * 1 ≤ _; omega) (fun v w_ hv H => ?_)
        obtain ⟨A', c', rfl⟩ := hv
        have H := H.pick [] [0] (by decide) (by decide) rfl rfl
        repeat' (first | (first | (with_reducible refine p_tn ?_) | (with_reducible refine p_bn ?_) | (with_reducible refine w_reg ?_)) | (first | (with_reducible refine l_nil ?_) | ((with_reducible refine g_on ?_); (first | ((with_reducible refine g_mv ?_); refine l_p txs rfl rfl ?_) | ((with_reducible refine g_as ?_); refine l_p txs rfl rfl ?_) | ((with_reducible refine g_bi ?_); (refine l_a txs rfl rfl (by first | exact in_i64 (by omega) (by omega) | exact in_u8 (by omega) (by omega) | exact in_u64 (by omega) (by omega) | exact in_i32 (by omega) (by omega)) ?_))))))
        refine ⟨(i + 1, A', c'), _, rfl, ⟨rfl, ?_, rfl, trivial⟩, ⟨?_, by show i + 1 ≤ _; omega⟩, by show _ - (i + 1) < _ - i; omega⟩
        · show Value.slice A' ((lowS ((bl s).take i)).length + 1) c' = Value.slice A' (lowS ((bl s).take (i + 1))).length c'
          rw [hl1]
        · show Hp w _ [] [rowB (.slice A' (lowS ((bl s).take (i + 1))).length c') (lowS ((bl s).take (i + 1)))]
          unfold rowB
          rw [hl1, hlow, hxe, nums_append]
          exact H
    · have hxe : lowB x = x := if_neg (by omega)
      repeat' (first | (first | (with_reducible refine p_tn ?_) | (with_reducible refine w_reg ?_) | (with_reducible (refine is_if ?_; (refine w_iff rfl ?_))) | (with_reducible refine wp_skip ?_)) | (first | (with_reducible refine l_nil ?_) | ((with_reducible refine g_on ?_); (first | ((with_reducible refine g_mv ?_); refine l_p txs rfl rfl ?_) | ((with_reducible refine g_pk ?_); refine l_p txs rfl rfl ?_))) | ((with_reducible refine g_if ?_); (refine l_off rfl ?_))))
      (with_reducible refine is_l ?_); refine h_bs H info_u8 Tryz.underlying23 (by decide) (by decide) rfl rfl (by kernel_rfl) (fun g_ w_ H => ?_)
      (with_reducible refine is_l ?_); refine h_app H 0 rfl info_u8 Tryz.underlying23 rfl rfl rfl rfl (H.cellRd 0 rfl) rfl rfl (by show ((lowS ((bl s).take i)).length + 1) * 1 ≤ _; omega) (fun v w_ hv H => ?_)
      obtain ⟨A', c', rfl⟩ := hv
      have H := H.pick [] [0] (by decide) (by decide) rfl rfl
      repeat' (first | (first | (with_reducible refine p_tn ?_) | (with_reducible refine p_bn ?_) | (with_reducible refine w_reg ?_)) | (first | (with_reducible refine l_nil ?_) | ((with_reducible refine g_on ?_); (first | ((with_reducible refine g_mv ?_); refine l_p txs rfl rfl ?_) | ((with_reducible refine g_as ?_); refine l_p txs rfl rfl ?_) | ((with_reducible refine g_bi ?_); (refine l_a txs rfl rfl (by first | exact in_i64 (by omega) (by omega) | exact in_u8 (by omega) (by omega) | exact in_u64 (by omega) (by omega) | exact in_i32 (by omega) (by omega)) ?_))))))
      refine ⟨(i + 1, A', c'), _, rfl, ⟨rfl, ?_, rfl, trivial⟩, ⟨?_, by show i + 1 ≤ _; omega⟩, by show _ - (i + 1) < _ - i; omega⟩
      · show Value.slice A' ((lowS ((bl s).take i)).length + 1) c' = Value.slice A' (lowS ((bl s).take (i + 1))).length c'
        rw [hl1]
      · show Hp w _ [] [rowB (.slice A' (lowS ((bl s).take (i + 1))).length c') (lowS ((bl s).take (i + 1)))]
        unfold rowB
        rw [hl1, hlow, hxe, nums_append]
        exact H
  · have hall : (bl s).take i = bl s := List.take_of_length_le (by omega)
    simp only [hall] at H ⊢
    repeat' (first | (first | (with_reducible refine p_tn ?_) | (with_reducible refine p_tx ?_) | (with_reducible refine x_hit ?_) | (with_reducible refine wp_seq ?_) | (with_reducible refine w_reg ?_) | (with_reducible (refine is_if ?_; (refine w_iff rfl ?_))) | (with_reducible refine wp_exit ?_)) | (first | (with_reducible refine l_nil ?_) | ((with_reducible refine g_on ?_); ((with_reducible refine g_mv ?_); refine l_p txs rfl rfl ?_))))
    (with_reducible refine is_l ?_); refine l_text rfl rfl Tryz.underlying23 Tryz.underlying5 Tryz.underlying9 (rowB_rd H 0 (F := A2) (f := c2) (x := lowS (bl s)) rfl).1 ?_
    repeat' (first | (first | (with_reducible refine p_tn ?_) | (with_reducible refine wp_ret ?_)) | (first | (with_reducible refine l_nil ?_) | ((with_reducible refine g_on ?_); ((with_reducible refine g_as ?_); refine l_p txs rfl rfl ?_))))
    refine end1 rfl rfl ?_
    exact ⟨rfl, H.B⟩
theorem drop_blk {x : Int} {r : L} (h : blkB x = true) : (x :: r).dropWhile blkB = r.dropWhile blkB := by rw [List.dropWhile_cons, if_pos h]
theorem drop_nblk {x : Int} {r : L} (h : blkB x = false) : (x :: r).dropWhile blkB = x :: r := by rw [List.dropWhile_cons, if_neg (by rw [h]; decide)]
theorem trimR_blk {x : Int} {r : L} (h : blkB x = true) : trimR (r ++ [x]) = trimR r := by unfold trimR; rw [List.reverse_append]; show ((x :: r.reverse).dropWhile blkB).reverse = _; rw [drop_blk h]
theorem trimR_nblk {x : Int} {r : L} (h : blkB x = false) : trimR (r ++ [x]) = r ++ [x] := by unfold trimR; rw [List.reverse_append]; show ((x :: r.reverse).dropWhile blkB).reverse = _; rw [drop_nblk h]; simp
theorem cons_of {l : L} {x : Int} (h : l[0]? = some x) : l = x :: l.drop 1 := by cases l with
  | nil => simp at h
  | cons a r => simp at h; subst h; rfl
theorem snoc_of {l : L} {x : Int} {k : Nat} (h : l[k]? = some x) (hk : l.length = k + 1) : l = l.take k ++ [x] := by
  have h2 := List.take_succ_eq_append_getElem (l := l) (i := k) (by omega)
  rw [List.take_of_length_le (by omega)] at h2
  have hx : l[k] = x := (List.getElem?_eq_some_iff.1 h).2
  rw [hx] at h2
  exact h2
set_option maxHeartbeats 4000000 in
theorem trimmed_c (s : ByteArray) (w : World) (hs : s.size ≤ 1000000000) : Calls Tryz.prog 56 #[.string s] w fun e w' => e = .returned (.string (strOfNums (trimS (bl s)))) ∧ Below w.heap.size w w' := by
  refine enter (args := [.string s]) Tryz.func56 rfl Tryz.ntmps56 rfl ?_
  have H := Hp.nil w
  repeat' (first | (first | (with_reducible refine p_tn ?_) | (with_reducible refine wp_seq ?_) | (with_reducible refine wp_block ?_) | (with_reducible refine w_reg ?_)) | (first | (with_reducible refine l_nil ?_) | ((with_reducible refine g_on ?_); ((with_reducible refine g_as ?_); refine l_p txs rfl rfl ?_))))
  refine w_loop (σ := ByteArray) (S := fun u => [(0, .string u)]) (J := fun u w' => Hp w w' [] [] ∧ (bl s).dropWhile blkB = (bl u).dropWhile blkB ∧ u.size ≤ s.size) (μ := fun u => u.size) s ⟨rfl, trivial⟩ ⟨H, rfl, Nat.le_refl _⟩ ?_
  rintro u f w_ ⟨H, hd, hu⟩
  have hbl := bl_length u
  have cut : ∀ x, (bl u)[0]? = some x → blkB x = true → (bl s).dropWhile blkB = (bl (u.extract 1 u.size)).dropWhile blkB ∧ (u.extract 1 u.size).size < u.size := by
    intro x hx hb
    have h1 := cons_of hx
    have h2 : 0 < u.size := by have := (List.getElem?_eq_some_iff.1 hx).1; omega
    have h3 : bl (u.extract 1 u.size) = (bl u).drop 1 := by rw [blE, List.take_of_length_le (by rw [List.length_drop]; omega)]
    refine ⟨?_, ?_⟩
    · rw [hd, h3, h1, drop_blk hb]; rfl
    · rw [← bl_length, h3, List.length_drop]; omega
  have done : (∀ x, (bl u)[0]? = some x → blkB x = false) → (bl s).dropWhile blkB = bl u := by
    intro h
    cases hl : bl u with
    | nil => rw [hd, hl]; rfl
    | cons x r => rw [hd, hl]; exact drop_nblk (h x (by rw [hl]; rfl))
  repeat' (first | (first | (with_reducible refine wp_seq ?_) | (with_reducible refine w_reg ?_)) | ((with_reducible refine g_on ?_); (first | ((with_reducible refine g_mv ?_); refine l_p txs rfl rfl ?_) | ((with_reducible refine g_cl ?_); refine l_p txs rfl rfl ?_))))
  (with_reducible refine is_l ?_); refine l_t txs rfl rfl (fun hlt => ?_) (fun hge => ?_)
  · obtain ⟨x, hx⟩ : ∃ x, (bl u)[0]? = some x := ⟨_, List.getElem?_eq_getElem (by omega)⟩
    have hx2 := bl_bytes u x (List.mem_of_getElem? hx)
    have hat : at_ (bl u) 0 = x := by show (bl u).getD 0 0 = x; rw [List.getD_eq_getElem?_getD, hx]; rfl
    repeat' (first | ((with_reducible refine g_on ?_); ((with_reducible refine g_mv ?_); refine l_p txs rfl rfl ?_)) | ((with_reducible refine g_if ?_); (first | ((with_reducible refine g_mv ?_); refine l_p txs rfl rfl ?_) | ((with_reducible refine g_ix ?_); refine l_ix txs rfl rfl (by first | omega | assumption | decide) (by first | omega | assumption | decide) ?_))))
    rw [hat]
    skip
    (with_reducible refine is_l ?_); refine l_t txs rfl rfl (fun h1 => ?_) (fun h1 => ?_)
    · obtain ⟨k1, k2⟩ := cut x hx (by unfold blkB; rw [h1]; rfl)
      repeat' (first | (first | (with_reducible refine p_tn ?_) | (with_reducible refine p_bn ?_) | (with_reducible refine wp_block ?_) | (with_reducible refine w_reg ?_) | (with_reducible (refine is_if ?_; (refine w_ift rfl ?_))) | (with_reducible refine wp_skip ?_)) | (first | (with_reducible refine l_nil ?_) | ((with_reducible refine g_on ?_); (first | ((with_reducible refine g_mv ?_); refine l_p txs rfl rfl ?_) | ((with_reducible refine g_as ?_); refine l_p txs rfl rfl ?_) | ((with_reducible refine g_pk ?_); refine l_p txs rfl rfl ?_) | ((with_reducible refine g_sl ?_); refine l_sl txs rfl rfl (by first | omega | assumption | decide) (by first | omega | assumption | decide) (by first | omega | assumption | decide) ?_))) | ((with_reducible refine g_if ?_); (first | (refine l_off rfl ?_) | (first | ((with_reducible refine g_mv ?_); refine l_p txs rfl rfl ?_) | ((with_reducible refine g_pk ?_); refine l_p txs rfl rfl ?_))))))
      exact ⟨u.extract 1 u.size, _, rfl, ⟨rfl, trivial⟩, ⟨H, k1, by omega⟩, k2⟩
    · repeat' ((with_reducible refine g_if ?_); (first | ((with_reducible refine g_mv ?_); refine l_p txs rfl rfl ?_) | ((with_reducible refine g_ix ?_); refine l_ix txs rfl rfl (by first | omega | assumption | decide) (by first | omega | assumption | decide) ?_)))
      rw [hat]
      skip
      (with_reducible refine is_l ?_); refine l_t txs rfl rfl (fun h2 => ?_) (fun h2 => ?_)
      · obtain ⟨k1, k2⟩ := cut x hx (by unfold blkB; rw [h2]; rfl)
        repeat' (first | (first | (with_reducible refine p_tn ?_) | (with_reducible refine p_bn ?_) | (with_reducible refine wp_block ?_) | (with_reducible refine w_reg ?_) | (with_reducible (refine is_if ?_; (refine w_ift rfl ?_))) | (with_reducible refine wp_skip ?_)) | (first | (with_reducible refine l_nil ?_) | ((with_reducible refine g_on ?_); (first | ((with_reducible refine g_mv ?_); refine l_p txs rfl rfl ?_) | ((with_reducible refine g_as ?_); refine l_p txs rfl rfl ?_) | ((with_reducible refine g_pk ?_); refine l_p txs rfl rfl ?_) | ((with_reducible refine g_sl ?_); refine l_sl txs rfl rfl (by first | omega | assumption | decide) (by first | omega | assumption | decide) (by first | omega | assumption | decide) ?_))) | ((with_reducible refine g_if ?_); ((with_reducible refine g_pk ?_); refine l_p txs rfl rfl ?_))))
        exact ⟨u.extract 1 u.size, _, rfl, ⟨rfl, trivial⟩, ⟨H, k1, by omega⟩, k2⟩
      · have hdu := done (fun y hy => by rw [hx] at hy; injection hy with hy; subst hy; unfold blkB; simp [h1, h2])
        repeat' (first | (first | (with_reducible refine p_tn ?_) | (with_reducible refine p_tx ?_) | (with_reducible refine x_hit ?_) | (with_reducible refine wp_seq ?_) | (with_reducible refine wp_block ?_) | (with_reducible (refine is_if ?_; (refine w_iff rfl ?_))) | (with_reducible refine wp_exit ?_)) | (first | (with_reducible refine l_nil ?_) | ((with_reducible refine g_on ?_); ((with_reducible refine g_pk ?_); refine l_p txs rfl rfl ?_)) | ((with_reducible refine g_if ?_); ((with_reducible refine g_pk ?_); refine l_p txs rfl rfl ?_))))
        refine w_loop (σ := ByteArray) (S := fun v => [(0, .string v)]) (J := fun v w' => Hp w w' [] [] ∧ trimR (bl u) = trimR (bl v) ∧ v.size ≤ u.size) (μ := fun v => v.size) u ⟨rfl, trivial⟩ ⟨H, rfl, Nat.le_refl _⟩ ?_
        rintro v f w_ ⟨H, hv, hvu⟩
        have hvl := bl_length v
        have cut2 : ∀ x, (bl v)[v.size - 1]? = some x → blkB x = true → trimR (bl u) = trimR (bl (v.extract 0 (v.size - 1))) ∧ (v.extract 0 (v.size - 1)).size < v.size := by
          intro x hx hb
          have h2 : v.size - 1 < (bl v).length := (List.getElem?_eq_some_iff.1 hx).1
          have h1 := snoc_of hx (by omega)
          have h3 : bl (v.extract 0 (v.size - 1)) = (bl v).take (v.size - 1) := by rw [blE]; simp
          refine ⟨?_, ?_⟩
          · rw [hv, h3]
            conv => lhs; rw [h1]
            exact trimR_blk hb
          · rw [← bl_length, h3, List.length_take]; omega
        have done2 : (∀ x, (bl v)[v.size - 1]? = some x → blkB x = false) → Value.string v = Value.string (strOfNums (trimS (bl s))) := by
          intro h
          unfold trimS
          rw [hdu, hv]
          have : trimR (bl v) = bl v := by
            cases hz : v.size with
            | zero => have : bl v = [] := List.length_eq_zero_iff.1 (by omega); rw [this]; rfl
            | succ k =>
              have hx : (bl v)[k]? = some (bl v)[k] := List.getElem?_eq_getElem (by omega)
              have h1 := snoc_of hx (by omega)
              rw [h1]
              exact trimR_nblk (h _ (by rw [hz]; exact hx))
          rw [this, strS]
        repeat' (first | (first | (with_reducible refine wp_seq ?_) | (with_reducible refine w_reg ?_)) | ((with_reducible refine g_on ?_); (first | ((with_reducible refine g_mv ?_); refine l_p txs rfl rfl ?_) | ((with_reducible refine g_cl ?_); refine l_p txs rfl rfl ?_))))
        (with_reducible refine is_l ?_); refine l_t txs rfl rfl (fun hlt => ?_) (fun hge => ?_)
        · obtain ⟨x, hx⟩ : ∃ x, (bl v)[v.size - 1]? = some x := ⟨_, List.getElem?_eq_getElem (by omega)⟩
          have hx2 := bl_bytes v x (List.mem_of_getElem? hx)
          have hat : at_ (bl v) ((v.size : Int) - 1) = x := by unfold at_; rw [show ((v.size : Int) - 1).toNat = v.size - 1 by omega, List.getD_eq_getElem?_getD, hx]; rfl
          have hto : ((v.size : Int) - 1).toNat = v.size - 1 := by omega
          repeat' (first | ((with_reducible refine g_on ?_); ((with_reducible refine g_mv ?_); refine l_p txs rfl rfl ?_)) | ((with_reducible refine g_if ?_); (first | ((with_reducible refine g_mv ?_); refine l_p txs rfl rfl ?_) | ((with_reducible refine g_cl ?_); refine l_p txs rfl rfl ?_) | ((with_reducible refine g_ix ?_); refine l_ix txs rfl rfl (by first | omega | assumption | decide) (by first | omega | assumption | decide) ?_) | ((with_reducible refine g_bi ?_); (refine l_a txs rfl rfl (by first | exact in_i64 (by omega) (by omega) | exact in_u8 (by omega) (by omega) | exact in_u64 (by omega) (by omega) | exact in_i32 (by omega) (by omega)) ?_)))))
          rw [hat]
          skip
          (with_reducible refine is_l ?_); refine l_t txs rfl rfl (fun h1 => ?_) (fun h1 => ?_)
          · obtain ⟨k1, k2⟩ := cut2 x hx (by unfold blkB; rw [h1]; rfl)
            repeat' (first | (first | (with_reducible refine p_tn ?_) | (with_reducible refine p_bn ?_) | (with_reducible refine wp_block ?_) | (with_reducible refine w_reg ?_) | (with_reducible (refine is_if ?_; (refine w_ift rfl ?_))) | (with_reducible refine wp_skip ?_)) | (first | (with_reducible refine l_nil ?_) | ((with_reducible refine g_on ?_); (first | ((with_reducible refine g_mv ?_); refine l_p txs rfl rfl ?_) | ((with_reducible refine g_as ?_); refine l_p txs rfl rfl ?_) | ((with_reducible refine g_pk ?_); refine l_p txs rfl rfl ?_) | ((with_reducible refine g_cl ?_); refine l_p txs rfl rfl ?_) | ((with_reducible refine g_sl ?_); refine l_sl txs rfl rfl (by first | omega | assumption | decide) (by first | omega | assumption | decide) (by first | omega | assumption | decide) ?_) | ((with_reducible refine g_bi ?_); (refine l_a txs rfl rfl (by first | exact in_i64 (by omega) (by omega) | exact in_u8 (by omega) (by omega) | exact in_u64 (by omega) (by omega) | exact in_i32 (by omega) (by omega)) ?_)))) | ((with_reducible refine g_if ?_); (first | (refine l_off rfl ?_) | (first | ((with_reducible refine g_mv ?_); refine l_p txs rfl rfl ?_) | ((with_reducible refine g_pk ?_); refine l_p txs rfl rfl ?_))))))
            exact ⟨v.extract 0 (v.size - 1), _, rfl, ⟨by show Value.string (v.extract _ _) = _; rw [hto]; rfl, trivial⟩, ⟨H, k1, by omega⟩, k2⟩
          · repeat' ((with_reducible refine g_if ?_); (first | ((with_reducible refine g_mv ?_); refine l_p txs rfl rfl ?_) | ((with_reducible refine g_cl ?_); refine l_p txs rfl rfl ?_) | ((with_reducible refine g_ix ?_); refine l_ix txs rfl rfl (by first | omega | assumption | decide) (by first | omega | assumption | decide) ?_) | ((with_reducible refine g_bi ?_); (refine l_a txs rfl rfl (by first | exact in_i64 (by omega) (by omega) | exact in_u8 (by omega) (by omega) | exact in_u64 (by omega) (by omega) | exact in_i32 (by omega) (by omega)) ?_))))
            rw [hat]
            skip
            (with_reducible refine is_l ?_); refine l_t txs rfl rfl (fun h2 => ?_) (fun h2 => ?_)
            · obtain ⟨k1, k2⟩ := cut2 x hx (by unfold blkB; rw [h2]; rfl)
              repeat' (first | (first | (with_reducible refine p_tn ?_) | (with_reducible refine p_bn ?_) | (with_reducible refine wp_block ?_) | (with_reducible refine w_reg ?_) | (with_reducible (refine is_if ?_; (refine w_ift rfl ?_))) | (with_reducible refine wp_skip ?_)) | (first | (with_reducible refine l_nil ?_) | ((with_reducible refine g_on ?_); (first | ((with_reducible refine g_mv ?_); refine l_p txs rfl rfl ?_) | ((with_reducible refine g_as ?_); refine l_p txs rfl rfl ?_) | ((with_reducible refine g_pk ?_); refine l_p txs rfl rfl ?_) | ((with_reducible refine g_cl ?_); refine l_p txs rfl rfl ?_) | ((with_reducible refine g_sl ?_); refine l_sl txs rfl rfl (by first | omega | assumption | decide) (by first | omega | assumption | decide) (by first | omega | assumption | decide) ?_) | ((with_reducible refine g_bi ?_); (refine l_a txs rfl rfl (by first | exact in_i64 (by omega) (by omega) | exact in_u8 (by omega) (by omega) | exact in_u64 (by omega) (by omega) | exact in_i32 (by omega) (by omega)) ?_)))) | ((with_reducible refine g_if ?_); ((with_reducible refine g_pk ?_); refine l_p txs rfl rfl ?_))))
              exact ⟨v.extract 0 (v.size - 1), _, rfl, ⟨by show Value.string (v.extract _ _) = _; rw [hto]; rfl, trivial⟩, ⟨H, k1, by omega⟩, k2⟩
            · have he := done2 (fun y hy => by rw [hx] at hy; injection hy with hy; subst hy; unfold blkB; simp [h1, h2])
              repeat' (first | (first | (with_reducible refine p_tn ?_) | (with_reducible refine p_tx ?_) | (with_reducible refine x_hit ?_) | (with_reducible refine wp_seq ?_) | (with_reducible refine w_reg ?_) | (with_reducible (refine is_if ?_; (refine w_iff rfl ?_))) | (with_reducible refine wp_exit ?_) | (with_reducible refine wp_ret ?_)) | (first | (with_reducible refine l_nil ?_) | ((with_reducible refine g_on ?_); (first | ((with_reducible refine g_mv ?_); refine l_p txs rfl rfl ?_) | ((with_reducible refine g_as ?_); refine l_p txs rfl rfl ?_) | ((with_reducible refine g_pk ?_); refine l_p txs rfl rfl ?_))) | ((with_reducible refine g_if ?_); ((with_reducible refine g_pk ?_); refine l_p txs rfl rfl ?_))))
              refine end1 rfl rfl ?_
              exact ⟨by rw [he], H.B⟩
        · have he := done2 (fun y hy => by rw [List.getElem?_eq_none (by omega)] at hy; cases hy)
          repeat' (first | (first | (with_reducible refine p_tn ?_) | (with_reducible refine p_tx ?_) | (with_reducible refine x_hit ?_) | (with_reducible refine wp_seq ?_) | (with_reducible refine w_reg ?_) | (with_reducible (refine is_if ?_; (refine w_iff rfl ?_))) | (with_reducible refine wp_exit ?_) | (with_reducible refine wp_ret ?_)) | (first | (with_reducible refine l_nil ?_) | ((with_reducible refine g_on ?_); (first | ((with_reducible refine g_mv ?_); refine l_p txs rfl rfl ?_) | ((with_reducible refine g_as ?_); refine l_p txs rfl rfl ?_) | ((with_reducible refine g_pk ?_); refine l_p txs rfl rfl ?_))) | ((with_reducible refine g_if ?_); (refine l_off rfl ?_))))
          refine end1 rfl rfl ?_
          exact ⟨by rw [he], H.B⟩
  · have hdu := done (fun y hy => by rw [List.getElem?_eq_none (by omega)] at hy; cases hy)
    repeat' (first | (first | (with_reducible refine p_tn ?_) | (with_reducible refine p_tx ?_) | (with_reducible refine x_hit ?_) | (with_reducible refine wp_seq ?_) | (with_reducible refine wp_block ?_) | (with_reducible (refine is_if ?_; (refine w_iff rfl ?_))) | (with_reducible refine wp_exit ?_)) | (first | (with_reducible refine l_nil ?_) | ((with_reducible refine g_on ?_); (first | ((with_reducible refine g_mv ?_); refine l_p txs rfl rfl ?_) | ((with_reducible refine g_pk ?_); refine l_p txs rfl rfl ?_))) | ((with_reducible refine g_if ?_); (refine l_off rfl ?_))))
    refine w_loop (σ := ByteArray) (S := fun v => [(0, .string v)]) (J := fun v w' => Hp w w' [] [] ∧ trimR (bl u) = trimR (bl v) ∧ v.size ≤ u.size) (μ := fun v => v.size) u ⟨rfl, trivial⟩ ⟨H, rfl, Nat.le_refl _⟩ ?_
    rintro v f w_ ⟨H, hv, hvu⟩
    have hvl := bl_length v
    have cut2 : ∀ x, (bl v)[v.size - 1]? = some x → blkB x = true → trimR (bl u) = trimR (bl (v.extract 0 (v.size - 1))) ∧ (v.extract 0 (v.size - 1)).size < v.size := by
      intro x hx hb
      have h2 : v.size - 1 < (bl v).length := (List.getElem?_eq_some_iff.1 hx).1
      have h1 := snoc_of hx (by omega)
      have h3 : bl (v.extract 0 (v.size - 1)) = (bl v).take (v.size - 1) := by rw [blE]; simp
      refine ⟨?_, ?_⟩
      · rw [hv, h3]
        conv => lhs; rw [h1]
        exact trimR_blk hb
      · rw [← bl_length, h3, List.length_take]; omega
    have done2 : (∀ x, (bl v)[v.size - 1]? = some x → blkB x = false) → Value.string v = Value.string (strOfNums (trimS (bl s))) := by
      intro h
      unfold trimS
      rw [hdu, hv]
      have : trimR (bl v) = bl v := by
        cases hz : v.size with
        | zero => have : bl v = [] := List.length_eq_zero_iff.1 (by omega); rw [this]; rfl
        | succ k =>
          have hx : (bl v)[k]? = some (bl v)[k] := List.getElem?_eq_getElem (by omega)
          have h1 := snoc_of hx (by omega)
          rw [h1]
          exact trimR_nblk (h _ (by rw [hz]; exact hx))
      rw [this, strS]
    repeat' (first | (first | (with_reducible refine wp_seq ?_) | (with_reducible refine w_reg ?_)) | ((with_reducible refine g_on ?_); (first | ((with_reducible refine g_mv ?_); refine l_p txs rfl rfl ?_) | ((with_reducible refine g_cl ?_); refine l_p txs rfl rfl ?_))))
    (with_reducible refine is_l ?_); refine l_t txs rfl rfl (fun hlt => ?_) (fun hge => ?_)
    · obtain ⟨x, hx⟩ : ∃ x, (bl v)[v.size - 1]? = some x := ⟨_, List.getElem?_eq_getElem (by omega)⟩
      have hx2 := bl_bytes v x (List.mem_of_getElem? hx)
      have hat : at_ (bl v) ((v.size : Int) - 1) = x := by unfold at_; rw [show ((v.size : Int) - 1).toNat = v.size - 1 by omega, List.getD_eq_getElem?_getD, hx]; rfl
      have hto : ((v.size : Int) - 1).toNat = v.size - 1 := by omega
      repeat' (first | ((with_reducible refine g_on ?_); ((with_reducible refine g_mv ?_); refine l_p txs rfl rfl ?_)) | ((with_reducible refine g_if ?_); (first | ((with_reducible refine g_mv ?_); refine l_p txs rfl rfl ?_) | ((with_reducible refine g_cl ?_); refine l_p txs rfl rfl ?_) | ((with_reducible refine g_ix ?_); refine l_ix txs rfl rfl (by first | omega | assumption | decide) (by first | omega | assumption | decide) ?_) | ((with_reducible refine g_bi ?_); (refine l_a txs rfl rfl (by first | exact in_i64 (by omega) (by omega) | exact in_u8 (by omega) (by omega) | exact in_u64 (by omega) (by omega) | exact in_i32 (by omega) (by omega)) ?_)))))
      rw [hat]
      skip
      (with_reducible refine is_l ?_); refine l_t txs rfl rfl (fun h1 => ?_) (fun h1 => ?_)
      · obtain ⟨k1, k2⟩ := cut2 x hx (by unfold blkB; rw [h1]; rfl)
        repeat' (first | (first | (with_reducible refine p_tn ?_) | (with_reducible refine p_bn ?_) | (with_reducible refine wp_block ?_) | (with_reducible refine w_reg ?_) | (with_reducible (refine is_if ?_; (refine w_ift rfl ?_))) | (with_reducible refine wp_skip ?_)) | (first | (with_reducible refine l_nil ?_) | ((with_reducible refine g_on ?_); (first | ((with_reducible refine g_mv ?_); refine l_p txs rfl rfl ?_) | ((with_reducible refine g_as ?_); refine l_p txs rfl rfl ?_) | ((with_reducible refine g_pk ?_); refine l_p txs rfl rfl ?_) | ((with_reducible refine g_cl ?_); refine l_p txs rfl rfl ?_) | ((with_reducible refine g_sl ?_); refine l_sl txs rfl rfl (by first | omega | assumption | decide) (by first | omega | assumption | decide) (by first | omega | assumption | decide) ?_) | ((with_reducible refine g_bi ?_); (refine l_a txs rfl rfl (by first | exact in_i64 (by omega) (by omega) | exact in_u8 (by omega) (by omega) | exact in_u64 (by omega) (by omega) | exact in_i32 (by omega) (by omega)) ?_)))) | ((with_reducible refine g_if ?_); (first | (refine l_off rfl ?_) | (first | ((with_reducible refine g_mv ?_); refine l_p txs rfl rfl ?_) | ((with_reducible refine g_pk ?_); refine l_p txs rfl rfl ?_))))))
        exact ⟨v.extract 0 (v.size - 1), _, rfl, ⟨by show Value.string (v.extract _ _) = _; rw [hto]; rfl, trivial⟩, ⟨H, k1, by omega⟩, k2⟩
      · repeat' ((with_reducible refine g_if ?_); (first | ((with_reducible refine g_mv ?_); refine l_p txs rfl rfl ?_) | ((with_reducible refine g_cl ?_); refine l_p txs rfl rfl ?_) | ((with_reducible refine g_ix ?_); refine l_ix txs rfl rfl (by first | omega | assumption | decide) (by first | omega | assumption | decide) ?_) | ((with_reducible refine g_bi ?_); (refine l_a txs rfl rfl (by first | exact in_i64 (by omega) (by omega) | exact in_u8 (by omega) (by omega) | exact in_u64 (by omega) (by omega) | exact in_i32 (by omega) (by omega)) ?_))))
        rw [hat]
        skip
        (with_reducible refine is_l ?_); refine l_t txs rfl rfl (fun h2 => ?_) (fun h2 => ?_)
        · obtain ⟨k1, k2⟩ := cut2 x hx (by unfold blkB; rw [h2]; rfl)
          repeat' (first | (first | (with_reducible refine p_tn ?_) | (with_reducible refine p_bn ?_) | (with_reducible refine wp_block ?_) | (with_reducible refine w_reg ?_) | (with_reducible (refine is_if ?_; (refine w_ift rfl ?_))) | (with_reducible refine wp_skip ?_)) | (first | (with_reducible refine l_nil ?_) | ((with_reducible refine g_on ?_); (first | ((with_reducible refine g_mv ?_); refine l_p txs rfl rfl ?_) | ((with_reducible refine g_as ?_); refine l_p txs rfl rfl ?_) | ((with_reducible refine g_pk ?_); refine l_p txs rfl rfl ?_) | ((with_reducible refine g_cl ?_); refine l_p txs rfl rfl ?_) | ((with_reducible refine g_sl ?_); refine l_sl txs rfl rfl (by first | omega | assumption | decide) (by first | omega | assumption | decide) (by first | omega | assumption | decide) ?_) | ((with_reducible refine g_bi ?_); (refine l_a txs rfl rfl (by first | exact in_i64 (by omega) (by omega) | exact in_u8 (by omega) (by omega) | exact in_u64 (by omega) (by omega) | exact in_i32 (by omega) (by omega)) ?_)))) | ((with_reducible refine g_if ?_); ((with_reducible refine g_pk ?_); refine l_p txs rfl rfl ?_))))
          exact ⟨v.extract 0 (v.size - 1), _, rfl, ⟨by show Value.string (v.extract _ _) = _; rw [hto]; rfl, trivial⟩, ⟨H, k1, by omega⟩, k2⟩
        · have he := done2 (fun y hy => by rw [hx] at hy; injection hy with hy; subst hy; unfold blkB; simp [h1, h2])
          repeat' (first | (first | (with_reducible refine p_tn ?_) | (with_reducible refine p_tx ?_) | (with_reducible refine x_hit ?_) | (with_reducible refine wp_seq ?_) | (with_reducible refine w_reg ?_) | (with_reducible (refine is_if ?_; (refine w_iff rfl ?_))) | (with_reducible refine wp_exit ?_) | (with_reducible refine wp_ret ?_)) | (first | (with_reducible refine l_nil ?_) | ((with_reducible refine g_on ?_); (first | ((with_reducible refine g_mv ?_); refine l_p txs rfl rfl ?_) | ((with_reducible refine g_as ?_); refine l_p txs rfl rfl ?_) | ((with_reducible refine g_pk ?_); refine l_p txs rfl rfl ?_))) | ((with_reducible refine g_if ?_); ((with_reducible refine g_pk ?_); refine l_p txs rfl rfl ?_))))
          refine end1 rfl rfl ?_
          exact ⟨by rw [he], H.B⟩
    · have he := done2 (fun y hy => by rw [List.getElem?_eq_none (by omega)] at hy; cases hy)
      repeat' (first | (first | (with_reducible refine p_tn ?_) | (with_reducible refine p_tx ?_) | (with_reducible refine x_hit ?_) | (with_reducible refine wp_seq ?_) | (with_reducible refine w_reg ?_) | (with_reducible (refine is_if ?_; (refine w_iff rfl ?_))) | (with_reducible refine wp_exit ?_) | (with_reducible refine wp_ret ?_)) | (first | (with_reducible refine l_nil ?_) | ((with_reducible refine g_on ?_); (first | ((with_reducible refine g_mv ?_); refine l_p txs rfl rfl ?_) | ((with_reducible refine g_as ?_); refine l_p txs rfl rfl ?_) | ((with_reducible refine g_pk ?_); refine l_p txs rfl rfl ?_))) | ((with_reducible refine g_if ?_); (refine l_off rfl ?_))))
      refine end1 rfl rfl ?_
      exact ⟨by rw [he], H.B⟩
/-- The fields that are told, and the length, if it is not negative. -/
def toldI (v : Int) : Option Nat := if 0 ≤ v then some v.toNat else none
theorem kept_printed (l : List Fld) : printedS l none = keptS l := by simp [printedS, keptS]
set_option maxHeartbeats 8000000 in
theorem told_c {w : World} (hP : TabP w) {B : Option Addr} {c : Nat} {l : List Fld} (h : Rd w B (fldC l)) (hb : BytesF l) (hl : l.length ≤ 10000000) (v : Int) (hv : v ≤ 9223372036854775807) :
    Calls Tryz.prog 18 #[.slice B l.length c, .int .i64 v] w fun e w' => ∃ A1 c1, e = .returned (.slice A1 (printedS l (toldI v)).length c1) ∧ Hp w w' [] [rowF (.slice A1 (printedS l (toldI v)).length c1) (printedS l (toldI v))] := by
  refine enter (args := [.slice B l.length c, .int .i64 v]) Tryz.func18 rfl Tryz.ntmps18 rfl ?_
  have H := (Hp.nil w).nilRow 95 2
  repeat' (first | (first | (with_reducible refine p_tn ?_) | (with_reducible refine wp_seq ?_) | (with_reducible refine wp_block ?_) | (with_reducible refine w_reg ?_)) | (first | (with_reducible refine l_nil ?_) | ((with_reducible refine g_on ?_); ((with_reducible refine g_as ?_); refine l_p txs rfl rfl ?_))))
  refine w_loop (σ := Nat × Option Addr × Nat) (S := fun s => [(0, .slice B l.length c), (1, .int .i64 v), (5, .slice s.2.1 (keptS (l.take s.1)).length s.2.2), (6, .int .i64 (s.1 : Int))])
    (J := fun s w' => Hp w w' [] [rowF (.slice s.2.1 (keptS (l.take s.1)).length s.2.2) (keptS (l.take s.1))] ∧ s.1 ≤ l.length) (μ := fun s => l.length - s.1) (0, none, 0) ⟨rfl, rfl, rfl, rfl, trivial⟩ ⟨H, by omega⟩ ?_
  rintro ⟨i, A2, c2⟩ f w_ ⟨H, hi⟩
  simp only at H hi ⊢
  repeat' (first | (first | (with_reducible refine wp_seq ?_) | (with_reducible refine w_reg ?_)) | ((with_reducible refine g_on ?_); (first | ((with_reducible refine g_mv ?_); refine l_p txs rfl rfl ?_) | ((with_reducible refine g_cl ?_); refine l_p txs rfl rfl ?_))))
  (with_reducible refine is_l ?_); refine l_t txs rfl rfl (fun hlt => ?_) (fun hge => ?_)
  · obtain ⟨x, hx⟩ : ∃ x, l[i]? = some x := ⟨_, List.getElem?_eq_getElem (by omega)⟩
    obtain ⟨a1, rfl⟩ := rd_some h (i := i) (by omega)
    obtain ⟨bx1, bx2, lx1, lx2⟩ := hb x (List.mem_of_getElem? hx)
    have zx1 := sizeS' bx1
    have zx2 := sizeS' bx2
    have hkt := kept_take hx
    have hkl := kept_len (l.take i)
    rw [List.length_take_of_le (by omega)] at hkl
    have hc1 := fld_part h hx 0 _ rfl
    have hc2 := fld_part h hx 1 _ rfl
    repeat' (first | (first | (with_reducible refine p_tn ?_) | (with_reducible refine wp_seq ?_) | (with_reducible refine wp_block ?_) | (with_reducible refine w_reg ?_) | (with_reducible (refine is_if ?_; (refine w_ift rfl ?_))) | (with_reducible refine wp_skip ?_)) | (first | (with_reducible refine l_nil ?_) | ((with_reducible refine g_on ?_); (first | ((with_reducible refine g_mv ?_); refine l_p txs rfl rfl ?_) | ((with_reducible refine g_ia ?_); refine l_ia txs rfl rfl (by first | omega | assumption | decide) (by first | omega | assumption | decide) ?_)))))
    (with_reducible refine is_l ?_); refine h_fg flds rfl rfl ?_
    (with_reducible refine is_l ?_); refine l_ld txs rfl rfl (by rw [Int.toNat_natCast]; exact H.old hc1) ?_
    skip
    have hlow := lower14_c (strOfNums x.1) w_ (by omega)
    rw [blS bx1] at hlow
    (with_reducible refine is_l ?_); refine l_callv rfl rfl (by kernel_rfl) hlow (fun w_ K => ?_)
    have H := H.call K
    repeat' (first | (first | (with_reducible refine p_tn ?_) | (with_reducible refine wp_seq ?_) | (with_reducible refine w_reg ?_)) | (first | (with_reducible refine l_nil ?_) | ((with_reducible refine g_on ?_); (first | ((with_reducible refine g_mv ?_); refine l_p txs rfl rfl ?_) | ((with_reducible refine g_as ?_); refine l_p txs rfl rfl ?_)))))
    have e1 := blS (bytes_low bx1)
    have e2 : bl (⟨#[99, 111, 110, 116, 101, 110, 116, 45, 108, 101, 110, 103, 116, 104]⟩ : ByteArray) = nLen := by kernel_rfl
    have e3 : bl (⟨#[116, 114, 97, 110, 115, 102, 101, 114, 45, 101, 110, 99, 111, 100, 105, 110, 103]⟩ : ByteArray) = nCode := by kernel_rfl
    have skip : keptF x = false → Hp w w_ [] [rowF (.slice A2 (keptS (l.take (i + 1))).length c2) (keptS (l.take (i + 1)))] ∧ Value.slice A2 (keptS (l.take i)).length c2 = Value.slice A2 (keptS (l.take (i + 1))).length c2 := fun hf => by
      rw [hkt, hf]
      simp only [Bool.false_eq_true, if_false, List.append_nil]
      exact ⟨H.pick [] [0] (by decide) (by decide) rfl rfl, trivial⟩
    (with_reducible refine is_l ?_); refine l_t txs rfl rfl (fun h1 => ?_) (fun h1 => ?_)
    · rw [e1, e2] at h1
      repeat' (first | ((with_reducible refine g_on ?_); ((with_reducible refine g_mv ?_); refine l_p txs rfl rfl ?_)) | ((with_reducible refine g_if ?_); ((with_reducible refine g_mv ?_); refine l_p txs rfl rfl ?_)))
      (with_reducible refine is_l ?_); refine l_t txs rfl rfl (fun h2 => ?_) (fun h2 => ?_)
      · rw [e1, e3] at h2
        have hf : keptF x = true := by
          unfold keptF
          simp [h1, h2]
        rw [hf, if_pos rfl] at hkt
        have htr := fun w1 => trimmed_c (strOfNums x.2) w1 (by omega)
        rw [blS bx2] at htr
        repeat' (first | (first | (with_reducible refine p_tn ?_) | (with_reducible (refine is_if ?_; (refine w_ift rfl ?_)))) | (first | (with_reducible refine l_nil ?_) | ((with_reducible refine g_on ?_); ((with_reducible refine g_pk ?_); refine l_p txs rfl rfl ?_))))
        have HS := H.pick [] [] (by decide) (by decide) rfl rfl
        refine d_start (fun w_ => Hp w w_ _ _) #[false, false, false, false, false, false, false, false, false, false, false, false, false, false, false, false] (by kernel_rfl) rfl rfl HS.drew ?_
        have H := H.drew
        have HS := HS.drew
        first | (refine d_pure (i := 0) #[true, false, false, false, false, false, false, false, false, false, false, false, false, false, false, false] rfl (by kernel_rfl) (fun _ _ _ h => h) rfl (fun w_ => evP_run (o := ⟨_, _, _, _, _, _⟩) txs rfl) ?_)
        first | (refine d_pure (i := 1) #[true, true, false, false, false, false, false, false, false, false, false, false, false, false, false, false] rfl (by kernel_rfl) (fun _ _ _ h => h) rfl (fun w_ => evP_run (o := ⟨_, _, _, _, _, _⟩) txs rfl) ?_)
        first | (refine d_pure (i := 2) #[true, true, true, false, false, false, false, false, false, false, false, false, false, false, false, false] rfl (by kernel_rfl) (fun _ _ _ h => h) rfl (fun w_ => evP_run (o := ⟨_, _, _, _, _, _⟩) txs rfl) ?_)
        first | (refine d_pure (i := 3) #[true, true, true, true, false, false, false, false, false, false, false, false, false, false, false, false] rfl (by kernel_rfl) (fun _ _ _ h => h) rfl (fun w_ => evIA_run (o := ⟨_, _, _, _, _, _⟩) txs rfl (by omega) (by omega)) ?_)
        first | (refine d_pure (i := 4) #[true, true, true, true, true, false, false, false, false, false, false, false, false, false, false, false] rfl (by kernel_rfl) (fun _ _ _ h => h) rfl (fun w_ => evF_run (o := ⟨_, _, _, _, _, _⟩) flds rfl) ?_) | (refine d_pure (i := 4) #[true, true, true, true, true, false, false, false, false, false, false, false, false, false, false, false] rfl (by kernel_rfl) (fun _ _ _ h => h) rfl (fun w_ => evG_run (o := ⟨_, _, _, _, _, _⟩) flds rfl) ?_)
        first | (refine d_take (i := 5) #[true, true, true, true, true, true, false, false, false, false, false, false, false, false, false, false] rfl (by kernel_rfl) (fun _ _ _ h => h) rfl (fun w_ K => evL_run (o := ⟨_, _, _, _, _, _⟩) txs rfl (by rw [Int.toNat_natCast]; exact K.old hc1)) HS ?_)
        first | (refine d_pure (i := 6) #[true, true, true, true, true, true, true, false, false, false, false, false, false, false, false, false] rfl (by kernel_rfl) (fun _ _ _ h => h) rfl (fun w_ => evP_run (o := ⟨_, _, _, _, _, _⟩) txs rfl) ?_)
        first | (refine d_pure (i := 7) #[true, true, true, true, true, true, true, true, false, false, false, false, false, false, false, false] rfl (by kernel_rfl) (fun _ _ _ h => h) rfl (fun w_ => evP_run (o := ⟨_, _, _, _, _, _⟩) txs rfl) ?_)
        first | (refine d_pure (i := 8) #[true, true, true, true, true, true, true, true, true, false, false, false, false, false, false, false] rfl (by kernel_rfl) (fun _ _ _ h => h) rfl (fun w_ => evIA_run (o := ⟨_, _, _, _, _, _⟩) txs rfl (by omega) (by omega)) ?_)
        first | (refine d_pure (i := 9) #[true, true, true, true, true, true, true, true, true, true, false, false, false, false, false, false] rfl (by kernel_rfl) (fun _ _ _ h => h) rfl (fun w_ => evF_run (o := ⟨_, _, _, _, _, _⟩) flds rfl) ?_) | (refine d_pure (i := 9) #[true, true, true, true, true, true, true, true, true, true, false, false, false, false, false, false] rfl (by kernel_rfl) (fun _ _ _ h => h) rfl (fun w_ => evG_run (o := ⟨_, _, _, _, _, _⟩) flds rfl) ?_)
        first | (refine d_take (i := 10) #[true, true, true, true, true, true, true, true, true, true, true, false, false, false, false, false] rfl (by kernel_rfl) (fun _ _ _ h => h) rfl (fun w_ K => evL_run (o := ⟨_, _, _, _, _, _⟩) txs rfl (by rw [Int.toNat_natCast]; exact K.old hc2)) HS ?_)
        refine d_one (i := 11) #[true, true, true, true, true, true, true, true, true, true, true, true, false, false, false, false] rfl (by kernel_rfl) rfl ?_
        refine l_callv rfl rfl (by kernel_rfl) (htr _) (fun w_ K => ?_); have H := H.call K
        refine l_nil ?_
        have HS := H.pick [] [] (by decide) (by decide) rfl rfl
        refine ⟨rfl, HS, ?_⟩
        first | (refine d_pure (i := 12) #[true, true, true, true, true, true, true, true, true, true, true, true, true, false, false, false] rfl (by kernel_rfl) (fun _ _ _ h => h) rfl (fun w_ => evBld_run (o := ⟨_, _, _, _, _, _⟩) rfl (built_f2 _ _)) ?_)
        refine d_one (i := 13) #[true, true, true, true, true, true, true, true, true, true, true, true, true, true, false, false] rfl (by kernel_rfl) rfl ?_
        refine h_bs H info_f Tryz.underlying27 (by decide) (by decide) rfl rfl (fill_f _ _) (fun g_ w_ H => ?_)
        refine l_nil ?_
        have HS := H.pick [] [] (by decide) (by decide) rfl rfl
        refine ⟨rfl, HS, ?_⟩
        refine d_one (i := 14) #[true, true, true, true, true, true, true, true, true, true, true, true, true, true, true, false] rfl (by kernel_rfl) rfl ?_
        (refine h_app H 0 rfl info_f Tryz.underlying27 rfl rfl rfl rfl (H.cellRd 0 rfl) rfl rfl (by show ((keptS (l.take i)).length + 1) * 32 ≤ _; omega) (fun v w_ hv H => ?_)); obtain ⟨A', c', rfl⟩ := hv
        refine l_nil ?_
        have HS := H.pick [] [] (by decide) (by decide) rfl rfl
        refine ⟨rfl, HS, ?_⟩
        first | (refine d_pure (i := 15) #[true, true, true, true, true, true, true, true, true, true, true, true, true, true, true, true] rfl (by kernel_rfl) (fun _ _ _ h => h) rfl (fun w_ => evP_run (o := ⟨_, _, _, _, _, _⟩) txs rfl) ?_)
        refine d_done rfl ?_
        repeat' (first | (first | (with_reducible refine p_tn ?_) | (with_reducible refine p_bn ?_) | (with_reducible refine w_reg ?_)) | (first | (with_reducible refine l_nil ?_) | ((with_reducible refine g_on ?_); (first | ((with_reducible refine g_mv ?_); refine l_p txs rfl rfl ?_) | ((with_reducible refine g_as ?_); refine l_p txs rfl rfl ?_) | ((with_reducible refine g_bi ?_); (refine l_a txs rfl rfl (by first | exact in_i64 (by omega) (by omega) | exact in_u8 (by omega) (by omega) | exact in_u64 (by omega) (by omega) | exact in_i32 (by omega) (by omega)) ?_))))))
        have H := H.pick [] [0] (by decide) (by decide) rfl rfl
        have hlen : (keptS (l.take (i + 1))).length = (keptS (l.take i)).length + 1 := by rw [hkt]; simp
        refine ⟨(i + 1, A', c'), _, rfl, ⟨rfl, rfl, ?_, rfl, trivial⟩, ⟨?_, by show i + 1 ≤ _; omega⟩, by show _ - (i + 1) < _ - i; omega⟩
        · show Value.slice A' ((keptS (l.take i)).length + 1) c' = Value.slice A' (keptS (l.take (i + 1))).length c'
          rw [hlen]
        · show Hp w _ [] [rowF (.slice A' (keptS (l.take (i + 1))).length c') (keptS (l.take (i + 1)))]
          unfold rowF
          rw [hlen, hkt, fldC_snoc]
          exact H
      · have hf : keptF x = false := by
          unfold keptF
          rw [e1, e3] at h2
          simp [Classical.not_not.1 h2]
        obtain ⟨k1, k2⟩ := skip hf
        repeat' (first | (first | (with_reducible refine p_tn ?_) | (with_reducible refine p_bn ?_) | (with_reducible refine w_reg ?_) | (with_reducible (refine is_if ?_; (refine w_iff rfl ?_))) | (with_reducible refine wp_skip ?_)) | (first | (with_reducible refine l_nil ?_) | ((with_reducible refine g_on ?_); (first | ((with_reducible refine g_mv ?_); refine l_p txs rfl rfl ?_) | ((with_reducible refine g_as ?_); refine l_p txs rfl rfl ?_) | ((with_reducible refine g_pk ?_); refine l_p txs rfl rfl ?_) | ((with_reducible refine g_bi ?_); (refine l_a txs rfl rfl (by first | exact in_i64 (by omega) (by omega) | exact in_u8 (by omega) (by omega) | exact in_u64 (by omega) (by omega) | exact in_i32 (by omega) (by omega)) ?_))))))
        refine ⟨(i + 1, A2, c2), _, rfl, ⟨rfl, rfl, k2, rfl, trivial⟩, ⟨k1, by show i + 1 ≤ _; omega⟩, by show _ - (i + 1) < _ - i; omega⟩
    · have hf : keptF x = false := by
        unfold keptF
        rw [e1, e2] at h1
        simp [Classical.not_not.1 h1]
      obtain ⟨k1, k2⟩ := skip hf
      repeat' (first | (first | (with_reducible refine p_tn ?_) | (with_reducible refine p_bn ?_) | (with_reducible refine w_reg ?_) | (with_reducible (refine is_if ?_; (refine w_iff rfl ?_))) | (with_reducible refine wp_skip ?_)) | (first | (with_reducible refine l_nil ?_) | ((with_reducible refine g_on ?_); (first | ((with_reducible refine g_mv ?_); refine l_p txs rfl rfl ?_) | ((with_reducible refine g_as ?_); refine l_p txs rfl rfl ?_) | ((with_reducible refine g_pk ?_); refine l_p txs rfl rfl ?_) | ((with_reducible refine g_bi ?_); (refine l_a txs rfl rfl (by first | exact in_i64 (by omega) (by omega) | exact in_u8 (by omega) (by omega) | exact in_u64 (by omega) (by omega) | exact in_i32 (by omega) (by omega)) ?_)))) | ((with_reducible refine g_if ?_); (refine l_off rfl ?_))))
      refine ⟨(i + 1, A2, c2), _, rfl, ⟨rfl, rfl, k2, rfl, trivial⟩, ⟨k1, by show i + 1 ≤ _; omega⟩, by show _ - (i + 1) < _ - i; omega⟩
  · have hall : l.take i = l := List.take_of_length_le (by omega)
    simp only [hall] at H ⊢
    have hkl := kept_len l
    repeat' (first | (first | (with_reducible refine p_tn ?_) | (with_reducible refine p_tx ?_) | (with_reducible refine x_hit ?_) | (with_reducible refine wp_seq ?_) | (with_reducible refine w_reg ?_) | (with_reducible (refine is_if ?_; (refine w_iff rfl ?_))) | (with_reducible refine wp_exit ?_)) | (first | (with_reducible refine l_nil ?_) | ((with_reducible refine g_on ?_); ((with_reducible refine g_mv ?_); refine l_p txs rfl rfl ?_))))
    (with_reducible refine is_l ?_); refine l_t txs rfl rfl (fun hpos => ?_) (fun hneg => ?_)
    · repeat' (first | (first | (with_reducible refine p_tn ?_) | (with_reducible refine w_reg ?_) | (with_reducible (refine is_if ?_; (refine w_ift rfl ?_)))) | (first | (with_reducible refine l_nil ?_) | ((with_reducible refine g_on ?_); ((with_reducible refine g_mv ?_); refine l_p txs rfl rfl ?_))))
      have hit := itoa_c (hP.below H.B) v.toNat (by omega)
      rw [show ((v.toNat : Nat) : Int) = v by omega] at hit
      (with_reducible refine is_l ?_); refine l_callv rfl rfl (by kernel_rfl) hit (fun w_ K => ?_)
      have H := H.call K
      skip
      (with_reducible refine is_l ?_); refine h_bld rfl rfl (built_f2 _ _) ?_
      skip
      (with_reducible refine is_l ?_); refine h_bs H info_f Tryz.underlying27 (by decide) (by decide) rfl rfl (fill_f _ _) (fun g_ w_ H => ?_)
      (with_reducible refine is_l ?_); refine h_app H 0 rfl info_f Tryz.underlying27 rfl rfl rfl rfl (H.cellRd 0 rfl) rfl rfl (by show ((keptS l).length + 1) * 32 ≤ _; omega) (fun v w_ hv H => ?_)
      obtain ⟨A', c', rfl⟩ := hv
      repeat' (first | (first | (with_reducible refine p_tn ?_) | (with_reducible refine wp_seq ?_) | (with_reducible refine w_reg ?_) | (with_reducible refine wp_ret ?_)) | (first | (with_reducible refine l_nil ?_) | ((with_reducible refine g_on ?_); (first | ((with_reducible refine g_mv ?_); refine l_p txs rfl rfl ?_) | ((with_reducible refine g_as ?_); refine l_p txs rfl rfl ?_)))))
      refine end1 rfl rfl ?_
      have e : printedS l (toldI v) = keptS l ++ [(nLenP, decS v.toNat)] := by unfold toldI; rw [if_pos (by omega)]; simp [printedS, keptS]
      have hlen : (keptS l ++ [(nLenP, decS v.toNat)]).length = (keptS l).length + 1 := by simp
      rw [e]
      unfold rowF
      rw [hlen, fldC_snoc]
      exact ⟨A', c', rfl, H.pick [] [0] (by decide) (by decide) rfl rfl⟩
    · repeat' (first | (first | (with_reducible refine p_tn ?_) | (with_reducible refine wp_seq ?_) | (with_reducible refine w_reg ?_) | (with_reducible (refine is_if ?_; (refine w_iff rfl ?_))) | (with_reducible refine wp_skip ?_) | (with_reducible refine wp_ret ?_)) | (first | (with_reducible refine l_nil ?_) | ((with_reducible refine g_on ?_); (first | ((with_reducible refine g_mv ?_); refine l_p txs rfl rfl ?_) | ((with_reducible refine g_as ?_); refine l_p txs rfl rfl ?_)))))
      refine end1 rfl rfl ?_
      have e : printedS l (toldI v) = keptS l := by unfold toldI; rw [if_neg (by omega), kept_printed]
      rw [e]
      exact ⟨A2, c2, rfl, H⟩
theorem cutA_some (a : Addr) (c p : Nat) : ∃ a2, cutA (some a) c p 1 = some a2 := by
  unfold cutA
  split <;> exact ⟨_, rfl⟩
end Go.Proofs.YthgojbdpmcccaaaGreatDoor.K
end
section
namespace Go.Proofs.YthgojbdpmcccaaaGreatDoor.Q
open Go.RowKit Go.Proofs.YthgojbdpmcccaaaGreatDoorW.PrintWords Go.Proofs.YthgojbdpmcccaaaGreatDoorW.PrintLast
set_option linter.unusedVariables false
set_option linter.unusedSimpArgs false
/-- A block that H does not hold is turned. -/
theorem Hp.other {w0 w w' : World} {l : List Ent} {r : List RowD} (H : Hp w0 w l r) {g : Nat} (hg : w.grownBy w' (some g)) (hge : w0.heap.size ≤ g) (hl : ∀ (i : Nat) (p : Ent), l[i]? = some p → p.1 ≠ g) (hr : ∀ (i : Nat) (d : RowD), r[i]? = some d → d.v.ownBlock ≠ some g) : Hp w0 w' l r := by
  refine ⟨H.B.grown hg H.B.size (fun b e => by cases e; exact hge), fun i p h => ⟨(H.blk i p h).1, blk_grown (H.blk i p h).2 hg (fun e => hl i p h (Option.some.inj e))⟩, fun i d h => ?_, H.ndl, H.ndr, H.ndm⟩
  refine own_other (H.row i d h) hg ?_
  cases e : d.v.ownBlock with
  | none => exact .inl rfl
  | some b => exact .inr (fun e2 => hr i d h (by rw [e, e2]))
section
variable {P : Program} {w : World}
end
end Go.Proofs.YthgojbdpmcccaaaGreatDoor.Q
end
section
namespace Go.Proofs.YthgojbdpmcccaaaGreatDoor.K
open Go.RowKit Go.Proofs.YthgojbdpmcccaaaGreatDoor.Q Go.Proofs.YthgojbdpmcccaaaGreatDoor.Wb Go.Proofs.YthgojbdpmcccaaaGreatDoorW.PrintWords
set_option linter.unusedVariables false
set_option linter.unusedSimpArgs false
theorem byt_rd {w' : World} {g c : Nat} {cur : Array Value} {x : L} (hb : w'.heap[g]? = some (.cells cur 5 (c, c + 1))) (ht : cur.toList.take x.length = nums .u8 x) : Rd w' (some ⟨g, 0, none⟩) (nums .u8 x) := by
  refine ⟨fun e => (by cases e), fun ad e i v hv => ?_⟩
  injection e with e
  subst e
  have hi : i < x.length := by have := (List.getElem?_eq_some_iff.1 hv).1; simpa [nums] using this
  rw [add_lit, Nat.zero_add]
  rw [← ht, List.getElem?_take_of_lt hi] at hv
  simp only [World.cell?, hb]
  simpa using hv
theorem toldI_nat (k : Nat) : toldI (k : Int) = some k := by unfold toldI; rw [if_pos (by omega)]; simp
end Go.Proofs.YthgojbdpmcccaaaGreatDoor.K
end
section
namespace Go.Proofs.YthgojbdpmcccaaaGreatDoor.K
open Go.RowKit Go.Proofs.YthgojbdpmcccaaaGreatDoor.Q Go.Proofs.YthgojbdpmcccaaaGreatDoor.Wb Go.Proofs.YthgojbdpmcccaaaGreatDoorW.PrintWords
set_option linter.unusedVariables false
set_option linter.unusedSimpArgs false
def resOf (st mi : Int) (ns vs : List L) (body : L) (pad : Int) : ResS := ⟨st, mi, mkF ns vs, padS body pad, false⟩
theorem built_rs (a i : Int) (A : Option Addr) (n c : Nat) : Tryz.prog.built 59 [(0, .int .i64 a), (1, .int .i64 i), (3, .slice A n c)] = some #[.int .i64 a, .int .i64 i, .slice none 0 0, .slice A n c, .bool false] := by kernel_rfl
set_option maxRecDepth 100000 in
set_option maxHeartbeats 8000000 in
theorem response_c {w : World} {st mi pad : Int} {ns vs : List L} {body : L} {NB VB BB : Option Addr} {nc vc bc : Nat} (hn : Rd w NB (strC ns)) (hv : Rd w VB (strC vs)) (hnl : ns.length ≤ 10000000) (hr : ReadsInt w .u8 BB body.length body) (hbl : body.length ≤ 1000000000) :
    Calls Tryz.prog 27 #[.agg #[.int .i64 st, .int .i64 mi, .slice NB ns.length nc, .slice VB vs.length vc, .slice BB body.length bc, .int .i64 pad]] w fun e w' => ∃ F f B b, e = .returned (.agg (resA (resOf st mi ns vs body pad) F f B b)) ∧ Hp w w' [] [rowF (.slice F (mkF ns vs).length f) (mkF ns vs), rowB (.slice B (padS body pad).length b) (padS body pad)] := by
  refine enter (args := [.agg #[.int .i64 st, .int .i64 mi, .slice NB ns.length nc, .slice VB vs.length vc, .slice BB body.length bc, .int .i64 pad]]) Tryz.func27 rfl Tryz.ntmps27 rfl ?_
  have H := (Hp.nil w).nilRow 95 2
  repeat' (first | (with_reducible refine wp_seq ?_) | (with_reducible refine w_reg ?_))
  (with_reducible refine is_l ?_); refine h_box H rfl rfl rfl (fun gX w_ H => ?_)
  (with_reducible refine is_l ?_); refine h_alloc recs H rfl rfl (fun gC w_ H => ?_)
  repeat' (first | (first | (with_reducible refine p_tn ?_) | (with_reducible refine wp_seq ?_)) | (with_reducible refine l_nil ?_))
  have HS := H.pick [0, 1] [] (by decide) (by decide) rfl rfl
  refine e_start (fun w_ => Hp w w_ _ _) [] #[false, false, false, false, false, false, false, false, false, false, false, false] (by kernel_rfl) rfl rfl HS.drew ?_
  have H := H.drew
  have HS := HS.drew
  first | (refine e_pure (i := 0) #[true, false, false, false, false, false, false, false, false, false, false, false] rfl (by kernel_rfl) (fun _ _ _ h => h) rfl (fun w_ => evF_run (o := ⟨_, _, _, _, _, _⟩) flds rfl) ?_) | (refine e_pure (i := 0) #[true, false, false, false, false, false, false, false, false, false, false, false] rfl (by kernel_rfl) (fun _ _ _ h => h) rfl (fun w_ => evG_run (o := ⟨_, _, _, _, _, _⟩) flds rfl) ?_)
  first | (refine e_take (i := 1) #[true, true, false, false, false, false, false, false, false, false, false, false] rfl (by kernel_rfl) (fun _ _ _ h => h) rfl (fun w_ K => evL_run (o := ⟨_, _, _, _, _, _⟩) txs rfl (K.cellAt 0 rfl rfl)) HS ?_) | (refine e_take (i := 1) #[true, true, false, false, false, false, false, false, false, false, false, false] rfl (by kernel_rfl) (fun _ _ _ h => h) rfl (fun w_ K => evL_run (o := ⟨_, _, _, _, _, _⟩) txs rfl (K.cellAt 1 rfl rfl)) HS ?_)
  first | (refine e_pure (i := 2) #[true, true, true, false, false, false, false, false, false, false, false, false] rfl (by kernel_rfl) (fun _ _ _ h => h) rfl (fun w_ => evF_run (o := ⟨_, _, _, _, _, _⟩) flds rfl) ?_) | (refine e_pure (i := 2) #[true, true, true, false, false, false, false, false, false, false, false, false] rfl (by kernel_rfl) (fun _ _ _ h => h) rfl (fun w_ => evG_run (o := ⟨_, _, _, _, _, _⟩) flds rfl) ?_)
  first | (refine e_take (i := 3) #[true, true, true, true, false, false, false, false, false, false, false, false] rfl (by kernel_rfl) (fun _ _ _ h => h) rfl (fun w_ K => evL_run (o := ⟨_, _, _, _, _, _⟩) txs rfl (K.cellAt 0 rfl rfl)) HS ?_) | (refine e_take (i := 3) #[true, true, true, true, false, false, false, false, false, false, false, false] rfl (by kernel_rfl) (fun _ _ _ h => h) rfl (fun w_ K => evL_run (o := ⟨_, _, _, _, _, _⟩) txs rfl (K.cellAt 1 rfl rfl)) HS ?_)
  first | (refine e_pure (i := 4) #[true, true, true, true, true, false, false, false, false, false, false, false] rfl (by kernel_rfl) (fun _ _ _ h => h) rfl (fun w_ => evF_run (o := ⟨_, _, _, _, _, _⟩) flds rfl) ?_) | (refine e_pure (i := 4) #[true, true, true, true, true, false, false, false, false, false, false, false] rfl (by kernel_rfl) (fun _ _ _ h => h) rfl (fun w_ => evG_run (o := ⟨_, _, _, _, _, _⟩) flds rfl) ?_)
  first | (refine e_take (i := 5) #[true, true, true, true, true, true, false, false, false, false, false, false] rfl (by kernel_rfl) (fun _ _ _ h => h) rfl (fun w_ K => evL_run (o := ⟨_, _, _, _, _, _⟩) txs rfl (K.cellAt 0 rfl rfl)) HS ?_) | (refine e_take (i := 5) #[true, true, true, true, true, true, false, false, false, false, false, false] rfl (by kernel_rfl) (fun _ _ _ h => h) rfl (fun w_ K => evL_run (o := ⟨_, _, _, _, _, _⟩) txs rfl (K.cellAt 1 rfl rfl)) HS ?_)
  first | (refine e_pure (i := 6) #[true, true, true, true, true, true, true, false, false, false, false, false] rfl (by kernel_rfl) (fun _ _ _ h => h) rfl (fun w_ => evF_run (o := ⟨_, _, _, _, _, _⟩) flds rfl) ?_) | (refine e_pure (i := 6) #[true, true, true, true, true, true, true, false, false, false, false, false] rfl (by kernel_rfl) (fun _ _ _ h => h) rfl (fun w_ => evG_run (o := ⟨_, _, _, _, _, _⟩) flds rfl) ?_)
  first | (refine e_take (i := 7) #[true, true, true, true, true, true, true, true, false, false, false, false] rfl (by kernel_rfl) (fun _ _ _ h => h) rfl (fun w_ K => evL_run (o := ⟨_, _, _, _, _, _⟩) txs rfl (K.cellAt 0 rfl rfl)) HS ?_) | (refine e_take (i := 7) #[true, true, true, true, true, true, true, true, false, false, false, false] rfl (by kernel_rfl) (fun _ _ _ h => h) rfl (fun w_ K => evL_run (o := ⟨_, _, _, _, _, _⟩) txs rfl (K.cellAt 1 rfl rfl)) HS ?_)
  refine e_two (i := 8) (j := 10) #[true, true, true, true, true, true, true, true, true, false, false, false] #[true, true, true, true, true, true, true, true, false, false, true, false] rfl rfl (by kernel_rfl) (by decide) (by decide) rfl rfl ?_ ?_
  (refine l_call rfl rfl (by kernel_rfl) (padded_c (hr.below H.B) pad hbl) (fun e w_ hR => ?_)); obtain ⟨A1, c1, rfl, K⟩ := hR; refine ⟨_, rfl, ?_⟩; have H := H.join K
  refine l_nil ?_
  have HS := H.pick [0, 1] [] (by decide) (by decide) rfl rfl
  refine ⟨rfl, HS, ?_⟩
  first | (refine e_pure (i := 9) #[true, true, true, true, true, true, true, true, true, true, false, false] rfl (by kernel_rfl) (fun _ _ _ h => h) rfl (fun w_ => evBld_run (o := ⟨_, _, _, _, _, _⟩) rfl (built_rs _ _ _ _ _)) ?_)
  refine e_one (i := 10) #[true, true, true, true, true, true, true, true, true, true, true, false] rfl (by kernel_rfl) (by decide) rfl ?_
  refine h_alloc recs H rfl rfl (fun gL w_ H => ?_)
  refine l_nil ?_
  have HS := H.pick [1, 2] [] (by decide) (by decide) rfl rfl
  refine ⟨rfl, HS, ?_⟩
  refine e_one (i := 11) #[true, true, true, true, true, true, true, true, true, true, true, true] rfl (by kernel_rfl) (by decide) rfl ?_
  refine g_on ?_; ((with_reducible refine g_st ?_); (refine h_stR recs H 0 rfl rfl rfl rfl rfl rfl rfl rfl rfl (fun w_ H => ?_)))
  refine l_nil ?_
  have HS := H.pick [1, 2] [] (by decide) (by decide) rfl rfl
  refine ⟨rfl, HS, ?_⟩
  refine e_done rfl ?_
  rotate_left
  refine h_alloc recs H rfl rfl (fun gL w_ H => ?_)
  refine l_nil ?_
  have HS := H.pick [1, 2] [] (by decide) (by decide) rfl rfl
  refine ⟨rfl, HS, ?_⟩
  refine e_one (i := 8) #[true, true, true, true, true, true, true, true, true, false, true, false] rfl (by kernel_rfl) (by decide) rfl ?_
  (refine l_call rfl rfl (by kernel_rfl) (padded_c (hr.below H.B) pad hbl) (fun e w_ hR => ?_)); obtain ⟨A1, c1, rfl, K⟩ := hR; refine ⟨_, rfl, ?_⟩; have H := H.join K
  refine l_nil ?_
  have HS := H.pick [1, 2] [] (by decide) (by decide) rfl rfl
  refine ⟨rfl, HS, ?_⟩
  first | (refine e_pure (i := 9) #[true, true, true, true, true, true, true, true, true, true, true, false] rfl (by kernel_rfl) (fun _ _ _ h => h) rfl (fun w_ => evBld_run (o := ⟨_, _, _, _, _, _⟩) rfl (built_rs _ _ _ _ _)) ?_)
  refine e_one (i := 11) #[true, true, true, true, true, true, true, true, true, true, true, true] rfl (by kernel_rfl) (by decide) rfl ?_
  refine g_on ?_; ((with_reducible refine g_st ?_); (refine h_stR recs H 0 rfl rfl rfl rfl rfl rfl rfl rfl rfl (fun w_ H => ?_)))
  refine l_nil ?_
  have HS := H.pick [1, 2] [] (by decide) (by decide) rfl rfl
  refine ⟨rfl, HS, ?_⟩
  refine e_done rfl ?_
  · skip
    repeat' (first | (first | (with_reducible refine p_tn ?_) | (with_reducible refine wp_seq ?_) | (with_reducible refine wp_block ?_) | (with_reducible refine w_reg ?_)) | (first | (with_reducible refine l_nil ?_) | ((with_reducible refine g_on ?_); ((with_reducible refine g_as ?_); refine l_p txs rfl rfl ?_))))
    have hml := mkF_len ns vs
    refine w_loop (σ := Nat × Option Addr × Nat) (S := fun s => [(1, .pointer (some ⟨gX, 0, none⟩)), (2, .pointer (some ⟨gC, 0, none⟩)), (3, .pointer (some ⟨gL, 0, none⟩)), (4, .int .i64 (s.1 : Int))])
      (J := fun s w' => Hp w w' [(gL, 59, [.int .i64 st, .int .i64 mi, .slice s.2.1 s.1 s.2.2, .slice A1 (padS body pad).length c1, .bool false]), (gC, 59, [.int .i64 0, .int .i64 0, .slice none 0 0, .slice none 0 0, .bool false]), (gX, 53, [.int .i64 st, .int .i64 mi, .slice NB ns.length nc, .slice VB vs.length vc, .slice BB body.length bc, .int .i64 pad])] [rowB (.slice A1 (padS body pad).length c1) (padS body pad), ⟨.slice s.2.1 s.1 s.2.2, 95, 2, s.1, fldC ((mkF ns vs).take s.1)⟩] ∧ s.1 ≤ ns.length) (μ := fun s => ns.length - s.1) (0, none, 0) ⟨rfl, rfl, rfl, rfl, trivial⟩ ⟨H, by omega⟩ ?_
    rintro ⟨i, A2, c2⟩ f w_ ⟨H, hi⟩
    simp only at H hi ⊢
    repeat' (first | (first | (with_reducible refine wp_seq ?_) | (with_reducible refine w_reg ?_)) | ((with_reducible refine g_on ?_); (first | ((with_reducible refine g_mv ?_); refine l_p txs rfl rfl ?_) | ((with_reducible refine g_fa ?_); refine h_fa flds rfl rfl ?_) | ((with_reducible refine g_ld ?_); (refine h_ld txs H 2 rfl rfl rfl rfl ?_)) | ((with_reducible refine g_cl ?_); refine l_p txs rfl rfl ?_))))
    (with_reducible refine is_l ?_); refine l_t txs rfl rfl (fun hlt => ?_) (fun hge => ?_)
    · obtain ⟨x, hx⟩ : ∃ x, ns[i]? = some x := ⟨_, List.getElem?_eq_getElem (by omega)⟩
      obtain ⟨ad, rfl⟩ : ∃ ad, NB = some ad := by
        cases NB with
        | none =>
          have := hn.1 rfl
          simp only [strC, List.map_eq_nil_iff] at this
          rw [this] at hx
          simp at hx
        | some ad => exact ⟨ad, rfl⟩
      have hcell := hn.2 ad rfl _ _ (strC_at hx)
      have htk := mkF_take (vs := vs) hx
      repeat' (first | (first | (with_reducible refine p_tn ?_) | (with_reducible refine wp_seq ?_) | (with_reducible refine wp_block ?_) | (with_reducible (refine is_if ?_; (refine w_ift rfl ?_))) | (with_reducible refine wp_skip ?_)) | (with_reducible refine l_nil ?_))
      have HS := H.pick [0, 1, 2] [0] (by decide) (by decide) rfl rfl
      refine e_start (fun w_ => Hp w w_ _ _) [15] #[false, false, false, false, false, false, false, false, false, false, false, false, false, false, false, false] (by kernel_rfl) rfl rfl HS.drew ?_
      have H := H.drew
      have HS := HS.drew
      first | (refine e_pure (i := 0) #[true, false, false, false, false, false, false, false, false, false, false, false, false, false, false, false] rfl (by kernel_rfl) (fun _ _ _ h => h) rfl (fun w_ => evF_run (o := ⟨_, _, _, _, _, _⟩) flds rfl) ?_) | (refine e_pure (i := 0) #[true, false, false, false, false, false, false, false, false, false, false, false, false, false, false, false] rfl (by kernel_rfl) (fun _ _ _ h => h) rfl (fun w_ => evG_run (o := ⟨_, _, _, _, _, _⟩) flds rfl) ?_)
      first | (refine e_take (i := 1) #[true, true, false, false, false, false, false, false, false, false, false, false, false, false, false, false] rfl (by kernel_rfl) (fun _ _ _ h => h) rfl (fun w_ K => evL_run (o := ⟨_, _, _, _, _, _⟩) txs rfl (K.cellAt 0 rfl rfl)) HS ?_) | (refine e_take (i := 1) #[true, true, false, false, false, false, false, false, false, false, false, false, false, false, false, false] rfl (by kernel_rfl) (fun _ _ _ h => h) rfl (fun w_ K => evL_run (o := ⟨_, _, _, _, _, _⟩) txs rfl (K.cellAt 1 rfl rfl)) HS ?_) | (refine e_take (i := 1) #[true, true, false, false, false, false, false, false, false, false, false, false, false, false, false, false] rfl (by kernel_rfl) (fun _ _ _ h => h) rfl (fun w_ K => evL_run (o := ⟨_, _, _, _, _, _⟩) txs rfl (K.cellAt 2 rfl rfl)) HS ?_)
      first | (refine e_pure (i := 2) #[true, true, true, false, false, false, false, false, false, false, false, false, false, false, false, false] rfl (by kernel_rfl) (fun _ _ _ h => h) rfl (fun w_ => evF_run (o := ⟨_, _, _, _, _, _⟩) flds rfl) ?_) | (refine e_pure (i := 2) #[true, true, true, false, false, false, false, false, false, false, false, false, false, false, false, false] rfl (by kernel_rfl) (fun _ _ _ h => h) rfl (fun w_ => evG_run (o := ⟨_, _, _, _, _, _⟩) flds rfl) ?_)
      first | (refine e_take (i := 3) #[true, true, true, true, false, false, false, false, false, false, false, false, false, false, false, false] rfl (by kernel_rfl) (fun _ _ _ h => h) rfl (fun w_ K => evL_run (o := ⟨_, _, _, _, _, _⟩) txs rfl (K.cellAt 0 rfl rfl)) HS ?_) | (refine e_take (i := 3) #[true, true, true, true, false, false, false, false, false, false, false, false, false, false, false, false] rfl (by kernel_rfl) (fun _ _ _ h => h) rfl (fun w_ K => evL_run (o := ⟨_, _, _, _, _, _⟩) txs rfl (K.cellAt 1 rfl rfl)) HS ?_) | (refine e_take (i := 3) #[true, true, true, true, false, false, false, false, false, false, false, false, false, false, false, false] rfl (by kernel_rfl) (fun _ _ _ h => h) rfl (fun w_ K => evL_run (o := ⟨_, _, _, _, _, _⟩) txs rfl (K.cellAt 2 rfl rfl)) HS ?_)
      first | (refine e_pure (i := 4) #[true, true, true, true, true, false, false, false, false, false, false, false, false, false, false, false] rfl (by kernel_rfl) (fun _ _ _ h => h) rfl (fun w_ => evP_run (o := ⟨_, _, _, _, _, _⟩) txs rfl) ?_)
      first | (refine e_pure (i := 5) #[true, true, true, true, true, true, false, false, false, false, false, false, false, false, false, false] rfl (by kernel_rfl) (fun _ _ _ h => h) rfl (fun w_ => evIA_run (o := ⟨_, _, _, _, _, _⟩) txs rfl (by omega) (by omega)) ?_)
      first | (refine e_take (i := 6) #[true, true, true, true, true, true, true, false, false, false, false, false, false, false, false, false] rfl (by kernel_rfl) (fun _ _ _ h => h) rfl (fun w_ K => evL_run (o := ⟨_, _, _, _, _, _⟩) txs rfl (by rw [Int.toNat_natCast]; exact K.old hcell)) HS ?_)
      first | (refine e_pure (i := 7) #[true, true, true, true, true, true, true, true, false, false, false, false, false, false, false, false] rfl (by kernel_rfl) (fun _ _ _ h => h) rfl (fun w_ => evF_run (o := ⟨_, _, _, _, _, _⟩) flds rfl) ?_) | (refine e_pure (i := 7) #[true, true, true, true, true, true, true, true, false, false, false, false, false, false, false, false] rfl (by kernel_rfl) (fun _ _ _ h => h) rfl (fun w_ => evG_run (o := ⟨_, _, _, _, _, _⟩) flds rfl) ?_)
      first | (refine e_take (i := 8) #[true, true, true, true, true, true, true, true, true, false, false, false, false, false, false, false] rfl (by kernel_rfl) (fun _ _ _ h => h) rfl (fun w_ K => evL_run (o := ⟨_, _, _, _, _, _⟩) txs rfl (K.cellAt 0 rfl rfl)) HS ?_) | (refine e_take (i := 8) #[true, true, true, true, true, true, true, true, true, false, false, false, false, false, false, false] rfl (by kernel_rfl) (fun _ _ _ h => h) rfl (fun w_ K => evL_run (o := ⟨_, _, _, _, _, _⟩) txs rfl (K.cellAt 1 rfl rfl)) HS ?_) | (refine e_take (i := 8) #[true, true, true, true, true, true, true, true, true, false, false, false, false, false, false, false] rfl (by kernel_rfl) (fun _ _ _ h => h) rfl (fun w_ K => evL_run (o := ⟨_, _, _, _, _, _⟩) txs rfl (K.cellAt 2 rfl rfl)) HS ?_)
      first | (refine e_pure (i := 9) #[true, true, true, true, true, true, true, true, true, true, false, false, false, false, false, false] rfl (by kernel_rfl) (fun _ _ _ h => h) rfl (fun w_ => evP_run (o := ⟨_, _, _, _, _, _⟩) txs rfl) ?_)
      refine e_one (i := 10) #[true, true, true, true, true, true, true, true, true, true, true, false, false, false, false, false] rfl (by kernel_rfl) (by decide) rfl ?_
      refine l_callv rfl rfl (by kernel_rfl) (value14_c (hv.below H.B) i (by omega)) (fun w_ K => ?_); have H := H.call K
      refine l_nil ?_
      have HS := H.pick [0, 1, 2] [0] (by decide) (by decide) rfl rfl
      refine ⟨rfl, HS, ?_⟩
      first | (refine e_pure (i := 11) #[true, true, true, true, true, true, true, true, true, true, true, true, false, false, false, false] rfl (by kernel_rfl) (fun _ _ _ h => h) rfl (fun w_ => evBld_run (o := ⟨_, _, _, _, _, _⟩) rfl (built_f2 _ _)) ?_)
      refine e_one (i := 12) #[true, true, true, true, true, true, true, true, true, true, true, true, true, false, false, false] rfl (by kernel_rfl) (by decide) rfl ?_
      refine h_bs H info_f Tryz.underlying27 (by decide) (by decide) rfl rfl (fill_f _ _) (fun g_ w_ H => ?_)
      refine l_nil ?_
      have HS := H.pick [1, 2, 3] [0] (by decide) (by decide) rfl rfl
      refine ⟨rfl, HS, ?_⟩
      refine e_one (i := 13) #[true, true, true, true, true, true, true, true, true, true, true, true, true, true, false, false] rfl (by kernel_rfl) (by decide) rfl ?_
      (refine h_app H 1 rfl info_f Tryz.underlying27 rfl rfl rfl rfl (H.cellRd 0 rfl) rfl rfl (by show (i + 1) * 32 ≤ _; omega) (fun v w_ hv H => ?_)); obtain ⟨A', c', rfl⟩ := hv
      refine l_nil ?_
      have HS := H.pick [1, 2, 3] [0] (by decide) (by decide) rfl rfl
      refine ⟨rfl, HS, ?_⟩
      first | (refine e_pure (i := 14) #[true, true, true, true, true, true, true, true, true, true, true, true, true, true, true, false] rfl (by kernel_rfl) (fun _ _ _ h => h) rfl (fun w_ => evF_run (o := ⟨_, _, _, _, _, _⟩) flds rfl) ?_) | (refine e_pure (i := 14) #[true, true, true, true, true, true, true, true, true, true, true, true, true, true, true, false] rfl (by kernel_rfl) (fun _ _ _ h => h) rfl (fun w_ => evG_run (o := ⟨_, _, _, _, _, _⟩) flds rfl) ?_)
      refine e_last (i := 15) #[true, true, true, true, true, true, true, true, true, true, true, true, true, true, true, true] rfl (by kernel_rfl) (by decide) rfl ?_
      refine g_on ?_; ((with_reducible refine g_st ?_); (refine h_st txs ones H 1 rfl rfl rfl rfl rfl rfl rfl rfl rfl (fun w_ H => ?_)))
      refine l_nil ?_
      refine ⟨rfl, ?_⟩
      refine e_done rfl ?_
      repeat' (first | (first | (with_reducible refine p_tn ?_) | (with_reducible refine p_bn ?_) | (with_reducible refine w_reg ?_)) | (first | (with_reducible refine l_nil ?_) | ((with_reducible refine g_on ?_); (first | ((with_reducible refine g_mv ?_); refine l_p txs rfl rfl ?_) | ((with_reducible refine g_as ?_); refine l_p txs rfl rfl ?_) | ((with_reducible refine g_bi ?_); (refine l_a txs rfl rfl (by first | exact in_i64 (by omega) (by omega) | exact in_u8 (by omega) (by omega) | exact in_u64 (by omega) (by omega) | exact in_i32 (by omega) (by omega)) ?_))))))
      refine ⟨(i + 1, A', c'), _, rfl, ⟨rfl, rfl, rfl, rfl, trivial⟩, ⟨?_, by show i + 1 ≤ _; omega⟩, by show _ - (i + 1) < _ - i; omega⟩
      simp only [htk, fldC_snoc]
      exact H.pick [1, 2, 3] [0, 1] (by decide) (by decide) rfl rfl
    · have hall : (mkF ns vs).take i = mkF ns vs := List.take_of_length_le (by omega)
      have hin : i = ns.length := by omega
      subst hin
      rw [hall] at H
      repeat' (first | (first | (with_reducible refine p_tn ?_) | (with_reducible refine p_tx ?_) | (with_reducible refine x_hit ?_) | (with_reducible refine wp_seq ?_) | (with_reducible refine w_reg ?_) | (with_reducible (refine is_if ?_; (refine w_iff rfl ?_))) | (with_reducible refine wp_exit ?_) | (with_reducible refine wp_ret ?_)) | (first | (with_reducible refine l_nil ?_) | ((with_reducible refine g_on ?_); (first | ((with_reducible refine g_ld ?_); (refine h_ldR recs H 0 rfl rfl rfl rfl rfl ?_)) | ((with_reducible refine g_st ?_); (refine h_stR recs H 1 rfl rfl rfl rfl rfl rfl rfl rfl rfl (fun w_ H => ?_)))))))
      refine end_cell recs H 1 rfl rfl rfl rfl rfl ?_
      refine ⟨A2, c2, A1, c1, ?_, ?_⟩
      · show _ = Ending.returned (.agg #[.int .i64 st, .int .i64 mi, .slice A2 (mkF ns vs).length c2, .slice A1 (padS body pad).length c1, .bool false])
        rw [hml]
      · unfold rowF
        rw [hml]
        exact H.pick [] [1, 0] (by decide) (by decide) rfl rfl
  · skip
    repeat' (first | (first | (with_reducible refine p_tn ?_) | (with_reducible refine wp_seq ?_) | (with_reducible refine wp_block ?_) | (with_reducible refine w_reg ?_)) | (first | (with_reducible refine l_nil ?_) | ((with_reducible refine g_on ?_); ((with_reducible refine g_as ?_); refine l_p txs rfl rfl ?_))))
    have hml := mkF_len ns vs
    refine w_loop (σ := Nat × Option Addr × Nat) (S := fun s => [(1, .pointer (some ⟨gX, 0, none⟩)), (2, .pointer (some ⟨gC, 0, none⟩)), (3, .pointer (some ⟨gL, 0, none⟩)), (4, .int .i64 (s.1 : Int))])
      (J := fun s w' => Hp w w' [(gL, 59, [.int .i64 st, .int .i64 mi, .slice s.2.1 s.1 s.2.2, .slice A1 (padS body pad).length c1, .bool false]), (gC, 59, [.int .i64 0, .int .i64 0, .slice none 0 0, .slice none 0 0, .bool false]), (gX, 53, [.int .i64 st, .int .i64 mi, .slice NB ns.length nc, .slice VB vs.length vc, .slice BB body.length bc, .int .i64 pad])] [rowB (.slice A1 (padS body pad).length c1) (padS body pad), ⟨.slice s.2.1 s.1 s.2.2, 95, 2, s.1, fldC ((mkF ns vs).take s.1)⟩] ∧ s.1 ≤ ns.length) (μ := fun s => ns.length - s.1) (0, none, 0) ⟨rfl, rfl, rfl, rfl, trivial⟩ ⟨H, by omega⟩ ?_
    rintro ⟨i, A2, c2⟩ f w_ ⟨H, hi⟩
    simp only at H hi ⊢
    repeat' (first | (first | (with_reducible refine wp_seq ?_) | (with_reducible refine w_reg ?_)) | ((with_reducible refine g_on ?_); (first | ((with_reducible refine g_mv ?_); refine l_p txs rfl rfl ?_) | ((with_reducible refine g_fa ?_); refine h_fa flds rfl rfl ?_) | ((with_reducible refine g_ld ?_); (refine h_ld txs H 2 rfl rfl rfl rfl ?_)) | ((with_reducible refine g_cl ?_); refine l_p txs rfl rfl ?_))))
    (with_reducible refine is_l ?_); refine l_t txs rfl rfl (fun hlt => ?_) (fun hge => ?_)
    · obtain ⟨x, hx⟩ : ∃ x, ns[i]? = some x := ⟨_, List.getElem?_eq_getElem (by omega)⟩
      obtain ⟨ad, rfl⟩ : ∃ ad, NB = some ad := by
        cases NB with
        | none =>
          have := hn.1 rfl
          simp only [strC, List.map_eq_nil_iff] at this
          rw [this] at hx
          simp at hx
        | some ad => exact ⟨ad, rfl⟩
      have hcell := hn.2 ad rfl _ _ (strC_at hx)
      have htk := mkF_take (vs := vs) hx
      repeat' (first | (first | (with_reducible refine p_tn ?_) | (with_reducible refine wp_seq ?_) | (with_reducible refine wp_block ?_) | (with_reducible (refine is_if ?_; (refine w_ift rfl ?_))) | (with_reducible refine wp_skip ?_)) | (with_reducible refine l_nil ?_))
      have HS := H.pick [0, 1, 2] [0] (by decide) (by decide) rfl rfl
      refine e_start (fun w_ => Hp w w_ _ _) [15] #[false, false, false, false, false, false, false, false, false, false, false, false, false, false, false, false] (by kernel_rfl) rfl rfl HS.drew ?_
      have H := H.drew
      have HS := HS.drew
      first | (refine e_pure (i := 0) #[true, false, false, false, false, false, false, false, false, false, false, false, false, false, false, false] rfl (by kernel_rfl) (fun _ _ _ h => h) rfl (fun w_ => evF_run (o := ⟨_, _, _, _, _, _⟩) flds rfl) ?_) | (refine e_pure (i := 0) #[true, false, false, false, false, false, false, false, false, false, false, false, false, false, false, false] rfl (by kernel_rfl) (fun _ _ _ h => h) rfl (fun w_ => evG_run (o := ⟨_, _, _, _, _, _⟩) flds rfl) ?_)
      first | (refine e_take (i := 1) #[true, true, false, false, false, false, false, false, false, false, false, false, false, false, false, false] rfl (by kernel_rfl) (fun _ _ _ h => h) rfl (fun w_ K => evL_run (o := ⟨_, _, _, _, _, _⟩) txs rfl (K.cellAt 0 rfl rfl)) HS ?_) | (refine e_take (i := 1) #[true, true, false, false, false, false, false, false, false, false, false, false, false, false, false, false] rfl (by kernel_rfl) (fun _ _ _ h => h) rfl (fun w_ K => evL_run (o := ⟨_, _, _, _, _, _⟩) txs rfl (K.cellAt 1 rfl rfl)) HS ?_) | (refine e_take (i := 1) #[true, true, false, false, false, false, false, false, false, false, false, false, false, false, false, false] rfl (by kernel_rfl) (fun _ _ _ h => h) rfl (fun w_ K => evL_run (o := ⟨_, _, _, _, _, _⟩) txs rfl (K.cellAt 2 rfl rfl)) HS ?_)
      first | (refine e_pure (i := 2) #[true, true, true, false, false, false, false, false, false, false, false, false, false, false, false, false] rfl (by kernel_rfl) (fun _ _ _ h => h) rfl (fun w_ => evF_run (o := ⟨_, _, _, _, _, _⟩) flds rfl) ?_) | (refine e_pure (i := 2) #[true, true, true, false, false, false, false, false, false, false, false, false, false, false, false, false] rfl (by kernel_rfl) (fun _ _ _ h => h) rfl (fun w_ => evG_run (o := ⟨_, _, _, _, _, _⟩) flds rfl) ?_)
      first | (refine e_take (i := 3) #[true, true, true, true, false, false, false, false, false, false, false, false, false, false, false, false] rfl (by kernel_rfl) (fun _ _ _ h => h) rfl (fun w_ K => evL_run (o := ⟨_, _, _, _, _, _⟩) txs rfl (K.cellAt 0 rfl rfl)) HS ?_) | (refine e_take (i := 3) #[true, true, true, true, false, false, false, false, false, false, false, false, false, false, false, false] rfl (by kernel_rfl) (fun _ _ _ h => h) rfl (fun w_ K => evL_run (o := ⟨_, _, _, _, _, _⟩) txs rfl (K.cellAt 1 rfl rfl)) HS ?_) | (refine e_take (i := 3) #[true, true, true, true, false, false, false, false, false, false, false, false, false, false, false, false] rfl (by kernel_rfl) (fun _ _ _ h => h) rfl (fun w_ K => evL_run (o := ⟨_, _, _, _, _, _⟩) txs rfl (K.cellAt 2 rfl rfl)) HS ?_)
      first | (refine e_pure (i := 4) #[true, true, true, true, true, false, false, false, false, false, false, false, false, false, false, false] rfl (by kernel_rfl) (fun _ _ _ h => h) rfl (fun w_ => evP_run (o := ⟨_, _, _, _, _, _⟩) txs rfl) ?_)
      first | (refine e_pure (i := 5) #[true, true, true, true, true, true, false, false, false, false, false, false, false, false, false, false] rfl (by kernel_rfl) (fun _ _ _ h => h) rfl (fun w_ => evIA_run (o := ⟨_, _, _, _, _, _⟩) txs rfl (by omega) (by omega)) ?_)
      first | (refine e_take (i := 6) #[true, true, true, true, true, true, true, false, false, false, false, false, false, false, false, false] rfl (by kernel_rfl) (fun _ _ _ h => h) rfl (fun w_ K => evL_run (o := ⟨_, _, _, _, _, _⟩) txs rfl (by rw [Int.toNat_natCast]; exact K.old hcell)) HS ?_)
      first | (refine e_pure (i := 7) #[true, true, true, true, true, true, true, true, false, false, false, false, false, false, false, false] rfl (by kernel_rfl) (fun _ _ _ h => h) rfl (fun w_ => evF_run (o := ⟨_, _, _, _, _, _⟩) flds rfl) ?_) | (refine e_pure (i := 7) #[true, true, true, true, true, true, true, true, false, false, false, false, false, false, false, false] rfl (by kernel_rfl) (fun _ _ _ h => h) rfl (fun w_ => evG_run (o := ⟨_, _, _, _, _, _⟩) flds rfl) ?_)
      first | (refine e_take (i := 8) #[true, true, true, true, true, true, true, true, true, false, false, false, false, false, false, false] rfl (by kernel_rfl) (fun _ _ _ h => h) rfl (fun w_ K => evL_run (o := ⟨_, _, _, _, _, _⟩) txs rfl (K.cellAt 0 rfl rfl)) HS ?_) | (refine e_take (i := 8) #[true, true, true, true, true, true, true, true, true, false, false, false, false, false, false, false] rfl (by kernel_rfl) (fun _ _ _ h => h) rfl (fun w_ K => evL_run (o := ⟨_, _, _, _, _, _⟩) txs rfl (K.cellAt 1 rfl rfl)) HS ?_) | (refine e_take (i := 8) #[true, true, true, true, true, true, true, true, true, false, false, false, false, false, false, false] rfl (by kernel_rfl) (fun _ _ _ h => h) rfl (fun w_ K => evL_run (o := ⟨_, _, _, _, _, _⟩) txs rfl (K.cellAt 2 rfl rfl)) HS ?_)
      first | (refine e_pure (i := 9) #[true, true, true, true, true, true, true, true, true, true, false, false, false, false, false, false] rfl (by kernel_rfl) (fun _ _ _ h => h) rfl (fun w_ => evP_run (o := ⟨_, _, _, _, _, _⟩) txs rfl) ?_)
      refine e_one (i := 10) #[true, true, true, true, true, true, true, true, true, true, true, false, false, false, false, false] rfl (by kernel_rfl) (by decide) rfl ?_
      refine l_callv rfl rfl (by kernel_rfl) (value14_c (hv.below H.B) i (by omega)) (fun w_ K => ?_); have H := H.call K
      refine l_nil ?_
      have HS := H.pick [0, 1, 2] [0] (by decide) (by decide) rfl rfl
      refine ⟨rfl, HS, ?_⟩
      first | (refine e_pure (i := 11) #[true, true, true, true, true, true, true, true, true, true, true, true, false, false, false, false] rfl (by kernel_rfl) (fun _ _ _ h => h) rfl (fun w_ => evBld_run (o := ⟨_, _, _, _, _, _⟩) rfl (built_f2 _ _)) ?_)
      refine e_one (i := 12) #[true, true, true, true, true, true, true, true, true, true, true, true, true, false, false, false] rfl (by kernel_rfl) (by decide) rfl ?_
      refine h_bs H info_f Tryz.underlying27 (by decide) (by decide) rfl rfl (fill_f _ _) (fun g_ w_ H => ?_)
      refine l_nil ?_
      have HS := H.pick [1, 2, 3] [0] (by decide) (by decide) rfl rfl
      refine ⟨rfl, HS, ?_⟩
      refine e_one (i := 13) #[true, true, true, true, true, true, true, true, true, true, true, true, true, true, false, false] rfl (by kernel_rfl) (by decide) rfl ?_
      (refine h_app H 1 rfl info_f Tryz.underlying27 rfl rfl rfl rfl (H.cellRd 0 rfl) rfl rfl (by show (i + 1) * 32 ≤ _; omega) (fun v w_ hv H => ?_)); obtain ⟨A', c', rfl⟩ := hv
      refine l_nil ?_
      have HS := H.pick [1, 2, 3] [0] (by decide) (by decide) rfl rfl
      refine ⟨rfl, HS, ?_⟩
      first | (refine e_pure (i := 14) #[true, true, true, true, true, true, true, true, true, true, true, true, true, true, true, false] rfl (by kernel_rfl) (fun _ _ _ h => h) rfl (fun w_ => evF_run (o := ⟨_, _, _, _, _, _⟩) flds rfl) ?_) | (refine e_pure (i := 14) #[true, true, true, true, true, true, true, true, true, true, true, true, true, true, true, false] rfl (by kernel_rfl) (fun _ _ _ h => h) rfl (fun w_ => evG_run (o := ⟨_, _, _, _, _, _⟩) flds rfl) ?_)
      refine e_last (i := 15) #[true, true, true, true, true, true, true, true, true, true, true, true, true, true, true, true] rfl (by kernel_rfl) (by decide) rfl ?_
      refine g_on ?_; ((with_reducible refine g_st ?_); (refine h_st txs ones H 1 rfl rfl rfl rfl rfl rfl rfl rfl rfl (fun w_ H => ?_)))
      refine l_nil ?_
      refine ⟨rfl, ?_⟩
      refine e_done rfl ?_
      repeat' (first | (first | (with_reducible refine p_tn ?_) | (with_reducible refine p_bn ?_) | (with_reducible refine w_reg ?_)) | (first | (with_reducible refine l_nil ?_) | ((with_reducible refine g_on ?_); (first | ((with_reducible refine g_mv ?_); refine l_p txs rfl rfl ?_) | ((with_reducible refine g_as ?_); refine l_p txs rfl rfl ?_) | ((with_reducible refine g_bi ?_); (refine l_a txs rfl rfl (by first | exact in_i64 (by omega) (by omega) | exact in_u8 (by omega) (by omega) | exact in_u64 (by omega) (by omega) | exact in_i32 (by omega) (by omega)) ?_))))))
      refine ⟨(i + 1, A', c'), _, rfl, ⟨rfl, rfl, rfl, rfl, trivial⟩, ⟨?_, by show i + 1 ≤ _; omega⟩, by show _ - (i + 1) < _ - i; omega⟩
      simp only [htk, fldC_snoc]
      exact H.pick [1, 2, 3] [0, 1] (by decide) (by decide) rfl rfl
    · have hall : (mkF ns vs).take i = mkF ns vs := List.take_of_length_le (by omega)
      have hin : i = ns.length := by omega
      subst hin
      rw [hall] at H
      repeat' (first | (first | (with_reducible refine p_tn ?_) | (with_reducible refine p_tx ?_) | (with_reducible refine x_hit ?_) | (with_reducible refine wp_seq ?_) | (with_reducible refine w_reg ?_) | (with_reducible (refine is_if ?_; (refine w_iff rfl ?_))) | (with_reducible refine wp_exit ?_) | (with_reducible refine wp_ret ?_)) | (first | (with_reducible refine l_nil ?_) | ((with_reducible refine g_on ?_); (first | ((with_reducible refine g_ld ?_); (refine h_ldR recs H 0 rfl rfl rfl rfl rfl ?_)) | ((with_reducible refine g_st ?_); (refine h_stR recs H 1 rfl rfl rfl rfl rfl rfl rfl rfl rfl (fun w_ H => ?_)))))))
      refine end_cell recs H 1 rfl rfl rfl rfl rfl ?_
      refine ⟨A2, c2, A1, c1, ?_, ?_⟩
      · show _ = Ending.returned (.agg #[.int .i64 st, .int .i64 mi, .slice A2 (mkF ns vs).length c2, .slice A1 (padS body pad).length c1, .bool false])
        rw [hml]
      · unfold rowF
        rw [hml]
        exact H.pick [] [1, 0] (by decide) (by decide) rfl rfl
theorem look_find (z : ByteArray) (e : Int) : ∀ l : List (Int × L), look z (l.map fun p => (p.1, strOfNums p.2)) e = match findW e l with | some w => strOfNums w | none => z
  | [] => rfl
  | (a, b) :: r => by
    have ih := look_find z e r
    simp only [List.map_cons, look, findW]
    by_cases h : a = e
    · rw [if_pos h, if_pos h]
    · rw [if_neg h, if_neg h]; exact ih
theorem reT_words : reT = wordsS.map fun p => (p.1, strOfNums p.2) := by kernel_rfl
theorem wordsOf_S (e : Int) : wordsOf e = strOfNums ([83, 116, 97, 116, 117, 115, 32] ++ decI e) := by
  unfold wordsOf
  rw [itoa_I]
  refine bl_inj ?_
  rw [bl_cat, blS (decI_bytes e), blS (app_bytes (by intro x hx; simp at hx; omega) (decI_bytes e))]
  rfl
theorem reason_look (e : Int) : look (wordsOf e) reT e = strOfNums (reasonS e) := by
  rw [reT_words, look_find, wordsOf_S]
  unfold reasonS
  cases findW e wordsS <;> rfl
theorem findW_mem (e : Int) : ∀ (l : List (Int × L)) (w : L), findW e l = some w → ∃ p ∈ l, p.2 = w
  | [], w, h => by cases h
  | (a, b) :: r, w, h => by
    simp only [findW] at h
    split at h
    · injection h with h; exact ⟨_, List.mem_cons_self, h⟩
    · obtain ⟨p, hp, hw⟩ := findW_mem e r w h; exact ⟨p, List.mem_cons_of_mem _ hp, hw⟩
theorem words_ok : wordsS.all (fun p => p.2.all (fun x => decide (0 ≤ x) && decide (x ≤ 255)) && decide (p.2.length ≤ 60)) = true := by decide +kernel
theorem reason_ok (e : Int) (h0 : -9223372036854775808 ≤ e) (h1 : e ≤ 9223372036854775807) : Bytes (reasonS e) ∧ (reasonS e).length ≤ 60 := by
  unfold reasonS
  cases hf : findW e wordsS with
  | some w =>
    obtain ⟨p, hp, rfl⟩ := findW_mem e wordsS w hf
    have := List.all_eq_true.1 words_ok p hp
    rw [Bool.and_eq_true, decide_eq_true_eq] at this
    refine ⟨fun x hx => ?_, this.2⟩
    have h2 := List.all_eq_true.1 this.1 x hx
    simpa using h2
  | none =>
    have hs := itoaI_size e h0 h1
    rw [sizeS' (decI_bytes e)] at hs
    refine ⟨app_bytes (by intro x hx; simp at hx; omega) (decI_bytes e), ?_⟩
    show ([83, 116, 97, 116, 117, 115, 32] ++ decI e).length ≤ 60
    rw [List.length_append]
    show 7 + _ ≤ _
    omega
theorem reason_c {w : World} {t2 : TypeId} {fr : Nat × Nat} (hT : w.heap[13]? = some (.cells reC t2 fr)) (hP : TabP w) (e : Int) (he : -9223372036854775808 ≤ e ∧ e ≤ 9223372036854775807) :
    Calls Tryz.prog 65 #[.int .i64 e] w fun en w' => en = .returned (.string (strOfNums (reasonS e))) ∧ Below w.heap.size w w' := by
  have hz : (Lib.itoa e).length ≤ 100 := by
    have := itoaI_size e he.1 he.2
    rw [← itoa_I] at this
    have h2 : (⟨(Lib.itoa e).toArray⟩ : ByteArray).size = (Lib.itoa e).length := by show (Lib.itoa e).toArray.size = _; simp
    omega
  have := re_c hT hP e he hz
  rw [reason_look] at this
  exact this
end Go.Proofs.YthgojbdpmcccaaaGreatDoor.K
end
section
namespace Go.Proofs.YthgojbdpmcccaaaGreatDoor.K
open Go.RowKit Go.Proofs.YthgojbdpmcccaaaGreatDoor.Q Go.Proofs.YthgojbdpmcccaaaGreatDoor.Wb Go.Proofs.YthgojbdpmcccaaaGreatDoorW.PrintWords
set_option linter.unusedVariables false
set_option linter.unusedSimpArgs false
def formT (r : ResS) : Nat := checkResS r.status r.minor (printedS r.fields (toldR r.status r.body)) r.body
def formY (r : ResS) : L := wholeS (startRes r.status r.minor) (printedS r.fields (toldR r.status r.body)) r.body
def FrS (w : World) (r : ResS) (e : Ending) (w' : World) : Prop := Below w.heap.size w w' ∧ ∃ v, e = .returned (.tuple #[v, .int .i64 (formT r : Int)]) ∧ (formT r ≠ 0 → v = .slice none 0 0) ∧ (formT r = 0 → BytB w w' (formY r) v)
theorem toldR_le {st : Int} {b : L} (hl : b.length ≤ 10000000) : ∀ n, toldR st b = some n → n ≤ 10000000 := fun n hn => by
  unfold toldR at hn
  split at hn
  · cases hn
  · injection hn with hn; omega
theorem res_ok {st mi : Int} {l : List Fld} {b : L} (h : checkResS st mi l b = 0) : headLen l ≤ 16384 ∧ l.length ≤ 64 ∧ b.length ≤ 1048576 := by
  unfold checkResS at h
  repeat' (split at h; · first | (cases h; done) | skip)
  omega
set_option maxRecDepth 100000 in
set_option maxHeartbeats 16000000 in
theorem FormatResponse_c {A : Nat → Addr} {w : World} (hE : LayS A w) (h13 : Sent w (gE 13) (A 13)) (hP : TabP w) {tR : TypeId} {frR : Nat × Nat} (hRe : w.heap[13]? = some (.cells reC tR frR))
    (r : ResS) {F B1 : Option Addr} {f1 b1 : Nat} (hst : -9223372036854775808 ≤ r.status ∧ r.status ≤ 9223372036854775807) (hmi : -9223372036854775808 ≤ r.minor ∧ r.minor ≤ 9223372036854775807)
    (hR : Rd w F (fldC r.fields)) (hb : BytesF r.fields) (hl : r.fields.length ≤ 5000000) (hr : ReadsInt w .u8 B1 r.body.length r.body) (hbb : Bytes r.body) (hbl : r.body.length ≤ 10000000) :
    Calls Tryz.prog 28 #[.agg (resA r F f1 B1 b1)] w (FrS w r) := by
  have zi := itoaI_size r.minor hmi.1 hmi.2
  have zs := itoaI_size r.status hst.1 hst.2
  have rok := reason_ok r.status hst.1 hst.2
  have zr := sizeS' rok.1
  have c4 := (hE.sent 4 (by decide) (by decide)).cell
  have c7 := (hE.sent 7 (by decide) (by decide)).cell
  have c10 := (hE.sent 10 (by decide) (by decide)).cell
  have c13 := h13.cell
  have hReb : ∀ w1, Below w.heap.size w w1 → w1.heap[13]? = some (.cells reC tR frR) := fun w1 K => (K.block _ (blk_lt hRe)).trans hRe
  refine enter (args := [.agg (resA r F f1 B1 b1)]) Tryz.func28 rfl Tryz.ntmps28 rfl ?_
  have H := Hp.nil w
  repeat' (first | (first | (with_reducible refine p_tn ?_) | (with_reducible refine wp_seq ?_) | (with_reducible refine w_reg ?_)) | (first | (with_reducible refine l_nil ?_) | ((with_reducible refine g_on ?_); (first | ((with_reducible refine g_as ?_); refine l_p txs rfl rfl ?_) | ((with_reducible refine g_fa ?_); refine h_fa flds rfl rfl ?_) | ((with_reducible refine g_ld ?_); (refine h_ld txs H 0 rfl rfl rfl rfl ?_)) | ((with_reducible refine g_bx ?_); refine h_box H rfl rfl rfl (fun g_ w_ H => ?_))))))
  (with_reducible refine is_l ?_); refine l_callp rfl rfl (by kernel_rfl) (bodiless_c r.status _) ?_
  repeat' (first | (first | (with_reducible refine p_tn ?_) | (with_reducible refine wp_seq ?_)) | (first | (with_reducible refine l_nil ?_) | ((with_reducible refine g_on ?_); ((with_reducible refine g_as ?_); refine l_p txs rfl rfl ?_))))
  have HS := H.pick [0] [] (by decide) (by decide) rfl rfl
  refine d_start (fun w_ => Hp w w_ _ _) #[false, false, false, false, false, false, false, false, false, false, false, false, false, false, false] (by kernel_rfl) rfl rfl HS.drew ?_
  have H := H.drew
  have HS := HS.drew
  first | (refine d_pure (i := 0) #[true, false, false, false, false, false, false, false, false, false, false, false, false, false, false] rfl (by kernel_rfl) (fun _ _ _ h => h) rfl (fun w_ => evF_run (o := ⟨_, _, _, _, _, _⟩) flds rfl) ?_) | (refine d_pure (i := 0) #[true, false, false, false, false, false, false, false, false, false, false, false, false, false, false] rfl (by kernel_rfl) (fun _ _ _ h => h) rfl (fun w_ => evG_run (o := ⟨_, _, _, _, _, _⟩) flds rfl) ?_)
  first | (refine d_take (i := 1) #[true, true, false, false, false, false, false, false, false, false, false, false, false, false, false] rfl (by kernel_rfl) (fun _ _ _ h => h) rfl (fun w_ K => evL_run (o := ⟨_, _, _, _, _, _⟩) txs rfl (K.cellAt 0 rfl rfl)) HS ?_)
  first | (refine d_pure (i := 5) #[true, true, false, false, false, true, false, false, false, false, false, false, false, false, false] rfl (by kernel_rfl) (fun _ _ _ h => h) rfl (fun w_ => evF_run (o := ⟨_, _, _, _, _, _⟩) flds rfl) ?_) | (refine d_pure (i := 5) #[true, true, false, false, false, true, false, false, false, false, false, false, false, false, false] rfl (by kernel_rfl) (fun _ _ _ h => h) rfl (fun w_ => evG_run (o := ⟨_, _, _, _, _, _⟩) flds rfl) ?_)
  first | (refine d_take (i := 6) #[true, true, false, false, false, true, true, false, false, false, false, false, false, false, false] rfl (by kernel_rfl) (fun _ _ _ h => h) rfl (fun w_ K => evL_run (o := ⟨_, _, _, _, _, _⟩) txs rfl (K.cellAt 0 rfl rfl)) HS ?_)
  first | (refine d_pure (i := 10) #[true, true, false, false, false, true, true, false, false, false, true, false, false, false, false] rfl (by kernel_rfl) (fun _ _ _ h => h) rfl (fun w_ => evF_run (o := ⟨_, _, _, _, _, _⟩) flds rfl) ?_) | (refine d_pure (i := 10) #[true, true, false, false, false, true, true, false, false, false, true, false, false, false, false] rfl (by kernel_rfl) (fun _ _ _ h => h) rfl (fun w_ => evG_run (o := ⟨_, _, _, _, _, _⟩) flds rfl) ?_)
  first | (refine d_take (i := 11) #[true, true, false, false, false, true, true, false, false, false, true, true, false, false, false] rfl (by kernel_rfl) (fun _ _ _ h => h) rfl (fun w_ K => evL_run (o := ⟨_, _, _, _, _, _⟩) txs rfl (K.cellAt 0 rfl rfl)) HS ?_)
  refine d_one (i := 2) #[true, true, true, false, false, true, true, false, false, false, true, true, false, false, false] rfl (by kernel_rfl) rfl ?_
  refine l_callv rfl rfl (by kernel_rfl) (itoaI_c (hP.below H.B) _ hmi.1 hmi.2) (fun w_ K => ?_); have H := H.call K
  refine l_nil ?_
  have HS := H.pick [0] [] (by decide) (by decide) rfl rfl
  refine ⟨rfl, HS, ?_⟩
  first | (refine d_pure (i := 3) #[true, true, true, true, false, true, true, false, false, false, true, true, false, false, false] rfl (by kernel_rfl) (fun _ _ _ h => h) rfl (fun w_ => evCat_run (o := ⟨_, _, _, _, _, _⟩) rfl (by show 7 + _ ≤ _; omega)) ?_)
  first | (refine d_pure (i := 4) #[true, true, true, true, true, true, true, false, false, false, true, true, false, false, false] rfl (by kernel_rfl) (fun _ _ _ h => h) rfl (fun w_ => evCat_run (o := ⟨_, _, _, _, _, _⟩) rfl (by rw [ByteArray.size_append]; show 7 + _ + 1 ≤ _; omega)) ?_)
  refine d_one (i := 7) #[true, true, true, true, true, true, true, true, false, false, true, true, false, false, false] rfl (by kernel_rfl) rfl ?_
  refine l_callv rfl rfl (by kernel_rfl) (itoaI_c (hP.below H.B) _ hst.1 hst.2) (fun w_ K => ?_); have H := H.call K
  refine l_nil ?_
  have HS := H.pick [0] [] (by decide) (by decide) rfl rfl
  refine ⟨rfl, HS, ?_⟩
  first | (refine d_pure (i := 8) #[true, true, true, true, true, true, true, true, true, false, true, true, false, false, false] rfl (by kernel_rfl) (fun _ _ _ h => h) rfl (fun w_ => evCat_run (o := ⟨_, _, _, _, _, _⟩) rfl (by rw [ByteArray.size_append, ByteArray.size_append]; show 7 + _ + 1 + _ ≤ _; omega)) ?_)
  first | (refine d_pure (i := 9) #[true, true, true, true, true, true, true, true, true, true, true, true, false, false, false] rfl (by kernel_rfl) (fun _ _ _ h => h) rfl (fun w_ => evCat_run (o := ⟨_, _, _, _, _, _⟩) rfl (by rw [ByteArray.size_append, ByteArray.size_append, ByteArray.size_append]; show 7 + _ + 1 + _ + 1 ≤ _; omega)) ?_)
  refine d_one (i := 12) #[true, true, true, true, true, true, true, true, true, true, true, true, true, false, false] rfl (by kernel_rfl) rfl ?_
  refine l_callv rfl rfl (by kernel_rfl) (reason_c (hReb _ H.B) (hP.below H.B) _ hst) (fun w_ K => ?_); have H := H.call K
  refine l_nil ?_
  have HS := H.pick [0] [] (by decide) (by decide) rfl rfl
  refine ⟨rfl, HS, ?_⟩
  first | (refine d_pure (i := 13) #[true, true, true, true, true, true, true, true, true, true, true, true, true, true, false] rfl (by kernel_rfl) (fun _ _ _ h => h) rfl (fun w_ => evCat_run (o := ⟨_, _, _, _, _, _⟩) rfl (by rw [ByteArray.size_append, ByteArray.size_append, ByteArray.size_append, ByteArray.size_append]; show 7 + _ + 1 + _ + 1 + _ ≤ _; omega)) ?_)
  first | (refine d_pure (i := 14) #[true, true, true, true, true, true, true, true, true, true, true, true, true, true, true] rfl (by kernel_rfl) (fun _ _ _ h => h) rfl (fun w_ => evP_run (o := ⟨_, _, _, _, _, _⟩) txs rfl) ?_)
  refine d_done rfl ?_
  repeat' (first | (first | (with_reducible refine p_tn ?_) | (with_reducible refine wp_seq ?_) | (with_reducible refine w_reg ?_)) | ((with_reducible refine g_on ?_); (first | ((with_reducible refine g_mv ?_); refine l_p txs rfl rfl ?_) | ((with_reducible refine g_fa ?_); refine h_fa flds rfl rfl ?_) | ((with_reducible refine g_ld ?_); (refine h_ld txs H 0 rfl rfl rfl rfl ?_)) | ((with_reducible refine g_un ?_); (refine l_p txs rfl rfl ?_)) | ((with_reducible refine g_cl ?_); refine l_p txs rfl rfl ?_))))
  have hpr := printed_c (c := f1) (hP.below H.B) (hR.below H.B) hb (by omega) r.body.length (by omega) (!bareS r.status)
  have hto : (if (!bareS r.status) = true then some r.body.length else none) = toldR r.status r.body := by unfold toldR; cases bareS r.status <;> rfl
  rw [hto] at hpr
  have hpb : BytesF (printedS r.fields (toldR r.status r.body)) := printed_bytes hb (toldR_le hbl)
  have hpl := printed_len' r.fields (toldR r.status r.body)
  (with_reducible refine is_l ?_); refine l_call rfl rfl (by kernel_rfl) hpr (fun e w_ hR2 => ?_)
  obtain ⟨F2, f2, rfl, K⟩ := hR2
  refine ⟨_, rfl, ?_⟩
  have H := H.join K
  repeat' (first | (first | (with_reducible refine p_tn ?_) | (with_reducible refine wp_seq ?_) | (with_reducible refine wp_block ?_) | (with_reducible refine w_reg ?_)) | (first | (with_reducible refine l_nil ?_) | ((with_reducible refine g_on ?_); (first | ((with_reducible refine g_mv ?_); refine l_p txs rfl rfl ?_) | ((with_reducible refine g_as ?_); refine l_p txs rfl rfl ?_)))))
  have hlo := long_c (c := f2) (rowF_rd H 0 rfl) hpb (by omega)
  by_cases h2 : 16384 < headLen (printedS r.fields (toldR r.status r.body))
  · have hk : formT r = 2 := by unfold formT checkResS; rw [if_pos h2]
    have hv : ErrOf A (errV (A 4)) 2 := ⟨4, by decide, by decide, rfl, .inl rfl⟩
    rw [decide_eq_true h2] at hlo
    (with_reducible refine is_l ?_); refine l_callv rfl rfl (by kernel_rfl) hlo (fun w_ K => ?_)
    have H := H.call K
    repeat' (first | (first | (with_reducible refine p_tn ?_) | (with_reducible refine w_reg ?_) | (with_reducible (refine is_if ?_; (refine w_ift rfl ?_)))) | (first | (with_reducible refine l_nil ?_) | ((with_reducible refine g_on ?_); ((with_reducible refine g_as ?_); refine l_p txs rfl rfl ?_))))
    (with_reducible refine is_l ?_); refine l_ld txs rfl rfl (H.old c4) ?_
    repeat' (first | (first | (with_reducible refine p_tn ?_) | (with_reducible refine p_bn ?_) | (with_reducible refine wp_seq ?_) | (with_reducible refine w_reg ?_)) | (first | (with_reducible refine l_nil ?_) | ((with_reducible refine g_on ?_); (first | ((with_reducible refine g_mv ?_); refine l_p txs rfl rfl ?_) | ((with_reducible refine g_as ?_); refine l_p txs rfl rfl ?_)))))
    (with_reducible refine is_l ?_); refine l_t txs rfl rfl (fun _ => ?_) (fun hh => absurd trivial hh)
    repeat' (first | (first | (with_reducible refine p_tn ?_) | (with_reducible refine wp_seq ?_) | (with_reducible refine w_reg ?_) | (with_reducible (refine is_if ?_; (refine w_ift rfl ?_)))) | (first | (with_reducible refine l_nil ?_) | ((with_reducible refine g_on ?_); ((with_reducible refine g_mv ?_); refine l_p txs rfl rfl ?_))))
    (with_reducible refine is_l ?_); refine l_callv rfl rfl (by kernel_rfl) (errOf_c (hE.below H.B) hv) (fun w_ K => ?_)
    have H := H.call K
    repeat' (first | (first | (with_reducible refine p_tn ?_) | (with_reducible refine p_tr ?_) | (with_reducible refine wp_ret ?_)) | (first | (with_reducible refine l_nil ?_) | ((with_reducible refine g_on ?_); ((with_reducible refine g_as ?_); refine l_p txs rfl rfl ?_))))
    refine end2 rfl rfl rfl ?_
    exact ⟨H.B, _, by rw [hk], fun _ => rfl, fun h => absurd (hk.symm.trans h) (by decide)⟩
  rw [decide_eq_false h2] at hlo
  (with_reducible refine is_l ?_); refine l_callv rfl rfl (by kernel_rfl) hlo (fun w_ K => ?_)
  have H := H.call K
  repeat' (first | (first | (with_reducible refine p_tn ?_) | (with_reducible refine wp_seq ?_) | (with_reducible refine w_reg ?_) | (with_reducible (refine is_if ?_; (refine w_iff rfl ?_)))) | (first | (with_reducible refine l_nil ?_) | ((with_reducible refine g_on ?_); (first | ((with_reducible refine g_as ?_); refine l_p txs rfl rfl ?_) | ((with_reducible refine g_fa ?_); refine h_fa flds rfl rfl ?_) | ((with_reducible refine g_ld ?_); (refine h_ld txs H 0 rfl rfl rfl rfl ?_))))))
  (with_reducible refine is_l ?_); refine l_t txs rfl rfl (fun m0 => ?_) (fun m0 => ?_)
  · repeat' (first | ((with_reducible refine g_on ?_); ((with_reducible refine g_mv ?_); refine l_p txs rfl rfl ?_)) | ((with_reducible refine g_if ?_); (first | ((with_reducible refine g_fa ?_); refine h_fa flds rfl rfl ?_) | ((with_reducible refine g_ld ?_); (refine h_ld txs H 0 rfl rfl rfl rfl ?_)))))
    (with_reducible refine is_l ?_); refine l_t txs rfl rfl (fun m1 => ?_) (fun m1 => ?_)
    · have h3 : r.minor ≠ 0 ∧ r.minor ≠ 1 := ⟨m0, m1⟩
      have hk : formT r = 142 := by unfold formT checkResS; rw [if_neg h2, if_pos h3]
      have hv : ErrOf A (errV (A 7)) 142 := ⟨7, by decide, by decide, rfl, .inl rfl⟩
      repeat' (first | (first | (with_reducible refine p_tn ?_) | (with_reducible refine w_reg ?_) | (with_reducible (refine is_if ?_; (refine w_ift rfl ?_)))) | (first | (with_reducible refine l_nil ?_) | ((with_reducible refine g_on ?_); (first | ((with_reducible refine g_as ?_); refine l_p txs rfl rfl ?_) | ((with_reducible refine g_pk ?_); refine l_p txs rfl rfl ?_)))))
      (with_reducible refine is_l ?_); refine l_ld txs rfl rfl (H.old c7) ?_
      repeat' (first | (first | (with_reducible refine p_tn ?_) | (with_reducible refine p_bn ?_) | (with_reducible refine wp_seq ?_) | (with_reducible refine w_reg ?_)) | (first | (with_reducible refine l_nil ?_) | ((with_reducible refine g_on ?_); (first | ((with_reducible refine g_mv ?_); refine l_p txs rfl rfl ?_) | ((with_reducible refine g_as ?_); refine l_p txs rfl rfl ?_)))))
      (with_reducible refine is_l ?_); refine l_t txs rfl rfl (fun _ => ?_) (fun hh => absurd trivial hh)
      repeat' (first | (first | (with_reducible refine p_tn ?_) | (with_reducible refine wp_seq ?_) | (with_reducible refine w_reg ?_) | (with_reducible (refine is_if ?_; (refine w_ift rfl ?_)))) | (first | (with_reducible refine l_nil ?_) | ((with_reducible refine g_on ?_); ((with_reducible refine g_mv ?_); refine l_p txs rfl rfl ?_))))
      (with_reducible refine is_l ?_); refine l_callv rfl rfl (by kernel_rfl) (errOf_c (hE.below H.B) hv) (fun w_ K => ?_)
      have H := H.call K
      repeat' (first | (first | (with_reducible refine p_tn ?_) | (with_reducible refine p_tr ?_) | (with_reducible refine wp_ret ?_)) | (first | (with_reducible refine l_nil ?_) | ((with_reducible refine g_on ?_); ((with_reducible refine g_as ?_); refine l_p txs rfl rfl ?_))))
      refine end2 rfl rfl rfl ?_
      exact ⟨H.B, _, by rw [hk], fun _ => rfl, fun h => absurd (hk.symm.trans h) (by decide)⟩
    · have h3 : ¬ (r.minor ≠ 0 ∧ r.minor ≠ 1) := fun h => m1 h.2
      repeat' (first | (first | (with_reducible refine p_tn ?_) | (with_reducible refine wp_seq ?_) | (with_reducible refine w_reg ?_) | (with_reducible (refine is_if ?_; (refine w_iff rfl ?_)))) | (first | (with_reducible refine l_nil ?_) | ((with_reducible refine g_on ?_); (first | ((with_reducible refine g_as ?_); refine l_p txs rfl rfl ?_) | ((with_reducible refine g_pk ?_); refine l_p txs rfl rfl ?_) | ((with_reducible refine g_fa ?_); refine h_fa flds rfl rfl ?_) | ((with_reducible refine g_ld ?_); (refine h_ld txs H 0 rfl rfl rfl rfl ?_))))))
      (with_reducible refine is_l ?_); refine l_t txs rfl rfl (fun h4 => ?_) (fun h4 => ?_)
      · have hk : formT r = 149 := by unfold formT checkResS; rw [if_neg h2, if_neg h3, if_pos (.inl (by omega))]
        have hv : ErrOf A (errV (A 13)) 149 := ⟨13, by decide, by decide, rfl, .inl rfl⟩
        repeat' (first | (first | (with_reducible refine p_tn ?_) | (with_reducible refine w_reg ?_) | (with_reducible (refine is_if ?_; (refine w_ift rfl ?_)))) | (first | (with_reducible refine l_nil ?_) | ((with_reducible refine g_on ?_); (first | ((with_reducible refine g_mv ?_); refine l_p txs rfl rfl ?_) | ((with_reducible refine g_as ?_); refine l_p txs rfl rfl ?_) | ((with_reducible refine g_pk ?_); refine l_p txs rfl rfl ?_))) | ((with_reducible refine g_if ?_); (refine l_off rfl ?_))))
        (with_reducible refine is_l ?_); refine l_ld txs rfl rfl (H.old c13) ?_
        repeat' (first | (first | (with_reducible refine p_tn ?_) | (with_reducible refine p_bn ?_) | (with_reducible refine wp_seq ?_) | (with_reducible refine w_reg ?_)) | (first | (with_reducible refine l_nil ?_) | ((with_reducible refine g_on ?_); (first | ((with_reducible refine g_mv ?_); refine l_p txs rfl rfl ?_) | ((with_reducible refine g_as ?_); refine l_p txs rfl rfl ?_)))))
        (with_reducible refine is_l ?_); refine l_t txs rfl rfl (fun _ => ?_) (fun hh => absurd trivial hh)
        repeat' (first | (first | (with_reducible refine p_tn ?_) | (with_reducible refine wp_seq ?_) | (with_reducible refine w_reg ?_) | (with_reducible (refine is_if ?_; (refine w_ift rfl ?_)))) | (first | (with_reducible refine l_nil ?_) | ((with_reducible refine g_on ?_); ((with_reducible refine g_mv ?_); refine l_p txs rfl rfl ?_))))
        (with_reducible refine is_l ?_); refine l_callv rfl rfl (by kernel_rfl) (errOf_c (hE.below H.B) hv) (fun w_ K => ?_)
        have H := H.call K
        repeat' (first | (first | (with_reducible refine p_tn ?_) | (with_reducible refine p_tr ?_) | (with_reducible refine wp_ret ?_)) | (first | (with_reducible refine l_nil ?_) | ((with_reducible refine g_on ?_); ((with_reducible refine g_as ?_); refine l_p txs rfl rfl ?_))))
        refine end2 rfl rfl rfl ?_
        exact ⟨H.B, _, by rw [hk], fun _ => rfl, fun h => absurd (hk.symm.trans h) (by decide)⟩
      repeat' (first | ((with_reducible refine g_on ?_); ((with_reducible refine g_mv ?_); refine l_p txs rfl rfl ?_)) | ((with_reducible refine g_if ?_); (first | ((with_reducible refine g_fa ?_); refine h_fa flds rfl rfl ?_) | ((with_reducible refine g_ld ?_); (refine h_ld txs H 0 rfl rfl rfl rfl ?_)))))
      (with_reducible refine is_l ?_); refine l_t txs rfl rfl (fun h5 => ?_) (fun h5 => ?_)
      · have hk : formT r = 149 := by unfold formT checkResS; rw [if_neg h2, if_neg h3, if_pos (.inr (by omega))]
        have hv : ErrOf A (errV (A 13)) 149 := ⟨13, by decide, by decide, rfl, .inl rfl⟩
        repeat' (first | (first | (with_reducible refine p_tn ?_) | (with_reducible refine w_reg ?_) | (with_reducible (refine is_if ?_; (refine w_ift rfl ?_)))) | (first | (with_reducible refine l_nil ?_) | ((with_reducible refine g_on ?_); (first | ((with_reducible refine g_as ?_); refine l_p txs rfl rfl ?_) | ((with_reducible refine g_pk ?_); refine l_p txs rfl rfl ?_)))))
        (with_reducible refine is_l ?_); refine l_ld txs rfl rfl (H.old c13) ?_
        repeat' (first | (first | (with_reducible refine p_tn ?_) | (with_reducible refine p_bn ?_) | (with_reducible refine wp_seq ?_) | (with_reducible refine w_reg ?_)) | (first | (with_reducible refine l_nil ?_) | ((with_reducible refine g_on ?_); (first | ((with_reducible refine g_mv ?_); refine l_p txs rfl rfl ?_) | ((with_reducible refine g_as ?_); refine l_p txs rfl rfl ?_)))))
        (with_reducible refine is_l ?_); refine l_t txs rfl rfl (fun _ => ?_) (fun hh => absurd trivial hh)
        repeat' (first | (first | (with_reducible refine p_tn ?_) | (with_reducible refine wp_seq ?_) | (with_reducible refine w_reg ?_) | (with_reducible (refine is_if ?_; (refine w_ift rfl ?_)))) | (first | (with_reducible refine l_nil ?_) | ((with_reducible refine g_on ?_); ((with_reducible refine g_mv ?_); refine l_p txs rfl rfl ?_))))
        (with_reducible refine is_l ?_); refine l_callv rfl rfl (by kernel_rfl) (errOf_c (hE.below H.B) hv) (fun w_ K => ?_)
        have H := H.call K
        repeat' (first | (first | (with_reducible refine p_tn ?_) | (with_reducible refine p_tr ?_) | (with_reducible refine wp_ret ?_)) | (first | (with_reducible refine l_nil ?_) | ((with_reducible refine g_on ?_); ((with_reducible refine g_as ?_); refine l_p txs rfl rfl ?_))))
        refine end2 rfl rfl rfl ?_
        exact ⟨H.B, _, by rw [hk], fun _ => rfl, fun h => absurd (hk.symm.trans h) (by decide)⟩
      have h45 : ¬ (r.status < 100 ∨ 599 < r.status) := by omega
      repeat' (first | (first | (with_reducible refine p_tn ?_) | (with_reducible refine wp_seq ?_) | (with_reducible refine w_reg ?_) | (with_reducible (refine is_if ?_; (refine w_iff rfl ?_)))) | (first | (with_reducible refine l_nil ?_) | ((with_reducible refine g_on ?_); (first | ((with_reducible refine g_mv ?_); refine l_p txs rfl rfl ?_) | ((with_reducible refine g_as ?_); refine l_p txs rfl rfl ?_) | ((with_reducible refine g_pk ?_); refine l_p txs rfl rfl ?_)))))
      have hcf := checkFields_c (c := f2) (hE.below H.B) (rowF_rd H 0 rfl) hpb
      by_cases h9 : 64 < (printedS r.fields (toldR r.status r.body)).length
      · have hck : chkS (printedS r.fields (toldR r.status r.body)) = some 4 := by unfold chkS; rw [if_pos h9]
        have hk : formT r = 2 := by unfold formT checkResS; rw [if_neg h2, if_neg h3, if_neg h45, if_pos h9]
        have hv : ErrOf A (placV tFields (errV (A 4))) 2 := ⟨4, by decide, by decide, rfl, .inr ⟨by decide, tFields, rfl⟩⟩
        rw [hck] at hcf
        (with_reducible refine is_l ?_); refine l_callv rfl rfl (by kernel_rfl) hcf (fun w_ K => ?_)
        have H := H.call K
        skip
        (with_reducible refine is_l ?_); refine l_callp rfl rfl (by kernel_rfl) (in_c tFields _ _ _) ?_
        repeat' (first | (first | (with_reducible refine p_tn ?_) | (with_reducible refine wp_seq ?_) | (with_reducible refine w_reg ?_)) | (first | (with_reducible refine l_nil ?_) | ((with_reducible refine g_on ?_); (first | ((with_reducible refine g_mv ?_); refine l_p txs rfl rfl ?_) | ((with_reducible refine g_as ?_); refine l_p txs rfl rfl ?_)))))
        (with_reducible refine is_l ?_); refine l_t txs rfl rfl (fun hh => hh.elim) (fun _ => ?_)
        repeat' (first | (first | (with_reducible refine p_tn ?_) | (with_reducible refine p_bn ?_) | (with_reducible refine wp_seq ?_) | (with_reducible refine w_reg ?_) | (with_reducible (refine is_if ?_; (refine w_iff rfl ?_))) | (with_reducible refine wp_skip ?_)) | (first | (with_reducible refine l_nil ?_) | ((with_reducible refine g_on ?_); (first | ((with_reducible refine g_mv ?_); refine l_p txs rfl rfl ?_) | ((with_reducible refine g_pk ?_); refine l_p txs rfl rfl ?_))) | ((with_reducible refine g_if ?_); (refine l_off rfl ?_))))
        (with_reducible refine is_l ?_); refine l_t txs rfl rfl (fun _ => ?_) (fun hh => absurd trivial hh)
        repeat' (first | (first | (with_reducible refine p_tn ?_) | (with_reducible refine wp_seq ?_) | (with_reducible refine w_reg ?_) | (with_reducible (refine is_if ?_; (refine w_ift rfl ?_)))) | (first | (with_reducible refine l_nil ?_) | ((with_reducible refine g_on ?_); ((with_reducible refine g_mv ?_); refine l_p txs rfl rfl ?_))))
        (with_reducible refine is_l ?_); refine l_callv rfl rfl (by kernel_rfl) (errOf_c (hE.below H.B) hv) (fun w_ K => ?_)
        have H := H.call K
        repeat' (first | (first | (with_reducible refine p_tn ?_) | (with_reducible refine p_tr ?_) | (with_reducible refine wp_ret ?_)) | (first | (with_reducible refine l_nil ?_) | ((with_reducible refine g_on ?_); ((with_reducible refine g_as ?_); refine l_p txs rfl rfl ?_))))
        refine end2 rfl rfl rfl ?_
        exact ⟨H.B, _, by rw [hk], fun _ => rfl, fun h => absurd (hk.symm.trans h) (by decide)⟩
      cases h10 : (printedS r.fields (toldR r.status r.body)).all goodF
      · have hck : chkS (printedS r.fields (toldR r.status r.body)) = some 8 := by unfold chkS; rw [if_neg h9, h10]; rfl
        have hk : formT r = 143 := by unfold formT checkResS; rw [if_neg h2, if_neg h3, if_neg h45, if_neg h9, if_pos h10]
        have hv : ErrOf A (placV tFields (errV (A 8))) 143 := ⟨8, by decide, by decide, rfl, .inr ⟨by decide, tFields, rfl⟩⟩
        rw [hck] at hcf
        (with_reducible refine is_l ?_); refine l_callv rfl rfl (by kernel_rfl) hcf (fun w_ K => ?_)
        have H := H.call K
        skip
        (with_reducible refine is_l ?_); refine l_callp rfl rfl (by kernel_rfl) (in_c tFields _ _ _) ?_
        repeat' (first | (first | (with_reducible refine p_tn ?_) | (with_reducible refine wp_seq ?_) | (with_reducible refine w_reg ?_)) | (first | (with_reducible refine l_nil ?_) | ((with_reducible refine g_on ?_); (first | ((with_reducible refine g_mv ?_); refine l_p txs rfl rfl ?_) | ((with_reducible refine g_as ?_); refine l_p txs rfl rfl ?_)))))
        (with_reducible refine is_l ?_); refine l_t txs rfl rfl (fun hh => hh.elim) (fun _ => ?_)
        repeat' (first | (first | (with_reducible refine p_tn ?_) | (with_reducible refine p_bn ?_) | (with_reducible refine wp_seq ?_) | (with_reducible refine w_reg ?_) | (with_reducible (refine is_if ?_; (refine w_iff rfl ?_))) | (with_reducible refine wp_skip ?_)) | (first | (with_reducible refine l_nil ?_) | ((with_reducible refine g_on ?_); (first | ((with_reducible refine g_mv ?_); refine l_p txs rfl rfl ?_) | ((with_reducible refine g_pk ?_); refine l_p txs rfl rfl ?_))) | ((with_reducible refine g_if ?_); (refine l_off rfl ?_))))
        (with_reducible refine is_l ?_); refine l_t txs rfl rfl (fun _ => ?_) (fun hh => absurd trivial hh)
        repeat' (first | (first | (with_reducible refine p_tn ?_) | (with_reducible refine wp_seq ?_) | (with_reducible refine w_reg ?_) | (with_reducible (refine is_if ?_; (refine w_ift rfl ?_)))) | (first | (with_reducible refine l_nil ?_) | ((with_reducible refine g_on ?_); ((with_reducible refine g_mv ?_); refine l_p txs rfl rfl ?_))))
        (with_reducible refine is_l ?_); refine l_callv rfl rfl (by kernel_rfl) (errOf_c (hE.below H.B) hv) (fun w_ K => ?_)
        have H := H.call K
        repeat' (first | (first | (with_reducible refine p_tn ?_) | (with_reducible refine p_tr ?_) | (with_reducible refine wp_ret ?_)) | (first | (with_reducible refine l_nil ?_) | ((with_reducible refine g_on ?_); ((with_reducible refine g_as ?_); refine l_p txs rfl rfl ?_))))
        refine end2 rfl rfl rfl ?_
        exact ⟨H.B, _, by rw [hk], fun _ => rfl, fun h => absurd (hk.symm.trans h) (by decide)⟩
      have hck : chkS (printedS r.fields (toldR r.status r.body)) = none := by unfold chkS; rw [if_neg h9, h10]; rfl
      have hkk : formT r = if 1048576 < r.body.length ∨ (bareS r.status = true ∧ r.body ≠ []) then 145 else 0 := by unfold formT checkResS; rw [if_neg h2, if_neg h3, if_neg h45, if_neg h9, if_neg (by rw [h10]; simp)]
      rw [hck] at hcf
      (with_reducible refine is_l ?_); refine l_callv rfl rfl (by kernel_rfl) hcf (fun w_ K => ?_)
      have H := H.call K
      skip
      (with_reducible refine is_l ?_); refine l_callp rfl rfl (by kernel_rfl) (in_nil tFields _) ?_
      repeat' (first | (first | (with_reducible refine p_tn ?_) | (with_reducible refine wp_seq ?_) | (with_reducible refine w_reg ?_)) | (first | (with_reducible refine l_nil ?_) | ((with_reducible refine g_on ?_); (first | ((with_reducible refine g_mv ?_); refine l_p txs rfl rfl ?_) | ((with_reducible refine g_as ?_); refine l_p txs rfl rfl ?_)))))
      (with_reducible refine is_l ?_); refine l_t txs rfl rfl (fun _ => ?_) (fun hh => absurd trivial hh)
      repeat' (first | ((with_reducible refine g_on ?_); ((with_reducible refine g_mv ?_); refine l_p txs rfl rfl ?_)) | ((with_reducible refine g_if ?_); (first | ((with_reducible refine g_fa ?_); refine h_fa flds rfl rfl ?_) | ((with_reducible refine g_ld ?_); (refine h_ld txs H 0 rfl rfl rfl rfl ?_)) | ((with_reducible refine g_cl ?_); refine l_p txs rfl rfl ?_))))
      have hv : ErrOf A (errV (A 10)) 145 := ⟨10, by decide, by decide, rfl, .inl rfl⟩
      (with_reducible refine is_l ?_); refine l_t txs rfl rfl (fun h6 => ?_) (fun h6 => ?_)
      · have hk : formT r = 145 := by rw [hkk, if_pos (.inl (by omega))]
        repeat' (first | (first | (with_reducible refine p_tn ?_) | (with_reducible refine w_reg ?_) | (with_reducible (refine is_if ?_; (refine w_ift rfl ?_)))) | (first | (with_reducible refine l_nil ?_) | ((with_reducible refine g_on ?_); ((with_reducible refine g_pk ?_); refine l_p txs rfl rfl ?_)) | ((with_reducible refine g_if ?_); (first | (refine l_off rfl ?_) | (first | ((with_reducible refine g_mv ?_); refine l_p txs rfl rfl ?_) | ((with_reducible refine g_pk ?_); refine l_p txs rfl rfl ?_))))))
        (with_reducible refine is_l ?_); refine l_ld txs rfl rfl (H.old c10) ?_
        repeat' (first | (first | (with_reducible refine p_tn ?_) | (with_reducible refine p_bn ?_) | (with_reducible refine wp_seq ?_) | (with_reducible refine w_reg ?_)) | (first | (with_reducible refine l_nil ?_) | ((with_reducible refine g_on ?_); (first | ((with_reducible refine g_mv ?_); refine l_p txs rfl rfl ?_) | ((with_reducible refine g_as ?_); refine l_p txs rfl rfl ?_)))))
        (with_reducible refine is_l ?_); refine l_t txs rfl rfl (fun _ => ?_) (fun hh => absurd trivial hh)
        repeat' (first | (first | (with_reducible refine p_tn ?_) | (with_reducible refine wp_seq ?_) | (with_reducible refine w_reg ?_) | (with_reducible (refine is_if ?_; (refine w_ift rfl ?_)))) | (first | (with_reducible refine l_nil ?_) | ((with_reducible refine g_on ?_); ((with_reducible refine g_mv ?_); refine l_p txs rfl rfl ?_))))
        (with_reducible refine is_l ?_); refine l_callv rfl rfl (by kernel_rfl) (errOf_c (hE.below H.B) hv) (fun w_ K => ?_)
        have H := H.call K
        repeat' (first | (first | (with_reducible refine p_tn ?_) | (with_reducible refine p_tr ?_) | (with_reducible refine wp_ret ?_)) | (first | (with_reducible refine l_nil ?_) | ((with_reducible refine g_on ?_); ((with_reducible refine g_as ?_); refine l_p txs rfl rfl ?_))))
        refine end2 rfl rfl rfl ?_
        exact ⟨H.B, _, by rw [hk], fun _ => rfl, fun h => absurd (hk.symm.trans h) (by decide)⟩
      cases hbs : bareS r.status
      · have hk : formT r = 0 := by rw [hkk, if_neg (by rw [hbs]; simp; omega)]
        repeat' (first | (first | (with_reducible refine p_tn ?_) | (with_reducible refine p_bn ?_) | (with_reducible refine wp_seq ?_) | (with_reducible refine w_reg ?_) | (with_reducible (refine is_if ?_; (refine w_iff rfl ?_))) | (with_reducible refine wp_skip ?_)) | (first | (with_reducible refine l_nil ?_) | ((with_reducible refine g_on ?_); (first | ((with_reducible refine g_mv ?_); refine l_p txs rfl rfl ?_) | ((with_reducible refine g_pk ?_); refine l_p txs rfl rfl ?_))) | ((with_reducible refine g_if ?_); (first | (refine l_off rfl ?_) | (first | ((with_reducible refine g_mv ?_); refine l_p txs rfl rfl ?_) | ((with_reducible refine g_pk ?_); refine l_p txs rfl rfl ?_))))))
        (with_reducible refine is_l ?_); refine l_t txs rfl rfl (fun hh => absurd hh (by simp)) (fun _ => ?_)
        repeat' (first | (first | (with_reducible refine p_tn ?_) | (with_reducible refine wp_seq ?_) | (with_reducible refine w_reg ?_) | (with_reducible (refine is_if ?_; (refine w_iff rfl ?_))) | (with_reducible refine wp_skip ?_)) | (first | (with_reducible refine l_nil ?_) | ((with_reducible refine g_on ?_); (first | ((with_reducible refine g_mv ?_); refine l_p txs rfl rfl ?_) | ((with_reducible refine g_fa ?_); refine h_fa flds rfl rfl ?_) | ((with_reducible refine g_ld ?_); (refine h_ld txs H 0 rfl rfl rfl rfl ?_))))))
        obtain ⟨o2, o3, o4⟩ := res_ok hk
        (with_reducible refine is_l ?_); refine l_call rfl rfl (by kernel_rfl) (whole_c (rowF_rd H 0 rfl) hpb o2 (hr.below H.B) hbb (by omega) (by rw [ByteArray.size_append, ByteArray.size_append, ByteArray.size_append, ByteArray.size_append, ByteArray.size_append]; show 7 + _ + 1 + _ + 1 + _ ≤ _; omega) (by omega)) (fun e w_ hR4 => ?_)
        obtain ⟨g, cur, c, rfl, q1, q2, q3, q4, q5, q6, q7⟩ := hR4
        refine ⟨_, rfl, ?_⟩
        have hsz := H.B.size
        have H := H.call q2
        simp only [bl_cat, blS (decI_bytes _), blS rok.1] at q1 q7 ⊢
        repeat' (first | (first | (with_reducible refine p_tn ?_) | (with_reducible refine wp_ret ?_)) | (first | (with_reducible refine l_nil ?_) | ((with_reducible refine g_on ?_); ((with_reducible refine g_as ?_); refine l_p txs rfl rfl ?_))))
        refine end2 rfl rfl rfl ?_
        refine ⟨H.B, _, by rw [hk]; rfl, fun h => absurd hk h, fun _ => ⟨g, cur, c, rfl, q1, by omega, q4, q5, q6, q7⟩⟩
      repeat' ((with_reducible refine g_if ?_); (first | ((with_reducible refine g_mv ?_); refine l_p txs rfl rfl ?_) | ((with_reducible refine g_fa ?_); refine h_fa flds rfl rfl ?_) | ((with_reducible refine g_ld ?_); (refine h_ld txs H 0 rfl rfl rfl rfl ?_)) | ((with_reducible refine g_cl ?_); refine l_p txs rfl rfl ?_)))
      (with_reducible refine is_l ?_); refine l_t txs rfl rfl (fun h7 => ?_) (fun h7 => ?_)
      · have hk : formT r = 145 := by rw [hkk, if_pos (.inr ⟨hbs, by intro e; rw [e] at h7; simp at h7⟩)]
        repeat' (first | (first | (with_reducible refine p_tn ?_) | (with_reducible refine w_reg ?_) | (with_reducible (refine is_if ?_; (refine w_ift rfl ?_)))) | (first | (with_reducible refine l_nil ?_) | ((with_reducible refine g_on ?_); ((with_reducible refine g_pk ?_); refine l_p txs rfl rfl ?_)) | ((with_reducible refine g_if ?_); ((with_reducible refine g_pk ?_); refine l_p txs rfl rfl ?_))))
        (with_reducible refine is_l ?_); refine l_ld txs rfl rfl (H.old c10) ?_
        repeat' (first | (first | (with_reducible refine p_tn ?_) | (with_reducible refine p_bn ?_) | (with_reducible refine wp_seq ?_) | (with_reducible refine w_reg ?_)) | (first | (with_reducible refine l_nil ?_) | ((with_reducible refine g_on ?_); (first | ((with_reducible refine g_mv ?_); refine l_p txs rfl rfl ?_) | ((with_reducible refine g_as ?_); refine l_p txs rfl rfl ?_)))))
        (with_reducible refine is_l ?_); refine l_t txs rfl rfl (fun _ => ?_) (fun hh => absurd trivial hh)
        repeat' (first | (first | (with_reducible refine p_tn ?_) | (with_reducible refine wp_seq ?_) | (with_reducible refine w_reg ?_) | (with_reducible (refine is_if ?_; (refine w_ift rfl ?_)))) | (first | (with_reducible refine l_nil ?_) | ((with_reducible refine g_on ?_); ((with_reducible refine g_mv ?_); refine l_p txs rfl rfl ?_))))
        (with_reducible refine is_l ?_); refine l_callv rfl rfl (by kernel_rfl) (errOf_c (hE.below H.B) hv) (fun w_ K => ?_)
        have H := H.call K
        repeat' (first | (first | (with_reducible refine p_tn ?_) | (with_reducible refine p_tr ?_) | (with_reducible refine wp_ret ?_)) | (first | (with_reducible refine l_nil ?_) | ((with_reducible refine g_on ?_); ((with_reducible refine g_as ?_); refine l_p txs rfl rfl ?_))))
        refine end2 rfl rfl rfl ?_
        exact ⟨H.B, _, by rw [hk], fun _ => rfl, fun h => absurd (hk.symm.trans h) (by decide)⟩
      have hk : formT r = 0 := by rw [hkk, if_neg (fun h => h.elim (fun h => by omega) (fun h => h.2 (List.length_eq_zero_iff.1 (by omega))))]
      repeat' (first | (first | (with_reducible refine p_tn ?_) | (with_reducible refine p_bn ?_) | (with_reducible refine wp_seq ?_) | (with_reducible refine w_reg ?_) | (with_reducible (refine is_if ?_; (refine w_iff rfl ?_))) | (with_reducible refine wp_skip ?_)) | (first | (with_reducible refine l_nil ?_) | ((with_reducible refine g_on ?_); (first | ((with_reducible refine g_mv ?_); refine l_p txs rfl rfl ?_) | ((with_reducible refine g_pk ?_); refine l_p txs rfl rfl ?_))) | ((with_reducible refine g_if ?_); ((with_reducible refine g_pk ?_); refine l_p txs rfl rfl ?_))))
      (with_reducible refine is_l ?_); refine l_t txs rfl rfl (fun hh => absurd hh (by simp)) (fun _ => ?_)
      repeat' (first | (first | (with_reducible refine p_tn ?_) | (with_reducible refine wp_seq ?_) | (with_reducible refine w_reg ?_) | (with_reducible (refine is_if ?_; (refine w_iff rfl ?_))) | (with_reducible refine wp_skip ?_)) | (first | (with_reducible refine l_nil ?_) | ((with_reducible refine g_on ?_); (first | ((with_reducible refine g_mv ?_); refine l_p txs rfl rfl ?_) | ((with_reducible refine g_fa ?_); refine h_fa flds rfl rfl ?_) | ((with_reducible refine g_ld ?_); (refine h_ld txs H 0 rfl rfl rfl rfl ?_))))))
      obtain ⟨o2, o3, o4⟩ := res_ok hk
      (with_reducible refine is_l ?_); refine l_call rfl rfl (by kernel_rfl) (whole_c (rowF_rd H 0 rfl) hpb o2 (hr.below H.B) hbb (by omega) (by rw [ByteArray.size_append, ByteArray.size_append, ByteArray.size_append, ByteArray.size_append, ByteArray.size_append]; show 7 + _ + 1 + _ + 1 + _ ≤ _; omega) (by omega)) (fun e w_ hR4 => ?_)
      obtain ⟨g, cur, c, rfl, q1, q2, q3, q4, q5, q6, q7⟩ := hR4
      refine ⟨_, rfl, ?_⟩
      have hsz := H.B.size
      have H := H.call q2
      simp only [bl_cat, blS (decI_bytes _), blS rok.1] at q1 q7 ⊢
      repeat' (first | (first | (with_reducible refine p_tn ?_) | (with_reducible refine wp_ret ?_)) | (first | (with_reducible refine l_nil ?_) | ((with_reducible refine g_on ?_); ((with_reducible refine g_as ?_); refine l_p txs rfl rfl ?_))))
      refine end2 rfl rfl rfl ?_
      refine ⟨H.B, _, by rw [hk]; rfl, fun h => absurd hk h, fun _ => ⟨g, cur, c, rfl, q1, by omega, q4, q5, q6, q7⟩⟩
  · have h3 : ¬ (r.minor ≠ 0 ∧ r.minor ≠ 1) := fun h => m0 h.1
    repeat' (first | (first | (with_reducible refine p_tn ?_) | (with_reducible refine wp_seq ?_) | (with_reducible refine w_reg ?_) | (with_reducible (refine is_if ?_; (refine w_iff rfl ?_)))) | (first | (with_reducible refine l_nil ?_) | ((with_reducible refine g_on ?_); (first | ((with_reducible refine g_mv ?_); refine l_p txs rfl rfl ?_) | ((with_reducible refine g_as ?_); refine l_p txs rfl rfl ?_) | ((with_reducible refine g_pk ?_); refine l_p txs rfl rfl ?_) | ((with_reducible refine g_fa ?_); refine h_fa flds rfl rfl ?_) | ((with_reducible refine g_ld ?_); (refine h_ld txs H 0 rfl rfl rfl rfl ?_)))) | ((with_reducible refine g_if ?_); (refine l_off rfl ?_))))
    (with_reducible refine is_l ?_); refine l_t txs rfl rfl (fun h4 => ?_) (fun h4 => ?_)
    · have hk : formT r = 149 := by unfold formT checkResS; rw [if_neg h2, if_neg h3, if_pos (.inl (by omega))]
      have hv : ErrOf A (errV (A 13)) 149 := ⟨13, by decide, by decide, rfl, .inl rfl⟩
      repeat' (first | (first | (with_reducible refine p_tn ?_) | (with_reducible refine w_reg ?_) | (with_reducible (refine is_if ?_; (refine w_ift rfl ?_)))) | (first | (with_reducible refine l_nil ?_) | ((with_reducible refine g_on ?_); (first | ((with_reducible refine g_mv ?_); refine l_p txs rfl rfl ?_) | ((with_reducible refine g_as ?_); refine l_p txs rfl rfl ?_) | ((with_reducible refine g_pk ?_); refine l_p txs rfl rfl ?_))) | ((with_reducible refine g_if ?_); (refine l_off rfl ?_))))
      (with_reducible refine is_l ?_); refine l_ld txs rfl rfl (H.old c13) ?_
      repeat' (first | (first | (with_reducible refine p_tn ?_) | (with_reducible refine p_bn ?_) | (with_reducible refine wp_seq ?_) | (with_reducible refine w_reg ?_)) | (first | (with_reducible refine l_nil ?_) | ((with_reducible refine g_on ?_); (first | ((with_reducible refine g_mv ?_); refine l_p txs rfl rfl ?_) | ((with_reducible refine g_as ?_); refine l_p txs rfl rfl ?_)))))
      (with_reducible refine is_l ?_); refine l_t txs rfl rfl (fun _ => ?_) (fun hh => absurd trivial hh)
      repeat' (first | (first | (with_reducible refine p_tn ?_) | (with_reducible refine wp_seq ?_) | (with_reducible refine w_reg ?_) | (with_reducible (refine is_if ?_; (refine w_ift rfl ?_)))) | (first | (with_reducible refine l_nil ?_) | ((with_reducible refine g_on ?_); ((with_reducible refine g_mv ?_); refine l_p txs rfl rfl ?_))))
      (with_reducible refine is_l ?_); refine l_callv rfl rfl (by kernel_rfl) (errOf_c (hE.below H.B) hv) (fun w_ K => ?_)
      have H := H.call K
      repeat' (first | (first | (with_reducible refine p_tn ?_) | (with_reducible refine p_tr ?_) | (with_reducible refine wp_ret ?_)) | (first | (with_reducible refine l_nil ?_) | ((with_reducible refine g_on ?_); ((with_reducible refine g_as ?_); refine l_p txs rfl rfl ?_))))
      refine end2 rfl rfl rfl ?_
      exact ⟨H.B, _, by rw [hk], fun _ => rfl, fun h => absurd (hk.symm.trans h) (by decide)⟩
    repeat' (first | ((with_reducible refine g_on ?_); ((with_reducible refine g_mv ?_); refine l_p txs rfl rfl ?_)) | ((with_reducible refine g_if ?_); (first | ((with_reducible refine g_fa ?_); refine h_fa flds rfl rfl ?_) | ((with_reducible refine g_ld ?_); (refine h_ld txs H 0 rfl rfl rfl rfl ?_)))))
    (with_reducible refine is_l ?_); refine l_t txs rfl rfl (fun h5 => ?_) (fun h5 => ?_)
    · have hk : formT r = 149 := by unfold formT checkResS; rw [if_neg h2, if_neg h3, if_pos (.inr (by omega))]
      have hv : ErrOf A (errV (A 13)) 149 := ⟨13, by decide, by decide, rfl, .inl rfl⟩
      repeat' (first | (first | (with_reducible refine p_tn ?_) | (with_reducible refine w_reg ?_) | (with_reducible (refine is_if ?_; (refine w_ift rfl ?_)))) | (first | (with_reducible refine l_nil ?_) | ((with_reducible refine g_on ?_); (first | ((with_reducible refine g_as ?_); refine l_p txs rfl rfl ?_) | ((with_reducible refine g_pk ?_); refine l_p txs rfl rfl ?_)))))
      (with_reducible refine is_l ?_); refine l_ld txs rfl rfl (H.old c13) ?_
      repeat' (first | (first | (with_reducible refine p_tn ?_) | (with_reducible refine p_bn ?_) | (with_reducible refine wp_seq ?_) | (with_reducible refine w_reg ?_)) | (first | (with_reducible refine l_nil ?_) | ((with_reducible refine g_on ?_); (first | ((with_reducible refine g_mv ?_); refine l_p txs rfl rfl ?_) | ((with_reducible refine g_as ?_); refine l_p txs rfl rfl ?_)))))
      (with_reducible refine is_l ?_); refine l_t txs rfl rfl (fun _ => ?_) (fun hh => absurd trivial hh)
      repeat' (first | (first | (with_reducible refine p_tn ?_) | (with_reducible refine wp_seq ?_) | (with_reducible refine w_reg ?_) | (with_reducible (refine is_if ?_; (refine w_ift rfl ?_)))) | (first | (with_reducible refine l_nil ?_) | ((with_reducible refine g_on ?_); ((with_reducible refine g_mv ?_); refine l_p txs rfl rfl ?_))))
      (with_reducible refine is_l ?_); refine l_callv rfl rfl (by kernel_rfl) (errOf_c (hE.below H.B) hv) (fun w_ K => ?_)
      have H := H.call K
      repeat' (first | (first | (with_reducible refine p_tn ?_) | (with_reducible refine p_tr ?_) | (with_reducible refine wp_ret ?_)) | (first | (with_reducible refine l_nil ?_) | ((with_reducible refine g_on ?_); ((with_reducible refine g_as ?_); refine l_p txs rfl rfl ?_))))
      refine end2 rfl rfl rfl ?_
      exact ⟨H.B, _, by rw [hk], fun _ => rfl, fun h => absurd (hk.symm.trans h) (by decide)⟩
    have h45 : ¬ (r.status < 100 ∨ 599 < r.status) := by omega
    repeat' (first | (first | (with_reducible refine p_tn ?_) | (with_reducible refine wp_seq ?_) | (with_reducible refine w_reg ?_) | (with_reducible (refine is_if ?_; (refine w_iff rfl ?_)))) | (first | (with_reducible refine l_nil ?_) | ((with_reducible refine g_on ?_); (first | ((with_reducible refine g_mv ?_); refine l_p txs rfl rfl ?_) | ((with_reducible refine g_as ?_); refine l_p txs rfl rfl ?_) | ((with_reducible refine g_pk ?_); refine l_p txs rfl rfl ?_)))))
    have hcf := checkFields_c (c := f2) (hE.below H.B) (rowF_rd H 0 rfl) hpb
    by_cases h9 : 64 < (printedS r.fields (toldR r.status r.body)).length
    · have hck : chkS (printedS r.fields (toldR r.status r.body)) = some 4 := by unfold chkS; rw [if_pos h9]
      have hk : formT r = 2 := by unfold formT checkResS; rw [if_neg h2, if_neg h3, if_neg h45, if_pos h9]
      have hv : ErrOf A (placV tFields (errV (A 4))) 2 := ⟨4, by decide, by decide, rfl, .inr ⟨by decide, tFields, rfl⟩⟩
      rw [hck] at hcf
      (with_reducible refine is_l ?_); refine l_callv rfl rfl (by kernel_rfl) hcf (fun w_ K => ?_)
      have H := H.call K
      skip
      (with_reducible refine is_l ?_); refine l_callp rfl rfl (by kernel_rfl) (in_c tFields _ _ _) ?_
      repeat' (first | (first | (with_reducible refine p_tn ?_) | (with_reducible refine wp_seq ?_) | (with_reducible refine w_reg ?_)) | (first | (with_reducible refine l_nil ?_) | ((with_reducible refine g_on ?_); (first | ((with_reducible refine g_mv ?_); refine l_p txs rfl rfl ?_) | ((with_reducible refine g_as ?_); refine l_p txs rfl rfl ?_)))))
      (with_reducible refine is_l ?_); refine l_t txs rfl rfl (fun hh => hh.elim) (fun _ => ?_)
      repeat' (first | (first | (with_reducible refine p_tn ?_) | (with_reducible refine p_bn ?_) | (with_reducible refine wp_seq ?_) | (with_reducible refine w_reg ?_) | (with_reducible (refine is_if ?_; (refine w_iff rfl ?_))) | (with_reducible refine wp_skip ?_)) | (first | (with_reducible refine l_nil ?_) | ((with_reducible refine g_on ?_); (first | ((with_reducible refine g_mv ?_); refine l_p txs rfl rfl ?_) | ((with_reducible refine g_pk ?_); refine l_p txs rfl rfl ?_))) | ((with_reducible refine g_if ?_); (refine l_off rfl ?_))))
      (with_reducible refine is_l ?_); refine l_t txs rfl rfl (fun _ => ?_) (fun hh => absurd trivial hh)
      repeat' (first | (first | (with_reducible refine p_tn ?_) | (with_reducible refine wp_seq ?_) | (with_reducible refine w_reg ?_) | (with_reducible (refine is_if ?_; (refine w_ift rfl ?_)))) | (first | (with_reducible refine l_nil ?_) | ((with_reducible refine g_on ?_); ((with_reducible refine g_mv ?_); refine l_p txs rfl rfl ?_))))
      (with_reducible refine is_l ?_); refine l_callv rfl rfl (by kernel_rfl) (errOf_c (hE.below H.B) hv) (fun w_ K => ?_)
      have H := H.call K
      repeat' (first | (first | (with_reducible refine p_tn ?_) | (with_reducible refine p_tr ?_) | (with_reducible refine wp_ret ?_)) | (first | (with_reducible refine l_nil ?_) | ((with_reducible refine g_on ?_); ((with_reducible refine g_as ?_); refine l_p txs rfl rfl ?_))))
      refine end2 rfl rfl rfl ?_
      exact ⟨H.B, _, by rw [hk], fun _ => rfl, fun h => absurd (hk.symm.trans h) (by decide)⟩
    cases h10 : (printedS r.fields (toldR r.status r.body)).all goodF
    · have hck : chkS (printedS r.fields (toldR r.status r.body)) = some 8 := by unfold chkS; rw [if_neg h9, h10]; rfl
      have hk : formT r = 143 := by unfold formT checkResS; rw [if_neg h2, if_neg h3, if_neg h45, if_neg h9, if_pos h10]
      have hv : ErrOf A (placV tFields (errV (A 8))) 143 := ⟨8, by decide, by decide, rfl, .inr ⟨by decide, tFields, rfl⟩⟩
      rw [hck] at hcf
      (with_reducible refine is_l ?_); refine l_callv rfl rfl (by kernel_rfl) hcf (fun w_ K => ?_)
      have H := H.call K
      skip
      (with_reducible refine is_l ?_); refine l_callp rfl rfl (by kernel_rfl) (in_c tFields _ _ _) ?_
      repeat' (first | (first | (with_reducible refine p_tn ?_) | (with_reducible refine wp_seq ?_) | (with_reducible refine w_reg ?_)) | (first | (with_reducible refine l_nil ?_) | ((with_reducible refine g_on ?_); (first | ((with_reducible refine g_mv ?_); refine l_p txs rfl rfl ?_) | ((with_reducible refine g_as ?_); refine l_p txs rfl rfl ?_)))))
      (with_reducible refine is_l ?_); refine l_t txs rfl rfl (fun hh => hh.elim) (fun _ => ?_)
      repeat' (first | (first | (with_reducible refine p_tn ?_) | (with_reducible refine p_bn ?_) | (with_reducible refine wp_seq ?_) | (with_reducible refine w_reg ?_) | (with_reducible (refine is_if ?_; (refine w_iff rfl ?_))) | (with_reducible refine wp_skip ?_)) | (first | (with_reducible refine l_nil ?_) | ((with_reducible refine g_on ?_); (first | ((with_reducible refine g_mv ?_); refine l_p txs rfl rfl ?_) | ((with_reducible refine g_pk ?_); refine l_p txs rfl rfl ?_))) | ((with_reducible refine g_if ?_); (refine l_off rfl ?_))))
      (with_reducible refine is_l ?_); refine l_t txs rfl rfl (fun _ => ?_) (fun hh => absurd trivial hh)
      repeat' (first | (first | (with_reducible refine p_tn ?_) | (with_reducible refine wp_seq ?_) | (with_reducible refine w_reg ?_) | (with_reducible (refine is_if ?_; (refine w_ift rfl ?_)))) | (first | (with_reducible refine l_nil ?_) | ((with_reducible refine g_on ?_); ((with_reducible refine g_mv ?_); refine l_p txs rfl rfl ?_))))
      (with_reducible refine is_l ?_); refine l_callv rfl rfl (by kernel_rfl) (errOf_c (hE.below H.B) hv) (fun w_ K => ?_)
      have H := H.call K
      repeat' (first | (first | (with_reducible refine p_tn ?_) | (with_reducible refine p_tr ?_) | (with_reducible refine wp_ret ?_)) | (first | (with_reducible refine l_nil ?_) | ((with_reducible refine g_on ?_); ((with_reducible refine g_as ?_); refine l_p txs rfl rfl ?_))))
      refine end2 rfl rfl rfl ?_
      exact ⟨H.B, _, by rw [hk], fun _ => rfl, fun h => absurd (hk.symm.trans h) (by decide)⟩
    have hck : chkS (printedS r.fields (toldR r.status r.body)) = none := by unfold chkS; rw [if_neg h9, h10]; rfl
    have hkk : formT r = if 1048576 < r.body.length ∨ (bareS r.status = true ∧ r.body ≠ []) then 145 else 0 := by unfold formT checkResS; rw [if_neg h2, if_neg h3, if_neg h45, if_neg h9, if_neg (by rw [h10]; simp)]
    rw [hck] at hcf
    (with_reducible refine is_l ?_); refine l_callv rfl rfl (by kernel_rfl) hcf (fun w_ K => ?_)
    have H := H.call K
    skip
    (with_reducible refine is_l ?_); refine l_callp rfl rfl (by kernel_rfl) (in_nil tFields _) ?_
    repeat' (first | (first | (with_reducible refine p_tn ?_) | (with_reducible refine wp_seq ?_) | (with_reducible refine w_reg ?_)) | (first | (with_reducible refine l_nil ?_) | ((with_reducible refine g_on ?_); (first | ((with_reducible refine g_mv ?_); refine l_p txs rfl rfl ?_) | ((with_reducible refine g_as ?_); refine l_p txs rfl rfl ?_)))))
    (with_reducible refine is_l ?_); refine l_t txs rfl rfl (fun _ => ?_) (fun hh => absurd trivial hh)
    repeat' (first | ((with_reducible refine g_on ?_); ((with_reducible refine g_mv ?_); refine l_p txs rfl rfl ?_)) | ((with_reducible refine g_if ?_); (first | ((with_reducible refine g_fa ?_); refine h_fa flds rfl rfl ?_) | ((with_reducible refine g_ld ?_); (refine h_ld txs H 0 rfl rfl rfl rfl ?_)) | ((with_reducible refine g_cl ?_); refine l_p txs rfl rfl ?_))))
    have hv : ErrOf A (errV (A 10)) 145 := ⟨10, by decide, by decide, rfl, .inl rfl⟩
    (with_reducible refine is_l ?_); refine l_t txs rfl rfl (fun h6 => ?_) (fun h6 => ?_)
    · have hk : formT r = 145 := by rw [hkk, if_pos (.inl (by omega))]
      repeat' (first | (first | (with_reducible refine p_tn ?_) | (with_reducible refine w_reg ?_) | (with_reducible (refine is_if ?_; (refine w_ift rfl ?_)))) | (first | (with_reducible refine l_nil ?_) | ((with_reducible refine g_on ?_); ((with_reducible refine g_pk ?_); refine l_p txs rfl rfl ?_)) | ((with_reducible refine g_if ?_); (first | (refine l_off rfl ?_) | (first | ((with_reducible refine g_mv ?_); refine l_p txs rfl rfl ?_) | ((with_reducible refine g_pk ?_); refine l_p txs rfl rfl ?_))))))
      (with_reducible refine is_l ?_); refine l_ld txs rfl rfl (H.old c10) ?_
      repeat' (first | (first | (with_reducible refine p_tn ?_) | (with_reducible refine p_bn ?_) | (with_reducible refine wp_seq ?_) | (with_reducible refine w_reg ?_)) | (first | (with_reducible refine l_nil ?_) | ((with_reducible refine g_on ?_); (first | ((with_reducible refine g_mv ?_); refine l_p txs rfl rfl ?_) | ((with_reducible refine g_as ?_); refine l_p txs rfl rfl ?_)))))
      (with_reducible refine is_l ?_); refine l_t txs rfl rfl (fun _ => ?_) (fun hh => absurd trivial hh)
      repeat' (first | (first | (with_reducible refine p_tn ?_) | (with_reducible refine wp_seq ?_) | (with_reducible refine w_reg ?_) | (with_reducible (refine is_if ?_; (refine w_ift rfl ?_)))) | (first | (with_reducible refine l_nil ?_) | ((with_reducible refine g_on ?_); ((with_reducible refine g_mv ?_); refine l_p txs rfl rfl ?_))))
      (with_reducible refine is_l ?_); refine l_callv rfl rfl (by kernel_rfl) (errOf_c (hE.below H.B) hv) (fun w_ K => ?_)
      have H := H.call K
      repeat' (first | (first | (with_reducible refine p_tn ?_) | (with_reducible refine p_tr ?_) | (with_reducible refine wp_ret ?_)) | (first | (with_reducible refine l_nil ?_) | ((with_reducible refine g_on ?_); ((with_reducible refine g_as ?_); refine l_p txs rfl rfl ?_))))
      refine end2 rfl rfl rfl ?_
      exact ⟨H.B, _, by rw [hk], fun _ => rfl, fun h => absurd (hk.symm.trans h) (by decide)⟩
    cases hbs : bareS r.status
    · have hk : formT r = 0 := by rw [hkk, if_neg (by rw [hbs]; simp; omega)]
      repeat' (first | (first | (with_reducible refine p_tn ?_) | (with_reducible refine p_bn ?_) | (with_reducible refine wp_seq ?_) | (with_reducible refine w_reg ?_) | (with_reducible (refine is_if ?_; (refine w_iff rfl ?_))) | (with_reducible refine wp_skip ?_)) | (first | (with_reducible refine l_nil ?_) | ((with_reducible refine g_on ?_); (first | ((with_reducible refine g_mv ?_); refine l_p txs rfl rfl ?_) | ((with_reducible refine g_pk ?_); refine l_p txs rfl rfl ?_))) | ((with_reducible refine g_if ?_); (first | (refine l_off rfl ?_) | (first | ((with_reducible refine g_mv ?_); refine l_p txs rfl rfl ?_) | ((with_reducible refine g_pk ?_); refine l_p txs rfl rfl ?_))))))
      (with_reducible refine is_l ?_); refine l_t txs rfl rfl (fun hh => absurd hh (by simp)) (fun _ => ?_)
      repeat' (first | (first | (with_reducible refine p_tn ?_) | (with_reducible refine wp_seq ?_) | (with_reducible refine w_reg ?_) | (with_reducible (refine is_if ?_; (refine w_iff rfl ?_))) | (with_reducible refine wp_skip ?_)) | (first | (with_reducible refine l_nil ?_) | ((with_reducible refine g_on ?_); (first | ((with_reducible refine g_mv ?_); refine l_p txs rfl rfl ?_) | ((with_reducible refine g_fa ?_); refine h_fa flds rfl rfl ?_) | ((with_reducible refine g_ld ?_); (refine h_ld txs H 0 rfl rfl rfl rfl ?_))))))
      obtain ⟨o2, o3, o4⟩ := res_ok hk
      (with_reducible refine is_l ?_); refine l_call rfl rfl (by kernel_rfl) (whole_c (rowF_rd H 0 rfl) hpb o2 (hr.below H.B) hbb (by omega) (by rw [ByteArray.size_append, ByteArray.size_append, ByteArray.size_append, ByteArray.size_append, ByteArray.size_append]; show 7 + _ + 1 + _ + 1 + _ ≤ _; omega) (by omega)) (fun e w_ hR4 => ?_)
      obtain ⟨g, cur, c, rfl, q1, q2, q3, q4, q5, q6, q7⟩ := hR4
      refine ⟨_, rfl, ?_⟩
      have hsz := H.B.size
      have H := H.call q2
      simp only [bl_cat, blS (decI_bytes _), blS rok.1] at q1 q7 ⊢
      repeat' (first | (first | (with_reducible refine p_tn ?_) | (with_reducible refine wp_ret ?_)) | (first | (with_reducible refine l_nil ?_) | ((with_reducible refine g_on ?_); ((with_reducible refine g_as ?_); refine l_p txs rfl rfl ?_))))
      refine end2 rfl rfl rfl ?_
      refine ⟨H.B, _, by rw [hk]; rfl, fun h => absurd hk h, fun _ => ⟨g, cur, c, rfl, q1, by omega, q4, q5, q6, q7⟩⟩
    repeat' ((with_reducible refine g_if ?_); (first | ((with_reducible refine g_mv ?_); refine l_p txs rfl rfl ?_) | ((with_reducible refine g_fa ?_); refine h_fa flds rfl rfl ?_) | ((with_reducible refine g_ld ?_); (refine h_ld txs H 0 rfl rfl rfl rfl ?_)) | ((with_reducible refine g_cl ?_); refine l_p txs rfl rfl ?_)))
    (with_reducible refine is_l ?_); refine l_t txs rfl rfl (fun h7 => ?_) (fun h7 => ?_)
    · have hk : formT r = 145 := by rw [hkk, if_pos (.inr ⟨hbs, by intro e; rw [e] at h7; simp at h7⟩)]
      repeat' (first | (first | (with_reducible refine p_tn ?_) | (with_reducible refine w_reg ?_) | (with_reducible (refine is_if ?_; (refine w_ift rfl ?_)))) | (first | (with_reducible refine l_nil ?_) | ((with_reducible refine g_on ?_); ((with_reducible refine g_pk ?_); refine l_p txs rfl rfl ?_)) | ((with_reducible refine g_if ?_); ((with_reducible refine g_pk ?_); refine l_p txs rfl rfl ?_))))
      (with_reducible refine is_l ?_); refine l_ld txs rfl rfl (H.old c10) ?_
      repeat' (first | (first | (with_reducible refine p_tn ?_) | (with_reducible refine p_bn ?_) | (with_reducible refine wp_seq ?_) | (with_reducible refine w_reg ?_)) | (first | (with_reducible refine l_nil ?_) | ((with_reducible refine g_on ?_); (first | ((with_reducible refine g_mv ?_); refine l_p txs rfl rfl ?_) | ((with_reducible refine g_as ?_); refine l_p txs rfl rfl ?_)))))
      (with_reducible refine is_l ?_); refine l_t txs rfl rfl (fun _ => ?_) (fun hh => absurd trivial hh)
      repeat' (first | (first | (with_reducible refine p_tn ?_) | (with_reducible refine wp_seq ?_) | (with_reducible refine w_reg ?_) | (with_reducible (refine is_if ?_; (refine w_ift rfl ?_)))) | (first | (with_reducible refine l_nil ?_) | ((with_reducible refine g_on ?_); ((with_reducible refine g_mv ?_); refine l_p txs rfl rfl ?_))))
      (with_reducible refine is_l ?_); refine l_callv rfl rfl (by kernel_rfl) (errOf_c (hE.below H.B) hv) (fun w_ K => ?_)
      have H := H.call K
      repeat' (first | (first | (with_reducible refine p_tn ?_) | (with_reducible refine p_tr ?_) | (with_reducible refine wp_ret ?_)) | (first | (with_reducible refine l_nil ?_) | ((with_reducible refine g_on ?_); ((with_reducible refine g_as ?_); refine l_p txs rfl rfl ?_))))
      refine end2 rfl rfl rfl ?_
      exact ⟨H.B, _, by rw [hk], fun _ => rfl, fun h => absurd (hk.symm.trans h) (by decide)⟩
    have hk : formT r = 0 := by rw [hkk, if_neg (fun h => h.elim (fun h => by omega) (fun h => h.2 (List.length_eq_zero_iff.1 (by omega))))]
    repeat' (first | (first | (with_reducible refine p_tn ?_) | (with_reducible refine p_bn ?_) | (with_reducible refine wp_seq ?_) | (with_reducible refine w_reg ?_) | (with_reducible (refine is_if ?_; (refine w_iff rfl ?_))) | (with_reducible refine wp_skip ?_)) | (first | (with_reducible refine l_nil ?_) | ((with_reducible refine g_on ?_); (first | ((with_reducible refine g_mv ?_); refine l_p txs rfl rfl ?_) | ((with_reducible refine g_pk ?_); refine l_p txs rfl rfl ?_))) | ((with_reducible refine g_if ?_); ((with_reducible refine g_pk ?_); refine l_p txs rfl rfl ?_))))
    (with_reducible refine is_l ?_); refine l_t txs rfl rfl (fun hh => absurd hh (by simp)) (fun _ => ?_)
    repeat' (first | (first | (with_reducible refine p_tn ?_) | (with_reducible refine wp_seq ?_) | (with_reducible refine w_reg ?_) | (with_reducible (refine is_if ?_; (refine w_iff rfl ?_))) | (with_reducible refine wp_skip ?_)) | (first | (with_reducible refine l_nil ?_) | ((with_reducible refine g_on ?_); (first | ((with_reducible refine g_mv ?_); refine l_p txs rfl rfl ?_) | ((with_reducible refine g_fa ?_); refine h_fa flds rfl rfl ?_) | ((with_reducible refine g_ld ?_); (refine h_ld txs H 0 rfl rfl rfl rfl ?_))))))
    obtain ⟨o2, o3, o4⟩ := res_ok hk
    (with_reducible refine is_l ?_); refine l_call rfl rfl (by kernel_rfl) (whole_c (rowF_rd H 0 rfl) hpb o2 (hr.below H.B) hbb (by omega) (by rw [ByteArray.size_append, ByteArray.size_append, ByteArray.size_append, ByteArray.size_append, ByteArray.size_append]; show 7 + _ + 1 + _ + 1 + _ ≤ _; omega) (by omega)) (fun e w_ hR4 => ?_)
    obtain ⟨g, cur, c, rfl, q1, q2, q3, q4, q5, q6, q7⟩ := hR4
    refine ⟨_, rfl, ?_⟩
    have hsz := H.B.size
    have H := H.call q2
    simp only [bl_cat, blS (decI_bytes _), blS rok.1] at q1 q7 ⊢
    repeat' (first | (first | (with_reducible refine p_tn ?_) | (with_reducible refine wp_ret ?_)) | (first | (with_reducible refine l_nil ?_) | ((with_reducible refine g_on ?_); ((with_reducible refine g_as ?_); refine l_p txs rfl rfl ?_))))
    refine end2 rfl rfl rfl ?_
    refine ⟨H.B, _, by rw [hk]; rfl, fun h => absurd hk h, fun _ => ⟨g, cur, c, rfl, q1, by omega, q4, q5, q6, q7⟩⟩
end Go.Proofs.YthgojbdpmcccaaaGreatDoor.K
end
section
namespace Go.Proofs.YthgojbdpmcccaaaGreatDoor.K
open Go.RowKit Go.Proofs.YthgojbdpmcccaaaGreatDoor.Q Go.Proofs.YthgojbdpmcccaaaGreatDoor.Wb Go.Proofs.YthgojbdpmcccaaaGreatDoorW.PrintWords
set_option linter.unusedVariables false
set_option linter.unusedSimpArgs false
section
variable {P : Program} {ty : Nat → Option Ty} {n : Nat} {f : Fr} {w : World} {o : Oper}
theorem evT_no (hty : Tys P ty) {p : Prop} (h : evT ty n f o.op = some p) (hp : ¬ p) : (execOp (X n f) o).run P w = .ok (.value (.bool false)) w := by
  obtain ⟨t, hr, ht⟩ := evT_run (w := w) hty h
  cases t with
  | true => exact absurd (ht.1 rfl) hp
  | false => exact hr
theorem evText_run {s t e : TypeId} {A : Option Addr} {m c : Nat} {xs : List Int} (he : evCv n f o.op = some (s, t, .slice A m c)) (hs : P.underlying s = some (.slice e)) (hb : P.underlying e = some (.int .u8)) (hd : P.underlying t = some .string)
    (HR : ReadsInt w .u8 A m xs) : (execOp (X n f) o).run P w = .ok (.value (.string (strOfNums xs))) w := by
  obtain ⟨d, op, tt, ps, af, gd⟩ := o
  unfold evCv at he
  simp only at he
  split at he
  · rename_i s1 t1 x
    simp only [Option.some.injEq, Prod.mk.injEq] at he
    obtain ⟨rfl, rfl, hx⟩ := he
    have := string_of_reads (P := P) (w := w) (c := c) hs hb hd HR
    unfold execOp
    simp [hx, this]
  · cases he
end
theorem _root_.Go.Proofs.YthgojbdpmcccaaaGreatDoor.Q.Hp.row0 {w0 w : World} {l : List Ent} {r : List RowD} {d d' : RowD} (H : Hp w0 w l (d :: r)) (e : d = d') : Hp w0 w l (d' :: r) := e ▸ H
/-- What a response that is printed is read as. -/
def backS (r : ResS) : ResS := ⟨r.status, r.minor, printedS r.fields (toldR r.status r.body), r.body, closesS (printedS r.fields (toldR r.status r.body)) r.minor⟩
theorem formY_back {r : ResS} (h : formT r = 0) (tl : L) : parseResS (formY r ++ tl) = .ok (backS r, (formY r).length) := res_back tl h
theorem formY_short {r : ResS} (h : formT r = 0) {p : L} (hp : ∃ t, formY r = p ++ t ∧ t ≠ []) : parseResS p = .error 140 := by
  have hb := formY_back h []
  rw [List.append_nil] at hb
  exact res_short hb (printed_closed _ _ _) hp
theorem formY_bytes {r : ResS} (h : formT r = 0) (hst : -9223372036854775808 ≤ r.status ∧ r.status ≤ 9223372036854775807) (hf : BytesF r.fields) (hb : Bytes r.body) : Bytes (formY r) := by
  obtain ⟨_, _, hl⟩ := res_ok h
  have hs : Bytes (startRes r.status r.minor) := by
    unfold startRes
    exact app_bytes (app_bytes (app_bytes (app_bytes (app_bytes (by intro x hx; simp at hx; omega) (decI_bytes _)) (by intro x hx; simp at hx; omega)) (decI_bytes _)) (by intro x hx; simp at hx; omega)) (reason_ok _ hst.1 hst.2).1
  unfold formY wholeS
  exact app_bytes (app_bytes (app_bytes hs (by intro x hx; simp at hx; omega)) (headF_bytes (printed_bytes hf (toldR_le (by omega))))) hb
theorem formY_len {r : ResS} (h : formT r = 0) (hst : -9223372036854775808 ≤ r.status ∧ r.status ≤ 9223372036854775807) (hmi : -9223372036854775808 ≤ r.minor ∧ r.minor ≤ 9223372036854775807) : 0 < (formY r).length ∧ (formY r).length ≤ 1100000 := by
  obtain ⟨h2, _, hl⟩ := res_ok h
  have z1 := itoaI_size r.minor hmi.1 hmi.2
  have z2 := itoaI_size r.status hst.1 hst.2
  rw [sizeS' (decI_bytes _)] at z1 z2
  have z3 := (reason_ok _ hst.1 hst.2).2
  have hs : (startRes r.status r.minor).length ≤ 200 := by
    unfold startRes
    simp only [List.length_append, List.length_cons, List.length_nil]
    omega
  unfold formY wholeS
  rw [List.length_append, List.length_append, List.length_append, headF_length]
  show 0 < _ + 2 + _ + _ ∧ _ + 2 + _ + _ ≤ _
  omega
theorem status_in {r : ResS} (h : formT r = 0) : 100 ≤ r.status := by
  unfold formT checkResS at h
  split at h; · cases h
  split at h; · cases h
  split at h; · cases h
  rename_i h3
  omega
set_option maxRecDepth 100000 in
set_option maxHeartbeats 16000000 in
theorem answers_c {A : Nat → Addr} {w : World} (hE : LayS A w) (h13 : Sent w (gE 13) (A 13)) (hP : TabP w) {mx : Int} (hM : w.cell? ⟨20, 0, none⟩ = some (.int .i64 mx)) {tM : TypeId} {frM : Nat × Nat} (hT : w.heap[17]? = some (.cells meC tM frM)) {tR : TypeId} {frR : Nat × Nat} (hRe : w.heap[13]? = some (.cells reC tR frR))
    {st mi pad : Int} {ns vs : List L} {body tl : L} {NB VB BB TB : Option Addr} {nc vc bc tc : Nat} (hst : -9223372036854775808 ≤ st ∧ st ≤ 9223372036854775807) (hmi : -9223372036854775808 ≤ mi ∧ mi ≤ 9223372036854775807) (hn : Rd w NB (strC ns)) (hv : Rd w VB (strC vs)) (hnl : ns.length ≤ 5000000)
    (hnb : ∀ x ∈ ns, Bytes x ∧ x.length ≤ 100000000) (hvb : ∀ x ∈ vs, Bytes x ∧ x.length ≤ 100000000) (hrb : ReadsInt w .u8 BB body.length body) (hbb : Bytes body) (hbl : body.length ≤ 5000000) (hr : ReadsInt w .u8 TB tl.length tl) (htb : Bytes tl) (htll : tl.length ≤ 10000000) :
    Calls Tryz.prog 8 #[.agg #[.int .i64 st, .int .i64 mi, .slice NB ns.length nc, .slice VB vs.length vc, .slice BB body.length bc, .int .i64 pad], .slice TB tl.length tc] w fun e w' => e = .returned (.bool true) ∧ Below w.heap.size w w' := by
  have hTb : ∀ w1, Below w.heap.size w w1 → w1.heap[17]? = some (.cells meC tM frM) := fun w1 K => (K.block _ (blk_lt hT)).trans hT
  have hReb : ∀ w1, Below w.heap.size w w1 → w1.heap[13]? = some (.cells reC tR frR) := fun w1 K => (K.block _ (blk_lt hRe)).trans hRe
  refine enter (args := [.agg #[.int .i64 st, .int .i64 mi, .slice NB ns.length nc, .slice VB vs.length vc, .slice BB body.length bc, .int .i64 pad], .slice TB tl.length tc]) Tryz.func8 rfl Tryz.ntmps8 rfl ?_
  have H := Hp.nil w
  repeat' (first | (with_reducible refine wp_seq ?_) | (with_reducible refine w_reg ?_))
  (with_reducible refine is_l ?_); refine h_box H rfl rfl rfl (fun gX w_ H => ?_)
  repeat' (first | (first | (with_reducible refine p_tn ?_) | (with_reducible refine wp_seq ?_) | (with_reducible refine w_reg ?_)) | (first | (with_reducible refine l_nil ?_) | ((with_reducible refine g_on ?_); ((with_reducible refine g_as ?_); refine l_p txs rfl rfl ?_))))
  (with_reducible refine is_l ?_); refine l_callv rfl rfl (by kernel_rfl) (known_c (hE.below H.B) (H.old hM) (hTb _ H.B)) (fun w_ K => ?_)
  have H := H.call K
  repeat' (first | (first | (with_reducible refine p_tn ?_) | (with_reducible refine wp_seq ?_) | (with_reducible refine w_reg ?_) | (with_reducible (refine is_if ?_; (refine w_iff rfl ?_))) | (with_reducible refine wp_skip ?_)) | (first | (with_reducible refine l_nil ?_) | ((with_reducible refine g_on ?_); (first | ((with_reducible refine g_ld ?_); (refine h_ldR recs H 0 rfl rfl rfl rfl rfl ?_)) | ((with_reducible refine g_un ?_); (refine l_p txs rfl rfl ?_))))))
  (with_reducible refine is_l ?_); refine l_call rfl rfl (by kernel_rfl) (response_c (st := st) (mi := mi) (pad := pad) (hn.below H.B) (hv.below H.B) (by omega) (hrb.below H.B) (by omega)) (fun e w_ hR => ?_)
  obtain ⟨F, f0, B, b0, rfl, K⟩ := hR
  refine ⟨_, rfl, ?_⟩
  have H := H.join K
  have hfb := mkF_bytes hnb hvb
  have hfl : (mkF ns vs).length ≤ 5000000 := by rw [mkF_len]; omega
  have hpb : Bytes (padS body pad) := app_bytes hbb (by intro x hx; have := List.eq_of_mem_replicate hx; omega)
  have hpl : (padS body pad).length ≤ 7000000 := by unfold padS padN; rw [List.length_append, List.length_replicate]; split <;> omega
  have hrst : (resOf st mi ns vs body pad).status = st := rfl
  have hri : (resOf st mi ns vs body pad).minor = mi := rfl
  have hrf : (resOf st mi ns vs body pad).fields = mkF ns vs := rfl
  have hrbd : (resOf st mi ns vs body pad).body = padS body pad := rfl
  have H : Hp w w_ _ [rowF (.slice F (resOf st mi ns vs body pad).fields.length f0) (resOf st mi ns vs body pad).fields, rowB (.slice B (resOf st mi ns vs body pad).body.length b0) (resOf st mi ns vs body pad).body] := H
  generalize resOf st mi ns vs body pad = r at H hrst hri hrf hrbd ⊢
  (with_reducible refine is_l ?_); refine h_alloc recs H rfl rfl (fun g5 w_ H => ?_)
  repeat' (first | (first | (with_reducible refine p_tn ?_) | (with_reducible refine wp_seq ?_) | (with_reducible refine w_reg ?_)) | (first | (with_reducible refine l_nil ?_) | ((with_reducible refine g_on ?_); (first | ((with_reducible refine g_ld ?_); (refine h_ldR recs H 0 rfl rfl rfl rfl rfl ?_)) | ((with_reducible refine g_st ?_); (refine h_stR recs H 0 rfl rfl rfl rfl rfl rfl rfl rfl rfl (fun w_ H => ?_)))))))
  have hrs2 : -9223372036854775808 ≤ r.status ∧ r.status ≤ 9223372036854775807 := by rw [hrst]; exact hst
  have hrm2 : -9223372036854775808 ≤ r.minor ∧ r.minor ≤ 9223372036854775807 := by rw [hri]; exact hmi
  have hfb2 : BytesF r.fields := by rw [hrf]; exact hfb
  have hbb2 : Bytes r.body := by rw [hrbd]; exact hpb
  have hrl : r.body.length ≤ 7000000 := by rw [hrbd]; exact hpl
  (with_reducible refine is_l ?_); refine l_call rfl rfl (by kernel_rfl) (FormatResponse_c (hE.below H.B) (h13.below H.B) (hP.below H.B) (hReb _ H.B) r hrs2 hrm2 (rowF_rd H 0 rfl) hfb2 (by rw [hrf]; exact hfl) (rowB_rd H 1 (x := r.body) rfl).1 hbb2 (by omega)) (fun e w_ hR => ?_)
  obtain ⟨K, v, rfl, hbad, hgood⟩ := hR
  refine ⟨_, rfl, ?_⟩
  have H := H.call K
  by_cases hz : formT r = 0
  rotate_left
  · obtain rfl := hbad hz
    repeat' (first | (first | (with_reducible refine p_tn ?_) | (with_reducible refine wp_seq ?_) | (with_reducible refine w_reg ?_)) | (first | (with_reducible refine l_nil ?_) | ((with_reducible refine g_on ?_); (first | ((with_reducible refine g_mv ?_); refine l_p txs rfl rfl ?_) | ((with_reducible refine g_as ?_); refine l_p txs rfl rfl ?_) | ((with_reducible refine g_ex ?_); refine l_p txs rfl rfl ?_)))))
    (with_reducible refine is_l ?_); refine l_t txs rfl rfl (fun _ => ?_) (fun hh => absurd (by omega) hh)
    repeat' (first | (first | (with_reducible refine p_tn ?_) | (with_reducible refine wp_seq ?_) | (with_reducible refine w_reg ?_) | (with_reducible (refine is_if ?_; (refine w_ift rfl ?_)))) | (first | (with_reducible refine l_nil ?_) | ((with_reducible refine g_on ?_); (first | ((with_reducible refine g_mv ?_); refine l_p txs rfl rfl ?_) | ((with_reducible refine g_cl ?_); refine l_p txs rfl rfl ?_)))))
    (with_reducible refine is_l ?_); refine l_t txs rfl rfl (fun _ => ?_) (fun hh => absurd rfl hh)
    repeat' (first | (first | (with_reducible refine p_tn ?_) | (with_reducible refine p_tr ?_) | (with_reducible refine wp_ret ?_)) | (first | (with_reducible refine l_nil ?_) | ((with_reducible refine g_on ?_); ((with_reducible refine g_as ?_); refine l_p txs rfl rfl ?_))))
    refine end1 rfl rfl ?_
    exact ⟨rfl, H.B⟩
  obtain ⟨g, cur, c, rfl, hc, hge, hgb, hgs, hgm, hgt⟩ := hgood hz
  obtain ⟨X, hX⟩ : ∃ X, X = formY r := ⟨_, rfl⟩
  rw [← hX] at hc hgt ⊢
  have RB := byt_rd hgb hgt
  have hXb : Bytes X := hX ▸ formY_bytes hz hrs2 hfb2 hbb2
  obtain ⟨hX0, hXl⟩ : 0 < X.length ∧ X.length ≤ 1100000 := hX ▸ formY_len hz hrs2 hrm2
  have hbk : ∀ y, parseResS (X ++ y) = .ok (backS r, X.length) := fun y => hX ▸ formY_back hz y
  have hbk0 : parseResS X = .ok (backS r, X.length) := by have := hbk []; rwa [List.append_nil] at this
  have hsh : parseResS (X.take (X.length - 1)) = .error 140 := formY_short hz ⟨X.drop (X.length - 1), by rw [← hX, List.take_append_drop], by intro e; have := congrArg List.length e; rw [List.length_drop] at this; simp at this; omega⟩
  have hpX : padS X 0 = X := by simp [padS, padN]
  have hfl2 : r.fields.length ≤ 10000000 := by rw [hrf]; omega
  have hpl2 : (printedS r.fields (toldR r.status r.body)).length ≤ 100000000 := by have := printed_len' r.fields (toldR r.status r.body); omega
  have ho1 : outRes X = (backS r, X.length, 0) := by unfold outRes; rw [hbk0]
  have ho2 : outRes (X ++ tl) = (backS r, X.length, 0) := by unfold outRes; rw [hbk]
  have ho3 : outRes (X.take (X.length - 1)) = (zS, 0, 140) := by unfold outRes; rw [hsh]
  have hs100 := status_in hz
  repeat' (first | (first | (with_reducible refine p_tn ?_) | (with_reducible refine wp_seq ?_) | (with_reducible refine w_reg ?_)) | (first | (with_reducible refine l_nil ?_) | ((with_reducible refine g_on ?_); (first | ((with_reducible refine g_mv ?_); refine l_p txs rfl rfl ?_) | ((with_reducible refine g_as ?_); refine l_p txs rfl rfl ?_) | ((with_reducible refine g_ex ?_); refine l_p txs rfl rfl ?_)))))
  (with_reducible refine is_l ?_); refine l_t txs rfl rfl (fun hh => absurd (by omega) hh) (fun _ => ?_)
  have q0 : w_.cell? ⟨gX, 0 + 0, none⟩ = some (.int .i64 r.status) := by rw [hrst]; exact H.cellAt 1 rfl rfl
  have q1 : w_.cell? ⟨gX, 0 + 1, none⟩ = some (.int .i64 r.minor) := by rw [hri]; exact H.cellAt 1 rfl rfl
  have q52 : w_.cell? ⟨g5, 0 + 2, none⟩ = some (.slice F r.fields.length f0) := H.cellAt 0 rfl rfl
  have q53 : w_.cell? ⟨g5, 0 + 3, none⟩ = some (.slice B r.body.length b0) := H.cellAt 0 rfl rfl
  have hFr : Rd w_ F (fldC r.fields) := rowF_rd H 0 rfl
  have hBr : ReadsInt w_ .u8 B r.body.length r.body := (rowB_rd H 1 (x := r.body) rfl).1
  have H0 := H
  have hEf := hE.below H0.B
  have h13f := h13.below H0.B
  have hPf := hP.below H0.B
  have hMf := H0.old hM
  have hrf2 := hr.below H0.B
  obtain ⟨w, hwf⟩ : ∃ wf, wf = w_ := ⟨_, rfl⟩
  rw [← hwf] at H0 hEf h13f hPf hMf hrf2 RB hgb q0 q1 q52 q53 hFr hBr
  have H : Hp w w_ [] [] := by rw [hwf]; exact Hp.nil _
  clear hwf
  repeat' (first | (first | (with_reducible refine p_tn ?_) | (with_reducible refine wp_seq ?_) | (with_reducible refine w_reg ?_) | (with_reducible (refine is_if ?_; (refine w_iff rfl ?_))) | (with_reducible refine wp_skip ?_)) | (first | (with_reducible refine l_nil ?_) | ((with_reducible refine g_on ?_); ((with_reducible refine g_fa ?_); refine h_fa flds rfl rfl ?_))))
  (with_reducible refine is_l ?_); refine l_ld txs rfl rfl (H.old q53) ?_
  repeat' (first | (first | (with_reducible refine p_tn ?_) | (with_reducible refine wp_seq ?_) | (with_reducible refine w_reg ?_)) | (first | (with_reducible refine l_nil ?_) | ((with_reducible refine g_on ?_); (first | ((with_reducible refine g_as ?_); refine l_p txs rfl rfl ?_) | ((with_reducible refine g_fa ?_); refine h_fa flds rfl rfl ?_) | ((with_reducible refine g_cl ?_); refine l_p txs rfl rfl ?_)))))
  (with_reducible refine is_l ?_); refine l_ld txs rfl rfl (H.old q0) ?_
  skip
  (with_reducible refine is_l ?_); refine l_t txs rfl rfl (fun _ => ?_) (fun hh => absurd (by omega) hh)
  repeat' (first | ((with_reducible refine g_on ?_); ((with_reducible refine g_mv ?_); refine l_p txs rfl rfl ?_)) | ((with_reducible refine g_if ?_); ((with_reducible refine g_fa ?_); refine h_fa flds rfl rfl ?_)))
  (with_reducible refine is_l ?_); refine l_ld txs rfl rfl (H.old q0) ?_
  skip
  (with_reducible refine is_l ?_); refine l_t txs rfl rfl (fun s1 => ?_) (fun s1 => ?_)
  have hti : toldI (-1) = toldR r.status r.body := by unfold toldR bareS; rw [if_pos (by simp; omega)]; rfl
  rotate_left
  repeat' (first | (first | (with_reducible refine p_tn ?_) | (with_reducible refine wp_seq ?_) | (with_reducible refine w_reg ?_) | (with_reducible (refine is_if ?_; (refine w_ift rfl ?_)))) | (first | (with_reducible refine l_nil ?_) | ((with_reducible refine g_on ?_); (first | ((with_reducible refine g_mv ?_); refine l_p txs rfl rfl ?_) | ((with_reducible refine g_as ?_); refine l_p txs rfl rfl ?_) | ((with_reducible refine g_pk ?_); refine l_p txs rfl rfl ?_))) | ((with_reducible refine g_if ?_); (first | (refine l_off rfl ?_) | ((with_reducible refine g_fa ?_); refine h_fa flds rfl rfl ?_)))))
  (with_reducible refine is_l ?_); refine l_ld txs rfl rfl (H.old q0) ?_
  skip
  (with_reducible refine is_l ?_); refine l_t txs rfl rfl (fun s2 => ?_) (fun s2 => ?_)
  have hti : toldI (-1) = toldR r.status r.body := by unfold toldR bareS; rw [if_pos (by simp; omega)]; rfl
  rotate_left
  repeat' (first | (first | (with_reducible refine p_tn ?_) | (with_reducible refine wp_seq ?_) | (with_reducible refine w_reg ?_) | (with_reducible (refine is_if ?_; (refine w_ift rfl ?_)))) | (first | (with_reducible refine l_nil ?_) | ((with_reducible refine g_on ?_); (first | ((with_reducible refine g_mv ?_); refine l_p txs rfl rfl ?_) | ((with_reducible refine g_as ?_); refine l_p txs rfl rfl ?_) | ((with_reducible refine g_pk ?_); refine l_p txs rfl rfl ?_))) | ((with_reducible refine g_if ?_); (first | (refine l_off rfl ?_) | ((with_reducible refine g_fa ?_); refine h_fa flds rfl rfl ?_)))))
  (with_reducible refine is_l ?_); refine l_ld txs rfl rfl (H.old q0) ?_
  skip
  (with_reducible refine is_l ?_); refine l_t txs rfl rfl (fun s3 => ?_) (fun s3 => ?_)
  have hti : toldI (-1) = toldR r.status r.body := by unfold toldR bareS; rw [if_pos (by simp; omega)]; rfl
  rotate_left
  have hti : toldI (r.body.length : Int) = toldR r.status r.body := by unfold toldR bareS; rw [if_neg (by simp; omega)]; exact toldI_nat _
  all_goals
    repeat' (first | (first | (with_reducible refine p_tn ?_) | (with_reducible refine wp_seq ?_) | (with_reducible refine w_reg ?_) | (with_reducible (refine is_if ?_; (first | (refine w_ift rfl ?_) | (refine w_iff rfl ?_)))) | (with_reducible refine wp_skip ?_)) | (first | (with_reducible refine l_nil ?_) | ((with_reducible refine g_on ?_); (first | ((with_reducible refine g_mv ?_); refine l_p txs rfl rfl ?_) | ((with_reducible refine g_as ?_); refine l_p txs rfl rfl ?_) | ((with_reducible refine g_pk ?_); refine l_p txs rfl rfl ?_)))))
    (with_reducible refine is_l ?_); refine l_call rfl rfl (by kernel_rfl) (ParseResponse_c (hEf.below H.B) (h13f.below H.B) (H.old hMf) (reads_of_rd (RB.below H.B) (by omega)) hc (fun e => by cases e) hXb (by omega)) (fun e w_ hR => ?_)
    have hR := ptR_out hR
    rw [ho1] at hR
    simp only at hR
    obtain ⟨F1, f1, P1, p1, rfl, K⟩ := hR
    refine ⟨_, rfl, ?_⟩
    have H := H.join K
    repeat' (first | (first | (with_reducible refine p_tn ?_) | (with_reducible refine wp_seq ?_)) | (first | (with_reducible refine l_nil ?_) | ((with_reducible refine g_on ?_); (first | ((with_reducible refine g_mv ?_); refine l_p txs rfl rfl ?_) | ((with_reducible refine g_as ?_); refine l_p txs rfl rfl ?_) | ((with_reducible refine g_ex ?_); refine l_p txs rfl rfl ?_) | ((with_reducible refine g_st ?_); (refine h_stR recs H 0 rfl rfl rfl rfl rfl rfl rfl rfl rfl (fun w_ H => ?_))) | ((with_reducible refine g_al ?_); refine h_alloc recs H rfl rfl (fun g_ w_ H => ?_))))))
    have HS := H.pick [0] [0, 1] (by decide) (by decide) rfl rfl
    refine d_start (fun w_ => Hp w w_ _ _) #[false, false, false, false, false, false, false, false, false, false, false, false, false, false, false, false, false, false, false, false, false, false, false, false, false, false, false, false, false, false, false, false, false, false, false, false, false, false, false, false, false] (by kernel_rfl) rfl rfl HS.drew ?_
    have H := H.drew
    have HS := HS.drew
    first | (refine d_pure (i := 0) #[true, false, false, false, false, false, false, false, false, false, false, false, false, false, false, false, false, false, false, false, false, false, false, false, false, false, false, false, false, false, false, false, false, false, false, false, false, false, false, false, false] rfl (by kernel_rfl) (fun _ _ _ h => h) rfl (fun w_ => evP_run (o := ⟨_, _, _, _, _, _⟩) txs rfl) ?_)
    first | (refine d_pure (i := 1) #[true, true, false, false, false, false, false, false, false, false, false, false, false, false, false, false, false, false, false, false, false, false, false, false, false, false, false, false, false, false, false, false, false, false, false, false, false, false, false, false, false] rfl (by kernel_rfl) (fun _ _ _ h => h) rfl (fun w_ => evT_no (o := ⟨_, _, _, _, _, _⟩) txs rfl (fun h => h rfl)) ?_)
    first | (refine d_pure (i := 2) #[true, true, true, false, false, false, false, false, false, false, false, false, false, false, false, false, false, false, false, false, false, false, false, false, false, false, false, false, false, false, false, false, false, false, false, false, false, false, false, false, false] rfl (by kernel_rfl) (fun _ _ _ h => h) rfl (fun w_ => evP_run (o := ⟨_, _, _, _, _, _⟩) txs rfl) ?_)
    first | (refine d_off (i := 3) #[true, true, true, true, false, false, false, false, false, false, false, false, false, false, false, false, false, false, false, false, false, false, false, false, false, false, false, false, false, false, false, false, false, false, false, false, false, false, false, false, false] rfl (by kernel_rfl) (fun _ _ _ h => h) rfl ?_) | (first | (refine d_pure (i := 3) #[true, true, true, true, false, false, false, false, false, false, false, false, false, false, false, false, false, false, false, false, false, false, false, false, false, false, false, false, false, false, false, false, false, false, false, false, false, false, false, false, false] rfl (by kernel_rfl) (fun _ _ _ h => h) rfl (fun w_ => evP_run (o := ⟨_, _, _, _, _, _⟩) txs rfl) ?_))
    first | (refine d_off (i := 4) #[true, true, true, true, true, false, false, false, false, false, false, false, false, false, false, false, false, false, false, false, false, false, false, false, false, false, false, false, false, false, false, false, false, false, false, false, false, false, false, false, false] rfl (by kernel_rfl) (fun _ _ _ h => h) rfl ?_) | (first | (refine d_pure (i := 4) #[true, true, true, true, true, false, false, false, false, false, false, false, false, false, false, false, false, false, false, false, false, false, false, false, false, false, false, false, false, false, false, false, false, false, false, false, false, false, false, false, false] rfl (by kernel_rfl) (fun _ _ _ h => h) rfl (fun w_ => evP_run (o := ⟨_, _, _, _, _, _⟩) txs rfl) ?_))
    first | (refine d_off (i := 5) #[true, true, true, true, true, true, false, false, false, false, false, false, false, false, false, false, false, false, false, false, false, false, false, false, false, false, false, false, false, false, false, false, false, false, false, false, false, false, false, false, false] rfl (by kernel_rfl) (fun _ _ _ h => h) rfl ?_) | (first | (refine d_pure (i := 5) #[true, true, true, true, true, true, false, false, false, false, false, false, false, false, false, false, false, false, false, false, false, false, false, false, false, false, false, false, false, false, false, false, false, false, false, false, false, false, false, false, false] rfl (by kernel_rfl) (fun _ _ _ h => h) rfl (fun w_ => evP_run (o := ⟨_, _, _, _, _, _⟩) txs rfl) ?_))
    first | (refine d_off (i := 6) #[true, true, true, true, true, true, true, false, false, false, false, false, false, false, false, false, false, false, false, false, false, false, false, false, false, false, false, false, false, false, false, false, false, false, false, false, false, false, false, false, false] rfl (by kernel_rfl) (fun _ _ _ h => h) rfl ?_) | (first | (refine d_pure (i := 6) #[true, true, true, true, true, true, true, false, false, false, false, false, false, false, false, false, false, false, false, false, false, false, false, false, false, false, false, false, false, false, false, false, false, false, false, false, false, false, false, false, false] rfl (by kernel_rfl) (fun _ _ _ h => h) rfl (fun w_ => evT_no (o := ⟨_, _, _, _, _, _⟩) txs rfl (fun h => h rfl)) ?_))
    first | (refine d_pure (i := 7) #[true, true, true, true, true, true, true, true, false, false, false, false, false, false, false, false, false, false, false, false, false, false, false, false, false, false, false, false, false, false, false, false, false, false, false, false, false, false, false, false, false] rfl (by kernel_rfl) (fun _ _ _ h => h) rfl (fun w_ => evP_run (o := ⟨_, _, _, _, _, _⟩) txs rfl) ?_)
    first | (refine d_pure (i := 8) #[true, true, true, true, true, true, true, true, true, false, false, false, false, false, false, false, false, false, false, false, false, false, false, false, false, false, false, false, false, false, false, false, false, false, false, false, false, false, false, false, false] rfl (by kernel_rfl) (fun _ _ _ h => h) rfl (fun w_ => evP_run (o := ⟨_, _, _, _, _, _⟩) txs rfl) ?_)
    first | (refine d_off (i := 9) #[true, true, true, true, true, true, true, true, true, true, false, false, false, false, false, false, false, false, false, false, false, false, false, false, false, false, false, false, false, false, false, false, false, false, false, false, false, false, false, false, false] rfl (by kernel_rfl) (fun _ _ _ h => h) rfl ?_) | (first | (refine d_pure (i := 9) #[true, true, true, true, true, true, true, true, true, true, false, false, false, false, false, false, false, false, false, false, false, false, false, false, false, false, false, false, false, false, false, false, false, false, false, false, false, false, false, false, false] rfl (by kernel_rfl) (fun _ _ _ h => h) rfl (fun w_ => evF_run (o := ⟨_, _, _, _, _, _⟩) flds rfl) ?_) | (refine d_pure (i := 9) #[true, true, true, true, true, true, true, true, true, true, false, false, false, false, false, false, false, false, false, false, false, false, false, false, false, false, false, false, false, false, false, false, false, false, false, false, false, false, false, false, false] rfl (by kernel_rfl) (fun _ _ _ h => h) rfl (fun w_ => evG_run (o := ⟨_, _, _, _, _, _⟩) flds rfl) ?_))
    first | (refine d_off (i := 10) #[true, true, true, true, true, true, true, true, true, true, true, false, false, false, false, false, false, false, false, false, false, false, false, false, false, false, false, false, false, false, false, false, false, false, false, false, false, false, false, false, false] rfl (by kernel_rfl) (fun _ _ _ h => h) rfl ?_) | (first | (refine d_take (i := 10) #[true, true, true, true, true, true, true, true, true, true, true, false, false, false, false, false, false, false, false, false, false, false, false, false, false, false, false, false, false, false, false, false, false, false, false, false, false, false, false, false, false] rfl (by kernel_rfl) (fun _ _ _ h => h) rfl (fun w_ K => evL_run (o := ⟨_, _, _, _, _, _⟩) txs rfl (K.cellAt 0 rfl rfl)) HS ?_))
    first | (refine d_off (i := 11) #[true, true, true, true, true, true, true, true, true, true, true, true, false, false, false, false, false, false, false, false, false, false, false, false, false, false, false, false, false, false, false, false, false, false, false, false, false, false, false, false, false] rfl (by kernel_rfl) (fun _ _ _ h => h) rfl ?_) | (first | (refine d_pure (i := 11) #[true, true, true, true, true, true, true, true, true, true, true, true, false, false, false, false, false, false, false, false, false, false, false, false, false, false, false, false, false, false, false, false, false, false, false, false, false, false, false, false, false] rfl (by kernel_rfl) (fun _ _ _ h => h) rfl (fun w_ => evF_run (o := ⟨_, _, _, _, _, _⟩) flds rfl) ?_) | (refine d_pure (i := 11) #[true, true, true, true, true, true, true, true, true, true, true, true, false, false, false, false, false, false, false, false, false, false, false, false, false, false, false, false, false, false, false, false, false, false, false, false, false, false, false, false, false] rfl (by kernel_rfl) (fun _ _ _ h => h) rfl (fun w_ => evG_run (o := ⟨_, _, _, _, _, _⟩) flds rfl) ?_))
    first | (refine d_off (i := 12) #[true, true, true, true, true, true, true, true, true, true, true, true, true, false, false, false, false, false, false, false, false, false, false, false, false, false, false, false, false, false, false, false, false, false, false, false, false, false, false, false, false] rfl (by kernel_rfl) (fun _ _ _ h => h) rfl ?_) | (first | (refine d_take (i := 12) #[true, true, true, true, true, true, true, true, true, true, true, true, true, false, false, false, false, false, false, false, false, false, false, false, false, false, false, false, false, false, false, false, false, false, false, false, false, false, false, false, false] rfl (by kernel_rfl) (fun _ _ _ h => h) rfl (fun w_ K => evL_run (o := ⟨_, _, _, _, _, _⟩) txs rfl (K.old q0)) HS ?_))
    first | (refine d_off (i := 13) #[true, true, true, true, true, true, true, true, true, true, true, true, true, true, false, false, false, false, false, false, false, false, false, false, false, false, false, false, false, false, false, false, false, false, false, false, false, false, false, false, false] rfl (by kernel_rfl) (fun _ _ _ h => h) rfl ?_) | (first | (refine d_pure (i := 13) #[true, true, true, true, true, true, true, true, true, true, true, true, true, true, false, false, false, false, false, false, false, false, false, false, false, false, false, false, false, false, false, false, false, false, false, false, false, false, false, false, false] rfl (by kernel_rfl) (fun _ _ _ h => h) rfl (fun w_ => evT_no (o := ⟨_, _, _, _, _, _⟩) txs rfl (fun h => h rfl)) ?_))
    first | (refine d_pure (i := 14) #[true, true, true, true, true, true, true, true, true, true, true, true, true, true, true, false, false, false, false, false, false, false, false, false, false, false, false, false, false, false, false, false, false, false, false, false, false, false, false, false, false] rfl (by kernel_rfl) (fun _ _ _ h => h) rfl (fun w_ => evP_run (o := ⟨_, _, _, _, _, _⟩) txs rfl) ?_)
    first | (refine d_pure (i := 15) #[true, true, true, true, true, true, true, true, true, true, true, true, true, true, true, true, false, false, false, false, false, false, false, false, false, false, false, false, false, false, false, false, false, false, false, false, false, false, false, false, false] rfl (by kernel_rfl) (fun _ _ _ h => h) rfl (fun w_ => evP_run (o := ⟨_, _, _, _, _, _⟩) txs rfl) ?_)
    first | (refine d_off (i := 16) #[true, true, true, true, true, true, true, true, true, true, true, true, true, true, true, true, true, false, false, false, false, false, false, false, false, false, false, false, false, false, false, false, false, false, false, false, false, false, false, false, false] rfl (by kernel_rfl) (fun _ _ _ h => h) rfl ?_) | (first | (refine d_pure (i := 16) #[true, true, true, true, true, true, true, true, true, true, true, true, true, true, true, true, true, false, false, false, false, false, false, false, false, false, false, false, false, false, false, false, false, false, false, false, false, false, false, false, false] rfl (by kernel_rfl) (fun _ _ _ h => h) rfl (fun w_ => evF_run (o := ⟨_, _, _, _, _, _⟩) flds rfl) ?_) | (refine d_pure (i := 16) #[true, true, true, true, true, true, true, true, true, true, true, true, true, true, true, true, true, false, false, false, false, false, false, false, false, false, false, false, false, false, false, false, false, false, false, false, false, false, false, false, false] rfl (by kernel_rfl) (fun _ _ _ h => h) rfl (fun w_ => evG_run (o := ⟨_, _, _, _, _, _⟩) flds rfl) ?_))
    first | (refine d_off (i := 17) #[true, true, true, true, true, true, true, true, true, true, true, true, true, true, true, true, true, true, false, false, false, false, false, false, false, false, false, false, false, false, false, false, false, false, false, false, false, false, false, false, false] rfl (by kernel_rfl) (fun _ _ _ h => h) rfl ?_) | (first | (refine d_take (i := 17) #[true, true, true, true, true, true, true, true, true, true, true, true, true, true, true, true, true, true, false, false, false, false, false, false, false, false, false, false, false, false, false, false, false, false, false, false, false, false, false, false, false] rfl (by kernel_rfl) (fun _ _ _ h => h) rfl (fun w_ K => evL_run (o := ⟨_, _, _, _, _, _⟩) txs rfl (K.cellAt 0 rfl rfl)) HS ?_))
    first | (refine d_off (i := 18) #[true, true, true, true, true, true, true, true, true, true, true, true, true, true, true, true, true, true, true, false, false, false, false, false, false, false, false, false, false, false, false, false, false, false, false, false, false, false, false, false, false] rfl (by kernel_rfl) (fun _ _ _ h => h) rfl ?_) | (first | (refine d_pure (i := 18) #[true, true, true, true, true, true, true, true, true, true, true, true, true, true, true, true, true, true, true, false, false, false, false, false, false, false, false, false, false, false, false, false, false, false, false, false, false, false, false, false, false] rfl (by kernel_rfl) (fun _ _ _ h => h) rfl (fun w_ => evF_run (o := ⟨_, _, _, _, _, _⟩) flds rfl) ?_) | (refine d_pure (i := 18) #[true, true, true, true, true, true, true, true, true, true, true, true, true, true, true, true, true, true, true, false, false, false, false, false, false, false, false, false, false, false, false, false, false, false, false, false, false, false, false, false, false] rfl (by kernel_rfl) (fun _ _ _ h => h) rfl (fun w_ => evG_run (o := ⟨_, _, _, _, _, _⟩) flds rfl) ?_))
    first | (refine d_off (i := 19) #[true, true, true, true, true, true, true, true, true, true, true, true, true, true, true, true, true, true, true, true, false, false, false, false, false, false, false, false, false, false, false, false, false, false, false, false, false, false, false, false, false] rfl (by kernel_rfl) (fun _ _ _ h => h) rfl ?_) | (first | (refine d_take (i := 19) #[true, true, true, true, true, true, true, true, true, true, true, true, true, true, true, true, true, true, true, true, false, false, false, false, false, false, false, false, false, false, false, false, false, false, false, false, false, false, false, false, false] rfl (by kernel_rfl) (fun _ _ _ h => h) rfl (fun w_ K => evL_run (o := ⟨_, _, _, _, _, _⟩) txs rfl (K.old q1)) HS ?_))
    first | (refine d_off (i := 20) #[true, true, true, true, true, true, true, true, true, true, true, true, true, true, true, true, true, true, true, true, true, false, false, false, false, false, false, false, false, false, false, false, false, false, false, false, false, false, false, false, false] rfl (by kernel_rfl) (fun _ _ _ h => h) rfl ?_) | (first | (refine d_pure (i := 20) #[true, true, true, true, true, true, true, true, true, true, true, true, true, true, true, true, true, true, true, true, true, false, false, false, false, false, false, false, false, false, false, false, false, false, false, false, false, false, false, false, false] rfl (by kernel_rfl) (fun _ _ _ h => h) rfl (fun w_ => evT_no (o := ⟨_, _, _, _, _, _⟩) txs rfl (fun h => h rfl)) ?_))
    first | (refine d_pure (i := 21) #[true, true, true, true, true, true, true, true, true, true, true, true, true, true, true, true, true, true, true, true, true, true, false, false, false, false, false, false, false, false, false, false, false, false, false, false, false, false, false, false, false] rfl (by kernel_rfl) (fun _ _ _ h => h) rfl (fun w_ => evP_run (o := ⟨_, _, _, _, _, _⟩) txs rfl) ?_)
    first | (refine d_pure (i := 22) #[true, true, true, true, true, true, true, true, true, true, true, true, true, true, true, true, true, true, true, true, true, true, true, false, false, false, false, false, false, false, false, false, false, false, false, false, false, false, false, false, false] rfl (by kernel_rfl) (fun _ _ _ h => h) rfl (fun w_ => evP_run (o := ⟨_, _, _, _, _, _⟩) txs rfl) ?_)
    first | (refine d_off (i := 23) #[true, true, true, true, true, true, true, true, true, true, true, true, true, true, true, true, true, true, true, true, true, true, true, true, false, false, false, false, false, false, false, false, false, false, false, false, false, false, false, false, false] rfl (by kernel_rfl) (fun _ _ _ h => h) rfl ?_) | (first | (refine d_pure (i := 23) #[true, true, true, true, true, true, true, true, true, true, true, true, true, true, true, true, true, true, true, true, true, true, true, true, false, false, false, false, false, false, false, false, false, false, false, false, false, false, false, false, false] rfl (by kernel_rfl) (fun _ _ _ h => h) rfl (fun w_ => evF_run (o := ⟨_, _, _, _, _, _⟩) flds rfl) ?_) | (refine d_pure (i := 23) #[true, true, true, true, true, true, true, true, true, true, true, true, true, true, true, true, true, true, true, true, true, true, true, true, false, false, false, false, false, false, false, false, false, false, false, false, false, false, false, false, false] rfl (by kernel_rfl) (fun _ _ _ h => h) rfl (fun w_ => evG_run (o := ⟨_, _, _, _, _, _⟩) flds rfl) ?_))
    first | (refine d_off (i := 24) #[true, true, true, true, true, true, true, true, true, true, true, true, true, true, true, true, true, true, true, true, true, true, true, true, true, false, false, false, false, false, false, false, false, false, false, false, false, false, false, false, false] rfl (by kernel_rfl) (fun _ _ _ h => h) rfl ?_) | (first | (refine d_take (i := 24) #[true, true, true, true, true, true, true, true, true, true, true, true, true, true, true, true, true, true, true, true, true, true, true, true, true, false, false, false, false, false, false, false, false, false, false, false, false, false, false, false, false] rfl (by kernel_rfl) (fun _ _ _ h => h) rfl (fun w_ K => evL_run (o := ⟨_, _, _, _, _, _⟩) txs rfl (K.cellAt 0 rfl rfl)) HS ?_))
    first | (refine d_off (i := 25) #[true, true, true, true, true, true, true, true, true, true, true, true, true, true, true, true, true, true, true, true, true, true, true, true, true, true, false, false, false, false, false, false, false, false, false, false, false, false, false, false, false] rfl (by kernel_rfl) (fun _ _ _ h => h) rfl ?_) | (first | (refine d_take (i := 25) #[true, true, true, true, true, true, true, true, true, true, true, true, true, true, true, true, true, true, true, true, true, true, true, true, true, true, false, false, false, false, false, false, false, false, false, false, false, false, false, false, false] rfl (by kernel_rfl) (fun _ _ _ h => h) rfl (fun w_ K => evText_run (o := ⟨_, _, _, _, _, _⟩) rfl Tryz.underlying23 Tryz.underlying5 Tryz.underlying9 (rowB_rd K 1 (F := P1) (f := p1) (x := (backS r).body) rfl).1) HS ?_))
    first | (refine d_off (i := 26) #[true, true, true, true, true, true, true, true, true, true, true, true, true, true, true, true, true, true, true, true, true, true, true, true, true, true, true, false, false, false, false, false, false, false, false, false, false, false, false, false, false] rfl (by kernel_rfl) (fun _ _ _ h => h) rfl ?_) | (first | (refine d_pure (i := 26) #[true, true, true, true, true, true, true, true, true, true, true, true, true, true, true, true, true, true, true, true, true, true, true, true, true, true, true, false, false, false, false, false, false, false, false, false, false, false, false, false, false] rfl (by kernel_rfl) (fun _ _ _ h => h) rfl (fun w_ => evF_run (o := ⟨_, _, _, _, _, _⟩) flds rfl) ?_) | (refine d_pure (i := 26) #[true, true, true, true, true, true, true, true, true, true, true, true, true, true, true, true, true, true, true, true, true, true, true, true, true, true, true, false, false, false, false, false, false, false, false, false, false, false, false, false, false] rfl (by kernel_rfl) (fun _ _ _ h => h) rfl (fun w_ => evG_run (o := ⟨_, _, _, _, _, _⟩) flds rfl) ?_))
    first | (refine d_off (i := 27) #[true, true, true, true, true, true, true, true, true, true, true, true, true, true, true, true, true, true, true, true, true, true, true, true, true, true, true, true, false, false, false, false, false, false, false, false, false, false, false, false, false] rfl (by kernel_rfl) (fun _ _ _ h => h) rfl ?_) | (first | (refine d_take (i := 27) #[true, true, true, true, true, true, true, true, true, true, true, true, true, true, true, true, true, true, true, true, true, true, true, true, true, true, true, true, false, false, false, false, false, false, false, false, false, false, false, false, false] rfl (by kernel_rfl) (fun _ _ _ h => h) rfl (fun w_ K => evL_run (o := ⟨_, _, _, _, _, _⟩) txs rfl (K.old q53)) HS ?_))
    first | (refine d_off (i := 28) #[true, true, true, true, true, true, true, true, true, true, true, true, true, true, true, true, true, true, true, true, true, true, true, true, true, true, true, true, true, false, false, false, false, false, false, false, false, false, false, false, false] rfl (by kernel_rfl) (fun _ _ _ h => h) rfl ?_) | (first | (refine d_take (i := 28) #[true, true, true, true, true, true, true, true, true, true, true, true, true, true, true, true, true, true, true, true, true, true, true, true, true, true, true, true, true, false, false, false, false, false, false, false, false, false, false, false, false] rfl (by kernel_rfl) (fun _ _ _ h => h) rfl (fun w_ K => evText_run (o := ⟨_, _, _, _, _, _⟩) rfl Tryz.underlying23 Tryz.underlying5 Tryz.underlying9 (hBr.below K.B)) HS ?_))
    first | (refine d_off (i := 29) #[true, true, true, true, true, true, true, true, true, true, true, true, true, true, true, true, true, true, true, true, true, true, true, true, true, true, true, true, true, true, false, false, false, false, false, false, false, false, false, false, false] rfl (by kernel_rfl) (fun _ _ _ h => h) rfl ?_) | (first | (refine d_pure (i := 29) #[true, true, true, true, true, true, true, true, true, true, true, true, true, true, true, true, true, true, true, true, true, true, true, true, true, true, true, true, true, true, false, false, false, false, false, false, false, false, false, false, false] rfl (by kernel_rfl) (fun _ _ _ h => h) rfl (fun w_ => evT_no (o := ⟨_, _, _, _, _, _⟩) txs rfl (fun h => h rfl)) ?_))
    first | (refine d_pure (i := 30) #[true, true, true, true, true, true, true, true, true, true, true, true, true, true, true, true, true, true, true, true, true, true, true, true, true, true, true, true, true, true, true, false, false, false, false, false, false, false, false, false, false] rfl (by kernel_rfl) (fun _ _ _ h => h) rfl (fun w_ => evP_run (o := ⟨_, _, _, _, _, _⟩) txs rfl) ?_)
    first | (refine d_pure (i := 31) #[true, true, true, true, true, true, true, true, true, true, true, true, true, true, true, true, true, true, true, true, true, true, true, true, true, true, true, true, true, true, true, true, false, false, false, false, false, false, false, false, false] rfl (by kernel_rfl) (fun _ _ _ h => h) rfl (fun w_ => evP_run (o := ⟨_, _, _, _, _, _⟩) txs rfl) ?_)
    first | (refine d_off (i := 32) #[true, true, true, true, true, true, true, true, true, true, true, true, true, true, true, true, true, true, true, true, true, true, true, true, true, true, true, true, true, true, true, true, true, false, false, false, false, false, false, false, false] rfl (by kernel_rfl) (fun _ _ _ h => h) rfl ?_) | (first | (refine d_pure (i := 32) #[true, true, true, true, true, true, true, true, true, true, true, true, true, true, true, true, true, true, true, true, true, true, true, true, true, true, true, true, true, true, true, true, true, false, false, false, false, false, false, false, false] rfl (by kernel_rfl) (fun _ _ _ h => h) rfl (fun w_ => evF_run (o := ⟨_, _, _, _, _, _⟩) flds rfl) ?_) | (refine d_pure (i := 32) #[true, true, true, true, true, true, true, true, true, true, true, true, true, true, true, true, true, true, true, true, true, true, true, true, true, true, true, true, true, true, true, true, true, false, false, false, false, false, false, false, false] rfl (by kernel_rfl) (fun _ _ _ h => h) rfl (fun w_ => evG_run (o := ⟨_, _, _, _, _, _⟩) flds rfl) ?_))
    first | (refine d_off (i := 33) #[true, true, true, true, true, true, true, true, true, true, true, true, true, true, true, true, true, true, true, true, true, true, true, true, true, true, true, true, true, true, true, true, true, true, false, false, false, false, false, false, false] rfl (by kernel_rfl) (fun _ _ _ h => h) rfl ?_) | (first | (refine d_take (i := 33) #[true, true, true, true, true, true, true, true, true, true, true, true, true, true, true, true, true, true, true, true, true, true, true, true, true, true, true, true, true, true, true, true, true, true, false, false, false, false, false, false, false] rfl (by kernel_rfl) (fun _ _ _ h => h) rfl (fun w_ K => evL_run (o := ⟨_, _, _, _, _, _⟩) txs rfl (K.cellAt 0 rfl rfl)) HS ?_))
    first | (refine d_off (i := 34) #[true, true, true, true, true, true, true, true, true, true, true, true, true, true, true, true, true, true, true, true, true, true, true, true, true, true, true, true, true, true, true, true, true, true, true, false, false, false, false, false, false] rfl (by kernel_rfl) (fun _ _ _ h => h) rfl ?_) | (first | (refine d_pure (i := 34) #[true, true, true, true, true, true, true, true, true, true, true, true, true, true, true, true, true, true, true, true, true, true, true, true, true, true, true, true, true, true, true, true, true, true, true, false, false, false, false, false, false] rfl (by kernel_rfl) (fun _ _ _ h => h) rfl (fun w_ => evF_run (o := ⟨_, _, _, _, _, _⟩) flds rfl) ?_) | (refine d_pure (i := 34) #[true, true, true, true, true, true, true, true, true, true, true, true, true, true, true, true, true, true, true, true, true, true, true, true, true, true, true, true, true, true, true, true, true, true, true, false, false, false, false, false, false] rfl (by kernel_rfl) (fun _ _ _ h => h) rfl (fun w_ => evG_run (o := ⟨_, _, _, _, _, _⟩) flds rfl) ?_))
    first | (refine d_off (i := 35) #[true, true, true, true, true, true, true, true, true, true, true, true, true, true, true, true, true, true, true, true, true, true, true, true, true, true, true, true, true, true, true, true, true, true, true, true, false, false, false, false, false] rfl (by kernel_rfl) (fun _ _ _ h => h) rfl ?_) | (first | (refine d_take (i := 35) #[true, true, true, true, true, true, true, true, true, true, true, true, true, true, true, true, true, true, true, true, true, true, true, true, true, true, true, true, true, true, true, true, true, true, true, true, false, false, false, false, false] rfl (by kernel_rfl) (fun _ _ _ h => h) rfl (fun w_ K => evL_run (o := ⟨_, _, _, _, _, _⟩) txs rfl (K.old q52)) HS ?_))
    first | (refine d_off (i := 36) #[true, true, true, true, true, true, true, true, true, true, true, true, true, true, true, true, true, true, true, true, true, true, true, true, true, true, true, true, true, true, true, true, true, true, true, true, true, false, false, false, false] rfl (by kernel_rfl) (fun _ _ _ h => h) rfl ?_) | (first | (refine d_pure (i := 36) #[true, true, true, true, true, true, true, true, true, true, true, true, true, true, true, true, true, true, true, true, true, true, true, true, true, true, true, true, true, true, true, true, true, true, true, true, true, false, false, false, false] rfl (by kernel_rfl) (fun _ _ _ h => h) rfl (fun w_ => evP_run (o := ⟨_, _, _, _, _, _⟩) txs rfl) ?_))
    refine d_one (i := 37) #[true, true, true, true, true, true, true, true, true, true, true, true, true, true, true, true, true, true, true, true, true, true, true, true, true, true, true, true, true, true, true, true, true, true, true, true, true, true, false, false, false] rfl (by kernel_rfl) rfl ?_
    (refine l_call rfl rfl (by kernel_rfl) (told_c (hPf.below H.B) (hFr.below H.B) hfb2 hfl2 _ (by omega)) (fun e w_ hR => ?_)); obtain ⟨A3, c3, rfl, K⟩ := hR; refine ⟨_, rfl, ?_⟩; rw [hti] at K ⊢; have H := (H.join K).pick [0] [1, 2, 0] (by decide) (by decide) rfl rfl
    refine l_nil ?_
    have HS := H.pick [0] [0, 1] (by decide) (by decide) rfl rfl
    refine ⟨rfl, HS, ?_⟩
    refine d_one (i := 38) #[true, true, true, true, true, true, true, true, true, true, true, true, true, true, true, true, true, true, true, true, true, true, true, true, true, true, true, true, true, true, true, true, true, true, true, true, true, true, true, false, false] rfl (by kernel_rfl) rfl ?_
    refine l_callv rfl rfl (by kernel_rfl) (alike_c (rowF_rd H 0 (F := F1) (f := f1) (x := printedS r.fields (toldR r.status r.body)) rfl) (rowF_rd H 2 (F := A3) (f := c3) (x := printedS r.fields (toldR r.status r.body)) rfl) (by exact hpl2)) (fun w_ K => ?_); have H := H.call K
    refine l_nil ?_
    have HS := H.pick [0] [0, 1] (by decide) (by decide) rfl rfl
    refine ⟨rfl, HS, ?_⟩
    first | (refine d_off (i := 39) #[true, true, true, true, true, true, true, true, true, true, true, true, true, true, true, true, true, true, true, true, true, true, true, true, true, true, true, true, true, true, true, true, true, true, true, true, true, true, true, true, false] rfl (by kernel_rfl) (fun _ _ _ h => h) rfl ?_) | (first | (refine d_pure (i := 39) #[true, true, true, true, true, true, true, true, true, true, true, true, true, true, true, true, true, true, true, true, true, true, true, true, true, true, true, true, true, true, true, true, true, true, true, true, true, true, true, true, false] rfl (by kernel_rfl) (fun _ _ _ h => h) rfl (fun w_ => evP_run (o := ⟨_, _, _, _, _, _⟩) txs rfl) ?_))
    first | (refine d_pure (i := 40) #[true, true, true, true, true, true, true, true, true, true, true, true, true, true, true, true, true, true, true, true, true, true, true, true, true, true, true, true, true, true, true, true, true, true, true, true, true, true, true, true, true] rfl (by kernel_rfl) (fun _ _ _ h => h) rfl (fun w_ => evP_run (o := ⟨_, _, _, _, _, _⟩) txs rfl) ?_)
    refine d_done rfl ?_
    repeat' (first | (first | (with_reducible refine p_tn ?_) | (with_reducible refine wp_seq ?_) | (with_reducible refine w_reg ?_) | (with_reducible (refine is_if ?_; (refine w_iff rfl ?_))) | (with_reducible refine wp_skip ?_)) | ((with_reducible refine g_on ?_); (first | ((with_reducible refine g_mv ?_); refine l_p txs rfl rfl ?_) | ((with_reducible refine g_cl ?_); refine l_p txs rfl rfl ?_) | ((with_reducible refine g_bi ?_); (refine l_a txs rfl rfl (by first | exact in_i64 (by omega) (by omega) | exact in_u8 (by omega) (by omega) | exact in_u64 (by omega) (by omega) | exact in_i32 (by omega) (by omega)) ?_)))))
    rw [show (X.length : Int) - 1 = ((X.length - 1 : Nat) : Int) by omega]
    (with_reducible refine is_l ?_); refine l_cutN txs 0 (X.length - 1) rfl rfl (by omega) (by omega) ?_
    have hk : ((X.take (X.length - 1)).drop 0) = X.take (X.length - 1) := List.drop_zero
    have hkl : (X.take (X.length - 1)).length = X.length - 1 := by rw [List.length_take]; omega
    have q := reads_cut (reads_of_rd (RB.below H.B) (by omega)) (p := 0) (q := X.length - 1) (Nat.zero_le _) (by omega) hc
    rw [hk, show X.length - 1 - 0 = (X.take (X.length - 1)).length by omega] at q
    rw [show X.length - 1 - 0 = (X.take (X.length - 1)).length by omega]
    skip
    (with_reducible refine is_l ?_); refine l_call rfl rfl (by kernel_rfl) (ParseResponse_c (c := c - 0) (hEf.below H.B) (h13f.below H.B) (H.old hMf) q (by omega) (fun e => by obtain ⟨a2, ca⟩ := cutA_some ⟨g, 0, none⟩ c 0; rw [ca] at e; cases e) (fun x hx => hXb x (List.mem_of_mem_take hx)) (by omega)) (fun e w_ hR => ?_)
    have hR := ptR_out hR
    rw [ho3] at hR
    simp only at hR
    obtain ⟨F4, f4, P4, p4, rfl, K⟩ := hR
    refine ⟨_, rfl, ?_⟩
    have H := H.join K
    repeat' (first | (first | (with_reducible refine p_tn ?_) | (with_reducible refine wp_seq ?_) | (with_reducible refine w_reg ?_)) | (first | (with_reducible refine l_nil ?_) | ((with_reducible refine g_on ?_); (first | ((with_reducible refine g_mv ?_); refine l_p txs rfl rfl ?_) | ((with_reducible refine g_as ?_); refine l_p txs rfl rfl ?_) | ((with_reducible refine g_ex ?_); refine l_p txs rfl rfl ?_) | ((with_reducible refine g_st ?_); (refine h_stR recs H 0 rfl rfl rfl rfl rfl rfl rfl rfl rfl (fun w_ H => ?_))) | ((with_reducible refine g_al ?_); refine h_alloc recs H rfl rfl (fun g_ w_ H => ?_))))))
    (with_reducible refine is_l ?_); refine l_call rfl rfl (by kernel_rfl) (padded_c (reads_of_rd (RB.below H.B) (by omega)) 0 (by omega)) (fun e w_ hR => ?_)
    obtain ⟨A0, c0, rfl, K⟩ := hR
    refine ⟨_, rfl, ?_⟩
    rw [hpX] at K ⊢
    have H := H.join K
    repeat' ((with_reducible refine g_on ?_); ((with_reducible refine g_mv ?_); refine l_p txs rfl rfl ?_))
    (with_reducible refine is_l ?_); refine h_app H 0 rfl info_u8 Tryz.underlying23 rfl rfl rfl rfl (rd_of_reads (hrf2.below H.B)) (by simp [nums]) (nums_one _ _) (by show (X.length + tl.length) * 1 ≤ _; omega) (fun v w_ hv H => ?_)
    obtain ⟨D1, d1, rfl⟩ := hv
    have hXt : (X ++ tl).length = X.length + tl.length := List.length_append
    have e9 : Value.slice D1 ((rowB (.slice A0 X.length c0) X).n + tl.length) d1 = Value.slice D1 (X ++ tl).length d1 := by rw [hXt]
    rw [e9]
    have H := (H.pick [0, 1] [0, 3, 4] (by decide) (by decide) rfl rfl).row0 (d' := rowB (.slice D1 (X ++ tl).length d1) (X ++ tl)) (by unfold rowB; rw [hXt, nums_append])
    skip
    obtain ⟨ra, ra2, ra3⟩ := rowB_rd H 0 (F := D1) (f := d1) (x := X ++ tl) rfl
    (with_reducible refine is_l ?_); refine l_call rfl rfl (by kernel_rfl) (ParseResponse_c (hEf.below H.B) (h13f.below H.B) (H.old hMf) ra ra2 ra3 (app_bytes hXb htb) (by omega)) (fun e w_ hR => ?_)
    have hR := ptR_out hR
    rw [ho2] at hR
    simp only at hR
    obtain ⟨F2, f2, P2, p2, rfl, K⟩ := hR
    refine ⟨_, rfl, ?_⟩
    have H := H.join K
    repeat' (first | (first | (with_reducible refine p_tn ?_) | (with_reducible refine wp_seq ?_) | (with_reducible refine w_reg ?_)) | (first | (with_reducible refine l_nil ?_) | ((with_reducible refine g_on ?_); (first | ((with_reducible refine g_mv ?_); refine l_p txs rfl rfl ?_) | ((with_reducible refine g_as ?_); refine l_p txs rfl rfl ?_) | ((with_reducible refine g_ex ?_); refine l_p txs rfl rfl ?_) | ((with_reducible refine g_st ?_); (refine h_stR recs H 0 rfl rfl rfl rfl rfl rfl rfl rfl rfl (fun w_ H => ?_))) | ((with_reducible refine g_al ?_); refine h_alloc recs H rfl rfl (fun g_ w_ H => ?_))))))
    (with_reducible refine is_l ?_); refine l_t txs rfl rfl (fun _ => ?_) (fun hh => absurd rfl hh)
    repeat' (first | ((with_reducible refine g_on ?_); ((with_reducible refine g_mv ?_); refine l_p txs rfl rfl ?_)) | ((with_reducible refine g_if ?_); ((with_reducible refine g_mv ?_); refine l_p txs rfl rfl ?_)))
    (with_reducible refine is_l ?_); refine l_t txs rfl rfl (fun _ => ?_) (fun hh => absurd rfl hh)
    repeat' (first | ((with_reducible refine g_on ?_); (first | ((with_reducible refine g_mv ?_); refine l_p txs rfl rfl ?_) | ((with_reducible refine g_pk ?_); refine l_p txs rfl rfl ?_))) | ((with_reducible refine g_if ?_); ((with_reducible refine g_mv ?_); refine l_p txs rfl rfl ?_)))
    (with_reducible refine is_l ?_); refine l_t txs rfl rfl (fun _ => ?_) (fun hh => absurd rfl hh)
    repeat' (first | ((with_reducible refine g_on ?_); (first | ((with_reducible refine g_mv ?_); refine l_p txs rfl rfl ?_) | ((with_reducible refine g_pk ?_); refine l_p txs rfl rfl ?_))) | ((with_reducible refine g_if ?_); ((with_reducible refine g_ld ?_); (first | (refine h_ldR recs H 0 rfl rfl rfl rfl rfl ?_) | (refine h_ldR recs H 2 rfl rfl rfl rfl rfl ?_)))))
    (with_reducible refine is_l ?_); refine l_callv rfl rfl (by kernel_rfl) (pairs_c (backS r) (rowF_rd H 0 (F := F2) (f := f2) rfl) (rowF_rd H 3 (F := F1) (f := f1) rfl) (rowB_rd H 1 (F := P2) (f := p2) rfl).1 (rowB_rd H 4 (F := P1) (f := p1) rfl).1 (by exact hpl2)) (fun w_ K => ?_)
    have H := H.call K
    repeat' (first | (first | (with_reducible refine p_tn ?_) | (with_reducible refine wp_ret ?_)) | (first | (with_reducible refine l_nil ?_) | ((with_reducible refine g_on ?_); (first | ((with_reducible refine g_as ?_); refine l_p txs rfl rfl ?_) | ((with_reducible refine g_pk ?_); refine l_p txs rfl rfl ?_)))))
    refine end1 rfl rfl ?_
    exact ⟨rfl, Bt H0.B H.B⟩
end Go.Proofs.YthgojbdpmcccaaaGreatDoor.K
end
section
namespace Go.Proofs.YthgojbdpmcccaaaGreatDoor.Op
open Go.ChangeShapes Go.WideShapes Go.ChangeAt Go.RowKit
open Go.Proofs.YthgojbdpmcccaaaGreatDoor.K Go.Proofs.YthgojbdpmcccaaaGreatDoor.Q Go.Proofs.YthgojbdpmcccaaaGreatDoor.Wb Go.Proofs.YthgojbdpmcccaaaGreatDoor.LaidF Go.Proofs.YthgojbdpmcccaaaGreatDoorW.PrintWords
set_option linter.unusedVariables false
set_option linter.unusedSimpArgs false
structure ResIn (W : World) (k : Nat) where
  st : Int
  mi : Int
  ns : List L
  vs : List L
  body : L
  pad : Int
  NB : Option Addr
  nc : Nat
  VB : Option Addr
  vc : Nat
  BB : Option Addr
  bc : Nat
  hst : -9223372036854775808 ≤ st ∧ st ≤ 9223372036854775807
  hmi : -9223372036854775808 ≤ mi ∧ mi ≤ 9223372036854775807
  hn : Rd W NB (strC ns) ∧ ns.length ≤ k ∧ ∀ x ∈ ns, Bytes x ∧ x.length ≤ k
  hvs : Rd W VB (strC vs) ∧ vs.length ≤ k ∧ ∀ x ∈ vs, Bytes x ∧ x.length ≤ k
  hb : ReadsInt W .u8 BB body.length body ∧ body.length ≤ bc ∧ body.length ≤ k ∧ Bytes body ∧ (BB = none → bc = 0 ∧ body.length = 0)
  hp : -9223372036854775808 ≤ pad ∧ pad ≤ 9223372036854775807
def ResIn.val {W : World} {k : Nat} (R : ResIn W k) : Value := .agg #[.int .i64 R.st, .int .i64 R.mi, .slice R.NB R.ns.length R.nc, .slice R.VB R.vs.length R.vc, .slice R.BB R.body.length R.bc, .int .i64 R.pad]
theorem six {cs : List Value} (h : cs.length = 6) : ∃ a b c d e f, cs = [a, b, c, d, e, f] := by
  match cs, h with
  | [a, b, c, d, e, f], _ => exact ⟨a, b, c, d, e, f, rfl⟩
set_option maxRecDepth 100000 in
theorem open_res {H : Type} {enc : TypeId × Value → H} {W : World} {base : Nat} {v : Value} {d : DataW H} {ps : List MemPlace} (hval : Value.okWide Tryz.prog W .any base 53 v) (h : DataW.Trod enc Tryz.prog W 0 (fun _ => true) true 53 v d ps) : ∃ R : ResIn W (Rows.uptoBulk d), v = R.val := by
  obtain ⟨cs, rfl, hsz⟩ := okWide_struct Tryz.underlying53 hval
  obtain ⟨fuel, hf⟩ := h
  obtain ⟨xs, n, hx, hl, hall⟩ := one_at Tryz.underlying53 (by kernel_rfl) hf
  have e7 : Tryz.prog.cellsOf 53 = 6 := by kernel_rfl
  have hcs : (Value.agg cs).cells.toList = cs.toList := rfl
  rw [hcs, e7] at hl
  rw [hcs] at hall
  obtain ⟨a, b, c, q, e, f, h7⟩ := six hl
  rw [h7] at hall
  simp only at hx
  obtain ⟨y0, m0, h0⟩ := hall 0 _ rfl
  obtain ⟨y1, m1, h1⟩ := hall 1 _ rfl
  obtain ⟨y2, m2, h2⟩ := hall 2 _ rfl
  obtain ⟨y3, m3, h3⟩ := hall 3 _ rfl
  obtain ⟨y4, m4, h4⟩ := hall 4 _ rfl
  obtain ⟨y5, m5, h5⟩ := hall 5 _ rfl
  obtain ⟨i0, k0, b0⟩ := int_in Tryz.underlying3 h0
  obtain ⟨i1, k1, b1⟩ := int_in Tryz.underlying3 h1
  obtain ⟨A2, c2, l2, k2, z2, r2, n2, b2⟩ := strs_in h2
  obtain ⟨A3, c3, l3, k3, z3, r3, n3, b3⟩ := strs_in h3
  obtain ⟨A4, c4, l4, k4, z4, r4, n4, b4, o4⟩ := bytes_in h4
  obtain ⟨i5, k5, b5⟩ := int_in Tryz.underlying3 h5
  have hle : ∀ y, y ∈ xs → Rows.uptoBulk y.1 ≤ Rows.uptoBulk d := fun y hy => by rw [hx]; exact agg_le hy
  have L2 := hle _ m2
  have L3 := hle _ m3
  have L4 := hle _ m4
  refine ⟨⟨i0, i1, l2, l3, l4, i5, A2, c2, A3, c3, A4, c4, b0, b1, ⟨r2, by omega, fun x hx => ⟨(b2 x hx).1, by have := (b2 x hx).2; omega⟩⟩, ⟨r3, by omega, fun x hx => ⟨(b3 x hx).1, by have := (b3 x hx).2; omega⟩⟩, ⟨r4, z4, by omega, b4, o4⟩, b5⟩, ?_⟩
  have h8 : cs = [a, b, c, q, e, f].toArray := by rw [← h7]
  simp at k0 k1 k2 k3 k4 k5
  unfold ResIn.val
  rw [h8, k0, k1, k2, k3, k4, k5]
end Go.Proofs.YthgojbdpmcccaaaGreatDoor.Op
end
