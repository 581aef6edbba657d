/- A cell of an own row is written; an append that goes in place or leaves the old row; the first rows chosen; a value that wraps. -/
import Derived.Test.YtljinjgamgmocaaQH
namespace Go.Proofs.Ytljinjgamgmocaa.Q
open Go.RowKit Go.Proofs.YtljinjgamgmocaaW.PrintWords Go.Proofs.YtljinjgamgmocaaW.PrintLast
set_option linter.unusedVariables false
set_option linter.unusedSimpArgs false

/-- The chosen ones of the first rows, and all behind them. -/
theorem Hp.keep {w0 w : World} {l l' : List Ent} {r rs r' : List RowD} (H : Hp w0 w l (r ++ rs)) (ks ms : List Nat) (hk : ks.Nodup) (hm : ms.Nodup) (hlt : ms.all (fun m => Nat.blt m r.length) = true) (hl : nfO (ks.map (l[·]?)) some = some l') (hr : nfO (ms.map (r[·]?)) some = some r') : Hp w0 w l' (r' ++ rs) := by
  have hlt' : ∀ m ∈ ms, m < r.length := fun m h => by have := List.all_eq_true.1 hlt m h; simpa using this
  refine H.sel ks (ms ++ (List.range rs.length).map (· + r.length)) hk ?_ (nfO_some hl) ?_
  · rw [List.nodup_append]
    refine ⟨hm, List.pairwise_map.2 (List.nodup_range.imp fun h e => h (by omega)), fun a ha b hb e => ?_⟩
    obtain ⟨i, _, rfl⟩ := List.mem_map.1 hb
    have := hlt' a ha
    omega
  · rw [List.map_append, List.map_append]
    congr 1
    · rw [← nfO_some hr]
      exact List.map_congr_left fun m h => List.getElem?_append_left (hlt' m h)
    · rw [List.map_map]
      refine List.ext_getElem? fun i => ?_
      simp only [List.getElem?_map]
      by_cases hi : i < rs.length
      · rw [List.getElem?_range hi, List.getElem?_eq_getElem hi]
        simp only [Option.map_some, Function.comp]
        rw [List.getElem?_append_right (by omega), Nat.add_sub_cancel, List.getElem?_eq_getElem hi]
      · rw [List.getElem?_eq_none (by simp; omega), List.getElem?_eq_none (by omega)]
        rfl
section
variable {P : Program} {n : Nat} {f : Fr} {w w0 : World} {ops : Array Oper} {Q : Exit → Act → World → Prop} {rest : List Oper} {tt : TypeId} {ps : String} {af : Array Edge} {gd : Option (Nat × Bool)} {s : Bool} {l : List Ent} {r : List RowD}
/-- A cell of a row of the call's own is written. -/
theorem h_stE {t : TypeId} {x y : Operand} (ho : (P.info? t).map (·.size) = some 1) (H : HpS s w0 w l r) (k : Nat) {g i c m : Nat} {e : TypeId} {cs : List Value} {v : Value} (h1 : v.oneCell' = true) (hv : v.cells = #[v]) (hw : want n ops f ⟨none, .store t x y, tt, ps, af, gd⟩ = true) {a : Addr} (hx : X n f x = .pointer (some a)) (ha : a = ⟨g, i, none⟩) (hy : X n f y = v) (hk : r[k]? = some ⟨.slice (some ⟨g, 0, none⟩) m c, e, 1, m, cs⟩) (hi : i < m)
    (h : ∀ w', HpS s w0 w' l (r.set k ⟨.slice (some ⟨g, 0, none⟩) m c, e, 1, m, cs.set i v⟩) → WL P ops Q rest (act n f) w') : WL P ops Q (⟨none, .store t x y, tt, ps, af, gd⟩ :: rest) (act n f) w := by
  subst ha
  have hO : w.ownsRow w0.heap.size e 1 (.slice (some ⟨g, 0, none⟩) m c) m cs := H.row k _ hk
  obtain ⟨s1, s2⟩ := hO.stored i v
  obtain ⟨h2, h3 | ⟨g', cap, cur, h3, h4, h5, h6, h7, h8, h9⟩⟩ := hO
  · exact absurd h3.1 (by simp)
  simp only [Value.slice.injEq, Option.some.injEq, Addr.mk.injEq, and_true, true_and] at h3
  obtain ⟨e1, e2⟩ := h3
  subst e1 e2
  have hr := run_store_run (P := P) (o := i) t v [v] h5 (by rw [hv]) ho (by simp; omega) (by intro q1 h2; simp at h2; subst h2; exact h1)
  have e : w.setCells g i [v] = w.setCell ⟨g, i, none⟩ v := by simp [World.setCells]
  rw [e] at hr
  refine h_skip hw ?_ (h _ (H.put k hk s2 s1 (.inl rfl) (fun _ => Nat.le_refl _)))
  unfold execOp
  simp [hx, hy, hr]
end
theorem own_up {w : World} {b b' : Nat} {e : TypeId} {sz n : Nat} {v : Value} {xs : List Value} (h : w.ownsRow b e sz v n xs) (hb : ∀ g, v.ownBlock = some g → b' ≤ g) : w.ownsRow b' e sz v n xs := by
  refine ⟨h.1, ?_⟩
  rcases h.2 with h2 | ⟨g, cap, cur, h1, h2, h3⟩
  · exact .inl h2
  · exact .inr ⟨g, cap, cur, h1, hb g (by rw [h1]; rfl), h3⟩
section
variable {P : Program} {n : Nat} {f : Fr} {w w0 : World} {ops : Array Oper} {Q : Exit → Act → World → Prop} {rest : List Oper} {l : List Ent} {r : List RowD}
/-- append(row of the call's own, cells that read): it goes in place, or the old row stays as it was. -/
theorem h_app2 {d : Option Nat} {tt : TypeId} {ps : String} {af : Array Edge} {op : Op} (H : Hp w0 w l r) (k : Nat) {q : RowD} {t : TypeId} {ad : Addr} {m c : Nat} {ys : List Value} {z : Value} {by_ : Nat}
    (hk : r[k]? = some q) (hinfo : (P.info? q.e).map (fun i => (i.zero, i.size, i.bytes)) = some (some z, q.sz, by_)) (hu : P.underlying t = some (.slice q.e)) (he : evApp n f op = some (t, q.v, .slice (some ad) m c)) (hzs : z.cells.size = q.sz) (h0 : Nat.ble 1 q.sz = true) (hb0 : Nat.ble 1 by_ = true) (hm0 : 0 < m)
    (HR : Rd w (some ad) ys) (hm : ys.length = m * q.sz) (h1 : ys.all (·.oneCell') = true) (hl : (q.n + m) * by_ ≤ 140737488355328)
    (h : ∀ v w', ((∃ a c', q.v = .slice (some a) q.n c' ∧ v = .slice (some a) (q.n + m) c' ∧ Hp w0 w' l (r.set k ⟨v, q.e, q.sz, q.n + m, q.cs ++ ys⟩)) ∨ (∃ A' c', v = .slice A' (q.n + m) c' ∧ Hp w0 w' l (⟨v, q.e, q.sz, q.n + m, q.cs ++ ys⟩ :: r))) → WL P ops Q rest (act n (put f d v)) w') : WL P ops Q (⟨d, op, tt, ps, af, none⟩ :: rest) (act n f) w := by
  have HO := H.row k q hk
  replace h0 : 0 < q.sz := Nat.le_of_ble_eq_true h0
  replace hb0 : 0 < by_ := Nat.le_of_ble_eq_true hb0
  obtain ⟨i0, hi, hzz⟩ := Option.map_eq_some_iff.1 hinfo
  simp only [Prod.mk.injEq] at hzz
  obtain ⟨hz0, hz1, hz2⟩ := hzz
  have hlen : q.n + m ≤ 140737488355328 := Nat.le_trans (Nat.le_mul_of_pos_right _ hb0) hl
  have h1' : ∀ u ∈ ys, u.oneCell' = true := fun u hu => List.all_eq_true.1 h1 u hu
  obtain ⟨v1, w1, hrr, hown, hg, _, hat⟩ := run_append_own_at (P := P) w w0.heap.size t tt q.e i0 z q.sz by_ hu hi hz0 hz1 hz2 hzs h0 q.v q.n q.cs HO ad m c ys hm (fun j u hj => HR.2 ad rfl j u hj) h1' (by simp only [maxLen]; omega) hl H.B.size
  obtain ⟨A', c', hv⟩ := own_slice hown
  have fresh : w.grownBy w1 none → v1.ownBlock = some w.heap.size → Hp w0 w1 l (⟨v1, q.e, q.sz, q.n + m, q.cs ++ ys⟩ :: r) := by
    intro hgn hb
    have ho : w1.ownsRow w.heap.size q.e q.sz v1 (q.n + m) (q.cs ++ ys) := own_up hown (fun g hgb => by rw [hb] at hgb; cases hgb; exact Nat.le_refl _)
    have hbw : Below w.heap.size w w1 := (Below.refl _ w).grown hgn (Nat.le_refl _) (fun b e => by cases e)
    exact H.join (Hp.ofOwn ho hbw)
  have hlm : m * i0.bytes ≤ 140737488355328 := by rw [hz2]; exact Nat.le_trans (Nat.mul_le_mul_right _ (Nat.le_add_left m q.n)) hl
  have key : (∃ a c', q.v = .slice (some a) q.n c' ∧ v1 = .slice (some a) (q.n + m) c' ∧ Hp w0 w1 l (r.set k ⟨v1, q.e, q.sz, q.n + m, q.cs ++ ys⟩)) ∨ (∃ A' c', v1 = .slice A' (q.n + m) c' ∧ Hp w0 w1 l (⟨v1, q.e, q.sz, q.n + m, q.cs ++ ys⟩ :: r)) := by
    rcases HO.2 with ⟨e1, hn⟩ | ⟨g, cap, cur, e1, hb, hgg, hnc, hcm, hcs, htake⟩
    · have hr := run_append_nil (P := P) w t tt q.e i0 z hu hi hz0 ad m c ys (by rw [hz1]; exact hm) (fun j u hj => HR.2 ad rfl j u hj) hm0 (by omega) (by omega)
      rw [e1, hr] at hrr
      injection hrr with e2 e3
      exact .inr ⟨A', c', hv, fresh (by rw [← e3]; exact ⟨rfl, rfl, rfl, by simp, fun k hk _ => heap_alloc_old w.drew _ hk⟩) (by rw [← e2]; rfl)⟩
    · by_cases hroom : q.n + m ≤ cap
      · have hr := run_append_room (P := P) w t tt q.e i0 hu hi g q.n cap cur hgg ad m c ys (by rw [hz1]; exact hm) (fun j u hj => HR.2 ad rfl j u hj) h1' hroom (by rw [hz1, hm, hcs, ← Nat.add_mul]; exact Nat.mul_le_mul_right _ hroom)
        have hrr0 := hrr
        rw [e1, hr] at hrr
        injection hrr with e2 e3
        have hob : v1.ownBlock = q.v.ownBlock := by rw [← e2, e1]; rfl
        exact .inl ⟨⟨g, 0, none⟩, cap, e1, e2.symm, H.put (d' := ⟨v1, q.e, q.sz, q.n + m, q.cs ++ ys⟩) k hk hg hown (.inl hob)⟩
      · have hr := run_append_grow (P := P) w t tt q.e i0 z hu hi hz0 ⟨g, 0, none⟩ q.n cap q.cs (by rw [hz1]; exact HO.1) (fun j u hj => (by rw [e1] at HO; exact HO.cells (g := g) rfl j u hj)) ad m c ys (by rw [hz1]; exact hm) (fun j u hj => HR.2 ad rfl j u hj) (by omega) (by omega) (growslice_fits (by omega) (by rw [hz2]; exact hl))
        rw [e1, hr] at hrr
        injection hrr with e2 e3
        exact .inr ⟨A', c', hv, fresh (by rw [← e3]; exact ⟨rfl, rfl, rfl, by simp, fun k hk _ => heap_alloc_old w.drew _ hk⟩) (by rw [← e2]; rfl)⟩
  unfold evApp at he
  split at he
  · rename_i cc
    split at he
    · rename_i x y t1 t2 h2 h3 h4
      by_cases ht : t1 = t2
      · subst ht
        simp only [Nat.beq_refl, cond_true, Option.some.injEq, Prod.mk.injEq] at he
        obtain ⟨rfl, he1, he2⟩ := he
        have hargs : cc.args = #[x, y] := by rw [← Array.toList_inj]; exact h3
        have htys : cc.argTypes = #[t1, t1] := by rw [← Array.toList_inj]; exact h4
        have ho : Op.call cc = .call { callee := .builtin .append, args := #[x, y], argTypes := #[t1, t1] } := by
          cases cc
          simp_all
        rw [ho]
        refine ⟨?_⟩
        refine wpList_plain rfl fun K hK => ?_
        unfold Oper.wp execOp
        rw [eval_act]
        simp only [resolve, invoke, builtin, Sem.run_bind, Sem.run_pure, Result.andThen_ok, List.map_toArray, List.map_cons, List.map_nil, he1, he2, hrr]
        refine hK _ _ ?_
        rw [put_act]
        exact (h v1 w1 key).out
      · exfalso
        have : Nat.beq t1 t2 = false := by rw [Bool.eq_false_iff]; intro hb; exact ht (Nat.eq_of_beq_eq_true hb)
        simp [this] at he
    · cases he
  · cases he
end
theorem HpS.tailL {s : Bool} {w0 w : World} {p : Ent} {l : List Ent} {r : List RowD} (H : HpS s w0 w (p :: l) r) : HpS s w0 w l r :=
  ⟨H.B, fun i q h => H.blk (i + 1) q (by simpa using h), H.row, fun i j q u h1 h2 hne => H.ndl (i + 1) (j + 1) q u (by simpa using h1) (by simpa using h2) (by omega), H.ndr, fun i j q d h1 h2 => H.ndm (i + 1) j q d (by simpa using h1) h2, H.dr⟩
section
variable {P : Program} {ty : Nat → Option Ty} {n : Nat} {f : Fr} {w : World} {o : Oper}
theorem evT_no (hty : Tys P ty) {p : Prop} (h : evT ty n f o.op = some p) (hp : ¬ p) : (execOp (X n f) o).run P w = .ok (.value (.bool false)) w := by
  obtain ⟨t, hr, ht⟩ := evT_run (w := w) hty h
  cases t with
  | true => exact absurd (ht.1 rfl) hp
  | false => exact hr
theorem evT_yes (hty : Tys P ty) {p : Prop} (h : evT ty n f o.op = some p) (hp : p) : (execOp (X n f) o).run P w = .ok (.value (.bool true)) w := by
  obtain ⟨t, hr, ht⟩ := evT_run (w := w) hty h
  cases t with
  | true => exact hr
  | false => exact absurd (ht.2 hp) (by simp)
end
end Go.Proofs.Ytljinjgamgmocaa.Q
