/- The types of the program; texts cut at a byte or into pieces. -/
import Derived.Test.YtnimaenhijlcmaaGreatDoorProg
import Derived.Test.YtnimaenhijlcmaaGreatDoorQL
import Derived.Test.YtnimaenhijlcmaaGreatDoorMLaw
import Derived.Test.YtnimaenhijlcmaaGreatDoorShelf
import Derived.Laws.RangeAny
import Derived.Lib.OthersKept
namespace Go.Proofs.YtnimaenhijlcmaaGreatDoor.K
open Go.RowKit Go.Proofs.YtnimaenhijlcmaaGreatDoor.Q Go.Proofs.YtnimaenhijlcmaaGreatDoor.Mb Go.Proofs.YtnimaenhijlcmaaGreatDoorW.PrintWords
set_option linter.unusedVariables false
set_option linter.unusedSimpArgs false

def ty : Nat → Option Ty
  | 3 => some (.int .i64)
  | 5 => some (.int .u8)
  | 21 => some (.int .i32)
  | 4 => some .bool
  | 9 => some .str
  | 34 => some (.slc 5 1)
  | _ => none
theorem info_u8 : (Tryz.prog.info? 5).map (fun i => (i.zero, i.size, i.bytes)) = some (some (.int .u8 0), 1, 1) := by kernel_rfl
theorem info_str3 : (Tryz.prog.info? 9).map (fun i => (i.zero, i.size, i.bytes)) = some (some (.string ⟨#[]⟩), 1, 16) := by kernel_rfl
theorem tys : Tys Tryz.prog ty := by
  intro t k h
  unfold ty at h
  split at h
  · cases h; exact Tryz.underlying3
  · cases h; exact Tryz.underlying5
  · cases h; exact Tryz.underlying21
  · cases h; exact Tryz.underlying4
  · cases h; exact Tryz.underlying9
  · cases h
    obtain ⟨i0, hi, hz⟩ := Option.map_eq_some_iff.1 info_u8
    simp only [Prod.mk.injEq] at hz
    exact ⟨Tryz.underlying34, i0, hi, hz.2.1⟩
  · cases h
def behindC (c : Int) (s : L) : L := match cutC c s with | some (_, b) => b | none => []
def Dr (w w' : World) : Prop := ∃ k, w' = w.drewN k
theorem Dr.refl (w : World) : Dr w w := ⟨0, rfl⟩
def find (c : Int) : L → Int
  | [] => -1
  | x :: r => if x = c then 0 else if find c r < 0 then -1 else find c r + 1
theorem find_ge (c : Int) : ∀ l, -1 ≤ find c l
  | [] => by simp [find]
  | x :: r => by have := find_ge c r; simp only [find]; split <;> (try split) <;> omega
theorem index_find {c : Int} (h0 : 0 ≤ c) (h1 : c ≤ 255) : ∀ l : List UInt8, Lib.indexByte l c.toNat.toUInt8 = find c (l.map fun b => (b.toNat : Int))
  | [] => rfl
  | b :: l => by
    have ih := index_find h0 h1 l
    have hg := find_ge c (l.map fun b => (b.toNat : Int))
    have hc : c.toNat.toUInt8.toNat = c.toNat := by simp; omega
    have he : (b == c.toNat.toUInt8) = decide ((b.toNat : Int) = c) := by
      rw [Bool.eq_iff_iff, beq_iff_eq, decide_eq_true_eq, ← UInt8.toNat_inj, hc]
      omega
    simp only [Lib.indexByte, List.map_cons, find, ih, he]
    by_cases h : (b.toNat : Int) = c
    · simp [h]
    · simp only [h, decide_false, if_false, Bool.false_eq_true, beq_iff_eq]
      split <;> split <;> omega
def Bytes (l : L) : Prop := ∀ x ∈ l, 0 ≤ x ∧ x ≤ 255
theorem bl_bytes (s : ByteArray) : Bytes (bl s) := by
  intro x hx
  obtain ⟨b, _, rfl⟩ := List.mem_map.1 hx
  have := b.toNat_lt
  omega
theorem ofNat_toNat {x : Int} (h0 : 0 ≤ x) (h1 : x ≤ 255) : ((UInt8.ofNat x.toNat).toNat : Int) = x := by
  simp only [UInt8.toNat_ofNat']
  omega
theorem blS {l : L} (h : Bytes l) : bl (strOfNums l) = l := by
  unfold bl strOfNums
  simp only [List.map_map]
  conv => rhs; rw [← List.map_id l]
  apply List.map_congr_left
  intro x hx
  exact ofNat_toNat (h x hx).1 (h x hx).2
theorem bl_inj {s t : ByteArray} (h : bl s = bl t) : s = t := by
  have := (Q.toList_iff s t).2 h
  rw [Lib.toList_data, Lib.toList_data] at this
  cases s; cases t
  simp only [ByteArray.mk.injEq]
  exact Array.toList_inj.1 this
theorem blE (s : ByteArray) (a b : Nat) : bl (s.extract a b) = ((bl s).drop a).take (b - a) := by
  simp [bl, ByteArray.data_extract, List.extract_eq_take_drop, List.map_take, List.map_drop]
theorem strS (s : ByteArray) : strOfNums (bl s) = s := bl_inj (blS (bl_bytes s))
theorem cut_find (c : Int) : ∀ l : L, (0 ≤ find c l → cutC c l = some (l.take (find c l).toNat, l.drop ((find c l).toNat + 1))) ∧ (find c l < 0 → cutC c l = none)
  | [] => by simp [find, cutC]
  | x :: r => by
    obtain ⟨h1, h2⟩ := cut_find c r
    have hg := find_ge c r
    simp only [find, cutC]
    by_cases hx : x = c
    · simp [hx]
    · rw [if_neg hx, if_neg hx]
      by_cases h : find c r < 0
      · rw [if_pos h, h2 h]; simp
      · rw [if_neg h, h1 (by omega)]
        have e : (find c r + 1).toNat = (find c r).toNat + 1 := by omega
        simp [e]
        omega
theorem eight {l : L} (h : l.length = 8) : ∃ a b c d e f g i, l = [a, b, c, d, e, f, g, i] := by
  match l, h with
  | [a, b, c, d, e, f, g, i], _ => exact ⟨a, b, c, d, e, f, g, i, rfl⟩
theorem cutb_c (t : ByteArray) (c : UInt8) (ht : t.size < 4294967281) (w : World) (m : Int) (hm : w.cell? ⟨0, 0, none⟩ = some (.int .i64 m)) :
    Calls Tryz.prog 35 #[.string t, .string ⟨#[c]⟩] w fun e w' => e = .returned (.tuple #[.string (strOfNums (aheadC (c.toNat : Int) (bl t))), .string (strOfNums (behindC (c.toNat : Int) (bl t))), .bool (cutC (c.toNat : Int) (bl t)).isSome]) ∧ Below w.heap.size w w' := by
  refine (Tryz.strings_Cut t ⟨#[c]⟩ m w ht hm).mono fun e w' h => ?_
  obtain ⟨h1, k, h2⟩ := h
  refine ⟨?_, by rw [h2]; exact pw_below_drewN (Below.refl _ w) k⟩
  rw [h1]
  have hcc : (c.toNat : Int).toNat.toUInt8 = c := by simp
  have hi := index_find (c := (c.toNat : Int)) (by omega) (by have := c.toNat_lt; omega) t.data.toList
  rw [hcc] at hi
  obtain ⟨h3, h4⟩ := cut_find (c.toNat : Int) (bl t)
  have hb : (t.data.toList.map fun b => (b.toNat : Int)) = bl t := rfl
  rw [hb] at hi
  have key : bl ⟨(Lib.cut t.data.toList [c]).1.toArray⟩ = aheadC (c.toNat : Int) (bl t) ∧ bl ⟨(Lib.cut t.data.toList [c]).2.1.toArray⟩ = behindC (c.toNat : Int) (bl t) ∧ (Lib.cut t.data.toList [c]).2.2 = (cutC (c.toNat : Int) (bl t)).isSome := by
    unfold Lib.cut
    rw [Lib.index_one, hi]
    by_cases h : 0 ≤ find (c.toNat : Int) (bl t)
    · rw [if_pos h]
      unfold aheadC behindC
      rw [h3 h]
      refine ⟨by simp [bl, List.map_take], by simp [bl, List.map_drop], rfl⟩
    · rw [if_neg h]
      unfold aheadC behindC
      rw [h4 (by omega)]
      exact ⟨rfl, rfl, rfl⟩
  rw [← key.1, ← key.2.1, ← key.2.2, strS, strS]
theorem splitC_find (c : Int) : ∀ l : L, splitC c l = if find c l < 0 then [l] else l.take (find c l).toNat :: splitC c (l.drop ((find c l).toNat + 1))
  | [] => by rw [if_pos (by show (-1 : Int) < 0; omega)]; rfl
  | x :: r => by
    have ih := splitC_find c r
    have hg := find_ge c r
    by_cases hx : x = c
    · have ef : find c (x :: r) = 0 := by simp [find, hx]
      rw [ef, if_neg (by omega)]
      simp [splitC, hx]
    · by_cases h : find c r < 0
      · have ef : find c (x :: r) = -1 := by simp [find, hx, h]
        rw [if_pos h] at ih
        rw [ef, if_pos (by omega), splitC, if_neg hx, ih]
      · have ef : find c (x :: r) = find c r + 1 := by simp [find, hx, h]
        rw [if_neg h] at ih
        rw [ef, if_neg (by omega), splitC, if_neg hx, ih]
        have e : (find c r + 1).toNat = (find c r).toNat + 1 := by omega
        simp [e]
theorem split_eq (c : UInt8) : ∀ (k : Nat) (s : ByteArray), Lib.countB s ⟨#[c]⟩ = k → (Lib.splitB ⟨#[c]⟩ 0 k s).map bl = splitC (c.toNat : Int) (bl s) := by
  have hix : ∀ s : ByteArray, Lib.indexB s ⟨#[c]⟩ = find (c.toNat : Int) (bl s) := by
    intro s
    have hcc : (c.toNat : Int).toNat.toUInt8 = c := by simp
    have hi := index_find (c := (c.toNat : Int)) (by omega) (by have := c.toNat_lt; omega) s.data.toList
    rw [hcc] at hi
    show Lib.index s.data.toList [c] = _
    rw [Lib.index_one]
    exact hi
  intro k
  induction k with
  | zero =>
    intro s hk
    rw [splitC_find]
    by_cases h : find (c.toNat : Int) (bl s) < 0
    · rw [if_pos h]; rfl
    · obtain ⟨i, hi⟩ := Int.eq_ofNat_of_zero_le (show 0 ≤ find (c.toNat : Int) (bl s) by omega)
      have := Lib.countB_hit s ⟨#[c]⟩ i (Nat.le_refl 1) (by rw [hix, hi])
      omega
  | succ k ih =>
    intro s hk
    rw [splitC_find]
    by_cases h : find (c.toNat : Int) (bl s) < 0
    · have := Lib.countB_miss s ⟨#[c]⟩ (by rw [hix]; have := find_ge (c.toNat : Int) (bl s); omega)
      omega
    · rw [if_neg h]
      obtain ⟨i, hi⟩ := Int.eq_ofNat_of_zero_le (show 0 ≤ find (c.toNat : Int) (bl s) by omega)
      have h1 := Lib.countB_hit s ⟨#[c]⟩ i (Nat.le_refl 1) (by rw [hix, hi])
      rw [Lib.splitB_hit _ _ _ _ i (by rw [hix, hi]), List.map_cons, ih _ (by omega), hi, blE, blE]
      have e1 : (bl s).length = s.size := bl_length s
      have e2 : (ByteArray.mk #[c]).size = 1 := rfl
      rw [e2, Int.toNat_natCast]
      congr 1
      rw [List.take_of_length_le (by rw [List.length_drop]; omega)]
abbrev strC (l : List L) : List Value := l.map fun x => .string (strOfNums x)
theorem split_c (t : ByteArray) (c : UInt8) (ht : t.size < 4294967281) (w : World) (m : Int) (hm : w.cell? ⟨0, 0, none⟩ = some (.int .i64 m)) :
    Calls Tryz.prog 56 #[.string t, .string ⟨#[c]⟩] w fun e w' => ∃ g, e = .returned (.slice (some ⟨g, 0, none⟩) (splitC (c.toNat : Int) (bl t)).length (splitC (c.toNat : Int) (bl t)).length) ∧ Hp w w' [(g, 9, strC (splitC (c.toNat : Int) (bl t)))] [] := by
  refine (Tryz.strings_Split t ⟨#[c]⟩ m w ht hm (Nat.le_refl 1)).mono fun e w' h => ?_
  obtain ⟨h1, h2⟩ := h
  have hs := split_eq c _ t rfl
  have hl : (splitC (c.toNat : Int) (bl t)).length = Lib.countB t ⟨#[c]⟩ + 1 := by
    rw [← hs, List.length_map, Lib.splitB_all ⟨#[c]⟩ (Nat.le_refl 1) _ _ _ rfl]
  have hc : (Lib.splitB ⟨#[c]⟩ 0 (Lib.countB t ⟨#[c]⟩) t).map Value.string = strC (splitC (c.toNat : Int) (bl t)) := by
    rw [← hs, strC, List.map_map]
    exact List.map_congr_left fun x _ => by simp [strS]
  refine ⟨w.heap.size, by rw [h1, hl], ?_⟩
  rw [h2, hc]
  exact (Hp.nil w).push 9 _
theorem fill_s (a : ByteArray) : Instr.fill (fun i => some (i * 1, 1)) ((Array.range (1 * 1)).map ((Value.string ⟨#[]⟩).cells[· % (Value.string ⟨#[]⟩).cells.size]!)) [(0, .string a)] = some [Value.string a].toArray := by kernel_rfl
theorem strC_at {ls : List L} {i : Nat} {x : L} (h : ls[i]? = some x) : (strC ls)[i * 1]? = some (.string (strOfNums x)) := by
  rw [Nat.mul_one, List.getElem?_map, h]; rfl
theorem l_eq {P : Program} {n : Nat} {ops : Array Oper} {Q : Exit → Act → World → Prop} {rest : List Oper} {f : Fr} {w : World} {d : Option Nat} {tt : TypeId} {ps : String} {af : Array Edge} {gd : Option (Nat × Bool)} {t t2 : TypeId} {x y : Operand} {u v : Value} {b : Bool} (hw : want n ops f ⟨d, .binOp .eql t x y t2, tt, ps, af, gd⟩ = true) (hx : nf (X n f x) = some u) (hy : nf (X n f y) = some v) (hg : ∀ c1 c2 : Array Value, u ≠ .agg c1 ∨ v ≠ .agg c2) (hn : u ≠ .nilIface ∨ v ≠ .nilIface)
    (hr : (binOp .eql t u v).run P w = .ok (.bool b) w) (h : WL P ops Q rest (act n (put f d (.bool b))) w) : WL P ops Q (⟨d, .binOp .eql t x y t2, tt, ps, af, gd⟩ :: rest) (act n f) w := by
  refine l_val hw ?_ h
  have e1 := nf_eq hx
  have e2 := nf_eq hy
  have hge : (eqGuard .eql t x y u v).run P w = .ok () w := by
    unfold eqGuard
    cases u <;> cases v <;> first | rfl | (exfalso; rcases hn with h | h <;> exact h rfl) | (exfalso; rcases hg _ _ with h | h <;> exact h rfl)
  unfold execOp
  simp [← e1, ← e2, hge, hr]
theorem bl_cat (s t : ByteArray) : bl (s ++ t) = bl s ++ bl t := by
  unfold bl
  rw [ByteArray.data_append, Array.toList_append, List.map_append]
abbrev rowT (v : Value) (l : List L) : RowD := ⟨v, 9, 1, l.length, strC l⟩
theorem rowT_at {w0 w : World} {l : List Ent} {r : List RowD} (H : Hp w0 w l r) (k : Nat) {A : Option Addr} {c : Nat} {x : List L} (hk : r[k]? = some (rowT (.slice A x.length c) x)) : Rd w A (strC x) := by
  obtain ⟨A', c', e, _, hrd, _⟩ := H.rd k hk
  simp only [Value.slice.injEq] at e
  rw [e.1]
  exact hrd
theorem rdT_some {w : World} {A : Option Addr} {x : List L} {y : L} {i : Nat} (h : Rd w A (strC x)) (hy : x[i]? = some y) : ∃ a, A = some a := by
  have hc := strC_at hy
  cases A with
  | none =>
    have h1 : strC x = [] := h.1 rfl
    rw [h1] at hc
    simp at hc
  | some a => exact ⟨a, rfl⟩
theorem rdT_cell {w : World} {a : Addr} {x : List L} {y : L} {i : Nat} (h : Rd w (some a) (strC x)) (hy : x[i]? = some y) : w.cell? (a.add (i * 1)) = some (.string (strOfNums y)) := h.2 a rfl _ _ (strC_at hy)
end Go.Proofs.YtnimaenhijlcmaaGreatDoor.K
