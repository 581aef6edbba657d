/- Types; texts as numbers; strings.Cut at a byte. -/
import Derived.Test.YtljinjgamgmocaaQA
import Derived.Test.YtljinjgamgmocaaMSpec
import Derived.Test.YtljinjgamgmocaaShelf
namespace Go.Proofs.Ytljinjgamgmocaa.K
open Go.RowKit Go.Proofs.Ytljinjgamgmocaa.Q Go.Proofs.Ytljinjgamgmocaa.Mb Go.Proofs.YtljinjgamgmocaaW.PrintWords
set_option linter.unusedVariables false
set_option linter.unusedSimpArgs false

def ty : Nat → Option Ty
  | 3 => some (.int .i64)
  | 5 => some (.int .u8)
  | 4 => some .bool
  | 9 => some .str
  | 29 => some (.slc 5 1)
  | _ => none
theorem info_u8 : (Try.prog.info? 5).map (fun i => (i.zero, i.size, i.bytes)) = some (some (.int .u8 0), 1, 1) := by kernel_rfl
theorem info_str3 : (Try.prog.info? 9).map (fun i => (i.zero, i.size, i.bytes)) = some (some (.string ⟨#[]⟩), 1, 16) := by kernel_rfl
theorem tys : Tys Try.prog ty := by
  intro t k h
  unfold ty at h
  split at h
  · cases h; exact Try.underlying3
  · cases h; exact Try.underlying5
  · cases h; exact Try.underlying4
  · cases h; exact Try.underlying9
  · cases h
    obtain ⟨i0, hi, hz⟩ := Option.map_eq_some_iff.1 info_u8
    simp only [Prod.mk.injEq] at hz
    exact ⟨Try.underlying29, i0, hi, hz.2.1⟩
  · cases h
def behindC (c : Int) (s : L) : L := match cutC c s with | some (_, b) => b | none => []
def Dr (w w' : World) : Prop := ∃ k, w' = w.drewN k
theorem Dr.refl (w : World) : Dr w w := ⟨0, rfl⟩
def find (c : Int) : L → Int
  | [] => -1
  | x :: r => if x = c then 0 else if find c r < 0 then -1 else find c r + 1
theorem find_ge (c : Int) : ∀ l, -1 ≤ find c l
  | [] => by simp [find]
  | x :: r => by have := find_ge c r; simp only [find]; split <;> (try split) <;> omega
theorem index_find {c : Int} (h0 : 0 ≤ c) (h1 : c ≤ 255) : ∀ l : List UInt8, Lib.indexByte l c.toNat.toUInt8 = find c (l.map fun b => (b.toNat : Int))
  | [] => rfl
  | b :: l => by
    have ih := index_find h0 h1 l
    have hg := find_ge c (l.map fun b => (b.toNat : Int))
    have hc : c.toNat.toUInt8.toNat = c.toNat := by simp; omega
    have he : (b == c.toNat.toUInt8) = decide ((b.toNat : Int) = c) := by
      rw [Bool.eq_iff_iff, beq_iff_eq, decide_eq_true_eq, ← UInt8.toNat_inj, hc]
      omega
    simp only [Lib.indexByte, List.map_cons, find, ih, he]
    by_cases h : (b.toNat : Int) = c
    · simp [h]
    · simp only [h, decide_false, if_false, Bool.false_eq_true, beq_iff_eq]
      split <;> split <;> omega
def Bytes (l : L) : Prop := ∀ x ∈ l, 0 ≤ x ∧ x ≤ 255
theorem bl_bytes (s : ByteArray) : Bytes (bl s) := by
  intro x hx
  obtain ⟨b, _, rfl⟩ := List.mem_map.1 hx
  have := b.toNat_lt
  omega
theorem ofNat_toNat {x : Int} (h0 : 0 ≤ x) (h1 : x ≤ 255) : ((UInt8.ofNat x.toNat).toNat : Int) = x := by
  simp only [UInt8.toNat_ofNat']
  omega
theorem blS {l : L} (h : Bytes l) : bl (strOfNums l) = l := by
  unfold bl strOfNums
  simp only [List.map_map]
  conv => rhs; rw [← List.map_id l]
  apply List.map_congr_left
  intro x hx
  exact ofNat_toNat (h x hx).1 (h x hx).2
theorem bl_inj {s t : ByteArray} (h : bl s = bl t) : s = t := by
  have := (Q.toList_iff s t).2 h
  rw [Lib.toList_data, Lib.toList_data] at this
  cases s; cases t
  simp only [ByteArray.mk.injEq]
  exact Array.toList_inj.1 this
theorem blE (s : ByteArray) (a b : Nat) : bl (s.extract a b) = ((bl s).drop a).take (b - a) := by
  simp [bl, ByteArray.data_extract, List.extract_eq_take_drop, List.map_take, List.map_drop]
theorem strS (s : ByteArray) : strOfNums (bl s) = s := bl_inj (blS (bl_bytes s))
theorem cut_find (c : Int) : ∀ l : L, (0 ≤ find c l → cutC c l = some (l.take (find c l).toNat, l.drop ((find c l).toNat + 1))) ∧ (find c l < 0 → cutC c l = none)
  | [] => by simp [find, cutC]
  | x :: r => by
    obtain ⟨h1, h2⟩ := cut_find c r
    have hg := find_ge c r
    simp only [find, cutC]
    by_cases hx : x = c
    · simp [hx]
    · rw [if_neg hx, if_neg hx]
      by_cases h : find c r < 0
      · rw [if_pos h, h2 h]; simp
      · rw [if_neg h, h1 (by omega)]
        have e : (find c r + 1).toNat = (find c r).toNat + 1 := by omega
        simp [e]
        omega
theorem cutb_k (t : ByteArray) (c : UInt8) (ht : t.size < 4294967281) (w : World) (m : Int) (hm : w.cell? ⟨0, 0, none⟩ = some (.int .i64 m)) :
    Calls Try.prog 14 #[.string t, .string ⟨#[c]⟩] w fun e w' => (∃ k, w' = w.drewN k) ∧ e = .returned (.tuple #[.string (strOfNums (aheadC (c.toNat : Int) (bl t))), .string (strOfNums (behindC (c.toNat : Int) (bl t))), .bool (cutC (c.toNat : Int) (bl t)).isSome]) := by
  refine (Try.strings_Cut t ⟨#[c]⟩ m w ht hm).mono fun e w' h => ?_
  obtain ⟨h1, k, h2⟩ := h
  refine ⟨⟨k, h2⟩, ?_⟩
  rw [h1]
  have hcc : (c.toNat : Int).toNat.toUInt8 = c := by simp
  have hi := index_find (c := (c.toNat : Int)) (by omega) (by have := c.toNat_lt; omega) t.data.toList
  rw [hcc] at hi
  obtain ⟨h3, h4⟩ := cut_find (c.toNat : Int) (bl t)
  have hb : (t.data.toList.map fun b => (b.toNat : Int)) = bl t := rfl
  rw [hb] at hi
  have key : bl ⟨(Lib.cut t.data.toList [c]).1.toArray⟩ = aheadC (c.toNat : Int) (bl t) ∧ bl ⟨(Lib.cut t.data.toList [c]).2.1.toArray⟩ = behindC (c.toNat : Int) (bl t) ∧ (Lib.cut t.data.toList [c]).2.2 = (cutC (c.toNat : Int) (bl t)).isSome := by
    unfold Lib.cut
    rw [Lib.index_one, hi]
    by_cases h : 0 ≤ find (c.toNat : Int) (bl t)
    · rw [if_pos h]
      unfold aheadC behindC
      rw [h3 h]
      refine ⟨by simp [bl, List.map_take], by simp [bl, List.map_drop], rfl⟩
    · rw [if_neg h]
      unfold aheadC behindC
      rw [h4 (by omega)]
      exact ⟨rfl, rfl, rfl⟩
  rw [← key.1, ← key.2.1, ← key.2.2, strS, strS]
end Go.Proofs.Ytljinjgamgmocaa.K
