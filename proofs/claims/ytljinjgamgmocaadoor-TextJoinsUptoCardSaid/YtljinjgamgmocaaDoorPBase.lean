/- Plain lemmas on numbers, bytes and texts. -/
import Derived.Test.YtljinjgamgmocaaDoorExtD
import Derived.Laws.BitsLemmas
import Derived.Laws.BytesArg
import Derived.Lib.Strings
namespace Go.Proofs.YtljinjgamgmocaaDoor.Pure
open Go.RowKit Go.Proofs.YtljinjgamgmocaaDoor.G Go.Proofs.YtljinjgamgmocaaDoorW.PrintWords Go.Proofs.YtljinjgamgmocaaDoorW.PrintLast Go.Proofs.YtljinjgamgmocaaDoorW.PrintMore
set_option linter.unusedSimpArgs false
set_option linter.unusedVariables false

theorem w64 {x : Int} (h0 : -9223372036854775808 ≤ x) (h1 : x ≤ 9223372036854775807) : wrap64 x = x := by unfold wrap64; omega

/-- Each is a byte. -/
def Bytes (l : List Int) : Prop := ∀ x ∈ l, 0 ≤ x ∧ x ≤ 255
theorem Bytes.nil : Bytes [] := fun _ h => by cases h
theorem Bytes.cons {x : Int} {l : List Int} (h : Bytes (x :: l)) : (0 ≤ x ∧ x ≤ 255) ∧ Bytes l := ⟨h x (by simp), fun y hy => h y (by simp [hy])⟩
theorem Bytes.mk {x : Int} {l : List Int} (h0 : 0 ≤ x) (h1 : x ≤ 255) (h : Bytes l) : Bytes (x :: l) := fun y hy => by
  rcases List.mem_cons.1 hy with rfl | hy
  · exact ⟨h0, h1⟩
  · exact h y hy
theorem Bytes.app {a b : List Int} (ha : Bytes a) (hb : Bytes b) : Bytes (a ++ b) := fun x hx => by
  rcases List.mem_append.1 hx with h | h
  · exact ha x h
  · exact hb x h
theorem Bytes.left {a b : List Int} (h : Bytes (a ++ b)) : Bytes a := fun x hx => h x (List.mem_append_left _ hx)
theorem Bytes.right {a b : List Int} (h : Bytes (a ++ b)) : Bytes b := fun x hx => h x (List.mem_append_right _ hx)
theorem bytesOf_bytes (s : ByteArray) : Bytes (bytesOf s) := by
  intro x hx
  simp only [bytesOf, List.mem_map] at hx
  obtain ⟨b, _, rfl⟩ := hx
  have := b.toNat_lt
  omega

theorem map_toNat_inj : ∀ {l m : List UInt8}, (l.map fun b => (b.toNat : Int)) = m.map (fun b => (b.toNat : Int)) → l = m
  | [], [], _ => rfl
  | [], _ :: _, h => by simp at h
  | _ :: _, [], h => by simp at h
  | a :: l, b :: m, h => by
    simp only [List.map_cons, List.cons.injEq] at h
    obtain ⟨h1, h2⟩ := h
    rw [map_toNat_inj h2, UInt8.toNat_inj.1 (by omega : a.toNat = b.toNat)]
theorem bytesOf_inj {s t : ByteArray} (h : bytesOf s = bytesOf t) : s = t := by
  have h1 := map_toNat_inj h
  cases s; cases t
  simp only [ByteArray.mk.injEq]
  exact Array.toList_inj.1 h1
theorem toList_iff (s t : ByteArray) : s.toList = t.toList ↔ bytesOf s = bytesOf t := by
  rw [Lib.toList_data, Lib.toList_data]
  exact ⟨fun h => by simp only [bytesOf, h], fun h => map_toNat_inj h⟩
theorem toList_nil_iff (s : ByteArray) : s.toList = [] ↔ bytesOf s = [] := by
  rw [Lib.toList_data, bytesOf, List.map_eq_nil_iff]
theorem ofNat_toNat {x : Int} (h0 : 0 ≤ x) (h1 : x ≤ 255) : ((UInt8.ofNat x.toNat).toNat : Int) = x := by
  rw [UInt8.toNat_ofNat']
  omega
theorem bytesOf_str {l : List Int} (h : Bytes l) : bytesOf (strOfNums l) = l := by
  rw [bytesOf, strOfNums_data, List.map_map]
  induction l with
  | nil => rfl
  | cons x l ih =>
    obtain ⟨hx, hl⟩ := h.cons
    rw [List.map_cons, ih hl]
    simp only [Function.comp]
    rw [ofNat_toNat hx.1 hx.2]
theorem str_bytesOf (s : ByteArray) : strOfNums (bytesOf s) = s := bytesOf_inj (bytesOf_str (bytesOf_bytes s))
theorem bytesOf_append (s t : ByteArray) : bytesOf (s ++ t) = bytesOf s ++ bytesOf t := by
  simp [bytesOf, ByteArray.data_append]
theorem bytesOf_extract (s : ByteArray) (a b : Nat) : bytesOf (s.extract a b) = ((bytesOf s).drop a).take (b - a) := by
  simp [bytesOf, ByteArray.data_extract, List.map_drop, List.map_take]
theorem str_append (a b : List Int) : strOfNums (a ++ b) = strOfNums a ++ strOfNums b := by
  apply ByteArray.ext
  apply Array.toList_inj.1
  simp [strOfNums]

theorem rd_mid (p r : List Int) (x : Int) : rd (p ++ x :: r) (p.length : Int) = x := by
  unfold rd
  simp
theorem rd_app (p r : List Int) (i : Nat) : rd (p ++ r) ((p.length + i : Nat) : Int) = rd r (i : Int) := by
  unfold rd
  rw [Int.toNat_natCast, Int.toNat_natCast, List.getD_eq_getElem?_getD, List.getD_eq_getElem?_getD, List.getElem?_append_right (by omega), Nat.add_sub_cancel_left]
theorem rd_zero (x : Int) (r : List Int) : rd (x :: r) 0 = x := rfl
theorem rd_one (x y : Int) (r : List Int) : rd (x :: y :: r) 1 = y := rfl
theorem rd_two (x y z : Int) (r : List Int) : rd (x :: y :: z :: r) 2 = z := rfl
theorem bt_mid {s : ByteArray} {p r : List Int} {x : Int} (h : bytesOf s = p ++ x :: r) : bt s (p.length : Int) = x := by
  rw [← rd_bytesOf, h, rd_mid]
theorem size_of {s : ByteArray} {l : List Int} (h : bytesOf s = l) : s.size = l.length := by rw [← h, bytesOf_length]
theorem rounds {k n : Nat} (h : n < k) : ∃ m, k = m + 1 := ⟨k - 1, by omega⟩

/-- More rounds, the same answer. -/
theorem more {α : Type} {g : Nat → Option α} (hg : ∀ k, LeO (g k) (g (k + 1))) {n k : Nat} {r : α} (h : g n = some r) (hk : n ≤ k) : g k = some r := at_rounds hg hk h
end Go.Proofs.YtljinjgamgmocaaDoor.Pure
