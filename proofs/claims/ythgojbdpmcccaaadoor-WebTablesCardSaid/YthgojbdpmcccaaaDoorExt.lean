/- web.lower: its walk: a row of the bytes of a text, made small in place, and back to a text. -/
import Derived.Test.YthgojbdpmcccaaaDoorProg
import Derived.Test.YthgojbdpmcccaaaDoorExtD
import Derived.Test.YthgojbdpmcccaaaDoorWNEv
import Derived.LoopTactic
import Derived.Lib.ConvBytes
import Derived.Laws.Tables
import Derived.Outline
namespace Go.Proofs.YthgojbdpmcccaaaDoor.G
open Go.RowKit Go.Proofs.YthgojbdpmcccaaaDoorW.PrintWords Go.Proofs.YthgojbdpmcccaaaDoorW.PrintLast Go.Proofs.YthgojbdpmcccaaaDoorW.PrintMore
set_option linter.unusedVariables false
set_option linter.unusedSimpArgs false

theorem row_set (w : World) (g i : Nat) (cur : Array Value) (t : TypeId) (fr : Nat × Nat) (v : Value) (hg : w.heap[g]? = some (.cells cur t fr)) :
    (w.setCell ⟨g, i, none⟩ v).heap[g]? = some (.cells (cur.setIfInBounds i v) t fr) := by
  rw [setCell_eq_setRow w g i cur t fr v hg]
  have hlt : g < w.heap.size := (Array.getElem?_eq_some_iff.1 hg).1
  simp [World.setRow, Array.getElem?_modify, hg]
/-- What stands in the row when n bytes are done. -/
def Done (a0 : ByteArray) (n : Nat) (cur : Array Value) (fz : Nat × Nat) : Prop :=
  cur.size ≤ fz.1 ∧ ∀ j, j < a0.size → cur[j]? = some (.int .u8 (if j < n then low1 (bt a0 (j : Int)) else bt a0 (j : Int)))
theorem Done.step {a0 : ByteArray} {n : Nat} {cur : Array Value} {fz : Nat × Nat} (h : Done a0 n cur fz) (hn : n < a0.size) : Done a0 (n + 1) (cur.setIfInBounds n (.int .u8 (low1 (bt a0 (n : Int))))) fz := by
  refine ⟨by simpa using h.1, fun j hj => ?_⟩
  have hs : n < cur.size := (Array.getElem?_eq_some_iff.1 (h.2 n hn)).1
  rw [Array.getElem?_setIfInBounds]
  by_cases e : n = j
  · subst e
    rw [if_pos rfl, if_pos hs, if_pos (Nat.lt_succ_self n)]
  · rw [if_neg e, h.2 j hj]
    by_cases hl : j < n
    · rw [if_pos hl, if_pos (by omega)]
    · rw [if_neg hl, if_neg (by omega)]
theorem Done.same {a0 : ByteArray} {n : Nat} {cur : Array Value} {fz : Nat × Nat} (h : Done a0 n cur fz) (e : low1 (bt a0 (n : Int)) = bt a0 (n : Int)) : Done a0 (n + 1) cur fz := by
  refine ⟨h.1, fun j hj => ?_⟩
  rw [h.2 j hj]
  by_cases hl : j < n
  · rw [if_pos hl, if_pos (by omega)]
  · rw [if_neg hl]
    by_cases hl2 : j < n + 1
    · obtain rfl : j = n := by omega
      rw [if_pos hl2, e]
    · rw [if_neg hl2]
set_option maxHeartbeats 2000000 in
theorem web_lower.calls (a0 : ByteArray) (r : ByteArray) (w : World) (h : web_lower.f a0 = some r) :
    Calls Tryd.prog 28 #[.string a0] w fun e w' => e = .returned (.string r) ∧ Below w.heap.size w w' := by
  have hs0 : a0.size ≤ 140737488351232 ∧ strOfNums ((bytesOf a0).map low1) = r := by
    unfold web_lower.f at h
    split at h
    · rename_i hz; exact ⟨hz, Option.some.inj h⟩
    · cases h
  have hsz := Aside0.mk hs0.1
  have hres := Aside0.mk hs0.2
  clear hs0 h
  have kb := fun W => print_bytes (P := Tryd.prog) 9 32 5 Tryd.underlying9 Tryd.underlying32 Tryd.underlying5 a0 W
  go_enter Tryd.func28, Tryd.ntmps28
  go_wp2
  go_loopw [10] (fun i wr => ∃ (n : Nat) (cur : Array Value) (fz : Nat × Nat), i = .int .i64 n ∧ n ≤ a0.size ∧ wr.heap[w.heap.size]? = some (.cells cur 5 fz) ∧ Aside0 (Below w.heap.size w wr) ∧ Aside0 (Done a0 n cur fz)) (fun i wr => a0.size - (intOf i).toNat)
  case atStart =>
    refine ⟨0, _, _, rfl, Nat.zero_le _, Lib.bytesWorld_at_new w _ a0, ⟨bytes_below (Below.refl _ w) (Nat.le_refl _) _ a0⟩, ⟨⟨Nat.le_refl _, fun j hj => ?_⟩⟩⟩
    rw [if_neg (Nat.not_lt_zero j)]
    have h1 := Lib.bytesWorld_cell w 5 a0 j hj
    simp only [World.cell?, Lib.bytesWorld_at_new] at h1
    have h2 : bt a0 (j : Int) = ((a0.data.toList.getD j 0).toNat : Int) := by
      rw [← rd_bytesOf]
      unfold rd bytesOf
      have hl : j < a0.data.toList.length := by rw [Array.length_toList]; exact hj
      rw [Int.toNat_natCast, List.getD_eq_getElem?_getD, List.getD_eq_getElem?_getD, List.getElem?_map, List.getElem?_eq_getElem hl]
      rfl
    rw [h2]
    simpa using h1
  case round =>
    obtain ⟨n, cur, fz, rfl, hn, hrow, HB, HC⟩ := hrel
    have hw := Aside0.mk (show wrap64 ((n : Int) + 1) = ((n + 1 : Nat) : Int) by have := hsz.out; unfold wrap64; omega)
    by_cases hlt : n < a0.size
    · have hc : wr.cell? ⟨w.heap.size, n, none⟩ = some (.int .u8 (bt a0 (n : Int))) := by
        have := HC.out.2 n hlt
        rw [if_neg (Nat.lt_irrefl n)] at this
        simp [World.cell?, hrow, this]
      have hf : wr.frozen? ⟨w.heap.size, n, none⟩ = false := by
        have h1 := HC.out.1
        have h2 : n < cur.size := (Array.getElem?_eq_some_iff.1 (HC.out.2 n hlt)).1
        simp [World.frozen?, hrow]
        omega
      have q1 : decide ((n : Int) < (a0.size : Int)) = true := decide_eq_true (by omega)
      have q2 : decide (n < a0.size) = true := decide_eq_true hlt
      have p0 : (0 ≤ (n : Int)) = True := eq_true (by omega)
      have q0 : ((n : Int) < (a0.size : Int)) = True := eq_true (by omega)
      by_cases g1 : 65 ≤ bt a0 (n : Int)
      · have b1 : decide (65 ≤ bt a0 (n : Int)) = true := decide_eq_true g1
        by_cases g2 : bt a0 (n : Int) ≤ 90
        · have b2 : decide (bt a0 (n : Int) ≤ 90) = true := decide_eq_true g2
          have hl1 : low1 (bt a0 (n : Int)) = bt a0 (n : Int) + 97 - 65 := by unfold low1; rw [if_pos g1, if_pos g2]; omega
          have HC2 := Aside0.mk (HC.out.step hlt)
          have hrow2 := Aside0.mk (row_set wr w.heap.size n cur _ fz (.int .u8 (low1 (bt a0 (n : Int)))) hrow)
          rw [hl1] at HC2 hrow2
          clear hl1
          go_wp2
          go_roundw
          case rel => exact ⟨n + 1, _, fz, by rw [hw.out], by omega, hrow2.out, ⟨HB.out.setCell (Nat.le_refl _) _⟩, HC2⟩
          case measure => rw [hw.out]; simp only [intOf, Int.toNat_natCast]; omega
        · have b2 : decide (bt a0 (n : Int) ≤ 90) = false := decide_eq_false g2
          have HC2 := Aside0.mk (HC.out.same (by unfold low1; rw [if_pos g1, if_neg g2]))
          clear g1 g2
          go_wp2
          go_roundw
          case rel => exact ⟨n + 1, cur, fz, by rw [hw.out], by omega, hrow, HB, HC2⟩
          case measure => rw [hw.out]; simp only [intOf, Int.toNat_natCast]; omega
      · have b1 : decide (65 ≤ bt a0 (n : Int)) = false := decide_eq_false g1
        have HC2 := Aside0.mk (HC.out.same (by unfold low1; rw [if_neg g1]))
        clear g1
        go_wp2
        go_roundw
        case rel => exact ⟨n + 1, cur, fz, by rw [hw.out], by omega, hrow, HB, HC2⟩
        case measure => rw [hw.out]; simp only [intOf, Int.toNat_natCast]; omega
    · obtain rfl : n = a0.size := by omega
      have q1 : decide ((a0.size : Int) < (a0.size : Int)) = false := decide_eq_false (by omega)
      have hR : ReadsInt wr .u8 (some ⟨w.heap.size, 0, none⟩) a0.size ((bytesOf a0).map low1) := by
        refine ⟨by rw [List.length_map, bytesOf_length], by have := hsz.out; omega, fun _ => ⟨_, rfl, fun j hj => ?_⟩⟩
        rw [add_plain]
        have h1 := HC.out.2 j hj
        rw [if_pos hj] at h1
        have hl : j < (bytesOf a0).length := by rw [bytesOf_length]; exact hj
        simp only [World.cell?, hrow, h1]
        rw [← rd_bytesOf]
        simp [rd, List.getD_eq_getElem?_getD, List.getElem?_map, List.getElem?_eq_getElem hl]
      have kc := fun c => string_of_reads (c := c) Tryd.underlying32 Tryd.underlying5 Tryd.underlying9 hR
      go_wp2
      go_ret
      exact ⟨by rw [← hres.out]; rfl, HB.out⟩
end Go.Proofs.YthgojbdpmcccaaaDoor.G
