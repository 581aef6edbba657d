/- text.Plain: what it computes: the letters of a text, one after another. -/
import Derived.Test.YtljinjgamgmocaaDoorExt
import Derived.Test.YtljinjgamgmocaaDoorShelf
import Derived.LoopTactic
import Derived.Lib.OthersKept
import Derived.Laws.RangeAny
import Derived.Lib.RuneCountTail
import Derived.Outline
namespace Go.Proofs.YtljinjgamgmocaaDoor.G
open Go.RowKit Go.Proofs.YtljinjgamgmocaaDoorW.PrintWords Go.Proofs.YtljinjgamgmocaaDoorW.PrintLast Go.Proofs.YtljinjgamgmocaaDoorW.PrintMore
set_option linter.unusedVariables false
set_option linter.unusedSimpArgs false

/-- The decoder's two tables, as their initialisers lay them. -/
structure LayU (w : World) : Prop where
  lies1 : 1 < w.heap.size
  lies2 : 2 < w.heap.size
  tabs : Lib.Utf8Tabs 1 2 w
theorem LayU.below' {w w' : World} {B : Nat} (h : LayU w) (h1 : 1 < B) (h2 : 2 < B) (hb : Below B w w') : LayU w' :=
  ⟨Nat.lt_of_lt_of_le h.lies1 hb.size, Nat.lt_of_lt_of_le h.lies2 hb.size,
    fun c hc => (hb.cell (p := ⟨1, c, none⟩) h1).trans (h.tabs.1 c hc),
    fun i hi => ⟨(hb.cell (p := ⟨2, 2 * i, none⟩) h2).trans (h.tabs.2 i hi).1, (hb.cell (p := ⟨2, 2 * i + 1, none⟩) h2).trans (h.tabs.2 i hi).2⟩⟩
theorem LayU.below {w w' : World} (h : LayU w) (hb : Below w.heap.size w w') : LayU w' := h.below' h.lies1 h.lies2 hb

theorem decodeGo_ext (s : ByteArray) (pos : Nat) (h : pos < s.size) : Lib.decodeGo (s.extract pos s.size) = Utf8.decode s pos := by
  unfold Lib.decodeGo
  rw [if_neg (by rw [ByteArray.size_extract]; omega), Lib.tail_decode]
  rfl
theorem width_pos (s : ByteArray) (pos : Nat) (h : pos < s.size) : 1 ≤ (Utf8.decode s pos).2 := by
  by_cases ha : (s[pos]'h).toNat < 128
  · rw [decode_ascii s pos h ha]
    exact Nat.le_refl _
  · exact (decode_high s pos h (by omega)).2
theorem plainGo_end (s : ByteArray) (f pos : Nat) (h : ¬ pos < s.size) : plainGo s f pos = 0 := by
  cases f with
  | zero => rfl
  | succ f => rw [plainGo, if_neg h]

set_option maxHeartbeats 4000000 in
set_option maxRecDepth 1000000 in
theorem text_Plain.calls (a0 : ByteArray) (r : Int) (w : World) (hLU : LayU w) (h : text_Plain.f a0 = some r) :
    Calls Tryd.prog 15 #[.string a0] w fun e w' => e = .returned (.int .i64 r) ∧ Below w.heap.size w w' := by
  have H := Aside0.mk (Option.some.inj h)
  clear h
  have HL := Aside0.mk hLU
  clear hLU
  by_cases c1 : (a0.size : Int) > 1048576
  · obtain rfl : 2 = r := by rw [← H.out, if_pos c1]
    have c1b : decide (1048576 < a0.size) = true := decide_eq_true (by omega)
    have c1c : decide ((1048576 : Int) < (a0.size : Int)) = true := decide_eq_true (by omega)
    clear c1 H
    go_enter Tryd.func15, Tryd.ntmps15
    go_wp2
    go_ret
    exact ⟨rfl, Below.refl _ _⟩
  · have hG := Aside0.mk (show plainGo a0 (a0.size + 1) 0 = r by rw [← H.out, if_neg c1])
    have hsz := Aside0.mk (show a0.size ≤ 1048576 by omega)
    have c1b : decide (1048576 < a0.size) = false := decide_eq_false (by omega)
    have c1c : decide ((1048576 : Int) < (a0.size : Int)) = false := decide_eq_false (by omega)
    clear c1 H
    go_enter Tryd.func15, Tryd.ntmps15
    go_wp2
    go_loopw [] (fun wr => ∃ (pos fuel : Nat), wr.heap[w.heap.size]? = some (.stringIter a0 pos) ∧ Aside0 (Below w.heap.size w wr) ∧ Aside0 (plainGo a0 fuel pos = r) ∧ Aside0 (a0.size < pos + fuel)) (fun wr => a0.size - wr.iterPos w.heap.size)
    case atStart => exact ⟨0, a0.size + 1, World.iter_heap w a0 0, ⟨(Below.refl _ w).alloc (Nat.le_refl _) _⟩, hG, ⟨by omega⟩⟩
    case round =>
      obtain ⟨pos, fuel, hit, HB, HG, HF⟩ := hrel
      have hwsz : w.heap.size < wr.heap.size := (Array.getElem?_eq_some_iff.1 hit).1
      by_cases hp : pos < a0.size
      · have hnx : ∀ ty, (Instr.next (.pointer (some ⟨w.heap.size, 0, none⟩)) true ty).run Tryd.prog wr = _ := fun ty => Lib.run_next_any_at wr w.heap.size a0 pos ty hit hp
        have hwd := width_pos a0 pos hp
        have hd1 := decode_le a0 pos
        have hit2 := Lib.iterAt_heap wr w.heap.size a0 pos (pos + (Utf8.decode a0 pos).2) hit
        have HB2 := Aside0.mk (Lib.below_iterAt HB.out (k := w.heap.size) (Nat.le_refl _) a0 (pos + (Utf8.decode a0 pos).2))
        obtain ⟨f, rfl⟩ : ∃ f, fuel = f + 1 := ⟨fuel - 1, by have := HF.out; omega⟩
        have hde0 : Lib.decodeGo (a0.extract pos a0.size) = Utf8.decode a0 pos := decodeGo_ext a0 pos hp
        have HG' : (if (Utf8.decode a0 pos).1 = 65533 ∧ (Utf8.decode a0 pos).2 = 1 ∨ (Utf8.decode a0 pos).1 < 32 ∧ (Utf8.decode a0 pos).1 ≠ 10 ∨ (Utf8.decode a0 pos).1 = 127 then 65 else plainGo a0 f (pos + (Utf8.decode a0 pos).2)) = r := by
          have := HG.out
          rwa [plainGo, if_pos hp] at this
        clear HG
        generalize Utf8.decode a0 pos = dn at hnx hwd hd1 hit2 HB2 hde0 HG'
        obtain ⟨d, n⟩ := dn
        simp only at hnx hwd hd1 hit2 HB2 HG'
        have HF2 := Aside0.mk (show a0.size < pos + n + f by have := HF.out; omega)
        have HGo := Aside0.mk HG'
        have hwn := Aside0.mk hwd
        have hde := Aside0.mk hde0
        have p0 : (0 ≤ (pos : Int)) = True := eq_true (by omega)
        have q0 : ((pos : Int) ≤ (a0.size : Int)) = True := eq_true (by omega)
        have hit3 := Aside0.mk hit2
        clear HG' hde0 HF
        have hend : ∀ wn : World, wn.heap[w.heap.size]? = some (.stringIter a0 (pos + n)) → a0.size - wn.iterPos w.heap.size < a0.size - wr.iterPos w.heap.size := by
          intro wn hwn2
          have := hwn.out
          simp only [World.iterPos, hwn2, hit]
          omega
        by_cases g1 : d = 65533
        · subst g1
          by_cases g2 : n = 1
          · subst g2
            obtain rfl : 65 = r := by have := HGo.out; rwa [if_pos (.inl ⟨rfl, rfl⟩)] at this
            clear HGo
            go_wp2_with (go_at_call 33; refine (Tryd.utf8_DecodeRuneInString _ _ (HL.out.below HB2.out).tabs).mono ?_; rintro e w1 ⟨rfl, hb⟩; rw [hde.out])
            go_ret
            exact ⟨rfl, below_step HB2.out hb⟩
          · have b2 : ((n : Int) == 1) = false := beq_eq_false_iff_ne.mpr (by omega)
            replace HGo := Aside0.mk (show plainGo a0 f (pos + n) = r by have := HGo.out; rwa [if_neg (by omega)] at this)
            clear g2
            go_wp2_with (go_at_call 33; refine (Tryd.utf8_DecodeRuneInString _ _ (HL.out.below HB2.out).tabs).mono ?_; rintro e w1 ⟨rfl, hb⟩; rw [hde.out])
            go_roundw
            case rel => exact ⟨_, f, (hb.block _ (by rw [Lib.iterAt_size]; exact hwsz)).trans hit3.out, ⟨below_step HB2.out hb⟩, HGo, HF2⟩
            case measure => exact hend _ ((hb.block _ (by rw [Lib.iterAt_size]; exact hwsz)).trans hit3.out)
        · have b1 : ((d : Int) == 65533) = false := beq_eq_false_iff_ne.mpr (by omega)
          by_cases g2 : d < 32
          · have l1 : decide ((d : Int) < 32) = true := decide_eq_true (by omega)
            have l2 : decide (d < 32) = true := decide_eq_true g2
            by_cases g3 : d = 10
            · subst g3
              replace HGo := Aside0.mk (show plainGo a0 f (pos + n) = r by have := HGo.out; rwa [if_neg (by omega)] at this)
              clear g1 g2
              go_wp2
              go_roundw
              case rel => exact ⟨_, f, hit3.out, HB2, HGo, HF2⟩
              case measure => exact hend _ hit3.out
            · have l3 : ((d : Int) != 10) = true := bne_iff_ne.mpr (by omega)
              obtain rfl : 65 = r := by have := HGo.out; rwa [if_pos (.inr (.inl ⟨g2, g3⟩))] at this
              clear HGo g1 g2 g3
              go_wp2
              go_ret
              exact ⟨rfl, HB2.out⟩
          · have l1 : decide ((d : Int) < 32) = false := decide_eq_false (by omega)
            have l2 : decide (d < 32) = false := decide_eq_false g2
            by_cases g3 : d = 127
            · subst g3
              obtain rfl : 65 = r := by have := HGo.out; rwa [if_pos (.inr (.inr rfl))] at this
              clear HGo g1 g2
              go_wp2
              go_ret
              exact ⟨rfl, HB2.out⟩
            · have l3 : ((d : Int) == 127) = false := beq_eq_false_iff_ne.mpr (by omega)
              replace HGo := Aside0.mk (show plainGo a0 f (pos + n) = r by have := HGo.out; rwa [if_neg (by omega)] at this)
              clear g1 g2 g3
              go_wp2
              go_roundw
              case rel => exact ⟨_, f, hit3.out, HB2, HGo, HF2⟩
              case measure => exact hend _ hit3.out
      · have hnx : ∀ ty, (Instr.next (.pointer (some ⟨w.heap.size, 0, none⟩)) true ty).run Tryd.prog wr = _ := fun ty => Lib.run_next_end_at wr w.heap.size a0 pos ty hit hp
        obtain rfl : 0 = r := by rw [← HG.out, plainGo_end a0 fuel pos hp]
        go_wp2
        go_ret
        exact ⟨rfl, HB.out⟩
end Go.Proofs.YtljinjgamgmocaaDoor.G
