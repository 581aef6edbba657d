/- The calls into strconv and strings, and the number that is read: their contracts. -/
import Derived.Test.YtljinjgamgmocaaDoorExt
import Derived.Test.YtljinjgamgmocaaDoorShelf
import Derived.Test.YtljinjgamgmocaaDoorExtP
import Derived.LoopTactic
import Derived.Lib.AppendIntMem
import Derived.Lib.Strings
import Derived.Outline
import Derived.WideLaws
import Derived.LaidEql
namespace Go.Proofs.YtljinjgamgmocaaDoor.G
open Go.RowKit Go.Proofs.YtljinjgamgmocaaDoorW.PrintWords Go.Proofs.YtljinjgamgmocaaDoorW.PrintLast Go.Proofs.YtljinjgamgmocaaDoorW.PrintMore
set_option linter.unusedVariables false

theorem strings_LastIndex.calls (a0 a1 : ByteArray) (r : Int) (w : World) (h : strings_LastIndex.f a0 a1 = some r) :
    Calls Tryd.prog 73 #[.string a0, .string a1] w fun e w' => e = .returned (.int .i64 r) ∧ Drawn0 w w' := by
  unfold strings_LastIndex.f at h
  split at h
  · rename_i hs
    obtain rfl := Option.some.inj h
    exact (Tryd.strings_LastIndex a0 a1 hs w).mono fun e w' ⟨h1, h2⟩ => ⟨h1, by rw [h2]; exact Drawn0.refl _⟩
  · cases h

structure LayP (w : World) : Prop where
  lies : 5 < w.heap.size
  tab : Lib.TabIs Tryd.prog w "internal/strconv.uint64pow10" .u64 Lib.pow10Tab
theorem gPow : Tryd.prog.globalNamed "internal/strconv.uint64pow10" = some 5 := by kernel_rfl
theorem LayP.below {w w' : World} (h : LayP w) (hb : Below w.heap.size w w') : LayP w' :=
  ⟨Nat.lt_of_lt_of_le h.lies hb.size, var?_below hb gPow h.lies h.tab⟩
theorem text_FormatNumber.calls (a0 : Int) (r : ByteArray) (w : World) (hLP : LayP w) (h : text_FormatNumber.f a0 = some r) :
    Calls Tryd.prog 28 #[.int .i64 a0] w fun e w' => e = .returned (.string r) ∧ Below w.heap.size w w' := by
  unfold text_FormatNumber.f at h
  split at h
  · rename_i h0
    split at h
    · rename_i h1
      obtain rfl := Option.some.inj h
      have HL := Aside0.mk hLP
      clear hLP
      go_enter Tryd.func28, Tryd.ntmps28
      go_wp2_with (go_at_call 43; refine (Tryd.strconv_FormatInt_10 a0 h0 h1 _ HL.out.tab).mono ?_; rintro e w' ⟨rfl, k, os, rfl⟩)
      go_ret
      exact ⟨rfl, Lib.below_grow _ _ (Nat.le_refl _) _ _⟩
    · cases h
  · cases h

structure LayE (w : World) : Prop where
  lies : 4 < w.heap.size
  tab : ∃ tp p, w.var? Tryd.prog "strconv.ErrRange" = some #[.iface tp p]
theorem gErr : Tryd.prog.globalNamed "strconv.ErrRange" = some 4 := by kernel_rfl
theorem LayE.below {w w' : World} (h : LayE w) (hb : Below w.heap.size w w') : LayE w' := by
  obtain ⟨h0, tp, p, hv⟩ := h
  exact ⟨Nat.lt_of_lt_of_le h0 hb.size, tp, p, var?_below hb gErr h0 hv⟩

theorem bt_list (s : ByteArray) (i : Nat) (h : i < s.size) : bt s (i : Int) = ((s.data.toList.getD i 0).toNat : Int) := by
  rw [← rd_bytesOf]
  unfold rd bytesOf
  have hl : i < s.data.toList.length := by rw [Array.length_toList]; exact h
  rw [Int.toNat_natCast, List.getD_eq_getElem?_getD, List.getD_eq_getElem?_getD, List.getElem?_map, List.getElem?_eq_getElem hl]
  rfl
theorem allDig_iff (s : ByteArray) : allDig s.data.toList = true ↔ ∀ i : Nat, i < s.size → 48 ≤ bt s (i : Int) ∧ bt s (i : Int) ≤ 57 := by
  unfold allDig
  rw [List.all_eq_true]
  constructor
  · intro h i hi
    have hl : i < s.data.toList.length := by rw [Array.length_toList]; exact hi
    have := h (s.data.toList[i]) (List.getElem_mem hl)
    rw [bt_list s i hi, List.getD_eq_getElem?_getD, List.getElem?_eq_getElem hl]
    simp only [Option.getD_some]
    simp only [Bool.and_eq_true, decide_eq_true_eq, UInt8.le_iff_toNat_le] at this
    have e1 : (48 : UInt8).toNat = 48 := rfl
    have e2 : (57 : UInt8).toNat = 57 := rfl
    omega
  · intro h c hc
    obtain ⟨i, hi, rfl⟩ := List.getElem_of_mem hc
    have hs : i < s.size := by rw [Array.length_toList] at hi; exact hi
    have := h i hs
    rw [bt_list s i hs, List.getD_eq_getElem?_getD, List.getElem?_eq_getElem hi] at this
    simp only [Option.getD_some] at this
    simp only [Bool.and_eq_true, decide_eq_true_eq, UInt8.le_iff_toNat_le]
    have e1 : (48 : UInt8).toNat = 48 := rfl
    have e2 : (57 : UInt8).toNat = 57 := rfl
    omega
theorem parse_end (a0 : ByteArray) (a1 : Int) (hd : allDig a0.data.toList = true) (hs : a0.size ≤ 1048576) (h0 : ¬ (a0.size = 0 ∨ (1 < a0.size ∧ bt a0 0 = 48))) :
    (∃ v, Lib.parseIntB 64 a0.data.toList = .ok v ∧ parseNum a0 a1 = if v > a1 then (0, 63) else (v, 0)) ∨ (Lib.parseIntB 64 a0.data.toList = .range ∧ parseNum a0 a1 = (0, 63)) := by
  have hne : a0.data.toList ≠ [] := fun e => h0 (.inl (by
    have h1 : a0.data.toList.length = a0.size := by rw [Array.length_toList]; rfl
    rw [e] at h1
    exact h1.symm))
  have hn := parseIntB_dig _ hne hd
  have e0 : parseNum a0 a1 = match Lib.parseIntB 64 a0.data.toList with
    | .ok v => if v > a1 then (0, 63) else (v, 0)
    | _ => (0, 63) := by
    unfold parseNum
    rw [if_neg (by omega), if_neg (by rw [hd]; simp), if_neg h0]
    rfl
  by_cases h : dv 0 a0.data.toList < 9223372036854775808
  · rw [if_pos h] at hn
    exact .inl ⟨_, hn, by rw [e0, hn]⟩
  · rw [if_neg h] at hn
    exact .inr ⟨hn, by rw [e0, hn]⟩
set_option maxHeartbeats 1000000 in
theorem text_ParseNumber.calls (a0 : ByteArray) (a1 : Int) (r1 r2 : Int) (w : World) (hLE : LayE w) (h : text_ParseNumber.f a0 a1 = some (r1, r2)) :
    Calls Tryd.prog 26 #[.string a0, .int .i64 a1] w fun e w' => e = .returned (.tuple #[.int .i64 r1, .int .i64 r2]) ∧ Below w.heap.size w w' := by
  have H := Aside0.mk (Option.some.inj h)
  clear h
  have HL := Aside0.mk hLE
  clear hLE
  by_cases c1 : (a0.size : Int) > 1048576
  · have e : parseNum a0 a1 = (0, 2) := by unfold parseNum; rw [if_pos c1]
    have e2 := e.symm.trans H.out
    simp only [Prod.mk.injEq] at e2
    obtain ⟨rfl, rfl⟩ := e2
    clear H e
    have c1b : decide (1048576 < a0.size) = true := decide_eq_true (by omega)
    go_enter Tryd.func26, Tryd.ntmps26
    go_wp2
    go_ret2
    exact ⟨rfl, Below.refl _ _⟩
  · have hsz : a0.size ≤ 1048576 := by omega
    have c1b : decide (1048576 < a0.size) = false := decide_eq_false (by omega)
    clear c1
    go_enter Tryd.func26, Tryd.ntmps26
    go_wp2
    go_loop [14] (fun i => ∃ k : Nat, k ≤ a0.size ∧ i = .int .i64 k ∧ Aside0 (∀ j : Nat, j < k → 48 ≤ bt a0 (j : Int) ∧ bt a0 (j : Int) ≤ 57)) (fun i => a0.size - (intOf i).toNat)
    case atStart => exact ⟨0, Nat.zero_le _, rfl, ⟨fun j hj => by omega⟩⟩
    case round =>
      obtain ⟨k, hk, rfl, HD⟩ := hrel
      by_cases hlt : k < a0.size
      · have hx : ∀ h : k < a0.size, ((a0[k]'h).toNat : Int) = bt a0 (k : Int) := fun h => bt_at a0 (k : Int) h
        have hr := bt_range a0 (k : Int)
        have p0 : (0 ≤ (k : Int)) = True := eq_true (by omega)
        have q0 : ((k : Int) < (a0.size : Int)) = True := eq_true (by omega)
        have q1 : decide ((k : Int) < (a0.size : Int)) = true := decide_eq_true (by omega)
        have q2 : decide (k < a0.size) = true := decide_eq_true hlt
        by_cases g1 : bt a0 (k : Int) < 48
        · have hA := Aside0.mk (show parseNum a0 a1 = (0, 62) by
            unfold parseNum
            rw [if_neg (by omega), if_pos]
            rw [Bool.eq_false_iff]
            intro ht
            have := (allDig_iff a0).1 ht k hlt
            omega)
          have e2 := hA.out.symm.trans H.out
          simp only [Prod.mk.injEq] at e2
          obtain ⟨rfl, rfl⟩ := e2
          clear H hA hr HD
          have b1 : decide (bt a0 (k : Int) < 48) = true := decide_eq_true g1
          clear g1
          go_wp2
          go_ret2
          exact ⟨rfl, Below.refl _ _⟩
        · have b1 : decide (bt a0 (k : Int) < 48) = false := decide_eq_false g1
          by_cases g2 : 57 < bt a0 (k : Int)
          · have hA := Aside0.mk (show parseNum a0 a1 = (0, 62) by
              unfold parseNum
              rw [if_neg (by omega), if_pos]
              rw [Bool.eq_false_iff]
              intro ht
              have := (allDig_iff a0).1 ht k hlt
              omega)
            have e2 := hA.out.symm.trans H.out
            simp only [Prod.mk.injEq] at e2
            obtain ⟨rfl, rfl⟩ := e2
            clear H hA hr HD
            have b2 : decide (57 < bt a0 (k : Int)) = true := decide_eq_true g2
            clear g1 g2
            go_wp2
            go_ret2
            exact ⟨rfl, Below.refl _ _⟩
          · have b2 : decide (57 < bt a0 (k : Int)) = false := decide_eq_false g2
            have HD' := Aside0.mk (show ∀ j : Nat, j < k + 1 → 48 ≤ bt a0 (j : Int) ∧ bt a0 (j : Int) ≤ 57 by
              intro j hj
              rcases Nat.lt_or_ge j k with h1 | h1
              · exact HD.out j h1
              · obtain rfl : j = k := by omega
                omega)
            clear g1 g2 hr HD
            go_wp2
            go_round
            case rel => exact ⟨k + 1, by omega, by go_num, HD'⟩
            case measure => simp [intOf]; omega
      · obtain rfl : k = a0.size := by omega
        have q1 : decide ((a0.size : Int) < (a0.size : Int)) = false := decide_eq_false (by omega)
        have hall := Aside0.mk ((allDig_iff a0).2 HD.out)
        clear HD hlt
        by_cases z0 : a0.size = 0
        · have hA := Aside0.mk (show parseNum a0 a1 = (0, 62) by
            unfold parseNum
            rw [if_neg (by omega), if_neg (by rw [hall.out]; simp), if_pos (.inl z0)])
          have e2 := hA.out.symm.trans H.out
          simp only [Prod.mk.injEq] at e2
          obtain ⟨rfl, rfl⟩ := e2
          have za : a0 = ⟨#[]⟩ := by
            cases a0
            simpa [ByteArray.size] using z0
          subst za
          clear H hA z0 hall hsz c1b hk q1
          go_wp2
          go_ret2
          exact ⟨rfl, Below.refl _ _⟩
        · have z1 : ¬ a0.toList = [] := by
            rw [Lib.toList_data]
            intro e
            apply z0
            have h1 : a0.data.toList.length = a0.size := by rw [Array.length_toList]; rfl
            rw [e] at h1
            exact h1.symm
          have z2 : a0.toList.isEmpty = false := by simpa using z1
          have hx0 : ∀ h : 0 < a0.size, ((a0[0]'h).toNat : Int) = bt a0 0 := fun h => bt_at a0 0 h
          by_cases g3 : 1 < a0.size ∧ bt a0 0 = 48
          · have hA := Aside0.mk (show parseNum a0 a1 = (0, 62) by
              unfold parseNum
              rw [if_neg (by omega), if_neg (by rw [hall.out]; simp), if_pos (.inr g3)])
            have e2 := hA.out.symm.trans H.out
            simp only [Prod.mk.injEq] at e2
            obtain ⟨rfl, rfl⟩ := e2
            have b3 : decide (1 < a0.size) = true := decide_eq_true g3.1
            have b3i : decide ((1 : Int) < (a0.size : Int)) = true := decide_eq_true (by omega)
            have b5 : (0 < a0.size) = True := eq_true (by omega)
            have b4 : (bt a0 0 == 48) = true := beq_iff_eq.mpr g3.2
            clear H hA g3 z0
            go_wp2
            go_ret2
            exact ⟨rfl, Below.refl _ _⟩
          · have HE := Aside0.mk (parse_end a0 a1 hall.out hsz (fun h => h.elim z0 g3))
            have b5 : (0 < a0.size) = True := eq_true (by omega)
            have hcs : (decide (1 < a0.size) = false ∧ decide ((1 : Int) < (a0.size : Int)) = false) ∨ (decide (1 < a0.size) = true ∧ decide ((1 : Int) < (a0.size : Int)) = true ∧ (bt a0 0 == 48) = false) := by
              by_cases h1 : 1 < a0.size
              · exact .inr ⟨decide_eq_true h1, decide_eq_true (by omega), beq_eq_false_iff_ne.mpr fun e => g3 ⟨h1, e⟩⟩
              · exact .inl ⟨decide_eq_false h1, decide_eq_false (by omega)⟩
            clear g3 z0
            obtain ⟨tp, pv, hv⟩ := HL.out.tab
            have HV := Aside0.mk hv
            have hsz2 := Aside0.mk hsz
            clear hv
            rcases HE.out with ⟨v, e1, e2⟩ | ⟨e1, e2⟩
            · have HC := Aside0.mk (Tryd.strconv_ParseInt_10_at64_ok a0 (by omega) v e1)
              by_cases g4 : a1 < v
              · rw [if_pos g4] at e2
                have e3 := e2.symm.trans H.out
                simp only [Prod.mk.injEq] at e3
                obtain ⟨rfl, rfl⟩ := e3
                have b6 : decide (a1 < v) = true := decide_eq_true g4
                clear HE H e1 e2 g4
                rcases hcs with ⟨hcs, hcs3⟩ | ⟨hcs, hcs3, hcs2⟩
                all_goals
                  go_wp2_with (go_at_call 42; refine (HC.out _).mono ?_; rintro e w1 ⟨rfl, hw1⟩)
                  go_ret2
                  exact ⟨rfl, by rcases hw1 with rfl | ⟨t, rfl⟩ <;> first | exact Below.refl _ _ | exact Lib.bytesWorld_below _ _ _⟩
              · rw [if_neg g4] at e2
                have e3 := e2.symm.trans H.out
                simp only [Prod.mk.injEq] at e3
                obtain ⟨rfl, rfl⟩ := e3
                have b6 : decide (a1 < v) = false := decide_eq_false g4
                clear HE H e1 e2 g4
                rcases hcs with ⟨hcs, hcs3⟩ | ⟨hcs, hcs3, hcs2⟩
                all_goals
                  go_wp2_with (go_at_call 42; refine (HC.out _).mono ?_; rintro e w1 ⟨rfl, hw1⟩)
                  go_ret2
                  exact ⟨rfl, by rcases hw1 with rfl | ⟨t, rfl⟩ <;> first | exact Below.refl _ _ | exact Lib.bytesWorld_below _ _ _⟩
            · have HC := Aside0.mk (fun w0 (h : w0.var? Tryd.prog "strconv.ErrRange" = some #[.iface tp pv]) => Tryd.strconv_ParseInt_10_at64_range_var a0 (by omega) e1 tp pv w0 h)
              have e3 := e2.symm.trans H.out
              simp only [Prod.mk.injEq] at e3
              obtain ⟨rfl, rfl⟩ := e3
              clear HE H e1 e2
              have hu := Tryd.underlying63
              rcases hcs with ⟨hcs, hcs3⟩ | ⟨hcs, hcs3, hcs2⟩
              all_goals
                go_wp2_with (go_at_call 42; refine (HC.out _ HV.out).mono ?_; rintro e w1 ⟨N, rfl, hN1, hN2, hw1⟩; clear hN1 hN2)
                go_ret2
                exact ⟨rfl, hw1⟩
end Go.Proofs.YtljinjgamgmocaaDoor.G
