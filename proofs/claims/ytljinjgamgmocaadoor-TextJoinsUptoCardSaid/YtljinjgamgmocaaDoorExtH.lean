/- The worth of a digit of hexadecimal: its contract. -/
import Derived.Test.YtljinjgamgmocaaDoorExt
import Derived.LoopTactic
import Derived.Outline
import Derived.Laws.Rows
namespace Go.Proofs.YtljinjgamgmocaaDoor.G
open Go.RowKit Go.Proofs.YtljinjgamgmocaaDoorW.PrintWords Go.Proofs.YtljinjgamgmocaaDoorW.PrintLast Go.Proofs.YtljinjgamgmocaaDoorW.PrintMore
set_option linter.unusedVariables false

theorem var_obj {P : Program} {w : World} {n : String} {cs : Array Value} {g : Nat} (hg : P.globalNamed n = some g) (h : w.var? P n = some cs) : ∃ t fr, w.heap[g]? = some (.cells cs t fr) := by
  unfold World.var? at h
  simp only [hg, Option.bind_some] at h
  split at h
  · rename_i c t fr heq
    simp only [Option.some.injEq] at h
    subst h
    exact ⟨_, _, heq⟩
  · cases h
def digitsVals : Array Value := #[.int .u8 48, .int .u8 49, .int .u8 50, .int .u8 51, .int .u8 52, .int .u8 53, .int .u8 54, .int .u8 55, .int .u8 56, .int .u8 57, .int .u8 97, .int .u8 98, .int .u8 99, .int .u8 100, .int .u8 101, .int .u8 102]
theorem digits_index : ∀ (k : Nat), k < 16 → ∀ w : World, (Instr.index 53 (.agg digitsVals) (.int .i64 (k : Int))).run Tryd.prog w = .ok (.int .u8 (digitsTab.getD k 0)) w
  | 0, _, _ => by kernel_rfl
  | 1, _, _ => by kernel_rfl
  | 2, _, _ => by kernel_rfl
  | 3, _, _ => by kernel_rfl
  | 4, _, _ => by kernel_rfl
  | 5, _, _ => by kernel_rfl
  | 6, _, _ => by kernel_rfl
  | 7, _, _ => by kernel_rfl
  | 8, _, _ => by kernel_rfl
  | 9, _, _ => by kernel_rfl
  | 10, _, _ => by kernel_rfl
  | 11, _, _ => by kernel_rfl
  | 12, _, _ => by kernel_rfl
  | 13, _, _ => by kernel_rfl
  | 14, _, _ => by kernel_rfl
  | 15, _, _ => by kernel_rfl
  | n + 16, h, _ => by omega
theorem find_step (c : Int) (k : Nat) (hk : k < 16) : findI (digitsTab.drop k) c (k : Int) = if c = digitsTab.getD k 0 then (k : Int) else findI (digitsTab.drop (k + 1)) c ((k + 1 : Nat) : Int) := by
  have e : digitsTab.drop k = digitsTab.getD k 0 :: digitsTab.drop (k + 1) := by
    have hl : k < digitsTab.length := by rw [digitsTab_len]; exact hk
    rw [List.drop_eq_getElem_cons hl, List.getD_eq_getElem?_getD, List.getElem?_eq_getElem hl]
    rfl
  rw [e]
  simp only [findI]
  rfl
set_option maxHeartbeats 1000000 in
theorem text_digit.calls (a0 : Int) (r : Int) (w : World) (hLD : LayD w) (h : text_digit.f a0 = some r) :
    Calls Tryd.prog 41 #[.int .u8 a0] w fun e w' => e = .returned (.int .i64 r) ∧ Drawn0 w w' := by
  have H := Aside0.mk (Option.some.inj h)
  clear h
  obtain ⟨t, fr, hobj⟩ := var_obj gDigits hLD.tab
  clear hLD
  have HO := Aside0.mk (show w.heap[0]? = some (.cells digitsVals t fr) from hobj)
  clear hobj
  go_enter Tryd.func41, Tryd.ntmps41
  go_wp2_with (with_reducible refine wpList_load_row rfl 53 _ rfl 0 rfl t digitsVals fr _ HO.out Tryd.underlying53 rfl (by kernel_rfl) ?_)
  go_loop [6] (fun i => ∃ k : Nat, k ≤ 16 ∧ i = .int .i64 k ∧ Aside0 (findI (digitsTab.drop k) a0 (k : Int) = r)) (fun i => 16 - (intOf i).toNat)
  case atStart => exact ⟨0, Nat.zero_le _, rfl, H⟩
  case round =>
    obtain ⟨k, hk, rfl, HF⟩ := hrel
    by_cases hlt : k < 16
    · have hidx := digits_index k hlt
      have q1 : decide ((k : Int) < 16) = true := decide_eq_true (by omega)
      have q2 : decide (k < 16) = true := decide_eq_true hlt
      have hs := HF.out
      rw [find_step a0 k hlt] at hs
      by_cases hc : a0 = digitsTab.getD k 0
      · rw [if_pos hc] at hs
        subst hs
        obtain ⟨x, hx⟩ : ∃ x, digitsTab.getD k 0 = x := ⟨_, rfl⟩
        rw [hx] at hidx hc
        subst hc
        have b1 : (a0 == a0) = true := beq_self_eq_true _
        clear hx HF H
        go_wp2
        go_ret
        exact ⟨rfl, Drawn0.refl _⟩
      · rw [if_neg hc] at hs
        obtain ⟨x, hx⟩ : ∃ x, digitsTab.getD k 0 = x := ⟨_, rfl⟩
        rw [hx] at hidx hc
        have b1 : (a0 == x) = false := beq_eq_false_iff_ne.mpr hc
        have HF' := Aside0.mk hs
        clear hx HF H hs hc
        go_wp2
        go_round
        case rel => exact ⟨k + 1, by omega, by go_num, HF'⟩
        case measure => simp [intOf]; omega
    · obtain rfl : k = 16 := by omega
      have hs := HF.out
      have e : findI (digitsTab.drop 16) a0 ((16 : Nat) : Int) = -1 := rfl
      rw [e] at hs
      subst hs
      clear HF H e
      go_wp2
      go_ret
      exact ⟨rfl, Drawn0.refl _⟩
end Go.Proofs.YtljinjgamgmocaaDoor.G
