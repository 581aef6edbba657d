/- Joined texts of mine, 3: Gx3, PBase, GxD2, PHex, PQuote, PB64, TJ, QR, QH. -/
import Derived.Laws.BitsLemmas
import Derived.Laws.BytesArg
import Derived.Lib.Strings
import Derived.Deep.MidRow
import Derived.Scope
import Derived.Lib.SlBytesConst
import Derived.Test.YtljinjgamgmocaaDoorPb2
section
namespace Go.Proofs.YtljinjgamgmocaaDoor.G
open Go.RowKit Go.Proofs.YtljinjgamgmocaaDoorW.PrintWords Go.Proofs.YtljinjgamgmocaaDoorW.PrintLast Go.Proofs.YtljinjgamgmocaaDoorW.PrintMore
attribute [local go_sem] max2_int min2_int max_two min_two max_three min_three max_four min_four   -- for this text's walks alone
set_option linter.unusedVariables false
set_option linter.unusedSimpArgs false
def text_EncodeBase64.T3 : Bool × List (List Nat × List Nat) := (true, [([], []), ([0], [0]), ([1], [1]), ([2], [2]), ([3], [3]), ([], []), ([5], [5]), ([6], [6]), ([7], [7]), ([8], [8]), ([4, 9], [4, 9]), ([], []), ([11], [11]), ([12], [12]), ([13], [13]), ([10, 14], [10, 14]), ([15, 0, 1, 2, 3, 4, 5, 6, 7, 8, 9, 10, 11, 12, 13, 14, 15], [15])])
def text_EncodeBase64.B3 : List Nat := [0, 1, 3, 7, 15, 0, 32, 96, 224, 480, 1023, 0, 2048, 6144, 14336, 32767, 65535]
theorem text_EncodeBase64.tab3 : rtab .any (opsOf Tryd.f14 3) = text_EncodeBase64.T3 := by kernel_rfl
theorem text_EncodeBase64.bits3 : waitsOk text_EncodeBase64.T3.2 text_EncodeBase64.B3 = true := by kernel_rfl
def text_EncodeBase64.T4 : Bool × List (List Nat × List Nat) := (true, [([], []), ([], []), ([1], [1]), ([2], [2]), ([], []), ([4], [4]), ([5], [5]), ([6], [6]), ([], []), ([8], [8]), ([9], [9]), ([10], [10]), ([], []), ([12], [12]), ([13], [13]), ([3, 7, 11, 14], [3, 7, 11, 14]), ([0, 15], [0, 15]), ([16, 16, 0, 1, 2, 3, 4, 5, 6, 7, 8, 9, 10, 11, 12, 13, 14, 15, 16], [0, 16])])
def text_EncodeBase64.B4 : List Nat := [0, 0, 2, 6, 0, 16, 48, 112, 0, 256, 768, 1792, 0, 4096, 12288, 32766, 65535, 131071]
theorem text_EncodeBase64.tab4 : rtab .any (opsOf Tryd.f14 4) = text_EncodeBase64.T4 := by kernel_rfl
theorem text_EncodeBase64.bits4 : waitsOk text_EncodeBase64.T4.2 text_EncodeBase64.B4 = true := by kernel_rfl
def text_EncodeBase64.T9 : Bool × List (List Nat × List Nat) := (true, [([], []), ([], []), ([1], [1]), ([2], [2]), ([], []), ([4], [4]), ([5], [5]), ([6], [6]), ([3, 7], [3, 7]), ([0, 8], [0, 8]), ([9, 9, 0, 1, 2, 3, 4, 5, 6, 7, 8, 9], [0, 9])])
def text_EncodeBase64.B9 : List Nat := [0, 0, 2, 6, 0, 16, 48, 112, 254, 511, 1023]
theorem text_EncodeBase64.tab9 : rtab .any (opsOf Tryd.f14 9) = text_EncodeBase64.T9 := by kernel_rfl
theorem text_EncodeBase64.bits9 : waitsOk text_EncodeBase64.T9.2 text_EncodeBase64.B9 = true := by kernel_rfl
def text_EncodeBase64.T11 : Bool × List (List Nat × List Nat) := (true, [([], []), ([0], [0]), ([1], [1]), ([2], [2]), ([3], [3]), ([], []), ([5], [5]), ([6], [6]), ([7], [7]), ([8], [8]), ([4, 9], [4, 9]), ([10, 0, 1, 2, 3, 4, 5, 6, 7, 8, 9, 10], [10])])
def text_EncodeBase64.B11 : List Nat := [0, 1, 3, 7, 15, 0, 32, 96, 224, 480, 1023, 2047]
theorem text_EncodeBase64.tab11 : rtab .any (opsOf Tryd.f14 11) = text_EncodeBase64.T11 := by kernel_rfl
theorem text_EncodeBase64.bits11 : waitsOk text_EncodeBase64.T11.2 text_EncodeBase64.B11 = true := by kernel_rfl
def text_EncodeBase64.T12 : Bool × List (List Nat × List Nat) := (true, [([], []), ([], []), ([1], [1]), ([2], [2]), ([], []), ([4], [4]), ([5], [5]), ([6], [6]), ([], []), ([8], [8]), ([9], [9]), ([10], [10]), ([3, 7, 11], [3, 7, 11]), ([0, 12], [0, 12]), ([13, 13, 0, 1, 2, 3, 4, 5, 6, 7, 8, 9, 10, 11, 12, 13], [0, 13])])
def text_EncodeBase64.B12 : List Nat := [0, 0, 2, 6, 0, 16, 48, 112, 0, 256, 768, 1792, 4094, 8191, 16383]
theorem text_EncodeBase64.tab12 : rtab .any (opsOf Tryd.f14 12) = text_EncodeBase64.T12 := by kernel_rfl
theorem text_EncodeBase64.bits12 : waitsOk text_EncodeBase64.T12.2 text_EncodeBase64.B12 = true := by kernel_rfl
set_option maxHeartbeats 8000000 in
set_option maxRecDepth 100000 in
theorem text_EncodeBase64.calls (k : Nat) (P0_ : Nat → Prop) (A0 : Option Addr) (c0 : Nat) (l0 : List Int) (r : ByteArray) (w : World) (hs0 : Kd.V (Kd.int .u8) 5 w w.heap.size (fun k_ => P0_ k_) (.slice A0 l0.length c0) l0) (h : text_EncodeBase64.f k l0 = some r) :
    Calls Tryd.prog 14 #[.slice A0 l0.length c0] w fun e w' => e = .returned (.string r) ∧ Below w.heap.size w w' := by
  have HO0 := Aside0.mk (show Kd.V (Kd.int .u8) 5 w w.heap.size (fun k_ => (P0_ k_ ∨ w.heap.size ≤ k_)) (.slice A0 l0.length c0) l0 from Kd.V_mono hs0 (fun k_ hk => .inl hk))
  have HB := Aside0.mk (Below.refl w.heap.size w)
  have H : (if 0 ≤ (wrap64 ((wrap64 (Int.tdiv (wrap64 ((l0.length : Int) + 2)) 3)) * 4)) then (if (wrap64 ((wrap64 (Int.tdiv (wrap64 ((l0.length : Int) + 2)) 3)) * 4) : Int).toNat ≤ 281474976710656 then (text_EncodeBase64.l0 k l0 (([] : List Int))) else (none)) else (none)) = some r := h
  clear h
  obtain ⟨ji2, hji2⟩ : ∃ j_ : Int, (wrap64 ((wrap64 (Int.tdiv (wrap64 ((l0.length : Int) + 2)) 3)) * 4)) = j_ := ⟨_, rfl⟩
  replace H : (if 0 ≤ (ji2) then (if (ji2 : Int).toNat ≤ 281474976710656 then (text_EncodeBase64.l0 k l0 (([] : List Int))) else (none)) else (none)) = some r := by first | (rw [hji2] at H; exact H) | (simp only [hji2] at H ⊢; exact H)
  have hji2w : (IntKind.i64.wrap ((wrap64 (Int.tdiv (wrap64 ((l0.length : Int) + 2)) 3)) * 4)) = ji2 := (i64_w _).trans hji2
  by_cases c3 : 0 ≤ (ji2)
  · rw [if_pos c3] at H
    have c3b0 := eq_true c3
    have c3b1 : decide (0 ≤ (ji2)) = true := decide_eq_true c3
    clear c3
    by_cases c4 : (ji2 : Int).toNat ≤ 281474976710656
    · rw [if_pos c4] at H
      have c4b0 := eq_true c4
      have c4b1 : decide ((ji2 : Int).toNat ≤ 281474976710656) = true := decide_eq_true c4
      clear c4
      obtain ⟨y132, hy132⟩ : ∃ y_ : List Int, y_ = (([] : List Int)) := ⟨_, rfl⟩
      replace H : (text_EncodeBase64.l0 k l0 y132) = some r := by first | (rw [hy132]; with_reducible exact H) | (have H2_ := (Option.bind_some _ _).symm.trans H; rw [hy132]; with_reducible exact H2_) | (have H2_ := (Option.bind_some _ _).symm.trans H; with_reducible exact H2_) | with_reducible exact H | (rw [hy132]; exact H) | exact H
      have Ny132 := Aside0.mk hy132
      clear hy132
      have H' := Aside0.mk H
      clear H
      go_enter Tryd.func14, Tryd.ntmps14
      go_wp2_with (first | ((with_reducible refine gate_dst (N := 12) rfl ?_); refine Kd.R_make0 (Kd.int .u8) _ 5 rfl (N := 12) rfl 22 _ _ rfl ji2 rfl rfl Tryd.underlying22 (.int .u8 0) 1 info5 rfl (by decide) (by omega) (ok := fun _ => True) trivial (of_decide_eq_true (by first | (with_reducible assumption) | assumption)) (Nat.le_trans (Nat.mul_le_mul_right _ (of_decide_eq_true (by first | (with_reducible assumption) | assumption) : ji2.toNat ≤ 281474976710656)) (by omega)) (Below.refl _ _) (Nat.le_refl _) ?_; intro v133 w5 ho6 hb hg_ hnew_; clear hg_ hnew_; (first | rw [← Ny132.out] at ho6 | (simp only [Int.reduceToNat] at ho6; rw [← Ny132.out] at ho6)); have n0_ := Aside0.mk (Kd.V_elder' (by (with_reducible repeat (first | apply Kd.V_alloc | apply Kd.V_drewN | apply Kd.V_drew)); exact HO0.out) (Kd.R_base ho6) hb); have n1_ := Aside0.mk (Kd.R_lower (Kd.R_newM (M := fun k_ => (w.heap.size ≤ k_)) ho6 (below_size (by repeat (first | (with_reducible first | exact HB.out | apply below_alloc | apply pw_below_drewN | apply below_drew1) | exact HB.out))) (fun k_ h_ => h_)) (below_size (by repeat (first | (with_reducible first | exact HB.out | apply below_alloc | apply pw_below_drewN | apply below_drew1) | exact HB.out)))); have n2_ := Aside0.mk (below_step (by repeat (first | (with_reducible first | exact HB.out | apply below_alloc | apply pw_below_drewN | apply below_drew1) | exact HB.out)) hb); clear HO0; clear HB; have HO0 := n0_; have HO134 := n1_; have HB := n2_; clear n0_ n1_ n2_; clear hb ho6))
      go_loopg [0, 3] k (fun kq v0 v3 w' => ∃ (x0_1 : List Int) (x3_1 : List Int), Aside0 (text_EncodeBase64.l0 kq x0_1 x3_1 = some r) ∧ Aside0 (kq ≤ k) ∧ Aside0 (Kd.V (Kd.int .u8) 5 w' w.heap.size (fun k_ => (P0_ k_ ∨ w.heap.size ≤ k_) ∧ some k_ ≠ (v3 : Value).ownBlock) v0 x0_1) ∧ Aside0 (Kd.R (Kd.int .u8) 5 w' w.heap.size (fun k_ => (w.heap.size ≤ k_)) v3 x3_1) ∧ Aside0 (Below w.heap.size w w'))
      case atStart => exact ⟨(l0), (y132), H', ⟨Nat.le_refl _⟩, ⟨by (with_reducible repeat (first | apply Kd.V_alloc | apply Kd.V_drewN | apply Kd.V_drew)); exact HO0.out⟩, ⟨by (with_reducible repeat (first | apply Kd.R_alloc | apply Kd.R_drewN | apply Kd.R_drew)); exact Kd.R_mono HO134.out (fun _ hk => hk.1)⟩, ⟨by repeat (first | (with_reducible first | exact HB.out | apply below_alloc | apply pw_below_drewN | apply below_drew1) | exact HB.out)⟩⟩
      case round =>
        clear H'
        try clear c1
        try clear p2
        try clear c3
        try clear c3b0
        try clear c3b1
        try clear c4
        try clear c4b0
        try clear c4b1
        try clear p6
        obtain ⟨x0_1, x3_1, HA, HK1, HO_0, HO_3, HB⟩ := hrel
        cases gk with
        | zero => exact absurd HA.out (by simp [text_EncodeBase64.l0])
        | succ k1 =>
          have H := HA.out
          clear HA
          simp only [text_EncodeBase64.l0] at H
          by_cases c7 : (x0_1.length : Int) ≥ 3
          · rw [if_pos c7] at H
            have c7b0 : decide (3 ≤ (x0_1.length : Int)) = true := decide_eq_true c7
            have c7b1 : decide (3 ≤ x0_1.length) = true := decide_eq_true (by omega)
            clear c7
            by_cases c8 : 0 < (x0_1.length : Int)
            · rw [if_pos c8] at H
              have c8b0 : decide (0 < (x0_1.length : Int)) = true := decide_eq_true c8
              have c8b1 : decide (0 < x0_1.length) = true := decide_eq_true (by omega)
              clear c8
              by_cases c9 : 1 < (x0_1.length : Int)
              · rw [if_pos c9] at H
                have c9b0 : decide (1 < (x0_1.length : Int)) = true := decide_eq_true c9
                have c9b1 : decide (1 < x0_1.length) = true := decide_eq_true (by omega)
                clear c9
                by_cases c10 : 2 < (x0_1.length : Int)
                · rw [if_pos c10] at H
                  have c10b0 : decide (2 < (x0_1.length : Int)) = true := decide_eq_true c10
                  have c10b1 : decide (2 < x0_1.length) = true := decide_eq_true (by omega)
                  clear c10
                  obtain ⟨ji11, hji11⟩ : ∃ j_ : Int, ((Go.bits .or .i64 (Go.bits .or .i64 (wrap64 ((wrap64 (rd x0_1 0)) * 65536)) (wrap64 ((wrap64 (rd x0_1 1)) * 256))) (wrap64 (rd x0_1 2))) / 262144) = j_ := ⟨_, rfl⟩
                  replace H : (if 0 ≤ (ji11) then (if (ji11) < 64 then (if 0 ≤ (Go.bits .and .i64 ((Go.bits .or .i64 (Go.bits .or .i64 (wrap64 ((wrap64 (rd x0_1 0)) * 65536)) (wrap64 ((wrap64 (rd x0_1 1)) * 256))) (wrap64 (rd x0_1 2))) / 4096) 63) then (if (Go.bits .and .i64 ((Go.bits .or .i64 (Go.bits .or .i64 (wrap64 ((wrap64 (rd x0_1 0)) * 65536)) (wrap64 ((wrap64 (rd x0_1 1)) * 256))) (wrap64 (rd x0_1 2))) / 4096) 63) < 64 then (if 0 ≤ (Go.bits .and .i64 ((Go.bits .or .i64 (Go.bits .or .i64 (wrap64 ((wrap64 (rd x0_1 0)) * 65536)) (wrap64 ((wrap64 (rd x0_1 1)) * 256))) (wrap64 (rd x0_1 2))) / 64) 63) then (if (Go.bits .and .i64 ((Go.bits .or .i64 (Go.bits .or .i64 (wrap64 ((wrap64 (rd x0_1 0)) * 65536)) (wrap64 ((wrap64 (rd x0_1 1)) * 256))) (wrap64 (rd x0_1 2))) / 64) 63) < 64 then (if 0 ≤ (Go.bits .and .i64 (Go.bits .or .i64 (Go.bits .or .i64 (wrap64 ((wrap64 (rd x0_1 0)) * 65536)) (wrap64 ((wrap64 (rd x0_1 1)) * 256))) (wrap64 (rd x0_1 2))) 63) then (if (Go.bits .and .i64 (Go.bits .or .i64 (Go.bits .or .i64 (wrap64 ((wrap64 (rd x0_1 0)) * 65536)) (wrap64 ((wrap64 (rd x0_1 1)) * 256))) (wrap64 (rd x0_1 2))) 63) < 64 then ((some (([bt (⟨#[65, 66, 67, 68, 69, 70, 71, 72, 73, 74, 75, 76, 77, 78, 79, 80, 81, 82, 83, 84, 85, 86, 87, 88, 89, 90, 97, 98, 99, 100, 101, 102, 103, 104, 105, 106, 107, 108, 109, 110, 111, 112, 113, 114, 115, 116, 117, 118, 119, 120, 121, 122, 48, 49, 50, 51, 52, 53, 54, 55, 56, 57, 43, 47]⟩ : ByteArray) (ji11), bt (⟨#[65, 66, 67, 68, 69, 70, 71, 72, 73, 74, 75, 76, 77, 78, 79, 80, 81, 82, 83, 84, 85, 86, 87, 88, 89, 90, 97, 98, 99, 100, 101, 102, 103, 104, 105, 106, 107, 108, 109, 110, 111, 112, 113, 114, 115, 116, 117, 118, 119, 120, 121, 122, 48, 49, 50, 51, 52, 53, 54, 55, 56, 57, 43, 47]⟩ : ByteArray) (Go.bits .and .i64 ((Go.bits .or .i64 (Go.bits .or .i64 (wrap64 ((wrap64 (rd x0_1 0)) * 65536)) (wrap64 ((wrap64 (rd x0_1 1)) * 256))) (wrap64 (rd x0_1 2))) / 4096) 63), bt (⟨#[65, 66, 67, 68, 69, 70, 71, 72, 73, 74, 75, 76, 77, 78, 79, 80, 81, 82, 83, 84, 85, 86, 87, 88, 89, 90, 97, 98, 99, 100, 101, 102, 103, 104, 105, 106, 107, 108, 109, 110, 111, 112, 113, 114, 115, 116, 117, 118, 119, 120, 121, 122, 48, 49, 50, 51, 52, 53, 54, 55, 56, 57, 43, 47]⟩ : ByteArray) (Go.bits .and .i64 ((Go.bits .or .i64 (Go.bits .or .i64 (wrap64 ((wrap64 (rd x0_1 0)) * 65536)) (wrap64 ((wrap64 (rd x0_1 1)) * 256))) (wrap64 (rd x0_1 2))) / 64) 63), bt (⟨#[65, 66, 67, 68, 69, 70, 71, 72, 73, 74, 75, 76, 77, 78, 79, 80, 81, 82, 83, 84, 85, 86, 87, 88, 89, 90, 97, 98, 99, 100, 101, 102, 103, 104, 105, 106, 107, 108, 109, 110, 111, 112, 113, 114, 115, 116, 117, 118, 119, 120, 121, 122, 48, 49, 50, 51, 52, 53, 54, 55, 56, 57, 43, 47]⟩ : ByteArray) (Go.bits .and .i64 (Go.bits .or .i64 (Go.bits .or .i64 (wrap64 ((wrap64 (rd x0_1 0)) * 65536)) (wrap64 ((wrap64 (rd x0_1 1)) * 256))) (wrap64 (rd x0_1 2))) 63)] : List Int) : List Int)).bind fun y138 => (if x3_1.length + y138.length < 140737488355328 then (if 3 ≤ (x0_1.length : Int) then (text_EncodeBase64.l0 k1 (x0_1.drop 3) (x3_1 ++ y138)) else (none)) else (none))) else (none)) else (none)) else (none)) else (none)) else (none)) else (none)) else (none)) else (none)) = some r := by first | (rw [hji11] at H; exact H) | (simp only [hji11] at H ⊢; exact H)
                  by_cases c12 : 0 ≤ (ji11)
                  · rw [if_pos c12] at H
                    have c12b0 : decide (0 ≤ (ji11)) = true := decide_eq_true c12
                    clear c12
                    by_cases c13 : (ji11) < 64
                    · rw [if_pos c13] at H
                      have c13b0 : decide ((ji11) < 64) = true := decide_eq_true c13
                      clear c13
                      obtain ⟨ji15, hji15⟩ : ∃ j_ : Int, (Go.bits .and .i64 ((Go.bits .or .i64 (Go.bits .or .i64 (wrap64 ((wrap64 (rd x0_1 0)) * 65536)) (wrap64 ((wrap64 (rd x0_1 1)) * 256))) (wrap64 (rd x0_1 2))) / 4096) 63) = j_ := ⟨_, rfl⟩
                      replace H : (if 0 ≤ (ji15) then (if (ji15) < 64 then (if 0 ≤ (Go.bits .and .i64 ((Go.bits .or .i64 (Go.bits .or .i64 (wrap64 ((wrap64 (rd x0_1 0)) * 65536)) (wrap64 ((wrap64 (rd x0_1 1)) * 256))) (wrap64 (rd x0_1 2))) / 64) 63) then (if (Go.bits .and .i64 ((Go.bits .or .i64 (Go.bits .or .i64 (wrap64 ((wrap64 (rd x0_1 0)) * 65536)) (wrap64 ((wrap64 (rd x0_1 1)) * 256))) (wrap64 (rd x0_1 2))) / 64) 63) < 64 then (if 0 ≤ (Go.bits .and .i64 (Go.bits .or .i64 (Go.bits .or .i64 (wrap64 ((wrap64 (rd x0_1 0)) * 65536)) (wrap64 ((wrap64 (rd x0_1 1)) * 256))) (wrap64 (rd x0_1 2))) 63) then (if (Go.bits .and .i64 (Go.bits .or .i64 (Go.bits .or .i64 (wrap64 ((wrap64 (rd x0_1 0)) * 65536)) (wrap64 ((wrap64 (rd x0_1 1)) * 256))) (wrap64 (rd x0_1 2))) 63) < 64 then ((some (([bt (⟨#[65, 66, 67, 68, 69, 70, 71, 72, 73, 74, 75, 76, 77, 78, 79, 80, 81, 82, 83, 84, 85, 86, 87, 88, 89, 90, 97, 98, 99, 100, 101, 102, 103, 104, 105, 106, 107, 108, 109, 110, 111, 112, 113, 114, 115, 116, 117, 118, 119, 120, 121, 122, 48, 49, 50, 51, 52, 53, 54, 55, 56, 57, 43, 47]⟩ : ByteArray) (ji11), bt (⟨#[65, 66, 67, 68, 69, 70, 71, 72, 73, 74, 75, 76, 77, 78, 79, 80, 81, 82, 83, 84, 85, 86, 87, 88, 89, 90, 97, 98, 99, 100, 101, 102, 103, 104, 105, 106, 107, 108, 109, 110, 111, 112, 113, 114, 115, 116, 117, 118, 119, 120, 121, 122, 48, 49, 50, 51, 52, 53, 54, 55, 56, 57, 43, 47]⟩ : ByteArray) (ji15), bt (⟨#[65, 66, 67, 68, 69, 70, 71, 72, 73, 74, 75, 76, 77, 78, 79, 80, 81, 82, 83, 84, 85, 86, 87, 88, 89, 90, 97, 98, 99, 100, 101, 102, 103, 104, 105, 106, 107, 108, 109, 110, 111, 112, 113, 114, 115, 116, 117, 118, 119, 120, 121, 122, 48, 49, 50, 51, 52, 53, 54, 55, 56, 57, 43, 47]⟩ : ByteArray) (Go.bits .and .i64 ((Go.bits .or .i64 (Go.bits .or .i64 (wrap64 ((wrap64 (rd x0_1 0)) * 65536)) (wrap64 ((wrap64 (rd x0_1 1)) * 256))) (wrap64 (rd x0_1 2))) / 64) 63), bt (⟨#[65, 66, 67, 68, 69, 70, 71, 72, 73, 74, 75, 76, 77, 78, 79, 80, 81, 82, 83, 84, 85, 86, 87, 88, 89, 90, 97, 98, 99, 100, 101, 102, 103, 104, 105, 106, 107, 108, 109, 110, 111, 112, 113, 114, 115, 116, 117, 118, 119, 120, 121, 122, 48, 49, 50, 51, 52, 53, 54, 55, 56, 57, 43, 47]⟩ : ByteArray) (Go.bits .and .i64 (Go.bits .or .i64 (Go.bits .or .i64 (wrap64 ((wrap64 (rd x0_1 0)) * 65536)) (wrap64 ((wrap64 (rd x0_1 1)) * 256))) (wrap64 (rd x0_1 2))) 63)] : List Int) : List Int)).bind fun y138 => (if x3_1.length + y138.length < 140737488355328 then (if 3 ≤ (x0_1.length : Int) then (text_EncodeBase64.l0 k1 (x0_1.drop 3) (x3_1 ++ y138)) else (none)) else (none))) else (none)) else (none)) else (none)) else (none)) else (none)) else (none)) = some r := by first | (rw [hji15] at H; exact H) | (simp only [hji15] at H ⊢; exact H)
                      by_cases c16 : 0 ≤ (ji15)
                      · rw [if_pos c16] at H
                        have c16b0 : decide (0 ≤ (ji15)) = true := decide_eq_true c16
                        clear c16
                        by_cases c17 : (ji15) < 64
                        · rw [if_pos c17] at H
                          have c17b0 : decide ((ji15) < 64) = true := decide_eq_true c17
                          clear c17
                          obtain ⟨ji19, hji19⟩ : ∃ j_ : Int, (Go.bits .and .i64 ((Go.bits .or .i64 (Go.bits .or .i64 (wrap64 ((wrap64 (rd x0_1 0)) * 65536)) (wrap64 ((wrap64 (rd x0_1 1)) * 256))) (wrap64 (rd x0_1 2))) / 64) 63) = j_ := ⟨_, rfl⟩
                          replace H : (if 0 ≤ (ji19) then (if (ji19) < 64 then (if 0 ≤ (Go.bits .and .i64 (Go.bits .or .i64 (Go.bits .or .i64 (wrap64 ((wrap64 (rd x0_1 0)) * 65536)) (wrap64 ((wrap64 (rd x0_1 1)) * 256))) (wrap64 (rd x0_1 2))) 63) then (if (Go.bits .and .i64 (Go.bits .or .i64 (Go.bits .or .i64 (wrap64 ((wrap64 (rd x0_1 0)) * 65536)) (wrap64 ((wrap64 (rd x0_1 1)) * 256))) (wrap64 (rd x0_1 2))) 63) < 64 then ((some (([bt (⟨#[65, 66, 67, 68, 69, 70, 71, 72, 73, 74, 75, 76, 77, 78, 79, 80, 81, 82, 83, 84, 85, 86, 87, 88, 89, 90, 97, 98, 99, 100, 101, 102, 103, 104, 105, 106, 107, 108, 109, 110, 111, 112, 113, 114, 115, 116, 117, 118, 119, 120, 121, 122, 48, 49, 50, 51, 52, 53, 54, 55, 56, 57, 43, 47]⟩ : ByteArray) (ji11), bt (⟨#[65, 66, 67, 68, 69, 70, 71, 72, 73, 74, 75, 76, 77, 78, 79, 80, 81, 82, 83, 84, 85, 86, 87, 88, 89, 90, 97, 98, 99, 100, 101, 102, 103, 104, 105, 106, 107, 108, 109, 110, 111, 112, 113, 114, 115, 116, 117, 118, 119, 120, 121, 122, 48, 49, 50, 51, 52, 53, 54, 55, 56, 57, 43, 47]⟩ : ByteArray) (ji15), bt (⟨#[65, 66, 67, 68, 69, 70, 71, 72, 73, 74, 75, 76, 77, 78, 79, 80, 81, 82, 83, 84, 85, 86, 87, 88, 89, 90, 97, 98, 99, 100, 101, 102, 103, 104, 105, 106, 107, 108, 109, 110, 111, 112, 113, 114, 115, 116, 117, 118, 119, 120, 121, 122, 48, 49, 50, 51, 52, 53, 54, 55, 56, 57, 43, 47]⟩ : ByteArray) (ji19), bt (⟨#[65, 66, 67, 68, 69, 70, 71, 72, 73, 74, 75, 76, 77, 78, 79, 80, 81, 82, 83, 84, 85, 86, 87, 88, 89, 90, 97, 98, 99, 100, 101, 102, 103, 104, 105, 106, 107, 108, 109, 110, 111, 112, 113, 114, 115, 116, 117, 118, 119, 120, 121, 122, 48, 49, 50, 51, 52, 53, 54, 55, 56, 57, 43, 47]⟩ : ByteArray) (Go.bits .and .i64 (Go.bits .or .i64 (Go.bits .or .i64 (wrap64 ((wrap64 (rd x0_1 0)) * 65536)) (wrap64 ((wrap64 (rd x0_1 1)) * 256))) (wrap64 (rd x0_1 2))) 63)] : List Int) : List Int)).bind fun y138 => (if x3_1.length + y138.length < 140737488355328 then (if 3 ≤ (x0_1.length : Int) then (text_EncodeBase64.l0 k1 (x0_1.drop 3) (x3_1 ++ y138)) else (none)) else (none))) else (none)) else (none)) else (none)) else (none)) = some r := by first | (rw [hji19] at H; exact H) | (simp only [hji19] at H ⊢; exact H)
                          by_cases c20 : 0 ≤ (ji19)
                          · rw [if_pos c20] at H
                            have c20b0 : decide (0 ≤ (ji19)) = true := decide_eq_true c20
                            clear c20
                            by_cases c21 : (ji19) < 64
                            · rw [if_pos c21] at H
                              have c21b0 : decide ((ji19) < 64) = true := decide_eq_true c21
                              clear c21
                              obtain ⟨ji23, hji23⟩ : ∃ j_ : Int, (Go.bits .and .i64 (Go.bits .or .i64 (Go.bits .or .i64 (wrap64 ((wrap64 (rd x0_1 0)) * 65536)) (wrap64 ((wrap64 (rd x0_1 1)) * 256))) (wrap64 (rd x0_1 2))) 63) = j_ := ⟨_, rfl⟩
                              replace H : (if 0 ≤ (ji23) then (if (ji23) < 64 then ((some (([bt (⟨#[65, 66, 67, 68, 69, 70, 71, 72, 73, 74, 75, 76, 77, 78, 79, 80, 81, 82, 83, 84, 85, 86, 87, 88, 89, 90, 97, 98, 99, 100, 101, 102, 103, 104, 105, 106, 107, 108, 109, 110, 111, 112, 113, 114, 115, 116, 117, 118, 119, 120, 121, 122, 48, 49, 50, 51, 52, 53, 54, 55, 56, 57, 43, 47]⟩ : ByteArray) (ji11), bt (⟨#[65, 66, 67, 68, 69, 70, 71, 72, 73, 74, 75, 76, 77, 78, 79, 80, 81, 82, 83, 84, 85, 86, 87, 88, 89, 90, 97, 98, 99, 100, 101, 102, 103, 104, 105, 106, 107, 108, 109, 110, 111, 112, 113, 114, 115, 116, 117, 118, 119, 120, 121, 122, 48, 49, 50, 51, 52, 53, 54, 55, 56, 57, 43, 47]⟩ : ByteArray) (ji15), bt (⟨#[65, 66, 67, 68, 69, 70, 71, 72, 73, 74, 75, 76, 77, 78, 79, 80, 81, 82, 83, 84, 85, 86, 87, 88, 89, 90, 97, 98, 99, 100, 101, 102, 103, 104, 105, 106, 107, 108, 109, 110, 111, 112, 113, 114, 115, 116, 117, 118, 119, 120, 121, 122, 48, 49, 50, 51, 52, 53, 54, 55, 56, 57, 43, 47]⟩ : ByteArray) (ji19), bt (⟨#[65, 66, 67, 68, 69, 70, 71, 72, 73, 74, 75, 76, 77, 78, 79, 80, 81, 82, 83, 84, 85, 86, 87, 88, 89, 90, 97, 98, 99, 100, 101, 102, 103, 104, 105, 106, 107, 108, 109, 110, 111, 112, 113, 114, 115, 116, 117, 118, 119, 120, 121, 122, 48, 49, 50, 51, 52, 53, 54, 55, 56, 57, 43, 47]⟩ : ByteArray) (ji23)] : List Int) : List Int)).bind fun y138 => (if x3_1.length + y138.length < 140737488355328 then (if 3 ≤ (x0_1.length : Int) then (text_EncodeBase64.l0 k1 (x0_1.drop 3) (x3_1 ++ y138)) else (none)) else (none))) else (none)) else (none)) = some r := by first | (rw [hji23] at H; exact H) | (simp only [hji23] at H ⊢; exact H)
                              by_cases c24 : 0 ≤ (ji23)
                              · rw [if_pos c24] at H
                                have c24b0 : decide (0 ≤ (ji23)) = true := decide_eq_true c24
                                clear c24
                                by_cases c25 : (ji23) < 64
                                · rw [if_pos c25] at H
                                  have c25b0 : decide ((ji23) < 64) = true := decide_eq_true c25
                                  clear c25
                                  obtain ⟨y138, hy138⟩ : ∃ y_ : List Int, y_ = (([bt (⟨#[65, 66, 67, 68, 69, 70, 71, 72, 73, 74, 75, 76, 77, 78, 79, 80, 81, 82, 83, 84, 85, 86, 87, 88, 89, 90, 97, 98, 99, 100, 101, 102, 103, 104, 105, 106, 107, 108, 109, 110, 111, 112, 113, 114, 115, 116, 117, 118, 119, 120, 121, 122, 48, 49, 50, 51, 52, 53, 54, 55, 56, 57, 43, 47]⟩ : ByteArray) (ji11), bt (⟨#[65, 66, 67, 68, 69, 70, 71, 72, 73, 74, 75, 76, 77, 78, 79, 80, 81, 82, 83, 84, 85, 86, 87, 88, 89, 90, 97, 98, 99, 100, 101, 102, 103, 104, 105, 106, 107, 108, 109, 110, 111, 112, 113, 114, 115, 116, 117, 118, 119, 120, 121, 122, 48, 49, 50, 51, 52, 53, 54, 55, 56, 57, 43, 47]⟩ : ByteArray) (ji15), bt (⟨#[65, 66, 67, 68, 69, 70, 71, 72, 73, 74, 75, 76, 77, 78, 79, 80, 81, 82, 83, 84, 85, 86, 87, 88, 89, 90, 97, 98, 99, 100, 101, 102, 103, 104, 105, 106, 107, 108, 109, 110, 111, 112, 113, 114, 115, 116, 117, 118, 119, 120, 121, 122, 48, 49, 50, 51, 52, 53, 54, 55, 56, 57, 43, 47]⟩ : ByteArray) (ji19), bt (⟨#[65, 66, 67, 68, 69, 70, 71, 72, 73, 74, 75, 76, 77, 78, 79, 80, 81, 82, 83, 84, 85, 86, 87, 88, 89, 90, 97, 98, 99, 100, 101, 102, 103, 104, 105, 106, 107, 108, 109, 110, 111, 112, 113, 114, 115, 116, 117, 118, 119, 120, 121, 122, 48, 49, 50, 51, 52, 53, 54, 55, 56, 57, 43, 47]⟩ : ByteArray) (ji23)] : List Int)) := ⟨_, rfl⟩
                                  replace H : (if x3_1.length + y138.length < 140737488355328 then (if 3 ≤ (x0_1.length : Int) then (text_EncodeBase64.l0 k1 (x0_1.drop 3) (x3_1 ++ y138)) else (none)) else (none)) = some r := by first | (rw [hy138]; with_reducible exact H) | (have H2_ := (Option.bind_some _ _).symm.trans H; rw [hy138]; with_reducible exact H2_) | (have H2_ := (Option.bind_some _ _).symm.trans H; with_reducible exact H2_) | with_reducible exact H | (rw [hy138]; exact H) | exact H
                                  have Ny138 := Aside0.mk hy138
                                  clear hy138
                                  by_cases c27 : x3_1.length + y138.length < 140737488355328
                                  · rw [if_pos c27] at H
                                    have LMc27 := Aside0.mk c27
                                    clear c27
                                    obtain ⟨y141, hy141⟩ : ∃ y_ : List Int, y_ = (x3_1 ++ y138) := ⟨_, rfl⟩
                                    replace H : (if 3 ≤ (x0_1.length : Int) then (text_EncodeBase64.l0 k1 (x0_1.drop 3) y141) else (none)) = some r := by first | (rw [hy141]; with_reducible exact H) | (have H2_ := (Option.bind_some _ _).symm.trans H; rw [hy141]; with_reducible exact H2_) | (have H2_ := (Option.bind_some _ _).symm.trans H; with_reducible exact H2_) | with_reducible exact H | (rw [hy141]; exact H) | exact H
                                    have Ny141 := Aside0.mk hy141
                                    clear hy141
                                    by_cases c28 : 3 ≤ (x0_1.length : Int)
                                    · rw [if_pos c28] at H
                                      have c28b0 := eq_true c28
                                      have c28b1 : decide (3 ≤ (x0_1.length : Int)) = true := decide_eq_true c28
                                      clear c28
                                      obtain ⟨y144, hy144⟩ : ∃ y_ : List Int, y_ = (x0_1.drop 3) := ⟨_, rfl⟩
                                      replace H : (text_EncodeBase64.l0 k1 y144 y141) = some r := by first | (rw [hy144]; with_reducible exact H) | (have H2_ := (Option.bind_some _ _).symm.trans H; rw [hy144]; with_reducible exact H2_) | (have H2_ := (Option.bind_some _ _).symm.trans H; with_reducible exact H2_) | with_reducible exact H | (rw [hy144]; exact H) | exact H
                                      have Ny144 := Aside0.mk hy144
                                      clear hy144
                                      have H' := Aside0.mk H
                                      clear H
                                      obtain ⟨Ao29, co29, eo29⟩ := Kd.V_slice HO_0.out
                                      subst eo29
                                      try go_wp2
                                      have n0_ := Aside0.mk (Kd.V_drew HO_0.out)
                                      have n1_ := Aside0.mk (Kd.R_drew HO_3.out)
                                      have n2_ := Aside0.mk (below_drew1 HB.out)
                                      clear HO_0
                                      clear HO_3
                                      clear HB
                                      have HO_0 := n0_
                                      have HO_3 := n1_
                                      have HB := n2_
                                      clear n0_ n1_ n2_
                                      have p135 : 0 ≤ (0 : Int) := (by omega)
                                      have q135 : 0 < (x0_1.length : Int) := of_decide_eq_true (by first | (with_reducible assumption) | assumption)
                                      obtain ⟨ad135, e135, hx135_0⟩ := Kd.at_int (Kd.V_reads' HO_0.out).2.2 0 p135 q135
                                      cases e135
                                      have qi135 : (0 < x0_1.length) = True := eq_true (by omega)
                                      (try rw [show ((0 : Int)).toNat = 0 from rfl] at hx135_0)
                                      (try rw [Addr.add_zero'] at hx135_0)
                                      replace p135 := eq_true p135
                                      replace q135 := eq_true q135
                                      have p136 : 0 ≤ (1 : Int) := (by omega)
                                      have q136 : 1 < (x0_1.length : Int) := of_decide_eq_true (by first | (with_reducible assumption) | assumption)
                                      obtain ⟨ad136, e136, hx136_0⟩ := Kd.at_int (Kd.V_reads' HO_0.out).2.2 1 p136 q136
                                      obtain rfl : ad135 = ad136 := (by injection e136)
                                      (try simp only [show (1 : Int).toNat = 1 from rfl, Nat.reduceMul, Nat.reduceEqDiff, Go.Addr.add, ↓reduceIte] at hx136_0)
                                      have qi136 : (1 < x0_1.length) = True := eq_true (by omega)
                                      (try rw [show ((1 : Int)).toNat = 1 from rfl] at hx136_0)
                                      replace p136 := eq_true p136
                                      replace q136 := eq_true q136
                                      have p137 : 0 ≤ (2 : Int) := (by omega)
                                      have q137 : 2 < (x0_1.length : Int) := of_decide_eq_true (by first | (with_reducible assumption) | assumption)
                                      obtain ⟨ad137, e137, hx137_0⟩ := Kd.at_int (Kd.V_reads' HO_0.out).2.2 2 p137 q137
                                      obtain rfl : ad135 = ad137 := (by injection e137)
                                      (try simp only [show (2 : Int).toNat = 2 from rfl, Nat.reduceMul, Nat.reduceEqDiff, Go.Addr.add, ↓reduceIte] at hx137_0)
                                      have qi137 : (2 < x0_1.length) = True := eq_true (by omega)
                                      (try rw [show ((2 : Int)).toNat = 2 from rfl] at hx137_0)
                                      replace p137 := eq_true p137
                                      replace q137 := eq_true q137
                                      refine start_ (n := 17) (S := fun w' => w'.cell? ad135 = some (.int .u8 (rd x0_1 0)) ∧ w'.cell? ⟨ad135.block, ad135.off + 1, none⟩ = some (.int .u8 (rd x0_1 1)) ∧ w'.cell? ⟨ad135.block, ad135.off + 2, none⟩ = some (.int .u8 (rd x0_1 2))) (ds := []) #[false, false, false, false, false, false, false, false, false, false, false, false, false, false, false, false, false] (by kernel_rfl) rfl rfl ⟨hx135_0, hx136_0, hx137_0⟩ (fun hHeld => ?_); refine with_tabW text_EncodeBase64.tab3 text_EncodeBase64.bits3 (fun HT_ HW_ => ?_)
                                      generalize wr.drew = w30 at HO_0 HO_3 HB hx135_0 hx136_0 hx137_0 hHeld ⊢
                                      refine pure_ (i := 0) (N := some 16) (v := ?_) (a' := ?_) #[true, false, false, false, false, false, false, false, false, false, false, false, false, false, false, false, false] rfl rfl (any_of HT_.out (by kernel_rfl)) (fun _ _ _ h => h) (Or.inl ⟨by rfl, ?_⟩) ?_ ?_
                                      rotate_left
                                      · intro w'
                                        go_simp
                                        with_reducible rfl
                                      rotate_left
                                      · simp only [Act.put, List.setIfInBounds_toArray, List.set_cons_zero, List.set_cons_succ, i64_w, i32_w]
                                        rfl
                                      refine pure_ (i := 1) (N := some 17) (v := ?_) (a' := ?_) #[true, true, false, false, false, false, false, false, false, false, false, false, false, false, false, false, false] rfl rfl (any_of HT_.out (by kernel_rfl)) (fun _ _ _ h => h) (Or.inl ⟨by rfl, ?_⟩) ?_ ?_
                                      rotate_left
                                      · intro w'
                                        go_simp
                                        with_reducible rfl
                                      rotate_left
                                      · simp only [Act.put, List.setIfInBounds_toArray, List.set_cons_zero, List.set_cons_succ, i64_w, i32_w]
                                        rfl
                                      refine pure_ (i := 5) (N := some 21) (v := ?_) (a' := ?_) #[true, true, false, false, false, true, false, false, false, false, false, false, false, false, false, false, false] rfl rfl (any_of HT_.out (by kernel_rfl)) (fun _ _ _ h => h) (Or.inl ⟨by rfl, ?_⟩) ?_ ?_
                                      rotate_left
                                      · intro w'
                                        go_simp
                                        with_reducible rfl
                                      rotate_left
                                      · simp only [Act.put, List.setIfInBounds_toArray, List.set_cons_zero, List.set_cons_succ, i64_w, i32_w]
                                        rfl
                                      refine pure_ (i := 6) (N := some 22) (v := ?_) (a' := ?_) #[true, true, false, false, false, true, true, false, false, false, false, false, false, false, false, false, false] rfl rfl (any_of HT_.out (by kernel_rfl)) (fun _ _ _ h => h) (Or.inl ⟨by rfl, ?_⟩) ?_ ?_
                                      rotate_left
                                      · intro w'
                                        go_simp
                                        with_reducible rfl
                                      rotate_left
                                      · simp only [Act.put, List.setIfInBounds_toArray, List.set_cons_zero, List.set_cons_succ, i64_w, i32_w]
                                        rfl
                                      refine pure_ (i := 11) (N := some 27) (v := ?_) (a' := ?_) #[true, true, false, false, false, true, true, false, false, false, false, true, false, false, false, false, false] rfl rfl (any_of HT_.out (by kernel_rfl)) (fun _ _ _ h => h) (Or.inl ⟨by rfl, ?_⟩) ?_ ?_
                                      rotate_left
                                      · intro w'
                                        go_simp
                                        with_reducible rfl
                                      rotate_left
                                      · simp only [Act.put, List.setIfInBounds_toArray, List.set_cons_zero, List.set_cons_succ, i64_w, i32_w]
                                        rfl
                                      refine pure_ (i := 12) (N := some 28) (v := ?_) (a' := ?_) #[true, true, false, false, false, true, true, false, false, false, false, true, true, false, false, false, false] rfl rfl (any_of HT_.out (by kernel_rfl)) (fun _ _ _ h => h) (Or.inl ⟨by rfl, ?_⟩) ?_ ?_
                                      rotate_left
                                      · intro w'
                                        go_simp
                                        with_reducible rfl
                                      rotate_left
                                      · simp only [Act.put, List.setIfInBounds_toArray, List.set_cons_zero, List.set_cons_succ, i64_w, i32_w]
                                        rfl
                                      refine take_ (i := 2) (N := some 18) (v := ?_) (a' := ?_) #[true, true, true, false, false, true, true, false, false, false, false, true, true, false, false, false, false] rfl rfl (take_ofW HT_.out HW_.out (by kernel_rfl)) (fun _ _ _ h => h) (Or.inl ⟨by rfl, ?_⟩) hHeld ?_ ?_
                                      rotate_left
                                      · rintro w' ⟨s0, s1, s2⟩
                                        go_simp
                                        with_reducible rfl
                                      rotate_left
                                      · simp only [Act.put, List.setIfInBounds_toArray, List.set_cons_zero, List.set_cons_succ, i64_w, i32_w]
                                        rfl
                                      refine pure_ (i := 3) (N := some 19) (v := ?_) (a' := ?_) #[true, true, true, true, false, true, true, false, false, false, false, true, true, false, false, false, false] rfl rfl (any_of HT_.out (by kernel_rfl)) (fun _ _ _ h => h) (Or.inl ⟨by rfl, ?_⟩) ?_ ?_
                                      rotate_left
                                      · intro w'
                                        go_simp
                                        with_reducible rfl
                                      rotate_left
                                      · simp only [Act.put, List.setIfInBounds_toArray, List.set_cons_zero, List.set_cons_succ, i64_w, i32_w]
                                        rfl
                                      refine pure_ (i := 4) (N := some 20) (v := ?_) (a' := ?_) #[true, true, true, true, true, true, true, false, false, false, false, true, true, false, false, false, false] rfl rfl (any_of HT_.out (by kernel_rfl)) (fun _ _ _ h => h) (Or.inl ⟨by rfl, ?_⟩) ?_ ?_
                                      rotate_left
                                      · intro w'
                                        go_simp
                                        with_reducible rfl
                                      rotate_left
                                      · simp only [Act.put, List.setIfInBounds_toArray, List.set_cons_zero, List.set_cons_succ, i64_w, i32_w]
                                        rfl
                                      refine take_ (i := 7) (N := some 23) (v := ?_) (a' := ?_) #[true, true, true, true, true, true, true, true, false, false, false, true, true, false, false, false, false] rfl rfl (take_ofW HT_.out HW_.out (by kernel_rfl)) (fun _ _ _ h => h) (Or.inl ⟨by rfl, ?_⟩) hHeld ?_ ?_
                                      rotate_left
                                      · rintro w' ⟨s0, s1, s2⟩
                                        go_simp
                                        with_reducible rfl
                                      rotate_left
                                      · simp only [Act.put, List.setIfInBounds_toArray, List.set_cons_zero, List.set_cons_succ, i64_w, i32_w]
                                        rfl
                                      refine pure_ (i := 8) (N := some 24) (v := ?_) (a' := ?_) #[true, true, true, true, true, true, true, true, true, false, false, true, true, false, false, false, false] rfl rfl (any_of HT_.out (by kernel_rfl)) (fun _ _ _ h => h) (Or.inl ⟨by rfl, ?_⟩) ?_ ?_
                                      rotate_left
                                      · intro w'
                                        go_simp
                                        with_reducible rfl
                                      rotate_left
                                      · simp only [Act.put, List.setIfInBounds_toArray, List.set_cons_zero, List.set_cons_succ, i64_w, i32_w]
                                        rfl
                                      refine pure_ (i := 9) (N := some 25) (v := ?_) (a' := ?_) #[true, true, true, true, true, true, true, true, true, true, false, true, true, false, false, false, false] rfl rfl (any_of HT_.out (by kernel_rfl)) (fun _ _ _ h => h) (Or.inl ⟨by rfl, ?_⟩) ?_ ?_
                                      rotate_left
                                      · intro w'
                                        go_simp
                                        with_reducible rfl
                                      rotate_left
                                      · simp only [Act.put, List.setIfInBounds_toArray, List.set_cons_zero, List.set_cons_succ, i64_w, i32_w]
                                        rfl
                                      refine pure_ (i := 10) (N := some 26) (v := ?_) (a' := ?_) #[true, true, true, true, true, true, true, true, true, true, true, true, true, false, false, false, false] rfl rfl (any_of HT_.out (by kernel_rfl)) (fun _ _ _ h => h) (Or.inl ⟨by rfl, ?_⟩) ?_ ?_
                                      rotate_left
                                      · intro w'
                                        go_simp
                                        with_reducible rfl
                                      rotate_left
                                      · simp only [Act.put, List.setIfInBounds_toArray, List.set_cons_zero, List.set_cons_succ, i64_w, i32_w]
                                        rfl
                                      refine take_ (i := 13) (N := some 29) (v := ?_) (a' := ?_) #[true, true, true, true, true, true, true, true, true, true, true, true, true, true, false, false, false] rfl rfl (take_ofW HT_.out HW_.out (by kernel_rfl)) (fun _ _ _ h => h) (Or.inl ⟨by rfl, ?_⟩) hHeld ?_ ?_
                                      rotate_left
                                      · rintro w' ⟨s0, s1, s2⟩
                                        go_simp
                                        with_reducible rfl
                                      rotate_left
                                      · simp only [Act.put, List.setIfInBounds_toArray, List.set_cons_zero, List.set_cons_succ, i64_w, i32_w]
                                        rfl
                                      refine pure_ (i := 14) (N := some 30) (v := ?_) (a' := ?_) #[true, true, true, true, true, true, true, true, true, true, true, true, true, true, true, false, false] rfl rfl (any_of HT_.out (by kernel_rfl)) (fun _ _ _ h => h) (Or.inl ⟨by rfl, ?_⟩) ?_ ?_
                                      rotate_left
                                      · intro w'
                                        go_simp
                                        with_reducible rfl
                                      rotate_left
                                      · simp only [Act.put, List.setIfInBounds_toArray, List.set_cons_zero, List.set_cons_succ, i64_w, i32_w]
                                        rfl
                                      refine pure_ (i := 15) (N := some 31) (v := ?_) (a' := ?_) #[true, true, true, true, true, true, true, true, true, true, true, true, true, true, true, true, false] rfl rfl (any_of HT_.out (by kernel_rfl)) (fun _ _ _ h => h) (Or.inl ⟨by rfl, ?_⟩) ?_ ?_
                                      rotate_left
                                      · intro w'
                                        go_simp
                                        with_reducible rfl
                                      rotate_left
                                      · simp only [Act.put, List.setIfInBounds_toArray, List.set_cons_zero, List.set_cons_succ, i64_w, i32_w]
                                        rfl
                                      refine pure_ (i := 16) (N := some 4) (v := ?_) (a' := ?_) #[true, true, true, true, true, true, true, true, true, true, true, true, true, true, true, true, true] rfl rfl (any_of HT_.out (by kernel_rfl)) (fun _ _ _ h => h) (Or.inl ⟨by rfl, ?_⟩) ?_ ?_
                                      rotate_left
                                      · intro w'
                                        go_simp
                                        with_reducible rfl
                                      rotate_left
                                      · simp only [Act.put, List.setIfInBounds_toArray, List.set_cons_zero, List.set_cons_succ, i64_w, i32_w]
                                        rfl
                                      refine done_ (done_of HT_.out (by kernel_rfl)) ?_
                                      try go_wp2
                                      have n0_ := Aside0.mk (Kd.V_drew HO_0.out)
                                      have n1_ := Aside0.mk (Kd.R_drew HO_3.out)
                                      have n2_ := Aside0.mk (below_drew1 HB.out)
                                      clear HO_0
                                      clear HO_3
                                      clear HB
                                      have HO_0 := n0_
                                      have HO_3 := n1_
                                      have HB := n2_
                                      clear n0_ n1_ n2_
                                      have p14 : 0 ≤ ((ji11) : Int) := of_decide_eq_true (by first | (with_reducible assumption) | assumption)
                                      have q14 : (ji11) < (64 : Int) := of_decide_eq_true (by first | (with_reducible assumption) | assumption)
                                      have hx14 := bt_at (⟨#[65, 66, 67, 68, 69, 70, 71, 72, 73, 74, 75, 76, 77, 78, 79, 80, 81, 82, 83, 84, 85, 86, 87, 88, 89, 90, 97, 98, 99, 100, 101, 102, 103, 104, 105, 106, 107, 108, 109, 110, 111, 112, 113, 114, 115, 116, 117, 118, 119, 120, 121, 122, 48, 49, 50, 51, 52, 53, 54, 55, 56, 57, 43, 47]⟩ : ByteArray) (ji11)
                                      replace p14 := eq_true p14
                                      replace q14 := eq_true q14
                                      have p18 : 0 ≤ ((ji15) : Int) := of_decide_eq_true (by first | (with_reducible assumption) | assumption)
                                      have q18 : (ji15) < (64 : Int) := of_decide_eq_true (by first | (with_reducible assumption) | assumption)
                                      have hx18 := bt_at (⟨#[65, 66, 67, 68, 69, 70, 71, 72, 73, 74, 75, 76, 77, 78, 79, 80, 81, 82, 83, 84, 85, 86, 87, 88, 89, 90, 97, 98, 99, 100, 101, 102, 103, 104, 105, 106, 107, 108, 109, 110, 111, 112, 113, 114, 115, 116, 117, 118, 119, 120, 121, 122, 48, 49, 50, 51, 52, 53, 54, 55, 56, 57, 43, 47]⟩ : ByteArray) (ji15)
                                      replace p18 := eq_true p18
                                      replace q18 := eq_true q18
                                      have p22 : 0 ≤ ((ji19) : Int) := of_decide_eq_true (by first | (with_reducible assumption) | assumption)
                                      have q22 : (ji19) < (64 : Int) := of_decide_eq_true (by first | (with_reducible assumption) | assumption)
                                      have hx22 := bt_at (⟨#[65, 66, 67, 68, 69, 70, 71, 72, 73, 74, 75, 76, 77, 78, 79, 80, 81, 82, 83, 84, 85, 86, 87, 88, 89, 90, 97, 98, 99, 100, 101, 102, 103, 104, 105, 106, 107, 108, 109, 110, 111, 112, 113, 114, 115, 116, 117, 118, 119, 120, 121, 122, 48, 49, 50, 51, 52, 53, 54, 55, 56, 57, 43, 47]⟩ : ByteArray) (ji19)
                                      replace p22 := eq_true p22
                                      replace q22 := eq_true q22
                                      have p26 : 0 ≤ ((ji23) : Int) := of_decide_eq_true (by first | (with_reducible assumption) | assumption)
                                      have q26 : (ji23) < (64 : Int) := of_decide_eq_true (by first | (with_reducible assumption) | assumption)
                                      have hx26 := bt_at (⟨#[65, 66, 67, 68, 69, 70, 71, 72, 73, 74, 75, 76, 77, 78, 79, 80, 81, 82, 83, 84, 85, 86, 87, 88, 89, 90, 97, 98, 99, 100, 101, 102, 103, 104, 105, 106, 107, 108, 109, 110, 111, 112, 113, 114, 115, 116, 117, 118, 119, 120, 121, 122, 48, 49, 50, 51, 52, 53, 54, 55, 56, 57, 43, 47]⟩ : ByteArray) (ji23)
                                      replace p26 := eq_true p26
                                      replace q26 := eq_true q26
                                      refine start_ (n := 18) (S := fun w' => True) (ds := []) #[false, false, false, false, false, false, false, false, false, false, false, false, false, false, false, false, false, false] (by kernel_rfl) rfl rfl trivial (fun hHeld => ?_); refine with_tabW text_EncodeBase64.tab4 text_EncodeBase64.bits4 (fun HT_ HW_ => ?_)
                                      generalize w30.drew = w31 at HO_0 HO_3 HB hHeld ⊢
                                      refine pure_ (i := 0) (N := some 32) (v := ?_) (a' := ?_) #[true, false, false, false, false, false, false, false, false, false, false, false, false, false, false, false, false, false] rfl rfl (any_of HT_.out (by kernel_rfl)) (fun _ _ _ h => h) (Or.inl ⟨by rfl, ?_⟩) ?_ ?_
                                      rotate_left
                                      · intro w'
                                        go_simp
                                        with_reducible rfl
                                      rotate_left
                                      · simp only [Act.put, List.setIfInBounds_toArray, List.set_cons_zero, List.set_cons_succ, i64_w, i32_w]
                                        rfl
                                      refine pure_ (i := 1) (N := some 33) (v := ?_) (a' := ?_) #[true, true, false, false, false, false, false, false, false, false, false, false, false, false, false, false, false, false] rfl rfl (any_of HT_.out (by kernel_rfl)) (fun _ _ _ h => h) (Or.inl ⟨by rfl, ?_⟩) ?_ ?_
                                      rotate_left
                                      · intro w'
                                        go_simp
                                        with_reducible rfl
                                      rotate_left
                                      · simp only [Act.put, List.setIfInBounds_toArray, List.set_cons_zero, List.set_cons_succ, i64_w, i32_w]
                                        rfl
                                      refine pure_ (i := 2) (N := some 34) (v := ?_) (a' := ?_) #[true, true, true, false, false, false, false, false, false, false, false, false, false, false, false, false, false, false] rfl rfl (any_of HT_.out (by kernel_rfl)) (fun _ _ _ h => h) (Or.inl ⟨by rfl, ?_⟩) ?_ ?_
                                      rotate_left
                                      · intro w'
                                        go_simp
                                        with_reducible rfl
                                      rotate_left
                                      · simp only [Act.put, List.setIfInBounds_toArray, List.set_cons_zero, List.set_cons_succ, i64_w, i32_w]
                                        rfl
                                      refine pure_ (i := 4) (N := some 36) (v := ?_) (a' := ?_) #[true, true, true, false, true, false, false, false, false, false, false, false, false, false, false, false, false, false] rfl rfl (any_of HT_.out (by kernel_rfl)) (fun _ _ _ h => h) (Or.inl ⟨by rfl, ?_⟩) ?_ ?_
                                      rotate_left
                                      · intro w'
                                        go_simp
                                        with_reducible rfl
                                      rotate_left
                                      · simp only [Act.put, List.setIfInBounds_toArray, List.set_cons_zero, List.set_cons_succ, i64_w, i32_w]
                                        rfl
                                      refine pure_ (i := 5) (N := some 37) (v := ?_) (a' := ?_) #[true, true, true, false, true, true, false, false, false, false, false, false, false, false, false, false, false, false] rfl rfl (any_of HT_.out (by kernel_rfl)) (fun _ _ _ h => h) (Or.inl ⟨by rfl, ?_⟩) ?_ ?_
                                      rotate_left
                                      · intro w'
                                        go_simp
                                        with_reducible rfl
                                      rotate_left
                                      · simp only [Act.put, List.setIfInBounds_toArray, List.set_cons_zero, List.set_cons_succ, i64_w, i32_w]
                                        rfl
                                      refine pure_ (i := 6) (N := some 38) (v := ?_) (a' := ?_) #[true, true, true, false, true, true, true, false, false, false, false, false, false, false, false, false, false, false] rfl rfl (any_of HT_.out (by kernel_rfl)) (fun _ _ _ h => h) (Or.inl ⟨by rfl, ?_⟩) ?_ ?_
                                      rotate_left
                                      · intro w'
                                        go_simp
                                        with_reducible rfl
                                      rotate_left
                                      · simp only [Act.put, List.setIfInBounds_toArray, List.set_cons_zero, List.set_cons_succ, i64_w, i32_w]
                                        rfl
                                      refine pure_ (i := 8) (N := some 40) (v := ?_) (a' := ?_) #[true, true, true, false, true, true, true, false, true, false, false, false, false, false, false, false, false, false] rfl rfl (any_of HT_.out (by kernel_rfl)) (fun _ _ _ h => h) (Or.inl ⟨by rfl, ?_⟩) ?_ ?_
                                      rotate_left
                                      · intro w'
                                        go_simp
                                        with_reducible rfl
                                      rotate_left
                                      · simp only [Act.put, List.setIfInBounds_toArray, List.set_cons_zero, List.set_cons_succ, i64_w, i32_w]
                                        rfl
                                      refine pure_ (i := 9) (N := some 41) (v := ?_) (a' := ?_) #[true, true, true, false, true, true, true, false, true, true, false, false, false, false, false, false, false, false] rfl rfl (any_of HT_.out (by kernel_rfl)) (fun _ _ _ h => h) (Or.inl ⟨by rfl, ?_⟩) ?_ ?_
                                      rotate_left
                                      · intro w'
                                        go_simp
                                        with_reducible rfl
                                      rotate_left
                                      · simp only [Act.put, List.setIfInBounds_toArray, List.set_cons_zero, List.set_cons_succ, i64_w, i32_w]
                                        rfl
                                      refine pure_ (i := 10) (N := some 42) (v := ?_) (a' := ?_) #[true, true, true, false, true, true, true, false, true, true, true, false, false, false, false, false, false, false] rfl rfl (any_of HT_.out (by kernel_rfl)) (fun _ _ _ h => h) (Or.inl ⟨by rfl, ?_⟩) ?_ ?_
                                      rotate_left
                                      · intro w'
                                        go_simp
                                        with_reducible rfl
                                      rotate_left
                                      · simp only [Act.put, List.setIfInBounds_toArray, List.set_cons_zero, List.set_cons_succ, i64_w, i32_w]
                                        rfl
                                      refine pure_ (i := 12) (N := some 44) (v := ?_) (a' := ?_) #[true, true, true, false, true, true, true, false, true, true, true, false, true, false, false, false, false, false] rfl rfl (any_of HT_.out (by kernel_rfl)) (fun _ _ _ h => h) (Or.inl ⟨by rfl, ?_⟩) ?_ ?_
                                      rotate_left
                                      · intro w'
                                        go_simp
                                        with_reducible rfl
                                      rotate_left
                                      · simp only [Act.put, List.setIfInBounds_toArray, List.set_cons_zero, List.set_cons_succ, i64_w, i32_w]
                                        rfl
                                      refine pure_ (i := 13) (N := some 45) (v := ?_) (a' := ?_) #[true, true, true, false, true, true, true, false, true, true, true, false, true, true, false, false, false, false] rfl rfl (any_of HT_.out (by kernel_rfl)) (fun _ _ _ h => h) (Or.inl ⟨by rfl, ?_⟩) ?_ ?_
                                      rotate_left
                                      · intro w'
                                        go_simp
                                        with_reducible rfl
                                      rotate_left
                                      · simp only [Act.put, List.setIfInBounds_toArray, List.set_cons_zero, List.set_cons_succ, i64_w, i32_w]
                                        rfl
                                      refine take_ (i := 3) (N := some 35) (v := ?_) (a' := ?_) #[true, true, true, true, true, true, true, false, true, true, true, false, true, true, false, false, false, false] rfl rfl (take_ofW HT_.out HW_.out (by kernel_rfl)) (fun _ _ _ h => h) (Or.inl ⟨by rfl, ?_⟩) hHeld ?_ ?_
                                      rotate_left
                                      · intro w' _
                                        go_simp
                                        with_reducible rfl
                                      rotate_left
                                      · simp only [Act.put, List.setIfInBounds_toArray, List.set_cons_zero, List.set_cons_succ, i64_w, i32_w]
                                        rfl
                                      refine take_ (i := 7) (N := some 39) (v := ?_) (a' := ?_) #[true, true, true, true, true, true, true, true, true, true, true, false, true, true, false, false, false, false] rfl rfl (take_ofW HT_.out HW_.out (by kernel_rfl)) (fun _ _ _ h => h) (Or.inl ⟨by rfl, ?_⟩) hHeld ?_ ?_
                                      rotate_left
                                      · intro w' _
                                        go_simp
                                        with_reducible rfl
                                      rotate_left
                                      · simp only [Act.put, List.setIfInBounds_toArray, List.set_cons_zero, List.set_cons_succ, i64_w, i32_w]
                                        rfl
                                      refine take_ (i := 11) (N := some 43) (v := ?_) (a' := ?_) #[true, true, true, true, true, true, true, true, true, true, true, true, true, true, false, false, false, false] rfl rfl (take_ofW HT_.out HW_.out (by kernel_rfl)) (fun _ _ _ h => h) (Or.inl ⟨by rfl, ?_⟩) hHeld ?_ ?_
                                      rotate_left
                                      · intro w' _
                                        go_simp
                                        with_reducible rfl
                                      rotate_left
                                      · simp only [Act.put, List.setIfInBounds_toArray, List.set_cons_zero, List.set_cons_succ, i64_w, i32_w]
                                        rfl
                                      refine take_ (i := 14) (N := some 46) (v := ?_) (a' := ?_) #[true, true, true, true, true, true, true, true, true, true, true, true, true, true, true, false, false, false] rfl rfl (take_ofW HT_.out HW_.out (by kernel_rfl)) (fun _ _ _ h => h) (Or.inl ⟨by rfl, ?_⟩) hHeld ?_ ?_
                                      rotate_left
                                      · intro w' _
                                        go_simp
                                        with_reducible rfl
                                      rotate_left
                                      · simp only [Act.put, List.setIfInBounds_toArray, List.set_cons_zero, List.set_cons_succ, i64_w, i32_w]
                                        rfl
                                      refine one_ (i := 15) (N := some 47) #[true, true, true, true, true, true, true, true, true, true, true, true, true, true, true, true, false, false] rfl rfl (one_of HT_.out (by kernel_rfl)) (by decide) (fun K hK => ?_)
                                      refine Kd.R_lit_step (Kd.int .u8) _ 5 ?hg (N := 47) ?hd (xs := ([bt (⟨#[65, 66, 67, 68, 69, 70, 71, 72, 73, 74, 75, 76, 77, 78, 79, 80, 81, 82, 83, 84, 85, 86, 87, 88, 89, 90, 97, 98, 99, 100, 101, 102, 103, 104, 105, 106, 107, 108, 109, 110, 111, 112, 113, 114, 115, 116, 117, 118, 119, 120, 121, 122, 48, 49, 50, 51, 52, 53, 54, 55, 56, 57, 43, 47]⟩ : ByteArray) (ji11), bt (⟨#[65, 66, 67, 68, 69, 70, 71, 72, 73, 74, 75, 76, 77, 78, 79, 80, 81, 82, 83, 84, 85, 86, 87, 88, 89, 90, 97, 98, 99, 100, 101, 102, 103, 104, 105, 106, 107, 108, 109, 110, 111, 112, 113, 114, 115, 116, 117, 118, 119, 120, 121, 122, 48, 49, 50, 51, 52, 53, 54, 55, 56, 57, 43, 47]⟩ : ByteArray) (ji15), bt (⟨#[65, 66, 67, 68, 69, 70, 71, 72, 73, 74, 75, 76, 77, 78, 79, 80, 81, 82, 83, 84, 85, 86, 87, 88, 89, 90, 97, 98, 99, 100, 101, 102, 103, 104, 105, 106, 107, 108, 109, 110, 111, 112, 113, 114, 115, 116, 117, 118, 119, 120, 121, 122, 48, 49, 50, 51, 52, 53, 54, 55, 56, 57, 43, 47]⟩ : ByteArray) (ji19), bt (⟨#[65, 66, 67, 68, 69, 70, 71, 72, 73, 74, 75, 76, 77, 78, 79, 80, 81, 82, 83, 84, 85, 86, 87, 88, 89, 90, 97, 98, 99, 100, 101, 102, 103, 104, 105, 106, 107, 108, 109, 110, 111, 112, 113, 114, 115, 116, 117, 118, 119, 120, 121, 122, 48, 49, 50, 51, 52, 53, 54, 55, 56, 57, 43, 47]⟩ : ByteArray) (ji23)] : List Int)) (inner := [.int .u8 (bt (⟨#[65, 66, 67, 68, 69, 70, 71, 72, 73, 74, 75, 76, 77, 78, 79, 80, 81, 82, 83, 84, 85, 86, 87, 88, 89, 90, 97, 98, 99, 100, 101, 102, 103, 104, 105, 106, 107, 108, 109, 110, 111, 112, 113, 114, 115, 116, 117, 118, 119, 120, 121, 122, 48, 49, 50, 51, 52, 53, 54, 55, 56, 57, 43, 47]⟩ : ByteArray) (ji11)), .int .u8 (bt (⟨#[65, 66, 67, 68, 69, 70, 71, 72, 73, 74, 75, 76, 77, 78, 79, 80, 81, 82, 83, 84, 85, 86, 87, 88, 89, 90, 97, 98, 99, 100, 101, 102, 103, 104, 105, 106, 107, 108, 109, 110, 111, 112, 113, 114, 115, 116, 117, 118, 119, 120, 121, 122, 48, 49, 50, 51, 52, 53, 54, 55, 56, 57, 43, 47]⟩ : ByteArray) (ji15)), .int .u8 (bt (⟨#[65, 66, 67, 68, 69, 70, 71, 72, 73, 74, 75, 76, 77, 78, 79, 80, 81, 82, 83, 84, 85, 86, 87, 88, 89, 90, 97, 98, 99, 100, 101, 102, 103, 104, 105, 106, 107, 108, 109, 110, 111, 112, 113, 114, 115, 116, 117, 118, 119, 120, 121, 122, 48, 49, 50, 51, 52, 53, 54, 55, 56, 57, 43, 47]⟩ : ByteArray) (ji19)), .int .u8 (bt (⟨#[65, 66, 67, 68, 69, 70, 71, 72, 73, 74, 75, 76, 77, 78, 79, 80, 81, 82, 83, 84, 85, 86, 87, 88, 89, 90, 97, 98, 99, 100, 101, 102, 103, 104, 105, 106, 107, 108, 109, 110, 111, 112, 113, 114, 115, 116, 117, 118, 119, 120, 121, 122, 48, 49, 50, 51, 52, 53, 54, 55, 56, 57, 43, 47]⟩ : ByteArray) (ji23))]) (ok := fun _ => True) (okp := fun _ => True) ?hr ?hp (fun _ hk => hk) trivial (Below.refl _ _) (Nat.le_refl _) (by simp) ?_; (case hd => rfl); (case hg => rfl); (case hr => first | (go_simp; done) | (go_simp; rfl)); (case hp => exact (Reps.one (show Kd.M (Kd.int .u8) _ _ _ (bt (⟨#[65, 66, 67, 68, 69, 70, 71, 72, 73, 74, 75, 76, 77, 78, 79, 80, 81, 82, 83, 84, 85, 86, 87, 88, 89, 90, 97, 98, 99, 100, 101, 102, 103, 104, 105, 106, 107, 108, 109, 110, 111, 112, 113, 114, 115, 116, 117, 118, 119, 120, 121, 122, 48, 49, 50, 51, 52, 53, 54, 55, 56, 57, 43, 47]⟩ : ByteArray) (ji11)) [.int .u8 (bt (⟨#[65, 66, 67, 68, 69, 70, 71, 72, 73, 74, 75, 76, 77, 78, 79, 80, 81, 82, 83, 84, 85, 86, 87, 88, 89, 90, 97, 98, 99, 100, 101, 102, 103, 104, 105, 106, 107, 108, 109, 110, 111, 112, 113, 114, 115, 116, 117, 118, 119, 120, 121, 122, 48, 49, 50, 51, 52, 53, 54, 55, 56, 57, 43, 47]⟩ : ByteArray) (ji11))] from rfl) (Reps.one (show Kd.M (Kd.int .u8) _ _ _ (bt (⟨#[65, 66, 67, 68, 69, 70, 71, 72, 73, 74, 75, 76, 77, 78, 79, 80, 81, 82, 83, 84, 85, 86, 87, 88, 89, 90, 97, 98, 99, 100, 101, 102, 103, 104, 105, 106, 107, 108, 109, 110, 111, 112, 113, 114, 115, 116, 117, 118, 119, 120, 121, 122, 48, 49, 50, 51, 52, 53, 54, 55, 56, 57, 43, 47]⟩ : ByteArray) (ji15)) [.int .u8 (bt (⟨#[65, 66, 67, 68, 69, 70, 71, 72, 73, 74, 75, 76, 77, 78, 79, 80, 81, 82, 83, 84, 85, 86, 87, 88, 89, 90, 97, 98, 99, 100, 101, 102, 103, 104, 105, 106, 107, 108, 109, 110, 111, 112, 113, 114, 115, 116, 117, 118, 119, 120, 121, 122, 48, 49, 50, 51, 52, 53, 54, 55, 56, 57, 43, 47]⟩ : ByteArray) (ji15))] from rfl) (Reps.one (show Kd.M (Kd.int .u8) _ _ _ (bt (⟨#[65, 66, 67, 68, 69, 70, 71, 72, 73, 74, 75, 76, 77, 78, 79, 80, 81, 82, 83, 84, 85, 86, 87, 88, 89, 90, 97, 98, 99, 100, 101, 102, 103, 104, 105, 106, 107, 108, 109, 110, 111, 112, 113, 114, 115, 116, 117, 118, 119, 120, 121, 122, 48, 49, 50, 51, 52, 53, 54, 55, 56, 57, 43, 47]⟩ : ByteArray) (ji19)) [.int .u8 (bt (⟨#[65, 66, 67, 68, 69, 70, 71, 72, 73, 74, 75, 76, 77, 78, 79, 80, 81, 82, 83, 84, 85, 86, 87, 88, 89, 90, 97, 98, 99, 100, 101, 102, 103, 104, 105, 106, 107, 108, 109, 110, 111, 112, 113, 114, 115, 116, 117, 118, 119, 120, 121, 122, 48, 49, 50, 51, 52, 53, 54, 55, 56, 57, 43, 47]⟩ : ByteArray) (ji19))] from rfl) (Reps.one (show Kd.M (Kd.int .u8) _ _ _ (bt (⟨#[65, 66, 67, 68, 69, 70, 71, 72, 73, 74, 75, 76, 77, 78, 79, 80, 81, 82, 83, 84, 85, 86, 87, 88, 89, 90, 97, 98, 99, 100, 101, 102, 103, 104, 105, 106, 107, 108, 109, 110, 111, 112, 113, 114, 115, 116, 117, 118, 119, 120, 121, 122, 48, 49, 50, 51, 52, 53, 54, 55, 56, 57, 43, 47]⟩ : ByteArray) (ji23)) [.int .u8 (bt (⟨#[65, 66, 67, 68, 69, 70, 71, 72, 73, 74, 75, 76, 77, 78, 79, 80, 81, 82, 83, 84, 85, 86, 87, 88, 89, 90, 97, 98, 99, 100, 101, 102, 103, 104, 105, 106, 107, 108, 109, 110, 111, 112, 113, 114, 115, 116, 117, 118, 119, 120, 121, 122, 48, 49, 50, 51, 52, 53, 54, 55, 56, 57, 43, 47]⟩ : ByteArray) (ji23))] from rfl) (Reps.none _ _))))))
                                      intro v139 w32 ho33 hb hg_ hnew_
                                      clear hg_ hnew_
                                      (first | rw [← Ny138.out] at ho33 | (simp only [Int.reduceToNat] at ho33; rw [← Ny138.out] at ho33))
                                      have n0_ := Aside0.mk (Kd.V_elder' (by (with_reducible repeat (first | apply Kd.V_alloc | apply Kd.V_drewN | apply Kd.V_drew)); exact HO_0.out) (Kd.R_base ho33) hb)
                                      have n1_ := Aside0.mk (Kd.R_elder' (by (with_reducible repeat (first | apply Kd.R_alloc | apply Kd.R_drewN | apply Kd.R_drew)); exact HO_3.out) (Kd.R_base ho33) hb)
                                      have n2_ := Aside0.mk (Kd.R_lower (Kd.R_new' (Kd.R_newM (M := fun k_ => (w.heap.size ≤ k_)) ho33 (below_size (by repeat (first | (with_reducible first | exact HB.out | apply below_alloc | apply pw_below_drewN | apply below_drew1) | exact HB.out))) (fun k_ h_ => h_)) (Kd.R_lt (by (with_reducible repeat (first | apply Kd.R_alloc | apply Kd.R_drewN | apply Kd.R_drew)); exact HO_3.out))) (below_size (by repeat (first | (with_reducible first | exact HB.out | apply below_alloc | apply pw_below_drewN | apply below_drew1) | exact HB.out))))
                                      have n3_ := Aside0.mk (below_step (by repeat (first | (with_reducible first | exact HB.out | apply below_alloc | apply pw_below_drewN | apply below_drew1) | exact HB.out)) hb)
                                      clear HO_0
                                      clear HO_3
                                      clear HB
                                      have HO_0 := n0_
                                      have HO_3 := n1_
                                      have HO140 := n2_
                                      have HB := n3_
                                      clear n0_ n1_ n2_ n3_
                                      clear hb ho33
                                      obtain ⟨Ao35, co35, eo35⟩ := Kd.R_slice HO140.out
                                      (first | subst eo35 | (injection eo35 with f1_ f2_ f3_; have f4_ := f1_.symm; have f5_ := f3_.symm; clear f1_ f2_ f3_; subst f4_; subst f5_))
                                      refine hK.out _ _ trivial (fun hHeld => ?_)
                                      clear hK K
                                      refine norm_ (a' := ?_) ?_ ?_
                                      rotate_left
                                      · show Act.put _ (some 47) _ = _
                                        simp only [Act.put, List.setIfInBounds_toArray, List.set_cons_zero, List.set_cons_succ, i64_w, i32_w]
                                        rfl
                                      refine one_ (i := 16) (N := some 48) #[true, true, true, true, true, true, true, true, true, true, true, true, true, true, true, true, true, false] rfl rfl (one_of HT_.out (by kernel_rfl)) (by decide) (fun K hK => ?_)
                                      refine Kd.R_append_rows_step (Kd.int .u8) (w0 := w) w.heap.size (by rfl) (.tmp 32) (.tmp 47) 22 5 (.int .u8 0) 1 rfl Tryd.underlying22 info5 rfl (by decide) (by omega) u3 x3_1 y138 _ _ _ (fun k_ => (w.heap.size ≤ k_) ∧ some k_ ≠ (.slice Ao35 y138.length co35 : Value).ownBlock) (fun _ => False) rfl rfl ?aO ?aR (fun _ _ h => h) (fun _ h => h.elim) ?aF ?aB ?aS ?aL ?_
                                      (case aR => repeat (first | exact (Kd.R_reads' HO140.out).2.2 | (with_reducible refine Kd.C_alloc ?_ _) | (with_reducible refine Kd.C_drewN ?_ _) | (with_reducible refine Kd.C_drew ?_)))
                                      (case aB => exact (by repeat (first | (with_reducible first | exact HB.out | apply below_alloc | apply pw_below_drewN | apply below_drew1) | exact HB.out)))
                                      (case aF => exact (fun k_ hk => ⟨(Nat.le_trans (below_size (by repeat (first | (with_reducible first | exact HB.out | apply below_alloc | apply pw_below_drewN | apply below_drew1) | exact HB.out))) hk), Kd.fresh' (Kd.R_lt (by (with_reducible repeat (first | apply Kd.R_alloc | apply Kd.R_drewN | apply Kd.R_drew)); exact HO140.out)) k_ hk⟩))
                                      (case aO => exact (by (with_reducible repeat (first | apply Kd.R_alloc | apply Kd.R_drewN | apply Kd.R_drew)); exact HO_3.out))
                                      (case aS => exact (below_size (by repeat (first | (with_reducible first | exact HB.out | apply below_alloc | apply pw_below_drewN | apply below_drew1) | exact HB.out))))
                                      (case aL => have := LMc27.out; omega)
                                      intro v142 w34 ho hb hg hat
                                      rw [← Ny141.out] at ho
                                      have n0_ := Aside0.mk (Kd.V_afterv (ok := (fun k_ => (P0_ k_ ∨ w.heap.size ≤ k_) ∧ some k_ ≠ (.slice Ao35 y138.length co35 : Value).ownBlock)) (by (with_reducible repeat (first | apply Kd.V_alloc | apply Kd.V_drewN | apply Kd.V_drew)); exact Kd.V_mono HO_0.out (fun _ hk => ⟨⟨hk.1.1, hk.2⟩, hk.1.2⟩)) hg hat)
                                      have n1_ := Aside0.mk (Kd.R_after (ok := (fun k_ => (w.heap.size ≤ k_))) (by (with_reducible repeat (first | apply Kd.R_alloc | apply Kd.R_drewN | apply Kd.R_drew)); exact Kd.R_mono HO140.out (fun _ hk => ⟨hk.1.1, hk.2⟩)) hg hat)
                                      have n2_ := Aside0.mk (hb)
                                      have n3_ := Aside0.mk (ho)
                                      clear HO_0
                                      clear HO140
                                      clear HB
                                      clear HO_3
                                      have HO_0 := n0_
                                      have HO140 := n1_
                                      have HB := n2_
                                      have HO143 := n3_
                                      clear n0_ n1_ n2_ n3_
                                      clear ho hb hg hat
                                      refine hK.out _ _ trivial (fun hHeld => ?_)
                                      clear hK K
                                      refine norm_ (a' := ?_) ?_ ?_
                                      rotate_left
                                      · show Act.put _ (some 48) _ = _
                                        simp only [Act.put, List.setIfInBounds_toArray, List.set_cons_zero, List.set_cons_succ, i64_w, i32_w]
                                        rfl
                                      refine pure_ (i := 17) (N := some 3) (v := ?_) (a' := ?_) #[true, true, true, true, true, true, true, true, true, true, true, true, true, true, true, true, true, true] rfl rfl (any_of HT_.out (by kernel_rfl)) (fun _ _ _ h => h) (Or.inl ⟨by rfl, ?_⟩) ?_ ?_
                                      rotate_left
                                      · intro w'
                                        go_simp
                                        with_reducible rfl
                                      rotate_left
                                      · simp only [Act.put, List.setIfInBounds_toArray, List.set_cons_zero, List.set_cons_succ, i64_w, i32_w]
                                        rfl
                                      refine done_ (done_of HT_.out (by kernel_rfl)) ?_
                                      have q36 : (3 : Int) ≤ ((x0_1.length : Int) : Int) := of_decide_eq_true (by first | (with_reducible assumption) | assumption)
                                      obtain ⟨i036, hi036, _, hsz36, _⟩ := info_parts info5
                                      have hroom36 : x0_1.length ≤ co29 := (Kd.V_reads' HO_0.out).2.1
                                      have hC36 : Kd.F (Kd.int .u8) _ _ (some ad135) x0_1.length x0_1 := (Kd.V_at (base := w.heap.size) HO_0.out).2.2
                                      have hcut36 := cut_from (P := Tryd.prog) 22 5 .i64 Tryd.underlying22 hi036 1 hsz36 (some ad135) x0_1.length co29 3 (by omega) q36
                                      have hr36 := Kd.F_cut (m := (3 : Int).toNat) (c := co29) hC36 (by omega) hroom36
                                      obtain ⟨A36, hA36⟩ : ∃ A1, A1 = (if co29 = (3 : Int).toNat then (some ad135) else ((some ad135) : Option Addr).map (·.add ((3 : Int).toNat * 1))) := ⟨_, rfl⟩
                                      obtain ⟨c36, hc36⟩ : ∃ c1, c1 = co29 - (3 : Int).toNat := ⟨_, rfl⟩
                                      have hy36 : y144.length = x0_1.length - (3 : Int).toNat := (by rw [Ny144.out, List.length_drop] <;> omega)
                                      rw [show (x0_1).drop (3 : Int).toNat = y144 from Ny144.out.symm] at hr36
                                      replace hr36 : Kd.F (Kd.int .u8) _ _ A36 y144.length y144 := (by rw [hA36]; exact hr36)
                                      rw [← hy36, ← hA36, ← hc36] at hcut36
                                      have HO148 := Aside0.mk (show Kd.V (Kd.int .u8) 5 _ w.heap.size _ (.slice A36 y144.length c36) y144 from Kd.V_mk (by rw [hy36, hc36]; exact Nat.sub_le_sub_right hroom36 _) hr36)
                                      have HC148 := Aside0.mk (show y144.length ≤ c36 from by rw [hy36, hc36]; exact Nat.sub_le_sub_right hroom36 _)
                                      clear hr36 hC36 hroom36 hi036 hsz36 hc36
                                      have KY36 := Aside0.mk hy36
                                      have KA36 := Aside0.mk hA36
                                      clear hy36 hA36
                                      replace q36 := eq_true q36
                                      try go_wp2
                                      go_roundg k1
                                      case measure => have := HK1.out; omega
                                      case rel => exact ⟨(y144), (y141), H', ⟨by have := HK1.out; omega⟩, ⟨by (with_reducible repeat (first | apply Kd.V_alloc | apply Kd.V_drewN | apply Kd.V_drew)); exact Kd.V_mono HO148.out (fun _ hk => ⟨hk.1.1, hk.2⟩)⟩, ⟨by (with_reducible repeat (first | apply Kd.R_alloc | apply Kd.R_drewN | apply Kd.R_drew)); exact Kd.R_mono HO143.out (fun _ hk => hk.1)⟩, ⟨by repeat (first | (with_reducible first | exact HB.out | apply below_alloc | apply pw_below_drewN | apply below_drew1) | exact HB.out)⟩⟩
                                    · rw [if_neg c28] at H
                                      exact absurd H (by simp)
                                  · rw [if_neg c27] at H
                                    exact absurd H (by simp)
                                · rw [if_neg c25] at H
                                  exact absurd H (by simp)
                              · rw [if_neg c24] at H
                                exact absurd H (by simp)
                            · rw [if_neg c21] at H
                              exact absurd H (by simp)
                          · rw [if_neg c20] at H
                            exact absurd H (by simp)
                        · rw [if_neg c17] at H
                          exact absurd H (by simp)
                      · rw [if_neg c16] at H
                        exact absurd H (by simp)
                    · rw [if_neg c13] at H
                      exact absurd H (by simp)
                  · rw [if_neg c12] at H
                    exact absurd H (by simp)
                · rw [if_neg c10] at H
                  exact absurd H (by simp)
              · rw [if_neg c9] at H
                exact absurd H (by simp)
            · rw [if_neg c8] at H
              exact absurd H (by simp)
          · rw [if_neg c7] at H
            have c7b0 : decide (3 ≤ (x0_1.length : Int)) = false := decide_eq_false c7
            have c7b1 : decide (3 ≤ x0_1.length) = false := decide_eq_false (by omega)
            clear c7
            by_cases c37 : (x0_1.length : Int) = 1
            · rw [if_pos c37] at H
              have c37b0 : ((x0_1.length : Int) == 1) = true := beq_iff_eq.mpr c37
              have c37b1 : ((x0_1.length : Int) != 1) = false := bne_eq_false_iff_eq.mpr c37
              clear c37
              by_cases c38 : 0 < (x0_1.length : Int)
              · rw [if_pos c38] at H
                have c38b0 : decide (0 < (x0_1.length : Int)) = true := decide_eq_true c38
                have c38b1 : decide (0 < x0_1.length) = true := decide_eq_true (by omega)
                clear c38
                obtain ⟨ji39, hji39⟩ : ∃ j_ : Int, ((wrap64 ((wrap64 (rd x0_1 0)) * 65536)) / 262144) = j_ := ⟨_, rfl⟩
                replace H : (if 0 ≤ (ji39) then (if (ji39) < 64 then (if 0 ≤ (Go.bits .and .i64 ((wrap64 ((wrap64 (rd x0_1 0)) * 65536)) / 4096) 63) then (if (Go.bits .and .i64 ((wrap64 ((wrap64 (rd x0_1 0)) * 65536)) / 4096) 63) < 64 then ((some (([bt (⟨#[65, 66, 67, 68, 69, 70, 71, 72, 73, 74, 75, 76, 77, 78, 79, 80, 81, 82, 83, 84, 85, 86, 87, 88, 89, 90, 97, 98, 99, 100, 101, 102, 103, 104, 105, 106, 107, 108, 109, 110, 111, 112, 113, 114, 115, 116, 117, 118, 119, 120, 121, 122, 48, 49, 50, 51, 52, 53, 54, 55, 56, 57, 43, 47]⟩ : ByteArray) (ji39), bt (⟨#[65, 66, 67, 68, 69, 70, 71, 72, 73, 74, 75, 76, 77, 78, 79, 80, 81, 82, 83, 84, 85, 86, 87, 88, 89, 90, 97, 98, 99, 100, 101, 102, 103, 104, 105, 106, 107, 108, 109, 110, 111, 112, 113, 114, 115, 116, 117, 118, 119, 120, 121, 122, 48, 49, 50, 51, 52, 53, 54, 55, 56, 57, 43, 47]⟩ : ByteArray) (Go.bits .and .i64 ((wrap64 ((wrap64 (rd x0_1 0)) * 65536)) / 4096) 63), 61, 61] : List Int) : List Int)).bind fun y150 => (if x3_1.length + y150.length < 140737488355328 then (some (strOfNums (x3_1 ++ y150))) else (none))) else (none)) else (none)) else (none)) else (none)) = some r := by first | (rw [hji39] at H; exact H) | (simp only [hji39] at H ⊢; exact H)
                by_cases c40 : 0 ≤ (ji39)
                · rw [if_pos c40] at H
                  have c40b0 : decide (0 ≤ (ji39)) = true := decide_eq_true c40
                  clear c40
                  by_cases c41 : (ji39) < 64
                  · rw [if_pos c41] at H
                    have c41b0 : decide ((ji39) < 64) = true := decide_eq_true c41
                    clear c41
                    obtain ⟨ji43, hji43⟩ : ∃ j_ : Int, (Go.bits .and .i64 ((wrap64 ((wrap64 (rd x0_1 0)) * 65536)) / 4096) 63) = j_ := ⟨_, rfl⟩
                    replace H : (if 0 ≤ (ji43) then (if (ji43) < 64 then ((some (([bt (⟨#[65, 66, 67, 68, 69, 70, 71, 72, 73, 74, 75, 76, 77, 78, 79, 80, 81, 82, 83, 84, 85, 86, 87, 88, 89, 90, 97, 98, 99, 100, 101, 102, 103, 104, 105, 106, 107, 108, 109, 110, 111, 112, 113, 114, 115, 116, 117, 118, 119, 120, 121, 122, 48, 49, 50, 51, 52, 53, 54, 55, 56, 57, 43, 47]⟩ : ByteArray) (ji39), bt (⟨#[65, 66, 67, 68, 69, 70, 71, 72, 73, 74, 75, 76, 77, 78, 79, 80, 81, 82, 83, 84, 85, 86, 87, 88, 89, 90, 97, 98, 99, 100, 101, 102, 103, 104, 105, 106, 107, 108, 109, 110, 111, 112, 113, 114, 115, 116, 117, 118, 119, 120, 121, 122, 48, 49, 50, 51, 52, 53, 54, 55, 56, 57, 43, 47]⟩ : ByteArray) (ji43), 61, 61] : List Int) : List Int)).bind fun y150 => (if x3_1.length + y150.length < 140737488355328 then (some (strOfNums (x3_1 ++ y150))) else (none))) else (none)) else (none)) = some r := by first | (rw [hji43] at H; exact H) | (simp only [hji43] at H ⊢; exact H)
                    by_cases c44 : 0 ≤ (ji43)
                    · rw [if_pos c44] at H
                      have c44b0 : decide (0 ≤ (ji43)) = true := decide_eq_true c44
                      clear c44
                      by_cases c45 : (ji43) < 64
                      · rw [if_pos c45] at H
                        have c45b0 : decide ((ji43) < 64) = true := decide_eq_true c45
                        clear c45
                        obtain ⟨y150, hy150⟩ : ∃ y_ : List Int, y_ = (([bt (⟨#[65, 66, 67, 68, 69, 70, 71, 72, 73, 74, 75, 76, 77, 78, 79, 80, 81, 82, 83, 84, 85, 86, 87, 88, 89, 90, 97, 98, 99, 100, 101, 102, 103, 104, 105, 106, 107, 108, 109, 110, 111, 112, 113, 114, 115, 116, 117, 118, 119, 120, 121, 122, 48, 49, 50, 51, 52, 53, 54, 55, 56, 57, 43, 47]⟩ : ByteArray) (ji39), bt (⟨#[65, 66, 67, 68, 69, 70, 71, 72, 73, 74, 75, 76, 77, 78, 79, 80, 81, 82, 83, 84, 85, 86, 87, 88, 89, 90, 97, 98, 99, 100, 101, 102, 103, 104, 105, 106, 107, 108, 109, 110, 111, 112, 113, 114, 115, 116, 117, 118, 119, 120, 121, 122, 48, 49, 50, 51, 52, 53, 54, 55, 56, 57, 43, 47]⟩ : ByteArray) (ji43), 61, 61] : List Int)) := ⟨_, rfl⟩
                        replace H : (if x3_1.length + y150.length < 140737488355328 then (some (strOfNums (x3_1 ++ y150))) else (none)) = some r := by first | (rw [hy150]; with_reducible exact H) | (have H2_ := (Option.bind_some _ _).symm.trans H; rw [hy150]; with_reducible exact H2_) | (have H2_ := (Option.bind_some _ _).symm.trans H; with_reducible exact H2_) | with_reducible exact H | (rw [hy150]; exact H) | exact H
                        have Ny150 := Aside0.mk hy150
                        clear hy150
                        by_cases c47 : x3_1.length + y150.length < 140737488355328
                        · rw [if_pos c47] at H
                          have LMc47 := Aside0.mk c47
                          clear c47
                          obtain ⟨y153, hy153⟩ : ∃ y_ : List Int, y_ = (x3_1 ++ y150) := ⟨_, rfl⟩
                          replace H : (some (strOfNums y153)) = some r := by first | (rw [hy153]; with_reducible exact H) | (have H2_ := (Option.bind_some _ _).symm.trans H; rw [hy153]; with_reducible exact H2_) | (have H2_ := (Option.bind_some _ _).symm.trans H; with_reducible exact H2_) | with_reducible exact H | (rw [hy153]; exact H) | exact H
                          have Ny153 := Aside0.mk hy153
                          clear hy153
                          obtain rfl := Option.some.inj H
                          obtain ⟨Ao48, co48, eo48⟩ := Kd.V_slice HO_0.out
                          subst eo48
                          have p149 : 0 ≤ (0 : Int) := (by omega)
                          have q149 : 0 < (x0_1.length : Int) := of_decide_eq_true (by first | (with_reducible assumption) | assumption)
                          obtain ⟨ad149, e149, hx149_0⟩ := Kd.at_int (Kd.V_reads' HO_0.out).2.2 0 p149 q149
                          cases e149
                          have qi149 : (0 < x0_1.length) = True := eq_true (by omega)
                          (try rw [show ((0 : Int)).toNat = 0 from rfl] at hx149_0)
                          (try rw [Addr.add_zero'] at hx149_0)
                          replace p149 := eq_true p149
                          replace q149 := eq_true q149
                          try go_wp2
                          have n0_ := Aside0.mk (Kd.V_drew HO_0.out)
                          have n1_ := Aside0.mk (Kd.R_drew HO_3.out)
                          have n2_ := Aside0.mk (below_drew1 HB.out)
                          clear HO_0
                          clear HO_3
                          clear HB
                          have HO_0 := n0_
                          have HO_3 := n1_
                          have HB := n2_
                          clear n0_ n1_ n2_
                          have p42 : 0 ≤ ((ji39) : Int) := of_decide_eq_true (by first | (with_reducible assumption) | assumption)
                          have q42 : (ji39) < (64 : Int) := of_decide_eq_true (by first | (with_reducible assumption) | assumption)
                          have hx42 := bt_at (⟨#[65, 66, 67, 68, 69, 70, 71, 72, 73, 74, 75, 76, 77, 78, 79, 80, 81, 82, 83, 84, 85, 86, 87, 88, 89, 90, 97, 98, 99, 100, 101, 102, 103, 104, 105, 106, 107, 108, 109, 110, 111, 112, 113, 114, 115, 116, 117, 118, 119, 120, 121, 122, 48, 49, 50, 51, 52, 53, 54, 55, 56, 57, 43, 47]⟩ : ByteArray) (ji39)
                          replace p42 := eq_true p42
                          replace q42 := eq_true q42
                          have p46 : 0 ≤ ((ji43) : Int) := of_decide_eq_true (by first | (with_reducible assumption) | assumption)
                          have q46 : (ji43) < (64 : Int) := of_decide_eq_true (by first | (with_reducible assumption) | assumption)
                          have hx46 := bt_at (⟨#[65, 66, 67, 68, 69, 70, 71, 72, 73, 74, 75, 76, 77, 78, 79, 80, 81, 82, 83, 84, 85, 86, 87, 88, 89, 90, 97, 98, 99, 100, 101, 102, 103, 104, 105, 106, 107, 108, 109, 110, 111, 112, 113, 114, 115, 116, 117, 118, 119, 120, 121, 122, 48, 49, 50, 51, 52, 53, 54, 55, 56, 57, 43, 47]⟩ : ByteArray) (ji43)
                          replace p46 := eq_true p46
                          replace q46 := eq_true q46
                          refine start_ (n := 11) (S := fun w' => True) (ds := []) #[false, false, false, false, false, false, false, false, false, false, false] (by kernel_rfl) rfl rfl trivial (fun hHeld => ?_); refine with_tabW text_EncodeBase64.tab9 text_EncodeBase64.bits9 (fun HT_ HW_ => ?_)
                          generalize wr.drew = w49 at HO_0 HO_3 HB hHeld ⊢
                          refine pure_ (i := 0) (N := some 60) (v := ?_) (a' := ?_) #[true, false, false, false, false, false, false, false, false, false, false] rfl rfl (any_of HT_.out (by kernel_rfl)) (fun _ _ _ h => h) (Or.inl ⟨by rfl, ?_⟩) ?_ ?_
                          rotate_left
                          · intro w'
                            go_simp
                            with_reducible rfl
                          rotate_left
                          · simp only [Act.put, List.setIfInBounds_toArray, List.set_cons_zero, List.set_cons_succ, i64_w, i32_w]
                            rfl
                          refine pure_ (i := 1) (N := some 61) (v := ?_) (a' := ?_) #[true, true, false, false, false, false, false, false, false, false, false] rfl rfl (any_of HT_.out (by kernel_rfl)) (fun _ _ _ h => h) (Or.inl ⟨by rfl, ?_⟩) ?_ ?_
                          rotate_left
                          · intro w'
                            go_simp
                            with_reducible rfl
                          rotate_left
                          · simp only [Act.put, List.setIfInBounds_toArray, List.set_cons_zero, List.set_cons_succ, i64_w, i32_w]
                            rfl
                          refine pure_ (i := 2) (N := some 62) (v := ?_) (a' := ?_) #[true, true, true, false, false, false, false, false, false, false, false] rfl rfl (any_of HT_.out (by kernel_rfl)) (fun _ _ _ h => h) (Or.inl ⟨by rfl, ?_⟩) ?_ ?_
                          rotate_left
                          · intro w'
                            go_simp
                            with_reducible rfl
                          rotate_left
                          · simp only [Act.put, List.setIfInBounds_toArray, List.set_cons_zero, List.set_cons_succ, i64_w, i32_w]
                            rfl
                          refine pure_ (i := 4) (N := some 64) (v := ?_) (a' := ?_) #[true, true, true, false, true, false, false, false, false, false, false] rfl rfl (any_of HT_.out (by kernel_rfl)) (fun _ _ _ h => h) (Or.inl ⟨by rfl, ?_⟩) ?_ ?_
                          rotate_left
                          · intro w'
                            go_simp
                            with_reducible rfl
                          rotate_left
                          · simp only [Act.put, List.setIfInBounds_toArray, List.set_cons_zero, List.set_cons_succ, i64_w, i32_w]
                            rfl
                          refine pure_ (i := 5) (N := some 65) (v := ?_) (a' := ?_) #[true, true, true, false, true, true, false, false, false, false, false] rfl rfl (any_of HT_.out (by kernel_rfl)) (fun _ _ _ h => h) (Or.inl ⟨by rfl, ?_⟩) ?_ ?_
                          rotate_left
                          · intro w'
                            go_simp
                            with_reducible rfl
                          rotate_left
                          · simp only [Act.put, List.setIfInBounds_toArray, List.set_cons_zero, List.set_cons_succ, i64_w, i32_w]
                            rfl
                          refine pure_ (i := 6) (N := some 66) (v := ?_) (a' := ?_) #[true, true, true, false, true, true, true, false, false, false, false] rfl rfl (any_of HT_.out (by kernel_rfl)) (fun _ _ _ h => h) (Or.inl ⟨by rfl, ?_⟩) ?_ ?_
                          rotate_left
                          · intro w'
                            go_simp
                            with_reducible rfl
                          rotate_left
                          · simp only [Act.put, List.setIfInBounds_toArray, List.set_cons_zero, List.set_cons_succ, i64_w, i32_w]
                            rfl
                          refine take_ (i := 3) (N := some 63) (v := ?_) (a' := ?_) #[true, true, true, true, true, true, true, false, false, false, false] rfl rfl (take_ofW HT_.out HW_.out (by kernel_rfl)) (fun _ _ _ h => h) (Or.inl ⟨by rfl, ?_⟩) hHeld ?_ ?_
                          rotate_left
                          · intro w' _
                            go_simp
                            with_reducible rfl
                          rotate_left
                          · simp only [Act.put, List.setIfInBounds_toArray, List.set_cons_zero, List.set_cons_succ, i64_w, i32_w]
                            rfl
                          refine take_ (i := 7) (N := some 67) (v := ?_) (a' := ?_) #[true, true, true, true, true, true, true, true, false, false, false] rfl rfl (take_ofW HT_.out HW_.out (by kernel_rfl)) (fun _ _ _ h => h) (Or.inl ⟨by rfl, ?_⟩) hHeld ?_ ?_
                          rotate_left
                          · intro w' _
                            go_simp
                            with_reducible rfl
                          rotate_left
                          · simp only [Act.put, List.setIfInBounds_toArray, List.set_cons_zero, List.set_cons_succ, i64_w, i32_w]
                            rfl
                          refine one_ (i := 8) (N := some 68) #[true, true, true, true, true, true, true, true, true, false, false] rfl rfl (one_of HT_.out (by kernel_rfl)) (by decide) (fun K hK => ?_)
                          refine Kd.R_lit_step (Kd.int .u8) _ 5 ?hg (N := 68) ?hd (xs := ([bt (⟨#[65, 66, 67, 68, 69, 70, 71, 72, 73, 74, 75, 76, 77, 78, 79, 80, 81, 82, 83, 84, 85, 86, 87, 88, 89, 90, 97, 98, 99, 100, 101, 102, 103, 104, 105, 106, 107, 108, 109, 110, 111, 112, 113, 114, 115, 116, 117, 118, 119, 120, 121, 122, 48, 49, 50, 51, 52, 53, 54, 55, 56, 57, 43, 47]⟩ : ByteArray) (ji39), bt (⟨#[65, 66, 67, 68, 69, 70, 71, 72, 73, 74, 75, 76, 77, 78, 79, 80, 81, 82, 83, 84, 85, 86, 87, 88, 89, 90, 97, 98, 99, 100, 101, 102, 103, 104, 105, 106, 107, 108, 109, 110, 111, 112, 113, 114, 115, 116, 117, 118, 119, 120, 121, 122, 48, 49, 50, 51, 52, 53, 54, 55, 56, 57, 43, 47]⟩ : ByteArray) (ji43), 61, 61] : List Int)) (inner := [.int .u8 (bt (⟨#[65, 66, 67, 68, 69, 70, 71, 72, 73, 74, 75, 76, 77, 78, 79, 80, 81, 82, 83, 84, 85, 86, 87, 88, 89, 90, 97, 98, 99, 100, 101, 102, 103, 104, 105, 106, 107, 108, 109, 110, 111, 112, 113, 114, 115, 116, 117, 118, 119, 120, 121, 122, 48, 49, 50, 51, 52, 53, 54, 55, 56, 57, 43, 47]⟩ : ByteArray) (ji39)), .int .u8 (bt (⟨#[65, 66, 67, 68, 69, 70, 71, 72, 73, 74, 75, 76, 77, 78, 79, 80, 81, 82, 83, 84, 85, 86, 87, 88, 89, 90, 97, 98, 99, 100, 101, 102, 103, 104, 105, 106, 107, 108, 109, 110, 111, 112, 113, 114, 115, 116, 117, 118, 119, 120, 121, 122, 48, 49, 50, 51, 52, 53, 54, 55, 56, 57, 43, 47]⟩ : ByteArray) (ji43)), .int .u8 61, .int .u8 61]) (ok := fun _ => True) (okp := fun _ => True) ?hr ?hp (fun _ hk => hk) trivial (Below.refl _ _) (Nat.le_refl _) (by simp) ?_; (case hd => rfl); (case hg => rfl); (case hr => first | (go_simp; done) | (go_simp; rfl)); (case hp => exact (Reps.one (show Kd.M (Kd.int .u8) _ _ _ (bt (⟨#[65, 66, 67, 68, 69, 70, 71, 72, 73, 74, 75, 76, 77, 78, 79, 80, 81, 82, 83, 84, 85, 86, 87, 88, 89, 90, 97, 98, 99, 100, 101, 102, 103, 104, 105, 106, 107, 108, 109, 110, 111, 112, 113, 114, 115, 116, 117, 118, 119, 120, 121, 122, 48, 49, 50, 51, 52, 53, 54, 55, 56, 57, 43, 47]⟩ : ByteArray) (ji39)) [.int .u8 (bt (⟨#[65, 66, 67, 68, 69, 70, 71, 72, 73, 74, 75, 76, 77, 78, 79, 80, 81, 82, 83, 84, 85, 86, 87, 88, 89, 90, 97, 98, 99, 100, 101, 102, 103, 104, 105, 106, 107, 108, 109, 110, 111, 112, 113, 114, 115, 116, 117, 118, 119, 120, 121, 122, 48, 49, 50, 51, 52, 53, 54, 55, 56, 57, 43, 47]⟩ : ByteArray) (ji39))] from rfl) (Reps.one (show Kd.M (Kd.int .u8) _ _ _ (bt (⟨#[65, 66, 67, 68, 69, 70, 71, 72, 73, 74, 75, 76, 77, 78, 79, 80, 81, 82, 83, 84, 85, 86, 87, 88, 89, 90, 97, 98, 99, 100, 101, 102, 103, 104, 105, 106, 107, 108, 109, 110, 111, 112, 113, 114, 115, 116, 117, 118, 119, 120, 121, 122, 48, 49, 50, 51, 52, 53, 54, 55, 56, 57, 43, 47]⟩ : ByteArray) (ji43)) [.int .u8 (bt (⟨#[65, 66, 67, 68, 69, 70, 71, 72, 73, 74, 75, 76, 77, 78, 79, 80, 81, 82, 83, 84, 85, 86, 87, 88, 89, 90, 97, 98, 99, 100, 101, 102, 103, 104, 105, 106, 107, 108, 109, 110, 111, 112, 113, 114, 115, 116, 117, 118, 119, 120, 121, 122, 48, 49, 50, 51, 52, 53, 54, 55, 56, 57, 43, 47]⟩ : ByteArray) (ji43))] from rfl) (Reps.one (show Kd.M (Kd.int .u8) _ _ _ 61 [.int .u8 61] from rfl) (Reps.one (show Kd.M (Kd.int .u8) _ _ _ 61 [.int .u8 61] from rfl) (Reps.none _ _))))))
                          intro v151 w50 ho51 hb hg_ hnew_
                          clear hg_ hnew_
                          (first | rw [← Ny150.out] at ho51 | (simp only [Int.reduceToNat] at ho51; rw [← Ny150.out] at ho51))
                          have n0_ := Aside0.mk (Kd.V_elder' (by (with_reducible repeat (first | apply Kd.V_alloc | apply Kd.V_drewN | apply Kd.V_drew)); exact HO_0.out) (Kd.R_base ho51) hb)
                          have n1_ := Aside0.mk (Kd.R_elder' (by (with_reducible repeat (first | apply Kd.R_alloc | apply Kd.R_drewN | apply Kd.R_drew)); exact HO_3.out) (Kd.R_base ho51) hb)
                          have n2_ := Aside0.mk (Kd.R_lower (Kd.R_new' (Kd.R_newM (M := fun k_ => (w.heap.size ≤ k_)) ho51 (below_size (by repeat (first | (with_reducible first | exact HB.out | apply below_alloc | apply pw_below_drewN | apply below_drew1) | exact HB.out))) (fun k_ h_ => h_)) (Kd.R_lt (by (with_reducible repeat (first | apply Kd.R_alloc | apply Kd.R_drewN | apply Kd.R_drew)); exact HO_3.out))) (below_size (by repeat (first | (with_reducible first | exact HB.out | apply below_alloc | apply pw_below_drewN | apply below_drew1) | exact HB.out))))
                          have n3_ := Aside0.mk (below_step (by repeat (first | (with_reducible first | exact HB.out | apply below_alloc | apply pw_below_drewN | apply below_drew1) | exact HB.out)) hb)
                          clear HO_0
                          clear HO_3
                          clear HB
                          have HO_0 := n0_
                          have HO_3 := n1_
                          have HO152 := n2_
                          have HB := n3_
                          clear n0_ n1_ n2_ n3_
                          clear hb ho51
                          obtain ⟨Ao53, co53, eo53⟩ := Kd.R_slice HO152.out
                          (first | subst eo53 | (injection eo53 with f1_ f2_ f3_; have f4_ := f1_.symm; have f5_ := f3_.symm; clear f1_ f2_ f3_; subst f4_; subst f5_))
                          refine hK.out _ _ trivial (fun hHeld => ?_)
                          clear hK K
                          refine norm_ (a' := ?_) ?_ ?_
                          rotate_left
                          · show Act.put _ (some 68) _ = _
                            simp only [Act.put, List.setIfInBounds_toArray, List.set_cons_zero, List.set_cons_succ, i64_w, i32_w]
                            rfl
                          refine one_ (i := 9) (N := some 69) #[true, true, true, true, true, true, true, true, true, true, false] rfl rfl (one_of HT_.out (by kernel_rfl)) (by decide) (fun K hK => ?_)
                          refine Kd.R_append_rows_step (Kd.int .u8) (w0 := w) w.heap.size (by rfl) (.tmp 60) (.tmp 68) 22 5 (.int .u8 0) 1 rfl Tryd.underlying22 info5 rfl (by decide) (by omega) u3 x3_1 y150 _ _ _ (fun k_ => (w.heap.size ≤ k_) ∧ some k_ ≠ (.slice Ao53 y150.length co53 : Value).ownBlock) (fun _ => False) rfl rfl ?aO ?aR (fun _ _ h => h) (fun _ h => h.elim) ?aF ?aB ?aS ?aL ?_
                          (case aR => repeat (first | exact (Kd.R_reads' HO152.out).2.2 | (with_reducible refine Kd.C_alloc ?_ _) | (with_reducible refine Kd.C_drewN ?_ _) | (with_reducible refine Kd.C_drew ?_)))
                          (case aB => exact (by repeat (first | (with_reducible first | exact HB.out | apply below_alloc | apply pw_below_drewN | apply below_drew1) | exact HB.out)))
                          (case aF => exact (fun k_ hk => ⟨(Nat.le_trans (below_size (by repeat (first | (with_reducible first | exact HB.out | apply below_alloc | apply pw_below_drewN | apply below_drew1) | exact HB.out))) hk), Kd.fresh' (Kd.R_lt (by (with_reducible repeat (first | apply Kd.R_alloc | apply Kd.R_drewN | apply Kd.R_drew)); exact HO152.out)) k_ hk⟩))
                          (case aO => exact (by (with_reducible repeat (first | apply Kd.R_alloc | apply Kd.R_drewN | apply Kd.R_drew)); exact HO_3.out))
                          (case aS => exact (below_size (by repeat (first | (with_reducible first | exact HB.out | apply below_alloc | apply pw_below_drewN | apply below_drew1) | exact HB.out))))
                          (case aL => have := LMc47.out; omega)
                          intro v154 w52 ho hb hg hat
                          rw [← Ny153.out] at ho
                          have n0_ := Aside0.mk (Kd.V_afterv (ok := (fun k_ => (P0_ k_ ∨ w.heap.size ≤ k_) ∧ some k_ ≠ (.slice Ao53 y150.length co53 : Value).ownBlock)) (by (with_reducible repeat (first | apply Kd.V_alloc | apply Kd.V_drewN | apply Kd.V_drew)); exact Kd.V_mono HO_0.out (fun _ hk => ⟨⟨hk.1.1, hk.2⟩, hk.1.2⟩)) hg hat)
                          have n1_ := Aside0.mk (Kd.R_after (ok := (fun k_ => (w.heap.size ≤ k_))) (by (with_reducible repeat (first | apply Kd.R_alloc | apply Kd.R_drewN | apply Kd.R_drew)); exact Kd.R_mono HO152.out (fun _ hk => ⟨hk.1.1, hk.2⟩)) hg hat)
                          have n2_ := Aside0.mk (hb)
                          have n3_ := Aside0.mk (ho)
                          clear HO_0
                          clear HO152
                          clear HB
                          clear HO_3
                          have HO_0 := n0_
                          have HO152 := n1_
                          have HB := n2_
                          have HO155 := n3_
                          clear n0_ n1_ n2_ n3_
                          clear ho hb hg hat
                          refine hK.out _ _ trivial (fun hHeld => ?_)
                          clear hK K
                          refine norm_ (a' := ?_) ?_ ?_
                          rotate_left
                          · show Act.put _ (some 69) _ = _
                            simp only [Act.put, List.setIfInBounds_toArray, List.set_cons_zero, List.set_cons_succ, i64_w, i32_w]
                            rfl
                          refine pure_ (i := 10) (N := some 3) (v := ?_) (a' := ?_) #[true, true, true, true, true, true, true, true, true, true, true] rfl rfl (any_of HT_.out (by kernel_rfl)) (fun _ _ _ h => h) (Or.inl ⟨by rfl, ?_⟩) ?_ ?_
                          rotate_left
                          · intro w'
                            go_simp
                            with_reducible rfl
                          rotate_left
                          · simp only [Act.put, List.setIfInBounds_toArray, List.set_cons_zero, List.set_cons_succ, i64_w, i32_w]
                            rfl
                          refine done_ (done_of HT_.out (by kernel_rfl)) ?_
                          have hcv54 := own_string (P := Tryd.prog) Tryd.underlying22 Tryd.underlying5 Tryd.underlying9 (Kd.own_of_R HO155.out)
                          try go_wp2
                          go_ret
                          exact ⟨by first | rfl | (simp [errW_none, errW_some] <;> rfl) | (simp only [← hji2, ← hji39, ← hji43]; first | rfl | (simp [errW_none, errW_some] <;> rfl)) | (simp [*, errW_none, errW_some] <;> rfl), by repeat (first | (with_reducible first | exact HB.out | apply below_alloc | apply pw_below_drewN | apply below_drew1) | exact HB.out)⟩
                        · rw [if_neg c47] at H
                          exact absurd H (by simp)
                      · rw [if_neg c45] at H
                        exact absurd H (by simp)
                    · rw [if_neg c44] at H
                      exact absurd H (by simp)
                  · rw [if_neg c41] at H
                    exact absurd H (by simp)
                · rw [if_neg c40] at H
                  exact absurd H (by simp)
              · rw [if_neg c38] at H
                exact absurd H (by simp)
            · rw [if_neg c37] at H
              have c37b0 : ((x0_1.length : Int) == 1) = false := beq_eq_false_iff_ne.mpr c37
              have c37b1 : ((x0_1.length : Int) != 1) = true := bne_iff_ne.mpr c37
              by_cases c55 : (x0_1.length : Int) = 2
              · rw [if_pos c55] at H
                have c55b0 : ((x0_1.length : Int) == 2) = true := beq_iff_eq.mpr c55
                have c55b1 : ((x0_1.length : Int) != 2) = false := bne_eq_false_iff_eq.mpr c55
                clear c55
                by_cases c56 : 0 < (x0_1.length : Int)
                · rw [if_pos c56] at H
                  have c56b0 : decide (0 < (x0_1.length : Int)) = true := decide_eq_true c56
                  have c56b1 : decide (0 < x0_1.length) = true := decide_eq_true (by omega)
                  clear c56
                  by_cases c57 : 1 < (x0_1.length : Int)
                  · rw [if_pos c57] at H
                    have c57b0 : decide (1 < (x0_1.length : Int)) = true := decide_eq_true c57
                    have c57b1 : decide (1 < x0_1.length) = true := decide_eq_true (by omega)
                    clear c57
                    obtain ⟨ji58, hji58⟩ : ∃ j_ : Int, ((Go.bits .or .i64 (wrap64 ((wrap64 (rd x0_1 0)) * 65536)) (wrap64 ((wrap64 (rd x0_1 1)) * 256))) / 262144) = j_ := ⟨_, rfl⟩
                    replace H : (if 0 ≤ (ji58) then (if (ji58) < 64 then (if 0 ≤ (Go.bits .and .i64 ((Go.bits .or .i64 (wrap64 ((wrap64 (rd x0_1 0)) * 65536)) (wrap64 ((wrap64 (rd x0_1 1)) * 256))) / 4096) 63) then (if (Go.bits .and .i64 ((Go.bits .or .i64 (wrap64 ((wrap64 (rd x0_1 0)) * 65536)) (wrap64 ((wrap64 (rd x0_1 1)) * 256))) / 4096) 63) < 64 then (if 0 ≤ (Go.bits .and .i64 ((Go.bits .or .i64 (wrap64 ((wrap64 (rd x0_1 0)) * 65536)) (wrap64 ((wrap64 (rd x0_1 1)) * 256))) / 64) 63) then (if (Go.bits .and .i64 ((Go.bits .or .i64 (wrap64 ((wrap64 (rd x0_1 0)) * 65536)) (wrap64 ((wrap64 (rd x0_1 1)) * 256))) / 64) 63) < 64 then ((some (([bt (⟨#[65, 66, 67, 68, 69, 70, 71, 72, 73, 74, 75, 76, 77, 78, 79, 80, 81, 82, 83, 84, 85, 86, 87, 88, 89, 90, 97, 98, 99, 100, 101, 102, 103, 104, 105, 106, 107, 108, 109, 110, 111, 112, 113, 114, 115, 116, 117, 118, 119, 120, 121, 122, 48, 49, 50, 51, 52, 53, 54, 55, 56, 57, 43, 47]⟩ : ByteArray) (ji58), bt (⟨#[65, 66, 67, 68, 69, 70, 71, 72, 73, 74, 75, 76, 77, 78, 79, 80, 81, 82, 83, 84, 85, 86, 87, 88, 89, 90, 97, 98, 99, 100, 101, 102, 103, 104, 105, 106, 107, 108, 109, 110, 111, 112, 113, 114, 115, 116, 117, 118, 119, 120, 121, 122, 48, 49, 50, 51, 52, 53, 54, 55, 56, 57, 43, 47]⟩ : ByteArray) (Go.bits .and .i64 ((Go.bits .or .i64 (wrap64 ((wrap64 (rd x0_1 0)) * 65536)) (wrap64 ((wrap64 (rd x0_1 1)) * 256))) / 4096) 63), bt (⟨#[65, 66, 67, 68, 69, 70, 71, 72, 73, 74, 75, 76, 77, 78, 79, 80, 81, 82, 83, 84, 85, 86, 87, 88, 89, 90, 97, 98, 99, 100, 101, 102, 103, 104, 105, 106, 107, 108, 109, 110, 111, 112, 113, 114, 115, 116, 117, 118, 119, 120, 121, 122, 48, 49, 50, 51, 52, 53, 54, 55, 56, 57, 43, 47]⟩ : ByteArray) (Go.bits .and .i64 ((Go.bits .or .i64 (wrap64 ((wrap64 (rd x0_1 0)) * 65536)) (wrap64 ((wrap64 (rd x0_1 1)) * 256))) / 64) 63), 61] : List Int) : List Int)).bind fun y158 => (if x3_1.length + y158.length < 140737488355328 then (some (strOfNums (x3_1 ++ y158))) else (none))) else (none)) else (none)) else (none)) else (none)) else (none)) else (none)) = some r := by first | (rw [hji58] at H; exact H) | (simp only [hji58] at H ⊢; exact H)
                    by_cases c59 : 0 ≤ (ji58)
                    · rw [if_pos c59] at H
                      have c59b0 : decide (0 ≤ (ji58)) = true := decide_eq_true c59
                      clear c59
                      by_cases c60 : (ji58) < 64
                      · rw [if_pos c60] at H
                        have c60b0 : decide ((ji58) < 64) = true := decide_eq_true c60
                        clear c60
                        obtain ⟨ji62, hji62⟩ : ∃ j_ : Int, (Go.bits .and .i64 ((Go.bits .or .i64 (wrap64 ((wrap64 (rd x0_1 0)) * 65536)) (wrap64 ((wrap64 (rd x0_1 1)) * 256))) / 4096) 63) = j_ := ⟨_, rfl⟩
                        replace H : (if 0 ≤ (ji62) then (if (ji62) < 64 then (if 0 ≤ (Go.bits .and .i64 ((Go.bits .or .i64 (wrap64 ((wrap64 (rd x0_1 0)) * 65536)) (wrap64 ((wrap64 (rd x0_1 1)) * 256))) / 64) 63) then (if (Go.bits .and .i64 ((Go.bits .or .i64 (wrap64 ((wrap64 (rd x0_1 0)) * 65536)) (wrap64 ((wrap64 (rd x0_1 1)) * 256))) / 64) 63) < 64 then ((some (([bt (⟨#[65, 66, 67, 68, 69, 70, 71, 72, 73, 74, 75, 76, 77, 78, 79, 80, 81, 82, 83, 84, 85, 86, 87, 88, 89, 90, 97, 98, 99, 100, 101, 102, 103, 104, 105, 106, 107, 108, 109, 110, 111, 112, 113, 114, 115, 116, 117, 118, 119, 120, 121, 122, 48, 49, 50, 51, 52, 53, 54, 55, 56, 57, 43, 47]⟩ : ByteArray) (ji58), bt (⟨#[65, 66, 67, 68, 69, 70, 71, 72, 73, 74, 75, 76, 77, 78, 79, 80, 81, 82, 83, 84, 85, 86, 87, 88, 89, 90, 97, 98, 99, 100, 101, 102, 103, 104, 105, 106, 107, 108, 109, 110, 111, 112, 113, 114, 115, 116, 117, 118, 119, 120, 121, 122, 48, 49, 50, 51, 52, 53, 54, 55, 56, 57, 43, 47]⟩ : ByteArray) (ji62), bt (⟨#[65, 66, 67, 68, 69, 70, 71, 72, 73, 74, 75, 76, 77, 78, 79, 80, 81, 82, 83, 84, 85, 86, 87, 88, 89, 90, 97, 98, 99, 100, 101, 102, 103, 104, 105, 106, 107, 108, 109, 110, 111, 112, 113, 114, 115, 116, 117, 118, 119, 120, 121, 122, 48, 49, 50, 51, 52, 53, 54, 55, 56, 57, 43, 47]⟩ : ByteArray) (Go.bits .and .i64 ((Go.bits .or .i64 (wrap64 ((wrap64 (rd x0_1 0)) * 65536)) (wrap64 ((wrap64 (rd x0_1 1)) * 256))) / 64) 63), 61] : List Int) : List Int)).bind fun y158 => (if x3_1.length + y158.length < 140737488355328 then (some (strOfNums (x3_1 ++ y158))) else (none))) else (none)) else (none)) else (none)) else (none)) = some r := by first | (rw [hji62] at H; exact H) | (simp only [hji62] at H ⊢; exact H)
                        by_cases c63 : 0 ≤ (ji62)
                        · rw [if_pos c63] at H
                          have c63b0 : decide (0 ≤ (ji62)) = true := decide_eq_true c63
                          clear c63
                          by_cases c64 : (ji62) < 64
                          · rw [if_pos c64] at H
                            have c64b0 : decide ((ji62) < 64) = true := decide_eq_true c64
                            clear c64
                            obtain ⟨ji66, hji66⟩ : ∃ j_ : Int, (Go.bits .and .i64 ((Go.bits .or .i64 (wrap64 ((wrap64 (rd x0_1 0)) * 65536)) (wrap64 ((wrap64 (rd x0_1 1)) * 256))) / 64) 63) = j_ := ⟨_, rfl⟩
                            replace H : (if 0 ≤ (ji66) then (if (ji66) < 64 then ((some (([bt (⟨#[65, 66, 67, 68, 69, 70, 71, 72, 73, 74, 75, 76, 77, 78, 79, 80, 81, 82, 83, 84, 85, 86, 87, 88, 89, 90, 97, 98, 99, 100, 101, 102, 103, 104, 105, 106, 107, 108, 109, 110, 111, 112, 113, 114, 115, 116, 117, 118, 119, 120, 121, 122, 48, 49, 50, 51, 52, 53, 54, 55, 56, 57, 43, 47]⟩ : ByteArray) (ji58), bt (⟨#[65, 66, 67, 68, 69, 70, 71, 72, 73, 74, 75, 76, 77, 78, 79, 80, 81, 82, 83, 84, 85, 86, 87, 88, 89, 90, 97, 98, 99, 100, 101, 102, 103, 104, 105, 106, 107, 108, 109, 110, 111, 112, 113, 114, 115, 116, 117, 118, 119, 120, 121, 122, 48, 49, 50, 51, 52, 53, 54, 55, 56, 57, 43, 47]⟩ : ByteArray) (ji62), bt (⟨#[65, 66, 67, 68, 69, 70, 71, 72, 73, 74, 75, 76, 77, 78, 79, 80, 81, 82, 83, 84, 85, 86, 87, 88, 89, 90, 97, 98, 99, 100, 101, 102, 103, 104, 105, 106, 107, 108, 109, 110, 111, 112, 113, 114, 115, 116, 117, 118, 119, 120, 121, 122, 48, 49, 50, 51, 52, 53, 54, 55, 56, 57, 43, 47]⟩ : ByteArray) (ji66), 61] : List Int) : List Int)).bind fun y158 => (if x3_1.length + y158.length < 140737488355328 then (some (strOfNums (x3_1 ++ y158))) else (none))) else (none)) else (none)) = some r := by first | (rw [hji66] at H; exact H) | (simp only [hji66] at H ⊢; exact H)
                            by_cases c67 : 0 ≤ (ji66)
                            · rw [if_pos c67] at H
                              have c67b0 : decide (0 ≤ (ji66)) = true := decide_eq_true c67
                              clear c67
                              by_cases c68 : (ji66) < 64
                              · rw [if_pos c68] at H
                                have c68b0 : decide ((ji66) < 64) = true := decide_eq_true c68
                                clear c68
                                obtain ⟨y158, hy158⟩ : ∃ y_ : List Int, y_ = (([bt (⟨#[65, 66, 67, 68, 69, 70, 71, 72, 73, 74, 75, 76, 77, 78, 79, 80, 81, 82, 83, 84, 85, 86, 87, 88, 89, 90, 97, 98, 99, 100, 101, 102, 103, 104, 105, 106, 107, 108, 109, 110, 111, 112, 113, 114, 115, 116, 117, 118, 119, 120, 121, 122, 48, 49, 50, 51, 52, 53, 54, 55, 56, 57, 43, 47]⟩ : ByteArray) (ji58), bt (⟨#[65, 66, 67, 68, 69, 70, 71, 72, 73, 74, 75, 76, 77, 78, 79, 80, 81, 82, 83, 84, 85, 86, 87, 88, 89, 90, 97, 98, 99, 100, 101, 102, 103, 104, 105, 106, 107, 108, 109, 110, 111, 112, 113, 114, 115, 116, 117, 118, 119, 120, 121, 122, 48, 49, 50, 51, 52, 53, 54, 55, 56, 57, 43, 47]⟩ : ByteArray) (ji62), bt (⟨#[65, 66, 67, 68, 69, 70, 71, 72, 73, 74, 75, 76, 77, 78, 79, 80, 81, 82, 83, 84, 85, 86, 87, 88, 89, 90, 97, 98, 99, 100, 101, 102, 103, 104, 105, 106, 107, 108, 109, 110, 111, 112, 113, 114, 115, 116, 117, 118, 119, 120, 121, 122, 48, 49, 50, 51, 52, 53, 54, 55, 56, 57, 43, 47]⟩ : ByteArray) (ji66), 61] : List Int)) := ⟨_, rfl⟩
                                replace H : (if x3_1.length + y158.length < 140737488355328 then (some (strOfNums (x3_1 ++ y158))) else (none)) = some r := by first | (rw [hy158]; with_reducible exact H) | (have H2_ := (Option.bind_some _ _).symm.trans H; rw [hy158]; with_reducible exact H2_) | (have H2_ := (Option.bind_some _ _).symm.trans H; with_reducible exact H2_) | with_reducible exact H | (rw [hy158]; exact H) | exact H
                                have Ny158 := Aside0.mk hy158
                                clear hy158
                                by_cases c70 : x3_1.length + y158.length < 140737488355328
                                · rw [if_pos c70] at H
                                  have LMc70 := Aside0.mk c70
                                  clear c70
                                  obtain ⟨y161, hy161⟩ : ∃ y_ : List Int, y_ = (x3_1 ++ y158) := ⟨_, rfl⟩
                                  replace H : (some (strOfNums y161)) = some r := by first | (rw [hy161]; with_reducible exact H) | (have H2_ := (Option.bind_some _ _).symm.trans H; rw [hy161]; with_reducible exact H2_) | (have H2_ := (Option.bind_some _ _).symm.trans H; with_reducible exact H2_) | with_reducible exact H | (rw [hy161]; exact H) | exact H
                                  have Ny161 := Aside0.mk hy161
                                  clear hy161
                                  obtain rfl := Option.some.inj H
                                  obtain ⟨Ao71, co71, eo71⟩ := Kd.V_slice HO_0.out
                                  subst eo71
                                  try go_wp2
                                  have n0_ := Aside0.mk (Kd.V_drew HO_0.out)
                                  have n1_ := Aside0.mk (Kd.R_drew HO_3.out)
                                  have n2_ := Aside0.mk (below_drew1 HB.out)
                                  clear HO_0
                                  clear HO_3
                                  clear HB
                                  have HO_0 := n0_
                                  have HO_3 := n1_
                                  have HB := n2_
                                  clear n0_ n1_ n2_
                                  have p156 : 0 ≤ (0 : Int) := (by omega)
                                  have q156 : 0 < (x0_1.length : Int) := of_decide_eq_true (by first | (with_reducible assumption) | assumption)
                                  obtain ⟨ad156, e156, hx156_0⟩ := Kd.at_int (Kd.V_reads' HO_0.out).2.2 0 p156 q156
                                  cases e156
                                  have qi156 : (0 < x0_1.length) = True := eq_true (by omega)
                                  (try rw [show ((0 : Int)).toNat = 0 from rfl] at hx156_0)
                                  (try rw [Addr.add_zero'] at hx156_0)
                                  replace p156 := eq_true p156
                                  replace q156 := eq_true q156
                                  have p157 : 0 ≤ (1 : Int) := (by omega)
                                  have q157 : 1 < (x0_1.length : Int) := of_decide_eq_true (by first | (with_reducible assumption) | assumption)
                                  obtain ⟨ad157, e157, hx157_0⟩ := Kd.at_int (Kd.V_reads' HO_0.out).2.2 1 p157 q157
                                  obtain rfl : ad156 = ad157 := (by injection e157)
                                  (try simp only [show (1 : Int).toNat = 1 from rfl, Nat.reduceMul, Nat.reduceEqDiff, Go.Addr.add, ↓reduceIte] at hx157_0)
                                  have qi157 : (1 < x0_1.length) = True := eq_true (by omega)
                                  (try rw [show ((1 : Int)).toNat = 1 from rfl] at hx157_0)
                                  replace p157 := eq_true p157
                                  replace q157 := eq_true q157
                                  refine start_ (n := 12) (S := fun w' => w'.cell? ad156 = some (.int .u8 (rd x0_1 0)) ∧ w'.cell? ⟨ad156.block, ad156.off + 1, none⟩ = some (.int .u8 (rd x0_1 1))) (ds := []) #[false, false, false, false, false, false, false, false, false, false, false, false] (by kernel_rfl) rfl rfl ⟨hx156_0, hx157_0⟩ (fun hHeld => ?_); refine with_tabW text_EncodeBase64.tab11 text_EncodeBase64.bits11 (fun HT_ HW_ => ?_)
                                  generalize wr.drew = w72 at HO_0 HO_3 HB hx156_0 hx157_0 hHeld ⊢
                                  refine pure_ (i := 0) (N := some 72) (v := ?_) (a' := ?_) #[true, false, false, false, false, false, false, false, false, false, false, false] rfl rfl (any_of HT_.out (by kernel_rfl)) (fun _ _ _ h => h) (Or.inl ⟨by rfl, ?_⟩) ?_ ?_
                                  rotate_left
                                  · intro w'
                                    go_simp
                                    with_reducible rfl
                                  rotate_left
                                  · simp only [Act.put, List.setIfInBounds_toArray, List.set_cons_zero, List.set_cons_succ, i64_w, i32_w]
                                    rfl
                                  refine pure_ (i := 1) (N := some 73) (v := ?_) (a' := ?_) #[true, true, false, false, false, false, false, false, false, false, false, false] rfl rfl (any_of HT_.out (by kernel_rfl)) (fun _ _ _ h => h) (Or.inl ⟨by rfl, ?_⟩) ?_ ?_
                                  rotate_left
                                  · intro w'
                                    go_simp
                                    with_reducible rfl
                                  rotate_left
                                  · simp only [Act.put, List.setIfInBounds_toArray, List.set_cons_zero, List.set_cons_succ, i64_w, i32_w]
                                    rfl
                                  refine pure_ (i := 5) (N := some 77) (v := ?_) (a' := ?_) #[true, true, false, false, false, true, false, false, false, false, false, false] rfl rfl (any_of HT_.out (by kernel_rfl)) (fun _ _ _ h => h) (Or.inl ⟨by rfl, ?_⟩) ?_ ?_
                                  rotate_left
                                  · intro w'
                                    go_simp
                                    with_reducible rfl
                                  rotate_left
                                  · simp only [Act.put, List.setIfInBounds_toArray, List.set_cons_zero, List.set_cons_succ, i64_w, i32_w]
                                    rfl
                                  refine pure_ (i := 6) (N := some 78) (v := ?_) (a' := ?_) #[true, true, false, false, false, true, true, false, false, false, false, false] rfl rfl (any_of HT_.out (by kernel_rfl)) (fun _ _ _ h => h) (Or.inl ⟨by rfl, ?_⟩) ?_ ?_
                                  rotate_left
                                  · intro w'
                                    go_simp
                                    with_reducible rfl
                                  rotate_left
                                  · simp only [Act.put, List.setIfInBounds_toArray, List.set_cons_zero, List.set_cons_succ, i64_w, i32_w]
                                    rfl
                                  refine take_ (i := 2) (N := some 74) (v := ?_) (a' := ?_) #[true, true, true, false, false, true, true, false, false, false, false, false] rfl rfl (take_ofW HT_.out HW_.out (by kernel_rfl)) (fun _ _ _ h => h) (Or.inl ⟨by rfl, ?_⟩) hHeld ?_ ?_
                                  rotate_left
                                  · rintro w' ⟨s0, s1⟩
                                    go_simp
                                    with_reducible rfl
                                  rotate_left
                                  · simp only [Act.put, List.setIfInBounds_toArray, List.set_cons_zero, List.set_cons_succ, i64_w, i32_w]
                                    rfl
                                  refine pure_ (i := 3) (N := some 75) (v := ?_) (a' := ?_) #[true, true, true, true, false, true, true, false, false, false, false, false] rfl rfl (any_of HT_.out (by kernel_rfl)) (fun _ _ _ h => h) (Or.inl ⟨by rfl, ?_⟩) ?_ ?_
                                  rotate_left
                                  · intro w'
                                    go_simp
                                    with_reducible rfl
                                  rotate_left
                                  · simp only [Act.put, List.setIfInBounds_toArray, List.set_cons_zero, List.set_cons_succ, i64_w, i32_w]
                                    rfl
                                  refine pure_ (i := 4) (N := some 76) (v := ?_) (a' := ?_) #[true, true, true, true, true, true, true, false, false, false, false, false] rfl rfl (any_of HT_.out (by kernel_rfl)) (fun _ _ _ h => h) (Or.inl ⟨by rfl, ?_⟩) ?_ ?_
                                  rotate_left
                                  · intro w'
                                    go_simp
                                    with_reducible rfl
                                  rotate_left
                                  · simp only [Act.put, List.setIfInBounds_toArray, List.set_cons_zero, List.set_cons_succ, i64_w, i32_w]
                                    rfl
                                  refine take_ (i := 7) (N := some 79) (v := ?_) (a' := ?_) #[true, true, true, true, true, true, true, true, false, false, false, false] rfl rfl (take_ofW HT_.out HW_.out (by kernel_rfl)) (fun _ _ _ h => h) (Or.inl ⟨by rfl, ?_⟩) hHeld ?_ ?_
                                  rotate_left
                                  · rintro w' ⟨s0, s1⟩
                                    go_simp
                                    with_reducible rfl
                                  rotate_left
                                  · simp only [Act.put, List.setIfInBounds_toArray, List.set_cons_zero, List.set_cons_succ, i64_w, i32_w]
                                    rfl
                                  refine pure_ (i := 8) (N := some 80) (v := ?_) (a' := ?_) #[true, true, true, true, true, true, true, true, true, false, false, false] rfl rfl (any_of HT_.out (by kernel_rfl)) (fun _ _ _ h => h) (Or.inl ⟨by rfl, ?_⟩) ?_ ?_
                                  rotate_left
                                  · intro w'
                                    go_simp
                                    with_reducible rfl
                                  rotate_left
                                  · simp only [Act.put, List.setIfInBounds_toArray, List.set_cons_zero, List.set_cons_succ, i64_w, i32_w]
                                    rfl
                                  refine pure_ (i := 9) (N := some 81) (v := ?_) (a' := ?_) #[true, true, true, true, true, true, true, true, true, true, false, false] rfl rfl (any_of HT_.out (by kernel_rfl)) (fun _ _ _ h => h) (Or.inl ⟨by rfl, ?_⟩) ?_ ?_
                                  rotate_left
                                  · intro w'
                                    go_simp
                                    with_reducible rfl
                                  rotate_left
                                  · simp only [Act.put, List.setIfInBounds_toArray, List.set_cons_zero, List.set_cons_succ, i64_w, i32_w]
                                    rfl
                                  refine pure_ (i := 10) (N := some 82) (v := ?_) (a' := ?_) #[true, true, true, true, true, true, true, true, true, true, true, false] rfl rfl (any_of HT_.out (by kernel_rfl)) (fun _ _ _ h => h) (Or.inl ⟨by rfl, ?_⟩) ?_ ?_
                                  rotate_left
                                  · intro w'
                                    go_simp
                                    with_reducible rfl
                                  rotate_left
                                  · simp only [Act.put, List.setIfInBounds_toArray, List.set_cons_zero, List.set_cons_succ, i64_w, i32_w]
                                    rfl
                                  refine pure_ (i := 11) (N := some 6) (v := ?_) (a' := ?_) #[true, true, true, true, true, true, true, true, true, true, true, true] rfl rfl (any_of HT_.out (by kernel_rfl)) (fun _ _ _ h => h) (Or.inl ⟨by rfl, ?_⟩) ?_ ?_
                                  rotate_left
                                  · intro w'
                                    go_simp
                                    with_reducible rfl
                                  rotate_left
                                  · simp only [Act.put, List.setIfInBounds_toArray, List.set_cons_zero, List.set_cons_succ, i64_w, i32_w]
                                    rfl
                                  refine done_ (done_of HT_.out (by kernel_rfl)) ?_
                                  try go_wp2
                                  have n0_ := Aside0.mk (Kd.V_drew HO_0.out)
                                  have n1_ := Aside0.mk (Kd.R_drew HO_3.out)
                                  have n2_ := Aside0.mk (below_drew1 HB.out)
                                  clear HO_0
                                  clear HO_3
                                  clear HB
                                  have HO_0 := n0_
                                  have HO_3 := n1_
                                  have HB := n2_
                                  clear n0_ n1_ n2_
                                  have p61 : 0 ≤ ((ji58) : Int) := of_decide_eq_true (by first | (with_reducible assumption) | assumption)
                                  have q61 : (ji58) < (64 : Int) := of_decide_eq_true (by first | (with_reducible assumption) | assumption)
                                  have hx61 := bt_at (⟨#[65, 66, 67, 68, 69, 70, 71, 72, 73, 74, 75, 76, 77, 78, 79, 80, 81, 82, 83, 84, 85, 86, 87, 88, 89, 90, 97, 98, 99, 100, 101, 102, 103, 104, 105, 106, 107, 108, 109, 110, 111, 112, 113, 114, 115, 116, 117, 118, 119, 120, 121, 122, 48, 49, 50, 51, 52, 53, 54, 55, 56, 57, 43, 47]⟩ : ByteArray) (ji58)
                                  replace p61 := eq_true p61
                                  replace q61 := eq_true q61
                                  have p65 : 0 ≤ ((ji62) : Int) := of_decide_eq_true (by first | (with_reducible assumption) | assumption)
                                  have q65 : (ji62) < (64 : Int) := of_decide_eq_true (by first | (with_reducible assumption) | assumption)
                                  have hx65 := bt_at (⟨#[65, 66, 67, 68, 69, 70, 71, 72, 73, 74, 75, 76, 77, 78, 79, 80, 81, 82, 83, 84, 85, 86, 87, 88, 89, 90, 97, 98, 99, 100, 101, 102, 103, 104, 105, 106, 107, 108, 109, 110, 111, 112, 113, 114, 115, 116, 117, 118, 119, 120, 121, 122, 48, 49, 50, 51, 52, 53, 54, 55, 56, 57, 43, 47]⟩ : ByteArray) (ji62)
                                  replace p65 := eq_true p65
                                  replace q65 := eq_true q65
                                  have p69 : 0 ≤ ((ji66) : Int) := of_decide_eq_true (by first | (with_reducible assumption) | assumption)
                                  have q69 : (ji66) < (64 : Int) := of_decide_eq_true (by first | (with_reducible assumption) | assumption)
                                  have hx69 := bt_at (⟨#[65, 66, 67, 68, 69, 70, 71, 72, 73, 74, 75, 76, 77, 78, 79, 80, 81, 82, 83, 84, 85, 86, 87, 88, 89, 90, 97, 98, 99, 100, 101, 102, 103, 104, 105, 106, 107, 108, 109, 110, 111, 112, 113, 114, 115, 116, 117, 118, 119, 120, 121, 122, 48, 49, 50, 51, 52, 53, 54, 55, 56, 57, 43, 47]⟩ : ByteArray) (ji66)
                                  replace p69 := eq_true p69
                                  replace q69 := eq_true q69
                                  refine start_ (n := 15) (S := fun w' => True) (ds := []) #[false, false, false, false, false, false, false, false, false, false, false, false, false, false, false] (by kernel_rfl) rfl rfl trivial (fun hHeld => ?_); refine with_tabW text_EncodeBase64.tab12 text_EncodeBase64.bits12 (fun HT_ HW_ => ?_)
                                  generalize w72.drew = w73 at HO_0 HO_3 HB hHeld ⊢
                                  refine pure_ (i := 0) (N := some 83) (v := ?_) (a' := ?_) #[true, false, false, false, false, false, false, false, false, false, false, false, false, false, false] rfl rfl (any_of HT_.out (by kernel_rfl)) (fun _ _ _ h => h) (Or.inl ⟨by rfl, ?_⟩) ?_ ?_
                                  rotate_left
                                  · intro w'
                                    go_simp
                                    with_reducible rfl
                                  rotate_left
                                  · simp only [Act.put, List.setIfInBounds_toArray, List.set_cons_zero, List.set_cons_succ, i64_w, i32_w]
                                    rfl
                                  refine pure_ (i := 1) (N := some 84) (v := ?_) (a' := ?_) #[true, true, false, false, false, false, false, false, false, false, false, false, false, false, false] rfl rfl (any_of HT_.out (by kernel_rfl)) (fun _ _ _ h => h) (Or.inl ⟨by rfl, ?_⟩) ?_ ?_
                                  rotate_left
                                  · intro w'
                                    go_simp
                                    with_reducible rfl
                                  rotate_left
                                  · simp only [Act.put, List.setIfInBounds_toArray, List.set_cons_zero, List.set_cons_succ, i64_w, i32_w]
                                    rfl
                                  refine pure_ (i := 2) (N := some 85) (v := ?_) (a' := ?_) #[true, true, true, false, false, false, false, false, false, false, false, false, false, false, false] rfl rfl (any_of HT_.out (by kernel_rfl)) (fun _ _ _ h => h) (Or.inl ⟨by rfl, ?_⟩) ?_ ?_
                                  rotate_left
                                  · intro w'
                                    go_simp
                                    with_reducible rfl
                                  rotate_left
                                  · simp only [Act.put, List.setIfInBounds_toArray, List.set_cons_zero, List.set_cons_succ, i64_w, i32_w]
                                    rfl
                                  refine pure_ (i := 4) (N := some 87) (v := ?_) (a' := ?_) #[true, true, true, false, true, false, false, false, false, false, false, false, false, false, false] rfl rfl (any_of HT_.out (by kernel_rfl)) (fun _ _ _ h => h) (Or.inl ⟨by rfl, ?_⟩) ?_ ?_
                                  rotate_left
                                  · intro w'
                                    go_simp
                                    with_reducible rfl
                                  rotate_left
                                  · simp only [Act.put, List.setIfInBounds_toArray, List.set_cons_zero, List.set_cons_succ, i64_w, i32_w]
                                    rfl
                                  refine pure_ (i := 5) (N := some 88) (v := ?_) (a' := ?_) #[true, true, true, false, true, true, false, false, false, false, false, false, false, false, false] rfl rfl (any_of HT_.out (by kernel_rfl)) (fun _ _ _ h => h) (Or.inl ⟨by rfl, ?_⟩) ?_ ?_
                                  rotate_left
                                  · intro w'
                                    go_simp
                                    with_reducible rfl
                                  rotate_left
                                  · simp only [Act.put, List.setIfInBounds_toArray, List.set_cons_zero, List.set_cons_succ, i64_w, i32_w]
                                    rfl
                                  refine pure_ (i := 6) (N := some 89) (v := ?_) (a' := ?_) #[true, true, true, false, true, true, true, false, false, false, false, false, false, false, false] rfl rfl (any_of HT_.out (by kernel_rfl)) (fun _ _ _ h => h) (Or.inl ⟨by rfl, ?_⟩) ?_ ?_
                                  rotate_left
                                  · intro w'
                                    go_simp
                                    with_reducible rfl
                                  rotate_left
                                  · simp only [Act.put, List.setIfInBounds_toArray, List.set_cons_zero, List.set_cons_succ, i64_w, i32_w]
                                    rfl
                                  refine pure_ (i := 8) (N := some 91) (v := ?_) (a' := ?_) #[true, true, true, false, true, true, true, false, true, false, false, false, false, false, false] rfl rfl (any_of HT_.out (by kernel_rfl)) (fun _ _ _ h => h) (Or.inl ⟨by rfl, ?_⟩) ?_ ?_
                                  rotate_left
                                  · intro w'
                                    go_simp
                                    with_reducible rfl
                                  rotate_left
                                  · simp only [Act.put, List.setIfInBounds_toArray, List.set_cons_zero, List.set_cons_succ, i64_w, i32_w]
                                    rfl
                                  refine pure_ (i := 9) (N := some 92) (v := ?_) (a' := ?_) #[true, true, true, false, true, true, true, false, true, true, false, false, false, false, false] rfl rfl (any_of HT_.out (by kernel_rfl)) (fun _ _ _ h => h) (Or.inl ⟨by rfl, ?_⟩) ?_ ?_
                                  rotate_left
                                  · intro w'
                                    go_simp
                                    with_reducible rfl
                                  rotate_left
                                  · simp only [Act.put, List.setIfInBounds_toArray, List.set_cons_zero, List.set_cons_succ, i64_w, i32_w]
                                    rfl
                                  refine pure_ (i := 10) (N := some 93) (v := ?_) (a' := ?_) #[true, true, true, false, true, true, true, false, true, true, true, false, false, false, false] rfl rfl (any_of HT_.out (by kernel_rfl)) (fun _ _ _ h => h) (Or.inl ⟨by rfl, ?_⟩) ?_ ?_
                                  rotate_left
                                  · intro w'
                                    go_simp
                                    with_reducible rfl
                                  rotate_left
                                  · simp only [Act.put, List.setIfInBounds_toArray, List.set_cons_zero, List.set_cons_succ, i64_w, i32_w]
                                    rfl
                                  refine take_ (i := 3) (N := some 86) (v := ?_) (a' := ?_) #[true, true, true, true, true, true, true, false, true, true, true, false, false, false, false] rfl rfl (take_ofW HT_.out HW_.out (by kernel_rfl)) (fun _ _ _ h => h) (Or.inl ⟨by rfl, ?_⟩) hHeld ?_ ?_
                                  rotate_left
                                  · intro w' _
                                    go_simp
                                    with_reducible rfl
                                  rotate_left
                                  · simp only [Act.put, List.setIfInBounds_toArray, List.set_cons_zero, List.set_cons_succ, i64_w, i32_w]
                                    rfl
                                  refine take_ (i := 7) (N := some 90) (v := ?_) (a' := ?_) #[true, true, true, true, true, true, true, true, true, true, true, false, false, false, false] rfl rfl (take_ofW HT_.out HW_.out (by kernel_rfl)) (fun _ _ _ h => h) (Or.inl ⟨by rfl, ?_⟩) hHeld ?_ ?_
                                  rotate_left
                                  · intro w' _
                                    go_simp
                                    with_reducible rfl
                                  rotate_left
                                  · simp only [Act.put, List.setIfInBounds_toArray, List.set_cons_zero, List.set_cons_succ, i64_w, i32_w]
                                    rfl
                                  refine take_ (i := 11) (N := some 94) (v := ?_) (a' := ?_) #[true, true, true, true, true, true, true, true, true, true, true, true, false, false, false] rfl rfl (take_ofW HT_.out HW_.out (by kernel_rfl)) (fun _ _ _ h => h) (Or.inl ⟨by rfl, ?_⟩) hHeld ?_ ?_
                                  rotate_left
                                  · intro w' _
                                    go_simp
                                    with_reducible rfl
                                  rotate_left
                                  · simp only [Act.put, List.setIfInBounds_toArray, List.set_cons_zero, List.set_cons_succ, i64_w, i32_w]
                                    rfl
                                  refine one_ (i := 12) (N := some 95) #[true, true, true, true, true, true, true, true, true, true, true, true, true, false, false] rfl rfl (one_of HT_.out (by kernel_rfl)) (by decide) (fun K hK => ?_)
                                  refine Kd.R_lit_step (Kd.int .u8) _ 5 ?hg (N := 95) ?hd (xs := ([bt (⟨#[65, 66, 67, 68, 69, 70, 71, 72, 73, 74, 75, 76, 77, 78, 79, 80, 81, 82, 83, 84, 85, 86, 87, 88, 89, 90, 97, 98, 99, 100, 101, 102, 103, 104, 105, 106, 107, 108, 109, 110, 111, 112, 113, 114, 115, 116, 117, 118, 119, 120, 121, 122, 48, 49, 50, 51, 52, 53, 54, 55, 56, 57, 43, 47]⟩ : ByteArray) (ji58), bt (⟨#[65, 66, 67, 68, 69, 70, 71, 72, 73, 74, 75, 76, 77, 78, 79, 80, 81, 82, 83, 84, 85, 86, 87, 88, 89, 90, 97, 98, 99, 100, 101, 102, 103, 104, 105, 106, 107, 108, 109, 110, 111, 112, 113, 114, 115, 116, 117, 118, 119, 120, 121, 122, 48, 49, 50, 51, 52, 53, 54, 55, 56, 57, 43, 47]⟩ : ByteArray) (ji62), bt (⟨#[65, 66, 67, 68, 69, 70, 71, 72, 73, 74, 75, 76, 77, 78, 79, 80, 81, 82, 83, 84, 85, 86, 87, 88, 89, 90, 97, 98, 99, 100, 101, 102, 103, 104, 105, 106, 107, 108, 109, 110, 111, 112, 113, 114, 115, 116, 117, 118, 119, 120, 121, 122, 48, 49, 50, 51, 52, 53, 54, 55, 56, 57, 43, 47]⟩ : ByteArray) (ji66), 61] : List Int)) (inner := [.int .u8 (bt (⟨#[65, 66, 67, 68, 69, 70, 71, 72, 73, 74, 75, 76, 77, 78, 79, 80, 81, 82, 83, 84, 85, 86, 87, 88, 89, 90, 97, 98, 99, 100, 101, 102, 103, 104, 105, 106, 107, 108, 109, 110, 111, 112, 113, 114, 115, 116, 117, 118, 119, 120, 121, 122, 48, 49, 50, 51, 52, 53, 54, 55, 56, 57, 43, 47]⟩ : ByteArray) (ji58)), .int .u8 (bt (⟨#[65, 66, 67, 68, 69, 70, 71, 72, 73, 74, 75, 76, 77, 78, 79, 80, 81, 82, 83, 84, 85, 86, 87, 88, 89, 90, 97, 98, 99, 100, 101, 102, 103, 104, 105, 106, 107, 108, 109, 110, 111, 112, 113, 114, 115, 116, 117, 118, 119, 120, 121, 122, 48, 49, 50, 51, 52, 53, 54, 55, 56, 57, 43, 47]⟩ : ByteArray) (ji62)), .int .u8 (bt (⟨#[65, 66, 67, 68, 69, 70, 71, 72, 73, 74, 75, 76, 77, 78, 79, 80, 81, 82, 83, 84, 85, 86, 87, 88, 89, 90, 97, 98, 99, 100, 101, 102, 103, 104, 105, 106, 107, 108, 109, 110, 111, 112, 113, 114, 115, 116, 117, 118, 119, 120, 121, 122, 48, 49, 50, 51, 52, 53, 54, 55, 56, 57, 43, 47]⟩ : ByteArray) (ji66)), .int .u8 61]) (ok := fun _ => True) (okp := fun _ => True) ?hr ?hp (fun _ hk => hk) trivial (Below.refl _ _) (Nat.le_refl _) (by simp) ?_; (case hd => rfl); (case hg => rfl); (case hr => first | (go_simp; done) | (go_simp; rfl)); (case hp => exact (Reps.one (show Kd.M (Kd.int .u8) _ _ _ (bt (⟨#[65, 66, 67, 68, 69, 70, 71, 72, 73, 74, 75, 76, 77, 78, 79, 80, 81, 82, 83, 84, 85, 86, 87, 88, 89, 90, 97, 98, 99, 100, 101, 102, 103, 104, 105, 106, 107, 108, 109, 110, 111, 112, 113, 114, 115, 116, 117, 118, 119, 120, 121, 122, 48, 49, 50, 51, 52, 53, 54, 55, 56, 57, 43, 47]⟩ : ByteArray) (ji58)) [.int .u8 (bt (⟨#[65, 66, 67, 68, 69, 70, 71, 72, 73, 74, 75, 76, 77, 78, 79, 80, 81, 82, 83, 84, 85, 86, 87, 88, 89, 90, 97, 98, 99, 100, 101, 102, 103, 104, 105, 106, 107, 108, 109, 110, 111, 112, 113, 114, 115, 116, 117, 118, 119, 120, 121, 122, 48, 49, 50, 51, 52, 53, 54, 55, 56, 57, 43, 47]⟩ : ByteArray) (ji58))] from rfl) (Reps.one (show Kd.M (Kd.int .u8) _ _ _ (bt (⟨#[65, 66, 67, 68, 69, 70, 71, 72, 73, 74, 75, 76, 77, 78, 79, 80, 81, 82, 83, 84, 85, 86, 87, 88, 89, 90, 97, 98, 99, 100, 101, 102, 103, 104, 105, 106, 107, 108, 109, 110, 111, 112, 113, 114, 115, 116, 117, 118, 119, 120, 121, 122, 48, 49, 50, 51, 52, 53, 54, 55, 56, 57, 43, 47]⟩ : ByteArray) (ji62)) [.int .u8 (bt (⟨#[65, 66, 67, 68, 69, 70, 71, 72, 73, 74, 75, 76, 77, 78, 79, 80, 81, 82, 83, 84, 85, 86, 87, 88, 89, 90, 97, 98, 99, 100, 101, 102, 103, 104, 105, 106, 107, 108, 109, 110, 111, 112, 113, 114, 115, 116, 117, 118, 119, 120, 121, 122, 48, 49, 50, 51, 52, 53, 54, 55, 56, 57, 43, 47]⟩ : ByteArray) (ji62))] from rfl) (Reps.one (show Kd.M (Kd.int .u8) _ _ _ (bt (⟨#[65, 66, 67, 68, 69, 70, 71, 72, 73, 74, 75, 76, 77, 78, 79, 80, 81, 82, 83, 84, 85, 86, 87, 88, 89, 90, 97, 98, 99, 100, 101, 102, 103, 104, 105, 106, 107, 108, 109, 110, 111, 112, 113, 114, 115, 116, 117, 118, 119, 120, 121, 122, 48, 49, 50, 51, 52, 53, 54, 55, 56, 57, 43, 47]⟩ : ByteArray) (ji66)) [.int .u8 (bt (⟨#[65, 66, 67, 68, 69, 70, 71, 72, 73, 74, 75, 76, 77, 78, 79, 80, 81, 82, 83, 84, 85, 86, 87, 88, 89, 90, 97, 98, 99, 100, 101, 102, 103, 104, 105, 106, 107, 108, 109, 110, 111, 112, 113, 114, 115, 116, 117, 118, 119, 120, 121, 122, 48, 49, 50, 51, 52, 53, 54, 55, 56, 57, 43, 47]⟩ : ByteArray) (ji66))] from rfl) (Reps.one (show Kd.M (Kd.int .u8) _ _ _ 61 [.int .u8 61] from rfl) (Reps.none _ _))))))
                                  intro v159 w74 ho75 hb hg_ hnew_
                                  clear hg_ hnew_
                                  (first | rw [← Ny158.out] at ho75 | (simp only [Int.reduceToNat] at ho75; rw [← Ny158.out] at ho75))
                                  have n0_ := Aside0.mk (Kd.V_elder' (by (with_reducible repeat (first | apply Kd.V_alloc | apply Kd.V_drewN | apply Kd.V_drew)); exact HO_0.out) (Kd.R_base ho75) hb)
                                  have n1_ := Aside0.mk (Kd.R_elder' (by (with_reducible repeat (first | apply Kd.R_alloc | apply Kd.R_drewN | apply Kd.R_drew)); exact HO_3.out) (Kd.R_base ho75) hb)
                                  have n2_ := Aside0.mk (Kd.R_lower (Kd.R_new' (Kd.R_newM (M := fun k_ => (w.heap.size ≤ k_)) ho75 (below_size (by repeat (first | (with_reducible first | exact HB.out | apply below_alloc | apply pw_below_drewN | apply below_drew1) | exact HB.out))) (fun k_ h_ => h_)) (Kd.R_lt (by (with_reducible repeat (first | apply Kd.R_alloc | apply Kd.R_drewN | apply Kd.R_drew)); exact HO_3.out))) (below_size (by repeat (first | (with_reducible first | exact HB.out | apply below_alloc | apply pw_below_drewN | apply below_drew1) | exact HB.out))))
                                  have n3_ := Aside0.mk (below_step (by repeat (first | (with_reducible first | exact HB.out | apply below_alloc | apply pw_below_drewN | apply below_drew1) | exact HB.out)) hb)
                                  clear HO_0
                                  clear HO_3
                                  clear HB
                                  have HO_0 := n0_
                                  have HO_3 := n1_
                                  have HO160 := n2_
                                  have HB := n3_
                                  clear n0_ n1_ n2_ n3_
                                  clear hb ho75
                                  obtain ⟨Ao77, co77, eo77⟩ := Kd.R_slice HO160.out
                                  (first | subst eo77 | (injection eo77 with f1_ f2_ f3_; have f4_ := f1_.symm; have f5_ := f3_.symm; clear f1_ f2_ f3_; subst f4_; subst f5_))
                                  refine hK.out _ _ trivial (fun hHeld => ?_)
                                  clear hK K
                                  refine norm_ (a' := ?_) ?_ ?_
                                  rotate_left
                                  · show Act.put _ (some 95) _ = _
                                    simp only [Act.put, List.setIfInBounds_toArray, List.set_cons_zero, List.set_cons_succ, i64_w, i32_w]
                                    rfl
                                  refine one_ (i := 13) (N := some 96) #[true, true, true, true, true, true, true, true, true, true, true, true, true, true, false] rfl rfl (one_of HT_.out (by kernel_rfl)) (by decide) (fun K hK => ?_)
                                  refine Kd.R_append_rows_step (Kd.int .u8) (w0 := w) w.heap.size (by rfl) (.tmp 83) (.tmp 95) 22 5 (.int .u8 0) 1 rfl Tryd.underlying22 info5 rfl (by decide) (by omega) u3 x3_1 y158 _ _ _ (fun k_ => (w.heap.size ≤ k_) ∧ some k_ ≠ (.slice Ao77 y158.length co77 : Value).ownBlock) (fun _ => False) rfl rfl ?aO ?aR (fun _ _ h => h) (fun _ h => h.elim) ?aF ?aB ?aS ?aL ?_
                                  (case aR => repeat (first | exact (Kd.R_reads' HO160.out).2.2 | (with_reducible refine Kd.C_alloc ?_ _) | (with_reducible refine Kd.C_drewN ?_ _) | (with_reducible refine Kd.C_drew ?_)))
                                  (case aB => exact (by repeat (first | (with_reducible first | exact HB.out | apply below_alloc | apply pw_below_drewN | apply below_drew1) | exact HB.out)))
                                  (case aF => exact (fun k_ hk => ⟨(Nat.le_trans (below_size (by repeat (first | (with_reducible first | exact HB.out | apply below_alloc | apply pw_below_drewN | apply below_drew1) | exact HB.out))) hk), Kd.fresh' (Kd.R_lt (by (with_reducible repeat (first | apply Kd.R_alloc | apply Kd.R_drewN | apply Kd.R_drew)); exact HO160.out)) k_ hk⟩))
                                  (case aO => exact (by (with_reducible repeat (first | apply Kd.R_alloc | apply Kd.R_drewN | apply Kd.R_drew)); exact HO_3.out))
                                  (case aS => exact (below_size (by repeat (first | (with_reducible first | exact HB.out | apply below_alloc | apply pw_below_drewN | apply below_drew1) | exact HB.out))))
                                  (case aL => have := LMc70.out; omega)
                                  intro v162 w76 ho hb hg hat
                                  rw [← Ny161.out] at ho
                                  have n0_ := Aside0.mk (Kd.V_afterv (ok := (fun k_ => (P0_ k_ ∨ w.heap.size ≤ k_) ∧ some k_ ≠ (.slice Ao77 y158.length co77 : Value).ownBlock)) (by (with_reducible repeat (first | apply Kd.V_alloc | apply Kd.V_drewN | apply Kd.V_drew)); exact Kd.V_mono HO_0.out (fun _ hk => ⟨⟨hk.1.1, hk.2⟩, hk.1.2⟩)) hg hat)
                                  have n1_ := Aside0.mk (Kd.R_after (ok := (fun k_ => (w.heap.size ≤ k_))) (by (with_reducible repeat (first | apply Kd.R_alloc | apply Kd.R_drewN | apply Kd.R_drew)); exact Kd.R_mono HO160.out (fun _ hk => ⟨hk.1.1, hk.2⟩)) hg hat)
                                  have n2_ := Aside0.mk (hb)
                                  have n3_ := Aside0.mk (ho)
                                  clear HO_0
                                  clear HO160
                                  clear HB
                                  clear HO_3
                                  have HO_0 := n0_
                                  have HO160 := n1_
                                  have HB := n2_
                                  have HO163 := n3_
                                  clear n0_ n1_ n2_ n3_
                                  clear ho hb hg hat
                                  refine hK.out _ _ trivial (fun hHeld => ?_)
                                  clear hK K
                                  refine norm_ (a' := ?_) ?_ ?_
                                  rotate_left
                                  · show Act.put _ (some 96) _ = _
                                    simp only [Act.put, List.setIfInBounds_toArray, List.set_cons_zero, List.set_cons_succ, i64_w, i32_w]
                                    rfl
                                  refine pure_ (i := 14) (N := some 3) (v := ?_) (a' := ?_) #[true, true, true, true, true, true, true, true, true, true, true, true, true, true, true] rfl rfl (any_of HT_.out (by kernel_rfl)) (fun _ _ _ h => h) (Or.inl ⟨by rfl, ?_⟩) ?_ ?_
                                  rotate_left
                                  · intro w'
                                    go_simp
                                    with_reducible rfl
                                  rotate_left
                                  · simp only [Act.put, List.setIfInBounds_toArray, List.set_cons_zero, List.set_cons_succ, i64_w, i32_w]
                                    rfl
                                  refine done_ (done_of HT_.out (by kernel_rfl)) ?_
                                  have hcv78 := own_string (P := Tryd.prog) Tryd.underlying22 Tryd.underlying5 Tryd.underlying9 (Kd.own_of_R HO163.out)
                                  try go_wp2
                                  go_ret
                                  exact ⟨by first | rfl | (simp [errW_none, errW_some] <;> rfl) | (simp only [← hji2, ← hji58, ← hji62, ← hji66]; first | rfl | (simp [errW_none, errW_some] <;> rfl)) | (simp [*, errW_none, errW_some] <;> rfl), by repeat (first | (with_reducible first | exact HB.out | apply below_alloc | apply pw_below_drewN | apply below_drew1) | exact HB.out)⟩
                                · rw [if_neg c70] at H
                                  exact absurd H (by simp)
                              · rw [if_neg c68] at H
                                exact absurd H (by simp)
                            · rw [if_neg c67] at H
                              exact absurd H (by simp)
                          · rw [if_neg c64] at H
                            exact absurd H (by simp)
                        · rw [if_neg c63] at H
                          exact absurd H (by simp)
                      · rw [if_neg c60] at H
                        exact absurd H (by simp)
                    · rw [if_neg c59] at H
                      exact absurd H (by simp)
                  · rw [if_neg c57] at H
                    exact absurd H (by simp)
                · rw [if_neg c56] at H
                  exact absurd H (by simp)
              · rw [if_neg c55] at H
                have c55b0 : ((x0_1.length : Int) == 2) = false := beq_eq_false_iff_ne.mpr c55
                have c55b1 : ((x0_1.length : Int) != 2) = true := bne_iff_ne.mpr c55
                obtain rfl := Option.some.inj H
                obtain ⟨Ao79, co79, eo79⟩ := Kd.V_slice HO_0.out
                subst eo79
                have hcv80 := own_string (P := Tryd.prog) Tryd.underlying22 Tryd.underlying5 Tryd.underlying9 (Kd.own_of_R HO_3.out)
                go_wp2
                go_ret
                exact ⟨by first | rfl | (simp [errW_none, errW_some] <;> rfl) | (simp only [← hji2]; first | rfl | (simp [errW_none, errW_some] <;> rfl)) | (simp [*, errW_none, errW_some] <;> rfl), by repeat (first | (with_reducible first | exact HB.out | apply below_alloc | apply pw_below_drewN | apply below_drew1) | exact HB.out)⟩
    · rw [if_neg c4] at H
      exact absurd H (by simp)
  · rw [if_neg c3] at H
    exact absurd H (by simp)
end Go.Proofs.YtljinjgamgmocaaDoor.G
end
section
namespace Go.Proofs.YtljinjgamgmocaaDoor.Pure
open Go.RowKit Go.Proofs.YtljinjgamgmocaaDoor.G Go.Proofs.YtljinjgamgmocaaDoorW.PrintWords Go.Proofs.YtljinjgamgmocaaDoorW.PrintLast Go.Proofs.YtljinjgamgmocaaDoorW.PrintMore
set_option linter.unusedSimpArgs false
set_option linter.unusedVariables false
theorem w64 {x : Int} (h0 : -9223372036854775808 ≤ x) (h1 : x ≤ 9223372036854775807) : wrap64 x = x := by unfold wrap64; omega
def Bytes (l : List Int) : Prop := ∀ x ∈ l, 0 ≤ x ∧ x ≤ 255
theorem Bytes.nil : Bytes [] := fun _ h => by cases h
theorem Bytes.cons {x : Int} {l : List Int} (h : Bytes (x :: l)) : (0 ≤ x ∧ x ≤ 255) ∧ Bytes l := ⟨h x (by simp), fun y hy => h y (by simp [hy])⟩
theorem Bytes.mk {x : Int} {l : List Int} (h0 : 0 ≤ x) (h1 : x ≤ 255) (h : Bytes l) : Bytes (x :: l) := fun y hy => by
  rcases List.mem_cons.1 hy with rfl | hy
  · exact ⟨h0, h1⟩
  · exact h y hy
theorem Bytes.app {a b : List Int} (ha : Bytes a) (hb : Bytes b) : Bytes (a ++ b) := fun x hx => by
  rcases List.mem_append.1 hx with h | h
  · exact ha x h
  · exact hb x h
theorem Bytes.left {a b : List Int} (h : Bytes (a ++ b)) : Bytes a := fun x hx => h x (List.mem_append_left _ hx)
theorem Bytes.right {a b : List Int} (h : Bytes (a ++ b)) : Bytes b := fun x hx => h x (List.mem_append_right _ hx)
theorem bytesOf_bytes (s : ByteArray) : Bytes (bytesOf s) := by
  intro x hx
  simp only [bytesOf, List.mem_map] at hx
  obtain ⟨b, _, rfl⟩ := hx
  have := b.toNat_lt
  omega
theorem map_toNat_inj : ∀ {l m : List UInt8}, (l.map fun b => (b.toNat : Int)) = m.map (fun b => (b.toNat : Int)) → l = m
  | [], [], _ => rfl
  | [], _ :: _, h => by simp at h
  | _ :: _, [], h => by simp at h
  | a :: l, b :: m, h => by
    simp only [List.map_cons, List.cons.injEq] at h
    obtain ⟨h1, h2⟩ := h
    rw [map_toNat_inj h2, UInt8.toNat_inj.1 (by omega : a.toNat = b.toNat)]
theorem toList_iff (s t : ByteArray) : s.toList = t.toList ↔ bytesOf s = bytesOf t := by
  rw [Lib.toList_data, Lib.toList_data]
  exact ⟨fun h => by simp only [bytesOf, h], fun h => map_toNat_inj h⟩
theorem toList_nil_iff (s : ByteArray) : s.toList = [] ↔ bytesOf s = [] := by
  rw [Lib.toList_data, bytesOf, List.map_eq_nil_iff]
theorem ofNat_toNat {x : Int} (h0 : 0 ≤ x) (h1 : x ≤ 255) : ((UInt8.ofNat x.toNat).toNat : Int) = x := by
  rw [UInt8.toNat_ofNat']
  omega
theorem bytesOf_str {l : List Int} (h : Bytes l) : bytesOf (strOfNums l) = l := by
  rw [bytesOf, strOfNums_data, List.map_map]
  induction l with
  | nil => rfl
  | cons x l ih =>
    obtain ⟨hx, hl⟩ := h.cons
    rw [List.map_cons, ih hl]
    simp only [Function.comp]
    rw [ofNat_toNat hx.1 hx.2]
theorem bytesOf_extract (s : ByteArray) (a b : Nat) : bytesOf (s.extract a b) = ((bytesOf s).drop a).take (b - a) := by
  simp [bytesOf, ByteArray.data_extract, List.map_drop, List.map_take]
theorem rd_mid (p r : List Int) (x : Int) : rd (p ++ x :: r) (p.length : Int) = x := by
  unfold rd
  simp
theorem rd_zero (x : Int) (r : List Int) : rd (x :: r) 0 = x := rfl
theorem rd_one (x y : Int) (r : List Int) : rd (x :: y :: r) 1 = y := rfl
theorem rd_two (x y z : Int) (r : List Int) : rd (x :: y :: z :: r) 2 = z := rfl
theorem bt_mid {s : ByteArray} {p r : List Int} {x : Int} (h : bytesOf s = p ++ x :: r) : bt s (p.length : Int) = x := by
  rw [← rd_bytesOf, h, rd_mid]
theorem size_of {s : ByteArray} {l : List Int} (h : bytesOf s = l) : s.size = l.length := by rw [← h, bytesOf_length]
theorem rounds {k n : Nat} (h : n < k) : ∃ m, k = m + 1 := ⟨k - 1, by omega⟩
theorem more {α : Type} {g : Nat → Option α} (hg : ∀ k, LeO (g k) (g (k + 1))) {n k : Nat} {r : α} (h : g n = some r) (hk : n ≤ k) : g k = some r := at_rounds hg hk h
end Go.Proofs.YtljinjgamgmocaaDoor.Pure
end
section
namespace Go.Proofs.YtljinjgamgmocaaDoor.G
open Go.RowKit Go.Proofs.YtljinjgamgmocaaDoorW.PrintWords Go.Proofs.YtljinjgamgmocaaDoorW.PrintLast Go.Proofs.YtljinjgamgmocaaDoorW.PrintMore
set_option linter.unusedVariables false
set_option linter.unusedSimpArgs false
mutual
def ledgerlaw06_TextOnce.j0 : Nat → ByteArray → Bool → Option (Bool)
  | 0, _, _ => none
  | k + 1, x0, x69 => if x69 = true then (some false) else ((text_DecodeBase64.f k x0).bind fun bt432 => (if bt432.2 = 0 then ((text_EncodeBase64.f k bt432.1).bind fun t436 => (ledgerlaw06_TextOnce.j1 k x0 (t436.toList != x0.toList))) else (ledgerlaw06_TextOnce.j1 k x0 false)))
def ledgerlaw06_TextOnce.j1 : Nat → ByteArray → Bool → Option (Bool)
  | 0, _, _ => none
  | k + 1, x0, x82 => if x82 = true then (some false) else ((text_DecodeHex.f k x0).bind fun bt437 => (if bt437.2 = 0 then ((text_EncodeHex.f k bt437.1).bind fun t441 => (ledgerlaw06_TextOnce.j2 k x0 (t441.toList != x0.toList))) else (ledgerlaw06_TextOnce.j2 k x0 false)))
def ledgerlaw06_TextOnce.j2 : Nat → ByteArray → Bool → Option (Bool)
  | 0, _, _ => none
  | k + 1, x0, x95 => if x95 = true then (some false) else ((text_Unquote.f k x0).bind fun bt442 => (if bt442.2 = 0 then ((text_Quote.f k bt442.1).bind fun t446 => (ledgerlaw06_TextOnce.j3 k x0 (t446.toList != x0.toList))) else (ledgerlaw06_TextOnce.j3 k x0 false)))
def ledgerlaw06_TextOnce.j3 : Nat → ByteArray → Bool → Option (Bool)
  | 0, _, _ => none
  | k + 1, x0, x108 => if x108 = true then (some false) else ((text_ParseNumber.f x0 9223372036854775807).bind fun bt447 => (if bt447.2 = 0 then ((text_FormatNumber.f bt447.1).bind fun t449 => (some (t449.toList == x0.toList))) else (some true)))
end
def ledgerlaw06_TextOnce.f (k : Nat) (a0 : ByteArray) : Option (Bool) := (text_DecodeBase64.f k (⟨#[47, 119, 61, 61]⟩ : ByteArray)).bind fun bt417 => ((text_DecodeHex.f k (⟨#[102, 102]⟩ : ByteArray)).bind fun bt421 => ((text_Unquote.f k (⟨#[34, 92, 120, 102, 102, 34]⟩ : ByteArray)).bind fun bt425 => ((text_ParseNumber.f (⟨#[50, 53, 53]⟩ : ByteArray) 255).bind fun bt429 => (if bt417.2 = 0 then (if bt421.2 = 0 then (if bt425.2 = 0 then (if bt429.2 = 0 then (if (bt417.1.length : Int) = 1 then (if 0 < (bt417.1.length : Int) then (if (rd bt417.1 0) = 255 then (if (strOfNums bt421.1).toList = (strOfNums bt417.1).toList then (if (strOfNums bt425.1).toList = (strOfNums bt417.1).toList then (ledgerlaw06_TextOnce.j0 k a0 (bt429.1 != 255)) else (ledgerlaw06_TextOnce.j0 k a0 true)) else (ledgerlaw06_TextOnce.j0 k a0 true)) else (ledgerlaw06_TextOnce.j0 k a0 true)) else (none)) else (ledgerlaw06_TextOnce.j0 k a0 true)) else (ledgerlaw06_TextOnce.j0 k a0 true)) else (ledgerlaw06_TextOnce.j0 k a0 true)) else (ledgerlaw06_TextOnce.j0 k a0 true)) else (ledgerlaw06_TextOnce.j0 k a0 true)))))
theorem ledgerlaw06_TextOnce.mono_l : ∀ k, (∀ y0 y1, LeO (ledgerlaw06_TextOnce.j0 k y0 y1) (ledgerlaw06_TextOnce.j0 (k + 1) y0 y1)) ∧ (∀ y0 y1, LeO (ledgerlaw06_TextOnce.j1 k y0 y1) (ledgerlaw06_TextOnce.j1 (k + 1) y0 y1)) ∧ (∀ y0 y1, LeO (ledgerlaw06_TextOnce.j2 k y0 y1) (ledgerlaw06_TextOnce.j2 (k + 1) y0 y1)) ∧ (∀ y0 y1, LeO (ledgerlaw06_TextOnce.j3 k y0 y1) (ledgerlaw06_TextOnce.j3 (k + 1) y0 y1))
  | 0 => ⟨fun _ _ r h => by simp [ledgerlaw06_TextOnce.j0] at h, fun _ _ r h => by simp [ledgerlaw06_TextOnce.j1] at h, fun _ _ r h => by simp [ledgerlaw06_TextOnce.j2] at h, fun _ _ r h => by simp [ledgerlaw06_TextOnce.j3] at h⟩
  | k + 1 => by
    obtain ⟨ih0, ih1, ih2, ih3⟩ := ledgerlaw06_TextOnce.mono_l k
    refine ⟨?_, ?_, ?_, ?_⟩
    · intro y0 y1
      unfold ledgerlaw06_TextOnce.j0
      repeat' first
      | (with_reducible exact ih0 _ _)
      | (with_reducible exact ih1 _ _)
      | (with_reducible exact ih2 _ _)
      | (with_reducible exact ih3 _ _)
      | (with_reducible exact text_DecodeBase64.mono _ _)
      | (with_reducible exact text_DecodeHex.mono _ _)
      | (with_reducible exact text_EncodeBase64.mono _ _)
      | (with_reducible exact text_EncodeHex.mono _ _)
      | (with_reducible exact text_Quote.mono _ _)
      | (with_reducible exact text_Unquote.mono _ _)
      | (with_reducible exact LeO.refl _)
      | (with_reducible exact LeO.none _)
      | (with_reducible refine LeO.ite ?_ ?_)
      | (with_reducible refine LeO.bind ?_ (fun _ => ?_))
      | exact ih0 _ _
      | exact ih1 _ _
      | exact ih2 _ _
      | exact ih3 _ _
      | exact text_DecodeBase64.mono _ _
      | exact text_DecodeHex.mono _ _
      | exact text_EncodeBase64.mono _ _
      | exact text_EncodeHex.mono _ _
      | exact text_Quote.mono _ _
      | exact text_Unquote.mono _ _
      | exact LeO.none _
      | refine LeO.ite ?_ ?_
      | refine LeO.bind ?_ (fun _ => ?_)
    · intro y0 y1
      unfold ledgerlaw06_TextOnce.j1
      repeat' first
      | (with_reducible exact ih0 _ _)
      | (with_reducible exact ih1 _ _)
      | (with_reducible exact ih2 _ _)
      | (with_reducible exact ih3 _ _)
      | (with_reducible exact text_DecodeBase64.mono _ _)
      | (with_reducible exact text_DecodeHex.mono _ _)
      | (with_reducible exact text_EncodeBase64.mono _ _)
      | (with_reducible exact text_EncodeHex.mono _ _)
      | (with_reducible exact text_Quote.mono _ _)
      | (with_reducible exact text_Unquote.mono _ _)
      | (with_reducible exact LeO.refl _)
      | (with_reducible exact LeO.none _)
      | (with_reducible refine LeO.ite ?_ ?_)
      | (with_reducible refine LeO.bind ?_ (fun _ => ?_))
      | exact ih0 _ _
      | exact ih1 _ _
      | exact ih2 _ _
      | exact ih3 _ _
      | exact text_DecodeBase64.mono _ _
      | exact text_DecodeHex.mono _ _
      | exact text_EncodeBase64.mono _ _
      | exact text_EncodeHex.mono _ _
      | exact text_Quote.mono _ _
      | exact text_Unquote.mono _ _
      | exact LeO.none _
      | refine LeO.ite ?_ ?_
      | refine LeO.bind ?_ (fun _ => ?_)
    · intro y0 y1
      unfold ledgerlaw06_TextOnce.j2
      repeat' first
      | (with_reducible exact ih0 _ _)
      | (with_reducible exact ih1 _ _)
      | (with_reducible exact ih2 _ _)
      | (with_reducible exact ih3 _ _)
      | (with_reducible exact text_DecodeBase64.mono _ _)
      | (with_reducible exact text_DecodeHex.mono _ _)
      | (with_reducible exact text_EncodeBase64.mono _ _)
      | (with_reducible exact text_EncodeHex.mono _ _)
      | (with_reducible exact text_Quote.mono _ _)
      | (with_reducible exact text_Unquote.mono _ _)
      | (with_reducible exact LeO.refl _)
      | (with_reducible exact LeO.none _)
      | (with_reducible refine LeO.ite ?_ ?_)
      | (with_reducible refine LeO.bind ?_ (fun _ => ?_))
      | exact ih0 _ _
      | exact ih1 _ _
      | exact ih2 _ _
      | exact ih3 _ _
      | exact text_DecodeBase64.mono _ _
      | exact text_DecodeHex.mono _ _
      | exact text_EncodeBase64.mono _ _
      | exact text_EncodeHex.mono _ _
      | exact text_Quote.mono _ _
      | exact text_Unquote.mono _ _
      | exact LeO.none _
      | refine LeO.ite ?_ ?_
      | refine LeO.bind ?_ (fun _ => ?_)
    · intro y0 y1
      unfold ledgerlaw06_TextOnce.j3
      repeat' first
      | (with_reducible exact ih0 _ _)
      | (with_reducible exact ih1 _ _)
      | (with_reducible exact ih2 _ _)
      | (with_reducible exact ih3 _ _)
      | (with_reducible exact text_DecodeBase64.mono _ _)
      | (with_reducible exact text_DecodeHex.mono _ _)
      | (with_reducible exact text_EncodeBase64.mono _ _)
      | (with_reducible exact text_EncodeHex.mono _ _)
      | (with_reducible exact text_Quote.mono _ _)
      | (with_reducible exact text_Unquote.mono _ _)
      | (with_reducible exact LeO.refl _)
      | (with_reducible exact LeO.none _)
      | (with_reducible refine LeO.ite ?_ ?_)
      | (with_reducible refine LeO.bind ?_ (fun _ => ?_))
      | exact ih0 _ _
      | exact ih1 _ _
      | exact ih2 _ _
      | exact ih3 _ _
      | exact text_DecodeBase64.mono _ _
      | exact text_DecodeHex.mono _ _
      | exact text_EncodeBase64.mono _ _
      | exact text_EncodeHex.mono _ _
      | exact text_Quote.mono _ _
      | exact text_Unquote.mono _ _
      | exact LeO.none _
      | refine LeO.ite ?_ ?_
      | refine LeO.bind ?_ (fun _ => ?_)
theorem ledgerlaw06_TextOnce.mono : ∀ a0 k, LeO (ledgerlaw06_TextOnce.f k a0) (ledgerlaw06_TextOnce.f (k + 1) a0) := by
  intro a0 k
  obtain ⟨ih0, ih1, ih2, ih3⟩ := ledgerlaw06_TextOnce.mono_l k
  unfold ledgerlaw06_TextOnce.f
  repeat' first
      | (with_reducible exact ih0 _ _)
      | (with_reducible exact ih1 _ _)
      | (with_reducible exact ih2 _ _)
      | (with_reducible exact ih3 _ _)
      | (with_reducible exact text_DecodeBase64.mono _ _)
      | (with_reducible exact text_DecodeHex.mono _ _)
      | (with_reducible exact text_EncodeBase64.mono _ _)
      | (with_reducible exact text_EncodeHex.mono _ _)
      | (with_reducible exact text_Quote.mono _ _)
      | (with_reducible exact text_Unquote.mono _ _)
      | (with_reducible exact LeO.refl _)
      | (with_reducible exact LeO.none _)
      | (with_reducible refine LeO.ite ?_ ?_)
      | (with_reducible refine LeO.bind ?_ (fun _ => ?_))
      | exact ih0 _ _
      | exact ih1 _ _
      | exact ih2 _ _
      | exact ih3 _ _
      | exact text_DecodeBase64.mono _ _
      | exact text_DecodeHex.mono _ _
      | exact text_EncodeBase64.mono _ _
      | exact text_EncodeHex.mono _ _
      | exact text_Quote.mono _ _
      | exact text_Unquote.mono _ _
      | exact LeO.none _
      | refine LeO.ite ?_ ?_
      | refine LeO.bind ?_ (fun _ => ?_)
def ledgerlaw06_numbers.f  : Option (Bool) := some true
def ledgerref06_EncodeHex.l0 : Nat → List Int → List Int → Int → Option (ByteArray)
  | 0, _, _, _ => none
  | k + 1, x0, x3, x4 => if x4 < (x0.length : Int) then (if 0 ≤ x4 then (if 0 ≤ ((Int.tdiv (rd x0 x4) 16) % 256) then (if ((Int.tdiv (rd x0 x4) 16) % 256) < 16 then (if x3.length < 140737488355328 then ((some (x3 ++ [bt (⟨#[48, 49, 50, 51, 52, 53, 54, 55, 56, 57, 97, 98, 99, 100, 101, 102]⟩ : ByteArray) ((Int.tdiv (rd x0 x4) 16) % 256)] : List Int)).bind fun y451 => (if 0 ≤ (Int.tmod (rd x0 x4) 16) then (if (Int.tmod (rd x0 x4) 16) < 16 then (if y451.length < 140737488355328 then (ledgerref06_EncodeHex.l0 k x0 (y451 ++ [bt (⟨#[48, 49, 50, 51, 52, 53, 54, 55, 56, 57, 97, 98, 99, 100, 101, 102]⟩ : ByteArray) (Int.tmod (rd x0 x4) 16)]) (wrap64 (x4 + 1))) else (none)) else (none)) else (none))) else (none)) else (none)) else (none)) else (none)) else (some (strOfNums x3))
def ledgerref06_EncodeHex.f (k : Nat) (l0 : List Int) : Option (ByteArray) := ledgerref06_EncodeHex.l0 k l0 ([] : List Int) 0
theorem ledgerref06_EncodeHex.mono_l : ∀ k, (∀ y0 y1 y2, LeO (ledgerref06_EncodeHex.l0 k y0 y1 y2) (ledgerref06_EncodeHex.l0 (k + 1) y0 y1 y2))
  | 0 => fun _ _ _ r h => by simp [ledgerref06_EncodeHex.l0] at h
  | k + 1 => by
    have ih0 := ledgerref06_EncodeHex.mono_l k
    · intro y0 y1 y2
      unfold ledgerref06_EncodeHex.l0
      repeat' first
      | (with_reducible exact ih0 _ _ _)
      | (with_reducible exact LeO.refl _)
      | (with_reducible exact LeO.none _)
      | (with_reducible refine LeO.ite ?_ ?_)
      | (with_reducible refine LeO.bind ?_ (fun _ => ?_))
      | exact ih0 _ _ _
      | exact LeO.none _
      | refine LeO.ite ?_ ?_
      | refine LeO.bind ?_ (fun _ => ?_)
theorem ledgerref06_EncodeHex.mono : ∀ a0 k, LeO (ledgerref06_EncodeHex.f k a0) (ledgerref06_EncodeHex.f (k + 1) a0) := by
  intro a0 k
  have ih0 := ledgerref06_EncodeHex.mono_l k
  unfold ledgerref06_EncodeHex.f
  repeat' first
      | (with_reducible exact ih0 _ _ _)
      | (with_reducible exact LeO.refl _)
      | (with_reducible exact LeO.none _)
      | (with_reducible refine LeO.ite ?_ ?_)
      | (with_reducible refine LeO.bind ?_ (fun _ => ?_))
      | exact ih0 _ _ _
      | exact LeO.none _
      | refine LeO.ite ?_ ?_
      | refine LeO.bind ?_ (fun _ => ?_)
def ledgerref06_Pieces.l0 : Nat → ByteArray → List ByteArray → Int → Int → Option (List ByteArray)
  | 0, _, _, _, _ => none
  | k + 1, x0, x3, x4, x5 => if x5 < (x0.size : Int) then (if 0 ≤ x5 then (if (bt x0 x5) = 10 then (if 0 ≤ x4 then (if x4 ≤ x5 then (if x5 ≤ (x0.size : Int) then (if x3.length < 8796093022208 then (ledgerref06_Pieces.l0 k x0 (x3 ++ [x0.extract (x4 : Int).toNat (x5 : Int).toNat]) (wrap64 (x5 + 1)) (wrap64 (x5 + 1))) else (none)) else (none)) else (none)) else (none)) else (ledgerref06_Pieces.l0 k x0 x3 x4 (wrap64 (x5 + 1)))) else (none)) else (if x4 < (x0.size : Int) then (if 0 ≤ x4 then (if x4 ≤ (x0.size : Int) then (if x3.length < 8796093022208 then (some (x3 ++ [x0.extract (x4 : Int).toNat x0.size])) else (none)) else (none)) else (none)) else (some x3))
def ledgerref06_Pieces.f (k : Nat) (a0 : ByteArray) : Option (List ByteArray) := if (a0.size : Int) > 1048576 then (some ([] : List ByteArray)) else (ledgerref06_Pieces.l0 k a0 ([] : List ByteArray) 0 0)
theorem ledgerref06_Pieces.mono_l : ∀ k, (∀ y0 y1 y2 y3, LeO (ledgerref06_Pieces.l0 k y0 y1 y2 y3) (ledgerref06_Pieces.l0 (k + 1) y0 y1 y2 y3))
  | 0 => fun _ _ _ _ r h => by simp [ledgerref06_Pieces.l0] at h
  | k + 1 => by
    have ih0 := ledgerref06_Pieces.mono_l k
    · intro y0 y1 y2 y3
      unfold ledgerref06_Pieces.l0
      repeat' first
      | (with_reducible exact ih0 _ _ _ _)
      | (with_reducible exact LeO.refl _)
      | (with_reducible exact LeO.none _)
      | (with_reducible refine LeO.ite ?_ ?_)
      | (with_reducible refine LeO.bind ?_ (fun _ => ?_))
      | exact ih0 _ _ _ _
      | exact LeO.none _
      | refine LeO.ite ?_ ?_
      | refine LeO.bind ?_ (fun _ => ?_)
theorem ledgerref06_Pieces.mono : ∀ a0 k, LeO (ledgerref06_Pieces.f k a0) (ledgerref06_Pieces.f (k + 1) a0) := by
  intro a0 k
  have ih0 := ledgerref06_Pieces.mono_l k
  unfold ledgerref06_Pieces.f
  repeat' first
      | (with_reducible exact ih0 _ _ _ _)
      | (with_reducible exact LeO.refl _)
      | (with_reducible exact LeO.none _)
      | (with_reducible refine LeO.ite ?_ ?_)
      | (with_reducible refine LeO.bind ?_ (fun _ => ?_))
      | exact ih0 _ _ _ _
      | exact LeO.none _
      | refine LeO.ite ?_ ?_
      | refine LeO.bind ?_ (fun _ => ?_)
def ledgerref06_Lines.f (k : Nat) (a0 : ByteArray) : Option (List ByteArray × Int) := if (a0.size : Int) > 1048576 then (some (([] : List ByteArray), 2)) else (if a0.toList = ([] : List UInt8) then ((ledgerref06_Pieces.f k a0).bind fun t464 => (some (t464, 0))) else (if 0 ≤ (wrap64 ((a0.size : Int) - 1)) then (if (wrap64 ((a0.size : Int) - 1)) < (a0.size : Int) then (if (bt a0 (wrap64 ((a0.size : Int) - 1))) = 10 then ((ledgerref06_Pieces.f k a0).bind fun t467 => (some (t467, 0))) else (some (([] : List ByteArray), 64))) else (none)) else (none)))
theorem ledgerref06_Lines.mono : ∀ a0 k, LeO (ledgerref06_Lines.f k a0) (ledgerref06_Lines.f (k + 1) a0) := by
  intro a0 k
  unfold ledgerref06_Lines.f
  repeat' first
      | (with_reducible exact ledgerref06_Pieces.mono _ _)
      | (with_reducible exact LeO.refl _)
      | (with_reducible exact LeO.none _)
      | (with_reducible refine LeO.ite ?_ ?_)
      | (with_reducible refine LeO.bind ?_ (fun _ => ?_))
      | exact ledgerref06_Pieces.mono _ _
      | exact LeO.none _
      | refine LeO.ite ?_ ?_
      | refine LeO.bind ?_ (fun _ => ?_)
def ledgerlaw06_sameLines.l0 : Nat → List ByteArray → List ByteArray → Int → Option (Bool)
  | 0, _, _, _ => none
  | k + 1, x0, x1, x5 => if x5 < (x0.length : Int) then (if 0 ≤ x5 then (if x5 < (x1.length : Int) then (if (rdOf ByteArray.empty x0 x5).toList = (rdOf ByteArray.empty x1 x5).toList then (ledgerlaw06_sameLines.l0 k x0 x1 (wrap64 (x5 + 1))) else (some false)) else (none)) else (none)) else (some true)
def ledgerlaw06_sameLines.f (k : Nat) (l0 : List ByteArray) (l1 : List ByteArray) : Option (Bool) := if (l0.length : Int) = (l1.length : Int) then (ledgerlaw06_sameLines.l0 k l0 l1 0) else (some false)
theorem ledgerlaw06_sameLines.mono_l : ∀ k, (∀ y0 y1 y2, LeO (ledgerlaw06_sameLines.l0 k y0 y1 y2) (ledgerlaw06_sameLines.l0 (k + 1) y0 y1 y2))
  | 0 => fun _ _ _ r h => by simp [ledgerlaw06_sameLines.l0] at h
  | k + 1 => by
    have ih0 := ledgerlaw06_sameLines.mono_l k
    · intro y0 y1 y2
      unfold ledgerlaw06_sameLines.l0
      repeat' first
      | (with_reducible exact ih0 _ _ _)
      | (with_reducible exact LeO.refl _)
      | (with_reducible exact LeO.none _)
      | (with_reducible refine LeO.ite ?_ ?_)
      | (with_reducible refine LeO.bind ?_ (fun _ => ?_))
      | exact ih0 _ _ _
      | exact LeO.none _
      | refine LeO.ite ?_ ?_
      | refine LeO.bind ?_ (fun _ => ?_)
theorem ledgerlaw06_sameLines.mono : ∀ a0 a1 k, LeO (ledgerlaw06_sameLines.f k a0 a1) (ledgerlaw06_sameLines.f (k + 1) a0 a1) := by
  intro a0 a1 k
  have ih0 := ledgerlaw06_sameLines.mono_l k
  unfold ledgerlaw06_sameLines.f
  repeat' first
      | (with_reducible exact ih0 _ _ _)
      | (with_reducible exact LeO.refl _)
      | (with_reducible exact LeO.none _)
      | (with_reducible refine LeO.ite ?_ ?_)
      | (with_reducible refine LeO.bind ?_ (fun _ => ?_))
      | exact ih0 _ _ _
      | exact LeO.none _
      | refine LeO.ite ?_ ?_
      | refine LeO.bind ?_ (fun _ => ?_)
def text_Cut.f (a0 : ByteArray) : Option (ByteArray × ByteArray × Bool) := if (a0.size : Int) > 1048576 then (some ((⟨#[]⟩ : ByteArray), (⟨#[]⟩ : ByteArray), false)) else ((strings_LastIndex.f a0 (⟨#[10, 10]⟩ : ByteArray)).bind fun t472 => (if t472 < 0 then (some ((⟨#[]⟩ : ByteArray), (⟨#[]⟩ : ByteArray), false)) else (if 0 ≤ (wrap64 (t472 + 1)) then (if (wrap64 (t472 + 1)) ≤ (a0.size : Int) then (if 0 ≤ (wrap64 (t472 + 2)) then (if (wrap64 (t472 + 2)) ≤ (a0.size : Int) then (some (a0.extract 0 ((wrap64 (t472 + 1)) : Int).toNat, a0.extract ((wrap64 (t472 + 2)) : Int).toNat a0.size, true)) else (none)) else (none)) else (none)) else (none))))
def ledgerref06_Cut.l0 : Nat → ByteArray → Int → Option (ByteArray × ByteArray × Bool)
  | 0, _, _ => none
  | k + 1, x0, x5 => if x5 ≥ 0 then (if 0 ≤ x5 then (if x5 < (x0.size : Int) then (if (bt x0 x5) = 10 then (if 0 ≤ (wrap64 (x5 + 1)) then (if (wrap64 (x5 + 1)) < (x0.size : Int) then (if (bt x0 (wrap64 (x5 + 1))) = 10 then (if (wrap64 (x5 + 1)) ≤ (x0.size : Int) then (if 0 ≤ (wrap64 (x5 + 2)) then (if (wrap64 (x5 + 2)) ≤ (x0.size : Int) then (some (x0.extract 0 ((wrap64 (x5 + 1)) : Int).toNat, x0.extract ((wrap64 (x5 + 2)) : Int).toNat x0.size, true)) else (none)) else (none)) else (none)) else (ledgerref06_Cut.l0 k x0 (wrap64 (x5 - 1)))) else (none)) else (none)) else (ledgerref06_Cut.l0 k x0 (wrap64 (x5 - 1)))) else (none)) else (none)) else (some ((⟨#[]⟩ : ByteArray), (⟨#[]⟩ : ByteArray), false))
def ledgerref06_Cut.f (k : Nat) (a0 : ByteArray) : Option (ByteArray × ByteArray × Bool) := if (a0.size : Int) > 1048576 then (some ((⟨#[]⟩ : ByteArray), (⟨#[]⟩ : ByteArray), false)) else (ledgerref06_Cut.l0 k a0 (wrap64 ((a0.size : Int) - 2)))
theorem ledgerref06_Cut.mono_l : ∀ k, (∀ y0 y1, LeO (ledgerref06_Cut.l0 k y0 y1) (ledgerref06_Cut.l0 (k + 1) y0 y1))
  | 0 => fun _ _ r h => by simp [ledgerref06_Cut.l0] at h
  | k + 1 => by
    have ih0 := ledgerref06_Cut.mono_l k
    · intro y0 y1
      unfold ledgerref06_Cut.l0
      repeat' first
      | (with_reducible exact ih0 _ _)
      | (with_reducible exact LeO.refl _)
      | (with_reducible exact LeO.none _)
      | (with_reducible refine LeO.ite ?_ ?_)
      | (with_reducible refine LeO.bind ?_ (fun _ => ?_))
      | exact ih0 _ _
      | exact LeO.none _
      | refine LeO.ite ?_ ?_
      | refine LeO.bind ?_ (fun _ => ?_)
theorem ledgerref06_Cut.mono : ∀ a0 k, LeO (ledgerref06_Cut.f k a0) (ledgerref06_Cut.f (k + 1) a0) := by
  intro a0 k
  have ih0 := ledgerref06_Cut.mono_l k
  unfold ledgerref06_Cut.f
  repeat' first
      | (with_reducible exact ih0 _ _)
      | (with_reducible exact LeO.refl _)
      | (with_reducible exact LeO.none _)
      | (with_reducible refine LeO.ite ?_ ?_)
      | (with_reducible refine LeO.bind ?_ (fun _ => ?_))
      | exact ih0 _ _
      | exact LeO.none _
      | refine LeO.ite ?_ ?_
      | refine LeO.bind ?_ (fun _ => ?_)
def ledgerlaw06_lines.f (k : Nat) (a0_0 : Int) (a0_1 : ByteArray) (l0_2 : List Int) (a0_3 : Int) (a0_4 : Int) : Option (Bool) := if a0_0 = 8 then ((text_Lines.f a0_1).bind fun bt474 => ((ledgerref06_Lines.f k a0_1).bind fun bt478 => ((ledgerlaw06_sameLines.f k bt474.1 bt478.1).bind fun t482 => (if t482 = true then (some (bt474.2 == bt478.2)) else (some false))))) else (if a0_0 = 9 then ((ledgerlaw06_each.f a0_1 a0_4).bind fun bt483 => ((ledgerref06_Pieces.f k a0_1).bind fun t487 => (if a0_4 < (t487.length : Int) then (if a0_4 < 1 then (if bt483.2 = true then ((ledgerlaw06_sameLines.f k bt483.1 ([] : List ByteArray)).bind fun t490 => (some t490)) else (some false)) else (if 0 ≤ a0_4 then (if a0_4 ≤ (t487.length : Int) then (if bt483.2 = true then ((ledgerlaw06_sameLines.f k bt483.1 (t487.take (a0_4 : Int).toNat)).bind fun t494 => (some t494)) else (some false)) else (none)) else (none))) else (if bt483.2 = true then ((ledgerlaw06_sameLines.f k bt483.1 t487).bind fun t495 => (some t495)) else (some false))))) else ((text_Cut.f a0_1).bind fun bt496 => ((ledgerref06_Cut.f k a0_1).bind fun bt499 => (if bt496.1.toList = bt499.1.toList then (if bt496.2.1.toList = bt499.2.1.toList then (some (bt496.2.2 == bt499.2.2)) else (some false)) else (some false)))))
theorem ledgerlaw06_lines.mono : ∀ a0 a1 a2 a3 a4 k, LeO (ledgerlaw06_lines.f k a0 a1 a2 a3 a4) (ledgerlaw06_lines.f (k + 1) a0 a1 a2 a3 a4) := by
  intro a0 a1 a2 a3 a4 k
  unfold ledgerlaw06_lines.f
  repeat' first
      | (with_reducible exact ledgerlaw06_sameLines.mono _ _ _)
      | (with_reducible exact ledgerref06_Cut.mono _ _)
      | (with_reducible exact ledgerref06_Lines.mono _ _)
      | (with_reducible exact ledgerref06_Pieces.mono _ _)
      | (with_reducible exact LeO.refl _)
      | (with_reducible exact LeO.none _)
      | (with_reducible refine LeO.ite ?_ ?_)
      | (with_reducible refine LeO.bind ?_ (fun _ => ?_))
      | exact ledgerlaw06_sameLines.mono _ _ _
      | exact ledgerref06_Cut.mono _ _
      | exact ledgerref06_Lines.mono _ _
      | exact ledgerref06_Pieces.mono _ _
      | exact LeO.none _
      | refine LeO.ite ?_ ?_
      | refine LeO.bind ?_ (fun _ => ?_)
mutual
def ledgerlaw06_plays.j0 : Nat → Int → Bool → Int → ByteArray → List Int → Int → Int → Option (Bool)
  | 0, _, _, _, _, _, _, _ => none
  | k + 1, x8, x27, x503000, x503001, x503002, x503003, x503004 => if x27 = true then ((ledgerlaw06_decodes.f k x503000 x503001 x503002 x503003 x503004).bind fun t507 => (some t507)) else (if x8 = 5 then ((text_FormatNumber.f x503003).bind fun t508 => ((ledgerref06_FormatNumber.f k x503003).bind fun t509 => (some (t508.toList == t509.toList)))) else (if x8 = 6 then ((text_ParseNumber.f x503001 x503004).bind fun bt510 => ((ledgerref06_ParseNumber.f k x503001 x503004).bind fun bt512 => (if bt510.1 = bt512.1 then (some (bt510.2 == bt512.2)) else (some false)))) else (if x8 = 7 then ((text_Plain.f x503001).bind fun t514 => ((ledgerref06_Plain.f k x503001).bind fun t515 => (some (t514 == t515)))) else (if x8 = 8 then (ledgerlaw06_plays.j1 k x8 (x8 == 8) x503000 x503001 x503002 x503003 x503004) else (if x8 = 9 then (ledgerlaw06_plays.j1 k x8 (x8 == 9) x503000 x503001 x503002 x503003 x503004) else (ledgerlaw06_plays.j1 k x8 (x8 == 10) x503000 x503001 x503002 x503003 x503004))))))
def ledgerlaw06_plays.j1 : Nat → Int → Bool → Int → ByteArray → List Int → Int → Int → Option (Bool)
  | 0, _, _, _, _, _, _, _ => none
  | k + 1, x8, x77, x503000, x503001, x503002, x503003, x503004 => if x77 = true then ((ledgerlaw06_lines.f k x503000 x503001 x503002 x503003 x503004).bind fun t516 => (some t516)) else (if x8 = 11 then ((ledgerref06_Quote.f k x503002).bind fun t517 => ((text_Quote.f k x503002).bind fun t518 => (some (t517.toList == t518.toList)))) else (some true))
end
def ledgerlaw06_plays.f (k : Nat) (a0_0 : Int) (a0_1 : ByteArray) (l0_2 : List Int) (a0_3 : Int) (a0_4 : Int) : Option (Bool) := if a0_0 = 1 then ((ledgerref06_EncodeBase64.f k l0_2).bind fun t503 => ((text_EncodeBase64.f k l0_2).bind fun t504 => (some (t503.toList == t504.toList)))) else (if a0_0 = 3 then ((ledgerref06_EncodeHex.f k l0_2).bind fun t505 => ((text_EncodeHex.f k l0_2).bind fun t506 => (some (t505.toList == t506.toList)))) else (if a0_0 = 2 then (ledgerlaw06_plays.j0 k a0_0 (a0_0 == 2) a0_0 a0_1 l0_2 a0_3 a0_4) else (if a0_0 = 4 then (ledgerlaw06_plays.j0 k a0_0 (a0_0 == 4) a0_0 a0_1 l0_2 a0_3 a0_4) else (ledgerlaw06_plays.j0 k a0_0 (a0_0 == 12) a0_0 a0_1 l0_2 a0_3 a0_4))))
theorem ledgerlaw06_plays.mono_l : ∀ k, (∀ y0 y1 y2 y3 y4 y5 y6, LeO (ledgerlaw06_plays.j0 k y0 y1 y2 y3 y4 y5 y6) (ledgerlaw06_plays.j0 (k + 1) y0 y1 y2 y3 y4 y5 y6)) ∧ (∀ y0 y1 y2 y3 y4 y5 y6, LeO (ledgerlaw06_plays.j1 k y0 y1 y2 y3 y4 y5 y6) (ledgerlaw06_plays.j1 (k + 1) y0 y1 y2 y3 y4 y5 y6))
  | 0 => ⟨fun _ _ _ _ _ _ _ r h => by simp [ledgerlaw06_plays.j0] at h, fun _ _ _ _ _ _ _ r h => by simp [ledgerlaw06_plays.j1] at h⟩
  | k + 1 => by
    obtain ⟨ih0, ih1⟩ := ledgerlaw06_plays.mono_l k
    refine ⟨?_, ?_⟩
    · intro y0 y1 y2 y3 y4 y5 y6
      unfold ledgerlaw06_plays.j0
      repeat' first
      | (with_reducible exact ih0 _ _ _ _ _ _ _)
      | (with_reducible exact ih1 _ _ _ _ _ _ _)
      | (with_reducible exact ledgerlaw06_decodes.mono _ _ _ _ _ _)
      | (with_reducible exact ledgerlaw06_lines.mono _ _ _ _ _ _)
      | (with_reducible exact ledgerref06_EncodeBase64.mono _ _)
      | (with_reducible exact ledgerref06_EncodeHex.mono _ _)
      | (with_reducible exact ledgerref06_FormatNumber.mono _ _)
      | (with_reducible exact ledgerref06_ParseNumber.mono _ _ _)
      | (with_reducible exact ledgerref06_Plain.mono _ _)
      | (with_reducible exact ledgerref06_Quote.mono _ _)
      | (with_reducible exact text_EncodeBase64.mono _ _)
      | (with_reducible exact text_EncodeHex.mono _ _)
      | (with_reducible exact text_Quote.mono _ _)
      | (with_reducible exact LeO.refl _)
      | (with_reducible exact LeO.none _)
      | (with_reducible refine LeO.ite ?_ ?_)
      | (with_reducible refine LeO.bind ?_ (fun _ => ?_))
      | exact ih0 _ _ _ _ _ _ _
      | exact ih1 _ _ _ _ _ _ _
      | exact ledgerlaw06_decodes.mono _ _ _ _ _ _
      | exact ledgerlaw06_lines.mono _ _ _ _ _ _
      | exact ledgerref06_EncodeBase64.mono _ _
      | exact ledgerref06_EncodeHex.mono _ _
      | exact ledgerref06_FormatNumber.mono _ _
      | exact ledgerref06_ParseNumber.mono _ _ _
      | exact ledgerref06_Plain.mono _ _
      | exact ledgerref06_Quote.mono _ _
      | exact text_EncodeBase64.mono _ _
      | exact text_EncodeHex.mono _ _
      | exact text_Quote.mono _ _
      | exact LeO.none _
      | refine LeO.ite ?_ ?_
      | refine LeO.bind ?_ (fun _ => ?_)
    · intro y0 y1 y2 y3 y4 y5 y6
      unfold ledgerlaw06_plays.j1
      repeat' first
      | (with_reducible exact ih0 _ _ _ _ _ _ _)
      | (with_reducible exact ih1 _ _ _ _ _ _ _)
      | (with_reducible exact ledgerlaw06_decodes.mono _ _ _ _ _ _)
      | (with_reducible exact ledgerlaw06_lines.mono _ _ _ _ _ _)
      | (with_reducible exact ledgerref06_EncodeBase64.mono _ _)
      | (with_reducible exact ledgerref06_EncodeHex.mono _ _)
      | (with_reducible exact ledgerref06_FormatNumber.mono _ _)
      | (with_reducible exact ledgerref06_ParseNumber.mono _ _ _)
      | (with_reducible exact ledgerref06_Plain.mono _ _)
      | (with_reducible exact ledgerref06_Quote.mono _ _)
      | (with_reducible exact text_EncodeBase64.mono _ _)
      | (with_reducible exact text_EncodeHex.mono _ _)
      | (with_reducible exact text_Quote.mono _ _)
      | (with_reducible exact LeO.refl _)
      | (with_reducible exact LeO.none _)
      | (with_reducible refine LeO.ite ?_ ?_)
      | (with_reducible refine LeO.bind ?_ (fun _ => ?_))
      | exact ih0 _ _ _ _ _ _ _
      | exact ih1 _ _ _ _ _ _ _
      | exact ledgerlaw06_decodes.mono _ _ _ _ _ _
      | exact ledgerlaw06_lines.mono _ _ _ _ _ _
      | exact ledgerref06_EncodeBase64.mono _ _
      | exact ledgerref06_EncodeHex.mono _ _
      | exact ledgerref06_FormatNumber.mono _ _
      | exact ledgerref06_ParseNumber.mono _ _ _
      | exact ledgerref06_Plain.mono _ _
      | exact ledgerref06_Quote.mono _ _
      | exact text_EncodeBase64.mono _ _
      | exact text_EncodeHex.mono _ _
      | exact text_Quote.mono _ _
      | exact LeO.none _
      | refine LeO.ite ?_ ?_
      | refine LeO.bind ?_ (fun _ => ?_)
theorem ledgerlaw06_plays.mono : ∀ a0 a1 a2 a3 a4 k, LeO (ledgerlaw06_plays.f k a0 a1 a2 a3 a4) (ledgerlaw06_plays.f (k + 1) a0 a1 a2 a3 a4) := by
  intro a0 a1 a2 a3 a4 k
  obtain ⟨ih0, ih1⟩ := ledgerlaw06_plays.mono_l k
  unfold ledgerlaw06_plays.f
  repeat' first
      | (with_reducible exact ih0 _ _ _ _ _ _ _)
      | (with_reducible exact ih1 _ _ _ _ _ _ _)
      | (with_reducible exact ledgerlaw06_decodes.mono _ _ _ _ _ _)
      | (with_reducible exact ledgerlaw06_lines.mono _ _ _ _ _ _)
      | (with_reducible exact ledgerref06_EncodeBase64.mono _ _)
      | (with_reducible exact ledgerref06_EncodeHex.mono _ _)
      | (with_reducible exact ledgerref06_FormatNumber.mono _ _)
      | (with_reducible exact ledgerref06_ParseNumber.mono _ _ _)
      | (with_reducible exact ledgerref06_Plain.mono _ _)
      | (with_reducible exact ledgerref06_Quote.mono _ _)
      | (with_reducible exact text_EncodeBase64.mono _ _)
      | (with_reducible exact text_EncodeHex.mono _ _)
      | (with_reducible exact text_Quote.mono _ _)
      | (with_reducible exact LeO.refl _)
      | (with_reducible exact LeO.none _)
      | (with_reducible refine LeO.ite ?_ ?_)
      | (with_reducible refine LeO.bind ?_ (fun _ => ?_))
      | exact ih0 _ _ _ _ _ _ _
      | exact ih1 _ _ _ _ _ _ _
      | exact ledgerlaw06_decodes.mono _ _ _ _ _ _
      | exact ledgerlaw06_lines.mono _ _ _ _ _ _
      | exact ledgerref06_EncodeBase64.mono _ _
      | exact ledgerref06_EncodeHex.mono _ _
      | exact ledgerref06_FormatNumber.mono _ _
      | exact ledgerref06_ParseNumber.mono _ _ _
      | exact ledgerref06_Plain.mono _ _
      | exact ledgerref06_Quote.mono _ _
      | exact text_EncodeBase64.mono _ _
      | exact text_EncodeHex.mono _ _
      | exact text_Quote.mono _ _
      | exact LeO.none _
      | refine LeO.ite ?_ ?_
      | refine LeO.bind ?_ (fun _ => ?_)
mutual
def ledgerlaw06_TextAll.j0 : Nat → List (S32) → Bool → Option (Bool)
  | 0, _, _ => none
  | k + 1, x0, x21 => if x21 = true then (some false) else (ledgerlaw06_TextAll.l0 k x0 0)
def ledgerlaw06_TextAll.l0 : Nat → List (S32) → Int → Option (Bool)
  | 0, _, _ => none
  | k + 1, x0, x5 => if x5 < (x0.length : Int) then (if 0 ≤ x5 then ((ledgerlaw06_plays.f k ((rd_T32 x0 x5).f0) ((rd_T32 x0 x5).f1) ((rd_T32 x0 x5).f2) ((rd_T32 x0 x5).f3) ((rd_T32 x0 x5).f4)).bind fun t525 => (if t525 = true then (ledgerlaw06_TextAll.l0 k x0 (wrap64 (x5 + 1))) else (some false))) else (none)) else (some true)
end
def ledgerlaw06_TextAll.f (k : Nat) (l0 : List (S32)) : Option (Bool) := (text_DecodeBase64.f k (⟨#[90, 109, 57, 118]⟩ : ByteArray)).bind fun bt519 => ((ledgerlaw06_numbers.f).bind fun t523 => (if t523 = true then (if bt519.2 = 0 then (ledgerlaw06_TextAll.j0 k l0 ((strOfNums bt519.1).toList != ([102, 111, 111] : List UInt8))) else (ledgerlaw06_TextAll.j0 k l0 true)) else (ledgerlaw06_TextAll.j0 k l0 true)))
theorem ledgerlaw06_TextAll.mono_l : ∀ k, (∀ y0 y1, LeO (ledgerlaw06_TextAll.j0 k y0 y1) (ledgerlaw06_TextAll.j0 (k + 1) y0 y1)) ∧ (∀ y0 y1, LeO (ledgerlaw06_TextAll.l0 k y0 y1) (ledgerlaw06_TextAll.l0 (k + 1) y0 y1))
  | 0 => ⟨fun _ _ r h => by simp [ledgerlaw06_TextAll.j0] at h, fun _ _ r h => by simp [ledgerlaw06_TextAll.l0] at h⟩
  | k + 1 => by
    obtain ⟨ih0, ih1⟩ := ledgerlaw06_TextAll.mono_l k
    refine ⟨?_, ?_⟩
    · intro y0 y1
      unfold ledgerlaw06_TextAll.j0
      repeat' first
      | (with_reducible exact ih0 _ _)
      | (with_reducible exact ih1 _ _)
      | (with_reducible exact ledgerlaw06_plays.mono _ _ _ _ _ _)
      | (with_reducible exact text_DecodeBase64.mono _ _)
      | (with_reducible exact LeO.refl _)
      | (with_reducible exact LeO.none _)
      | (with_reducible refine LeO.ite ?_ ?_)
      | (with_reducible refine LeO.bind ?_ (fun _ => ?_))
      | exact ih0 _ _
      | exact ih1 _ _
      | exact ledgerlaw06_plays.mono _ _ _ _ _ _
      | exact text_DecodeBase64.mono _ _
      | exact LeO.none _
      | refine LeO.ite ?_ ?_
      | refine LeO.bind ?_ (fun _ => ?_)
    · intro y0 y1
      unfold ledgerlaw06_TextAll.l0
      repeat' first
      | (with_reducible exact ih0 _ _)
      | (with_reducible exact ih1 _ _)
      | (with_reducible exact ledgerlaw06_plays.mono _ _ _ _ _ _)
      | (with_reducible exact text_DecodeBase64.mono _ _)
      | (with_reducible exact LeO.refl _)
      | (with_reducible exact LeO.none _)
      | (with_reducible refine LeO.ite ?_ ?_)
      | (with_reducible refine LeO.bind ?_ (fun _ => ?_))
      | exact ih0 _ _
      | exact ih1 _ _
      | exact ledgerlaw06_plays.mono _ _ _ _ _ _
      | exact text_DecodeBase64.mono _ _
      | exact LeO.none _
      | refine LeO.ite ?_ ?_
      | refine LeO.bind ?_ (fun _ => ?_)
theorem ledgerlaw06_TextAll.mono : ∀ a0 k, LeO (ledgerlaw06_TextAll.f k a0) (ledgerlaw06_TextAll.f (k + 1) a0) := by
  intro a0 k
  obtain ⟨ih0, ih1⟩ := ledgerlaw06_TextAll.mono_l k
  unfold ledgerlaw06_TextAll.f
  repeat' first
      | (with_reducible exact ih0 _ _)
      | (with_reducible exact ih1 _ _)
      | (with_reducible exact ledgerlaw06_plays.mono _ _ _ _ _ _)
      | (with_reducible exact text_DecodeBase64.mono _ _)
      | (with_reducible exact LeO.refl _)
      | (with_reducible exact LeO.none _)
      | (with_reducible refine LeO.ite ?_ ?_)
      | (with_reducible refine LeO.bind ?_ (fun _ => ?_))
      | exact ih0 _ _
      | exact ih1 _ _
      | exact ledgerlaw06_plays.mono _ _ _ _ _ _
      | exact text_DecodeBase64.mono _ _
      | exact LeO.none _
      | refine LeO.ite ?_ ?_
      | refine LeO.bind ?_ (fun _ => ?_)
end Go.Proofs.YtljinjgamgmocaaDoor.G
end
section
namespace Go.Proofs.YtljinjgamgmocaaDoor.Pure
open Go.RowKit Go.Proofs.YtljinjgamgmocaaDoor.G Go.Proofs.YtljinjgamgmocaaDoorW.PrintWords Go.Proofs.YtljinjgamgmocaaDoorW.PrintLast Go.Proofs.YtljinjgamgmocaaDoorW.PrintMore
set_option linter.unusedSimpArgs false
set_option linter.unusedVariables false
def hx (x : Int) : Int := rd digitsTab x
def hexOf : List Int → List Int
  | [] => []
  | x :: r => hx (x / 16) :: hx (x % 16) :: hexOf r
theorem hexOf_length : ∀ l, (hexOf l).length = 2 * l.length
  | [] => rfl
  | x :: r => by simp only [hexOf, List.length_cons, hexOf_length r]; omega
theorem hx_all : ∀ i : Fin 16, 0 ≤ hx (i.val : Int) ∧ hx (i.val : Int) ≤ 255 ∧ findI digitsTab (hx (i.val : Int)) 0 = i.val ∧ hx (i.val : Int) = bt (⟨#[48, 49, 50, 51, 52, 53, 54, 55, 56, 57, 97, 98, 99, 100, 101, 102]⟩ : ByteArray) (i.val : Int) := by decide +kernel
theorem hx_at {x : Int} (h0 : 0 ≤ x) (h1 : x < 16) : 0 ≤ hx x ∧ hx x ≤ 255 ∧ findI digitsTab (hx x) 0 = x ∧ hx x = bt (⟨#[48, 49, 50, 51, 52, 53, 54, 55, 56, 57, 97, 98, 99, 100, 101, 102]⟩ : ByteArray) x := by
  obtain ⟨n, rfl⟩ := Int.eq_ofNat_of_zero_le h0
  exact hx_all ⟨n, by omega⟩
theorem hexOf_bytes : ∀ {l}, Bytes l → Bytes (hexOf l)
  | [], _ => Bytes.nil
  | x :: r, h => by
    obtain ⟨hx', hr⟩ := h.cons
    have a := hx_at (x := x / 16) (by omega) (by omega)
    have b := hx_at (x := x % 16) (by omega) (by omega)
    exact Bytes.mk a.1 a.2.1 (Bytes.mk b.1 b.2.1 (hexOf_bytes hr))
theorem encHex_loop (suf : List Int) : ∀ (pre acc : List Int) (k : Nat), Bytes suf → (pre.length + suf.length : Nat) ≤ 70368744177664 → acc.length + 2 * suf.length < 140737488355328 → suf.length < k →
    text_EncodeHex.l0 k acc (pre ++ suf) ((pre.length + suf.length : Nat) : Int) (pre.length : Int) = some (strOfNums (acc ++ hexOf suf)) := by
  induction suf with
  | nil =>
    intro pre acc k _ _ _ hk
    obtain ⟨k, rfl⟩ := rounds hk
    simp only [text_EncodeHex.l0]
    rw [if_neg (by simp)]
    simp [hexOf]
  | cons x r ih =>
    intro pre acc k hb hl ha hk
    obtain ⟨k, rfl⟩ := rounds hk
    obtain ⟨hx', hr⟩ := hb.cons
    simp only [List.length_cons] at hl ha hk ⊢
    simp only [text_EncodeHex.l0]
    rw [if_pos (by omega), if_pos (by omega), if_pos (by first | omega | (simp; done) | (simp; omega)), rd_mid, u8_and15 _ hx'.1 (by omega), if_pos (by omega), if_pos (by omega), if_pos (by omega), if_pos (by omega)]
    simp only [Option.bind_some, List.length_cons, List.length_nil]
    rw [if_pos (by omega), w64 (by omega) (by omega)]
    have h := ih (pre ++ [x]) (acc ++ [hx (x / 16), hx (x % 16)]) k hr (by simp; omega) (by simp; omega) (by omega)
    simp only [List.length_append, List.length_cons, List.length_nil, List.append_assoc, List.cons_append, List.nil_append] at h
    rw [show ((pre.length + (r.length + 1) : Nat) : Int) = ((pre.length + (0 + 1) + r.length : Nat) : Int) from by omega, show (pre.length : Int) + 1 = ((pre.length + (0 + 1) : Nat) : Int) from by omega]
    exact h
theorem encHex {l : List Int} (hb : Bytes l) (hl : l.length ≤ 70368744177663) : ∀ k, l.length < k → text_EncodeHex.f k l = some (strOfNums (hexOf l)) := by
  intro k hk
  unfold text_EncodeHex.f
  rw [w64 (by omega) (by omega), if_pos (by omega), if_pos (by omega)]
  have h := encHex_loop l [] [] k hb (by simp; omega) (by simp; omega) hk
  simpa using h
theorem place_loop (s : ByteArray) (c : Int) (suf : List Int) : ∀ (pre : List Int) (k : Nat), bytesOf s = pre ++ suf → s.size ≤ 1000 → suf.length < k → ledgerref06_place.l0 k s c (pre.length : Int) = some (findI suf c (pre.length : Int)) := by
  induction suf with
  | nil =>
    intro pre k hs _ hk
    obtain ⟨k, rfl⟩ := rounds hk
    have := size_of hs
    simp only [ledgerref06_place.l0]
    rw [if_neg (by simp at this; omega)]
    rfl
  | cons x r ih =>
    intro pre k hs hm hk
    obtain ⟨k, rfl⟩ := rounds hk
    have hz := size_of hs
    simp only [List.length_append, List.length_cons] at hz hk
    simp only [ledgerref06_place.l0, findI]
    rw [if_pos (by omega), if_pos (by omega), bt_mid hs]
    by_cases e : x = c
    · rw [if_pos e, if_pos e.symm]
    · rw [if_neg e, if_neg (fun h => e h.symm), w64 (by omega) (by omega)]
      have h := ih (pre ++ [x]) k (by simpa using hs) hm (by omega)
      simp only [List.length_append, List.length_cons, List.length_nil] at h
      rw [show (pre.length : Int) + 1 = ((pre.length + (0 + 1) : Nat) : Int) from by omega]
      exact h
theorem place_hex (c : Int) : ∀ k, 16 < k → ledgerref06_place.f k (⟨#[48, 49, 50, 51, 52, 53, 54, 55, 56, 57, 97, 98, 99, 100, 101, 102]⟩ : ByteArray) c = some (findI digitsTab c 0) := by
  intro k hk
  unfold ledgerref06_place.f
  exact place_loop _ c digitsTab [] k rfl (by decide) hk
theorem find_range : ∀ (l : List Int) (c i : Int), 0 ≤ i → findI l c i = -1 ∨ (i ≤ findI l c i ∧ findI l c i < i + l.length ∧ rd l (findI l c i - i) = c)
  | [], _, _, _ => .inl rfl
  | x :: l, c, i, h0 => by
    unfold findI
    by_cases e : c = x
    · rw [if_pos e]
      exact .inr ⟨by omega, by simp only [List.length_cons]; omega, by rw [Int.sub_self]; exact e.symm⟩
    · rw [if_neg e]
      rcases find_range l c (i + 1) (by omega) with h | ⟨h1, h2, h3⟩
      · exact .inl h
      · refine .inr ⟨by omega, by simp only [List.length_cons]; omega, ?_⟩
        obtain ⟨n, hn⟩ := Int.eq_ofNat_of_zero_le (a := findI l c (i + 1) - (i + 1)) (by omega)
        rw [hn] at h3
        rw [show findI l c (i + 1) - i = ((n + 1 : Nat) : Int) from by omega]
        unfold rd at h3 ⊢
        simpa using h3
theorem digit_cases (c : Int) : findI digitsTab c 0 = -1 ∨ (0 ≤ findI digitsTab c 0 ∧ findI digitsTab c 0 < 16 ∧ hx (findI digitsTab c 0) = c) := by
  rcases find_range digitsTab c 0 (by omega) with h | ⟨h1, h2, h3⟩
  · exact .inl h
  · rw [Int.sub_zero] at h3
    exact .inr ⟨h1, by simpa [digitsTab_len] using h2, h3⟩
def unhex : List Int → Option (List Int)
  | [] => some []
  | [_] => none
  | a :: b :: r => if findI digitsTab a 0 < 0 then none else if findI digitsTab b 0 < 0 then none else (unhex r).map fun l => (16 * findI digitsTab a 0 + findI digitsTab b 0) :: l
theorem unhex_hex : ∀ {l}, Bytes l → unhex (hexOf l) = some l
  | [], _ => rfl
  | x :: r, h => by
    obtain ⟨hx', hr⟩ := h.cons
    have a := (hx_at (x := x / 16) (by omega) (by omega)).2.2.1
    have b := (hx_at (x := x % 16) (by omega) (by omega)).2.2.1
    simp only [hexOf, unhex, a, b, unhex_hex hr]
    rw [if_neg (by omega), if_neg (by omega)]
    simp only [Option.map_some]
    rw [show 16 * (x / 16) + x % 16 = x from by omega]
theorem hex_unhex : ∀ (s l : List Int), unhex s = some l → hexOf l = s ∧ Bytes l
  | [], l, h => by
    simp only [unhex, Option.some.injEq] at h
    subst h
    exact ⟨rfl, Bytes.nil⟩
  | [_], l, h => by simp [unhex] at h
  | a :: b :: r, l, h => by
    simp only [unhex] at h
    rcases digit_cases a with ha | ⟨ha0, ha1, ha2⟩
    · rw [if_pos (by omega)] at h; cases h
    rcases digit_cases b with hb | ⟨hb0, hb1, hb2⟩
    · rw [if_neg (by omega), if_pos (by omega)] at h; cases h
    rw [if_neg (by omega), if_neg (by omega)] at h
    obtain ⟨m, hm, rfl⟩ := Option.map_eq_some_iff.1 h
    obtain ⟨h1, h2⟩ := hex_unhex r m hm
    refine ⟨?_, Bytes.mk (by omega) (by omega) h2⟩
    simp only [hexOf, h1]
    rw [show (16 * findI digitsTab a 0 + findI digitsTab b 0) / 16 = findI digitsTab a 0 from by omega, show (16 * findI digitsTab a 0 + findI digitsTab b 0) % 16 = findI digitsTab b 0 from by omega, ha2, hb2]
theorem or16 {a b : Int} (ha : 0 ≤ a) (ha' : a < 16) (hb : 0 ≤ b) (hb' : b < 16) : Go.bits .or .i64 (a * 16) b = 16 * a + b := by
  have h := bits_join .i64 62 (by decide) (fun n h0 h1 => by rw [IntKind.wrap_i64]; omega) 4 (a * 16) b (by omega) (by omega) (by omega) (by omega) (by omega) (by omega)
  omega
theorem unhex_steps (s : ByteArray) (hm : s.size ≤ 1048576) (n : Nat) : ∀ (suf pre acc : List Int) (k : Nat), suf.length ≤ n → bytesOf s = pre ++ suf → acc.length ≤ pre.length → suf.length % 2 = 0 → suf.length + 40 < k →
    text_DecodeHex.l0 k s acc (pre.length : Int) = some (match unhex suf with | some l => (acc ++ l, 0) | none => ([], 61)) ∧
    ledgerref06_DecodeHex.l0 k s acc (pre.length : Int) = some (match unhex suf with | some l => (acc ++ l, 0) | none => ([], 61)) := by
  induction n with
  | zero =>
    intro suf pre acc k hn hs hacc hev hk
    obtain rfl : suf = [] := List.eq_nil_of_length_eq_zero (by omega)
    obtain ⟨k, rfl⟩ := rounds hk
    have hz := size_of hs
    simp only [List.append_nil] at hz
    simp only [text_DecodeHex.l0, ledgerref06_DecodeHex.l0, unhex, List.append_nil]
    rw [if_neg (by omega), w64 (by omega) (by omega), if_neg (by omega)]
    exact ⟨rfl, rfl⟩
  | succ n ih =>
    intro suf pre acc k hn hs hacc hev hk
    match suf, hn, hs, hev, hk with
    | [], _, hs, hev, hk => exact ih [] pre acc k (by simp) hs hacc hev hk
    | [_], _, _, hev, _ => simp at hev
    | a :: b :: r, hn, hs, hev, hk =>
      obtain ⟨k, rfl⟩ := rounds hk
      have hz := size_of hs
      simp only [List.length_append, List.length_cons] at hz hk hn hev
      have ea : bt s (pre.length : Int) = a := bt_mid hs
      have eb : bt s ((pre.length : Int) + 1) = b := by
        have h : bytesOf s = (pre ++ [a]) ++ b :: r := by simpa using hs
        have := bt_mid h
        simpa using this
      have hk16 : 16 < k := by omega
      have h2 := fun x => ih r (pre ++ [a, b]) (acc ++ [x]) k (by omega) (by simpa using hs) (by simp; omega) (by omega) (by omega)
      simp only [List.length_append, List.length_cons, List.length_nil, Int.natCast_add] at h2
      have c1 := digit_cases a
      have c2 := digit_cases b
      have hw1 := Aside0.mk (w64 (x := (pre.length : Int) + 1) (by omega) (by omega))
      have hw2 := Aside0.mk (w64 (x := (pre.length : Int) + 2) (by omega) (by omega))
      have h3 := h2 (16 * findI digitsTab a 0 + findI digitsTab b 0)
      have e0 : unhex (a :: b :: r) = if findI digitsTab a 0 < 0 then none else if findI digitsTab b 0 < 0 then none else (unhex r).map fun l => (16 * findI digitsTab a 0 + findI digitsTab b 0) :: l := by simp only [unhex]
      rcases digit_cases a with ha | ⟨ha0, ha1, ha2⟩
      · rw [e0, if_pos (by omega)]
        constructor
        · simp only [text_DecodeHex.l0, text_digit.f, Option.bind_some, hw1.out, ea, eb]
          rw [if_pos (by omega), if_pos (by omega), if_pos (by omega), if_pos (by omega), if_pos (by omega)]
        · simp only [ledgerref06_DecodeHex.l0, Option.bind_some, hw1.out, ea, eb, place_hex _ k hk16]
          rw [if_pos (by omega), if_pos (by omega), if_pos (by omega), if_pos (by omega), if_pos (by omega)]
      rcases digit_cases b with hb | ⟨hb0, hb1, hb2⟩
      · rw [e0, if_neg (by omega), if_pos (by omega)]
        constructor
        · simp only [text_DecodeHex.l0, text_digit.f, Option.bind_some, hw1.out, ea, eb]
          rw [if_pos (by omega), if_pos (by omega), if_pos (by omega), if_pos (by omega), if_neg (by omega), if_pos (by omega)]
        · simp only [ledgerref06_DecodeHex.l0, Option.bind_some, hw1.out, ea, eb, place_hex _ k hk16]
          rw [if_pos (by omega), if_pos (by omega), if_pos (by omega), if_pos (by omega), if_neg (by omega), if_pos (by omega)]
      rw [e0, if_neg (by omega), if_neg (by omega)]
      have k1 := Aside0.mk (w64 (x := findI digitsTab a 0 * 16) (by omega) (by omega))
      have k2 := Aside0.mk (w64 (x := 16 * findI digitsTab a 0) (by omega) (by omega))
      have k3 := Aside0.mk (w64 (x := 16 * findI digitsTab a 0 + findI digitsTab b 0) (by omega) (by omega))
      have k4 : (16 * findI digitsTab a 0 + findI digitsTab b 0) % 256 = 16 * findI digitsTab a 0 + findI digitsTab b 0 := by omega
      constructor
      · simp only [text_DecodeHex.l0, text_digit.f, Option.bind_some, hw1.out, hw2.out, ea, eb, k1.out, or16 ha0 ha1 hb0 hb1, k4]
        rw [if_pos (by omega), if_pos (by omega), if_pos (by omega), if_pos (by omega), if_neg (by omega), if_neg (by omega), if_pos (by omega)]
        rw [show (pre.length : Int) + 2 = (pre.length : Int) + (((0 : Nat) : Int) + 1 + 1) from by omega]
        cases hu : unhex r with
        | none => rw [hu] at h3; simpa using h3.1
        | some l => rw [hu] at h3; simpa using h3.1
      · simp only [ledgerref06_DecodeHex.l0, Option.bind_some, hw1.out, hw2.out, ea, eb, k2.out, k3.out, k4, place_hex _ k hk16]
        rw [if_pos (by omega), if_pos (by omega), if_pos (by omega), if_pos (by omega), if_neg (by omega), if_neg (by omega), if_pos (by omega)]
        rw [show (pre.length : Int) + 2 = (pre.length : Int) + (((0 : Nat) : Int) + 1 + 1) from by omega]
        cases hu : unhex r with
        | none => rw [hu] at h3; simpa using h3.2
        | some l => rw [hu] at h3; simpa using h3.2
def hexTold (s : ByteArray) : List Int × Int := if s.size > 1048576 then ([], 2) else match unhex (bytesOf s) with | some l => (l, 0) | none => ([], 61)
theorem unhex_odd : ∀ (s : List Int), s.length % 2 = 1 → unhex s = none
  | [], h => by simp at h
  | [_], _ => rfl
  | a :: b :: r, h => by
    simp only [unhex, unhex_odd r (by simp only [List.length_cons] at h; omega), Option.map_none]
    split
    · rfl
    · split <;> rfl
theorem decHex (s : ByteArray) : ∀ k, 1048700 < k → text_DecodeHex.f k s = some (hexTold s) ∧ ledgerref06_DecodeHex.f k s = some (hexTold s) := by
  intro k hk
  unfold hexTold
  by_cases hm : s.size > 1048576
  · rw [if_pos hm]
    constructor
    · unfold text_DecodeHex.f; rw [if_pos (by omega)]
    · unfold ledgerref06_DecodeHex.f; rw [if_pos (by omega)]
  rw [if_neg hm]
  have hz := bytesOf_length s
  by_cases ho : s.size % 2 = 1
  · rw [unhex_odd _ (by omega)]
    constructor
    · unfold text_DecodeHex.f; rw [if_neg (by omega), if_neg (by omega)]
    · unfold ledgerref06_DecodeHex.f; rw [if_neg (by omega), if_pos (by omega)]
  · have h := unhex_steps s (by omega) s.size (bytesOf s) [] [] k (by omega) (by simp) (by simp) (by omega) (by omega)
    constructor
    · unfold text_DecodeHex.f
      rw [if_neg (by omega), if_pos (by omega), w64 (by omega) (by omega), if_pos (by omega), if_pos (by omega)]
      cases hu : unhex (bytesOf s) with
      | none => rw [hu] at h; simpa using h.1
      | some l => rw [hu] at h; simpa using h.1
    · unfold ledgerref06_DecodeHex.f
      rw [if_neg (by omega), if_neg (by omega)]
      cases hu : unhex (bytesOf s) with
      | none => rw [hu] at h; simpa using h.2
      | some l => rw [hu] at h; simpa using h.2
end Go.Proofs.YtljinjgamgmocaaDoor.Pure
end
section
namespace Go.Proofs.YtljinjgamgmocaaDoor.Pure
open Go.RowKit Go.Proofs.YtljinjgamgmocaaDoor.G Go.Proofs.YtljinjgamgmocaaDoorW.PrintWords Go.Proofs.YtljinjgamgmocaaDoorW.PrintLast Go.Proofs.YtljinjgamgmocaaDoorW.PrintMore
set_option linter.unusedSimpArgs false
set_option linter.unusedVariables false
def selfB (c : Int) : Bool := decide (32 ≤ c ∧ c ≤ 126 ∧ c ≠ 34 ∧ c ≠ 92)
theorem itself_f (c : Int) : text_itself.f c = some (selfB c) := by
  unfold text_itself.f selfB
  by_cases h1 : c ≥ 32
  · rw [if_pos h1]
    by_cases h2 : c ≤ 126
    · rw [if_pos h2]
      by_cases h3 : c = 34
      · rw [if_pos h3]; subst h3; rfl
      · rw [if_neg h3]
        congr 1
        rw [Bool.eq_iff_iff]
        simp
        omega
    · rw [if_neg h2]; simp; omega
  · rw [if_neg h1]; simp; omega
def q1 (c : Int) : List Int := if selfB c then [c] else [92, 120, hx (c / 16), hx (c % 16)]
def qOf : List Int → List Int
  | [] => []
  | c :: r => q1 c ++ qOf r
def quoteOf (l : List Int) : List Int := 34 :: (qOf l ++ [34])
theorem q1_length (c : Int) : 1 ≤ (q1 c).length ∧ (q1 c).length ≤ 4 := by unfold q1; split <;> simp
theorem qOf_length : ∀ l, l.length ≤ (qOf l).length ∧ (qOf l).length ≤ 4 * l.length
  | [] => by simp [qOf]
  | c :: r => by
    have h1 := q1_length c
    have h2 := qOf_length r
    simp only [qOf, List.length_append, List.length_cons]
    omega
theorem q1_bytes {c : Int} (h0 : 0 ≤ c) (h1 : c ≤ 255) : Bytes (q1 c) := by
  unfold q1
  split
  · exact Bytes.mk h0 h1 Bytes.nil
  · have a := hx_at (x := c / 16) (by omega) (by omega)
    have b := hx_at (x := c % 16) (by omega) (by omega)
    exact Bytes.mk (by omega) (by omega) (Bytes.mk (by omega) (by omega) (Bytes.mk a.1 a.2.1 (Bytes.mk b.1 b.2.1 Bytes.nil)))
theorem qOf_bytes : ∀ {l}, Bytes l → Bytes (qOf l)
  | [], _ => Bytes.nil
  | c :: r, h => by
    obtain ⟨hc, hr⟩ := h.cons
    exact Bytes.app (q1_bytes hc.1 hc.2) (qOf_bytes hr)
theorem quoteOf_bytes {l : List Int} (h : Bytes l) : Bytes (quoteOf l) := Bytes.mk (by omega) (by omega) (Bytes.app (qOf_bytes h) (Bytes.mk (by omega) (by omega) Bytes.nil))
theorem quote_loop (suf : List Int) : ∀ (pre acc : List Int) (k : Nat), Bytes suf → pre.length + suf.length ≤ 4611686018427387904 → acc.length + 4 * suf.length < 140737488355327 → suf.length < k →
    text_Quote.l0 k acc (pre ++ suf) ((pre.length + suf.length : Nat) : Int) (pre.length : Int) = some (strOfNums (acc ++ (qOf suf ++ [34]))) := by
  induction suf with
  | nil =>
    intro pre acc k _ _ ha hk
    obtain ⟨k, rfl⟩ := rounds hk
    simp only [List.length_nil] at ha
    simp only [text_Quote.l0]
    rw [if_neg (by first | omega | (simp; done) | (simp; omega)), if_pos (by omega)]
    simp [qOf]
  | cons c r ih =>
    intro pre acc k hb hl ha hk
    obtain ⟨k, rfl⟩ := rounds hk
    obtain ⟨hc, hr⟩ := hb.cons
    simp only [List.length_cons] at hl ha hk ⊢
    simp only [text_Quote.l0]
    rw [if_pos (by omega), if_pos (by omega), if_pos (by first | omega | (simp; done) | (simp; omega)), rd_mid, itself_f]
    try simp only [Option.bind_some]
    have h := fun y (hy : y.length ≤ 4) => ih (pre ++ [c]) (acc ++ y) k hr (by first | omega | (simp; done) | (simp; omega)) (by first | omega | (simp; done) | (simp; omega)) (by omega)
    simp only [List.length_append, List.length_cons, List.length_nil, List.append_assoc, List.cons_append, List.nil_append] at h
    rw [show ((pre.length + (r.length + 1) : Nat) : Int) = ((pre.length + (0 + 1) + r.length : Nat) : Int) from by omega, w64 (x := (pre.length : Int) + 1) (by omega) (by omega), show (pre.length : Int) + 1 = ((pre.length + (0 + 1) : Nat) : Int) from by omega]
    by_cases hs : selfB c = true
    · rw [if_pos hs, if_pos (by omega)]
      rw [h [c] (by simp)]
      simp [qOf, q1, hs]
    · rw [if_neg hs, u8_and15 _ hc.1 (by omega), if_pos (by omega), if_pos (by omega), if_pos (by omega), if_pos (by omega)]
      try simp only [Option.bind_some]
      rw [if_pos (by first | omega | (simp; done) | (simp; omega))]
      rw [h _ (by simp)]
      simp [qOf, q1, hs, hx]
theorem quote_f {l : List Int} (hb : Bytes l) (hl : l.length ≤ 35184372088831) : ∀ k, l.length < k → text_Quote.f k l = some (strOfNums (quoteOf l)) := by
  intro k hk
  unfold text_Quote.f
  have h := quote_loop l [] [34] k hb (by first | omega | (simp; done) | (simp; omega)) (by first | omega | (simp; done) | (simp; omega)) hk
  simpa [quoteOf] using h
def unq : Nat → List Int → Option (List Int)
  | 0, _ => none
  | _ + 1, [] => some []
  | n + 1, c :: r => if selfB c then (unq n r).map (c :: ·) else
      match c :: r with
      | 92 :: 120 :: a :: b :: r' => match unhex [a, b] with
        | some [v] => if selfB v then none else (unq n r').map (v :: ·)
        | _ => none
      | _ => none
theorem unhex_two (a b : Int) : (unhex [a, b] = none) ∨ ∃ v, unhex [a, b] = some [v] := by
  simp only [unhex]
  split
  · exact .inl rfl
  · split
    · exact .inl rfl
    · exact .inr ⟨_, rfl⟩
theorem unq_sound : ∀ (n : Nat) (s l : List Int), Bytes s → unq n s = some l → qOf l = s ∧ Bytes l
  | 0, _, _, _, h => by cases h
  | n + 1, [], l, _, h => by
    simp only [unq, Option.some.injEq] at h
    subst h
    exact ⟨rfl, Bytes.nil⟩
  | n + 1, c :: r, l, hb, h => by
    obtain ⟨hc, hr⟩ := hb.cons
    simp only [unq] at h
    by_cases hs : selfB c = true
    · rw [if_pos hs] at h
      obtain ⟨m, hm, rfl⟩ := Option.map_eq_some_iff.1 h
      obtain ⟨h1, h2⟩ := unq_sound n r m hr hm
      exact ⟨by simp [qOf, q1, hs, h1], Bytes.mk hc.1 hc.2 h2⟩
    · rw [if_neg hs] at h
      split at h
      · rename_i a b r' heq
        simp only [List.cons.injEq] at heq
        obtain ⟨rfl, rfl⟩ := heq
        split at h
        · rename_i v hu
          split at h
          · cases h
          · rename_i hv
            obtain ⟨m, hm, rfl⟩ := Option.map_eq_some_iff.1 h
            obtain ⟨h1, h2⟩ := unq_sound n r' m (fun x hx => hr x (by simp [hx])) hm
            obtain ⟨e1, e2⟩ := hex_unhex _ _ hu
            simp only [hexOf, List.cons.injEq] at e1
            refine ⟨?_, Bytes.mk (e2 v (by simp)).1 (e2 v (by simp)).2 h2⟩
            simp [qOf, q1, hv, h1, e1]
        · cases h
      · cases h
theorem unq_qOf : ∀ (l : List Int) (n : Nat), Bytes l → l.length < n → unq n (qOf l) = some l
  | [], n, _, hn => by
    obtain ⟨n, rfl⟩ := rounds hn
    rfl
  | c :: r, n, hb, hn => by
    obtain ⟨n, rfl⟩ := rounds hn
    obtain ⟨hc, hr⟩ := hb.cons
    have ih := unq_qOf r n hr (by simp only [List.length_cons] at hn; omega)
    by_cases hs : selfB c = true
    · simp [qOf, q1, hs, unq, ih]
    · have h92 : selfB 92 = false := by decide
      have hu := unhex_hex (l := [c]) (Bytes.mk hc.1 hc.2 Bytes.nil)
      simp only [hexOf] at hu
      simp [qOf, q1, hs, unq, ih, h92, hu]
end Go.Proofs.YtljinjgamgmocaaDoor.Pure
end
section
namespace Go.Proofs.YtljinjgamgmocaaDoor.Pure
open Go.RowKit Go.Proofs.YtljinjgamgmocaaDoor.G Go.Proofs.YtljinjgamgmocaaDoorW.PrintWords Go.Proofs.YtljinjgamgmocaaDoorW.PrintLast Go.Proofs.YtljinjgamgmocaaDoorW.PrintMore
set_option linter.unusedSimpArgs false
set_option linter.unusedVariables false
def lettersB : ByteArray := ⟨#[65, 66, 67, 68, 69, 70, 71, 72, 73, 74, 75, 76, 77, 78, 79, 80, 81, 82, 83, 84, 85, 86, 87, 88, 89, 90, 97, 98, 99, 100, 101, 102, 103, 104, 105, 106, 107, 108, 109, 110, 111, 112, 113, 114, 115, 116, 117, 118, 119, 120, 121, 122, 48, 49, 50, 51, 52, 53, 54, 55, 56, 57, 43, 47]⟩
def lettersL : List Int := bytesOf lettersB
def lt (x : Int) : Int := bt lettersB x
def val (c : Int) : Int := findI lettersL c 0
def enc64 : List Int → List Int
  | [] => []
  | [a] => [lt (a / 4), lt (a % 4 * 16), 61, 61]
  | [a, b] => [lt (a / 4), lt (a % 4 * 16 + b / 16), lt (b % 16 * 4), 61]
  | a :: b :: c :: r => lt (a / 4) :: lt (a % 4 * 16 + b / 16) :: lt (b % 16 * 4 + c / 64) :: lt (c % 64) :: enc64 r
theorem lt_all : ∀ i : Fin 64, 0 ≤ lt (i.val : Int) ∧ lt (i.val : Int) ≤ 255 ∧ val (lt (i.val : Int)) = i.val := by decide +kernel
theorem lt_at {x : Int} (h0 : 0 ≤ x) (h1 : x < 64) : 0 ≤ lt x ∧ lt x ≤ 255 ∧ val (lt x) = x := by
  obtain ⟨n, rfl⟩ := Int.eq_ofNat_of_zero_le h0
  exact lt_all ⟨n, by omega⟩
theorem val_61 : val 61 = -1 := by decide +kernel
theorem lettersL_length : lettersL.length = 64 := by decide +kernel
theorem val_cases (c : Int) : val c = -1 ∨ (0 ≤ val c ∧ val c < 64 ∧ lt (val c) = c) := by
  rcases find_range lettersL c 0 (by omega) with h | ⟨h1, h2, h3⟩
  · exact .inl h
  · rw [Int.sub_zero, show lettersL = bytesOf lettersB from rfl, rd_bytesOf] at h3
    rw [lettersL_length] at h2
    exact .inr ⟨h1, by show findI lettersL c 0 < 64; omega, h3⟩
theorem value_all : ∀ c : Fin 256, text_value.f 4 (c.val : Int) = some (val (c.val : Int)) := by decide +kernel
theorem value_f {c : Int} (h0 : 0 ≤ c) (h1 : c ≤ 255) : ∀ k, 4 ≤ k → text_value.f k c = some (val c) := by
  obtain ⟨n, rfl⟩ := Int.eq_ofNat_of_zero_le h0
  intro k hk
  exact more (text_value.mono _) (value_all ⟨n, by omega⟩) hk
theorem enc64_length : ∀ l : List Int, (enc64 l).length = (l.length + 2) / 3 * 4
  | [] => rfl
  | [_] => by simp [enc64]
  | [_, _] => by simp [enc64]
  | a :: b :: c :: r => by simp only [enc64, List.length_cons, enc64_length r]; omega
theorem enc64_bytes : ∀ {l : List Int}, Bytes l → Bytes (enc64 l)
  | [], _ => Bytes.nil
  | [a], h => by
    have ha := h a (by simp)
    have h1 := lt_at (x := a / 4) (by omega) (by omega)
    have h2 := lt_at (x := a % 4 * 16) (by omega) (by omega)
    exact Bytes.mk h1.1 h1.2.1 (Bytes.mk h2.1 h2.2.1 (Bytes.mk (by omega) (by omega) (Bytes.mk (by omega) (by omega) Bytes.nil)))
  | [a, b], h => by
    have ha := h a (by simp)
    have hb := h b (by simp)
    have h1 := lt_at (x := a / 4) (by omega) (by omega)
    have h2 := lt_at (x := a % 4 * 16 + b / 16) (by omega) (by omega)
    have h3 := lt_at (x := b % 16 * 4) (by omega) (by omega)
    exact Bytes.mk h1.1 h1.2.1 (Bytes.mk h2.1 h2.2.1 (Bytes.mk h3.1 h3.2.1 (Bytes.mk (by omega) (by omega) Bytes.nil)))
  | a :: b :: c :: r, h => by
    have ha := h a (by simp)
    have hb := h b (by simp)
    have hc := h c (by simp)
    have h1 := lt_at (x := a / 4) (by omega) (by omega)
    have h2 := lt_at (x := a % 4 * 16 + b / 16) (by omega) (by omega)
    have h3 := lt_at (x := b % 16 * 4 + c / 64) (by omega) (by omega)
    have h4 := lt_at (x := c % 64) (by omega) (by omega)
    exact Bytes.mk h1.1 h1.2.1 (Bytes.mk h2.1 h2.2.1 (Bytes.mk h3.1 h3.2.1 (Bytes.mk h4.1 h4.2.1 (enc64_bytes (fun x hx => h x (by simp [hx]))))))
theorem join {x y : Int} (i : Nat) (hi : i ≤ 62) (h0 : 0 ≤ x) (hx : x % 2 ^ i = 0) (h1 : x < 2 ^ 62) (h2 : 0 ≤ y) (h3 : y < 2 ^ i) : Go.bits .or .i64 x y = x + y :=
  bits_join .i64 62 (by decide) (fun n h0 h1 => by rw [IntKind.wrap_i64]; omega) i x y h0 hx h1 h2 h3 (by
    have : (2 : Int) ^ i ≤ 2 ^ 62 := by exact_mod_cast Nat.pow_le_pow_right (by omega) hi
    omega)
theorem mask63 {x : Int} (h0 : 0 ≤ x) (h1 : x < 2 ^ 62) : Go.bits .and .i64 x 63 = x % 64 :=
  bits_mask .i64 62 (by decide) (fun n h0 h1 => by rw [IntKind.wrap_i64]; omega) 6 (by decide) x h0 h1
theorem enc_loop : ∀ (l acc : List Int) (k : Nat), Bytes l → acc.length + 2 * l.length + 8 < 140737488355328 → l.length < k → text_EncodeBase64.l0 k l acc = some (strOfNums (acc ++ enc64 l))
  | [], acc, k, _, _, hk => by
    obtain ⟨k, rfl⟩ := rounds hk
    simp only [text_EncodeBase64.l0, List.length_nil]
    rw [if_neg (by omega), if_neg (by omega), if_neg (by omega)]
    simp [enc64]
  | [a], acc, k, hb, hl, hk => by
    obtain ⟨k, rfl⟩ := rounds hk
    have ha := hb a (by simp)
    simp only [List.length_cons, List.length_nil] at hl
    have e1 := Aside0.mk (w64 (x := a) (by omega) (by omega))
    have e2 := Aside0.mk (w64 (x := a * 65536) (by omega) (by omega))
    simp only [text_EncodeBase64.l0]
    rw [if_neg (by first | omega | (simp; done) | (simp; omega)), if_pos (by first | omega | (simp; done) | (simp; omega))]
    simp only [rd_zero, e1.out, e2.out]
    rw [mask63 (by omega) (by omega)]
    rw [show a * 65536 / 262144 = a / 4 from by omega, show a * 65536 / 4096 % 64 = a % 4 * 16 from by omega]
    rw [if_pos (by first | omega | (simp; done) | (simp; omega)), if_pos (by omega), if_pos (by omega), if_pos (by omega), if_pos (by omega)]
    try simp only [Option.bind_some]
    rw [if_pos (by first | omega | (simp; done) | (simp; omega))]
    rfl
  | [a, b], acc, k, hb, hl, hk => by
    obtain ⟨k, rfl⟩ := rounds hk
    have ha := hb a (by simp)
    have hb' := hb b (by simp)
    simp only [List.length_cons, List.length_nil] at hl
    have e1 := Aside0.mk (w64 (x := a) (by omega) (by omega))
    have e2 := Aside0.mk (w64 (x := a * 65536) (by omega) (by omega))
    have e3 := Aside0.mk (w64 (x := b) (by omega) (by omega))
    have e4 := Aside0.mk (w64 (x := b * 256) (by omega) (by omega))
    have e5 : Go.bits .or .i64 (a * 65536) (b * 256) = a * 65536 + b * 256 := join 16 (by omega) (by omega) (by omega) (by omega) (by omega) (by omega)
    simp only [text_EncodeBase64.l0]
    rw [if_neg (by first | omega | (simp; done) | (simp; omega)), if_neg (by first | omega | (simp; done) | (simp; omega)), if_pos (by first | omega | (simp; done) | (simp; omega))]
    simp only [rd_zero, rd_one, e1.out, e2.out, e3.out, e4.out, e5]
    rw [mask63 (x := (a * 65536 + b * 256) / 4096) (by omega) (by omega), mask63 (x := (a * 65536 + b * 256) / 64) (by omega) (by omega)]
    rw [show (a * 65536 + b * 256) / 262144 = a / 4 from by omega, show (a * 65536 + b * 256) / 4096 % 64 = a % 4 * 16 + b / 16 from by omega, show (a * 65536 + b * 256) / 64 % 64 = b % 16 * 4 from by omega]
    rw [if_pos (by first | omega | (simp; done) | (simp; omega)), if_pos (by first | omega | (simp; done) | (simp; omega)), if_pos (by omega), if_pos (by omega), if_pos (by omega), if_pos (by omega), if_pos (by omega), if_pos (by omega)]
    try simp only [Option.bind_some]
    rw [if_pos (by first | omega | (simp; done) | (simp; omega))]
    rfl
  | a :: b :: c :: r, acc, k, hb, hl, hk => by
    obtain ⟨k, rfl⟩ := rounds hk
    have ha := hb a (by simp)
    have hb' := hb b (by simp)
    have hc := hb c (by simp)
    simp only [List.length_cons] at hl hk
    have e1 := Aside0.mk (w64 (x := a) (by omega) (by omega))
    have e2 := Aside0.mk (w64 (x := a * 65536) (by omega) (by omega))
    have e3 := Aside0.mk (w64 (x := b) (by omega) (by omega))
    have e4 := Aside0.mk (w64 (x := b * 256) (by omega) (by omega))
    have e6 := Aside0.mk (w64 (x := c) (by omega) (by omega))
    have e5 : Go.bits .or .i64 (a * 65536) (b * 256) = a * 65536 + b * 256 := join 16 (by omega) (by omega) (by omega) (by omega) (by omega) (by omega)
    have e7 : Go.bits .or .i64 (a * 65536 + b * 256) c = a * 65536 + b * 256 + c := join 8 (by omega) (by omega) (by omega) (by omega) (by omega) (by omega)
    simp only [text_EncodeBase64.l0]
    rw [if_pos (by first | omega | (simp; done) | (simp; omega))]
    simp only [rd_zero, rd_one, rd_two, e1.out, e2.out, e3.out, e4.out, e5, e6.out, e7]
    rw [mask63 (x := (a * 65536 + b * 256 + c) / 4096) (by omega) (by omega), mask63 (x := (a * 65536 + b * 256 + c) / 64) (by omega) (by omega), mask63 (x := a * 65536 + b * 256 + c) (by omega) (by omega)]
    rw [show (a * 65536 + b * 256 + c) / 262144 = a / 4 from by omega, show (a * 65536 + b * 256 + c) / 4096 % 64 = a % 4 * 16 + b / 16 from by omega, show (a * 65536 + b * 256 + c) / 64 % 64 = b % 16 * 4 + c / 64 from by omega, show (a * 65536 + b * 256 + c) % 64 = c % 64 from by omega]
    rw [if_pos (by first | omega | (simp; done) | (simp; omega)), if_pos (by first | omega | (simp; done) | (simp; omega)), if_pos (by first | omega | (simp; done) | (simp; omega)), if_pos (by omega), if_pos (by omega), if_pos (by omega), if_pos (by omega), if_pos (by omega), if_pos (by omega), if_pos (by omega), if_pos (by omega)]
    try simp only [Option.bind_some]
    rw [if_pos (by first | omega | (simp; done) | (simp; omega)), if_pos (by first | omega | (simp; done) | (simp; omega))]
    have ih := enc_loop r (acc ++ [lt (a / 4), lt (a % 4 * 16 + b / 16), lt (b % 16 * 4 + c / 64), lt (c % 64)]) k (fun x hx => hb x (by simp [hx])) (by first | omega | (simp; done) | (simp; omega)) (by omega)
    simp only [List.drop_succ_cons, List.drop_zero]
    rw [show (acc ++ enc64 (a :: b :: c :: r)) = acc ++ [lt (a / 4), lt (a % 4 * 16 + b / 16), lt (b % 16 * 4 + c / 64), lt (c % 64)] ++ enc64 r from by simp [enc64]]
    exact ih
theorem enc64_f {l : List Int} (hb : Bytes l) (hl : l.length ≤ 70368744177600) : ∀ k, l.length < k → text_EncodeBase64.f k l = some (strOfNums (enc64 l)) := by
  intro k hk
  unfold text_EncodeBase64.f
  have h := enc_loop l [] k hb (by first | omega | (simp; done) | (simp; omega)) hk
  rw [w64 (x := (l.length : Int) + 2) (by omega) (by omega), Int.tdiv_eq_ediv_of_nonneg (by omega), w64 (x := ((l.length : Int) + 2) / 3) (by omega) (by omega), w64 (by omega) (by omega), if_pos (by omega), if_pos (by omega)]
  simpa using h
def dec64 : List Int → Option (List Int)
  | [] => some []
  | [_] => none
  | [a, b] => if val a < 0 then none else if val b < 0 then none else if val b % 16 = 0 then some [val a * 4 + val b / 16] else none
  | [a, b, c] => if val a < 0 then none else if val b < 0 then none else if val c < 0 then none else if val c % 4 = 0 then some [val a * 4 + val b / 16, val b % 16 * 16 + val c / 4] else none
  | a :: b :: c :: d :: r => if val a < 0 then none else if val b < 0 then none else if val c < 0 then none else if val d < 0 then none else
      (dec64 r).map fun l => (val a * 4 + val b / 16) :: (val b % 16 * 16 + val c / 4) :: (val c % 4 * 64 + val d) :: l
def pads (n : Nat) : List Int := if n % 3 = 1 then [61, 61] else if n % 3 = 2 then [61] else []
theorem dec64_sound : ∀ (s l : List Int), dec64 s = some l → Bytes l ∧ enc64 l = s ++ pads l.length ∧ (s.length + (pads l.length).length) % 4 = 0
  | [], l, h => by
    simp only [dec64, Option.some.injEq] at h
    subst h
    exact ⟨Bytes.nil, rfl, rfl⟩
  | [_], l, h => by simp [dec64] at h
  | [a, b], l, h => by
    simp only [dec64] at h
    rcases val_cases a with ha | ⟨a0, a1, a2⟩
    · rw [if_pos (by omega)] at h; cases h
    rcases val_cases b with hb | ⟨b0, b1, b2⟩
    · rw [if_neg (by omega), if_pos (by omega)] at h; cases h
    rw [if_neg (by omega), if_neg (by omega)] at h
    split at h
    · rename_i hm
      obtain rfl := Option.some.inj h
      refine ⟨Bytes.mk (by omega) (by omega) Bytes.nil, ?_, by simp [pads]⟩
      simp only [enc64, pads, List.length_cons, List.length_nil]
      rw [show (val a * 4 + val b / 16) / 4 = val a from by omega, show (val a * 4 + val b / 16) % 4 * 16 = val b from by omega, a2, b2]
      rfl
    · cases h
  | [a, b, c], l, h => by
    simp only [dec64] at h
    rcases val_cases a with ha | ⟨a0, a1, a2⟩
    · rw [if_pos (by omega)] at h; cases h
    rcases val_cases b with hb | ⟨b0, b1, b2⟩
    · rw [if_neg (by omega), if_pos (by omega)] at h; cases h
    rcases val_cases c with hc | ⟨c0, c1, c2⟩
    · rw [if_neg (by omega), if_neg (by omega), if_pos (by omega)] at h; cases h
    rw [if_neg (by omega), if_neg (by omega), if_neg (by omega)] at h
    split at h
    · rename_i hm
      obtain rfl := Option.some.inj h
      refine ⟨Bytes.mk (by omega) (by omega) (Bytes.mk (by omega) (by omega) Bytes.nil), ?_, by simp [pads]⟩
      simp only [enc64, pads, List.length_cons, List.length_nil]
      rw [show (val a * 4 + val b / 16) / 4 = val a from by omega, show (val a * 4 + val b / 16) % 4 * 16 + (val b % 16 * 16 + val c / 4) / 16 = val b from by omega, show (val b % 16 * 16 + val c / 4) % 16 * 4 = val c from by omega, a2, b2, c2]
      rfl
    · cases h
  | a :: b :: c :: d :: r, l, h => by
    simp only [dec64] at h
    rcases val_cases a with ha | ⟨a0, a1, a2⟩
    · rw [if_pos (by omega)] at h; cases h
    rcases val_cases b with hb | ⟨b0, b1, b2⟩
    · rw [if_neg (by omega), if_pos (by omega)] at h; cases h
    rcases val_cases c with hc | ⟨c0, c1, c2⟩
    · rw [if_neg (by omega), if_neg (by omega), if_pos (by omega)] at h; cases h
    rcases val_cases d with hd | ⟨d0, d1, d2⟩
    · rw [if_neg (by omega), if_neg (by omega), if_neg (by omega), if_pos (by omega)] at h; cases h
    rw [if_neg (by omega), if_neg (by omega), if_neg (by omega), if_neg (by omega)] at h
    obtain ⟨m, hm, rfl⟩ := Option.map_eq_some_iff.1 h
    obtain ⟨h1, h2, h3⟩ := dec64_sound r m hm
    refine ⟨Bytes.mk (by omega) (by omega) (Bytes.mk (by omega) (by omega) (Bytes.mk (by omega) (by omega) h1)), ?_, ?_⟩
    · have hp : pads (m.length + 1 + 1 + 1) = pads m.length := by unfold pads; rw [show (m.length + 1 + 1 + 1) % 3 = m.length % 3 from by omega]
      simp only [enc64, List.length_cons, hp, h2, List.cons_append]
      rw [show (val a * 4 + val b / 16) / 4 = val a from by omega, show (val a * 4 + val b / 16) % 4 * 16 + (val b % 16 * 16 + val c / 4) / 16 = val b from by omega, show (val b % 16 * 16 + val c / 4) % 16 * 4 + (val c % 4 * 64 + val d) / 64 = val c from by omega, show (val c % 4 * 64 + val d) % 64 = val d from by omega, a2, b2, c2, d2]
    · have hp : pads (m.length + 1 + 1 + 1) = pads m.length := by unfold pads; rw [show (m.length + 1 + 1 + 1) % 3 = m.length % 3 from by omega]
      simp only [List.length_cons, hp]
      omega
theorem enc64_body : ∀ {l : List Int}, Bytes l → ∃ s, enc64 l = s ++ pads l.length ∧ dec64 s = some l ∧ (s ≠ [] → ∃ s' x, s = s' ++ [x] ∧ x ≠ 61)
  | [], _ => ⟨[], rfl, rfl, fun h => absurd rfl h⟩
  | [a], h => by
    have ha := h a (by simp)
    have h1 := lt_at (x := a / 4) (by omega) (by omega)
    have h2 := lt_at (x := a % 4 * 16) (by omega) (by omega)
    refine ⟨[lt (a / 4), lt (a % 4 * 16)], rfl, ?_, fun _ => ⟨[lt (a / 4)], _, rfl, fun e => ?_⟩⟩
    · simp only [dec64, h1.2.2, h2.2.2]
      rw [if_neg (by omega), if_neg (by omega), if_pos (by omega), show a / 4 * 4 + a % 4 * 16 / 16 = a from by omega]
    · have := h2.2.2; rw [e, val_61] at this; omega
  | [a, b], h => by
    have ha := h a (by simp)
    have hb := h b (by simp)
    have h1 := lt_at (x := a / 4) (by omega) (by omega)
    have h2 := lt_at (x := a % 4 * 16 + b / 16) (by omega) (by omega)
    have h3 := lt_at (x := b % 16 * 4) (by omega) (by omega)
    refine ⟨[lt (a / 4), lt (a % 4 * 16 + b / 16), lt (b % 16 * 4)], rfl, ?_, fun _ => ⟨[lt (a / 4), lt (a % 4 * 16 + b / 16)], _, rfl, fun e => ?_⟩⟩
    · simp only [dec64, h1.2.2, h2.2.2, h3.2.2]
      rw [if_neg (by omega), if_neg (by omega), if_neg (by omega), if_pos (by omega), show a / 4 * 4 + (a % 4 * 16 + b / 16) / 16 = a from by omega, show (a % 4 * 16 + b / 16) % 16 * 16 + b % 16 * 4 / 4 = b from by omega]
    · have := h3.2.2; rw [e, val_61] at this; omega
  | a :: b :: c :: r, h => by
    have ha := h a (by simp)
    have hb := h b (by simp)
    have hc := h c (by simp)
    have h1 := lt_at (x := a / 4) (by omega) (by omega)
    have h2 := lt_at (x := a % 4 * 16 + b / 16) (by omega) (by omega)
    have h3 := lt_at (x := b % 16 * 4 + c / 64) (by omega) (by omega)
    have h4 := lt_at (x := c % 64) (by omega) (by omega)
    obtain ⟨s, e1, e2, e3⟩ := enc64_body (l := r) (fun x hx => h x (by simp [hx]))
    have hp : pads (r.length + 1 + 1 + 1) = pads r.length := by unfold pads; rw [show (r.length + 1 + 1 + 1) % 3 = r.length % 3 from by omega]
    refine ⟨lt (a / 4) :: lt (a % 4 * 16 + b / 16) :: lt (b % 16 * 4 + c / 64) :: lt (c % 64) :: s, ?_, ?_, fun _ => ?_⟩
    · simp only [enc64, e1, List.length_cons, hp, List.cons_append]
    · simp only [dec64, h1.2.2, h2.2.2, h3.2.2, h4.2.2, e2]
      rw [if_neg (by omega), if_neg (by omega), if_neg (by omega), if_neg (by omega)]
      simp only [Option.map_some]
      rw [show a / 4 * 4 + (a % 4 * 16 + b / 16) / 16 = a from by omega, show (a % 4 * 16 + b / 16) % 16 * 16 + (b % 16 * 4 + c / 64) / 4 = b from by omega, show (b % 16 * 4 + c / 64) % 4 * 64 + c % 64 = c from by omega]
    · by_cases hs : s = []
      · subst hs
        refine ⟨[lt (a / 4), lt (a % 4 * 16 + b / 16), lt (b % 16 * 4 + c / 64)], _, rfl, fun e => ?_⟩
        have := h4.2.2; rw [e, val_61] at this; omega
      · obtain ⟨s', x, e4, e5⟩ := e3 hs
        exact ⟨lt (a / 4) :: lt (a % 4 * 16 + b / 16) :: lt (b % 16 * 4 + c / 64) :: lt (c % 64) :: s', x, by rw [e4]; rfl, e5⟩
theorem mask (i : Nat) (hi : i ≤ 62) {x m : Int} (hm : m = 2 ^ i - 1) (h0 : 0 ≤ x) (h1 : x < 2 ^ 62) : Go.bits .and .i64 x m = x % 2 ^ i := by
  rw [hm]
  exact bits_mask .i64 62 (by decide) (fun n h0 h1 => by rw [IntKind.wrap_i64]; omega) i hi x h0 h1
section
variable {s : ByteArray} {pre r : List Int} {c : Int} (hs : bytesOf s = pre ++ c :: r)
include hs
theorem dstep_bad (hv : val c < 0) (acc : List Int) (bits held : Int) (k : Nat) (hk : 4 ≤ k) :
    text_DecodeBase64.l0 (k + 1) s acc bits held (s.size : Int) (pre.length : Int) = some ([], 60) := by
  have hz := size_of hs
  simp only [List.length_append, List.length_cons] at hz
  have hb : 0 ≤ c ∧ c ≤ 255 := (bytesOf_bytes s) c (by rw [hs]; simp)
  simp only [text_DecodeBase64.l0]
  rw [if_pos (by omega), if_pos (by omega), if_pos (by omega), bt_mid hs, value_f hb.1 hb.2 k hk]
  simp only [Option.bind_some]
  rw [if_pos hv]
variable (hm : s.size ≤ 1048576)
include hm
theorem dstep_0 (hv : 0 ≤ val c) (hv' : val c < 64) (acc : List Int) (k : Nat) (hk : 4 ≤ k) :
    text_DecodeBase64.l0 (k + 1) s acc 0 0 (s.size : Int) (pre.length : Int) = text_DecodeBase64.l0 k s acc (val c) 6 (s.size : Int) ((pre ++ [c]).length : Int) := by
  have hz := size_of hs
  simp only [List.length_append, List.length_cons] at hz
  have hb : 0 ≤ c ∧ c ≤ 255 := (bytesOf_bytes s) c (by rw [hs]; simp)
  have w1 := Aside0.mk (show wrap64 ((0 : Int) + 6) = 6 by decide +kernel)
  have w2 := Aside0.mk (show wrap64 ((0 : Int) * 64) = 0 by decide +kernel)
  have w3 := Aside0.mk (show wrap64 ((pre.length : Int) + 1) = ((pre ++ [c]).length : Int) by rw [w64 (by omega) (by omega)]; simp)
  have o1 := Aside0.mk (show Go.bits .or .i64 0 (val c) = val c by rw [join 62 (by omega) (by omega) (by omega) (by omega) (by omega) (by omega)]; omega)
  simp only [text_DecodeBase64.l0]
  rw [if_pos (by omega), if_pos (by omega), if_pos (by omega), bt_mid hs, value_f hb.1 hb.2 k hk]
  simp only [Option.bind_some, w1.out, w2.out, w3.out, o1.out]
  rw [if_neg (by omega), if_neg (by omega)]
theorem dstep_n (hv : 0 ≤ val c) (hv' : val c < 64) (acc : List Int) (bits held : Int) (i : Nat) (hi : i = 0 ∨ i = 2 ∨ i = 4) (hh : held = i + 2) (h0 : 0 ≤ bits) (h1 : bits < 64) (ha : acc.length ≤ 1048576) (k : Nat) (hk : 4 ≤ k) :
    text_DecodeBase64.l0 (k + 1) s acc bits held (s.size : Int) (pre.length : Int) = text_DecodeBase64.l0 k s (acc ++ [(bits * 64 + val c) / 2 ^ i % 256]) ((bits * 64 + val c) % 2 ^ i) (i : Int) (s.size : Int) ((pre ++ [c]).length : Int) := by
  have hz := size_of hs
  simp only [List.length_append, List.length_cons] at hz
  have hb : 0 ≤ c ∧ c ≤ 255 := (bytesOf_bytes s) c (by rw [hs]; simp)
  have w1 := Aside0.mk (show wrap64 (held + 6) = (i : Int) + 8 by rw [w64 (by omega) (by omega)]; omega)
  have w2 := Aside0.mk (show wrap64 (bits * 64) = bits * 64 from w64 (by omega) (by omega))
  have w3 := Aside0.mk (show wrap64 ((pre.length : Int) + 1) = ((pre ++ [c]).length : Int) by rw [w64 (by omega) (by omega)]; simp)
  have w4 := Aside0.mk (show wrap64 ((i : Int) + 8 - 8) = (i : Int) by rw [w64 (by omega) (by omega)]; omega)
  have o1 := Aside0.mk (show Go.bits .or .i64 (bits * 64) (val c) = bits * 64 + val c from join 6 (by omega) (by omega) (by omega) (by omega) (by omega) (by omega))
  have o2 := Aside0.mk (show shr .i64 (bits * 64 + val c) (i : Int) = (bits * 64 + val c) / 2 ^ i by rcases hi with rfl | rfl | rfl <;> rfl)
  have o3 := Aside0.mk (show Go.bits .and .i64 (bits * 64 + val c) (wrap64 (shl .i64 1 (i : Int) - 1)) = (bits * 64 + val c) % 2 ^ i by
    rcases hi with rfl | rfl | rfl
    · exact mask 0 (by omega) (by decide +kernel) (by omega) (by omega)
    · exact mask 2 (by omega) (by decide +kernel) (by omega) (by omega)
    · exact mask 4 (by omega) (by decide +kernel) (by omega) (by omega))
  simp only [text_DecodeBase64.l0]
  rw [if_pos (by omega), if_pos (by omega), if_pos (by omega), bt_mid hs, value_f hb.1 hb.2 k hk]
  simp only [Option.bind_some, w1.out, w2.out, w3.out, w4.out, o1.out, o2.out, o3.out]
  rw [if_neg (by omega), if_pos (by omega), if_pos (by omega), if_pos (by omega)]
end
end Go.Proofs.YtljinjgamgmocaaDoor.Pure
end
section
namespace Go.Proofs.YtljinjgamgmocaaDoor.J
open Go.RowKit Go.Proofs.YtljinjgamgmocaaDoorW.PrintWords Go.Proofs.YtljinjgamgmocaaDoor.Q Go.Proofs.YtljinjgamgmocaaDoor.G Go.Proofs.YtljinjgamgmocaaDoor.Pure
set_option linter.unusedVariables false
set_option linter.unusedSimpArgs false
def ty : Nat → Option Ty
  | 3 => some (.int .i64)
  | 5 => some (.int .u8)
  | 4 => some .bool
  | 9 => some .str
  | 22 => some (.slc 5 1)
  | _ => none
theorem info_u8 : (Tryd.prog.info? 5).map (fun i => (i.zero, i.size, i.bytes)) = some (some (.int .u8 0), 1, 1) := by kernel_rfl
theorem tys : Tys Tryd.prog ty := by
  intro t k h
  unfold ty at h
  split at h
  · cases h; exact Tryd.underlying3
  · cases h; exact Tryd.underlying5
  · cases h; exact Tryd.underlying4
  · cases h; exact Tryd.underlying9
  · cases h
    obtain ⟨i0, hi, hz⟩ := Option.map_eq_some_iff.1 info_u8
    simp only [Prod.mk.injEq] at hz
    exact ⟨Tryd.underlying22, i0, hi, hz.2.1⟩
  · cases h
section
variable {A : Option Addr} {n c : Nat} {l : List Int} {w : World}
theorem C_reads (h : ReadsInt w .u8 A n l) : Kd.C (Kd.int .u8) w A n l := Kd.C_of_reads (d := (0 : Int)) (readsInt_of.1 h)
theorem V_reads (h : ReadsInt w .u8 A n l) (hc : l.length ≤ c) (hn : l.length = n) : Kd.V (Kd.int .u8) 5 w w.heap.size (fun _ => True) (.slice A l.length c) l := by
  subst hn
  refine Kd.V_mk hc (fun W' hm => C_reads ⟨rfl, h.2.1, fun hp => ?_⟩)
  obtain ⟨ad, e, hcell⟩ := h.2.2 hp
  refine ⟨ad, e, fun j hj => ?_⟩
  have h1 := hcell j hj
  have hs := hm _ trivial (World.block_lt_of_cell? w _ h1)
  simp only [World.cell?] at h1 ⊢
  rw [hs]
  exact h1
theorem hex_c (h : ReadsInt w .u8 A n l) (hc : n ≤ c) (hb : Bytes l) (hl : l.length ≤ 3000000) (hL : LayD w) :
    Calls Tryd.prog 12 #[.slice A n c] w fun e w' => e = .returned (.string (strOfNums (hexOf l))) ∧ Below w.heap.size w w' := by
  obtain rfl : l.length = n := h.1
  exact text_EncodeHex.calls (l.length + 1) A c l _ w (C_reads h) hc hL (encHex hb (by omega) _ (by omega))
theorem quote_c (h : ReadsInt w .u8 A n l) (hc : n ≤ c) (hb : Bytes l) (hl : l.length ≤ 3000000) (hL : LayD w) :
    Calls Tryd.prog 13 #[.slice A n c] w fun e w' => e = .returned (.string (strOfNums (quoteOf l))) ∧ Below w.heap.size w w' := by
  obtain rfl : l.length = n := h.1
  exact text_Quote.calls (l.length + 1) A c l _ w (C_reads h) hc hL (quote_f hb (by omega) _ (by omega))
theorem b64_c (h : ReadsInt w .u8 A n l) (hc : n ≤ c) (hb : Bytes l) (hl : l.length ≤ 3000000) :
    Calls Tryd.prog 14 #[.slice A n c] w fun e w' => e = .returned (.string (strOfNums (enc64 l))) ∧ Below w.heap.size w w' := by
  obtain rfl : l.length = n := h.1
  exact text_EncodeBase64.calls (l.length + 1) (fun _ => True) A c l _ w (V_reads h hc rfl) (enc64_f hb (by omega) _ (by omega))
end
theorem blS {l : List Int} (h : Bytes l) : bl (strOfNums l) = l := bytesOf_str h
theorem sizeS {l : List Int} (h : Bytes l) : (strOfNums l).size = l.length := by rw [← bl_length, blS h]
end Go.Proofs.YtljinjgamgmocaaDoor.J
end
section
namespace Go.Proofs.YtljinjgamgmocaaDoor.Q
open Go.RowKit Go.Proofs.YtljinjgamgmocaaDoorW.PrintWords Go.Proofs.YtljinjgamgmocaaDoorW.PrintLast
set_option linter.unusedVariables false
set_option linter.unusedSimpArgs false
structure WA (P : Program) (md : Region.Mode) (ops : Array Oper) (Q : Exit → Act → World → Prop) (S : World → Prop) (ds : List Nat) (fuel : Nat) (l : Array Bool) (a : Act) (w : World) : Prop where mk :: (out : wpAnyLast P md ops Q S ds fuel l a w)
section
variable {P : Program} {n : Nat} {ops : Array Oper} {Q : Exit → Act → World → Prop} {f : Fr} {w : World}
end
end Go.Proofs.YtljinjgamgmocaaDoor.Q
end
section
namespace Go.Proofs.YtljinjgamgmocaaDoor.Q
open Go.RowKit Go.Proofs.YtljinjgamgmocaaDoorW.PrintWords Go.Proofs.YtljinjgamgmocaaDoorW.PrintLast
set_option linter.unusedVariables false
set_option linter.unusedSimpArgs false
structure RowD where
  v : Value
  e : TypeId
  sz : Nat
  n : Nat
  cs : List Value
abbrev Ent := Nat × TypeId × List Value
structure HpS (s : Bool) (w0 w : World) (l : List Ent) (r : List RowD) : Prop where
  B : Below w0.heap.size w0 w
  blk : ∀ (i : Nat) (p : Ent), l[i]? = some p → w0.heap.size ≤ p.1 ∧ w.heap[p.1]? = some (.cells p.2.2.toArray p.2.1 (0, 0))
  row : ∀ (i : Nat) (d : RowD), r[i]? = some d → w.ownsRow w0.heap.size d.e d.sz d.v d.n d.cs
  ndl : ∀ (i j : Nat) (p q : Ent), l[i]? = some p → l[j]? = some q → i ≠ j → p.1 ≠ q.1
  ndr : ∀ (i j : Nat) (d e : RowD), r[i]? = some d → r[j]? = some e → i ≠ j → ∀ b, d.v.ownBlock = some b → e.v.ownBlock ≠ some b
  ndm : ∀ (i j : Nat) (p : Ent) (d : RowD), l[i]? = some p → r[j]? = some d → d.v.ownBlock ≠ some p.1
  dr : s = true → w0.drawn ≤ w.drawn
abbrev Hp := HpS false
section
variable {s : Bool} {w0 w w' : World} {l l' : List Ent} {r r' : List RowD}
theorem HpS.nil (w : World) : HpS s w w [] [] := ⟨Below.refl _ w, by simp, by simp, by simp, by simp, by simp, fun _ => Nat.le_refl _⟩
theorem Hp.nil (w : World) : Hp w w [] [] := HpS.nil w
abbrev Hd := HpS true
structure Bel (b : Nat) (w w' : World) : Prop extends Below b w w' where
  drw : w.drawn ≤ w'.drawn
instance {b : Nat} : Coe (Bel b w w') (Below b w w') := ⟨Bel.toBelow⟩
instance : Coe (Hd w w' l r) (Hp w w' l r) := ⟨fun h => ⟨h.B, h.blk, h.row, h.ndl, h.ndr, h.ndm, nofun⟩⟩
theorem HpS.lt (H : HpS s w0 w l r) {i : Nat} {p : Ent} (h : l[i]? = some p) : p.1 < w.heap.size := blk_lt (H.blk i p h).2
theorem HpS.rlt (H : HpS s w0 w l r) {i : Nat} {d : RowD} (h : r[i]? = some d) {b : Nat} (hb : d.v.ownBlock = some b) : b < w.heap.size := own_lt (H.row i d h) b hb
theorem HpS.call (H : HpS s w0 w l r) (hb : Below w.heap.size w w') (hd : s = true → w.drawn ≤ w'.drawn := by nofun) : HpS s w0 w' l r :=
  ⟨below_then H.B H.B.size hb, fun i p h => ⟨(H.blk i p h).1, blk_below (H.blk i p h).2 hb⟩, fun i d h => pw_own_below (H.row i d h) hb, H.ndl, H.ndr, H.ndm, fun e => Nat.le_trans (H.dr e) (hd e)⟩
theorem HpS.drew (H : HpS s w0 w l r) : HpS s w0 w.drew l r := H.call (below_drew (Below.refl _ w)) (fun _ => Nat.le_succ _)
theorem HpS.get (H : HpS s w0 w l r) (k : Nat) {g : Nat} {t : TypeId} {cs : List Value} (hk : l[k]? = some (g, t, cs)) : w.heap[g]? = some (.cells cs.toArray t (0, 0)) := (H.blk k _ hk).2
theorem HpS.cellAt (H : HpS s w0 w l r) (k : Nat) {g i : Nat} {t : TypeId} {cs : List Value} {v : Value} (hk : l[k]? = some (g, t, cs)) (hi : cs[i]? = some v) : w.cell? ⟨g, i, none⟩ = some v := by
  rw [blk_cell (H.get k hk) i]
  simpa using hi
theorem HpS.old (H : HpS s w0 w l r) {a : Addr} {v : Value} (hc : w0.cell? a = some v) : w.cell? a = some v := pw_cell_below H.B hc
theorem HpS.push (H : HpS s w0 w l r) (t : TypeId) (cs : List Value) : HpS s w0 (w.alloc (.cells cs.toArray t)) ((w.heap.size, t, cs) :: l) r := by
  have K := below_alloc (Below.refl w.heap.size w) (.cells cs.toArray t)
  have H1 := H.call K (fun _ => Nat.le_refl _)
  refine ⟨H1.B, fun i p h => ?_, H1.row, fun i j p q h1 h2 hne => ?_, H1.ndr, fun i j p d h1 h2 => ?_, H1.dr⟩
  · cases i with
    | zero => simp only [List.getElem?_cons_zero, Option.some.injEq] at h; subst h; exact ⟨H.B.size, blk_new w _⟩
    | succ i => simp only [List.getElem?_cons_succ] at h; exact H1.blk i p h
  · cases i with
    | zero =>
      cases j with
      | zero => exact absurd rfl hne
      | succ j =>
        simp only [List.getElem?_cons_zero, List.getElem?_cons_succ, Option.some.injEq] at h1 h2
        subst h1
        have := H.lt h2
        show w.heap.size ≠ q.1
        omega
    | succ i =>
      cases j with
      | zero =>
        simp only [List.getElem?_cons_zero, List.getElem?_cons_succ, Option.some.injEq] at h1 h2
        subst h2
        have := H.lt h1
        show p.1 ≠ w.heap.size
        omega
      | succ j =>
        simp only [List.getElem?_cons_succ] at h1 h2
        exact H.ndl i j p q h1 h2 (by omega)
  · cases i with
    | zero =>
      simp only [List.getElem?_cons_zero, Option.some.injEq] at h1
      subst h1
      intro hb
      exact absurd (H.rlt h2 hb) (Nat.lt_irrefl _)
    | succ i => simp only [List.getElem?_cons_succ] at h1; exact H.ndm i j p d h1 h2
theorem HpS.upd (H : HpS s w0 w l r) (k : Nat) {g : Nat} {t : TypeId} {cs : List Value} (hk : l[k]? = some (g, t, cs)) {cs' : List Value} (hg : w.grownBy w' (some g)) (hc : w'.heap[g]? = some (.cells cs'.toArray t (0, 0))) (hd : s = true → w.drawn ≤ w'.drawn := by nofun) : HpS s w0 w' (l.set k (g, t, cs')) r := by
  have hb := (H.blk k _ hk).1
  have hkl : k < l.length := (List.getElem?_eq_some_iff.1 hk).1
  have key : ∀ (i : Nat) (p : Ent), (l.set k (g, t, cs'))[i]? = some p → (i = k ∧ p = (g, t, cs')) ∨ (i ≠ k ∧ l[i]? = some p) := by
    intro i p h
    rw [List.getElem?_set] at h
    by_cases e : k = i
    · subst e
      simp only [if_true, hkl, Option.some.injEq] at h
      exact .inl ⟨rfl, h.symm⟩
    · rw [if_neg e] at h
      exact .inr ⟨fun e' => e e'.symm, h⟩
  refine ⟨H.B.grown hg H.B.size (fun b e => by cases e; exact hb), fun i p h => ?_, fun i d h => ?_, fun i j p q h1 h2 hne => ?_, H.ndr, fun i j p d h1 h2 => ?_, fun e => Nat.le_trans (H.dr e) (hd e)⟩
  · rcases key i p h with ⟨_, rfl⟩ | ⟨hne, h⟩
    · exact ⟨hb, hc⟩
    · exact ⟨(H.blk i p h).1, blk_grown (H.blk i p h).2 hg (fun e => H.ndl i k p _ h hk hne (Option.some.inj e))⟩
  · refine own_other (H.row i d h) hg ?_
    cases e : d.v.ownBlock with
    | none => exact .inl rfl
    | some b => exact .inr (fun e2 => H.ndm k i _ d hk h (by rw [e, e2]))
  · rcases key i p h1 with ⟨e1, ep⟩ | ⟨n1, g1⟩ <;> rcases key j q h2 with ⟨e2, eq⟩ | ⟨n2, g2⟩
    · exact absurd (e1.trans e2.symm) hne
    · rw [ep]; exact H.ndl k j (g, t, cs) q hk g2 (fun e => n2 e.symm)
    · rw [eq]; exact H.ndl i k p (g, t, cs) g1 hk n1
    · exact H.ndl i j p q g1 g2 hne
  · rcases key i p h1 with ⟨_, ep⟩ | ⟨_, g1⟩
    · rw [ep]; exact H.ndm k j (g, t, cs) d hk h2
    · exact H.ndm i j p d g1 h2
theorem HpS.put (H : HpS s w0 w l r) (k : Nat) {d d' : RowD} (hk : r[k]? = some d) (hg : w.grownBy w' d.v.ownBlock) (ho : w'.ownsRow w0.heap.size d'.e d'.sz d'.v d'.n d'.cs)
    (hat : d'.v.ownBlock = d.v.ownBlock ∨ ∃ b, d'.v.ownBlock = some b ∧ w.heap.size ≤ b) (hd : s = true → w.drawn ≤ w'.drawn := by nofun) : HpS s w0 w' l (r.set k d') := by
  have hkl : k < r.length := (List.getElem?_eq_some_iff.1 hk).1
  have key : ∀ (i : Nat) (p : RowD), (r.set k d')[i]? = some p → (i = k ∧ p = d') ∨ (i ≠ k ∧ r[i]? = some p) := by
    intro i p h
    rw [List.getElem?_set] at h
    by_cases e : k = i
    · subst e
      simp only [if_true, hkl, Option.some.injEq] at h
      exact .inl ⟨rfl, h.symm⟩
    · rw [if_neg e] at h
      exact .inr ⟨fun e' => e e'.symm, h⟩
  refine ⟨H.B.grown hg H.B.size (fun b e => own_base (H.row k d hk) b e), fun i p h => ⟨(H.blk i p h).1, blk_grown (H.blk i p h).2 hg (fun e => H.ndm i k p d h hk e.symm)⟩, fun i e h => ?_, H.ndl, fun i j p q h1 h2 hne b hb => ?_, fun i j p q h1 h2 => ?_, fun e => Nat.le_trans (H.dr e) (hd e)⟩
  · rcases key i e h with ⟨_, rfl⟩ | ⟨hne, h⟩
    · exact ho
    · refine own_other (H.row i e h) hg ?_
      cases e1 : e.v.ownBlock with
      | none => exact .inl rfl
      | some b => exact .inr (fun e2 => H.ndr i k e d h hk hne b e1 e2.symm)
  · rcases key i p h1 with ⟨e1, ep⟩ | ⟨n1, g1⟩ <;> rcases key j q h2 with ⟨e2, eq⟩ | ⟨n2, g2⟩
    · exact absurd (e1.trans e2.symm) hne
    · rw [ep] at hb
      rcases hat with hat | ⟨b', hat, hlt⟩
      · exact H.ndr k j d q hk g2 (fun e => n2 e.symm) b (hat.symm.trans hb)
      · intro hq
        have := H.rlt g2 hq
        rw [hat] at hb
        cases hb
        omega
    · rw [eq]
      rcases hat with hat | ⟨b', hat, hlt⟩
      · rw [hat]; exact H.ndr i k p d g1 hk n1 b hb
      · rw [hat]
        intro hq
        have := H.rlt g1 hb
        cases hq
        omega
    · exact H.ndr i j p q g1 g2 hne b hb
  · rcases key j q h2 with ⟨_, eq⟩ | ⟨_, g2⟩
    · rw [eq]
      rcases hat with hat | ⟨b', hat, hlt⟩
      · rw [hat]; exact H.ndm i k p d h1 hk
      · rw [hat]
        intro hq
        have := H.lt h1
        cases hq
        omega
    · exact H.ndm i j p q h1 g2
theorem HpS.nilRow (H : HpS s w0 w l r) (e : TypeId) (sz : Nat) : HpS s w0 w l (⟨.slice none 0 0, e, sz, 0, []⟩ :: r) := by
  refine ⟨H.B, H.blk, fun i d h => ?_, H.ndl, fun i j p q h1 h2 hne b hb => ?_, fun i j p q h1 h2 => ?_, H.dr⟩
  · cases i with
    | zero => simp only [List.getElem?_cons_zero, Option.some.injEq] at h; subst h; exact own_nil _ _ _ _
    | succ i => simp only [List.getElem?_cons_succ] at h; exact H.row i d h
  · cases i with
    | zero => simp only [List.getElem?_cons_zero, Option.some.injEq] at h1; subst h1; simp [Value.ownBlock] at hb
    | succ i =>
      cases j with
      | zero => simp only [List.getElem?_cons_zero, Option.some.injEq] at h2; subst h2; simp [Value.ownBlock]
      | succ j => simp only [List.getElem?_cons_succ] at h1 h2; exact H.ndr i j p q h1 h2 (by omega) b hb
  · cases j with
    | zero => simp only [List.getElem?_cons_zero, Option.some.injEq] at h2; subst h2; simp [Value.ownBlock]
    | succ j => simp only [List.getElem?_cons_succ] at h2; exact H.ndm i j p q h1 h2
theorem own_lower {w : World} {b b' : Nat} {e : TypeId} {sz n : Nat} {v : Value} {xs : List Value} (h : w.ownsRow b e sz v n xs) (hb : b' ≤ b) : w.ownsRow b' e sz v n xs := by
  refine ⟨h.1, ?_⟩
  rcases h.2 with h2 | ⟨g, cap, cur, h1, h2, h3⟩
  · exact .inl h2
  · exact .inr ⟨g, cap, cur, h1, Nat.le_trans hb h2, h3⟩
theorem HpS.join (H : HpS s w0 w l r) (K : HpS s w w' l' r') : HpS s w0 w' (l' ++ l) (r' ++ r) := by
  have H1 := H.call K.B K.dr
  have nl : ∀ {i : Nat} {p : Ent}, l'[i]? = some p → w.heap.size ≤ p.1 := fun h => (K.blk _ _ h).1
  have nr : ∀ {i : Nat} {d : RowD}, r'[i]? = some d → ∀ b, d.v.ownBlock = some b → w.heap.size ≤ b := fun h b hb => own_base (K.row _ _ h) b hb
  have kl : ∀ (i : Nat) (p : Ent), (l' ++ l)[i]? = some p → (i < l'.length ∧ l'[i]? = some p) ∨ (l'.length ≤ i ∧ l[i - l'.length]? = some p) := by
    intro i p h
    rcases Nat.lt_or_ge i l'.length with h1 | h1
    · rw [List.getElem?_append_left h1] at h; exact .inl ⟨h1, h⟩
    · rw [List.getElem?_append_right h1] at h; exact .inr ⟨h1, h⟩
  have kr : ∀ (i : Nat) (p : RowD), (r' ++ r)[i]? = some p → (i < r'.length ∧ r'[i]? = some p) ∨ (r'.length ≤ i ∧ r[i - r'.length]? = some p) := by
    intro i p h
    rcases Nat.lt_or_ge i r'.length with h1 | h1
    · rw [List.getElem?_append_left h1] at h; exact .inl ⟨h1, h⟩
    · rw [List.getElem?_append_right h1] at h; exact .inr ⟨h1, h⟩
  refine ⟨H1.B, fun i p h => ?_, fun i d h => ?_, fun i j p q h1 h2 hne => ?_, fun i j p q h1 h2 hne b hb => ?_, fun i j p q h1 h2 => ?_, H1.dr⟩
  · rcases kl i p h with ⟨_, h⟩ | ⟨_, h⟩
    · exact ⟨Nat.le_trans H.B.size (nl h), (K.blk i p h).2⟩
    · exact H1.blk _ p h
  · rcases kr i d h with ⟨_, h⟩ | ⟨_, h⟩
    · exact own_lower (K.row i d h) H.B.size
    · exact H1.row _ d h
  · rcases kl i p h1 with ⟨a1, h1⟩ | ⟨a1, h1⟩ <;> rcases kl j q h2 with ⟨a2, h2⟩ | ⟨a2, h2⟩
    · exact K.ndl i j p q h1 h2 hne
    · have := nl h1; have := H.lt h2; omega
    · have := nl h2; have := H.lt h1; omega
    · exact H.ndl _ _ p q h1 h2 (by omega)
  · rcases kr i p h1 with ⟨a1, h1⟩ | ⟨a1, h1⟩ <;> rcases kr j q h2 with ⟨a2, h2⟩ | ⟨a2, h2⟩
    · exact K.ndr i j p q h1 h2 hne b hb
    · intro hq; have := nr h1 b hb; have := H.rlt h2 hq; omega
    · intro hq; have := nr h2 b hq; have := H.rlt h1 hb; omega
    · exact H.ndr _ _ p q h1 h2 (by omega) b hb
  · rcases kl i p h1 with ⟨a1, h1⟩ | ⟨a1, h1⟩ <;> rcases kr j q h2 with ⟨a2, h2⟩ | ⟨a2, h2⟩
    · exact K.ndm i j p q h1 h2
    · intro hq; have := nl h1; have := H.rlt h2 hq; omega
    · intro hq; have := nr h2 _ hq; have := H.lt h1; omega
    · exact H.ndm _ _ p q h1 h2
theorem HpS.sel (H : HpS s w0 w l r) (ks ms : List Nat) (hk : ks.Nodup) (hm : ms.Nodup) (hl : ks.map (l[·]?) = l'.map some) (hr : ms.map (r[·]?) = r'.map some) : HpS s w0 w l' r' := by
  have key : ∀ {α : Type} {ks : List Nat} {l l' : List α}, ks.map (l[·]?) = l'.map some → ∀ (i : Nat) (p : α), l'[i]? = some p → ∃ k, ks[i]? = some k ∧ l[k]? = some p := by
    intro α ks l l' h i p hp
    have h1 := congrArg (fun z => z[i]?) h
    simp only [List.getElem?_map, hp, Option.map_some] at h1
    cases hq : ks[i]? with
    | none => rw [hq] at h1; simp at h1
    | some k => rw [hq] at h1; exact ⟨k, rfl, by simpa using h1⟩
  have nd : ∀ {ks : List Nat}, ks.Nodup → ∀ {i j a b : Nat}, ks[i]? = some a → ks[j]? = some b → i ≠ j → a ≠ b := by
    intro ks hn i j a b ha hb hne e
    subst e
    exact hne ((List.getElem?_inj (List.getElem?_eq_some_iff.1 ha).1 hn).1 (ha.trans hb.symm))
  refine ⟨H.B, fun i p h => ?_, fun i d h => ?_, fun i j p q h1 h2 hne => ?_, fun i j p q h1 h2 hne => ?_, fun i j p q h1 h2 => ?_, H.dr⟩
  · obtain ⟨k, _, h⟩ := key hl i p h; exact H.blk k p h
  · obtain ⟨k, _, h⟩ := key hr i d h; exact H.row k d h
  · obtain ⟨a, ha, h1⟩ := key hl i p h1
    obtain ⟨b, hb, h2⟩ := key hl j q h2
    exact H.ndl a b p q h1 h2 (nd hk ha hb hne)
  · obtain ⟨a, ha, h1⟩ := key hr i p h1
    obtain ⟨b, hb, h2⟩ := key hr j q h2
    exact H.ndr a b p q h1 h2 (nd hm ha hb hne)
  · obtain ⟨a, ha, h1⟩ := key hl i p h1
    obtain ⟨b, hb, h2⟩ := key hr j q h2
    exact H.ndm a b p q h1 h2
theorem Hp.ofOwn {e : TypeId} {sz n : Nat} {v : Value} {xs : List Value} (h : w'.ownsRow w.heap.size e sz v n xs) (hb : Below w.heap.size w w') : Hp w w' [] [⟨v, e, sz, n, xs⟩] := by
  refine ⟨hb, by simp, fun i d hi => ?_, by simp, fun i j p q h1 h2 hne => ?_, by simp, nofun⟩
  · cases i with
    | zero => simp only [List.getElem?_cons_zero, Option.some.injEq] at hi; subst hi; exact h
    | succ i => simp at hi
  · cases i with
    | zero => cases j with | zero => exact absurd rfl hne | succ j => simp at h2
    | succ i => simp at h1
end
def Rd (w : World) (A : Option Addr) (cs : List Value) : Prop := (A = none → cs = []) ∧ ∀ ad, A = some ad → ∀ i v, cs[i]? = some v → w.cell? (ad.add i) = some v
theorem Rd.below {w w' : World} {A : Option Addr} {cs : List Value} (h : Rd w A cs) (hb : Below w.heap.size w w') : Rd w' A cs := ⟨h.1, fun ad e i v hv => pw_cell_below hb (h.2 ad e i v hv)⟩
theorem own_rd {w : World} {base : Nat} {e : TypeId} {sz n : Nat} {v : Value} {xs : List Value} (h : w.ownsRow base e sz v n xs) : ∃ A c, v = .slice A n c ∧ n ≤ c ∧ Rd w A xs ∧ (A = none → c = 0 ∧ n = 0) := by
  obtain ⟨hlen, h2⟩ := h
  have h : w.ownsRow base e sz v n xs := ⟨hlen, h2⟩
  rcases h2 with ⟨rfl, rfl⟩ | ⟨g, cap, cur, rfl, hb, hg, hn, _⟩
  · refine ⟨none, 0, rfl, Nat.le_refl _, ⟨fun _ => List.eq_nil_of_length_eq_zero (by rw [hlen]; simp), fun ad e => (by cases e)⟩, fun _ => And.intro rfl rfl⟩
  · refine ⟨_, cap, rfl, hn, ⟨fun e => (by cases e), fun ad e i v hv => ?_⟩, fun e => (by cases e)⟩
    cases e
    exact h.cells (g := g) rfl i v hv
theorem HpS.rd {s : Bool} {w0 w : World} {l : List Ent} {r : List RowD} (H : HpS s w0 w l r) (k : Nat) {d : RowD} (hk : r[k]? = some d) : ∃ A c, d.v = .slice A d.n c ∧ d.n ≤ c ∧ Rd w A d.cs ∧ (A = none → c = 0 ∧ d.n = 0) := own_rd (H.row k d hk)
def nfL {α β : Type} : List α → (List α → Option β) → Option β
  | [], k => k []
  | x :: xs, k => nfL xs fun l => k (x :: l)
theorem nfL_eq {α β : Type} : ∀ (l : List α) (k : List α → Option β), nfL l k = k l
  | [], _ => rfl
  | x :: xs, k => by rw [nfL, nfL_eq xs]
theorem nfL_some {α : Type} {l m : List α} (h : nfL l some = some m) : m = l := by
  rw [nfL_eq] at h
  exact (Option.some.inj h).symm
def nfO {α β : Type} : List (Option α) → (List α → Option β) → Option β
  | [], k => k []
  | some x :: xs, k => nfO xs fun l => k (x :: l)
  | none :: _, _ => none
theorem nfO_eq {α β : Type} : ∀ (l : List (Option α)) (k : List α → Option β) (z : β), nfO l k = some z → ∃ m, l = m.map some ∧ k m = some z
  | [], k, z, h => ⟨[], rfl, h⟩
  | some x :: xs, k, z, h => by
    obtain ⟨m, h1, h2⟩ := nfO_eq xs _ z h
    exact ⟨x :: m, by rw [h1]; rfl, h2⟩
  | none :: _, k, z, h => by cases h
theorem nfO_some {α : Type} {l : List (Option α)} {m : List α} (h : nfO l some = some m) : l = m.map some := by
  obtain ⟨m', h1, h2⟩ := nfO_eq l some m h
  cases h2
  exact h1
theorem HpS.pick {s : Bool} {w0 w : World} {l l' : List Ent} {r r' : List RowD} (H : HpS s w0 w l r) (ks ms : List Nat) (hk : ks.Nodup) (hm : ms.Nodup) (hl : nfO (ks.map (l[·]?)) some = some l') (hr : nfO (ms.map (r[·]?)) some = some r') : HpS s w0 w l' r' :=
  H.sel ks ms hk hm (nfO_some hl) (nfO_some hr)
def RecOk (P : Program) (t : TypeId) (zs : List Value) : Prop := (∃ d, P.underlying t = some d ∧ d.isRow = true) ∧ (P.info? t).map (fun i => (i.zero.map Value.cells, i.size)) = some (some zs.toArray, zs.length)
abbrev Recs (P : Program) (rt : Nat → Option (List Value)) : Prop := ∀ t zs, rt t = some zs → RecOk P t zs
def fldB (P : Program) (t k : Nat) : Option Nat := match P.underlying t with
  | some (.struct fs) => match fs[k]? with
    | some fd => match P.info? fd.type with
      | some i => bif Nat.beq i.size 0 then none else some fd.offset
      | none => none
    | none => none
  | _ => none
abbrev Flds (P : Program) (fo : Nat → Nat → Option Nat) : Prop := ∀ t k o, fo t k = some o → fldB P t k = some o
abbrev Ones (P : Program) (ty : Nat → Option Ty) : Prop := ∀ t k, ty t = some k → (P.info? t).map (·.size) = some 1
def evF (n : Nat) (f : Fr) (fo : Nat → Nat → Option Nat) : Op → Option Value
  | .fieldAddr s x k => match fo s k, X n f x with
    | some o, .pointer (some ⟨b, i, none⟩) => some (.pointer (some ⟨b, i + o, none⟩))
    | _, _ => none
  | _ => none
def evG (n : Nat) (f : Fr) (fo : Nat → Nat → Option Nat) : Op → Option Value
  | .fieldAddr s x k => match fo s k, X n f x with
    | some o, .pointer (some a) => some (.pointer (some (a.add o)))
    | _, _ => none
  | _ => none
def evOps (n : Nat) (f : Fr) : List (Nat × Operand) → List (Nat × Value)
  | [] => []
  | (i, x) :: r => (i, X n f x) :: evOps n f r
def evBld (n : Nat) (f : Fr) : Op → Option (TypeId × List (Nat × Value))
  | .build t parts => some (t, evOps n f parts.toList)
  | _ => none
section
variable {P : Program} {ty : Nat → Option Ty} {rt : Nat → Option (List Value)} {fo : Nat → Nat → Option Nat} {n : Nat} {f : Fr} {w : World} {o : Oper}
theorem add_lit (b i j : Nat) : (⟨b, i, none⟩ : Addr).add j = ⟨b, i + j, none⟩ := by unfold Addr.add; split <;> simp_all
theorem fld_run {s k o : Nat} {a : Addr} (h : fldB P s k = some o) : (Instr.fieldAt s (.pointer (some a)) k).run P w = .ok (.pointer (some (a.add o))) w := by
  unfold fldB at h
  split at h
  · rename_i fs hs
    split at h
    · rename_i fd hf
      split at h
      · rename_i i hi
        by_cases hz : i.size = 0
        · simp [hz] at h
        · have : Nat.beq i.size 0 = false := by rw [Bool.eq_false_iff]; intro e; exact hz (Nat.eq_of_beq_eq_true e)
          simp only [this, cond_false, Option.some.injEq] at h
          subst h
          simp [Instr.fieldAt, Instr.sureAddr, fieldPlace, sizeOf, typeInfo, run_underlying hs, hf, hi, hz, go_sem]
      · cases h
    · cases h
  · cases h
theorem evF_run (hfo : Flds P fo) {v : Value} (h : evF n f fo o.op = some v) : (execOp (X n f) o).run P w = .ok (.value v) w := by
  unfold evF at h
  split at h
  · rename_i s x k ho
    split at h
    · rename_i off b i h1 h2
      simp only [Option.some.injEq] at h
      subst h
      have := fld_run (P := P) (w := w) (a := ⟨b, i, none⟩) (hfo _ _ _ h1)
      rw [add_lit] at this
      unfold execOp
      simp [ho, h2, this]
    · cases h
  · cases h
theorem evG_run (hfo : Flds P fo) {v : Value} (h : evG n f fo o.op = some v) : (execOp (X n f) o).run P w = .ok (.value v) w := by
  unfold evG at h
  split at h
  · rename_i s x k ho
    split at h
    · rename_i off a h1 h2
      simp only [Option.some.injEq] at h
      subst h
      have := fld_run (P := P) (w := w) (a := a) (hfo _ _ _ h1)
      unfold execOp
      simp [ho, h2, this]
    · cases h
  · cases h
theorem evOps_eq (n : Nat) (f : Fr) : ∀ l : List (Nat × Operand), evOps n f l = l.map fun (i, x) => (i, X n f x)
  | [] => rfl
  | (i, x) :: r => by rw [evOps, evOps_eq n f r]; rfl
theorem evBld_run {t : TypeId} {ps : List (Nat × Value)} {cs : Array Value} (h : evBld n f o.op = some (t, ps)) (hc : P.built t ps = some cs) : (execOp (X n f) o).run P w = .ok (.value (.agg cs)) w := by
  unfold evBld at h
  split at h
  · rename_i t1 parts ho
    simp only [Option.some.injEq, Prod.mk.injEq] at h
    obtain ⟨rfl, rfl⟩ := h
    have := run_build (P := P) w t1 (parts.map fun (i, x) => (i, X n f x)) cs (by rw [Array.toList_map, ← evOps_eq]; exact hc)
    unfold execOp
    simp [ho, this]
  · cases h
def evLR (n : Nat) (f : Fr) : Op → Option (TypeId × Nat × Nat)
  | .load t x => match X n f x with
    | .pointer (some ⟨g, i, none⟩) => some (t, g, i)
    | _ => none
  | _ => none
theorem evLR_run (hrt : Recs P rt) {t : TypeId} {g i : Nat} {cs zs : List Value} (h : evLR n f o.op = some (t, g, i)) (hz : rt t = some zs) (hc : w.rangeAt g i cs) (hs : cs.length = zs.length) : (execOp (X n f) o).run P w = .ok (.value (.agg cs.toArray)) w := by
  unfold evLR at h
  split at h
  · rename_i t1 x ho
    split at h
    · rename_i g1 i1 hx
      simp only [Option.some.injEq, Prod.mk.injEq] at h
      obtain ⟨rfl, rfl, rfl⟩ := h
      obtain ⟨⟨d, h1, h2⟩, h3⟩ := hrt _ _ hz
      have hsz : (P.info? t1).map (·.size) = some cs.length := by
        obtain ⟨i0, hi, h4⟩ := Option.map_eq_some_iff.1 h3
        simp only [Prod.mk.injEq] at h4
        rw [hi, hs, ← h4.2]; rfl
      have := run_loadAt_mid (P := P) w g1 i1 t1 cs d hc h1 h2 hsz
      unfold execOp
      simp [ho, hx, this]
    · cases h
  · cases h
theorem HpS.range {s : Bool} {w0 : World} {l : List Ent} {r : List RowD} (H : HpS s w0 w l r) (k : Nat) {g : Nat} {t : TypeId} {cs : List Value} (hk : l[k]? = some (g, t, cs)) : w.rangeAt g 0 cs := by
  intro j v hv
  rw [Nat.zero_add]
  exact H.cellAt k hk hv
end
section
variable {s : Bool} {P : Program} {ty : Nat → Option Ty} {rt : Nat → Option (List Value)} {fo : Nat → Nat → Option Nat} {n : Nat} {ops : Array Oper} {Q : Exit → Act → World → Prop} {rest : List Oper} {f : Fr} {w0 w : World} {l l' : List Ent} {r r' : List RowD} {d : Option Nat} {op : Op} {tt : TypeId} {ps : String} {af : Array Edge} {gd : Option (Nat × Bool)}
theorem h_valw {v : Value} {w' : World} (hw : want n ops f ⟨d, op, tt, ps, af, gd⟩ = true) (hv : (execOp (X n f) ⟨d, op, tt, ps, af, gd⟩).run P w = .ok (.value v) w') (h : WL P ops Q rest (act n (put f d v)) w') : WL P ops Q (⟨d, op, tt, ps, af, gd⟩ :: rest) (act n f) w := by
  refine ⟨?_⟩
  have h := h.out
  simp only [wpList, want_eq, hw, if_true]
  left
  unfold Oper.wp
  rw [eval_act, hv]
  simp only [Oper.upon, put_act]
  exact h
theorem h_skip {w' : World} (hw : want n ops f ⟨none, op, tt, ps, af, gd⟩ = true) (hv : (execOp (X n f) ⟨none, op, tt, ps, af, gd⟩).run P w = .ok .skip w') (h : WL P ops Q rest (act n f) w') : WL P ops Q (⟨none, op, tt, ps, af, gd⟩ :: rest) (act n f) w := by
  refine ⟨?_⟩
  have h := h.out
  simp only [wpList, want_eq, hw, if_true]
  left
  unfold Oper.wp
  rw [eval_act, hv]
  simp only [Oper.upon, put_act]
  exact h
theorem h_fa (hfo : Flds P fo) {v : Value} (hw : want n ops f ⟨d, op, tt, ps, af, gd⟩ = true) (he : evF n f fo op = some v) (h : WL P ops Q rest (act n (put f d v)) w) : WL P ops Q (⟨d, op, tt, ps, af, gd⟩ :: rest) (act n f) w :=
  l_val hw (evF_run (o := ⟨d, op, tt, ps, af, gd⟩) hfo he) h
theorem h_bld {t : TypeId} {qs : List (Nat × Value)} {cs : Array Value} (hw : want n ops f ⟨d, op, tt, ps, af, gd⟩ = true) (he : evBld n f op = some (t, qs)) (hc : P.built t qs = some cs) (h : WL P ops Q rest (act n (put f d (.agg cs))) w) : WL P ops Q (⟨d, op, tt, ps, af, gd⟩ :: rest) (act n f) w :=
  l_val hw (evBld_run (o := ⟨d, op, tt, ps, af, gd⟩) he hc) h
theorem h_alloc (hrt : Recs P rt) (H : HpS s w0 w l r) {t : TypeId} {zs : List Value} (hw : want n ops f ⟨d, .alloc t, tt, ps, af, gd⟩ = true) (hz : rt t = some zs)
    (h : ∀ g w', HpS s w0 w' ((g, t, zs) :: l) r → WL P ops Q rest (act n (put f d (.pointer (some ⟨g, 0, none⟩)))) w') : WL P ops Q (⟨d, .alloc t, tt, ps, af, gd⟩ :: rest) (act n f) w := by
  refine h_valw hw ?_ (h w.heap.size _ (H.push t zs))
  obtain ⟨_, h3⟩ := hrt _ _ hz
  obtain ⟨i0, hi, h4⟩ := Option.map_eq_some_iff.1 h3
  simp only [Prod.mk.injEq] at h4
  obtain ⟨z, hz0, hzc⟩ := Option.map_eq_some_iff.1 h4.1
  unfold execOp
  have hn : (Instr.alloc t true (.tuple #[])).run P w = .ok (.pointer (some ⟨w.heap.size, 0, none⟩)) (w.alloc (.cells z.cells t)) := by
    simp [Instr.alloc, zeroValue, typeInfo, hi, hz0, newVar, newRow, go_sem]
  rw [hzc] at hn
  simp [hn]
theorem h_box (H : HpS s w0 w l r) {t : TypeId} {x : Operand} {v : Value} {cs : List Value} (hw : want n ops f ⟨d, .box t x, tt, ps, af, gd⟩ = true) (hx : nf (X n f x) = some v) (hc : nfL v.cells.toList some = some cs)
    (h : ∀ g w', HpS s w0 w' ((g, t, cs) :: l) r → WL P ops Q rest (act n (put f d (.pointer (some ⟨g, 0, none⟩)))) w') : WL P ops Q (⟨d, .box t x, tt, ps, af, gd⟩ :: rest) (act n f) w := by
  have e := nf_eq hx
  have e2 := nfL_some hc
  subst e2
  have H1 := H.push t v.cells.toList
  refine h_valw hw ?_ (h w.heap.size _ H1)
  unfold execOp
  simp [Instr.box, newVar, newRow, e, go_sem]
theorem h_ld (hty : Tys P ty) (H : HpS s w0 w l r) (k : Nat) {g i : Nat} {t : TypeId} {cs : List Value} {v : Value} (hw : want n ops f ⟨d, op, tt, ps, af, gd⟩ = true) (he : evL n f ty op = some ⟨g, i, none⟩) (hk : l[k]? = some (g, t, cs)) (hi : cs[i]? = some v)
    (h : WL P ops Q rest (act n (put f d v)) w) : WL P ops Q (⟨d, op, tt, ps, af, gd⟩ :: rest) (act n f) w :=
  l_val hw (evL_run (o := ⟨d, op, tt, ps, af, gd⟩) hty he (H.cellAt k hk hi)) h
theorem h_ldR (hrt : Recs P rt) (H : HpS s w0 w l r) (k : Nat) {g : Nat} {t t2 : TypeId} {cs zs : List Value} (hw : want n ops f ⟨d, op, tt, ps, af, gd⟩ = true) (he : evLR n f op = some (t, g, 0)) (hz : rt t = some zs) (hk : l[k]? = some (g, t2, cs)) (hs : cs.length = zs.length)
    (h : WL P ops Q rest (act n (put f d (.agg cs.toArray))) w) : WL P ops Q (⟨d, op, tt, ps, af, gd⟩ :: rest) (act n f) w :=
  l_val hw (evLR_run (o := ⟨d, op, tt, ps, af, gd⟩) hrt he hz (H.range k hk) hs) h
def evSt (n : Nat) (f : Fr) : Op → Option (TypeId × Nat × Nat × Value)
  | .store t x y => match X n f x, nf (X n f y) with
    | .pointer (some ⟨g, i, none⟩), some v => some (t, g, i, v)
    | _, _ => none
  | _ => none
theorem drawn_setCells {g : Nat} : ∀ (vs : List Value) (o : Nat) (w : World), (w.setCells g o vs).drawn = w.drawn
  | [], _, w => rfl
  | v :: vs, o, w => drawn_setCells vs (o + 1) (w.setCell ⟨g, o, none⟩ v)
theorem grown_setCells {g : Nat} : ∀ (vs : List Value) (o : Nat) (w : World), w.grownBy (w.setCells g o vs) (some g)
  | [], _, w => World.grownBy.refl w _
  | v :: vs, o, w => by
    have h1 : w.grownBy (w.setCell ⟨g, o, none⟩ v) (some g) := ⟨rfl, rfl, rfl, by simp [World.setCell], fun k hk hne => Below.heap_setCell w _ v k (fun e => hne (by rw [e]))⟩
    exact World.grownBy.trans h1 (grown_setCells vs (o + 1) _)
theorem heap_setCells {g : Nat} {t : TypeId} {fr : Nat × Nat} : ∀ (vs : List Value) (o : Nat) (w : World) (cur : List Value), w.heap[g]? = some (.cells cur.toArray t (0, 0)) → o + vs.length ≤ cur.length → (w.setCells g o vs).heap[g]? = some (.cells (cur.take o ++ vs ++ cur.drop (o + vs.length)).toArray t (0, 0))
  | [], o, w, cur, h, _ => by simpa [World.setCells] using h
  | v :: vs, o, w, cur, h, hl => by
    have h1 : (w.setCell ⟨g, o, none⟩ v).heap[g]? = some (.cells (cur.set o v).toArray t (0, 0)) := by
      have := blk_set h o v
      rw [this]; simp
    have h2 := heap_setCells (fr := fr) vs (o + 1) _ (cur.set o v) h1 (by simp at hl ⊢; omega)
    show ((w.setCell ⟨g, o, none⟩ v).setCells g (o + 1) vs).heap[g]? = _
    rw [h2]
    have hol : o < cur.length := by simp at hl; omega
    have e1 : (cur.set o v).take (o + 1) = cur.take o ++ [v] := by
      rw [List.take_set, List.take_succ_eq_append_getElem hol, List.set_append_right _ _ (by simp; omega)]
      simp [Nat.min_eq_left (Nat.le_of_lt hol)]
    have e2 : (cur.set o v).drop (o + 1 + vs.length) = cur.drop (o + (v :: vs).length) := by
      rw [List.drop_set_of_lt (by omega)]
      congr 1
      simp; omega
    rw [e1, e2]
    simp
theorem h_stR (hrt : Recs P rt) (H : HpS s w0 w l r) (k : Nat) {g : Nat} {t t2 : TypeId} {cs cs' zs : List Value} {a : Array Value} (hw : want n ops f ⟨none, op, tt, ps, af, gd⟩ = true) (he : evSt n f op = some (t, g, 0, .agg a)) (hz : rt t = some zs) (hk : l[k]? = some (g, t2, cs)) (hs : cs.length = zs.length) (hc : nfL a.toList some = some cs') (hs2 : cs'.length = zs.length) (h1 : cs'.all (·.oneCell') = true)
    (hl : nfL (l.set k (g, t2, cs')) some = some l') (h : ∀ w', HpS s w0 w' l' r → WL P ops Q rest (act n f) w') : WL P ops Q (⟨none, op, tt, ps, af, gd⟩ :: rest) (act n f) w := by
  have e1 := nfL_some hc
  have e2 := nfL_some hl
  subst e1 e2
  unfold evSt at he
  split at he
  · rename_i t0 x y
    split at he
    · rename_i g0 i0 v0 hx hy
      simp only [Option.some.injEq, Prod.mk.injEq] at he
      obtain ⟨rfl, rfl, rfl, rfl⟩ := he
      have hy := nf_eq hy
      have hb := H.get k hk
      obtain ⟨_, h3⟩ := hrt _ _ hz
      have hsz : (P.info? t0).map (·.size) = some a.toList.length := by
        obtain ⟨i0, hi, h4⟩ := Option.map_eq_some_iff.1 h3
        simp only [Prod.mk.injEq] at h4
        rw [hi, hs2, ← h4.2]; rfl
      have hr := run_store_run (P := P) (o := 0) t0 (.agg a) a.toList hb (by simp [Value.cells]) hsz (by rw [List.size_toArray]; omega) (fun q hq => List.all_eq_true.1 h1 q hq)
      have hh := heap_setCells (fr := (0, 0)) a.toList 0 w cs hb (by omega)
      have e3 : cs.take 0 ++ a.toList ++ cs.drop (0 + a.toList.length) = a.toList := by
        rw [List.drop_eq_nil_of_le (by omega)]; simp
      rw [e3] at hh
      refine h_skip hw ?_ (h _ (H.upd k hk (grown_setCells a.toList 0 w) hh (fun _ => Nat.le_of_eq (drawn_setCells _ _ _).symm)))
      unfold execOp
      simp [hx, ← hy, hr]
    · cases he
  · cases he
end
section
variable {P : Program} {n : Nat} {ops : Array Oper} {Q : Exit → Act → World → Prop} {S : World → Prop} {f : Fr} {w : World}
theorem d_start {id m : Nat} {a : Act} (S : World → Prop) (l : Array Bool) (hm : P.follows .mixedOrders = true) (hn : ops.size = m) (hl : Array.replicate m false = l) (hS : S w.drew)
    (h : WA P .any ops Q S [] m l a w.drew) : (Code.region id ops true).wp P Q a w := start_ l hm hn hl hS (fun _ => h.out)
theorem d_pure {i fuel : Nat} {l : Array Bool} {o : Oper} {v : Value} (l' : Array Bool) (hi : ops[i]? = some o) (hc : anyB .any ops l l' i = true) (hQ : ∀ c a w, Q (.panic c) (a.put o.dst v) w → Q (.panic c) a w)
    (hw : want n ops f o = true) (hv : ∀ w, (execOp (X n f) o).run P w = .ok (.value v) w) (h : WA P .any ops Q S [] fuel l' (act n (put f o.dst v)) w) : WA P .any ops Q S [] (fuel + 1) l (act n f) w :=
  ⟨pure_ l' hi rfl hc hQ (Or.inl ⟨by rw [want_eq]; exact hw, fun w => by rw [eval_act]; exact hv w⟩) (put_act n f _ v) h.out⟩
theorem d_off {i fuel : Nat} {l : Array Bool} {o : Oper} (l' : Array Bool) (hi : ops[i]? = some o) (hc : anyB .any ops l l' i = true) (hQ : ∀ c a w, Q (.panic c) (a.put o.dst undef) w → Q (.panic c) a w)
    (hw : want n ops f o = false) (h : WA P .any ops Q S [] fuel l' (act n (put f o.dst undef)) w) : WA P .any ops Q S [] (fuel + 1) l (act n f) w :=
  ⟨pure_ l' hi rfl hc hQ (Or.inr ⟨by rw [want_eq]; exact hw, rfl⟩) (put_act n f _ undef) h.out⟩
theorem d_take {i fuel : Nat} {l : Array Bool} {o : Oper} {v : Value} (l' : Array Bool) (hi : ops[i]? = some o) (hc : takeB .any ops [] l l' i = true) (hQ : ∀ c a w, Q (.panic c) (a.put o.dst v) w → Q (.panic c) a w)
    (hw : want n ops f o = true) (hv : ∀ w, S w → (execOp (X n f) o).run P w = .ok (.value v) w) (hS : S w) (h : WA P .any ops Q S [] fuel l' (act n (put f o.dst v)) w) : WA P .any ops Q S [] (fuel + 1) l (act n f) w :=
  ⟨take_ l' hi rfl hc hQ (Or.inl ⟨by rw [want_eq]; exact hw, fun w hS => by rw [eval_act]; exact hv w hS⟩) hS (put_act n f _ v) h.out⟩
theorem d_done {l : Array Bool} {m : Nat} {a : Act} (hr : (Region.ready .any ops l == []) = true) (h : Q .normal a w) : WA P .any ops Q S [] m l a w := ⟨done_ hr h⟩
end
section
variable {s : Bool} {P : Program} {rt : Nat → Option (List Value)} {n : Nat} {f : Fr} {w0 w : World} {l : List Ent} {r : List RowD}
theorem rec_size (hrt : Recs P rt) {t : TypeId} {cs zs : List Value} (hz : rt t = some zs) (hs : cs.length = zs.length) : (∃ d, P.underlying t = some d ∧ (match d with | .struct _ | .array _ _ => true | _ => false) = true) ∧ (P.info? t).map (·.size) = some cs.toArray.size := by
  obtain ⟨⟨d, h1, h2⟩, h3⟩ := hrt _ _ hz
  refine ⟨⟨d, h1, h2⟩, ?_⟩
  obtain ⟨i0, hi, h4⟩ := Option.map_eq_some_iff.1 h3
  simp only [Prod.mk.injEq] at h4
  rw [hi, List.size_toArray, hs, ← h4.2]; rfl
theorem end_cell {fn : Func} {R : Ending → World → Prop} {p : Tmp} {ty : TypeId} (hrt : Recs P rt) (H : HpS s w0 w l r) (k : Nat) {g : Nat} {t : TypeId} {cs zs : List Value} (hr : fn.results = #[.cell p ty]) (hp : X n f (.tmp p) = .pointer (some ⟨g, 0, none⟩)) (hk : l[k]? = some (g, t, cs)) (hz : rt ty = some zs) (hs : cs.length = zs.length)
    (h : R (.returned (.agg cs.toArray)) w) : bodyPost P fn R .ret (act n f) w := by
  obtain ⟨⟨d, h1, h2⟩, h3⟩ := rec_size hrt hz hs
  exact bodyPost_ret (results_cell_row hr _ w g t cs.toArray (0, 0) d (by rw [show (act n f).tmps = arr n f from rfl, getD_arr]; exact hp) (H.get k hk) h1 (by cases d <;> simp_all) h3) rfl h
theorem h_bs {ops : Array Oper} {Q : Exit → Act → World → Prop} {rest : List Oper} {d : Option Nat} {tt : TypeId} {ps : String} {af : Array Edge} (H : HpS s w0 w l r) {t e : TypeId} {x : Operand} {v : Value} {cs : List Value} {z : Value} {sz by_ : Nat}
    (hinfo : (P.info? e).map (fun i => (i.zero, i.size, i.bytes)) = some (some z, sz, by_)) (hu : P.underlying t = some (.slice e)) (h0 : 0 < sz) (hm : sz ≤ 16777216) (hx : nf (X n f x) = some v) (hc : nfL v.cells.toList some = some cs)
    (hf : Instr.fill (fun i => some (i * sz, sz)) ((Array.range (1 * sz)).map (z.cells[· % z.cells.size]!)) [(0, v)] = some cs.toArray)
    (h : ∀ g w', HpS s w0 w' ((g, e, cs) :: l) r → WL P ops Q rest (act n (put f d (.slice (some ⟨g, 0, none⟩) 1 1))) w') : WL P ops Q (⟨d, .buildSlice t 1 #[(0, x)], tt, ps, af, none⟩ :: rest) (act n f) w := by
  have e1 := nf_eq hx
  obtain ⟨i0, hi, hz⟩ := Option.map_eq_some_iff.1 hinfo
  simp only [Prod.mk.injEq] at hz
  obtain ⟨hz0, hz1, hz2⟩ := hz
  subst hz1
  refine ⟨wpList_buildSlice rfl t e 1 _ rfl cs.toArray i0 z hu hi hz0 (by omega) (by omega) ?_ (by rw [put_act]; exact (h w.heap.size _ (H.push e cs)).out)⟩
  rw [eval_act]
  simpa [← e1] using hf
theorem h_app {ops : Array Oper} {Q : Exit → Act → World → Prop} {rest : List Oper} {d : Option Nat} {tt : TypeId} {ps : String} {af : Array Edge} {op : Op} (H : Hp w0 w l r) (k : Nat) {q : RowD} {t : TypeId} {A : Option Addr} {m c : Nat} {ys : List Value} {z : Value} {by_ : Nat}
    (hk : r[k]? = some q) (hinfo : (P.info? q.e).map (fun i => (i.zero, i.size, i.bytes)) = some (some z, q.sz, by_)) (hu : P.underlying t = some (.slice q.e)) (he : evApp n f op = some (t, q.v, .slice A m c)) (hzs : z.cells.size = q.sz) (h0 : Nat.ble 1 q.sz = true) (hb0 : Nat.ble 1 by_ = true)
    (HR : Rd w A ys) (hm : ys.length = m * q.sz) (h1 : ys.all (·.oneCell') = true) (hl : (q.n + m) * by_ ≤ 140737488355328)
    (h : ∀ v w', (∃ A' c', v = .slice A' (q.n + m) c') → Hp w0 w' l (r.set k ⟨v, q.e, q.sz, q.n + m, q.cs ++ ys⟩) → WL P ops Q rest (act n (put f d v)) w') : WL P ops Q (⟨d, op, tt, ps, af, none⟩ :: rest) (act n f) w := by
  replace h0 : 0 < q.sz := Nat.le_of_ble_eq_true h0
  replace hb0 : 0 < by_ := Nat.le_of_ble_eq_true hb0
  obtain ⟨i0, hi, hzz⟩ := Option.map_eq_some_iff.1 hinfo
  simp only [Prod.mk.injEq] at hzz
  obtain ⟨hz0, hz1, hz2⟩ := hzz
  have HO := H.row k q hk
  have hlen : q.n + m ≤ 140737488355328 := Nat.le_trans (Nat.le_mul_of_pos_right _ hb0) hl
  have h1' : ∀ u ∈ ys, u.oneCell' = true := fun u hu => List.all_eq_true.1 h1 u hu
  have hrun : ∃ v1 w1, (Builtin.append_ #[t, t] tt #[q.v, .slice A m c]).run P w = .ok v1 w1 ∧ w1.ownsRow w0.heap.size q.e q.sz v1 (q.n + m) (q.cs ++ ys) ∧ w.grownBy w1 q.v.ownBlock ∧ (v1.ownBlock = q.v.ownBlock ∨ v1.ownBlock = some w.heap.size) := by
    rcases A with _ | ad
    · obtain rfl : ys = [] := HR.1 rfl
      have hm0 : m = 0 := by
        rcases Nat.eq_zero_or_pos m with h | h
        · exact h
        · have := Nat.mul_pos h h0
          simp only [List.length_nil] at hm
          omega
      subst hm0
      refine ⟨q.v, w, ?_, by simpa using HO, World.grownBy.refl w _, .inl rfl⟩
      rcases HO.2 with ⟨e1, hn⟩ | ⟨g, cap, cur, e1, _, _, hnc, _⟩
      · rw [e1]; simp [Builtin.append_, run_underlying hu, sizeOf, typeInfo, hi, Builtin.lenOf, Builtin.firstCells]
      · rw [e1]; simp [Builtin.append_, run_underlying hu, sizeOf, typeInfo, hi, Builtin.lenOf, Builtin.firstCells, hnc, storeCells]
    · obtain ⟨v1, w1, hr, h2, h3, _, h5⟩ := run_append_own_at (P := P) w w0.heap.size t tt q.e i0 z q.sz by_ hu hi hz0 hz1 hz2 hzs h0 q.v q.n q.cs HO ad m c ys hm (fun j u hj => HR.2 ad rfl j u hj) h1' (by simp only [maxLen]; omega) hl H.B.size
      exact ⟨v1, w1, hr, h2, h3, h5⟩
  obtain ⟨v1, w1, hrr, hown, hg, hat⟩ := hrun
  have H1 := H.put (d' := ⟨v1, q.e, q.sz, q.n + m, q.cs ++ ys⟩) k hk hg hown (by
    rcases hat with hat | hat
    · exact .inl hat
    · exact .inr ⟨_, hat, Nat.le_refl _⟩)
  obtain ⟨A', c', hv⟩ := own_slice hown
  unfold evApp at he
  split at he
  · rename_i cc
    split at he
    · rename_i x y t1 t2 h2 h3 h4
      by_cases ht : t1 = t2
      · subst ht
        simp only [Nat.beq_refl, cond_true, Option.some.injEq, Prod.mk.injEq] at he
        obtain ⟨rfl, he1, he2⟩ := he
        have hargs : cc.args = #[x, y] := by rw [← Array.toList_inj]; exact h3
        have htys : cc.argTypes = #[t1, t1] := by rw [← Array.toList_inj]; exact h4
        have ho : Op.call cc = .call { callee := .builtin .append, args := #[x, y], argTypes := #[t1, t1] } := by
          cases cc
          simp_all
        rw [ho]
        refine ⟨?_⟩
        refine wpList_plain rfl fun K hK => ?_
        unfold Oper.wp execOp
        rw [eval_act]
        simp only [resolve, invoke, builtin, Sem.run_bind, Sem.run_pure, Result.andThen_ok, List.map_toArray, List.map_cons, List.map_nil, he1, he2, hrr]
        refine hK _ _ ?_
        rw [put_act]
        exact (h v1 w1 ⟨A', c', hv⟩ H1).out
      · exfalso
        have : Nat.beq t1 t2 = false := by rw [Bool.eq_false_iff]; intro hb; exact ht (Nat.eq_of_beq_eq_true hb)
        simp [this] at he
    · cases he
  · cases he
theorem HpS.cellRd (H : HpS s w0 w l r) (k : Nat) {g : Nat} {t : TypeId} {cs : List Value} (hk : l[k]? = some (g, t, cs)) : Rd w (some ⟨g, 0, none⟩) cs :=
  ⟨fun e => (by cases e), fun ad e i v hv => (by cases e; rw [add_lit, Nat.zero_add]; exact H.cellAt k hk hv)⟩
end
theorem rd_of_reads {w : World} {k : IntKind} {A : Option Addr} {n : Nat} {xs : List Int} (h : ReadsInt w k A n xs) : Rd w A (nums k xs) := by
  refine ⟨fun e => ?_, fun ad e i v hv => ?_⟩
  · have hn : n = 0 := by
      rcases Nat.eq_zero_or_pos n with h0 | h0
      · exact h0
      · obtain ⟨ad, h1, _⟩ := h.2.2 h0
        rw [e] at h1; cases h1
    have : xs = [] := List.eq_nil_of_length_eq_zero (by rw [h.1, hn])
    rw [this]; rfl
  · have hi : i < xs.length := by
      rcases Nat.lt_or_ge i xs.length with h0 | h0
      · exact h0
      · rw [nums, List.getElem?_map, List.getElem?_eq_none h0] at hv; cases hv
    obtain ⟨ad', h1, h2⟩ := h.2.2 (by rw [← h.1]; omega)
    rw [e] at h1
    cases h1
    rw [nums, List.getElem?_map, List.getElem?_eq_getElem hi] at hv
    cases hv
    have := h2 i (by rw [← h.1]; exact hi)
    rw [this, List.getD_eq_getElem?_getD, List.getElem?_eq_getElem hi]
    rfl
theorem reads_of_rd {w : World} {k : IntKind} {A : Option Addr} {xs : List Int} (h : Rd w A (nums k xs)) (hl : xs.length ≤ 9223372036854775807) : ReadsInt w k A xs.length xs := by
  refine ⟨rfl, hl, fun h0 => ?_⟩
  cases A with
  | none =>
    have := h.1 rfl
    rw [nums, List.map_eq_nil_iff] at this
    rw [this] at h0
    simp at h0
  | some ad =>
    refine ⟨ad, rfl, fun j hj => h.2 ad rfl j _ ?_⟩
    rw [nums, List.getElem?_map, List.getElem?_eq_getElem hj, List.getD_eq_getElem?_getD, List.getElem?_eq_getElem hj]
    rfl
section
variable {P : Program} {Q : Exit → Act → World → Prop} {a : Act} {w : World}
end
section
variable {P : Program} {n : Nat} {ops : Array Oper} {Q : Exit → Act → World → Prop} {rest : List Oper} {f : Fr} {w : World} {d : Option Nat} {tt : TypeId} {ps : String} {af : Array Edge} {gd : Option (Nat × Bool)}
theorem g_on {op : Op} (h : WL P ops Q (⟨d, op, tt, ps, af, none⟩ :: rest) (act n f) w) : WL P ops Q (⟨d, op, tt, ps, af, none⟩ :: rest) (act n f) w := h
theorem g_if {op : Op} {g : Nat × Bool} (h : WL P ops Q (⟨d, op, tt, ps, af, some g⟩ :: rest) (act n f) w) : WL P ops Q (⟨d, op, tt, ps, af, some g⟩ :: rest) (act n f) w := h
theorem g_ld {t : TypeId} {x : Operand} (h : WL P ops Q (⟨d, .load t x, tt, ps, af, gd⟩ :: rest) (act n f) w) : WL P ops Q (⟨d, .load t x, tt, ps, af, gd⟩ :: rest) (act n f) w := h
theorem g_st {t : TypeId} {x y : Operand} (h : WL P ops Q (⟨none, .store t x y, tt, ps, af, gd⟩ :: rest) (act n f) w) : WL P ops Q (⟨none, .store t x y, tt, ps, af, gd⟩ :: rest) (act n f) w := h
theorem g_fa {s : TypeId} {x : Operand} {k : Nat} (h : WL P ops Q (⟨d, .fieldAddr s x k, tt, ps, af, gd⟩ :: rest) (act n f) w) : WL P ops Q (⟨d, .fieldAddr s x k, tt, ps, af, gd⟩ :: rest) (act n f) w := h
theorem g_al {t : TypeId} (h : WL P ops Q (⟨d, .alloc t, tt, ps, af, gd⟩ :: rest) (act n f) w) : WL P ops Q (⟨d, .alloc t, tt, ps, af, gd⟩ :: rest) (act n f) w := h
theorem g_mv {x : Operand} (h : WL P ops Q (⟨d, .move x, tt, ps, af, gd⟩ :: rest) (act n f) w) : WL P ops Q (⟨d, .move x, tt, ps, af, gd⟩ :: rest) (act n f) w := h
theorem g_as {x : Operand} (h : WL P ops Q (⟨d, .assign x, tt, ps, af, gd⟩ :: rest) (act n f) w) : WL P ops Q (⟨d, .assign x, tt, ps, af, gd⟩ :: rest) (act n f) w := h
theorem g_ex {x : Operand} {k : Nat} (h : WL P ops Q (⟨d, .extract x k, tt, ps, af, gd⟩ :: rest) (act n f) w) : WL P ops Q (⟨d, .extract x k, tt, ps, af, gd⟩ :: rest) (act n f) w := h
theorem g_pk {x y z : Operand} (h : WL P ops Q (⟨d, .pick x y z, tt, ps, af, gd⟩ :: rest) (act n f) w) : WL P ops Q (⟨d, .pick x y z, tt, ps, af, gd⟩ :: rest) (act n f) w := h
theorem g_un {u : UnOp} {t : TypeId} {x : Operand} (h : WL P ops Q (⟨d, .unOp u t x, tt, ps, af, gd⟩ :: rest) (act n f) w) : WL P ops Q (⟨d, .unOp u t x, tt, ps, af, gd⟩ :: rest) (act n f) w := h
theorem g_cl {c : Call} (h : WL P ops Q (⟨d, .call c, tt, ps, af, gd⟩ :: rest) (act n f) w) : WL P ops Q (⟨d, .call c, tt, ps, af, gd⟩ :: rest) (act n f) w := h
theorem g_ia {t : TypeId} {x y : Operand} (h : WL P ops Q (⟨d, .indexAddr t x y, tt, ps, af, gd⟩ :: rest) (act n f) w) : WL P ops Q (⟨d, .indexAddr t x y, tt, ps, af, gd⟩ :: rest) (act n f) w := h
theorem g_bi {b : BinOp} {t u : TypeId} {x y : Operand} (h : WL P ops Q (⟨d, .binOp b t x y u, tt, ps, af, gd⟩ :: rest) (act n f) w) : WL P ops Q (⟨d, .binOp b t x y u, tt, ps, af, gd⟩ :: rest) (act n f) w := h
end
end Go.Proofs.YtljinjgamgmocaaDoor.Q
end
