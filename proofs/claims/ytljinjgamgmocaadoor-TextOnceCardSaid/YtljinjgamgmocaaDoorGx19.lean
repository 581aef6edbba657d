/- The machine side of the seat's functions, written by this session's program gen.py (over the kit's print). Nothing here is trusted: Lean checks it. -/
import Derived.Test.YtljinjgamgmocaaDoorGx0
import Derived.Test.YtljinjgamgmocaaDoorExtN
import Derived.Test.YtljinjgamgmocaaDoorGx1
import Derived.Test.YtljinjgamgmocaaDoorGx2
import Derived.Test.YtljinjgamgmocaaDoorGx3
import Derived.Test.YtljinjgamgmocaaDoorGx8
import Derived.Test.YtljinjgamgmocaaDoorGx9
import Derived.Test.YtljinjgamgmocaaDoorGxD1
import Derived.Test.YtljinjgamgmocaaDoorGxD2
namespace Go.Proofs.YtljinjgamgmocaaDoor.G
open Go.RowKit Go.Proofs.YtljinjgamgmocaaDoorW.PrintWords Go.Proofs.YtljinjgamgmocaaDoorW.PrintLast Go.Proofs.YtljinjgamgmocaaDoorW.PrintMore
attribute [local go_sem] max2_int min2_int max_two min_two max_three min_three max_four min_four   -- for this text's walks alone
set_option linter.unusedVariables false
set_option linter.unusedSimpArgs false

set_option maxHeartbeats 8000000 in
set_option maxRecDepth 100000 in
theorem ledgerlaw06_TextOnce.calls (k : Nat) (a0 : ByteArray) (r : Bool) (w : World) (hLD : LayD w) (hLE : LayE w) (hLP : LayP w) (h : ledgerlaw06_TextOnce.f k a0 = some r) :
    Calls Tryd.prog 10 #[.string a0] w fun e w' => e = .returned (.bool r) ∧ Below w.heap.size w w' := by
  have HB := Aside0.mk (Below.refl w.heap.size w)
  have HLayD := Aside0.mk hLD
  clear hLD
  have HLayE := Aside0.mk hLE
  clear hLE
  have HLayP := Aside0.mk hLP
  clear hLP
  have H : ((text_DecodeBase64.f k (⟨#[47, 119, 61, 61]⟩ : ByteArray)).bind fun bt417 => ((text_DecodeHex.f k (⟨#[102, 102]⟩ : ByteArray)).bind fun bt421 => ((text_Unquote.f k (⟨#[34, 92, 120, 102, 102, 34]⟩ : ByteArray)).bind fun bt425 => ((text_ParseNumber.f (⟨#[50, 53, 53]⟩ : ByteArray) 255).bind fun bt429 => (if bt417.2 = 0 then (if bt421.2 = 0 then (if bt425.2 = 0 then (if bt429.2 = 0 then (if (bt417.1.length : Int) = 1 then (if 0 < (bt417.1.length : Int) then (if (rd bt417.1 0) = 255 then (if (strOfNums bt421.1).toList = (strOfNums bt417.1).toList then (if (strOfNums bt425.1).toList = (strOfNums bt417.1).toList then (ledgerlaw06_TextOnce.j0 k a0 (bt429.1 != 255)) else (ledgerlaw06_TextOnce.j0 k a0 true)) else (ledgerlaw06_TextOnce.j0 k a0 true)) else (ledgerlaw06_TextOnce.j0 k a0 true)) else (none)) else (ledgerlaw06_TextOnce.j0 k a0 true)) else (ledgerlaw06_TextOnce.j0 k a0 true)) else (ledgerlaw06_TextOnce.j0 k a0 true)) else (ledgerlaw06_TextOnce.j0 k a0 true)) else (ledgerlaw06_TextOnce.j0 k a0 true)))))) = some r := h
  clear h
  replace H := Option.bind_eq_some_iff.mp H
  obtain ⟨⟨t417, t418⟩, A20, H⟩ := H
  replace H : ((text_DecodeHex.f k (⟨#[102, 102]⟩ : ByteArray)).bind fun bt421 => ((text_Unquote.f k (⟨#[34, 92, 120, 102, 102, 34]⟩ : ByteArray)).bind fun bt425 => ((text_ParseNumber.f (⟨#[50, 53, 53]⟩ : ByteArray) 255).bind fun bt429 => (if t418 = 0 then (if bt421.2 = 0 then (if bt425.2 = 0 then (if bt429.2 = 0 then (if (t417.length : Int) = 1 then (if 0 < (t417.length : Int) then (if (rd t417 0) = 255 then (if (strOfNums bt421.1).toList = (strOfNums t417).toList then (if (strOfNums bt425.1).toList = (strOfNums t417).toList then (ledgerlaw06_TextOnce.j0 k a0 (bt429.1 != 255)) else (ledgerlaw06_TextOnce.j0 k a0 true)) else (ledgerlaw06_TextOnce.j0 k a0 true)) else (ledgerlaw06_TextOnce.j0 k a0 true)) else (none)) else (ledgerlaw06_TextOnce.j0 k a0 true)) else (ledgerlaw06_TextOnce.j0 k a0 true)) else (ledgerlaw06_TextOnce.j0 k a0 true)) else (ledgerlaw06_TextOnce.j0 k a0 true)) else (ledgerlaw06_TextOnce.j0 k a0 true))))) = some r := H
  have A2 := Aside0.mk A20
  clear A20
  replace H := Option.bind_eq_some_iff.mp H
  obtain ⟨⟨t421, t422⟩, A30, H⟩ := H
  replace H : ((text_Unquote.f k (⟨#[34, 92, 120, 102, 102, 34]⟩ : ByteArray)).bind fun bt425 => ((text_ParseNumber.f (⟨#[50, 53, 53]⟩ : ByteArray) 255).bind fun bt429 => (if t418 = 0 then (if t422 = 0 then (if bt425.2 = 0 then (if bt429.2 = 0 then (if (t417.length : Int) = 1 then (if 0 < (t417.length : Int) then (if (rd t417 0) = 255 then (if (strOfNums t421).toList = (strOfNums t417).toList then (if (strOfNums bt425.1).toList = (strOfNums t417).toList then (ledgerlaw06_TextOnce.j0 k a0 (bt429.1 != 255)) else (ledgerlaw06_TextOnce.j0 k a0 true)) else (ledgerlaw06_TextOnce.j0 k a0 true)) else (ledgerlaw06_TextOnce.j0 k a0 true)) else (none)) else (ledgerlaw06_TextOnce.j0 k a0 true)) else (ledgerlaw06_TextOnce.j0 k a0 true)) else (ledgerlaw06_TextOnce.j0 k a0 true)) else (ledgerlaw06_TextOnce.j0 k a0 true)) else (ledgerlaw06_TextOnce.j0 k a0 true)))) = some r := H
  have A3 := Aside0.mk A30
  clear A30
  replace H := Option.bind_eq_some_iff.mp H
  obtain ⟨⟨t425, t426⟩, A40, H⟩ := H
  replace H : ((text_ParseNumber.f (⟨#[50, 53, 53]⟩ : ByteArray) 255).bind fun bt429 => (if t418 = 0 then (if t422 = 0 then (if t426 = 0 then (if bt429.2 = 0 then (if (t417.length : Int) = 1 then (if 0 < (t417.length : Int) then (if (rd t417 0) = 255 then (if (strOfNums t421).toList = (strOfNums t417).toList then (if (strOfNums t425).toList = (strOfNums t417).toList then (ledgerlaw06_TextOnce.j0 k a0 (bt429.1 != 255)) else (ledgerlaw06_TextOnce.j0 k a0 true)) else (ledgerlaw06_TextOnce.j0 k a0 true)) else (ledgerlaw06_TextOnce.j0 k a0 true)) else (none)) else (ledgerlaw06_TextOnce.j0 k a0 true)) else (ledgerlaw06_TextOnce.j0 k a0 true)) else (ledgerlaw06_TextOnce.j0 k a0 true)) else (ledgerlaw06_TextOnce.j0 k a0 true)) else (ledgerlaw06_TextOnce.j0 k a0 true))) = some r := H
  have A4 := Aside0.mk A40
  clear A40
  replace H := Option.bind_eq_some_iff.mp H
  obtain ⟨⟨t429, t430⟩, A50, H⟩ := H
  replace H : (if t418 = 0 then (if t422 = 0 then (if t426 = 0 then (if t430 = 0 then (if (t417.length : Int) = 1 then (if 0 < (t417.length : Int) then (if (rd t417 0) = 255 then (if (strOfNums t421).toList = (strOfNums t417).toList then (if (strOfNums t425).toList = (strOfNums t417).toList then (ledgerlaw06_TextOnce.j0 k a0 (t429 != 255)) else (ledgerlaw06_TextOnce.j0 k a0 true)) else (ledgerlaw06_TextOnce.j0 k a0 true)) else (ledgerlaw06_TextOnce.j0 k a0 true)) else (none)) else (ledgerlaw06_TextOnce.j0 k a0 true)) else (ledgerlaw06_TextOnce.j0 k a0 true)) else (ledgerlaw06_TextOnce.j0 k a0 true)) else (ledgerlaw06_TextOnce.j0 k a0 true)) else (ledgerlaw06_TextOnce.j0 k a0 true)) = some r := H
  have A5 := Aside0.mk A50
  clear A50
  have HC6 := Aside0.mk H
  clear H
  go_enter Tryd.func10, Tryd.ntmps10
  go_upto_region 5 with (first | ((with_reducible refine gate_callee (f := 20) rfl ?_); refine goesL_ (some 12) rfl rfl Tryd.func20 (by kernel_rfl) rfl #[.string (⟨#[47, 119, 61, 61]⟩ : ByteArray)] rfl (by (try simp only [List.map_toArray, List.map_cons, List.map_nil]); first | done | rfl | (simp only [List.length_drop, List.length_take]; rfl)) ?_; (with_reducible refine (text_DecodeBase64.calls k (⟨#[47, 119, 61, 61]⟩ : ByteArray) t417 t418 _ A2.out).mono ?_); rintro e w7 ⟨v419, rfl, ho0, hb⟩; refine ⟨_, rfl, ?_⟩; have n0_ := Aside0.mk (Kd.R_lower ho0 (below_size (by repeat (first | (with_reducible first | exact HB.out | apply below_alloc | apply pw_below_drewN | apply below_drew1) | exact HB.out)))); have n1_ := Aside0.mk (below_step (by repeat (first | (with_reducible first | exact HB.out | apply below_alloc | apply pw_below_drewN | apply below_drew1) | exact HB.out)) hb); clear HB; have HO420 := n0_; have HB := n1_; clear n0_ n1_; (try clear hb); (try clear hb2); (try clear hk); (try clear hi); (try clear ho0)) | ((with_reducible refine gate_callee (f := 23) rfl ?_); refine goesL_ (some 16) rfl rfl Tryd.func23 (by kernel_rfl) rfl #[.string (⟨#[102, 102]⟩ : ByteArray)] rfl (by (try simp only [List.map_toArray, List.map_cons, List.map_nil]); first | done | rfl | (simp only [List.length_drop, List.length_take]; rfl)) ?_; (with_reducible refine (text_DecodeHex.calls k (⟨#[102, 102]⟩ : ByteArray) t421 t422 _ ?side1 A3.out).mono ?_); (case side1 => exact LayD.below HLayD.out (by repeat (first | (with_reducible first | exact HB.out | apply below_alloc | apply pw_below_drewN | apply below_drew1) | exact HB.out))); rintro e w8 ⟨v423, rfl, ho0, hb⟩; refine ⟨_, rfl, ?_⟩; have n0_ := Aside0.mk (Kd.R_elder' (by (with_reducible repeat (first | apply Kd.R_alloc | apply Kd.R_drewN | apply Kd.R_drew)); exact HO420.out) (Kd.R_base ho0) hb); have n1_ := Aside0.mk (Kd.R_lower (Kd.R_new' ho0 (Kd.R_lt (by (with_reducible repeat (first | apply Kd.R_alloc | apply Kd.R_drewN | apply Kd.R_drew)); exact HO420.out))) (below_size (by repeat (first | (with_reducible first | exact HB.out | apply below_alloc | apply pw_below_drewN | apply below_drew1) | exact HB.out)))); have n2_ := Aside0.mk (below_step (by repeat (first | (with_reducible first | exact HB.out | apply below_alloc | apply pw_below_drewN | apply below_drew1) | exact HB.out)) hb); clear HO420; clear HB; have HO420 := n0_; have HO424 := n1_; have HB := n2_; clear n0_ n1_ n2_; (try clear hb); (try clear hb2); (try clear hk); (try clear hi); (try clear ho0)) | ((with_reducible refine gate_callee (f := 24) rfl ?_); refine goesL_ (some 20) rfl rfl Tryd.func24 (by kernel_rfl) rfl #[.string (⟨#[34, 92, 120, 102, 102, 34]⟩ : ByteArray)] rfl (by (try simp only [List.map_toArray, List.map_cons, List.map_nil]); first | done | rfl | (simp only [List.length_drop, List.length_take]; rfl)) ?_; (with_reducible refine (text_Unquote.calls k (⟨#[34, 92, 120, 102, 102, 34]⟩ : ByteArray) t425 t426 _ ?side1 A4.out).mono ?_); (case side1 => exact LayD.below HLayD.out (by repeat (first | (with_reducible first | exact HB.out | apply below_alloc | apply pw_below_drewN | apply below_drew1) | exact HB.out))); rintro e w9 ⟨v427, rfl, ho0, hb⟩; refine ⟨_, rfl, ?_⟩; have n0_ := Aside0.mk (Kd.R_elder' (by (with_reducible repeat (first | apply Kd.R_alloc | apply Kd.R_drewN | apply Kd.R_drew)); exact HO420.out) (Kd.R_base ho0) hb); have n1_ := Aside0.mk (Kd.R_elder' (by (with_reducible repeat (first | apply Kd.R_alloc | apply Kd.R_drewN | apply Kd.R_drew)); exact HO424.out) (Kd.R_base ho0) hb); have n2_ := Aside0.mk (Kd.R_lower (Kd.R_new' (Kd.R_new' ho0 (Kd.R_lt (by (with_reducible repeat (first | apply Kd.R_alloc | apply Kd.R_drewN | apply Kd.R_drew)); exact HO420.out))) (Kd.R_lt (by (with_reducible repeat (first | apply Kd.R_alloc | apply Kd.R_drewN | apply Kd.R_drew)); exact HO424.out))) (below_size (by repeat (first | (with_reducible first | exact HB.out | apply below_alloc | apply pw_below_drewN | apply below_drew1) | exact HB.out)))); have n3_ := Aside0.mk (below_step (by repeat (first | (with_reducible first | exact HB.out | apply below_alloc | apply pw_below_drewN | apply below_drew1) | exact HB.out)) hb); clear HO420; clear HO424; clear HB; have HO420 := n0_; have HO424 := n1_; have HO428 := n2_; have HB := n3_; clear n0_ n1_ n2_ n3_; (try clear hb); (try clear hb2); (try clear hk); (try clear hi); (try clear ho0)) | ((with_reducible refine gate_callee (f := 26) rfl ?_); refine goesL_ (some 24) rfl rfl Tryd.func26 (by kernel_rfl) rfl #[.string (⟨#[50, 53, 53]⟩ : ByteArray), .int .i64 255] rfl (by (try simp only [List.map_toArray, List.map_cons, List.map_nil]); first | done | rfl | (simp only [List.length_drop, List.length_take]; rfl)) ?_; (with_reducible refine (text_ParseNumber.calls (⟨#[50, 53, 53]⟩ : ByteArray) 255 t429 t430 _ ?side1 A5.out).mono ?_); (case side1 => exact LayE.below HLayE.out (by repeat (first | (with_reducible first | exact HB.out | apply below_alloc | apply pw_below_drewN | apply below_drew1) | exact HB.out))); rintro e w10 ⟨rfl, hb⟩; refine ⟨_, rfl, ?_⟩; have n0_ := Aside0.mk (Kd.R_below (by (with_reducible repeat (first | apply Kd.R_alloc | apply Kd.R_drewN | apply Kd.R_drew)); exact HO420.out) hb); have n1_ := Aside0.mk (Kd.R_below (by (with_reducible repeat (first | apply Kd.R_alloc | apply Kd.R_drewN | apply Kd.R_drew)); exact HO424.out) hb); have n2_ := Aside0.mk (Kd.R_below (by (with_reducible repeat (first | apply Kd.R_alloc | apply Kd.R_drewN | apply Kd.R_drew)); exact HO428.out) hb); have n3_ := Aside0.mk (below_step (by repeat (first | (with_reducible first | exact HB.out | apply below_alloc | apply pw_below_drewN | apply below_drew1) | exact HB.out)) hb); clear HO420; clear HO424; clear HO428; clear HB; have HO420 := n0_; have HO424 := n1_; have HO428 := n2_; have HB := n3_; clear n0_ n1_ n2_ n3_; (try clear hb); (try clear hb2); (try clear hk); (try clear hi)))
  (try simp only [Act.put, List.setIfInBounds_toArray, List.set_cons_zero, List.set_cons_succ])
  go_cut [69] (fun v69 wc => ∃ (kq : Nat) (x69_5 : Bool), v69 = .bool x69_5 ∧ Aside0 (ledgerlaw06_TextOnce.j0 kq a0 x69_5 = some r) ∧ Aside0 (kq ≤ k) ∧ Aside0 (Below w.heap.size w wc))
  case first =>
    have H := HC6.out
    clear HC6
    by_cases c11 : t418 = 0
    · rw [if_pos c11] at H
      have c11b0 : (t418 == 0) = true := beq_iff_eq.mpr c11
      have c11b1 : (t418 != 0) = false := bne_eq_false_iff_eq.mpr c11
      clear c11
      (first | rw [c11b0] | (simp only [i64_w, i32_w]; rw [c11b0]) | skip)
      by_cases c12 : t422 = 0
      · rw [if_pos c12] at H
        have c12b0 : (t422 == 0) = true := beq_iff_eq.mpr c12
        have c12b1 : (t422 != 0) = false := bne_eq_false_iff_eq.mpr c12
        clear c12
        by_cases c13 : t426 = 0
        · rw [if_pos c13] at H
          have c13b0 : (t426 == 0) = true := beq_iff_eq.mpr c13
          have c13b1 : (t426 != 0) = false := bne_eq_false_iff_eq.mpr c13
          clear c13
          by_cases c14 : t430 = 0
          · rw [if_pos c14] at H
            have c14b0 : (t430 == 0) = true := beq_iff_eq.mpr c14
            have c14b1 : (t430 != 0) = false := bne_eq_false_iff_eq.mpr c14
            clear c14
            by_cases c15 : (t417.length : Int) = 1
            · rw [if_pos c15] at H
              have c15b0 : ((t417.length : Int) == 1) = true := beq_iff_eq.mpr c15
              have c15b1 : ((t417.length : Int) != 1) = false := bne_eq_false_iff_eq.mpr c15
              clear c15
              by_cases c16 : 0 < (t417.length : Int)
              · rw [if_pos c16] at H
                have c16b0 : decide (0 < (t417.length : Int)) = true := decide_eq_true c16
                have c16b1 : decide (0 < t417.length) = true := decide_eq_true (by omega)
                clear c16
                by_cases c17 : (rd t417 0) = 255
                · rw [if_pos c17] at H
                  have c17b0 : ((rd t417 0) == 255) = true := beq_iff_eq.mpr c17
                  have c17b1 : ((rd t417 0) != 255) = false := bne_eq_false_iff_eq.mpr c17
                  clear c17
                  by_cases c18 : (strOfNums t421).toList = (strOfNums t417).toList
                  · rw [if_pos c18] at H
                    have c18b0 : ((strOfNums t421).toList == (strOfNums t417).toList) = true := beq_iff_eq.mpr c18
                    have c18b1 : ((strOfNums t421).toList != (strOfNums t417).toList) = false := bne_eq_false_iff_eq.mpr c18
                    clear c18
                    by_cases c19 : (strOfNums t425).toList = (strOfNums t417).toList
                    · rw [if_pos c19] at H
                      have c19b0 : ((strOfNums t425).toList == (strOfNums t417).toList) = true := beq_iff_eq.mpr c19
                      have c19b1 : ((strOfNums t425).toList != (strOfNums t417).toList) = false := bne_eq_false_iff_eq.mpr c19
                      clear c19
                      have H' := Aside0.mk H
                      clear H
                      obtain ⟨Ao20, co20, eo20⟩ := Kd.R_slice HO420.out
                      subst eo20
                      have p431 : 0 ≤ (0 : Int) := (by omega)
                      have q431 : 0 < (t417.length : Int) := of_decide_eq_true (by first | (with_reducible assumption) | assumption)
                      obtain ⟨ad431, e431, hx431_0⟩ := Kd.at_int (Kd.R_reads' HO420.out).2.2 0 p431 q431
                      cases e431
                      have qi431 : (0 < t417.length) = True := eq_true (by omega)
                      (try rw [show ((0 : Int)).toNat = 0 from rfl] at hx431_0)
                      (try rw [Addr.add_zero'] at hx431_0)
                      replace p431 := eq_true p431
                      replace q431 := eq_true q431
                      have hcv21 := own_string (P := Tryd.prog) Tryd.underlying22 Tryd.underlying5 Tryd.underlying9 (Kd.own_of_R HO424.out)
                      have hcv22 := own_string (P := Tryd.prog) Tryd.underlying22 Tryd.underlying5 Tryd.underlying9 (Kd.own_of_R HO420.out)
                      have hcv23 := own_string (P := Tryd.prog) Tryd.underlying22 Tryd.underlying5 Tryd.underlying9 (Kd.own_of_R HO428.out)
                      have hcv24 := own_string (P := Tryd.prog) Tryd.underlying22 Tryd.underlying5 Tryd.underlying9 (Kd.own_of_R HO420.out)
                      go_wp2
                      go_meet
                      case rel => exact ⟨_, ((t429 != 255)), (by first | rfl | (simp; done) | (simp [*]; done)), H', ⟨by first | omega | exact Nat.le_refl _⟩, ⟨by repeat (first | (with_reducible first | exact HB.out | apply below_alloc | apply pw_below_drewN | apply below_drew1) | exact HB.out)⟩⟩
                    · rw [if_neg c19] at H
                      have c19b0 : ((strOfNums t425).toList == (strOfNums t417).toList) = false := beq_eq_false_iff_ne.mpr c19
                      have c19b1 : ((strOfNums t425).toList != (strOfNums t417).toList) = true := bne_iff_ne.mpr c19
                      have H' := Aside0.mk H
                      clear H
                      obtain ⟨Ao25, co25, eo25⟩ := Kd.R_slice HO420.out
                      subst eo25
                      have p431 : 0 ≤ (0 : Int) := (by omega)
                      have q431 : 0 < (t417.length : Int) := of_decide_eq_true (by first | (with_reducible assumption) | assumption)
                      obtain ⟨ad431, e431, hx431_0⟩ := Kd.at_int (Kd.R_reads' HO420.out).2.2 0 p431 q431
                      cases e431
                      have qi431 : (0 < t417.length) = True := eq_true (by omega)
                      (try rw [show ((0 : Int)).toNat = 0 from rfl] at hx431_0)
                      (try rw [Addr.add_zero'] at hx431_0)
                      replace p431 := eq_true p431
                      replace q431 := eq_true q431
                      have hcv26 := own_string (P := Tryd.prog) Tryd.underlying22 Tryd.underlying5 Tryd.underlying9 (Kd.own_of_R HO424.out)
                      have hcv27 := own_string (P := Tryd.prog) Tryd.underlying22 Tryd.underlying5 Tryd.underlying9 (Kd.own_of_R HO420.out)
                      have hcv28 := own_string (P := Tryd.prog) Tryd.underlying22 Tryd.underlying5 Tryd.underlying9 (Kd.own_of_R HO428.out)
                      have hcv29 := own_string (P := Tryd.prog) Tryd.underlying22 Tryd.underlying5 Tryd.underlying9 (Kd.own_of_R HO420.out)
                      go_wp2
                      go_meet
                      case rel => exact ⟨_, (true), (by first | rfl | (simp; done) | (simp [*]; done)), H', ⟨by first | omega | exact Nat.le_refl _⟩, ⟨by repeat (first | (with_reducible first | exact HB.out | apply below_alloc | apply pw_below_drewN | apply below_drew1) | exact HB.out)⟩⟩
                  · rw [if_neg c18] at H
                    have c18b0 : ((strOfNums t421).toList == (strOfNums t417).toList) = false := beq_eq_false_iff_ne.mpr c18
                    have c18b1 : ((strOfNums t421).toList != (strOfNums t417).toList) = true := bne_iff_ne.mpr c18
                    have H' := Aside0.mk H
                    clear H
                    obtain ⟨Ao30, co30, eo30⟩ := Kd.R_slice HO420.out
                    subst eo30
                    have p431 : 0 ≤ (0 : Int) := (by omega)
                    have q431 : 0 < (t417.length : Int) := of_decide_eq_true (by first | (with_reducible assumption) | assumption)
                    obtain ⟨ad431, e431, hx431_0⟩ := Kd.at_int (Kd.R_reads' HO420.out).2.2 0 p431 q431
                    cases e431
                    have qi431 : (0 < t417.length) = True := eq_true (by omega)
                    (try rw [show ((0 : Int)).toNat = 0 from rfl] at hx431_0)
                    (try rw [Addr.add_zero'] at hx431_0)
                    replace p431 := eq_true p431
                    replace q431 := eq_true q431
                    have hcv31 := own_string (P := Tryd.prog) Tryd.underlying22 Tryd.underlying5 Tryd.underlying9 (Kd.own_of_R HO424.out)
                    have hcv32 := own_string (P := Tryd.prog) Tryd.underlying22 Tryd.underlying5 Tryd.underlying9 (Kd.own_of_R HO420.out)
                    go_wp2
                    go_meet
                    case rel => exact ⟨_, (true), (by first | rfl | (simp; done) | (simp [*]; done)), H', ⟨by first | omega | exact Nat.le_refl _⟩, ⟨by repeat (first | (with_reducible first | exact HB.out | apply below_alloc | apply pw_below_drewN | apply below_drew1) | exact HB.out)⟩⟩
                · rw [if_neg c17] at H
                  have c17b0 : ((rd t417 0) == 255) = false := beq_eq_false_iff_ne.mpr c17
                  have c17b1 : ((rd t417 0) != 255) = true := bne_iff_ne.mpr c17
                  have H' := Aside0.mk H
                  clear H
                  obtain ⟨Ao33, co33, eo33⟩ := Kd.R_slice HO420.out
                  subst eo33
                  have p431 : 0 ≤ (0 : Int) := (by omega)
                  have q431 : 0 < (t417.length : Int) := of_decide_eq_true (by first | (with_reducible assumption) | assumption)
                  obtain ⟨ad431, e431, hx431_0⟩ := Kd.at_int (Kd.R_reads' HO420.out).2.2 0 p431 q431
                  cases e431
                  have qi431 : (0 < t417.length) = True := eq_true (by omega)
                  (try rw [show ((0 : Int)).toNat = 0 from rfl] at hx431_0)
                  (try rw [Addr.add_zero'] at hx431_0)
                  replace p431 := eq_true p431
                  replace q431 := eq_true q431
                  go_wp2
                  go_meet
                  case rel => exact ⟨_, (true), (by first | rfl | (simp; done) | (simp [*]; done)), H', ⟨by first | omega | exact Nat.le_refl _⟩, ⟨by repeat (first | (with_reducible first | exact HB.out | apply below_alloc | apply pw_below_drewN | apply below_drew1) | exact HB.out)⟩⟩
              · rw [if_neg c16] at H
                exact absurd H (by simp)
            · rw [if_neg c15] at H
              have c15b0 : ((t417.length : Int) == 1) = false := beq_eq_false_iff_ne.mpr c15
              have c15b1 : ((t417.length : Int) != 1) = true := bne_iff_ne.mpr c15
              have H' := Aside0.mk H
              clear H
              obtain ⟨Ao34, co34, eo34⟩ := Kd.R_slice HO420.out
              subst eo34
              go_wp2
              go_meet
              case rel => exact ⟨_, (true), (by first | rfl | (simp; done) | (simp [*]; done)), H', ⟨by first | omega | exact Nat.le_refl _⟩, ⟨by repeat (first | (with_reducible first | exact HB.out | apply below_alloc | apply pw_below_drewN | apply below_drew1) | exact HB.out)⟩⟩
          · rw [if_neg c14] at H
            have c14b0 : (t430 == 0) = false := beq_eq_false_iff_ne.mpr c14
            have c14b1 : (t430 != 0) = true := bne_iff_ne.mpr c14
            have H' := Aside0.mk H
            clear H
            go_wp2
            go_meet
            case rel => exact ⟨_, (true), (by first | rfl | (simp; done) | (simp [*]; done)), H', ⟨by first | omega | exact Nat.le_refl _⟩, ⟨by repeat (first | (with_reducible first | exact HB.out | apply below_alloc | apply pw_below_drewN | apply below_drew1) | exact HB.out)⟩⟩
        · rw [if_neg c13] at H
          have c13b0 : (t426 == 0) = false := beq_eq_false_iff_ne.mpr c13
          have c13b1 : (t426 != 0) = true := bne_iff_ne.mpr c13
          have H' := Aside0.mk H
          clear H
          go_wp2
          go_meet
          case rel => exact ⟨_, (true), (by first | rfl | (simp; done) | (simp [*]; done)), H', ⟨by first | omega | exact Nat.le_refl _⟩, ⟨by repeat (first | (with_reducible first | exact HB.out | apply below_alloc | apply pw_below_drewN | apply below_drew1) | exact HB.out)⟩⟩
      · rw [if_neg c12] at H
        have c12b0 : (t422 == 0) = false := beq_eq_false_iff_ne.mpr c12
        have c12b1 : (t422 != 0) = true := bne_iff_ne.mpr c12
        have H' := Aside0.mk H
        clear H
        go_wp2
        go_meet
        case rel => exact ⟨_, (true), (by first | rfl | (simp; done) | (simp [*]; done)), H', ⟨by first | omega | exact Nat.le_refl _⟩, ⟨by repeat (first | (with_reducible first | exact HB.out | apply below_alloc | apply pw_below_drewN | apply below_drew1) | exact HB.out)⟩⟩
    · rw [if_neg c11] at H
      have c11b0 : (t418 == 0) = false := beq_eq_false_iff_ne.mpr c11
      have c11b1 : (t418 != 0) = true := bne_iff_ne.mpr c11
      (first | rw [c11b0] | (simp only [i64_w, i32_w]; rw [c11b0]) | skip)
      have H' := Aside0.mk H
      clear H
      go_wp2
      go_meet
      case rel => exact ⟨_, (true), (by first | rfl | (simp; done) | (simp [*]; done)), H', ⟨by first | omega | exact Nat.le_refl _⟩, ⟨by repeat (first | (with_reducible first | exact HB.out | apply below_alloc | apply pw_below_drewN | apply below_drew1) | exact HB.out)⟩⟩
  case rest =>
    clear HC6
    try clear c1
    try clear c2
    try clear p2
    try clear hcv2
    try clear hcv3
    try clear p4
    try clear q4
    try clear hx4
    try clear qi4
    try clear c10
    try clear c11
    try clear c11b0
    try clear c11b1
    try clear c12
    try clear c12b0
    try clear c12b1
    try clear c13
    try clear c13b0
    try clear c13b1
    try clear c14
    try clear c14b0
    try clear c14b1
    try clear c15
    try clear c15b0
    try clear c15b1
    try clear c16
    try clear c16b0
    try clear c16b1
    try clear c17
    try clear c17b0
    try clear c17b1
    try clear c18
    try clear c18b0
    try clear c18b1
    try clear c19
    try clear c19b0
    try clear c19b1
    try clear c20
    try clear hcv21
    try clear hcv22
    try clear c23
    try clear hcv23
    try clear c24
    try clear hcv24
    try clear c26
    try clear hcv26
    try clear hcv27
    try clear hcv28
    try clear hcv29
    try clear hcv31
    try clear hcv32
    try clear hx431_0
    try clear p431
    try clear q431
    obtain ⟨kq, x69_5, rfl, HA, HJ5, HB⟩ := hcut
    cases kq with
    | zero => exact absurd HA.out (by simp [ledgerlaw06_TextOnce.j0])
    | succ kj5 =>
      have H := HA.out
      clear HA
      simp only [ledgerlaw06_TextOnce.j0] at H
      by_cases c35 : x69_5 = true
      · subst c35
        have H1 : (some false) = some r := by rw [if_pos rfl] at H; exact H
        clear H
        have H := H1
        clear H1
        obtain rfl := Option.some.inj H
        go_wp2
        go_ret
        exact ⟨by first | rfl | (simp [errW_none, errW_some] <;> rfl) | (simp [*, errW_none, errW_some] <;> rfl), by repeat (first | (with_reducible first | exact HB.out | apply below_alloc | apply pw_below_drewN | apply below_drew1) | exact HB.out)⟩
      · replace c35 := Bool.eq_false_iff.mpr c35
        subst c35
        have H1 : ((text_DecodeBase64.f kj5 a0).bind fun bt432 => (if bt432.2 = 0 then ((text_EncodeBase64.f kj5 bt432.1).bind fun t436 => (ledgerlaw06_TextOnce.j1 kj5 a0 (t436.toList != a0.toList))) else (ledgerlaw06_TextOnce.j1 kj5 a0 false))) = some r := by rw [if_neg (show ¬ (false = true) by decide)] at H; exact H
        clear H
        have H := H1
        clear H1
        replace H := Option.bind_eq_some_iff.mp H
        obtain ⟨⟨t432, t433⟩, A360, H⟩ := H
        replace H : (if t433 = 0 then ((text_EncodeBase64.f kj5 t432).bind fun t436 => (ledgerlaw06_TextOnce.j1 kj5 a0 (t436.toList != a0.toList))) else (ledgerlaw06_TextOnce.j1 kj5 a0 false)) = some r := H
        have A36 := Aside0.mk A360
        clear A360
        have HC37 := Aside0.mk H
        clear H
        go_upto_region 8 with (first | ((with_reducible refine gate_callee (f := 20) rfl ?_); refine goesL_ (some 72) rfl rfl Tryd.func20 (by kernel_rfl) rfl #[.string a0] rfl (by (try simp only [List.map_toArray, List.map_cons, List.map_nil]); first | done | rfl | (simp only [List.length_drop, List.length_take]; rfl)) ?_; (with_reducible refine (text_DecodeBase64.calls kj5 a0 t432 t433 _ A36.out).mono ?_); rintro e w38 ⟨v434, rfl, ho0, hb⟩; refine ⟨_, rfl, ?_⟩; have n0_ := Aside0.mk (Kd.R_lower ho0 (below_size (by repeat (first | (with_reducible first | exact HB.out | apply below_alloc | apply pw_below_drewN | apply below_drew1) | exact HB.out)))); have n1_ := Aside0.mk (below_step (by repeat (first | (with_reducible first | exact HB.out | apply below_alloc | apply pw_below_drewN | apply below_drew1) | exact HB.out)) hb); clear HB; have HO435 := n0_; have HB := n1_; clear n0_ n1_; (try clear hb); (try clear hb2); (try clear hk); (try clear hi); (try clear ho0)))
        (try simp only [Act.put, List.setIfInBounds_toArray, List.set_cons_zero, List.set_cons_succ])
        go_cut [82] (fun v82 wc => ∃ (kq : Nat) (x82_36 : Bool), v82 = .bool x82_36 ∧ Aside0 (ledgerlaw06_TextOnce.j1 kq a0 x82_36 = some r) ∧ Aside0 (kq ≤ kj5) ∧ Aside0 (Below w.heap.size w wc))
        case first =>
          have H := HC37.out
          clear HC37
          by_cases c39 : t433 = 0
          · rw [if_pos c39] at H
            have c39b0 : (t433 == 0) = true := beq_iff_eq.mpr c39
            have c39b1 : (t433 != 0) = false := bne_eq_false_iff_eq.mpr c39
            clear c39
            (first | rw [c39b0] | (simp only [i64_w, i32_w]; rw [c39b0]) | skip)
            replace H := Option.bind_eq_some_iff.mp H
            obtain ⟨t436, A400, H⟩ := H
            replace H : (ledgerlaw06_TextOnce.j1 kj5 a0 (t436.toList != a0.toList)) = some r := H
            have A40 := Aside0.mk A400
            clear A400
            have H' := Aside0.mk H
            clear H
            obtain ⟨Ao41, co41, eo41⟩ := Kd.R_slice HO435.out
            subst eo41
            go_wp2_with (first | (go_at_call 14; (with_reducible refine (text_EncodeBase64.calls kj5 (fun k_ => some k_ = (.slice Ao41 t432.length co41 : Value).ownBlock) _ _ t432 t436 _ ?side1 A40.out).mono ?_); (case side1 => exact Kd.R_V (Kd.R_tight rfl (HO435.out))); rintro e w42 ⟨rfl, hb⟩; have n0_ := Aside0.mk (Kd.R_below (by (with_reducible repeat (first | apply Kd.R_alloc | apply Kd.R_drewN | apply Kd.R_drew)); exact HO435.out) hb); have n1_ := Aside0.mk (below_step (by repeat (first | (with_reducible first | exact HB.out | apply below_alloc | apply pw_below_drewN | apply below_drew1) | exact HB.out)) hb); clear HO435; clear HB; have HO435 := n0_; have HB := n1_; clear n0_ n1_; (try clear hb); (try clear hb2); (try clear hk); (try clear hi)))
            go_meet
            case rel => exact ⟨_, ((t436.toList != a0.toList)), (by first | rfl | (simp; done) | (simp [*]; done)), H', ⟨by have := HJ5.out; first | omega | exact Nat.le_refl _⟩, ⟨by repeat (first | (with_reducible first | exact HB.out | apply below_alloc | apply pw_below_drewN | apply below_drew1) | exact HB.out)⟩⟩
          · rw [if_neg c39] at H
            have c39b0 : (t433 == 0) = false := beq_eq_false_iff_ne.mpr c39
            have c39b1 : (t433 != 0) = true := bne_iff_ne.mpr c39
            (first | rw [c39b0] | (simp only [i64_w, i32_w]; rw [c39b0]) | skip)
            have H' := Aside0.mk H
            clear H
            go_wp2
            go_meet
            case rel => exact ⟨_, (false), (by first | rfl | (simp; done) | (simp [*]; done)), H', ⟨by have := HJ5.out; first | omega | exact Nat.le_refl _⟩, ⟨by repeat (first | (with_reducible first | exact HB.out | apply below_alloc | apply pw_below_drewN | apply below_drew1) | exact HB.out)⟩⟩
        case rest =>
          clear HC37
          try clear c1
          try clear c2
          try clear p2
          try clear hcv2
          try clear c3
          try clear hcv3
          try clear p4
          try clear q4
          try clear hx4
          try clear qi4
          try clear c10
          try clear c11
          try clear c11b0
          try clear c11b1
          try clear c12
          try clear c12b0
          try clear c12b1
          try clear c13
          try clear c13b0
          try clear c13b1
          try clear c14
          try clear c14b0
          try clear c14b1
          try clear c15
          try clear c15b0
          try clear c15b1
          try clear c16
          try clear c16b0
          try clear c16b1
          try clear c17
          try clear c17b0
          try clear c17b1
          try clear c18
          try clear c18b0
          try clear c18b1
          try clear c19
          try clear c19b0
          try clear c19b1
          try clear c20
          try clear hcv21
          try clear hcv22
          try clear c23
          try clear hcv23
          try clear c24
          try clear hcv24
          try clear c26
          try clear hcv26
          try clear hcv27
          try clear hcv28
          try clear hcv29
          try clear hcv31
          try clear hcv32
          try clear c35
          try clear c39
          try clear c39b0
          try clear c39b1
          try clear hx431_0
          try clear p2
          try clear p4
          try clear p431
          try clear q4
          try clear q431
          obtain ⟨kq, x82_36, rfl, HA, HJ36, HB⟩ := hcut
          cases kq with
          | zero => exact absurd HA.out (by simp [ledgerlaw06_TextOnce.j1])
          | succ kj36 =>
            have H := HA.out
            clear HA
            simp only [ledgerlaw06_TextOnce.j1] at H
            by_cases c43 : x82_36 = true
            · subst c43
              have H1 : (some false) = some r := by rw [if_pos rfl] at H; exact H
              clear H
              have H := H1
              clear H1
              obtain rfl := Option.some.inj H
              go_wp2
              go_ret
              exact ⟨by first | rfl | (simp [errW_none, errW_some] <;> rfl) | (simp [*, errW_none, errW_some] <;> rfl), by repeat (first | (with_reducible first | exact HB.out | apply below_alloc | apply pw_below_drewN | apply below_drew1) | exact HB.out)⟩
            · replace c43 := Bool.eq_false_iff.mpr c43
              subst c43
              have H1 : ((text_DecodeHex.f kj36 a0).bind fun bt437 => (if bt437.2 = 0 then ((text_EncodeHex.f kj36 bt437.1).bind fun t441 => (ledgerlaw06_TextOnce.j2 kj36 a0 (t441.toList != a0.toList))) else (ledgerlaw06_TextOnce.j2 kj36 a0 false))) = some r := by rw [if_neg (show ¬ (false = true) by decide)] at H; exact H
              clear H
              have H := H1
              clear H1
              replace H := Option.bind_eq_some_iff.mp H
              obtain ⟨⟨t437, t438⟩, A440, H⟩ := H
              replace H : (if t438 = 0 then ((text_EncodeHex.f kj36 t437).bind fun t441 => (ledgerlaw06_TextOnce.j2 kj36 a0 (t441.toList != a0.toList))) else (ledgerlaw06_TextOnce.j2 kj36 a0 false)) = some r := H
              have A44 := Aside0.mk A440
              clear A440
              have HC45 := Aside0.mk H
              clear H
              go_upto_region 11 with (first | ((with_reducible refine gate_callee (f := 23) rfl ?_); refine goesL_ (some 85) rfl rfl Tryd.func23 (by kernel_rfl) rfl #[.string a0] rfl (by (try simp only [List.map_toArray, List.map_cons, List.map_nil]); first | done | rfl | (simp only [List.length_drop, List.length_take]; rfl)) ?_; (with_reducible refine (text_DecodeHex.calls kj36 a0 t437 t438 _ ?side1 A44.out).mono ?_); (case side1 => exact LayD.below HLayD.out (by repeat (first | (with_reducible first | exact HB.out | apply below_alloc | apply pw_below_drewN | apply below_drew1) | exact HB.out))); rintro e w46 ⟨v439, rfl, ho0, hb⟩; refine ⟨_, rfl, ?_⟩; have n0_ := Aside0.mk (Kd.R_lower ho0 (below_size (by repeat (first | (with_reducible first | exact HB.out | apply below_alloc | apply pw_below_drewN | apply below_drew1) | exact HB.out)))); have n1_ := Aside0.mk (below_step (by repeat (first | (with_reducible first | exact HB.out | apply below_alloc | apply pw_below_drewN | apply below_drew1) | exact HB.out)) hb); clear HB; have HO440 := n0_; have HB := n1_; clear n0_ n1_; (try clear hb); (try clear hb2); (try clear hk); (try clear hi); (try clear ho0)))
              (try simp only [Act.put, List.setIfInBounds_toArray, List.set_cons_zero, List.set_cons_succ])
              go_cut [95] (fun v95 wc => ∃ (kq : Nat) (x95_44 : Bool), v95 = .bool x95_44 ∧ Aside0 (ledgerlaw06_TextOnce.j2 kq a0 x95_44 = some r) ∧ Aside0 (kq ≤ kj36) ∧ Aside0 (Below w.heap.size w wc))
              case first =>
                have H := HC45.out
                clear HC45
                by_cases c47 : t438 = 0
                · rw [if_pos c47] at H
                  have c47b0 : (t438 == 0) = true := beq_iff_eq.mpr c47
                  have c47b1 : (t438 != 0) = false := bne_eq_false_iff_eq.mpr c47
                  clear c47
                  (first | rw [c47b0] | (simp only [i64_w, i32_w]; rw [c47b0]) | skip)
                  replace H := Option.bind_eq_some_iff.mp H
                  obtain ⟨t441, A480, H⟩ := H
                  replace H : (ledgerlaw06_TextOnce.j2 kj36 a0 (t441.toList != a0.toList)) = some r := H
                  have A48 := Aside0.mk A480
                  clear A480
                  have H' := Aside0.mk H
                  clear H
                  obtain ⟨Ao49, co49, eo49⟩ := Kd.R_slice HO440.out
                  subst eo49
                  go_wp2_with (first | (go_at_call 12; (with_reducible refine (text_EncodeHex.calls kj36 _ _ t437 t441 _ ?side1 ?side2 ?side3 A48.out).mono ?_); (case side1 => repeat (first | exact (Kd.R_reads' HO440.out).2.2 | (with_reducible refine Kd.C_alloc ?_ _) | (with_reducible refine Kd.C_drewN ?_ _) | (with_reducible refine Kd.C_drew ?_))); (case side2 => exact (Kd.R_reads' HO440.out).2.1); (case side3 => exact LayD.below HLayD.out (by repeat (first | (with_reducible first | exact HB.out | apply below_alloc | apply pw_below_drewN | apply below_drew1) | exact HB.out))); rintro e w50 ⟨rfl, hb⟩; have n0_ := Aside0.mk (Kd.R_below (by (with_reducible repeat (first | apply Kd.R_alloc | apply Kd.R_drewN | apply Kd.R_drew)); exact HO440.out) hb); have n1_ := Aside0.mk (below_step (by repeat (first | (with_reducible first | exact HB.out | apply below_alloc | apply pw_below_drewN | apply below_drew1) | exact HB.out)) hb); clear HO440; clear HB; have HO440 := n0_; have HB := n1_; clear n0_ n1_; (try clear hb); (try clear hb2); (try clear hk); (try clear hi)))
                  go_meet
                  case rel => exact ⟨_, ((t441.toList != a0.toList)), (by first | rfl | (simp; done) | (simp [*]; done)), H', ⟨by have := HJ5.out; have := HJ36.out; first | omega | exact Nat.le_refl _⟩, ⟨by repeat (first | (with_reducible first | exact HB.out | apply below_alloc | apply pw_below_drewN | apply below_drew1) | exact HB.out)⟩⟩
                · rw [if_neg c47] at H
                  have c47b0 : (t438 == 0) = false := beq_eq_false_iff_ne.mpr c47
                  have c47b1 : (t438 != 0) = true := bne_iff_ne.mpr c47
                  (first | rw [c47b0] | (simp only [i64_w, i32_w]; rw [c47b0]) | skip)
                  have H' := Aside0.mk H
                  clear H
                  go_wp2
                  go_meet
                  case rel => exact ⟨_, (false), (by first | rfl | (simp; done) | (simp [*]; done)), H', ⟨by have := HJ5.out; have := HJ36.out; first | omega | exact Nat.le_refl _⟩, ⟨by repeat (first | (with_reducible first | exact HB.out | apply below_alloc | apply pw_below_drewN | apply below_drew1) | exact HB.out)⟩⟩
              case rest =>
                clear HC45
                try clear c1
                try clear c2
                try clear p2
                try clear hcv2
                try clear c3
                try clear hcv3
                try clear c4
                try clear p4
                try clear q4
                try clear hx4
                try clear qi4
                try clear c10
                try clear c11
                try clear c11b0
                try clear c11b1
                try clear c12
                try clear c12b0
                try clear c12b1
                try clear c13
                try clear c13b0
                try clear c13b1
                try clear c14
                try clear c14b0
                try clear c14b1
                try clear c15
                try clear c15b0
                try clear c15b1
                try clear c16
                try clear c16b0
                try clear c16b1
                try clear c17
                try clear c17b0
                try clear c17b1
                try clear c18
                try clear c18b0
                try clear c18b1
                try clear c19
                try clear c19b0
                try clear c19b1
                try clear c20
                try clear hcv21
                try clear hcv22
                try clear c23
                try clear hcv23
                try clear c24
                try clear hcv24
                try clear c26
                try clear hcv26
                try clear hcv27
                try clear hcv28
                try clear hcv29
                try clear hcv31
                try clear hcv32
                try clear c35
                try clear c39
                try clear c39b0
                try clear c39b1
                try clear c43
                try clear p43
                try clear q43
                try clear hx43
                try clear qi43
                try clear c47
                try clear c47b0
                try clear c47b1
                try clear hx431_0
                try clear p2
                try clear p4
                try clear p431
                try clear q4
                try clear q431
                obtain ⟨kq, x95_44, rfl, HA, HJ44, HB⟩ := hcut
                cases kq with
                | zero => exact absurd HA.out (by simp [ledgerlaw06_TextOnce.j2])
                | succ kj44 =>
                  have H := HA.out
                  clear HA
                  simp only [ledgerlaw06_TextOnce.j2] at H
                  by_cases c51 : x95_44 = true
                  · subst c51
                    have H1 : (some false) = some r := by rw [if_pos rfl] at H; exact H
                    clear H
                    have H := H1
                    clear H1
                    obtain rfl := Option.some.inj H
                    go_wp2
                    go_ret
                    exact ⟨by first | rfl | (simp [errW_none, errW_some] <;> rfl) | (simp [*, errW_none, errW_some] <;> rfl), by repeat (first | (with_reducible first | exact HB.out | apply below_alloc | apply pw_below_drewN | apply below_drew1) | exact HB.out)⟩
                  · replace c51 := Bool.eq_false_iff.mpr c51
                    subst c51
                    have H1 : ((text_Unquote.f kj44 a0).bind fun bt442 => (if bt442.2 = 0 then ((text_Quote.f kj44 bt442.1).bind fun t446 => (ledgerlaw06_TextOnce.j3 kj44 a0 (t446.toList != a0.toList))) else (ledgerlaw06_TextOnce.j3 kj44 a0 false))) = some r := by rw [if_neg (show ¬ (false = true) by decide)] at H; exact H
                    clear H
                    have H := H1
                    clear H1
                    replace H := Option.bind_eq_some_iff.mp H
                    obtain ⟨⟨t442, t443⟩, A520, H⟩ := H
                    replace H : (if t443 = 0 then ((text_Quote.f kj44 t442).bind fun t446 => (ledgerlaw06_TextOnce.j3 kj44 a0 (t446.toList != a0.toList))) else (ledgerlaw06_TextOnce.j3 kj44 a0 false)) = some r := H
                    have A52 := Aside0.mk A520
                    clear A520
                    have HC53 := Aside0.mk H
                    clear H
                    go_upto_region 14 with (first | ((with_reducible refine gate_callee (f := 24) rfl ?_); refine goesL_ (some 98) rfl rfl Tryd.func24 (by kernel_rfl) rfl #[.string a0] rfl (by (try simp only [List.map_toArray, List.map_cons, List.map_nil]); first | done | rfl | (simp only [List.length_drop, List.length_take]; rfl)) ?_; (with_reducible refine (text_Unquote.calls kj44 a0 t442 t443 _ ?side1 A52.out).mono ?_); (case side1 => exact LayD.below HLayD.out (by repeat (first | (with_reducible first | exact HB.out | apply below_alloc | apply pw_below_drewN | apply below_drew1) | exact HB.out))); rintro e w54 ⟨v444, rfl, ho0, hb⟩; refine ⟨_, rfl, ?_⟩; have n0_ := Aside0.mk (Kd.R_lower ho0 (below_size (by repeat (first | (with_reducible first | exact HB.out | apply below_alloc | apply pw_below_drewN | apply below_drew1) | exact HB.out)))); have n1_ := Aside0.mk (below_step (by repeat (first | (with_reducible first | exact HB.out | apply below_alloc | apply pw_below_drewN | apply below_drew1) | exact HB.out)) hb); clear HB; have HO445 := n0_; have HB := n1_; clear n0_ n1_; (try clear hb); (try clear hb2); (try clear hk); (try clear hi); (try clear ho0)))
                    (try simp only [Act.put, List.setIfInBounds_toArray, List.set_cons_zero, List.set_cons_succ])
                    go_cut [108] (fun v108 wc => ∃ (kq : Nat) (x108_52 : Bool), v108 = .bool x108_52 ∧ Aside0 (ledgerlaw06_TextOnce.j3 kq a0 x108_52 = some r) ∧ Aside0 (kq ≤ kj44) ∧ Aside0 (Below w.heap.size w wc))
                    case first =>
                      have H := HC53.out
                      clear HC53
                      by_cases c55 : t443 = 0
                      · rw [if_pos c55] at H
                        have c55b0 : (t443 == 0) = true := beq_iff_eq.mpr c55
                        have c55b1 : (t443 != 0) = false := bne_eq_false_iff_eq.mpr c55
                        clear c55
                        (first | rw [c55b0] | (simp only [i64_w, i32_w]; rw [c55b0]) | skip)
                        replace H := Option.bind_eq_some_iff.mp H
                        obtain ⟨t446, A560, H⟩ := H
                        replace H : (ledgerlaw06_TextOnce.j3 kj44 a0 (t446.toList != a0.toList)) = some r := H
                        have A56 := Aside0.mk A560
                        clear A560
                        have H' := Aside0.mk H
                        clear H
                        obtain ⟨Ao57, co57, eo57⟩ := Kd.R_slice HO445.out
                        subst eo57
                        go_wp2_with (first | (go_at_call 13; (with_reducible refine (text_Quote.calls kj44 _ _ t442 t446 _ ?side1 ?side2 ?side3 A56.out).mono ?_); (case side1 => repeat (first | exact (Kd.R_reads' HO445.out).2.2 | (with_reducible refine Kd.C_alloc ?_ _) | (with_reducible refine Kd.C_drewN ?_ _) | (with_reducible refine Kd.C_drew ?_))); (case side2 => exact (Kd.R_reads' HO445.out).2.1); (case side3 => exact LayD.below HLayD.out (by repeat (first | (with_reducible first | exact HB.out | apply below_alloc | apply pw_below_drewN | apply below_drew1) | exact HB.out))); rintro e w58 ⟨rfl, hb⟩; have n0_ := Aside0.mk (Kd.R_below (by (with_reducible repeat (first | apply Kd.R_alloc | apply Kd.R_drewN | apply Kd.R_drew)); exact HO445.out) hb); have n1_ := Aside0.mk (below_step (by repeat (first | (with_reducible first | exact HB.out | apply below_alloc | apply pw_below_drewN | apply below_drew1) | exact HB.out)) hb); clear HO445; clear HB; have HO445 := n0_; have HB := n1_; clear n0_ n1_; (try clear hb); (try clear hb2); (try clear hk); (try clear hi)))
                        go_meet
                        case rel => exact ⟨_, ((t446.toList != a0.toList)), (by first | rfl | (simp; done) | (simp [*]; done)), H', ⟨by have := HJ5.out; have := HJ36.out; have := HJ44.out; first | omega | exact Nat.le_refl _⟩, ⟨by repeat (first | (with_reducible first | exact HB.out | apply below_alloc | apply pw_below_drewN | apply below_drew1) | exact HB.out)⟩⟩
                      · rw [if_neg c55] at H
                        have c55b0 : (t443 == 0) = false := beq_eq_false_iff_ne.mpr c55
                        have c55b1 : (t443 != 0) = true := bne_iff_ne.mpr c55
                        (first | rw [c55b0] | (simp only [i64_w, i32_w]; rw [c55b0]) | skip)
                        have H' := Aside0.mk H
                        clear H
                        go_wp2
                        go_meet
                        case rel => exact ⟨_, (false), (by first | rfl | (simp; done) | (simp [*]; done)), H', ⟨by have := HJ5.out; have := HJ36.out; have := HJ44.out; first | omega | exact Nat.le_refl _⟩, ⟨by repeat (first | (with_reducible first | exact HB.out | apply below_alloc | apply pw_below_drewN | apply below_drew1) | exact HB.out)⟩⟩
                    case rest =>
                      clear HC53
                      try clear c1
                      try clear c2
                      try clear p2
                      try clear hcv2
                      try clear c3
                      try clear hcv3
                      try clear c4
                      try clear p4
                      try clear q4
                      try clear hx4
                      try clear qi4
                      try clear c5
                      try clear c10
                      try clear c11
                      try clear c11b0
                      try clear c11b1
                      try clear c12
                      try clear c12b0
                      try clear c12b1
                      try clear c13
                      try clear c13b0
                      try clear c13b1
                      try clear c14
                      try clear c14b0
                      try clear c14b1
                      try clear c15
                      try clear c15b0
                      try clear c15b1
                      try clear c16
                      try clear c16b0
                      try clear c16b1
                      try clear c17
                      try clear c17b0
                      try clear c17b1
                      try clear c18
                      try clear c18b0
                      try clear c18b1
                      try clear c19
                      try clear c19b0
                      try clear c19b1
                      try clear c20
                      try clear hcv21
                      try clear hcv22
                      try clear c23
                      try clear hcv23
                      try clear c24
                      try clear hcv24
                      try clear c26
                      try clear hcv26
                      try clear hcv27
                      try clear hcv28
                      try clear hcv29
                      try clear hcv31
                      try clear hcv32
                      try clear c35
                      try clear c39
                      try clear c39b0
                      try clear c39b1
                      try clear c43
                      try clear p43
                      try clear q43
                      try clear hx43
                      try clear qi43
                      try clear c47
                      try clear c47b0
                      try clear c47b1
                      try clear c51
                      try clear c55
                      try clear c55b0
                      try clear c55b1
                      try clear hx431_0
                      try clear p2
                      try clear p4
                      try clear p43
                      try clear p431
                      try clear q4
                      try clear q43
                      try clear q431
                      obtain ⟨kq, x108_52, rfl, HA, HJ52, HB⟩ := hcut
                      cases kq with
                      | zero => exact absurd HA.out (by simp [ledgerlaw06_TextOnce.j3])
                      | succ kj52 =>
                        have H := HA.out
                        clear HA
                        simp only [ledgerlaw06_TextOnce.j3] at H
                        by_cases c59 : x108_52 = true
                        · subst c59
                          have H1 : (some false) = some r := by rw [if_pos rfl] at H; exact H
                          clear H
                          have H := H1
                          clear H1
                          obtain rfl := Option.some.inj H
                          go_wp2
                          go_ret
                          exact ⟨by first | rfl | (simp [errW_none, errW_some] <;> rfl) | (simp [*, errW_none, errW_some] <;> rfl), by repeat (first | (with_reducible first | exact HB.out | apply below_alloc | apply pw_below_drewN | apply below_drew1) | exact HB.out)⟩
                        · replace c59 := Bool.eq_false_iff.mpr c59
                          subst c59
                          have H1 : ((text_ParseNumber.f a0 9223372036854775807).bind fun bt447 => (if bt447.2 = 0 then ((text_FormatNumber.f bt447.1).bind fun t449 => (some (t449.toList == a0.toList))) else (some true))) = some r := by rw [if_neg (show ¬ (false = true) by decide)] at H; exact H
                          clear H
                          have H := H1
                          clear H1
                          replace H := Option.bind_eq_some_iff.mp H
                          obtain ⟨⟨t447, t448⟩, A600, H⟩ := H
                          replace H : (if t448 = 0 then ((text_FormatNumber.f t447).bind fun t449 => (some (t449.toList == a0.toList))) else (some true)) = some r := H
                          have A60 := Aside0.mk A600
                          clear A600
                          by_cases c61 : t448 = 0
                          · rw [if_pos c61] at H
                            have c61b0 : (t448 == 0) = true := beq_iff_eq.mpr c61
                            have c61b1 : (t448 != 0) = false := bne_eq_false_iff_eq.mpr c61
                            clear c61
                            replace H := Option.bind_eq_some_iff.mp H
                            obtain ⟨t449, A620, H⟩ := H
                            replace H : (some (t449.toList == a0.toList)) = some r := H
                            have A62 := Aside0.mk A620
                            clear A620
                            obtain rfl := Option.some.inj H
                            go_wp2_with (first | ((with_reducible refine gate_callee (f := 26) rfl ?_); refine goesL_ (some 111) rfl rfl Tryd.func26 (by kernel_rfl) rfl #[.string a0, .int .i64 9223372036854775807] rfl (by (try simp only [List.map_toArray, List.map_cons, List.map_nil]); first | done | rfl | (simp only [List.length_drop, List.length_take]; rfl)) ?_; (with_reducible refine (text_ParseNumber.calls a0 9223372036854775807 t447 t448 _ ?side1 A60.out).mono ?_); (case side1 => exact LayE.below HLayE.out (by repeat (first | (with_reducible first | exact HB.out | apply below_alloc | apply pw_below_drewN | apply below_drew1) | exact HB.out))); rintro e w63 ⟨rfl, hb⟩; refine ⟨_, rfl, ?_⟩; have n0_ := Aside0.mk (below_step (by repeat (first | (with_reducible first | exact HB.out | apply below_alloc | apply pw_below_drewN | apply below_drew1) | exact HB.out)) hb); clear HB; have HB := n0_; clear n0_; (try clear hb); (try clear hb2); (try clear hk); (try clear hi)) | (go_at_call 28; (with_reducible refine (text_FormatNumber.calls t447 t449 _ ?side1 A62.out).mono ?_); (case side1 => exact LayP.below HLayP.out (by repeat (first | (with_reducible first | exact HB.out | apply below_alloc | apply pw_below_drewN | apply below_drew1) | exact HB.out))); rintro e w64 ⟨rfl, hb⟩; have n0_ := Aside0.mk (below_step (by repeat (first | (with_reducible first | exact HB.out | apply below_alloc | apply pw_below_drewN | apply below_drew1) | exact HB.out)) hb); clear HB; have HB := n0_; clear n0_; (try clear hb); (try clear hb2); (try clear hk); (try clear hi)))
                            go_ret
                            exact ⟨by first | rfl | (simp [errW_none, errW_some] <;> rfl) | (simp [*, errW_none, errW_some] <;> rfl), by repeat (first | (with_reducible first | exact HB.out | apply below_alloc | apply pw_below_drewN | apply below_drew1) | exact HB.out)⟩
                          · rw [if_neg c61] at H
                            have c61b0 : (t448 == 0) = false := beq_eq_false_iff_ne.mpr c61
                            have c61b1 : (t448 != 0) = true := bne_iff_ne.mpr c61
                            obtain rfl := Option.some.inj H
                            go_wp2_with (first | ((with_reducible refine gate_callee (f := 26) rfl ?_); refine goesL_ (some 111) rfl rfl Tryd.func26 (by kernel_rfl) rfl #[.string a0, .int .i64 9223372036854775807] rfl (by (try simp only [List.map_toArray, List.map_cons, List.map_nil]); first | done | rfl | (simp only [List.length_drop, List.length_take]; rfl)) ?_; (with_reducible refine (text_ParseNumber.calls a0 9223372036854775807 t447 t448 _ ?side1 A60.out).mono ?_); (case side1 => exact LayE.below HLayE.out (by repeat (first | (with_reducible first | exact HB.out | apply below_alloc | apply pw_below_drewN | apply below_drew1) | exact HB.out))); rintro e w65 ⟨rfl, hb⟩; refine ⟨_, rfl, ?_⟩; have n0_ := Aside0.mk (below_step (by repeat (first | (with_reducible first | exact HB.out | apply below_alloc | apply pw_below_drewN | apply below_drew1) | exact HB.out)) hb); clear HB; have HB := n0_; clear n0_; (try clear hb); (try clear hb2); (try clear hk); (try clear hi)))
                            go_ret
                            exact ⟨by first | rfl | (simp [errW_none, errW_some] <;> rfl) | (simp [*, errW_none, errW_some] <;> rfl), by repeat (first | (with_reducible first | exact HB.out | apply below_alloc | apply pw_below_drewN | apply below_drew1) | exact HB.out)⟩

end Go.Proofs.YtljinjgamgmocaaDoor.G
