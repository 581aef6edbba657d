/- Joined texts of mine, 4: Ya, Yb, Yc, Yd, Ye, Yf, QL, Yg, Open, Yh, Za, Yi, Ra, Rb, Rt, Rd, Re, Rg, Ri, Rk, Rl, Rm. -/
import Derived.Lib.Builder
import Derived.Lib.FrozenHead
import Derived.Laws.Pointers
import Derived.Lib.ItoaLen
import Derived.OpenShut
import Derived.ShutString
import Derived.SliceStrings
import Derived.ChangeSlices
import Derived.Below
import Derived.Carry
import Derived.WalkKit
import Derived.ProofKit
import Derived.Deep.DeepHandedRow
import Derived.Test.YthgojbdpmcccaaaGreatDoorXp3
section
namespace Go.Proofs.YthgojbdpmcccaaaGreatDoor.K
open Go.RowKit Go.Proofs.YthgojbdpmcccaaaGreatDoor.Q Go.Proofs.YthgojbdpmcccaaaGreatDoor.Wb Go.Proofs.YthgojbdpmcccaaaGreatDoorW.PrintWords
set_option linter.unusedVariables false
set_option linter.unusedSimpArgs false
theorem headLen_cons (x : Fld) (l : List Fld) : headLen (x :: l) = (x.1.length + 2 + x.2.length + 2) + headLen l := by
  unfold headLen; simp only [List.map_cons, List.sum_cons]; omega
theorem headLen_take {l : List Fld} {i : Nat} {x : Fld} (h : l[i]? = some x) : headLen (l.take (i + 1)) = headLen (l.take i) + (x.1.length + 2 + x.2.length + 2) := by
  have hi : i < l.length := (List.getElem?_eq_some_iff.1 h).1
  have hx : l[i] = x := (List.getElem?_eq_some_iff.1 h).2
  unfold headLen
  rw [List.take_succ_eq_append_getElem hi, hx]
  simp only [List.map_append, List.map_cons, List.map_nil, List.sum_append, List.sum_cons, List.sum_nil]
  omega
theorem headLen_le {l : List Fld} (hb : BytesF l) : headLen l ≤ 2 + l.length * 200000004 := by
  induction l with
  | nil => simp [headLen]
  | cons x l ih =>
    have hx := hb x (by simp)
    have := ih (fun y hy => hb y (by simp [hy]))
    rw [headLen_cons, List.length_cons]
    omega
set_option maxHeartbeats 4000000 in
theorem long_c {w : World} {B : Option Addr} {c : Nat} {l : List Fld} (h : Rd w B (fldC l)) (hb : BytesF l) (hl : l.length ≤ 10000000) :
    Calls Tryz.prog 66 #[.slice B l.length c] w fun e w' => e = .returned (.bool (decide (16384 < headLen l))) ∧ Below w.heap.size w w' := by
  refine enter (args := [.slice B l.length c]) Tryz.func66 rfl Tryz.ntmps66 rfl ?_
  have H := Hp.nil w
  repeat' (first | (with_reducible first | refine p_tn ?_ | refine wp_seq ?_ | refine wp_block ?_ | refine w_reg ?_ | refine l_nil ?_) | ((with_reducible refine g_on ?_); (first | ((with_reducible refine g_mv ?_); refine l_p txs rfl rfl ?_) | ((with_reducible refine g_as ?_); refine l_p txs rfl rfl ?_) | ((with_reducible refine g_cl ?_); refine l_p txs rfl rfl ?_))))
  refine w_loop (σ := Nat) (S := fun s => [(3, .int .i64 (headLen (l.take s) : Int)), (6, .slice B l.length c), (7, .int .i64 (l.length : Int)), (8, .int .i64 (s : Int))]) (J := fun s w' => Hp w w' [] [] ∧ s ≤ l.length) (μ := fun s => l.length - s) 0 ⟨rfl, rfl, rfl, rfl, trivial⟩ ⟨H, by omega⟩ ?_
  rintro i f w_ ⟨H, hi⟩
  repeat' (with_reducible first | refine wp_seq ?_ | refine w_reg ?_)
  (with_reducible refine is_l ?_); refine l_t txs rfl rfl (fun hlt => ?_) (fun hge => ?_)
  · obtain ⟨x, hx⟩ : ∃ x, l[i]? = some x := ⟨_, List.getElem?_eq_getElem (by omega)⟩
    obtain ⟨a1, rfl⟩ := rd_some h (i := i) (by omega)
    obtain ⟨bx1, bx2, lx1, lx2⟩ := hb x (List.mem_of_getElem? hx)
    have zx1 := sizeS' bx1
    have zx2 := sizeS' bx2
    have ht := headLen_take hx
    have hle := headLen_le (l := l.take i) (fun y hy => hb y (List.mem_of_mem_take hy))
    rw [List.length_take_of_le (by omega)] at hle
    repeat' (first | (with_reducible first | refine p_tn ?_ | refine wp_seq ?_ | refine wp_block ?_ | refine w_reg ?_) | (with_reducible (refine is_if ?_; (refine w_ift rfl ?_))) | (with_reducible first | refine wp_skip ?_ | refine l_nil ?_) | ((with_reducible refine g_on ?_); ((with_reducible refine g_ia ?_); refine l_ia txs rfl rfl (by first | omega | assumption | decide) (by first | omega | assumption | decide) ?_)))
    rw [Int.toNat_natCast]
    (with_reducible refine is_l ?_); refine h_ldA recs (fld_part (h.below H.B) hx) rfl rfl rfl rfl ?_
    repeat' (first | (with_reducible first | refine p_tn ?_ | refine p_bn ?_ | refine w_reg ?_ | refine l_nil ?_) | ((with_reducible refine g_on ?_); (first | ((with_reducible refine g_mv ?_); refine l_p txs rfl rfl ?_) | ((with_reducible refine g_as ?_); refine l_p txs rfl rfl ?_) | ((with_reducible refine g_fa ?_); refine h_fa flds rfl rfl ?_) | ((with_reducible refine g_ld ?_); (refine h_ld txs H 0 rfl rfl rfl rfl ?_)) | ((with_reducible refine g_st ?_); (refine h_stR recs H 0 rfl rfl rfl rfl rfl rfl rfl rfl rfl (fun w_ H => ?_))) | ((with_reducible refine g_al ?_); refine h_alloc recs H rfl rfl (fun g_ w_ H => ?_)) | ((with_reducible refine g_cl ?_); refine l_p txs rfl rfl ?_) | ((with_reducible refine g_bi ?_); (refine l_a txs rfl rfl (by first | exact in_i64 (by omega) (by omega) | exact in_u8 (by omega) (by omega) | exact in_u64 (by omega) (by omega) | exact in_i32 (by omega) (by omega)) ?_)))))
    refine ⟨i + 1, _, rfl, ⟨?_, rfl, rfl, rfl, trivial⟩, ⟨H.pick [] [] (by decide) (by decide) rfl rfl, by omega⟩, by omega⟩
    show Value.int .i64 _ = Value.int .i64 _
    congr 1
    omega
  · have hall : l.take i = l := List.take_of_length_le (by omega)
    rw [hall]
    repeat' (first | (with_reducible first | refine p_tn ?_ | refine p_tx ?_ | refine x_hit ?_ | refine wp_seq ?_ | refine w_reg ?_) | (with_reducible (refine is_if ?_; (refine w_iff rfl ?_))) | (with_reducible first | refine wp_exit ?_ | refine l_nil ?_) | ((with_reducible refine g_on ?_); ((with_reducible refine g_mv ?_); refine l_p txs rfl rfl ?_)))
    (with_reducible refine is_l ?_); refine l_t txs rfl rfl (fun h1 => ?_) (fun h1 => ?_)
    · repeat' (first | (with_reducible first | refine p_tn ?_ | refine wp_ret ?_ | refine l_nil ?_) | ((with_reducible refine g_on ?_); ((with_reducible refine g_as ?_); refine l_p txs rfl rfl ?_)))
      refine end1 rfl rfl ?_
      exact ⟨by rw [decide_eq_true (by omega)], H.B⟩
    · repeat' (first | (with_reducible first | refine p_tn ?_ | refine wp_ret ?_ | refine l_nil ?_) | ((with_reducible refine g_on ?_); ((with_reducible refine g_as ?_); refine l_p txs rfl rfl ?_)))
      refine end1 rfl rfl ?_
      exact ⟨by rw [decide_eq_false (by omega)], H.B⟩
def chkS (l : List Fld) : Option Nat := if 64 < l.length then some 4 else if l.all goodF then none else some 8
def errO (A : Nat → Addr) : Option Nat → Value
  | none => .nilIface
  | some k => errV (A k)
set_option maxHeartbeats 4000000 in
theorem checkFields_c {A : Nat → Addr} {w : World} (hE : LayS A w) {B : Option Addr} {c : Nat} {l : List Fld} (h : Rd w B (fldC l)) (hb : BytesF l) :
    Calls Tryz.prog 68 #[.slice B l.length c] w fun e w' => e = .returned (errO A (chkS l)) ∧ Below w.heap.size w w' := by
  have c4 := (hE.sent 4 (by decide) (by decide)).cell
  have c8 := (hE.sent 8 (by decide) (by decide)).cell
  refine enter (args := [.slice B l.length c]) Tryz.func68 rfl Tryz.ntmps68 rfl ?_
  have H := Hp.nil w
  repeat' (first | (with_reducible first | refine p_tn ?_ | refine wp_seq ?_ | refine w_reg ?_ | refine l_nil ?_) | ((with_reducible refine g_on ?_); (first | ((with_reducible refine g_mv ?_); refine l_p txs rfl rfl ?_) | ((with_reducible refine g_as ?_); refine l_p txs rfl rfl ?_) | ((with_reducible refine g_cl ?_); refine l_p txs rfl rfl ?_))))
  (with_reducible refine is_l ?_); refine l_t txs rfl rfl (fun hbig => ?_) (fun hbig => ?_)
  · have he : chkS l = some 4 := by unfold chkS; rw [if_pos (by omega)]
    repeat' (first | (with_reducible first | refine p_tn ?_ | refine wp_seq ?_ | refine w_reg ?_) | (with_reducible (refine is_if ?_; (refine w_ift rfl ?_))) | (with_reducible refine l_nil ?_))
    (with_reducible refine is_l ?_); refine l_ld txs rfl rfl (H.old c4) ?_
    repeat' (first | (with_reducible first | refine p_tn ?_ | refine p_tr ?_ | refine wp_ret ?_ | refine l_nil ?_) | ((with_reducible refine g_on ?_); ((with_reducible refine g_as ?_); refine l_p txs rfl rfl ?_)))
    refine end1 rfl rfl ?_
    exact ⟨by rw [he]; rfl, H.B⟩
  · have he : chkS l = if l.all goodF then none else some 8 := by unfold chkS; rw [if_neg (by omega)]
    repeat' (first | (with_reducible first | refine p_tn ?_ | refine wp_seq ?_ | refine wp_block ?_ | refine w_reg ?_) | (with_reducible (refine is_if ?_; (refine w_iff rfl ?_))) | (with_reducible first | refine wp_skip ?_ | refine l_nil ?_) | ((with_reducible refine g_on ?_); (first | ((with_reducible refine g_mv ?_); refine l_p txs rfl rfl ?_) | ((with_reducible refine g_cl ?_); refine l_p txs rfl rfl ?_))))
    refine w_loop (σ := Nat) (S := fun s => [(9, .slice B l.length c), (10, .int .i64 (l.length : Int)), (11, .int .i64 (s : Int))]) (J := fun s w' => Hp w w' [] [] ∧ s ≤ l.length ∧ l.all goodF = (l.drop s).all goodF) (μ := fun s => l.length - s) 0 ⟨rfl, rfl, rfl, trivial⟩ ⟨H, by omega, rfl⟩ ?_
    rintro i f w_ ⟨H, hi, hD⟩
    repeat' (with_reducible first | refine wp_seq ?_ | refine w_reg ?_)
    (with_reducible refine is_l ?_); refine l_t txs rfl rfl (fun hlt => ?_) (fun hge => ?_)
    · obtain ⟨x, hx⟩ : ∃ x, l[i]? = some x := ⟨_, List.getElem?_eq_getElem (by omega)⟩
      obtain ⟨a1, rfl⟩ := rd_some h (i := i) (by omega)
      obtain ⟨bx1, bx2, lx1, lx2⟩ := hb x (List.mem_of_getElem? hx)
      have zx1 := sizeS' bx1
      have zx2 := sizeS' bx2
      have hdrop : l.drop i = x :: l.drop (i + 1) := by
        have hil : i < l.length := by omega
        rw [List.drop_eq_getElem_cons hil]
        congr 1
        rw [List.getElem?_eq_getElem hil] at hx
        exact Option.some.inj hx
      rw [hdrop, List.all_cons] at hD
      repeat' (first | (with_reducible first | refine p_tn ?_ | refine wp_seq ?_ | refine wp_block ?_ | refine w_reg ?_) | (with_reducible (refine is_if ?_; (refine w_ift rfl ?_))) | (with_reducible first | refine wp_skip ?_ | refine l_nil ?_) | ((with_reducible refine g_on ?_); ((with_reducible refine g_ia ?_); refine l_ia txs rfl rfl (by first | omega | assumption | decide) (by first | omega | assumption | decide) ?_)))
      rw [Int.toNat_natCast]
      (with_reducible refine is_l ?_); refine h_ldA recs (fld_part (h.below H.B) hx) rfl rfl rfl rfl ?_
      repeat' (first | (with_reducible first | refine p_tn ?_ | refine wp_seq ?_ | refine w_reg ?_ | refine l_nil ?_) | ((with_reducible refine g_on ?_); (first | ((with_reducible refine g_fa ?_); refine h_fa flds rfl rfl ?_) | ((with_reducible refine g_ld ?_); (refine h_ld txs H 0 rfl rfl rfl rfl ?_)) | ((with_reducible refine g_st ?_); (refine h_stR recs H 0 rfl rfl rfl rfl rfl rfl rfl rfl rfl (fun w_ H => ?_))) | ((with_reducible refine g_al ?_); refine h_alloc recs H rfl rfl (fun g_ w_ H => ?_)))))
      have ht := token_c (strOfNums x.1) w_ (by omega)
      rw [blS bx1] at ht
      have bad : goodF x = false → ∃ (k : Nat), errO A (chkS l) = errV (A 8) := fun hg => ⟨0, by rw [he, hD, hg]; rfl⟩
      cases hk : tokS x.1
      · have hg : goodF x = false := by unfold goodF; rw [hk]; rfl
        rw [hk] at ht
        (with_reducible refine is_l ?_); refine l_callp rfl rfl (by kernel_rfl) ht ?_
        repeat' (first | (with_reducible first | refine p_tn ?_ | refine wp_seq ?_ | refine w_reg ?_) | (with_reducible (refine is_if ?_; (refine w_ift rfl ?_))) | (with_reducible refine l_nil ?_) | ((with_reducible refine g_on ?_); (first | ((with_reducible refine g_mv ?_); refine l_p txs rfl rfl ?_) | ((with_reducible refine g_pk ?_); refine l_p txs rfl rfl ?_) | ((with_reducible refine g_un ?_); (refine l_p txs rfl rfl ?_)))) | ((with_reducible refine g_if ?_); (refine l_off rfl ?_)))
        (with_reducible refine is_l ?_); refine l_ld txs rfl rfl (H.old c8) ?_
        repeat' (first | (with_reducible first | refine p_tn ?_ | refine p_tr ?_ | refine p_br ?_ | refine wp_ret ?_ | refine l_nil ?_) | ((with_reducible refine g_on ?_); ((with_reducible refine g_as ?_); refine l_p txs rfl rfl ?_)))
        refine end1 rfl rfl ?_
        obtain ⟨_, hbad⟩ := bad hg
        exact ⟨by rw [hbad], H.B⟩
      · rw [hk] at ht
        (with_reducible refine is_l ?_); refine l_callp rfl rfl (by kernel_rfl) ht ?_
        repeat' (first | ((with_reducible refine g_on ?_); (first | ((with_reducible refine g_mv ?_); refine l_p txs rfl rfl ?_) | ((with_reducible refine g_un ?_); (refine l_p txs rfl rfl ?_)))) | ((with_reducible refine g_if ?_); (first | ((with_reducible refine g_fa ?_); refine h_fa flds rfl rfl ?_) | ((with_reducible refine g_ld ?_); (refine h_ld txs H 0 rfl rfl rfl rfl ?_)))))
        have ha := all_c (strOfNums x.2) 121 valB kind_value w_ (by omega)
        rw [blS bx2] at ha
        cases hv : x.2.all valB
        · have hg : goodF x = false := by unfold goodF; rw [hk, hv]; rfl
          rw [hv] at ha
          (with_reducible refine is_l ?_); refine l_callp rfl rfl (by kernel_rfl) ha ?_
          repeat' (first | (with_reducible first | refine p_tn ?_ | refine wp_seq ?_ | refine w_reg ?_) | (with_reducible (refine is_if ?_; (refine w_ift rfl ?_))) | (with_reducible refine l_nil ?_) | ((with_reducible refine g_on ?_); ((with_reducible refine g_pk ?_); refine l_p txs rfl rfl ?_)) | ((with_reducible refine g_if ?_); ((with_reducible refine g_un ?_); (refine l_p txs rfl rfl ?_))))
          (with_reducible refine is_l ?_); refine l_ld txs rfl rfl (H.old c8) ?_
          repeat' (first | (with_reducible first | refine p_tn ?_ | refine p_tr ?_ | refine p_br ?_ | refine wp_ret ?_ | refine l_nil ?_) | ((with_reducible refine g_on ?_); ((with_reducible refine g_as ?_); refine l_p txs rfl rfl ?_)))
          refine end1 rfl rfl ?_
          obtain ⟨_, hbad⟩ := bad hg
          exact ⟨by rw [hbad], H.B⟩
        · have hg : goodF x = true := by unfold goodF; rw [hk, hv]; rfl
          rw [hg, Bool.true_and] at hD
          rw [hv] at ha
          (with_reducible refine is_l ?_); refine l_callp rfl rfl (by kernel_rfl) ha ?_
          repeat' (first | (with_reducible first | refine p_tn ?_ | refine p_bn ?_ | refine w_reg ?_) | (with_reducible (refine is_if ?_; (refine w_iff rfl ?_))) | (with_reducible first | refine wp_skip ?_ | refine l_nil ?_) | ((with_reducible refine g_on ?_); (first | ((with_reducible refine g_mv ?_); refine l_p txs rfl rfl ?_) | ((with_reducible refine g_pk ?_); refine l_p txs rfl rfl ?_) | ((with_reducible refine g_bi ?_); (refine l_a txs rfl rfl (by first | exact in_i64 (by omega) (by omega) | exact in_u8 (by omega) (by omega) | exact in_u64 (by omega) (by omega) | exact in_i32 (by omega) (by omega)) ?_)))) | ((with_reducible refine g_if ?_); ((with_reducible refine g_un ?_); (refine l_p txs rfl rfl ?_))))
          refine ⟨i + 1, _, rfl, ⟨rfl, rfl, rfl, trivial⟩, ⟨H.pick [] [] (by decide) (by decide) rfl rfl, by omega, hD⟩, by omega⟩
    · have hnil : l.drop i = [] := List.drop_eq_nil_of_le (by omega)
      rw [hnil] at hD
      have hn : chkS l = none := by rw [he, hD]; rfl
      repeat' (first | (with_reducible first | refine p_tn ?_ | refine p_tx ?_ | refine x_hit ?_ | refine wp_seq ?_ | refine w_reg ?_) | (with_reducible (refine is_if ?_; (refine w_iff rfl ?_))) | (with_reducible first | refine wp_exit ?_ | refine wp_ret ?_ | refine l_nil ?_) | ((with_reducible refine g_on ?_); ((with_reducible refine g_as ?_); refine l_p txs rfl rfl ?_)))
      refine end1 rfl rfl ?_
      exact ⟨by rw [hn]; rfl, H.B⟩
end Go.Proofs.YthgojbdpmcccaaaGreatDoor.K
end
section
namespace Go.Proofs.YthgojbdpmcccaaaGreatDoor.K
open Go.RowKit Go.Proofs.YthgojbdpmcccaaaGreatDoor.Q Go.Proofs.YthgojbdpmcccaaaGreatDoor.Wb Go.Proofs.YthgojbdpmcccaaaGreatDoorW.PrintWords
set_option linter.unusedVariables false
set_option linter.unusedSimpArgs false
theorem decDigits_S (n : Nat) : Lib.decDigits n = (decS n).map fun x => UInt8.ofNat x.toNat := by
  induction n using Nat.strongRecOn with
  | ind n ih =>
    rw [Lib.decDigits, decS]
    by_cases h : n < 10
    · rw [dif_pos h, if_pos h]
      simp only [List.map_cons, List.map_nil]
      congr 2
    · rw [dif_neg h, if_neg h, ih (n / 10) (by omega), List.map_append]
      simp only [List.map_cons, List.map_nil]
      congr 2
theorem itoa_S (n : Nat) : (⟨(Lib.itoa (n : Int)).toArray⟩ : ByteArray) = strOfNums (decS n) := by
  unfold Lib.itoa strOfNums
  rw [if_neg (by omega), Int.toNat_natCast, decDigits_S]
abbrev TabP (w : World) : Prop := ∀ w', Below w.heap.size w w' → Lib.TabIs Tryz.prog w' "internal/strconv.uint64pow10" .u64 Lib.pow10Tab
theorem TabP.below {w w' : World} (h : TabP w) (hb : Below w.heap.size w w') : TabP w' := fun w2 K => h w2 (Bt hb K)
theorem itoa_c {w : World} (hP : TabP w) (n : Nat) (hn : n ≤ 9223372036854775807) : Calls Tryz.prog 49 #[.int .i64 (n : Int)] w fun e w' => e = .returned (.string (strOfNums (decS n))) ∧ Below w.heap.size w w' := by
  refine (Tryz.strconv_Itoa (n : Int) (by omega) (by omega) w (hP w (Below.refl _ w))).mono fun e w' ⟨he, kk, os, hw⟩ => ?_
  subst hw
  exact ⟨by rw [he, itoa_S], grow_below⟩
def keptS (l : List Fld) : List Fld := (l.filter keptF).map fun f => (f.1, trimS f.2)
theorem kept_take {l : List Fld} {i : Nat} {x : Fld} (h : l[i]? = some x) : keptS (l.take (i + 1)) = keptS (l.take i) ++ if keptF x then [(x.1, trimS x.2)] else [] := by
  have hi : i < l.length := (List.getElem?_eq_some_iff.1 h).1
  have hx : l[i] = x := (List.getElem?_eq_some_iff.1 h).2
  unfold keptS
  rw [List.take_succ_eq_append_getElem hi, hx, List.filter_append, List.map_append]
  by_cases hk : keptF x = true
  · simp [hk]
  · simp [hk]
theorem kept_len (l : List Fld) : (keptS l).length ≤ l.length := by
  unfold keptS
  rw [List.length_map]
  exact List.length_filter_le _ _
theorem fldC_snoc (l : List Fld) (a : L) (b : L) : fldC (l ++ [(a, b)]) = fldC l ++ [.string (strOfNums a), .string (strOfNums b)] := by simp [fldC]
set_option maxHeartbeats 8000000 in
theorem printed_c {w : World} (hP : TabP w) {B : Option Addr} {c : Nat} {l : List Fld} (h : Rd w B (fldC l)) (hb : BytesF l) (hl : l.length ≤ 10000000) (n : Nat) (hn : n ≤ 9223372036854775807) (told : Bool) :
    Calls Tryz.prog 50 #[.slice B l.length c, .int .i64 (n : Int), .bool told] w fun e w' => ∃ A1 c1, e = .returned (.slice A1 (printedS l (if told then some n else none)).length c1) ∧ Hp w w' [] [rowF (.slice A1 (printedS l (if told then some n else none)).length c1) (printedS l (if told then some n else none))] := by
  refine enter (args := [.slice B l.length c, .int .i64 (n : Int), .bool told]) Tryz.func50 rfl Tryz.ntmps50 rfl ?_
  have H := (Hp.nil w).nilRow 95 2
  repeat' (first | (with_reducible first | refine p_tn ?_ | refine wp_seq ?_ | refine wp_block ?_ | refine w_reg ?_ | refine l_nil ?_) | ((with_reducible refine g_on ?_); (first | ((with_reducible refine g_mv ?_); refine l_p txs rfl rfl ?_) | ((with_reducible refine g_as ?_); refine l_p txs rfl rfl ?_) | ((with_reducible refine g_cl ?_); refine l_p txs rfl rfl ?_))))
  refine w_loop (σ := Nat × Option Addr × Nat) (S := fun s => [(1, .int .i64 (n : Int)), (2, .bool told), (7, .slice s.2.1 (keptS (l.take s.1)).length s.2.2), (10, .slice B l.length c), (11, .int .i64 (l.length : Int)), (12, .int .i64 (s.1 : Int))])
    (J := fun s w' => Hp w w' [] [rowF (.slice s.2.1 (keptS (l.take s.1)).length s.2.2) (keptS (l.take s.1))] ∧ s.1 ≤ l.length) (μ := fun s => l.length - s.1) (0, none, 0) ⟨rfl, rfl, rfl, rfl, rfl, rfl, trivial⟩ ⟨H, by omega⟩ ?_
  rintro ⟨i, A2, c2⟩ f w_ ⟨H, hi⟩
  simp only at H hi ⊢
  repeat' (with_reducible first | refine wp_seq ?_ | refine w_reg ?_)
  (with_reducible refine is_l ?_); refine l_t txs rfl rfl (fun hlt => ?_) (fun hge => ?_)
  · obtain ⟨x, hx⟩ : ∃ x, l[i]? = some x := ⟨_, List.getElem?_eq_getElem (by omega)⟩
    obtain ⟨a1, rfl⟩ := rd_some h (i := i) (by omega)
    obtain ⟨bx1, bx2, lx1, lx2⟩ := hb x (List.mem_of_getElem? hx)
    have zx1 := sizeS' bx1
    have zx2 := sizeS' bx2
    have hkt := kept_take hx
    have hkl := kept_len (l.take i)
    rw [List.length_take_of_le (by omega)] at hkl
    repeat' (first | (with_reducible first | refine p_tn ?_ | refine wp_seq ?_ | refine wp_block ?_ | refine w_reg ?_) | (with_reducible (refine is_if ?_; (refine w_ift rfl ?_))) | (with_reducible first | refine wp_skip ?_ | refine l_nil ?_) | ((with_reducible refine g_on ?_); ((with_reducible refine g_ia ?_); refine l_ia txs rfl rfl (by first | omega | assumption | decide) (by first | omega | assumption | decide) ?_)))
    rw [Int.toNat_natCast]
    (with_reducible refine is_l ?_); refine h_ldA recs (fld_part (h.below H.B) hx) rfl rfl rfl rfl ?_
    repeat' (first | (with_reducible first | refine p_tn ?_ | refine wp_seq ?_ | refine w_reg ?_ | refine l_nil ?_) | ((with_reducible refine g_on ?_); (first | ((with_reducible refine g_fa ?_); refine h_fa flds rfl rfl ?_) | ((with_reducible refine g_ld ?_); (refine h_ld txs H 0 rfl rfl rfl rfl ?_)) | ((with_reducible refine g_st ?_); (refine h_stR recs H 0 rfl rfl rfl rfl rfl rfl rfl rfl rfl (fun w_ H => ?_))) | ((with_reducible refine g_al ?_); refine h_alloc recs H rfl rfl (fun g_ w_ H => ?_)))))
    have hlow := lower_c (strOfNums x.1) w_ (by omega)
    rw [blS bx1] at hlow
    (with_reducible refine is_l ?_); refine l_callv rfl rfl (by kernel_rfl) hlow (fun w_ K => ?_)
    have H := H.call K
    repeat' (with_reducible first | refine p_tn ?_ | refine wp_seq ?_ | refine wp_block ?_ | refine w_reg ?_ | refine l_nil ?_)
    have e1 := blS (bytes_low bx1)
    have e2 : bl (⟨#[99, 111, 110, 116, 101, 110, 116, 45, 108, 101, 110, 103, 116, 104]⟩ : ByteArray) = nLen := by kernel_rfl
    have e3 : bl (⟨#[116, 114, 97, 110, 115, 102, 101, 114, 45, 101, 110, 99, 111, 100, 105, 110, 103]⟩ : ByteArray) = nCode := by kernel_rfl
    have skip : keptF x = false → Hp w w_ [] [rowF (.slice A2 (keptS (l.take (i + 1))).length c2) (keptS (l.take (i + 1)))] ∧ Value.slice A2 (keptS (l.take i)).length c2 = Value.slice A2 (keptS (l.take (i + 1))).length c2 := fun hf => by
      rw [hkt, hf]
      simp only [Bool.false_eq_true, if_false, List.append_nil]
      exact ⟨H.pick [] [0] (by decide) (by decide) rfl rfl, trivial⟩
    (with_reducible refine is_l ?_); refine l_t txs rfl rfl (fun h1 => ?_) (fun h1 => ?_)
    · have hf : keptF x = false := by
        unfold keptF
        rw [e1, e2] at h1
        simp [h1]
      obtain ⟨k1, k2⟩ := skip hf
      repeat' (first | (with_reducible first | refine p_tn ?_ | refine p_bn ?_ | refine w_reg ?_) | (with_reducible (refine is_if ?_; (refine w_ift rfl ?_))) | (with_reducible first | refine wp_skip ?_ | refine l_nil ?_) | ((with_reducible refine g_on ?_); (first | ((with_reducible refine g_mv ?_); refine l_p txs rfl rfl ?_) | ((with_reducible refine g_as ?_); refine l_p txs rfl rfl ?_) | ((with_reducible refine g_bi ?_); (refine l_a txs rfl rfl (by first | exact in_i64 (by omega) (by omega) | exact in_u8 (by omega) (by omega) | exact in_u64 (by omega) (by omega) | exact in_i32 (by omega) (by omega)) ?_)))))
      refine ⟨(i + 1, A2, c2), _, rfl, ⟨rfl, rfl, k2, rfl, rfl, rfl, trivial⟩, ⟨k1, by show i + 1 ≤ _; omega⟩, by show _ - (i + 1) < _ - i; omega⟩
    · rw [e1, e2] at h1
      repeat' (first | (with_reducible first | refine p_tn ?_ | refine w_reg ?_) | (with_reducible (refine is_if ?_; (refine w_iff rfl ?_))) | (with_reducible refine l_nil ?_) | ((with_reducible refine g_on ?_); ((with_reducible refine g_as ?_); refine l_p txs rfl rfl ?_)))
      (with_reducible refine is_l ?_); refine l_t txs rfl rfl (fun h2 => ?_) (fun h2 => ?_)
      · have hf : keptF x = false := by
          unfold keptF
          rw [e1, e3] at h2
          simp [h2]
        obtain ⟨k1, k2⟩ := skip hf
        repeat' (first | (with_reducible first | refine p_tn ?_ | refine p_bn ?_ | refine w_reg ?_) | (with_reducible (refine is_if ?_; (refine w_ift rfl ?_))) | (with_reducible first | refine wp_skip ?_ | refine l_nil ?_) | ((with_reducible refine g_on ?_); (first | ((with_reducible refine g_mv ?_); refine l_p txs rfl rfl ?_) | ((with_reducible refine g_as ?_); refine l_p txs rfl rfl ?_) | ((with_reducible refine g_bi ?_); (refine l_a txs rfl rfl (by first | exact in_i64 (by omega) (by omega) | exact in_u8 (by omega) (by omega) | exact in_u64 (by omega) (by omega) | exact in_i32 (by omega) (by omega)) ?_)))))
        refine ⟨(i + 1, A2, c2), _, rfl, ⟨rfl, rfl, k2, rfl, rfl, rfl, trivial⟩, ⟨k1, by show i + 1 ≤ _; omega⟩, by show _ - (i + 1) < _ - i; omega⟩
      · rw [e1, e3] at h2
        have hf : keptF x = true := by
          unfold keptF
          simp [h1, h2]
        rw [hf, if_pos rfl] at hkt
        have htr := fun w1 => trim_c (strOfNums x.2) w1 (by omega)
        rw [blS bx2] at htr
        repeat' (first | (with_reducible refine p_tn ?_) | (with_reducible (refine is_if ?_; (refine w_iff rfl ?_))) | (with_reducible refine l_nil ?_) | ((with_reducible refine g_on ?_); ((with_reducible refine g_as ?_); refine l_p txs rfl rfl ?_)))
        have HS := H.pick [0] [] (by decide) (by decide) rfl rfl
        refine d_start (fun w_ => Hp w w_ _ _) #[false, false, false, false, false, false, false, false, false, false] (by kernel_rfl) rfl rfl HS.drew ?_
        have H := H.drew
        have HS := HS.drew
        first | (refine d_pure (i := 0) #[true, false, false, false, false, false, false, false, false, false] rfl (by kernel_rfl) (fun _ _ _ h => h) rfl (fun w_ => evP_run (o := ⟨_, _, _, _, _, _⟩) txs rfl) ?_)
        first | (refine d_pure (i := 1) #[true, true, false, false, false, false, false, false, false, false] rfl (by kernel_rfl) (fun _ _ _ h => h) rfl (fun w_ => evF_run (o := ⟨_, _, _, _, _, _⟩) flds rfl) ?_) | (refine d_pure (i := 1) #[true, true, false, false, false, false, false, false, false, false] rfl (by kernel_rfl) (fun _ _ _ h => h) rfl (fun w_ => evG_run (o := ⟨_, _, _, _, _, _⟩) flds rfl) ?_)
        first | (refine d_take (i := 2) #[true, true, true, false, false, false, false, false, false, false] rfl (by kernel_rfl) (fun _ _ _ h => h) rfl (fun w_ K => evL_run (o := ⟨_, _, _, _, _, _⟩) txs rfl (K.cellAt 0 rfl rfl)) HS ?_)
        first | (refine d_pure (i := 3) #[true, true, true, true, false, false, false, false, false, false] rfl (by kernel_rfl) (fun _ _ _ h => h) rfl (fun w_ => evF_run (o := ⟨_, _, _, _, _, _⟩) flds rfl) ?_) | (refine d_pure (i := 3) #[true, true, true, true, false, false, false, false, false, false] rfl (by kernel_rfl) (fun _ _ _ h => h) rfl (fun w_ => evG_run (o := ⟨_, _, _, _, _, _⟩) flds rfl) ?_)
        first | (refine d_take (i := 4) #[true, true, true, true, true, false, false, false, false, false] rfl (by kernel_rfl) (fun _ _ _ h => h) rfl (fun w_ K => evL_run (o := ⟨_, _, _, _, _, _⟩) txs rfl (K.cellAt 0 rfl rfl)) HS ?_)
        refine d_one (i := 5) #[true, true, true, true, true, true, false, false, false, false] rfl (by kernel_rfl) rfl ?_
        refine l_callv rfl rfl (by kernel_rfl) (htr _) (fun w_ K => ?_); have H := H.call K
        refine l_nil ?_
        have HS := H.pick [0] [] (by decide) (by decide) rfl rfl
        refine ⟨rfl, HS, ?_⟩
        first | (refine d_pure (i := 6) #[true, true, true, true, true, true, true, false, false, false] rfl (by kernel_rfl) (fun _ _ _ h => h) rfl (fun w_ => evBld_run (o := ⟨_, _, _, _, _, _⟩) rfl (built_f2 _ _)) ?_)
        refine d_one (i := 7) #[true, true, true, true, true, true, true, true, false, false] rfl (by kernel_rfl) rfl ?_
        refine h_bs H info_f Tryz.underlying27 (by decide) (by decide) rfl rfl (fill_f _ _) (fun g_ w_ H => ?_)
        refine l_nil ?_
        have HS := H.pick [1] [] (by decide) (by decide) rfl rfl
        refine ⟨rfl, HS, ?_⟩
        refine d_one (i := 8) #[true, true, true, true, true, true, true, true, true, false] rfl (by kernel_rfl) rfl ?_
        (refine h_app H 0 rfl info_f Tryz.underlying27 rfl rfl rfl rfl (H.cellRd 0 rfl) rfl rfl (by show ((keptS (l.take i)).length + 1) * 32 ≤ _; omega) (fun v w_ hv H => ?_)); obtain ⟨A', c', rfl⟩ := hv
        refine l_nil ?_
        have HS := H.pick [1] [] (by decide) (by decide) rfl rfl
        refine ⟨rfl, HS, ?_⟩
        first | (refine d_pure (i := 9) #[true, true, true, true, true, true, true, true, true, true] rfl (by kernel_rfl) (fun _ _ _ h => h) rfl (fun w_ => evP_run (o := ⟨_, _, _, _, _, _⟩) txs rfl) ?_)
        refine d_done rfl ?_
        repeat' (first | (with_reducible first | refine p_tn ?_ | refine p_bn ?_ | refine w_reg ?_ | refine l_nil ?_) | ((with_reducible refine g_on ?_); (first | ((with_reducible refine g_mv ?_); refine l_p txs rfl rfl ?_) | ((with_reducible refine g_bi ?_); (refine l_a txs rfl rfl (by first | exact in_i64 (by omega) (by omega) | exact in_u8 (by omega) (by omega) | exact in_u64 (by omega) (by omega) | exact in_i32 (by omega) (by omega)) ?_)))))
        have H := H.pick [] [0] (by decide) (by decide) rfl rfl
        have hlen : (keptS (l.take (i + 1))).length = (keptS (l.take i)).length + 1 := by rw [hkt]; simp
        refine ⟨(i + 1, A', c'), _, rfl, ⟨rfl, rfl, ?_, rfl, rfl, rfl, trivial⟩, ⟨?_, by show i + 1 ≤ _; omega⟩, by show _ - (i + 1) < _ - i; omega⟩
        · show Value.slice A' ((keptS (l.take i)).length + 1) c' = Value.slice A' (keptS (l.take (i + 1))).length c'
          rw [hlen]
        · show Hp w _ [] [rowF (.slice A' (keptS (l.take (i + 1))).length c') (keptS (l.take (i + 1)))]
          unfold rowF
          rw [hlen, hkt, fldC_snoc]
          exact H
  · have hall : l.take i = l := List.take_of_length_le (by omega)
    simp only [hall] at H ⊢
    have hkl := kept_len l
    repeat' (first | (with_reducible first | refine p_tn ?_ | refine p_tx ?_ | refine x_hit ?_ | refine wp_seq ?_ | refine w_reg ?_) | (with_reducible (refine is_if ?_; (refine w_iff rfl ?_))) | (with_reducible first | refine wp_exit ?_ | refine l_nil ?_) | ((with_reducible refine g_on ?_); ((with_reducible refine g_mv ?_); refine l_p txs rfl rfl ?_)))
    cases told
    · repeat' (first | (with_reducible first | refine p_tn ?_ | refine wp_seq ?_ | refine w_reg ?_) | (with_reducible (refine is_if ?_; (refine w_iff rfl ?_))) | (with_reducible first | refine wp_skip ?_ | refine wp_ret ?_ | refine l_nil ?_) | ((with_reducible refine g_on ?_); (first | ((with_reducible refine g_mv ?_); refine l_p txs rfl rfl ?_) | ((with_reducible refine g_as ?_); refine l_p txs rfl rfl ?_))))
      refine end1 rfl rfl ?_
      have e : printedS l (if (false : Bool) = true then some n else none) = keptS l := by simp [printedS, keptS]
      rw [e]
      exact ⟨A2, c2, rfl, H⟩
    · repeat' (first | (with_reducible refine w_reg ?_) | (with_reducible (refine is_if ?_; (refine w_ift rfl ?_))) | ((with_reducible refine g_on ?_); ((with_reducible refine g_mv ?_); refine l_p txs rfl rfl ?_)))
      (with_reducible refine is_l ?_); refine l_callv rfl rfl (by kernel_rfl) (itoa_c (hP.below H.B) n hn) (fun w_ K => ?_)
      have H := H.call K
      skip
      (with_reducible refine is_l ?_); refine h_bld rfl rfl (built_f2 _ _) ?_
      skip
      (with_reducible refine is_l ?_); refine h_bs H info_f Tryz.underlying27 (by decide) (by decide) rfl rfl (fill_f _ _) (fun g_ w_ H => ?_)
      (with_reducible refine is_l ?_); refine h_app H 0 rfl info_f Tryz.underlying27 rfl rfl rfl rfl (H.cellRd 0 rfl) rfl rfl (by show ((keptS l).length + 1) * 32 ≤ _; omega) (fun v w_ hv H => ?_)
      obtain ⟨A', c', rfl⟩ := hv
      repeat' (first | (with_reducible first | refine p_tn ?_ | refine wp_seq ?_ | refine w_reg ?_ | refine wp_ret ?_ | refine l_nil ?_) | ((with_reducible refine g_on ?_); (first | ((with_reducible refine g_mv ?_); refine l_p txs rfl rfl ?_) | ((with_reducible refine g_as ?_); refine l_p txs rfl rfl ?_))))
      refine end1 rfl rfl ?_
      have e : printedS l (if (true : Bool) = true then some n else none) = keptS l ++ [(nLenP, decS n)] := by simp [printedS, keptS]
      have hlen : (keptS l ++ [(nLenP, decS n)]).length = (keptS l).length + 1 := by simp
      rw [e]
      unfold rowF
      rw [hlen, fldC_snoc]
      exact ⟨A', c', rfl, H.pick [] [0] (by decide) (by decide) rfl rfl⟩
end Go.Proofs.YthgojbdpmcccaaaGreatDoor.K
end
section
namespace Go.Proofs.YthgojbdpmcccaaaGreatDoor.K
open Go.RowKit Go.Proofs.YthgojbdpmcccaaaGreatDoor.Q Go.Proofs.YthgojbdpmcccaaaGreatDoor.Wb Go.Proofs.YthgojbdpmcccaaaGreatDoorW.PrintWords
set_option linter.unusedVariables false
set_option linter.unusedSimpArgs false
section
variable {P : Program} {n : Nat} {ops : Array Oper} {Q : Exit → Act → World → Prop} {rest : List Oper} {f : Fr} {w w0 : World} {d : Option Nat} {op : Op} {tt : TypeId} {ps : String} {af : Array Edge} {gd : Option (Nat × Bool)} {l l' : List Ent} {r : List RowD}
theorem l_ldp {t te : TypeId} {x : Operand} {a : Addr} {v : Value} (ht : P.underlying t = some (.pointer te)) (hw : want n ops f ⟨d, .load t x, tt, ps, af, gd⟩ = true) (hx : X n f x = .pointer (some a)) (hc : w.cell? a = some v) (h : WL P ops Q rest (act n (put f d v)) w) : WL P ops Q (⟨d, .load t x, tt, ps, af, gd⟩ :: rest) (act n f) w :=
  l_val hw (by unfold execOp; simp [go_sem, hx, Instr.loadAt, loadVar, isAgg, run_underlying ht, hc]) h
theorem l_nc {x : Operand} {a : Addr} (hw : want n ops f ⟨d, .nilCheck x, tt, ps, af, gd⟩ = true) (hx : X n f x = .pointer (some a)) (h : WL P ops Q rest (act n (put f d (.pointer (some a)))) w) : WL P ops Q (⟨d, .nilCheck x, tt, ps, af, gd⟩ :: rest) (act n f) w :=
  l_val hw (by unfold execOp; simp [hx]) h
theorem l_bop {b : BinOp} {t t2 : TypeId} {x y : Operand} {p q : Option Addr} {z : Bool} (hw : want n ops f ⟨d, .binOp b t x y t2, tt, ps, af, gd⟩ = true) (hx : X n f x = .pointer p) (hy : X n f y = .pointer q)
    (hr : (binOp b t (.pointer p) (.pointer q)).run P w = .ok (.bool z) w) (h : WL P ops Q rest (act n (put f d (.bool z))) w) : WL P ops Q (⟨d, .binOp b t x y t2, tt, ps, af, gd⟩ :: rest) (act n f) w := by
  refine l_val hw ?_ h
  have hge : (eqGuard b t x y (.pointer p) (.pointer q)).run P w = .ok () w := by
    unfold eqGuard
    cases b <;> rfl
  unfold execOp
  simp [hx, hy, hge, hr]
theorem h_stp {t te : TypeId} {x y : Operand} (ht : P.underlying t = some (.pointer te)) (ho : (P.info? t).map (·.size) = some 1) (H : Hp w0 w l r) (k : Nat) {g i : Nat} {t2 : TypeId} {cs : List Value} {q : Option Addr} (hw : want n ops f ⟨none, .store t x y, tt, ps, af, gd⟩ = true) (hx : X n f x = .pointer (some ⟨g, i, none⟩)) (hy : X n f y = .pointer q) (hk : l[k]? = some (g, t2, cs)) (hi : i < cs.length)
    (hl : l.set k (g, t2, cs.set i (.pointer q)) = l') (h : ∀ w', Hp w0 w' l' r → WL P ops Q rest (act n f) w') : WL P ops Q (⟨none, .store t x y, tt, ps, af, gd⟩ :: rest) (act n f) w := by
  subst hl
  have hb := H.get k hk
  have hr := run_store_run (P := P) (o := i) t (.pointer q) [.pointer q] hb (by simp [Value.cells]) ho (by simp; omega) (by intro q1 h1; simp at h1; subst h1; rfl)
  have hh := heap_setCells (fr := (0, 0)) [.pointer q] i w cs hb (by simp; omega)
  have e3 : cs.take i ++ [.pointer q] ++ cs.drop (i + [Value.pointer q].length) = cs.set i (.pointer q) := by
    rw [List.set_eq_take_append_cons_drop, if_pos hi]; simp
  rw [e3] at hh
  refine h_skip hw ?_ (h _ (H.upd k hk (grown_setCells [.pointer q] i w) hh))
  unfold execOp
  simp [hx, hy, hr]
theorem l_ext {g : FuncId} {args : List Value} {v : Value} (hw : want n ops f ⟨d, op, tt, ps, af, gd⟩ = true) (he : evC n f op = some (g, args)) (hr : (callFunc g args.toArray).run P w = .ok (.value v) w)
    (h : WL P ops Q rest (act n (put f d v)) w) : WL P ops Q (⟨d, op, tt, ps, af, gd⟩ :: rest) (act n f) w := by
  refine l_val hw ?_ h
  unfold evC at he
  unfold execOp
  split at he
  · rename_i c
    split at he
    · rename_i x hc
      split at he
      · rename_i k first captured hx
        cases hf : first.isEmpty with
        | false => simp [hf] at he
        | true =>
          simp only [hf, cond_true, Option.some.injEq, Prod.mk.injEq] at he
          obtain ⟨rfl, rfl⟩ := he
          have hfe : first = #[] := by simpa using hf
          subst hfe
          have harr : c.args.map (X n f) ++ captured = (c.args.toList.map (X n f) ++ captured.toList).toArray := by
            rw [← Array.toList_inj]; simp
          rw [← harr] at hr
          simp [go_sem, hc, resolve, invoke, hx, Deferred.ofValue, hr]
      · cases he
    · cases he
  · cases he
theorem append_string_block (base : Nat) (t u ty e : TypeId) (i : TypeInfo) (ht : P.underlying t = some (.slice e)) (hu : P.underlying u = some .string) (hi : P.info? e = some i) (hz : i.zero = some (.int .u8 0)) (hsize : i.size = 1) (hby : i.bytes = 1)
    (v : Value) (m : Nat) (xs : List Value) (hown : w.ownsRow base e 1 v m xs) (s : ByteArray) (hbytes : m + s.size ≤ 140737488355328) {v' : Value} {w' : World} (hr : (Builtin.append_ #[t, u] ty #[v, .string s]).run P w = .ok v' w') :
    v'.ownBlock = v.ownBlock ∨ v'.ownBlock = some w.heap.size := by
  have hxl : xs.length = m := by simpa using hown.1
  rcases hown.2 with ⟨rfl, rfl⟩ | ⟨g, cap, cur, rfl, hbg, hg, hnc, hcm, hcs, htake⟩
  · by_cases hm : s.size = 0
    · have hf := Lib.run_firstCells_string (P := P) w 1 s
      rw [hm] at hf
      have h2 : (Builtin.append_ #[t, u] ty #[.slice none 0 0, .string s]).run P w = .ok (.slice none 0 0) w := by
        simp [Builtin.append_, run_underlying ht, run_underlying hu, sizeOf, typeInfo, hi, hsize, Builtin.lenOf, hm, hf]
      have := hr.symm.trans h2
      injection this with e1 _
      subst e1
      exact .inl rfl
    · have h2 := run_append_nil_string (P := P) w t u ty e i (.int .u8 0) ht hu hi hz s (by omega) (by omega) (by rw [hby]; omega)
      have := hr.symm.trans h2
      injection this with e1 _
      subst e1
      exact .inr rfl
  · by_cases hroom : m + s.size ≤ cap
    · have hcs' : cur.size = cap := by simpa using hcs
      have h2 := Lib.run_append_room_string (P := P) w t u ty e i ht hu hi hsize g m cap cur hg s hroom (by omega)
      have := hr.symm.trans h2
      injection this with e1 _
      subst e1
      exact .inl rfl
    · have holds : ∀ j u, xs[j]? = some u → w.cell? ((⟨g, 0, none⟩ : Addr).add j) = some u := hown.cells (g := g) rfl
      have h2 := Lib.run_append_grow_string (P := P) w t u ty e i (.int .u8 0) ht hu hi hz ⟨g, 0, none⟩ m cap xs (by rw [hsize]; simpa using hxl) holds s (by omega) (by omega) (by rw [hby]; exact growslice_fits (by omega) (by omega))
      have := hr.symm.trans h2
      injection this with e1 _
      subst e1
      exact .inr rfl
theorem h_appS (H : Hp w0 w l r) (k : Nat) {t u e : TypeId} {v0 : Value} {xs : L} {s : ByteArray} {x y : Operand} (hinfo : (P.info? e).map (fun i => (i.zero, i.size, i.bytes)) = some (some (.int .u8 0), 1, 1)) (ht : P.underlying t = some (.slice e)) (hu : P.underlying u = some .string)
    (hk : r[k]? = some ⟨v0, e, 1, xs.length, nums .u8 xs⟩) (hx : nf (X n f x) = some v0) (hy : nf (X n f y) = some (.string s)) (hl : xs.length + s.size ≤ 140737488355328)
    (h : ∀ v w', (∃ A' c', v = .slice A' (xs ++ bl s).length c') → Hp w0 w' l (r.set k ⟨v, e, 1, (xs ++ bl s).length, nums .u8 (xs ++ bl s)⟩) → WL P ops Q rest (act n (put f d v)) w') : WL P ops Q (⟨d, .call { callee := .builtin .append, args := #[x, y], argTypes := #[t, u] }, tt, ps, af, none⟩ :: rest) (act n f) w := by
  obtain ⟨i0, hi, hzz⟩ := Option.map_eq_some_iff.1 hinfo
  simp only [Prod.mk.injEq] at hzz
  obtain ⟨hz0, hz1, hz2⟩ := hzz
  have HO := H.row k _ hk
  obtain ⟨v1, w1, hr, hown, hg, _⟩ := Lib.run_append_own_string (P := P) w w0.heap.size t u tt e i0 ht hu hi hz0 hz1 hz2 v0 xs.length (nums .u8 xs) HO s (by simp only [maxLen]; omega) hl H.B.size
  have hat := append_string_block (P := P) w0.heap.size t u tt e i0 ht hu hi hz0 hz1 hz2 v0 xs.length (nums .u8 xs) HO s hl hr
  have hlen : xs.length + s.size = (xs ++ bl s).length := by rw [List.length_append, bl_length]
  have hc : nums .u8 xs ++ Lib.strCells s = nums .u8 (xs ++ bl s) := by
    rw [nums_append]
    congr 1
    simp [nums, bl, Lib.strCells]
  rw [hlen, hc] at hown
  have H1 := H.put (d' := ⟨v1, e, 1, (xs ++ bl s).length, nums .u8 (xs ++ bl s)⟩) k hk hg hown (by
    rcases hat with hat | hat
    · exact .inl hat
    · exact .inr ⟨_, hat, Nat.le_refl _⟩)
  obtain ⟨A', c', hv⟩ := own_slice hown
  have hx' := nf_eq hx
  have hy' := nf_eq hy
  refine ⟨?_⟩
  refine wpList_plain rfl fun K hK => ?_
  unfold Oper.wp execOp
  rw [eval_act]
  simp only [resolve, invoke, builtin, Sem.run_bind, Sem.run_pure, Result.andThen_ok, List.map_toArray, List.map_cons, List.map_nil, ← hx', ← hy', hr]
  refine hK _ _ ?_
  rw [put_act]
  exact (h v1 w1 ⟨A', c', hv⟩ H1).out
theorem end0 {fn : Func} {R : Ending → World → Prop} (hr : fn.results = #[]) (h : R (.returned (.tuple #[])) w) : bodyPost P fn R .normal (act n f) w :=
  ⟨rfl, .tuple #[], by unfold results; simp [hr], h⟩
theorem l_cvp {src dst : TypeId} {x : Operand} {a : Addr} (hw : want n ops f ⟨d, .convert src dst x, tt, ps, af, gd⟩ = true) (hx : X n f x = .pointer (some a)) (hr : (convert src dst (.pointer (some a))).run P w = .ok (.pointer (some a)) w) (h : WL P ops Q rest (act n (put f d (.pointer (some a)))) w) : WL P ops Q (⟨d, .convert src dst x, tt, ps, af, gd⟩ :: rest) (act n f) w :=
  l_val hw (by unfold execOp; simp [hx, hr]) h
end
abbrev bT : TypeId := 168
abbrev entB (b : Nat) (p v : Value) : Ent := (b, bT, [p, v])
abbrev ptrB (b : Nat) : Value := .pointer (some ⟨b, 0, none⟩)
theorem sizeB : (Tryz.prog.info? bT).map (·.size) = some 2 := by kernel_rfl
theorem liesB : liesAt Tryz.prog Tryz.prog.depth bT (2 / Tryz.prog.cellsOf bT) 0 bT 1 = true := by kernel_rfl
theorem onePB : (Tryz.prog.info? 166).map (·.size) = some 1 := by kernel_rfl
set_option maxHeartbeats 4000000 in
theorem copyCheck_c {w0 w : World} {b : Nat} {p v : Value} {xs : L} (H : Hp w0 w [entB b p v] [rowB v xs]) (hp : p = .pointer none ∨ p = ptrB b) :
    Calls Tryz.prog 155 #[ptrB b] w fun e w' => e = .returned (.tuple #[]) ∧ Hp w0 w' [entB b (ptrB b) v] [rowB v xs] := by
  obtain ⟨j, hj, hjs⟩ := Option.map_eq_some_iff.1 sizeB
  refine enter (args := [ptrB b]) Tryz.func155 rfl Tryz.ntmps155 rfl ?_
  have hsh : ∀ (w1 : World) (p1 : Value), Hp w0 w1 [entB b p1 v] [rowB v xs] → w1.shape? b = some (bT, 2) := fun w1 p1 H1 => by
    have := H1.get 0 rfl
    unfold World.shape?
    rw [this]
    rfl
  rcases hp with rfl | rfl
  · repeat' (first | (with_reducible first | refine wp_seq ?_ | refine w_reg ?_) | ((with_reducible refine g_on ?_); ((with_reducible refine g_mv ?_); refine l_p txs rfl rfl ?_)))
    (with_reducible refine is_l ?_); refine l_nc rfl rfl ?_
    repeat' ((with_reducible refine g_on ?_); ((with_reducible refine g_fa ?_); refine h_fa flds rfl rfl ?_))
    (with_reducible refine is_l ?_); refine l_ldp Tryz.underlying166 rfl rfl (H.cellAt 0 rfl rfl) ?_
    skip
    (with_reducible refine is_l ?_); refine l_bop rfl rfl rfl (run_eql_pointer_nil w 166 none (by kernel_rfl)) ?_
    repeat' (first | (with_reducible first | refine p_tn ?_ | refine w_reg ?_) | (with_reducible (refine is_if ?_; (refine w_ift rfl ?_))) | (with_reducible refine l_nil ?_) | ((with_reducible refine g_on ?_); ((with_reducible refine g_mv ?_); refine l_p txs rfl rfl ?_)))
    (with_reducible refine is_l ?_); refine l_cvp rfl rfl (Lib.run_to_unsafe w ⟨b, 0, none⟩ Tryz.underlying166 Tryz.underlying259 hj (by rw [hjs]; decide) (hsh _ _ H) (Nat.zero_lt_succ 1)) ?_
    skip
    (with_reducible refine is_l ?_); refine l_ext (args := [ptrB b]) (v := ptrB b) rfl rfl (by
      rw [run_callFunc_extern Tryz.func183 (by kernel_rfl) (by kernel_rfl) (by kernel_rfl) (e := Extern.AbiNoEscape.same) (by kernel_rfl), Lib.run_noEscape]
      rfl) ?_
    skip
    (with_reducible refine is_l ?_); refine l_cvp rfl rfl (Lib.run_from_unsafe w ⟨b, 0, none⟩ Tryz.underlying259 Tryz.underlying166 hj (hsh _ _ H) liesB) ?_
    skip
    (with_reducible refine is_l ?_); refine l_nc rfl rfl ?_
    repeat' ((with_reducible refine g_on ?_); ((with_reducible refine g_fa ?_); refine h_fa flds rfl rfl ?_))
    (with_reducible refine is_l ?_); refine h_stp Tryz.underlying166 onePB H 0 rfl rfl rfl rfl (Nat.zero_lt_succ 1) rfl (fun w_ H => ?_)
    repeat' (with_reducible refine l_nil ?_)
    refine end0 rfl ?_
    exact ⟨rfl, H⟩
  · repeat' (first | (with_reducible first | refine wp_seq ?_ | refine w_reg ?_) | ((with_reducible refine g_on ?_); ((with_reducible refine g_mv ?_); refine l_p txs rfl rfl ?_)))
    (with_reducible refine is_l ?_); refine l_nc rfl rfl ?_
    repeat' ((with_reducible refine g_on ?_); ((with_reducible refine g_fa ?_); refine h_fa flds rfl rfl ?_))
    (with_reducible refine is_l ?_); refine l_ldp Tryz.underlying166 rfl rfl (H.cellAt 0 rfl rfl) ?_
    skip
    (with_reducible refine is_l ?_); refine l_bop rfl rfl rfl (run_eql_pointer_nil w 166 (some ⟨b, 0, none⟩) (by kernel_rfl)) ?_
    repeat' (first | (with_reducible first | refine p_tn ?_ | refine wp_seq ?_ | refine w_reg ?_) | (with_reducible (refine is_if ?_; (refine w_iff rfl ?_))) | (with_reducible refine l_nil ?_) | ((with_reducible refine g_on ?_); ((with_reducible refine g_mv ?_); refine l_p txs rfl rfl ?_)))
    (with_reducible refine is_l ?_); refine l_nc rfl rfl ?_
    repeat' ((with_reducible refine g_on ?_); ((with_reducible refine g_fa ?_); refine h_fa flds rfl rfl ?_))
    (with_reducible refine is_l ?_); refine l_ldp Tryz.underlying166 rfl rfl (H.cellAt 0 rfl rfl) ?_
    repeat' ((with_reducible refine g_on ?_); ((with_reducible refine g_mv ?_); refine l_p txs rfl rfl ?_))
    (with_reducible refine is_l ?_); refine l_bop rfl rfl rfl (Lib.run_neq_ptr_same w ⟨b, 0, none⟩ Tryz.underlying166 hj) ?_
    repeat' (first | (with_reducible refine p_tn ?_) | (with_reducible (refine is_if ?_; (refine w_iff rfl ?_))) | (with_reducible first | refine wp_skip ?_ | refine l_nil ?_))
    refine end0 rfl ?_
    exact ⟨rfl, H⟩
theorem info_u8x : (Tryz.prog.info? 5).map (fun i => (i.zero, i.size, i.bytes)) = some (some (.int .u8 0), 1, 1) := by kernel_rfl
set_option maxHeartbeats 4000000 in
theorem bWriteS_c {w0 w : World} {b : Nat} {p v : Value} {xs : L} (H : Hp w0 w [entB b p v] [rowB v xs]) (hp : p = .pointer none ∨ p = ptrB b) (s : ByteArray) (hs : xs.length + s.size ≤ 140737488355328) :
    Calls Tryz.prog 105 #[ptrB b, .string s] w fun e w' => ∃ v', e = .returned (.tuple #[.int .i64 (s.size : Int), .nilIface]) ∧ Hp w0 w' [entB b (ptrB b) v'] [rowB v' (xs ++ bl s)] := by
  obtain ⟨A0, c0, he, _⟩ := H.rd 0 rfl
  have he : v = .slice A0 xs.length c0 := he
  subst he
  refine enter (args := [ptrB b, .string s]) Tryz.func105 rfl Tryz.ntmps105 rfl ?_
  repeat' (first | (with_reducible first | refine p_tn ?_ | refine wp_seq ?_ | refine w_reg ?_ | refine l_nil ?_) | ((with_reducible refine g_on ?_); (first | ((with_reducible refine g_mv ?_); refine l_p txs rfl rfl ?_) | ((with_reducible refine g_as ?_); refine l_p txs rfl rfl ?_))))
  (with_reducible refine is_l ?_); refine l_callv rfl rfl (by kernel_rfl) (copyCheck_c H hp) (fun w_ H => ?_)
  repeat' (first | (with_reducible first | refine p_tn ?_ | refine wp_seq ?_ | refine w_reg ?_ | refine l_nil ?_) | ((with_reducible refine g_on ?_); ((with_reducible refine g_mv ?_); refine l_p txs rfl rfl ?_)))
  (with_reducible refine is_l ?_); refine l_nc rfl rfl ?_
  repeat' ((with_reducible refine g_on ?_); (first | ((with_reducible refine g_mv ?_); refine l_p txs rfl rfl ?_) | ((with_reducible refine g_fa ?_); refine h_fa flds rfl rfl ?_) | ((with_reducible refine g_ld ?_); (refine h_ld txs H 0 rfl rfl rfl rfl ?_))))
  (with_reducible refine is_l ?_); refine h_appS H 0 info_u8x Tryz.underlying23 Tryz.underlying9 rfl rfl rfl hs (fun v' w_ hv H => ?_)
  obtain ⟨A', c', rfl⟩ := hv
  skip
  (with_reducible refine is_l ?_); refine l_nc rfl rfl ?_
  repeat' (first | (with_reducible first | refine p_tn ?_ | refine wp_seq ?_ | refine w_reg ?_ | refine wp_ret ?_ | refine l_nil ?_) | ((with_reducible refine g_on ?_); (first | ((with_reducible refine g_mv ?_); refine l_p txs rfl rfl ?_) | ((with_reducible refine g_as ?_); refine l_p txs rfl rfl ?_) | ((with_reducible refine g_fa ?_); refine h_fa flds rfl rfl ?_) | ((with_reducible refine g_st ?_); (refine h_st txs ones H 0 rfl rfl rfl rfl rfl rfl rfl rfl rfl (fun w_ H => ?_))) | ((with_reducible refine g_cl ?_); refine l_p txs rfl rfl ?_))))
  refine end2 rfl rfl rfl ?_
  exact ⟨_, rfl, H⟩
set_option maxHeartbeats 4000000 in
theorem bWrite_c {w0 w : World} {b : Nat} {p v : Value} {xs : L} (H : Hp w0 w [entB b p v] [rowB v xs]) (hp : p = .pointer none ∨ p = ptrB b) {B : Option Addr} {c : Nat} {ys : L} (hr : ∀ w1, Below w0.heap.size w0 w1 → ReadsInt w1 .u8 B ys.length ys) (hs : xs.length + ys.length ≤ 140737488355328) :
    Calls Tryz.prog 106 #[ptrB b, .slice B ys.length c] w fun e w' => ∃ v', e = .returned (.tuple #[.int .i64 (ys.length : Int), .nilIface]) ∧ Hp w0 w' [entB b (ptrB b) v'] [rowB v' (xs ++ ys)] := by
  obtain ⟨A0, c0, he, _⟩ := H.rd 0 rfl
  have he : v = .slice A0 xs.length c0 := he
  subst he
  refine enter (args := [ptrB b, .slice B ys.length c]) Tryz.func106 rfl Tryz.ntmps106 rfl ?_
  repeat' (first | (with_reducible first | refine p_tn ?_ | refine wp_seq ?_ | refine w_reg ?_ | refine l_nil ?_) | ((with_reducible refine g_on ?_); (first | ((with_reducible refine g_mv ?_); refine l_p txs rfl rfl ?_) | ((with_reducible refine g_as ?_); refine l_p txs rfl rfl ?_))))
  (with_reducible refine is_l ?_); refine l_callv rfl rfl (by kernel_rfl) (copyCheck_c H hp) (fun w_ H => ?_)
  repeat' (first | (with_reducible first | refine p_tn ?_ | refine wp_seq ?_ | refine w_reg ?_ | refine l_nil ?_) | ((with_reducible refine g_on ?_); ((with_reducible refine g_mv ?_); refine l_p txs rfl rfl ?_)))
  (with_reducible refine is_l ?_); refine l_nc rfl rfl ?_
  repeat' ((with_reducible refine g_on ?_); (first | ((with_reducible refine g_mv ?_); refine l_p txs rfl rfl ?_) | ((with_reducible refine g_fa ?_); refine h_fa flds rfl rfl ?_) | ((with_reducible refine g_ld ?_); (refine h_ld txs H 0 rfl rfl rfl rfl ?_))))
  (with_reducible refine is_l ?_); refine h_app H 0 rfl info_u8 Tryz.underlying23 rfl rfl rfl rfl (rd_of_reads (hr _ H.B)) (by simp [nums]) (by simp [nums, List.all_map]; intros; rfl) (by show (xs.length + ys.length) * 1 ≤ _; omega) (fun v' w_ hv H => ?_)
  obtain ⟨A', c', rfl⟩ := hv
  have e0 : nums .u8 xs ++ nums .u8 ys = nums .u8 (xs ++ ys) := (nums_append _ _ _).symm
  have hlt : (xs ++ ys).length = xs.length + ys.length := List.length_append
  simp only [e0] at H
  skip
  (with_reducible refine is_l ?_); refine l_nc rfl rfl ?_
  repeat' (first | (with_reducible first | refine p_tn ?_ | refine wp_seq ?_ | refine w_reg ?_ | refine wp_ret ?_ | refine l_nil ?_) | ((with_reducible refine g_on ?_); (first | ((with_reducible refine g_mv ?_); refine l_p txs rfl rfl ?_) | ((with_reducible refine g_as ?_); refine l_p txs rfl rfl ?_) | ((with_reducible refine g_fa ?_); refine h_fa flds rfl rfl ?_) | ((with_reducible refine g_st ?_); (refine h_st txs ones H 0 rfl rfl rfl rfl rfl rfl rfl rfl rfl (fun w_ H => ?_))) | ((with_reducible refine g_cl ?_); refine l_p txs rfl rfl ?_))))
  refine end2 rfl rfl rfl ?_
  unfold rowB
  rw [hlt]
  exact ⟨_, rfl, H⟩
end Go.Proofs.YthgojbdpmcccaaaGreatDoor.K
end
section
namespace Go.Proofs.YthgojbdpmcccaaaGreatDoor.K
open Go.RowKit Go.Proofs.YthgojbdpmcccaaaGreatDoor.Q Go.Proofs.YthgojbdpmcccaaaGreatDoor.Wb Go.Proofs.YthgojbdpmcccaaaGreatDoorW.PrintWords
set_option linter.unusedVariables false
set_option linter.unusedSimpArgs false
theorem bl_cat (s t : ByteArray) : bl (s ++ t) = bl s ++ bl t := by
  unfold bl
  rw [ByteArray.data_append, Array.toList_append, List.map_append]
theorem l_cvb {P : Program} {n : Nat} {ops : Array Oper} {Q : Exit → Act → World → Prop} {rest : List Oper} {f : Fr} {w : World} {d : Option Nat} {tt : TypeId} {ps : String} {af : Array Edge} {gd : Option (Nat × Bool)} {src dst e : TypeId} {x : Operand} {s : ByteArray} {u : TypeDesc}
    (hs : P.underlying src = some u) (hd : P.underlying dst = some (.slice e)) (he : P.underlying e = some (.int .u8)) (hw : want n ops f ⟨d, .convert src dst x, tt, ps, af, gd⟩ = true) (hx : nf (X n f x) = some (.string s))
    (h : WL P ops Q rest (act n (put f d (.slice (some ⟨w.heap.size, 0, none⟩) s.size (grownCap w s.size 0 e)))) (Lib.bytesWorld w e s)) : WL P ops Q (⟨d, .convert src dst x, tt, ps, af, gd⟩ :: rest) (act n f) w := by
  have hx' := nf_eq hx
  have hr := Lib.run_convert_string_bytes (P := P) w src dst e s hs hd he
  refine h_valw hw ?_ h
  unfold execOp
  simp [← hx', hr]
def linesF (l : List Fld) : L := l.flatMap fun f => lineF f ++ [13, 10]
theorem headF_lines' (l : List Fld) : headF l = linesF l ++ [13, 10] := by
  induction l with
  | nil => rfl
  | cons f r ih => simp only [headF, linesF, List.flatMap_cons] at ih ⊢; rw [ih]; simp
theorem lines_take {l : List Fld} {i : Nat} {x : Fld} (h : l[i]? = some x) : linesF (l.take (i + 1)) = linesF (l.take i) ++ (lineF x ++ [13, 10]) := by
  have hi : i < l.length := (List.getElem?_eq_some_iff.1 h).1
  have hx : l[i] = x := (List.getElem?_eq_some_iff.1 h).2
  unfold linesF
  rw [List.take_succ_eq_append_getElem hi, hx, List.flatMap_append]
  simp
theorem lines_len {l : List Fld} (h : headLen l ≤ 16384) (i : Nat) : (linesF (l.take i)).length ≤ 16384 := by
  have h1 : (linesF l).length + 2 = headLen l := by rw [← headF_length, headF_lines']; simp
  have h2 : linesF l = linesF (l.take i) ++ linesF (l.drop i) := by
    unfold linesF
    rw [← List.flatMap_append, List.take_append_drop]
  have h3 := congrArg List.length h2
  rw [List.length_append] at h3
  omega
def WhR (w : World) (x : L) (e : Ending) (w' : World) : Prop := ∃ g cur c, e = .returned (.slice (some ⟨g, 0, none⟩) x.length c) ∧ x.length ≤ c ∧ Below w.heap.size w w' ∧ w.heap.size ≤ g ∧ w'.heap[g]? = some (.cells cur 5 (c, c + 1)) ∧ cur.size = c ∧ c ≤ maxLen ∧ cur.toList.take x.length = nums .u8 x
set_option maxHeartbeats 8000000 in
theorem whole_c {w : World} {B B2 : Option Addr} {c c2 : Nat} {l : List Fld} {body : L} {start : ByteArray} (h : Rd w B (fldC l)) (hb : BytesF l) (hl : headLen l ≤ 16384) (hr : ReadsInt w .u8 B2 body.length body) (hbb : Bytes body) (hbl : body.length ≤ 100000000) (hs : start.size ≤ 100000000) (hll : l.length ≤ 100000) :
    Calls Tryz.prog 53 #[.string start, .slice B l.length c, .slice B2 body.length c2] w (WhR w (wholeS (bl start) l body)) := by
  refine enter (args := [.string start, .slice B l.length c, .slice B2 body.length c2]) Tryz.func53 rfl Tryz.ntmps53 rfl ?_
  have H := (Hp.nil w).nilRow 5 1
  repeat' (first | (with_reducible first | refine p_tn ?_ | refine wp_seq ?_ | refine w_reg ?_ | refine l_nil ?_) | ((with_reducible refine g_on ?_); (first | ((with_reducible refine g_mv ?_); refine l_p txs rfl rfl ?_) | ((with_reducible refine g_as ?_); refine l_p txs rfl rfl ?_) | ((with_reducible refine g_al ?_); refine h_alloc recs H rfl rfl (fun g_ w_ H => ?_)))))
  obtain ⟨gB, rfl⟩ : ∃ z, z = g_ := ⟨_, rfl⟩
  (with_reducible refine is_l ?_); refine l_cat rfl rfl (by show start.size + 2 ≤ _; omega) ?_
  skip
  (with_reducible refine is_l ?_); refine l_call rfl rfl (by kernel_rfl) (bWriteS_c (xs := []) H (.inl rfl) _ (by show 0 + (start ++ _).size ≤ _; rw [ByteArray.size_append]; show 0 + (start.size + 2) ≤ _; omega)) (fun e w_ hR => ?_)
  obtain ⟨v1, rfl, H⟩ := hR
  refine ⟨_, rfl, ?_⟩
  rw [List.nil_append, bl_cat] at H
  repeat' (first | (with_reducible first | refine p_tn ?_ | refine wp_seq ?_ | refine wp_block ?_ | refine w_reg ?_ | refine l_nil ?_) | ((with_reducible refine g_on ?_); (first | ((with_reducible refine g_mv ?_); refine l_p txs rfl rfl ?_) | ((with_reducible refine g_cl ?_); refine l_p txs rfl rfl ?_))))
  have e13 : bl (⟨#[13, 10]⟩ : ByteArray) = [13, 10] := rfl
  rw [e13] at H
  have hsl := bl_length start
  refine w_loop (σ := Nat × Value) (S := fun s => [(2, .slice B2 body.length c2), (7, ptrB gB), (13, .slice B l.length c), (14, .int .i64 (l.length : Int)), (15, .int .i64 (s.1 : Int))])
    (J := fun s w' => Hp w w' [entB gB (ptrB gB) s.2] [rowB s.2 (bl start ++ [13, 10] ++ linesF (l.take s.1))] ∧ s.1 ≤ l.length) (μ := fun s => l.length - s.1) (0, v1) ⟨rfl, rfl, rfl, rfl, rfl, trivial⟩ ⟨by simpa [linesF] using H, by omega⟩ ?_
  rintro ⟨i, v2⟩ f w_ ⟨H, hi⟩
  simp only at H hi ⊢
  have hll2 := lines_len hl i
  repeat' (with_reducible first | refine wp_seq ?_ | refine w_reg ?_)
  (with_reducible refine is_l ?_); refine l_t txs rfl rfl (fun hlt => ?_) (fun hge => ?_)
  · obtain ⟨x, hx⟩ : ∃ x, l[i]? = some x := ⟨_, List.getElem?_eq_getElem (by omega)⟩
    obtain ⟨a1, rfl⟩ := rd_some h (i := i) (by omega)
    obtain ⟨bx1, bx2, lx1, lx2⟩ := hb x (List.mem_of_getElem? hx)
    have zx1 := sizeS' bx1
    have zx2 := sizeS' bx2
    have hlt' := lines_take hx
    repeat' (first | (with_reducible first | refine p_tn ?_ | refine wp_seq ?_ | refine wp_block ?_ | refine w_reg ?_) | (with_reducible (refine is_if ?_; (refine w_ift rfl ?_))) | (with_reducible first | refine wp_skip ?_ | refine l_nil ?_) | ((with_reducible refine g_on ?_); ((with_reducible refine g_ia ?_); refine l_ia txs rfl rfl (by first | omega | assumption | decide) (by first | omega | assumption | decide) ?_)))
    rw [Int.toNat_natCast]
    (with_reducible refine is_l ?_); refine h_ldA recs (fld_part (h.below H.B) hx) rfl rfl rfl rfl ?_
    repeat' (first | (with_reducible first | refine p_tn ?_ | refine w_reg ?_ | refine l_nil ?_) | ((with_reducible refine g_on ?_); (first | ((with_reducible refine g_fa ?_); refine h_fa flds rfl rfl ?_) | ((with_reducible refine g_ld ?_); (refine h_ld txs H 0 rfl rfl rfl rfl ?_)) | ((with_reducible refine g_st ?_); (refine h_stR recs H 0 rfl rfl rfl rfl rfl rfl rfl rfl rfl (fun w_ H => ?_))) | ((with_reducible refine g_al ?_); refine h_alloc recs H rfl rfl (fun g_ w_ H => ?_)))))
    have e2 : (⟨#[58, 32]⟩ : ByteArray).size = 2 := rfl
    have e3 : (⟨#[13, 10]⟩ : ByteArray).size = 2 := rfl
    (with_reducible refine is_l ?_); refine l_cat rfl rfl (by rw [e2]; omega) ?_
    repeat' ((with_reducible refine g_on ?_); (first | ((with_reducible refine g_fa ?_); refine h_fa flds rfl rfl ?_) | ((with_reducible refine g_ld ?_); (refine h_ld txs H 0 rfl rfl rfl rfl ?_))))
    (with_reducible refine is_l ?_); refine l_cat rfl rfl (by rw [ByteArray.size_append, e2]; omega) ?_
    skip
    (with_reducible refine is_l ?_); refine l_cat rfl rfl (by rw [ByteArray.size_append, ByteArray.size_append, e2, e3]; omega) ?_
    skip
    have HP := H.pick [1] [0] (by decide) (by decide) rfl rfl
    have hpre : (bl start ++ [13, 10] ++ linesF (l.take i)).length = start.size + 2 + (linesF (l.take i)).length := by simp [hsl]; omega
    (with_reducible refine is_l ?_); refine l_call rfl rfl (by kernel_rfl) (bWriteS_c HP (.inr rfl) _ (by rw [hpre, ByteArray.size_append, ByteArray.size_append, ByteArray.size_append, e2, e3]; omega)) (fun e w_ hR => ?_)
    obtain ⟨v3, rfl, H⟩ := hR
    refine ⟨_, rfl, ?_⟩
    rw [bl_cat, bl_cat, bl_cat, blS bx1, blS bx2] at H
    repeat' (first | (with_reducible first | refine p_tn ?_ | refine p_bn ?_ | refine w_reg ?_ | refine l_nil ?_) | ((with_reducible refine g_on ?_); (first | ((with_reducible refine g_mv ?_); refine l_p txs rfl rfl ?_) | ((with_reducible refine g_bi ?_); (refine l_a txs rfl rfl (by first | exact in_i64 (by omega) (by omega) | exact in_u8 (by omega) (by omega) | exact in_u64 (by omega) (by omega) | exact in_i32 (by omega) (by omega)) ?_)))))
    refine ⟨(i + 1, v3), _, rfl, ⟨rfl, rfl, rfl, rfl, rfl, trivial⟩, ⟨?_, by show i + 1 ≤ _; omega⟩, by show _ - (i + 1) < _ - i; omega⟩
    show Hp w _ [entB gB (ptrB gB) v3] [rowB v3 (bl start ++ [13, 10] ++ linesF (l.take (i + 1)))]
    rw [hlt', ← List.append_assoc]
    exact H
  · have hall : l.take i = l := List.take_of_length_le (by omega)
    rw [hall] at H hll2
    have hpre : (bl start ++ [13, 10] ++ linesF l).length = start.size + 2 + (linesF l).length := by simp [hsl]; omega
    have e3 : (⟨#[13, 10]⟩ : ByteArray).size = 2 := rfl
    repeat' (first | (with_reducible first | refine p_tn ?_ | refine p_tx ?_ | refine x_hit ?_ | refine wp_seq ?_ | refine w_reg ?_) | (with_reducible (refine is_if ?_; (refine w_iff rfl ?_))) | (with_reducible first | refine wp_exit ?_ | refine l_nil ?_))
    (with_reducible refine is_l ?_); refine l_call rfl rfl (by kernel_rfl) (bWriteS_c H (.inr rfl) _ (by rw [hpre, e3]; omega)) (fun e w_ hR => ?_)
    obtain ⟨v3, rfl, H⟩ := hR
    refine ⟨_, rfl, ?_⟩
    have e13 : bl (⟨#[13, 10]⟩ : ByteArray) = [13, 10] := rfl
    rw [e13] at H
    repeat' (first | (with_reducible first | refine p_tn ?_ | refine wp_seq ?_ | refine w_reg ?_ | refine l_nil ?_) | ((with_reducible refine g_on ?_); ((with_reducible refine g_mv ?_); refine l_p txs rfl rfl ?_)))
    (with_reducible refine is_l ?_); refine l_call rfl rfl (by kernel_rfl) (bWrite_c H (.inr rfl) (fun w1 K => hr.below K) (by rw [List.length_append, hpre]; show _ + 2 + _ ≤ _; omega)) (fun e w_ hR => ?_)
    obtain ⟨v4, rfl, H⟩ := hR
    refine ⟨_, rfl, ?_⟩
    have hw : bl start ++ [13, 10] ++ linesF l ++ [13, 10] ++ body = wholeS (bl start) l body := by
      unfold wholeS
      rw [headF_lines']
      simp only [List.append_assoc]
    rw [hw] at H
    have hX : Bytes (wholeS (bl start) l body) := by
      unfold wholeS
      rw [headF_lines']
      intro y hy
      simp only [List.mem_append] at hy
      rcases hy with ((hy | hy) | hy | hy) | hy
      · exact bl_bytes _ y hy
      · simp only [List.mem_cons, List.not_mem_nil, or_false] at hy; omega
      · unfold linesF at hy
        obtain ⟨f1, hf1, hy⟩ := List.mem_flatMap.1 hy
        obtain ⟨k1, k2, _, _⟩ := hb f1 hf1
        unfold lineF at hy
        simp only [List.mem_append] at hy
        rcases hy with ((hy | hy) | hy) | hy
        · exact k1 y hy
        · simp only [List.mem_cons, List.not_mem_nil, or_false] at hy; omega
        · exact k2 y hy
        · simp only [List.mem_cons, List.not_mem_nil, or_false] at hy; omega
      · simp only [List.mem_cons, List.not_mem_nil, or_false] at hy; omega
      · exact hbb y hy
    have hlenX : (wholeS (bl start) l body).length ≤ 200100000 := by rw [← hw, List.length_append, List.length_append, hpre]; show _ + 2 + _ ≤ _; omega
    generalize wholeS (bl start) l body = Y at H hX hlenX ⊢
    obtain ⟨sX, rfl⟩ : ∃ sX, Y = bl sX := ⟨strOfNums Y, (blS hX).symm⟩
    have hsX := bl_length sX
    have hcells : nums .u8 (bl sX) = Lib.byteCells sX.data.toList := by simp [nums, bl, Lib.byteCells]
    have hlenC : (bl sX).length = (Lib.byteCells sX.data.toList).length := by simp [bl, Lib.byteCells]
    have hIs : Lib.IsBuilder bT 5 w.heap.size gB (Lib.byteCells sX.data.toList) w_ := by
      have h1 := H.row 0 _ rfl
      have h2 := H.blk 0 _ rfl
      have h3 := H.ndm 0 0 _ _ rfl rfl
      simp only [hcells, hlenC] at h1
      exact .inr ⟨h2.1, v4, h2.2, h1, h3⟩
    repeat' (with_reducible first | refine p_tn ?_ | refine wp_seq ?_ | refine w_reg ?_ | refine l_nil ?_)
    (with_reducible refine is_l ?_); refine l_callv rfl rfl (by kernel_rfl) (Tryz.Builder_String_any w.heap.size gB sX.data.toList w_ hIs H.B.size) (fun w_ K => ?_)
    have es : (⟨sX.data.toList.toArray⟩ : ByteArray) = sX := by cases sX; simp
    rw [es]
    (with_reducible refine is_l ?_); refine l_cvb Tryz.underlying9 Tryz.underlying23 Tryz.underlying5 rfl rfl ?_
    repeat' (first | (with_reducible first | refine p_tn ?_ | refine wp_ret ?_ | refine l_nil ?_) | ((with_reducible refine g_on ?_); ((with_reducible refine g_as ?_); refine l_p txs rfl rfl ?_)))
    refine end1 rfl rfl ?_
    have hge := grownCap_ge w_ sX.size 0 5
    have hcs : (Lib.bytesCells w_ 5 sX).size = grownCap w_ sX.size 0 5 := by
      unfold Lib.bytesCells
      simp only [Array.size_append, Array.size_map, Array.size_replicate]
      show sX.size + _ = _
      omega
    refine ⟨w_.heap.size, Lib.bytesCells w_ 5 sX, grownCap w_ sX.size 0 5, by rw [hsX], by omega, bytes_below (H.B.trans K) (H.B.trans K).size _ _, (H.B.trans K).size, ?_, hcs, grownCap_le_maxLen _ _ _ _ (by simp only [maxLen]; omega), ?_⟩
    · have := Lib.bytesWorld_at_new w_ 5 sX
      rw [hcs] at this
      exact this
    · unfold Lib.bytesCells
      rw [hcells, Array.toList_append, hlenC]
      have : (Lib.byteCells sX.data.toList).length = (sX.data.map fun b => Value.int .u8 (b.toNat : Int)).toList.length := by simp [Lib.byteCells]
      rw [this, List.take_left]
      simp [Lib.byteCells]
end Go.Proofs.YthgojbdpmcccaaaGreatDoor.K
end
section
namespace Go.Proofs.YthgojbdpmcccaaaGreatDoor.K
open Go.RowKit Go.Proofs.YthgojbdpmcccaaaGreatDoor.Q Go.Proofs.YthgojbdpmcccaaaGreatDoor.Wb Go.Proofs.YthgojbdpmcccaaaGreatDoorW.PrintWords
set_option linter.unusedVariables false
set_option linter.unusedSimpArgs false
def ErrAt (A : Nat → Addr) (v : Value) (k : Nat) : Prop := if k = 0 then v = .nilIface else ErrOf A v k
theorem errAt_nil (A : Nat → Addr) : ErrAt A .nilIface 0 := rfl
theorem errAt_of {A : Nat → Addr} {v : Value} {k : Nat} (h0 : k ≠ 0) (h : ErrOf A v k) : ErrAt A v k := by unfold ErrAt; rw [if_neg h0]; exact h
set_option maxRecDepth 100000 in
set_option maxHeartbeats 8000000 in
theorem checkRequest_c {A : Nat → Addr} {w : World} (hE : LayS A w) {mx : Int} (hM : w.cell? ⟨20, 0, none⟩ = some (.int .i64 mx)) {tM : TypeId} {frM : Nat × Nat} (hT : w.heap[17]? = some (.cells meC tM frM))
    (r : ReqS) {F B1 : Option Addr} {f1 b1 : Nat} (hm : Bytes r.method) (ht : Bytes r.target) (hml : r.method.length ≤ 100000000) (htl : r.target.length ≤ 100000000) (start : ByteArray) (hsl : start.size ≤ 1000000000)
    {B : Option Addr} {c : Nat} {l : List Fld} (hR : Rd w B (fldC l)) (hb : BytesF l) (hl : l.length ≤ 10000000) :
    Calls Tryz.prog 51 #[.agg (reqA r F f1 B1 b1), .string start, .slice B l.length c] w fun e w' => ∃ v, e = .returned v ∧ ErrAt A v (checkReqS r.method r.target r.minor (bl start) l r.body) ∧ Below w.heap.size w w' := by
  have hTb : ∀ w1, Below w.heap.size w w1 → w1.heap[17]? = some (.cells meC tM frM) := fun w1 K => (K.block _ (blk_lt hT)).trans hT
  have c2 := (hE.sent 2 (by decide) (by decide)).cell
  have c4 := (hE.sent 4 (by decide) (by decide)).cell
  have c6 := (hE.sent 6 (by decide) (by decide)).cell
  have c7 := (hE.sent 7 (by decide) (by decide)).cell
  have c10 := (hE.sent 10 (by decide) (by decide)).cell
  have c12 := (hE.sent 12 (by decide) (by decide)).cell
  have hbs := bl_length start
  have zm := sizeS' hm
  have zt := sizeS' ht
  refine enter (args := [.agg (reqA r F f1 B1 b1), .string start, .slice B l.length c]) Tryz.func51 rfl Tryz.ntmps51 rfl ?_
  have H := Hp.nil w
  generalize hk : checkReqS r.method r.target r.minor (bl start) l r.body = k
  unfold checkReqS at hk
  repeat' (first | (with_reducible first | refine p_tn ?_ | refine wp_seq ?_ | refine wp_block ?_ | refine w_reg ?_ | refine l_nil ?_) | ((with_reducible refine g_on ?_); (first | ((with_reducible refine g_mv ?_); refine l_p txs rfl rfl ?_) | ((with_reducible refine g_as ?_); refine l_p txs rfl rfl ?_) | ((with_reducible refine g_bx ?_); refine h_box H rfl rfl rfl (fun g_ w_ H => ?_)) | ((with_reducible refine g_cl ?_); refine l_p txs rfl rfl ?_))))
  (with_reducible refine is_l ?_); refine l_t txs rfl rfl (fun h1 => ?_) (fun h1 => ?_)
  · rw [if_pos (by omega)] at hk
    repeat' (first | (with_reducible first | refine p_tn ?_ | refine wp_seq ?_ | refine w_reg ?_) | (with_reducible (refine is_if ?_; (refine w_ift rfl ?_))) | (with_reducible refine l_nil ?_) | ((with_reducible refine g_on ?_); ((with_reducible refine g_as ?_); refine l_p txs rfl rfl ?_)))
    (with_reducible refine is_l ?_); refine l_ld txs rfl rfl (H.old c2) ?_
    repeat' (first | (with_reducible first | refine p_tn ?_ | refine p_tr ?_ | refine p_br ?_ | refine wp_ret ?_ | refine l_nil ?_) | ((with_reducible refine g_on ?_); ((with_reducible refine g_as ?_); refine l_p txs rfl rfl ?_)))
    refine end1 rfl rfl ?_
    subst hk
    exact ⟨_, rfl, errAt_of (by decide) ⟨2, by decide, by decide, rfl, .inl rfl⟩, H.B⟩
  rw [if_neg (by omega)] at hk
  repeat' (first | (with_reducible first | refine p_tn ?_ | refine wp_seq ?_ | refine w_reg ?_) | (with_reducible (refine is_if ?_; (refine w_iff rfl ?_))) | (with_reducible refine l_nil ?_) | ((with_reducible refine g_on ?_); (first | ((with_reducible refine g_mv ?_); refine l_p txs rfl rfl ?_) | ((with_reducible refine g_as ?_); refine l_p txs rfl rfl ?_))))
  have hlo := long_c (c := c) (hR.below H.B) hb hl
  by_cases h2 : 16384 < headLen l
  · rw [if_pos h2] at hk
    rw [decide_eq_true h2] at hlo
    (with_reducible refine is_l ?_); refine l_callv rfl rfl (by kernel_rfl) hlo (fun w_ K => ?_)
    have H := H.call K
    repeat' (first | (with_reducible first | refine p_tn ?_ | refine wp_seq ?_ | refine w_reg ?_) | (with_reducible (refine is_if ?_; (refine w_ift rfl ?_))) | (with_reducible refine l_nil ?_) | ((with_reducible refine g_on ?_); ((with_reducible refine g_as ?_); refine l_p txs rfl rfl ?_)))
    (with_reducible refine is_l ?_); refine l_ld txs rfl rfl (H.old c4) ?_
    repeat' (first | (with_reducible first | refine p_tn ?_ | refine p_tr ?_ | refine p_br ?_ | refine wp_ret ?_ | refine l_nil ?_) | ((with_reducible refine g_on ?_); ((with_reducible refine g_as ?_); refine l_p txs rfl rfl ?_)))
    refine end1 rfl rfl ?_
    subst hk
    exact ⟨_, rfl, errAt_of (by decide) ⟨4, by decide, by decide, rfl, .inl rfl⟩, H.B⟩
  rw [if_neg h2] at hk
  rw [decide_eq_false h2] at hlo
  (with_reducible refine is_l ?_); refine l_callv rfl rfl (by kernel_rfl) hlo (fun w_ K => ?_)
  have H := H.call K
  repeat' (first | (with_reducible first | refine p_tn ?_ | refine wp_seq ?_ | refine w_reg ?_) | (with_reducible (refine is_if ?_; (refine w_iff rfl ?_))) | (with_reducible refine l_nil ?_) | ((with_reducible refine g_on ?_); (first | ((with_reducible refine g_as ?_); refine l_p txs rfl rfl ?_) | ((with_reducible refine g_fa ?_); refine h_fa flds rfl rfl ?_) | ((with_reducible refine g_ld ?_); (refine h_ld txs H 0 rfl rfl rfl rfl ?_)))))
  have hto := token_c (strOfNums r.method) w_ (by omega)
  rw [blS hm] at hto
  cases h3 : tokS r.method
  · rw [if_pos (.inl h3)] at hk
    rw [h3] at hto
    (with_reducible refine is_l ?_); refine l_callp rfl rfl (by kernel_rfl) hto ?_
    repeat' (first | (with_reducible first | refine p_tn ?_ | refine wp_seq ?_ | refine w_reg ?_) | (with_reducible (refine is_if ?_; (refine w_ift rfl ?_))) | (with_reducible refine l_nil ?_) | ((with_reducible refine g_on ?_); (first | ((with_reducible refine g_mv ?_); refine l_p txs rfl rfl ?_) | ((with_reducible refine g_as ?_); refine l_p txs rfl rfl ?_) | ((with_reducible refine g_pk ?_); refine l_p txs rfl rfl ?_) | ((with_reducible refine g_un ?_); (refine l_p txs rfl rfl ?_)))) | ((with_reducible refine g_if ?_); (refine l_off rfl ?_)))
    (with_reducible refine is_l ?_); refine l_ld txs rfl rfl (H.old c6) ?_
    repeat' (first | (with_reducible first | refine p_tn ?_ | refine p_tr ?_ | refine p_br ?_ | refine wp_ret ?_ | refine l_nil ?_) | ((with_reducible refine g_on ?_); ((with_reducible refine g_as ?_); refine l_p txs rfl rfl ?_)))
    refine end1 rfl rfl ?_
    subst hk
    exact ⟨_, rfl, errAt_of (by decide) ⟨6, by decide, by decide, rfl, .inl rfl⟩, H.B⟩
  rw [h3] at hto
  (with_reducible refine is_l ?_); refine l_callp rfl rfl (by kernel_rfl) hto ?_
  repeat' (first | ((with_reducible refine g_on ?_); (first | ((with_reducible refine g_mv ?_); refine l_p txs rfl rfl ?_) | ((with_reducible refine g_un ?_); (refine l_p txs rfl rfl ?_)))) | ((with_reducible refine g_if ?_); (first | ((with_reducible refine g_fa ?_); refine h_fa flds rfl rfl ?_) | ((with_reducible refine g_ld ?_); (refine h_ld txs H 0 rfl rfl rfl rfl ?_)))))
  (with_reducible refine is_l ?_); refine l_t txs rfl rfl (fun h4 => ?_) (fun h4 => ?_)
  · have h4' : r.target = [] := by rw [blS ht] at h4; exact h4
    rw [if_pos (.inr (.inl h4'))] at hk
    repeat' (first | (with_reducible first | refine p_tn ?_ | refine wp_seq ?_ | refine w_reg ?_) | (with_reducible (refine is_if ?_; (refine w_ift rfl ?_))) | (with_reducible refine l_nil ?_) | ((with_reducible refine g_on ?_); (first | ((with_reducible refine g_mv ?_); refine l_p txs rfl rfl ?_) | ((with_reducible refine g_as ?_); refine l_p txs rfl rfl ?_) | ((with_reducible refine g_pk ?_); refine l_p txs rfl rfl ?_))) | ((with_reducible refine g_if ?_); (refine l_off rfl ?_)))
    (with_reducible refine is_l ?_); refine l_ld txs rfl rfl (H.old c6) ?_
    repeat' (first | (with_reducible first | refine p_tn ?_ | refine p_tr ?_ | refine p_br ?_ | refine wp_ret ?_ | refine l_nil ?_) | ((with_reducible refine g_on ?_); ((with_reducible refine g_as ?_); refine l_p txs rfl rfl ?_)))
    refine end1 rfl rfl ?_
    subst hk
    exact ⟨_, rfl, errAt_of (by decide) ⟨6, by decide, by decide, rfl, .inl rfl⟩, H.B⟩
  have h4' : r.target ≠ [] := fun e => h4 (by rw [blS ht, e]; rfl)
  repeat' (first | ((with_reducible refine g_on ?_); (first | ((with_reducible refine g_mv ?_); refine l_p txs rfl rfl ?_) | ((with_reducible refine g_pk ?_); refine l_p txs rfl rfl ?_))) | ((with_reducible refine g_if ?_); (first | ((with_reducible refine g_fa ?_); refine h_fa flds rfl rfl ?_) | ((with_reducible refine g_ld ?_); (refine h_ld txs H 0 rfl rfl rfl rfl ?_)))))
  have hvi := all_c (strOfNums r.target) 100 visB kind_visible w_ (by omega)
  rw [blS ht] at hvi
  cases h5 : r.target.all visB
  · rw [if_pos (.inr (.inr h5))] at hk
    rw [h5] at hvi
    (with_reducible refine is_l ?_); refine l_callp rfl rfl (by kernel_rfl) hvi ?_
    repeat' (first | (with_reducible first | refine p_tn ?_ | refine wp_seq ?_ | refine w_reg ?_) | (with_reducible (refine is_if ?_; (refine w_ift rfl ?_))) | (with_reducible refine l_nil ?_) | ((with_reducible refine g_on ?_); (first | ((with_reducible refine g_as ?_); refine l_p txs rfl rfl ?_) | ((with_reducible refine g_pk ?_); refine l_p txs rfl rfl ?_))) | ((with_reducible refine g_if ?_); ((with_reducible refine g_un ?_); (refine l_p txs rfl rfl ?_))))
    (with_reducible refine is_l ?_); refine l_ld txs rfl rfl (H.old c6) ?_
    repeat' (first | (with_reducible first | refine p_tn ?_ | refine p_tr ?_ | refine p_br ?_ | refine wp_ret ?_ | refine l_nil ?_) | ((with_reducible refine g_on ?_); ((with_reducible refine g_as ?_); refine l_p txs rfl rfl ?_)))
    refine end1 rfl rfl ?_
    subst hk
    exact ⟨_, rfl, errAt_of (by decide) ⟨6, by decide, by decide, rfl, .inl rfl⟩, H.B⟩
  rw [h5] at hvi
  rw [if_neg (by rw [h3, h5]; simp [h4'])] at hk
  (with_reducible refine is_l ?_); refine l_callp rfl rfl (by kernel_rfl) hvi ?_
  repeat' (first | (with_reducible first | refine p_tn ?_ | refine wp_seq ?_ | refine w_reg ?_) | (with_reducible (refine is_if ?_; (refine w_iff rfl ?_))) | (with_reducible refine l_nil ?_) | ((with_reducible refine g_on ?_); (first | ((with_reducible refine g_as ?_); refine l_p txs rfl rfl ?_) | ((with_reducible refine g_pk ?_); refine l_p txs rfl rfl ?_) | ((with_reducible refine g_fa ?_); refine h_fa flds rfl rfl ?_) | ((with_reducible refine g_ld ?_); (refine h_ld txs H 0 rfl rfl rfl rfl ?_)))) | ((with_reducible refine g_if ?_); ((with_reducible refine g_un ?_); (refine l_p txs rfl rfl ?_))))
  have hme := isMethod_c (hTb _ H.B) (strOfNums r.method)
  rw [blS hm] at hme
  cases h6 : methodsS.contains r.method
  · rw [if_pos h6] at hk
    rw [h6] at hme
    (with_reducible refine is_l ?_); refine l_callp rfl rfl (by kernel_rfl) hme ?_
    repeat' (first | (with_reducible first | refine p_tn ?_ | refine wp_seq ?_ | refine w_reg ?_) | (with_reducible (refine is_if ?_; (refine w_ift rfl ?_))) | (with_reducible refine l_nil ?_) | ((with_reducible refine g_on ?_); (first | ((with_reducible refine g_as ?_); refine l_p txs rfl rfl ?_) | ((with_reducible refine g_un ?_); (refine l_p txs rfl rfl ?_)))))
    (with_reducible refine is_l ?_); refine l_ld txs rfl rfl (H.old c12) ?_
    repeat' (first | (with_reducible first | refine p_tn ?_ | refine p_tr ?_ | refine p_br ?_ | refine wp_ret ?_ | refine l_nil ?_) | ((with_reducible refine g_on ?_); ((with_reducible refine g_as ?_); refine l_p txs rfl rfl ?_)))
    refine end1 rfl rfl ?_
    subst hk
    exact ⟨_, rfl, errAt_of (by decide) ⟨12, by decide, by decide, rfl, .inl rfl⟩, H.B⟩
  rw [h6] at hme
  rw [if_neg (by rw [h6]; simp)] at hk
  (with_reducible refine is_l ?_); refine l_callp rfl rfl (by kernel_rfl) hme ?_
  repeat' (first | (with_reducible first | refine p_tn ?_ | refine wp_seq ?_ | refine w_reg ?_) | (with_reducible (refine is_if ?_; (refine w_iff rfl ?_))) | (with_reducible refine l_nil ?_) | ((with_reducible refine g_on ?_); (first | ((with_reducible refine g_as ?_); refine l_p txs rfl rfl ?_) | ((with_reducible refine g_fa ?_); refine h_fa flds rfl rfl ?_) | ((with_reducible refine g_ld ?_); (refine h_ld txs H 0 rfl rfl rfl rfl ?_)) | ((with_reducible refine g_un ?_); (refine l_p txs rfl rfl ?_)))))
  (with_reducible refine is_l ?_); refine l_t txs rfl rfl (fun h7 => ?_) (fun h7 => ?_)
  · repeat' (first | ((with_reducible refine g_on ?_); ((with_reducible refine g_mv ?_); refine l_p txs rfl rfl ?_)) | ((with_reducible refine g_if ?_); (first | ((with_reducible refine g_fa ?_); refine h_fa flds rfl rfl ?_) | ((with_reducible refine g_ld ?_); (refine h_ld txs H 0 rfl rfl rfl rfl ?_)))))
    (with_reducible refine is_l ?_); refine l_t txs rfl rfl (fun h8 => ?_) (fun h8 => ?_)
    · rw [if_pos ⟨by omega, by omega⟩] at hk
      repeat' (first | (with_reducible first | refine p_tn ?_ | refine wp_seq ?_ | refine w_reg ?_) | (with_reducible (refine is_if ?_; (refine w_ift rfl ?_))) | (with_reducible refine l_nil ?_) | ((with_reducible refine g_on ?_); (first | ((with_reducible refine g_as ?_); refine l_p txs rfl rfl ?_) | ((with_reducible refine g_pk ?_); refine l_p txs rfl rfl ?_))))
      (with_reducible refine is_l ?_); refine l_ld txs rfl rfl (H.old c7) ?_
      repeat' (first | (with_reducible first | refine p_tn ?_ | refine p_tr ?_ | refine p_br ?_ | refine wp_ret ?_ | refine l_nil ?_) | ((with_reducible refine g_on ?_); ((with_reducible refine g_as ?_); refine l_p txs rfl rfl ?_)))
      refine end1 rfl rfl ?_
      subst hk
      exact ⟨_, rfl, errAt_of (by decide) ⟨7, by decide, by decide, rfl, .inl rfl⟩, H.B⟩
    · rw [if_neg (by omega)] at hk
      repeat' (first | (with_reducible first | refine p_tn ?_ | refine p_bn ?_ | refine wp_seq ?_ | refine w_reg ?_) | (with_reducible (refine is_if ?_; (refine w_iff rfl ?_))) | (with_reducible first | refine wp_skip ?_ | refine l_nil ?_) | ((with_reducible refine g_on ?_); (first | ((with_reducible refine g_mv ?_); refine l_p txs rfl rfl ?_) | ((with_reducible refine g_as ?_); refine l_p txs rfl rfl ?_) | ((with_reducible refine g_pk ?_); refine l_p txs rfl rfl ?_))))
      have hcf := checkFields_c (c := c) (hE.below H.B) (hR.below H.B) hb
      by_cases h9 : 64 < l.length
      · have hck : chkS l = some 4 := by unfold chkS; rw [if_pos h9]
        rw [if_pos h9] at hk
        rw [hck] at hcf
        (with_reducible refine is_l ?_); refine l_callv rfl rfl (by kernel_rfl) hcf (fun w_ K => ?_)
        have H := H.call K
        repeat' (first | (with_reducible first | refine p_tn ?_ | refine wp_seq ?_ | refine w_reg ?_ | refine l_nil ?_) | ((with_reducible refine g_on ?_); (first | ((with_reducible refine g_mv ?_); refine l_p txs rfl rfl ?_) | ((with_reducible refine g_as ?_); refine l_p txs rfl rfl ?_))))
        (with_reducible refine is_l ?_); refine l_t txs rfl rfl (fun _ => ?_) (fun hh => absurd trivial hh)
        repeat' (first | (with_reducible first | refine p_tn ?_ | refine wp_seq ?_ | refine w_reg ?_) | (with_reducible (refine is_if ?_; (refine w_ift rfl ?_))) | (with_reducible refine l_nil ?_) | ((with_reducible refine g_on ?_); ((with_reducible refine g_mv ?_); refine l_p txs rfl rfl ?_)))
        (with_reducible refine is_l ?_); refine l_callp rfl rfl (by kernel_rfl) (in_c tFields _ _ _) ?_
        repeat' (first | (with_reducible first | refine p_tn ?_ | refine p_tr ?_ | refine wp_ret ?_ | refine l_nil ?_) | ((with_reducible refine g_on ?_); ((with_reducible refine g_as ?_); refine l_p txs rfl rfl ?_)))
        refine end1 rfl rfl ?_
        subst hk
        exact ⟨_, rfl, errAt_of (by decide) ⟨4, by decide, by decide, rfl, .inr ⟨by decide, tFields, rfl⟩⟩, H.B⟩
      rw [if_neg h9] at hk
      cases h10 : l.all goodF
      · have hck : chkS l = some 8 := by unfold chkS; rw [if_neg h9, h10]; rfl
        rw [if_pos h10] at hk
        rw [hck] at hcf
        (with_reducible refine is_l ?_); refine l_callv rfl rfl (by kernel_rfl) hcf (fun w_ K => ?_)
        have H := H.call K
        repeat' (first | (with_reducible first | refine p_tn ?_ | refine wp_seq ?_ | refine w_reg ?_ | refine l_nil ?_) | ((with_reducible refine g_on ?_); (first | ((with_reducible refine g_mv ?_); refine l_p txs rfl rfl ?_) | ((with_reducible refine g_as ?_); refine l_p txs rfl rfl ?_))))
        (with_reducible refine is_l ?_); refine l_t txs rfl rfl (fun _ => ?_) (fun hh => absurd trivial hh)
        repeat' (first | (with_reducible first | refine p_tn ?_ | refine wp_seq ?_ | refine w_reg ?_) | (with_reducible (refine is_if ?_; (refine w_ift rfl ?_))) | (with_reducible refine l_nil ?_) | ((with_reducible refine g_on ?_); ((with_reducible refine g_mv ?_); refine l_p txs rfl rfl ?_)))
        (with_reducible refine is_l ?_); refine l_callp rfl rfl (by kernel_rfl) (in_c tFields _ _ _) ?_
        repeat' (first | (with_reducible first | refine p_tn ?_ | refine p_tr ?_ | refine wp_ret ?_ | refine l_nil ?_) | ((with_reducible refine g_on ?_); ((with_reducible refine g_as ?_); refine l_p txs rfl rfl ?_)))
        refine end1 rfl rfl ?_
        subst hk
        exact ⟨_, rfl, errAt_of (by decide) ⟨8, by decide, by decide, rfl, .inr ⟨by decide, tFields, rfl⟩⟩, H.B⟩
      have hck : chkS l = none := by unfold chkS; rw [if_neg h9, h10]; rfl
      rw [if_neg (by rw [h10]; simp)] at hk
      rw [hck] at hcf
      (with_reducible refine is_l ?_); refine l_callv rfl rfl (by kernel_rfl) hcf (fun w_ K => ?_)
      have H := H.call K
      repeat' (first | (with_reducible first | refine p_tn ?_ | refine wp_seq ?_ | refine w_reg ?_ | refine l_nil ?_) | ((with_reducible refine g_on ?_); (first | ((with_reducible refine g_mv ?_); refine l_p txs rfl rfl ?_) | ((with_reducible refine g_as ?_); refine l_p txs rfl rfl ?_))))
      (with_reducible refine is_l ?_); refine l_t txs rfl rfl (fun hh => absurd hh (by simp)) (fun _ => ?_)
      repeat' (first | (with_reducible first | refine p_tn ?_ | refine wp_seq ?_) | (with_reducible (refine is_if ?_; (refine w_iff rfl ?_))) | (with_reducible first | refine wp_skip ?_ | refine l_nil ?_))
      have hho := fun (w1 : World) (K : Below w.heap.size w w1) => checkHost_c (hE.below K) (frmS l) (frm_host l hb) r.minor
      rw [host_bad hb] at hho
      cases h11 : hostOk l r.minor
      · rw [if_pos h11] at hk
        rw [h11] at hho
        have HS := H.pick [0] [] (by decide) (by decide) rfl rfl
        refine d_start (fun w_ => Hp w w_ _ _) #[false, false, false, false, false, false] (by kernel_rfl) rfl rfl HS.drew ?_
        have H := H.drew
        have HS := HS.drew
        first | (refine d_pure (i := 0) #[true, false, false, false, false, false] rfl (by kernel_rfl) (fun _ _ _ h => h) rfl (fun w_ => evP_run (o := ⟨_, _, _, _, _, _⟩) txs rfl) ?_)
        first | (refine d_pure (i := 2) #[true, false, true, false, false, false] rfl (by kernel_rfl) (fun _ _ _ h => h) rfl (fun w_ => evF_run (o := ⟨_, _, _, _, _, _⟩) flds rfl) ?_) | (refine d_pure (i := 2) #[true, false, true, false, false, false] rfl (by kernel_rfl) (fun _ _ _ h => h) rfl (fun w_ => evG_run (o := ⟨_, _, _, _, _, _⟩) flds rfl) ?_)
        first | (refine d_take (i := 3) #[true, false, true, true, false, false] rfl (by kernel_rfl) (fun _ _ _ h => h) rfl (fun w_ K => evL_run (o := ⟨_, _, _, _, _, _⟩) txs rfl (K.cellAt 0 rfl rfl)) HS ?_)
        refine d_one (i := 1) #[true, true, true, true, false, false] rfl (by kernel_rfl) rfl ?_
        refine l_callv rfl rfl (by kernel_rfl) (framingOf_c (c := c) (H.old hM) (hR.below H.B) hb (by omega)) (fun w_ K => ?_); have H := H.call K
        refine l_nil ?_
        have HS := H.pick [0] [] (by decide) (by decide) rfl rfl
        refine ⟨rfl, HS, ?_⟩
        refine d_one (i := 4) #[true, true, true, true, true, false] rfl (by kernel_rfl) rfl ?_
        refine l_callv rfl rfl (by kernel_rfl) (hho _ H.B) (fun w_ K => ?_); have H := H.call K
        refine l_nil ?_
        have HS := H.pick [0] [] (by decide) (by decide) rfl rfl
        refine ⟨rfl, HS, ?_⟩
        first | (refine d_pure (i := 5) #[true, true, true, true, true, true] rfl (by kernel_rfl) (fun _ _ _ h => h) rfl (fun w_ => evP_run (o := ⟨_, _, _, _, _, _⟩) txs rfl) ?_)
        refine d_done rfl ?_
        repeat' (first | (with_reducible first | refine p_tn ?_ | refine wp_seq ?_ | refine w_reg ?_) | ((with_reducible refine g_on ?_); ((with_reducible refine g_mv ?_); refine l_p txs rfl rfl ?_)))
        (with_reducible refine is_l ?_); refine l_t txs rfl rfl (fun _ => ?_) (fun hh => absurd trivial hh)
        repeat' (first | (with_reducible first | refine p_tn ?_ | refine p_tr ?_ | refine wp_seq ?_ | refine w_reg ?_) | (with_reducible (refine is_if ?_; (refine w_ift rfl ?_))) | (with_reducible first | refine wp_ret ?_ | refine l_nil ?_) | ((with_reducible refine g_on ?_); (first | ((with_reducible refine g_mv ?_); refine l_p txs rfl rfl ?_) | ((with_reducible refine g_as ?_); refine l_p txs rfl rfl ?_))))
        refine end1 rfl rfl ?_
        subst hk
        exact ⟨_, rfl, errAt_of (by decide) ⟨9, by decide, by decide, rfl, .inl rfl⟩, H.B⟩
      rw [if_neg (by rw [h11]; simp)] at hk
      rw [h11] at hho
      have HS := H.pick [0] [] (by decide) (by decide) rfl rfl
      refine d_start (fun w_ => Hp w w_ _ _) #[false, false, false, false, false, false] (by kernel_rfl) rfl rfl HS.drew ?_
      have H := H.drew
      have HS := HS.drew
      first | (refine d_pure (i := 0) #[true, false, false, false, false, false] rfl (by kernel_rfl) (fun _ _ _ h => h) rfl (fun w_ => evP_run (o := ⟨_, _, _, _, _, _⟩) txs rfl) ?_)
      first | (refine d_pure (i := 2) #[true, false, true, false, false, false] rfl (by kernel_rfl) (fun _ _ _ h => h) rfl (fun w_ => evF_run (o := ⟨_, _, _, _, _, _⟩) flds rfl) ?_) | (refine d_pure (i := 2) #[true, false, true, false, false, false] rfl (by kernel_rfl) (fun _ _ _ h => h) rfl (fun w_ => evG_run (o := ⟨_, _, _, _, _, _⟩) flds rfl) ?_)
      first | (refine d_take (i := 3) #[true, false, true, true, false, false] rfl (by kernel_rfl) (fun _ _ _ h => h) rfl (fun w_ K => evL_run (o := ⟨_, _, _, _, _, _⟩) txs rfl (K.cellAt 0 rfl rfl)) HS ?_)
      refine d_one (i := 1) #[true, true, true, true, false, false] rfl (by kernel_rfl) rfl ?_
      refine l_callv rfl rfl (by kernel_rfl) (framingOf_c (c := c) (H.old hM) (hR.below H.B) hb (by omega)) (fun w_ K => ?_); have H := H.call K
      refine l_nil ?_
      have HS := H.pick [0] [] (by decide) (by decide) rfl rfl
      refine ⟨rfl, HS, ?_⟩
      refine d_one (i := 4) #[true, true, true, true, true, false] rfl (by kernel_rfl) rfl ?_
      refine l_callv rfl rfl (by kernel_rfl) (hho _ H.B) (fun w_ K => ?_); have H := H.call K
      refine l_nil ?_
      have HS := H.pick [0] [] (by decide) (by decide) rfl rfl
      refine ⟨rfl, HS, ?_⟩
      first | (refine d_pure (i := 5) #[true, true, true, true, true, true] rfl (by kernel_rfl) (fun _ _ _ h => h) rfl (fun w_ => evP_run (o := ⟨_, _, _, _, _, _⟩) txs rfl) ?_)
      refine d_done rfl ?_
      repeat' (first | (with_reducible first | refine p_tn ?_ | refine wp_seq ?_ | refine w_reg ?_) | ((with_reducible refine g_on ?_); ((with_reducible refine g_mv ?_); refine l_p txs rfl rfl ?_)))
      (with_reducible refine is_l ?_); refine l_t txs rfl rfl (fun hh => absurd hh (by simp)) (fun _ => ?_)
      repeat' (first | (with_reducible first | refine p_tn ?_ | refine wp_seq ?_ | refine w_reg ?_) | (with_reducible (refine is_if ?_; (refine w_iff rfl ?_))) | (with_reducible first | refine wp_skip ?_ | refine l_nil ?_) | ((with_reducible refine g_on ?_); (first | ((with_reducible refine g_fa ?_); refine h_fa flds rfl rfl ?_) | ((with_reducible refine g_ld ?_); (refine h_ld txs H 0 rfl rfl rfl rfl ?_)) | ((with_reducible refine g_cl ?_); refine l_p txs rfl rfl ?_))))
      (with_reducible refine is_l ?_); refine l_t txs rfl rfl (fun h12 => ?_) (fun h12 => ?_)
      · rw [if_pos (by omega)] at hk
        repeat' (first | (with_reducible first | refine p_tn ?_ | refine wp_seq ?_ | refine w_reg ?_) | (with_reducible (refine is_if ?_; (refine w_ift rfl ?_))) | (with_reducible refine l_nil ?_))
        (with_reducible refine is_l ?_); refine l_ld txs rfl rfl (H.old c10) ?_
        repeat' (first | (with_reducible first | refine p_tn ?_ | refine p_tr ?_ | refine wp_ret ?_ | refine l_nil ?_) | ((with_reducible refine g_on ?_); ((with_reducible refine g_as ?_); refine l_p txs rfl rfl ?_)))
        refine end1 rfl rfl ?_
        subst hk
        exact ⟨_, rfl, errAt_of (by decide) ⟨10, by decide, by decide, rfl, .inl rfl⟩, H.B⟩
      rw [if_neg (by omega)] at hk
      repeat' (first | (with_reducible first | refine p_tn ?_ | refine wp_seq ?_ | refine w_reg ?_) | (with_reducible (refine is_if ?_; (refine w_iff rfl ?_))) | (with_reducible first | refine wp_skip ?_ | refine wp_ret ?_ | refine l_nil ?_) | ((with_reducible refine g_on ?_); ((with_reducible refine g_as ?_); refine l_p txs rfl rfl ?_)))
      refine end1 rfl rfl ?_
      subst hk
      exact ⟨_, rfl, errAt_nil A, H.B⟩
  · rw [if_neg (by omega)] at hk
    repeat' (first | (with_reducible first | refine p_tn ?_ | refine p_bn ?_ | refine wp_seq ?_ | refine w_reg ?_) | (with_reducible (refine is_if ?_; (refine w_iff rfl ?_))) | (with_reducible first | refine wp_skip ?_ | refine l_nil ?_) | ((with_reducible refine g_on ?_); (first | ((with_reducible refine g_mv ?_); refine l_p txs rfl rfl ?_) | ((with_reducible refine g_as ?_); refine l_p txs rfl rfl ?_) | ((with_reducible refine g_pk ?_); refine l_p txs rfl rfl ?_))) | ((with_reducible refine g_if ?_); (refine l_off rfl ?_)))
    have hcf := checkFields_c (c := c) (hE.below H.B) (hR.below H.B) hb
    by_cases h9 : 64 < l.length
    · have hck : chkS l = some 4 := by unfold chkS; rw [if_pos h9]
      rw [if_pos h9] at hk
      rw [hck] at hcf
      (with_reducible refine is_l ?_); refine l_callv rfl rfl (by kernel_rfl) hcf (fun w_ K => ?_)
      have H := H.call K
      repeat' (first | (with_reducible first | refine p_tn ?_ | refine wp_seq ?_ | refine w_reg ?_ | refine l_nil ?_) | ((with_reducible refine g_on ?_); (first | ((with_reducible refine g_mv ?_); refine l_p txs rfl rfl ?_) | ((with_reducible refine g_as ?_); refine l_p txs rfl rfl ?_))))
      (with_reducible refine is_l ?_); refine l_t txs rfl rfl (fun _ => ?_) (fun hh => absurd trivial hh)
      repeat' (first | (with_reducible first | refine p_tn ?_ | refine wp_seq ?_ | refine w_reg ?_) | (with_reducible (refine is_if ?_; (refine w_ift rfl ?_))) | (with_reducible refine l_nil ?_) | ((with_reducible refine g_on ?_); ((with_reducible refine g_mv ?_); refine l_p txs rfl rfl ?_)))
      (with_reducible refine is_l ?_); refine l_callp rfl rfl (by kernel_rfl) (in_c tFields _ _ _) ?_
      repeat' (first | (with_reducible first | refine p_tn ?_ | refine p_tr ?_ | refine wp_ret ?_ | refine l_nil ?_) | ((with_reducible refine g_on ?_); ((with_reducible refine g_as ?_); refine l_p txs rfl rfl ?_)))
      refine end1 rfl rfl ?_
      subst hk
      exact ⟨_, rfl, errAt_of (by decide) ⟨4, by decide, by decide, rfl, .inr ⟨by decide, tFields, rfl⟩⟩, H.B⟩
    rw [if_neg h9] at hk
    cases h10 : l.all goodF
    · have hck : chkS l = some 8 := by unfold chkS; rw [if_neg h9, h10]; rfl
      rw [if_pos h10] at hk
      rw [hck] at hcf
      (with_reducible refine is_l ?_); refine l_callv rfl rfl (by kernel_rfl) hcf (fun w_ K => ?_)
      have H := H.call K
      repeat' (first | (with_reducible first | refine p_tn ?_ | refine wp_seq ?_ | refine w_reg ?_ | refine l_nil ?_) | ((with_reducible refine g_on ?_); (first | ((with_reducible refine g_mv ?_); refine l_p txs rfl rfl ?_) | ((with_reducible refine g_as ?_); refine l_p txs rfl rfl ?_))))
      (with_reducible refine is_l ?_); refine l_t txs rfl rfl (fun _ => ?_) (fun hh => absurd trivial hh)
      repeat' (first | (with_reducible first | refine p_tn ?_ | refine wp_seq ?_ | refine w_reg ?_) | (with_reducible (refine is_if ?_; (refine w_ift rfl ?_))) | (with_reducible refine l_nil ?_) | ((with_reducible refine g_on ?_); ((with_reducible refine g_mv ?_); refine l_p txs rfl rfl ?_)))
      (with_reducible refine is_l ?_); refine l_callp rfl rfl (by kernel_rfl) (in_c tFields _ _ _) ?_
      repeat' (first | (with_reducible first | refine p_tn ?_ | refine p_tr ?_ | refine wp_ret ?_ | refine l_nil ?_) | ((with_reducible refine g_on ?_); ((with_reducible refine g_as ?_); refine l_p txs rfl rfl ?_)))
      refine end1 rfl rfl ?_
      subst hk
      exact ⟨_, rfl, errAt_of (by decide) ⟨8, by decide, by decide, rfl, .inr ⟨by decide, tFields, rfl⟩⟩, H.B⟩
    have hck : chkS l = none := by unfold chkS; rw [if_neg h9, h10]; rfl
    rw [if_neg (by rw [h10]; simp)] at hk
    rw [hck] at hcf
    (with_reducible refine is_l ?_); refine l_callv rfl rfl (by kernel_rfl) hcf (fun w_ K => ?_)
    have H := H.call K
    repeat' (first | (with_reducible first | refine p_tn ?_ | refine wp_seq ?_ | refine w_reg ?_ | refine l_nil ?_) | ((with_reducible refine g_on ?_); (first | ((with_reducible refine g_mv ?_); refine l_p txs rfl rfl ?_) | ((with_reducible refine g_as ?_); refine l_p txs rfl rfl ?_))))
    (with_reducible refine is_l ?_); refine l_t txs rfl rfl (fun hh => absurd hh (by simp)) (fun _ => ?_)
    repeat' (first | (with_reducible first | refine p_tn ?_ | refine wp_seq ?_) | (with_reducible (refine is_if ?_; (refine w_iff rfl ?_))) | (with_reducible first | refine wp_skip ?_ | refine l_nil ?_))
    have hho := fun (w1 : World) (K : Below w.heap.size w w1) => checkHost_c (hE.below K) (frmS l) (frm_host l hb) r.minor
    rw [host_bad hb] at hho
    cases h11 : hostOk l r.minor
    · rw [if_pos h11] at hk
      rw [h11] at hho
      have HS := H.pick [0] [] (by decide) (by decide) rfl rfl
      refine d_start (fun w_ => Hp w w_ _ _) #[false, false, false, false, false, false] (by kernel_rfl) rfl rfl HS.drew ?_
      have H := H.drew
      have HS := HS.drew
      first | (refine d_pure (i := 0) #[true, false, false, false, false, false] rfl (by kernel_rfl) (fun _ _ _ h => h) rfl (fun w_ => evP_run (o := ⟨_, _, _, _, _, _⟩) txs rfl) ?_)
      first | (refine d_pure (i := 2) #[true, false, true, false, false, false] rfl (by kernel_rfl) (fun _ _ _ h => h) rfl (fun w_ => evF_run (o := ⟨_, _, _, _, _, _⟩) flds rfl) ?_) | (refine d_pure (i := 2) #[true, false, true, false, false, false] rfl (by kernel_rfl) (fun _ _ _ h => h) rfl (fun w_ => evG_run (o := ⟨_, _, _, _, _, _⟩) flds rfl) ?_)
      first | (refine d_take (i := 3) #[true, false, true, true, false, false] rfl (by kernel_rfl) (fun _ _ _ h => h) rfl (fun w_ K => evL_run (o := ⟨_, _, _, _, _, _⟩) txs rfl (K.cellAt 0 rfl rfl)) HS ?_)
      refine d_one (i := 1) #[true, true, true, true, false, false] rfl (by kernel_rfl) rfl ?_
      refine l_callv rfl rfl (by kernel_rfl) (framingOf_c (c := c) (H.old hM) (hR.below H.B) hb (by omega)) (fun w_ K => ?_); have H := H.call K
      refine l_nil ?_
      have HS := H.pick [0] [] (by decide) (by decide) rfl rfl
      refine ⟨rfl, HS, ?_⟩
      refine d_one (i := 4) #[true, true, true, true, true, false] rfl (by kernel_rfl) rfl ?_
      refine l_callv rfl rfl (by kernel_rfl) (hho _ H.B) (fun w_ K => ?_); have H := H.call K
      refine l_nil ?_
      have HS := H.pick [0] [] (by decide) (by decide) rfl rfl
      refine ⟨rfl, HS, ?_⟩
      first | (refine d_pure (i := 5) #[true, true, true, true, true, true] rfl (by kernel_rfl) (fun _ _ _ h => h) rfl (fun w_ => evP_run (o := ⟨_, _, _, _, _, _⟩) txs rfl) ?_)
      refine d_done rfl ?_
      repeat' (first | (with_reducible first | refine p_tn ?_ | refine wp_seq ?_ | refine w_reg ?_) | ((with_reducible refine g_on ?_); ((with_reducible refine g_mv ?_); refine l_p txs rfl rfl ?_)))
      (with_reducible refine is_l ?_); refine l_t txs rfl rfl (fun _ => ?_) (fun hh => absurd trivial hh)
      repeat' (first | (with_reducible first | refine p_tn ?_ | refine p_tr ?_ | refine wp_seq ?_ | refine w_reg ?_) | (with_reducible (refine is_if ?_; (refine w_ift rfl ?_))) | (with_reducible first | refine wp_ret ?_ | refine l_nil ?_) | ((with_reducible refine g_on ?_); (first | ((with_reducible refine g_mv ?_); refine l_p txs rfl rfl ?_) | ((with_reducible refine g_as ?_); refine l_p txs rfl rfl ?_))))
      refine end1 rfl rfl ?_
      subst hk
      exact ⟨_, rfl, errAt_of (by decide) ⟨9, by decide, by decide, rfl, .inl rfl⟩, H.B⟩
    rw [if_neg (by rw [h11]; simp)] at hk
    rw [h11] at hho
    have HS := H.pick [0] [] (by decide) (by decide) rfl rfl
    refine d_start (fun w_ => Hp w w_ _ _) #[false, false, false, false, false, false] (by kernel_rfl) rfl rfl HS.drew ?_
    have H := H.drew
    have HS := HS.drew
    first | (refine d_pure (i := 0) #[true, false, false, false, false, false] rfl (by kernel_rfl) (fun _ _ _ h => h) rfl (fun w_ => evP_run (o := ⟨_, _, _, _, _, _⟩) txs rfl) ?_)
    first | (refine d_pure (i := 2) #[true, false, true, false, false, false] rfl (by kernel_rfl) (fun _ _ _ h => h) rfl (fun w_ => evF_run (o := ⟨_, _, _, _, _, _⟩) flds rfl) ?_) | (refine d_pure (i := 2) #[true, false, true, false, false, false] rfl (by kernel_rfl) (fun _ _ _ h => h) rfl (fun w_ => evG_run (o := ⟨_, _, _, _, _, _⟩) flds rfl) ?_)
    first | (refine d_take (i := 3) #[true, false, true, true, false, false] rfl (by kernel_rfl) (fun _ _ _ h => h) rfl (fun w_ K => evL_run (o := ⟨_, _, _, _, _, _⟩) txs rfl (K.cellAt 0 rfl rfl)) HS ?_)
    refine d_one (i := 1) #[true, true, true, true, false, false] rfl (by kernel_rfl) rfl ?_
    refine l_callv rfl rfl (by kernel_rfl) (framingOf_c (c := c) (H.old hM) (hR.below H.B) hb (by omega)) (fun w_ K => ?_); have H := H.call K
    refine l_nil ?_
    have HS := H.pick [0] [] (by decide) (by decide) rfl rfl
    refine ⟨rfl, HS, ?_⟩
    refine d_one (i := 4) #[true, true, true, true, true, false] rfl (by kernel_rfl) rfl ?_
    refine l_callv rfl rfl (by kernel_rfl) (hho _ H.B) (fun w_ K => ?_); have H := H.call K
    refine l_nil ?_
    have HS := H.pick [0] [] (by decide) (by decide) rfl rfl
    refine ⟨rfl, HS, ?_⟩
    first | (refine d_pure (i := 5) #[true, true, true, true, true, true] rfl (by kernel_rfl) (fun _ _ _ h => h) rfl (fun w_ => evP_run (o := ⟨_, _, _, _, _, _⟩) txs rfl) ?_)
    refine d_done rfl ?_
    repeat' (first | (with_reducible first | refine p_tn ?_ | refine wp_seq ?_ | refine w_reg ?_) | ((with_reducible refine g_on ?_); ((with_reducible refine g_mv ?_); refine l_p txs rfl rfl ?_)))
    (with_reducible refine is_l ?_); refine l_t txs rfl rfl (fun hh => absurd hh (by simp)) (fun _ => ?_)
    repeat' (first | (with_reducible first | refine p_tn ?_ | refine wp_seq ?_ | refine w_reg ?_) | (with_reducible (refine is_if ?_; (refine w_iff rfl ?_))) | (with_reducible first | refine wp_skip ?_ | refine l_nil ?_) | ((with_reducible refine g_on ?_); (first | ((with_reducible refine g_fa ?_); refine h_fa flds rfl rfl ?_) | ((with_reducible refine g_ld ?_); (refine h_ld txs H 0 rfl rfl rfl rfl ?_)) | ((with_reducible refine g_cl ?_); refine l_p txs rfl rfl ?_))))
    (with_reducible refine is_l ?_); refine l_t txs rfl rfl (fun h12 => ?_) (fun h12 => ?_)
    · rw [if_pos (by omega)] at hk
      repeat' (first | (with_reducible first | refine p_tn ?_ | refine wp_seq ?_ | refine w_reg ?_) | (with_reducible (refine is_if ?_; (refine w_ift rfl ?_))) | (with_reducible refine l_nil ?_))
      (with_reducible refine is_l ?_); refine l_ld txs rfl rfl (H.old c10) ?_
      repeat' (first | (with_reducible first | refine p_tn ?_ | refine p_tr ?_ | refine wp_ret ?_ | refine l_nil ?_) | ((with_reducible refine g_on ?_); ((with_reducible refine g_as ?_); refine l_p txs rfl rfl ?_)))
      refine end1 rfl rfl ?_
      subst hk
      exact ⟨_, rfl, errAt_of (by decide) ⟨10, by decide, by decide, rfl, .inl rfl⟩, H.B⟩
    rw [if_neg (by omega)] at hk
    repeat' (first | (with_reducible first | refine p_tn ?_ | refine wp_seq ?_ | refine w_reg ?_) | (with_reducible (refine is_if ?_; (refine w_iff rfl ?_))) | (with_reducible first | refine wp_skip ?_ | refine wp_ret ?_ | refine l_nil ?_) | ((with_reducible refine g_on ?_); ((with_reducible refine g_as ?_); refine l_p txs rfl rfl ?_)))
    refine end1 rfl rfl ?_
    subst hk
    exact ⟨_, rfl, errAt_nil A, H.B⟩
end Go.Proofs.YthgojbdpmcccaaaGreatDoor.K
end
section
namespace Go.Proofs.YthgojbdpmcccaaaGreatDoor.K
open Go.RowKit Go.Proofs.YthgojbdpmcccaaaGreatDoor.Q Go.Proofs.YthgojbdpmcccaaaGreatDoor.Wb Go.Proofs.YthgojbdpmcccaaaGreatDoorW.PrintWords
set_option linter.unusedVariables false
set_option linter.unusedSimpArgs false
theorem itoa_I (n : Int) : (⟨(Lib.itoa n).toArray⟩ : ByteArray) = strOfNums (decI n) := by
  unfold Lib.itoa decI strOfNums
  by_cases h : n < 0
  · rw [if_pos h, if_neg (by omega), decDigits_S, show n.natAbs = (-n).toNat by omega]
    rfl
  · rw [if_neg h, if_pos (by omega), decDigits_S]
theorem decS_le (n : Nat) : (decS n).length ≤ n + 1 := by
  induction n using Nat.strongRecOn with
  | ind n ih =>
    rw [decS]
    by_cases h : n < 10
    · rw [if_pos h]; simp
    · rw [if_neg h, List.length_append]
      have := ih (n / 10) (by omega)
      simp only [List.length_cons, List.length_nil]
      omega
theorem decS_bytes (n : Nat) : Bytes (decS n) := by
  induction n using Nat.strongRecOn with
  | ind n ih =>
    rw [decS]
    by_cases h : n < 10
    · rw [if_pos h]; intro x hx; simp at hx; omega
    · rw [if_neg h]
      intro x hx
      rcases List.mem_append.1 hx with hx | hx
      · exact ih (n / 10) (by omega) x hx
      · simp at hx; omega
theorem decI_bytes (n : Int) : Bytes (decI n) := by
  unfold decI
  split
  · exact decS_bytes _
  · intro x hx
    rcases List.mem_cons.1 hx with hx | hx
    · omega
    · exact decS_bytes _ x hx
theorem itoaI_c {w : World} (hP : TabP w) (n : Int) (h0 : -9223372036854775808 ≤ n) (h1 : n ≤ 9223372036854775807) : Calls Tryz.prog 49 #[.int .i64 n] w fun e w' => e = .returned (.string (strOfNums (decI n))) ∧ Below w.heap.size w w' := by
  refine (Tryz.strconv_Itoa n h0 h1 w (hP w (Below.refl _ w))).mono fun e w' ⟨he, kk, os, hw⟩ => ?_
  subst hw
  exact ⟨by rw [he, itoa_I], grow_below⟩
theorem itoaI_size (n : Int) (h0 : -9223372036854775808 ≤ n) (h1 : n ≤ 9223372036854775807) : (strOfNums (decI n)).size ≤ 21 := by
  rw [← itoa_I]
  show (Lib.itoa n).toArray.size ≤ 21
  rw [List.size_toArray]
  exact Lib.itoa_length_le n h0 h1
theorem printed_bytes {l : List Fld} (hb : BytesF l) {t : Option Nat} (ht : ∀ n, t = some n → n ≤ 10000000) : BytesF (printedS l t) := by
  intro x hx
  unfold printedS at hx
  rcases List.mem_append.1 hx with hx | hx
  · obtain ⟨y, hy, rfl⟩ := List.mem_map.1 hx
    obtain ⟨k1, k2, k3, k4⟩ := hb y (List.mem_filter.1 hy).1
    refine ⟨k1, bytes_trim k2, k3, ?_⟩
    have h4 : (y.2.dropWhile blkB).length ≤ y.2.length := List.Sublist.length_le (List.dropWhile_sublist _)
    have h5 : (trimR (y.2.dropWhile blkB)).length ≤ (y.2.dropWhile blkB).length := by
      unfold trimR
      rw [List.length_reverse]
      have := List.Sublist.length_le (List.dropWhile_sublist blkB (l := (y.2.dropWhile blkB).reverse))
      rw [List.length_reverse] at this
      exact this
    show (trimS y.2).length ≤ _
    unfold trimS
    omega
  · cases t with
    | none => cases hx
    | some n =>
      simp only [List.mem_cons, List.not_mem_nil, or_false] at hx
      subst hx
      have := decS_le n
      have := ht n rfl
      exact ⟨by intro x hx; simp [nLenP] at hx; omega, decS_bytes n, (by show nLenP.length ≤ _; decide), by show (decS n).length ≤ _; omega⟩
theorem printed_len' (l : List Fld) (t : Option Nat) : (printedS l t).length ≤ l.length + 1 := by
  unfold printedS
  rw [List.length_append, List.length_map]
  have := List.length_filter_le keptF l
  cases t <;> simp <;> omega
theorem check_ok {m t : L} {mi : Int} {st : L} {l : List Fld} {b : L} (h : checkReqS m t mi st l b = 0) : st.length ≤ 8000 ∧ headLen l ≤ 16384 ∧ l.length ≤ 64 ∧ b.length ≤ 1048576 := by
  unfold checkReqS at h
  repeat' (split at h; · cases h)
  omega
def startI (r : ReqS) : L := r.method ++ [32] ++ r.target ++ [32, 72, 84, 84, 80, 47, 49, 46] ++ decI r.minor
def formS (r : ReqS) : Nat := checkReqS r.method r.target r.minor (startI r) (printedS r.fields (toldB r.body)) r.body
def BytB (w w' : World) (x : L) (v : Value) : Prop := ∃ g cur c, v = .slice (some ⟨g, 0, none⟩) x.length c ∧ x.length ≤ c ∧ w.heap.size ≤ g ∧ w'.heap[g]? = some (.cells cur 5 (c, c + 1)) ∧ cur.size = c ∧ c ≤ maxLen ∧ cur.toList.take x.length = nums .u8 x
def FmR (w : World) (r : ReqS) (e : Ending) (w' : World) : Prop := Below w.heap.size w w' ∧ ∃ v, e = .returned (.tuple #[v, .int .i64 (formS r : Int)]) ∧ (formS r ≠ 0 → v = .slice none 0 0) ∧ (formS r = 0 → BytB w w' (wholeS (startI r) (printedS r.fields (toldB r.body)) r.body) v)
set_option maxRecDepth 100000 in
set_option maxHeartbeats 8000000 in
theorem FormatRequest_c {A : Nat → Addr} {w : World} (hE : LayS A w) (hP : TabP w) {mx : Int} (hM : w.cell? ⟨20, 0, none⟩ = some (.int .i64 mx)) {tM : TypeId} {frM : Nat × Nat} (hT : w.heap[17]? = some (.cells meC tM frM))
    (r : ReqS) {F B1 : Option Addr} {f1 b1 : Nat} (hm : Bytes r.method) (ht : Bytes r.target) (hml : r.method.length ≤ 10000000) (htl : r.target.length ≤ 10000000) (hmi : -9223372036854775808 ≤ r.minor ∧ r.minor ≤ 9223372036854775807)
    (hR : Rd w F (fldC r.fields)) (hb : BytesF r.fields) (hl : r.fields.length ≤ 5000000) (hr : ReadsInt w .u8 B1 r.body.length r.body) (hbb : Bytes r.body) (hbl : r.body.length ≤ 10000000) :
    Calls Tryz.prog 15 #[.agg (reqA r F f1 B1 b1)] w (FmR w r) := by
  have zm := sizeS' hm
  have zt := sizeS' ht
  have zi := itoaI_size r.minor hmi.1 hmi.2
  refine enter (args := [.agg (reqA r F f1 B1 b1)]) Tryz.func15 rfl Tryz.ntmps15 rfl ?_
  have H := Hp.nil w
  repeat' (first | (with_reducible first | refine p_tn ?_ | refine wp_seq ?_ | refine w_reg ?_ | refine l_nil ?_) | ((with_reducible refine g_on ?_); (first | ((with_reducible refine g_as ?_); refine l_p txs rfl rfl ?_) | ((with_reducible refine g_bx ?_); refine h_box H rfl rfl rfl (fun g_ w_ H => ?_)))))
  have HS := H.pick [0] [] (by decide) (by decide) rfl rfl
  refine d_start (fun w_ => Hp w w_ _ _) #[false, false, false, false, false, false, false, false, false, false, false, false] (by kernel_rfl) rfl rfl HS.drew ?_
  have H := H.drew
  have HS := HS.drew
  first | (refine d_pure (i := 0) #[true, false, false, false, false, false, false, false, false, false, false, false] rfl (by kernel_rfl) (fun _ _ _ h => h) rfl (fun w_ => evF_run (o := ⟨_, _, _, _, _, _⟩) flds rfl) ?_) | (refine d_pure (i := 0) #[true, false, false, false, false, false, false, false, false, false, false, false] rfl (by kernel_rfl) (fun _ _ _ h => h) rfl (fun w_ => evG_run (o := ⟨_, _, _, _, _, _⟩) flds rfl) ?_)
  first | (refine d_take (i := 1) #[true, true, false, false, false, false, false, false, false, false, false, false] rfl (by kernel_rfl) (fun _ _ _ h => h) rfl (fun w_ K => evL_run (o := ⟨_, _, _, _, _, _⟩) txs rfl (K.cellAt 0 rfl rfl)) HS ?_)
  first | (refine d_pure (i := 2) #[true, true, true, false, false, false, false, false, false, false, false, false] rfl (by kernel_rfl) (fun _ _ _ h => h) rfl (fun w_ => evCat_run (o := ⟨_, _, _, _, _, _⟩) rfl (by show _ + 1 ≤ _; omega)) ?_)
  first | (refine d_pure (i := 3) #[true, true, true, true, false, false, false, false, false, false, false, false] rfl (by kernel_rfl) (fun _ _ _ h => h) rfl (fun w_ => evF_run (o := ⟨_, _, _, _, _, _⟩) flds rfl) ?_) | (refine d_pure (i := 3) #[true, true, true, true, false, false, false, false, false, false, false, false] rfl (by kernel_rfl) (fun _ _ _ h => h) rfl (fun w_ => evG_run (o := ⟨_, _, _, _, _, _⟩) flds rfl) ?_)
  first | (refine d_take (i := 4) #[true, true, true, true, true, false, false, false, false, false, false, false] rfl (by kernel_rfl) (fun _ _ _ h => h) rfl (fun w_ K => evL_run (o := ⟨_, _, _, _, _, _⟩) txs rfl (K.cellAt 0 rfl rfl)) HS ?_)
  first | (refine d_pure (i := 5) #[true, true, true, true, true, true, false, false, false, false, false, false] rfl (by kernel_rfl) (fun _ _ _ h => h) rfl (fun w_ => evCat_run (o := ⟨_, _, _, _, _, _⟩) rfl (by rw [ByteArray.size_append]; show _ + 1 + _ ≤ _; omega)) ?_)
  first | (refine d_pure (i := 6) #[true, true, true, true, true, true, true, false, false, false, false, false] rfl (by kernel_rfl) (fun _ _ _ h => h) rfl (fun w_ => evCat_run (o := ⟨_, _, _, _, _, _⟩) rfl (by rw [ByteArray.size_append, ByteArray.size_append]; show _ + 1 + _ + 8 ≤ _; omega)) ?_)
  first | (refine d_pure (i := 7) #[true, true, true, true, true, true, true, true, false, false, false, false] rfl (by kernel_rfl) (fun _ _ _ h => h) rfl (fun w_ => evF_run (o := ⟨_, _, _, _, _, _⟩) flds rfl) ?_) | (refine d_pure (i := 7) #[true, true, true, true, true, true, true, true, false, false, false, false] rfl (by kernel_rfl) (fun _ _ _ h => h) rfl (fun w_ => evG_run (o := ⟨_, _, _, _, _, _⟩) flds rfl) ?_)
  first | (refine d_take (i := 8) #[true, true, true, true, true, true, true, true, true, false, false, false] rfl (by kernel_rfl) (fun _ _ _ h => h) rfl (fun w_ K => evL_run (o := ⟨_, _, _, _, _, _⟩) txs rfl (K.cellAt 0 rfl rfl)) HS ?_)
  refine d_one (i := 9) #[true, true, true, true, true, true, true, true, true, true, false, false] rfl (by kernel_rfl) rfl ?_
  refine l_callv rfl rfl (by kernel_rfl) (itoaI_c (hP.below H.B) _ hmi.1 hmi.2) (fun w_ K => ?_); have H := H.call K
  refine l_nil ?_
  have HS := H.pick [0] [] (by decide) (by decide) rfl rfl
  refine ⟨rfl, HS, ?_⟩
  first | (refine d_pure (i := 10) #[true, true, true, true, true, true, true, true, true, true, true, false] rfl (by kernel_rfl) (fun _ _ _ h => h) rfl (fun w_ => evCat_run (o := ⟨_, _, _, _, _, _⟩) rfl (by rw [ByteArray.size_append, ByteArray.size_append, ByteArray.size_append]; show _ + 1 + _ + 8 + _ ≤ _; omega)) ?_)
  first | (refine d_pure (i := 11) #[true, true, true, true, true, true, true, true, true, true, true, true] rfl (by kernel_rfl) (fun _ _ _ h => h) rfl (fun w_ => evP_run (o := ⟨_, _, _, _, _, _⟩) txs rfl) ?_)
  refine d_done rfl ?_
  repeat' (first | (with_reducible first | refine p_tn ?_ | refine wp_seq ?_ | refine w_reg ?_) | ((with_reducible refine g_on ?_); (first | ((with_reducible refine g_fa ?_); refine h_fa flds rfl rfl ?_) | ((with_reducible refine g_ld ?_); (refine h_ld txs H 0 rfl rfl rfl rfl ?_)) | ((with_reducible refine g_cl ?_); refine l_p txs rfl rfl ?_))))
  have hTb : ∀ w1, Below w.heap.size w w1 → w1.heap[17]? = some (.cells meC tM frM) := fun w1 K => (K.block _ (blk_lt hT)).trans hT
  have hpb : BytesF (printedS r.fields (toldB r.body)) := printed_bytes hb (fun n hn => by
    unfold toldB at hn
    split at hn
    · cases hn
    · simp only [Option.some.injEq] at hn; omega)
  have hpl := printed_len' r.fields (toldB r.body)
  (with_reducible refine is_l ?_); refine l_t txs rfl rfl (fun h1 => ?_) (fun h1 => ?_)
  have hT2 : toldB r.body = some r.body.length := by
    unfold toldB
    rw [if_neg]
    intro e
    rw [e] at h1
    simp at h1
  have hpr := fun (w1 : World) (K : Below w.heap.size w w1) => printed_c (c := f1) (hP.below K) (hR.below K) hb (by omega) r.body.length (by omega) true
  simp only [if_true, ← hT2] at hpr
  rotate_left
  have hT2 : toldB r.body = none := by
    unfold toldB
    rw [if_pos]
    exact List.eq_nil_of_length_eq_zero (by omega)
  have hpr := fun (w1 : World) (K : Below w.heap.size w w1) => printed_c (c := f1) (hP.below K) (hR.below K) hb (by omega) r.body.length (by omega) false
  simp only [Bool.false_eq_true, if_false, ← hT2] at hpr
  all_goals
    (with_reducible refine is_l ?_); refine l_call rfl rfl (by kernel_rfl) (hpr _ H.B) (fun e w_ hR2 => ?_)
    obtain ⟨F2, f2, rfl, K⟩ := hR2
    refine ⟨_, rfl, ?_⟩
    have H := H.join K
    repeat' (first | (with_reducible first | refine p_tn ?_ | refine wp_seq ?_ | refine w_reg ?_ | refine l_nil ?_) | ((with_reducible refine g_on ?_); (first | ((with_reducible refine g_mv ?_); refine l_p txs rfl rfl ?_) | ((with_reducible refine g_as ?_); refine l_p txs rfl rfl ?_) | ((with_reducible refine g_ld ?_); (refine h_ldR recs H 0 rfl rfl rfl rfl rfl ?_)))))
    (with_reducible refine is_l ?_); refine l_call rfl rfl (by kernel_rfl) (checkRequest_c (hE.below H.B) (H.old hM) (hTb _ H.B) r hm ht (by omega) (by omega) _ (by rw [ByteArray.size_append, ByteArray.size_append, ByteArray.size_append, ByteArray.size_append]; show _ + 1 + _ + 8 + _ ≤ _; omega) (rowF_rd H 0 rfl) hpb (by omega)) (fun e w_ hR3 => ?_)
    obtain ⟨v, rfl, hv, K⟩ := hR3
    refine ⟨_, rfl, ?_⟩
    have H := H.call K
    simp only [bl_cat, blS hm, blS ht, blS (decI_bytes _)] at hv
    have hv : ErrAt A v (formS r) := hv
    by_cases hk : formS r = 0
    · unfold ErrAt at hv
      rw [if_pos hk] at hv
      subst hv
      repeat' (first | (with_reducible first | refine p_tn ?_ | refine wp_seq ?_ | refine w_reg ?_ | refine l_nil ?_) | ((with_reducible refine g_on ?_); (first | ((with_reducible refine g_mv ?_); refine l_p txs rfl rfl ?_) | ((with_reducible refine g_as ?_); refine l_p txs rfl rfl ?_))))
      (with_reducible refine is_l ?_); refine l_t txs rfl rfl (fun hh => absurd hh (by simp)) (fun _ => ?_)
      repeat' (first | (with_reducible first | refine p_tn ?_ | refine wp_seq ?_ | refine w_reg ?_) | (with_reducible (refine is_if ?_; (refine w_iff rfl ?_))) | (with_reducible first | refine wp_skip ?_ | refine l_nil ?_) | ((with_reducible refine g_on ?_); (first | ((with_reducible refine g_mv ?_); refine l_p txs rfl rfl ?_) | ((with_reducible refine g_fa ?_); refine h_fa flds rfl rfl ?_) | ((with_reducible refine g_ld ?_); (refine h_ld txs H 0 rfl rfl rfl rfl ?_)))))
      obtain ⟨o1, o2, o3, o4⟩ := check_ok hk
      (with_reducible refine is_l ?_); refine l_call rfl rfl (by kernel_rfl) (whole_c (rowF_rd H 0 rfl) hpb o2 (hr.below H.B) hbb (by omega) (by rw [ByteArray.size_append, ByteArray.size_append, ByteArray.size_append, ByteArray.size_append]; show _ + 1 + _ + 8 + _ ≤ _; omega) (by omega)) (fun e w_ hR4 => ?_)
      obtain ⟨g, cur, c, rfl, q1, q2, q3, q4, q5, q6, q7⟩ := hR4
      refine ⟨_, rfl, ?_⟩
      have hsz := H.B.size
      have H := H.call q2
      simp only [bl_cat, blS hm, blS ht, blS (decI_bytes _)] at q1 q7 ⊢
      repeat' (first | (with_reducible first | refine p_tn ?_ | refine wp_ret ?_ | refine l_nil ?_) | ((with_reducible refine g_on ?_); ((with_reducible refine g_as ?_); refine l_p txs rfl rfl ?_)))
      refine end2 rfl rfl rfl ?_
      refine ⟨H.B, _, by rw [hk]; rfl, fun h => absurd hk h, fun _ => ⟨g, cur, c, rfl, q1, by omega, q4, q5, q6, q7⟩⟩
    · unfold ErrAt at hv
      rw [if_neg hk] at hv
      obtain ⟨tv, uv, rfl⟩ := errOf_iface hv
      repeat' (first | (with_reducible first | refine p_tn ?_ | refine wp_seq ?_ | refine w_reg ?_ | refine l_nil ?_) | ((with_reducible refine g_on ?_); (first | ((with_reducible refine g_mv ?_); refine l_p txs rfl rfl ?_) | ((with_reducible refine g_as ?_); refine l_p txs rfl rfl ?_))))
      (with_reducible refine is_l ?_); refine l_t txs rfl rfl (fun _ => ?_) (fun hh => absurd trivial hh)
      repeat' (first | (with_reducible first | refine p_tn ?_ | refine wp_seq ?_ | refine w_reg ?_) | (with_reducible (refine is_if ?_; (refine w_ift rfl ?_))) | (with_reducible refine l_nil ?_) | ((with_reducible refine g_on ?_); ((with_reducible refine g_mv ?_); refine l_p txs rfl rfl ?_)))
      (with_reducible refine is_l ?_); refine l_callv rfl rfl (by kernel_rfl) (errOf_c (hE.below H.B) hv) (fun w_ K => ?_)
      have H := H.call K
      repeat' (first | (with_reducible first | refine p_tn ?_ | refine p_tr ?_ | refine wp_ret ?_ | refine l_nil ?_) | ((with_reducible refine g_on ?_); ((with_reducible refine g_as ?_); refine l_p txs rfl rfl ?_)))
      refine end2 rfl rfl rfl ?_
      exact ⟨H.B, _, rfl, fun _ => rfl, fun h => absurd h hk⟩
end Go.Proofs.YthgojbdpmcccaaaGreatDoor.K
end
section
namespace Go.Proofs.YthgojbdpmcccaaaGreatDoor.Q
open Go.RowKit Go.Proofs.YthgojbdpmcccaaaGreatDoorW.PrintWords Go.Proofs.YthgojbdpmcccaaaGreatDoorW.PrintLast
set_option linter.unusedVariables false
set_option linter.unusedSimpArgs false
section
variable {P : Program} {n : Nat} {ops : Array Oper} {Q : Exit → Act → World → Prop} {S : World → Prop} {ds : List Nat} {f : Fr} {w : World}
theorem e_start {id m : Nat} {a : Act} (S : World → Prop) (ds : List Nat) (l : Array Bool) (hm : P.follows .mixedOrders = true) (hn : ops.size = m) (hl : Array.replicate m false = l) (hS : S w.drew)
    (h : WA P .any ops Q S ds m l a w.drew) : (Code.region id ops true).wp P Q a w := start_ l hm hn hl hS (fun _ => h.out)
theorem e_pure {i fuel : Nat} {l : Array Bool} {o : Oper} {v : Value} (l' : Array Bool) (hi : ops[i]? = some o) (hc : anyB .any ops l l' i = true) (hQ : ∀ c a w, Q (.panic c) (a.put o.dst v) w → Q (.panic c) a w)
    (hw : want n ops f o = true) (hv : ∀ w, (execOp (X n f) o).run P w = .ok (.value v) w) (h : WA P .any ops Q S ds fuel l' (act n (put f o.dst v)) w) : WA P .any ops Q S ds (fuel + 1) l (act n f) w :=
  ⟨pure_ l' hi rfl hc hQ (Or.inl ⟨by rw [want_eq]; exact hw, fun w => by rw [eval_act]; exact hv w⟩) (put_act n f _ v) h.out⟩
theorem e_take {i fuel : Nat} {l : Array Bool} {o : Oper} {v : Value} (l' : Array Bool) (hi : ops[i]? = some o) (hc : takeB .any ops ds l l' i = true) (hQ : ∀ c a w, Q (.panic c) (a.put o.dst v) w → Q (.panic c) a w)
    (hw : want n ops f o = true) (hv : ∀ w, S w → (execOp (X n f) o).run P w = .ok (.value v) w) (hS : S w) (h : WA P .any ops Q S ds fuel l' (act n (put f o.dst v)) w) : WA P .any ops Q S ds (fuel + 1) l (act n f) w :=
  ⟨take_ l' hi rfl hc hQ (Or.inl ⟨by rw [want_eq]; exact hw, fun w hS => by rw [eval_act]; exact hv w hS⟩) hS (put_act n f _ v) h.out⟩
theorem e_one {i fuel : Nat} {l : Array Bool} {o : Oper} (l' : Array Bool) (hi : ops[i]? = some o) (hc : readyB .any ops l l' i = true) (hd : i ∉ ds) (hw : want n ops f o = true)
    (h : WL P ops (fun ex a' w' => ex = .normal ∧ S w' ∧ WA P .any ops Q S ds fuel l' a' w') [o] (act n f) w) : WA P .any ops Q S ds (fuel + 1) l (act n f) w := by
  have h := h.out
  refine ⟨?_⟩
  refine one_ l' hi rfl hc hd (fun K hK => ?_)
  have hw' : Region.wanted o (yielded ops (act n f).tmps) = true := by rw [want_eq]; exact hw
  rw [if_pos hw']
  simp only [wpList, hw', if_true] at h
  rcases h with h | ⟨_, _, _, h, _⟩
  · refine Oper.wp_mono (fun a' w' hk => hK.out a' w' hk.1 (fun _ => hk.2.out)) (wp_of_normal (K := fun a' w' => S w' ∧ WA P .any ops Q S ds fuel l' a' w') ?_)
    exact Oper.wp_mono (fun a' w' hk => hk.2) h
  · cases h
theorem e_two {i j fuel : Nat} {l : Array Bool} {o p : Oper} (li lj : Array Bool) (hi : ops[i]? = some o) (hj : ops[j]? = some p) (hc : (Region.ready .any ops l == [i, j] && l.setIfInBounds i true == li && l.setIfInBounds j true == lj) = true) (hdi : i ∉ ds) (hdj : j ∉ ds) (hw : want n ops f o = true) (hv : want n ops f p = true)
    (h : WL P ops (fun ex a' w' => ex = .normal ∧ S w' ∧ WA P .any ops Q S ds fuel li a' w') [o] (act n f) w)
    (g : WL P ops (fun ex a' w' => ex = .normal ∧ S w' ∧ WA P .any ops Q S ds fuel lj a' w') [p] (act n f) w) : WA P .any ops Q S ds (fuel + 1) l (act n f) w := by
  have h := h.out
  have g := g.out
  have hw' : Region.wanted o (yielded ops (act n f).tmps) = true := by rw [want_eq]; exact hw
  have hv' : Region.wanted p (yielded ops (act n f).tmps) = true := by rw [want_eq]; exact hv
  refine ⟨?_⟩
  refine two_ li lj hi hj rfl rfl hc hdi hdj (fun K hK => ?_) (fun K hK => ?_)
  · rw [if_pos hw']
    simp only [wpList, hw', if_true] at h
    rcases h with h | ⟨_, _, _, h, _⟩
    · refine Oper.wp_mono (fun a' w' hk => hK.out a' w' hk.1 (fun _ => hk.2.out)) (wp_of_normal (K := fun a' w' => S w' ∧ WA P .any ops Q S ds fuel li a' w') ?_)
      exact Oper.wp_mono (fun a' w' hk => hk.2) h
    · cases h
  · rw [if_pos hv']
    simp only [wpList, hv', if_true] at g
    rcases g with g | ⟨_, _, _, g, _⟩
    · refine Oper.wp_mono (fun a' w' hk => hK.out a' w' hk.1 (fun _ => hk.2.out)) (wp_of_normal (K := fun a' w' => S w' ∧ WA P .any ops Q S ds fuel lj a' w') ?_)
      exact Oper.wp_mono (fun a' w' hk => hk.2) g
    · cases g
theorem e_last {i fuel : Nat} {l : Array Bool} {o : Oper} (l' : Array Bool) (hi : ops[i]? = some o) (hc : readyB .any ops l l' i = true) (hd : i ∈ ds) (hw : want n ops f o = true)
    (h : WL P ops (fun ex a' w' => ex = .normal ∧ WA P .any ops Q S ds fuel l' a' w') [o] (act n f) w) : WA P .any ops Q S ds (fuel + 1) l (act n f) w := by
  have h := h.out
  refine ⟨?_⟩
  refine last_ l' hi rfl hc hd (fun K hK => ?_)
  have hw' : Region.wanted o (yielded ops (act n f).tmps) = true := by rw [want_eq]; exact hw
  rw [if_pos hw']
  simp only [wpList, hw', if_true] at h
  rcases h with h | ⟨_, _, _, h, _⟩
  · refine Oper.wp_mono (fun a' w' hk => hK.out a' w' hk.out) (wp_of_normal (K := fun a' w' => WA P .any ops Q S ds fuel l' a' w') ?_)
    exact Oper.wp_mono (fun a' w' hk => hk.2) h
  · cases h
theorem e_done {l : Array Bool} {m : Nat} {a : Act} (hr : (Region.ready .any ops l == []) = true) (h : Q .normal a w) : WA P .any ops Q S ds m l a w := ⟨done_ hr h⟩
end
end Go.Proofs.YthgojbdpmcccaaaGreatDoor.Q
end
section
namespace Go.Proofs.YthgojbdpmcccaaaGreatDoor.K
open Go.RowKit Go.Proofs.YthgojbdpmcccaaaGreatDoor.Q Go.Proofs.YthgojbdpmcccaaaGreatDoor.Wb Go.Proofs.YthgojbdpmcccaaaGreatDoorW.PrintWords
set_option linter.unusedVariables false
set_option linter.unusedSimpArgs false
set_option maxHeartbeats 2000000 in
theorem value14_c {w : World} {B : Option Addr} {c : Nat} {l : List L} (h : Rd w B (strC l)) (i : Nat) (hi : i ≤ 100000000) :
    Calls Tryz.prog 48 #[.slice B l.length c, .int .i64 (i : Int)] w fun e w' => e = .returned (.string (strOfNums (l.getD i []))) ∧ Below w.heap.size w w' := by
  refine enter (args := [.slice B l.length c, .int .i64 (i : Int)]) Tryz.func48 rfl Tryz.ntmps48 rfl ?_
  have H := Hp.nil w
  repeat' (first | (with_reducible first | refine p_tn ?_ | refine wp_seq ?_ | refine w_reg ?_ | refine l_nil ?_) | ((with_reducible refine g_on ?_); (first | ((with_reducible refine g_mv ?_); refine l_p txs rfl rfl ?_) | ((with_reducible refine g_as ?_); refine l_p txs rfl rfl ?_) | ((with_reducible refine g_cl ?_); refine l_p txs rfl rfl ?_))))
  (with_reducible refine is_l ?_); refine l_t txs rfl rfl (fun hlt => ?_) (fun hge => ?_)
  · obtain ⟨x, hx⟩ : ∃ x, l[i]? = some x := ⟨_, List.getElem?_eq_getElem (by omega)⟩
    obtain ⟨ad, rfl⟩ : ∃ ad, B = some ad := by
      cases B with
      | none =>
        have := h.1 rfl
        simp only [strC, List.map_eq_nil_iff] at this
        rw [this] at hx
        simp at hx
      | some ad => exact ⟨ad, rfl⟩
    have hcell := h.2 ad rfl _ _ (strC_at hx)
    have hg : l.getD i [] = x := by rw [List.getD_eq_getElem?_getD, hx]; rfl
    rw [hg]
    repeat' (first | (with_reducible first | refine p_tn ?_ | refine wp_seq ?_ | refine w_reg ?_) | (with_reducible (refine is_if ?_; (refine w_ift rfl ?_))) | (with_reducible refine l_nil ?_) | ((with_reducible refine g_on ?_); (first | ((with_reducible refine g_mv ?_); refine l_p txs rfl rfl ?_) | ((with_reducible refine g_ia ?_); refine l_ia txs rfl rfl (by first | omega | assumption | decide) (by first | omega | assumption | decide) ?_))))
    (with_reducible refine is_l ?_); refine l_ld txs rfl rfl (by rw [Int.toNat_natCast]; exact H.old hcell) ?_
    repeat' (first | (with_reducible first | refine p_tn ?_ | refine p_tr ?_ | refine wp_ret ?_ | refine l_nil ?_) | ((with_reducible refine g_on ?_); ((with_reducible refine g_as ?_); refine l_p txs rfl rfl ?_)))
    refine end1 rfl rfl ?_
    exact ⟨rfl, H.B⟩
  · have hg : l.getD i [] = [] := by rw [List.getD_eq_getElem?_getD, List.getElem?_eq_none (by omega)]; rfl
    rw [hg]
    repeat' (first | (with_reducible first | refine p_tn ?_ | refine wp_seq ?_ | refine w_reg ?_) | (with_reducible (refine is_if ?_; (refine w_iff rfl ?_))) | (with_reducible first | refine wp_skip ?_ | refine wp_ret ?_ | refine l_nil ?_) | ((with_reducible refine g_on ?_); ((with_reducible refine g_as ?_); refine l_p txs rfl rfl ?_)))
    refine end1 rfl rfl ?_
    exact ⟨rfl, H.B⟩
def mkF : List L → List L → List Fld
  | [], _ => []
  | n :: ns, [] => (n, []) :: mkF ns []
  | n :: ns, v :: vs => (n, v) :: mkF ns vs
theorem mkF_len : ∀ ns vs, (mkF ns vs).length = ns.length
  | [], _ => by simp [mkF]
  | n :: ns, [] => by simp [mkF, mkF_len ns []]
  | n :: ns, v :: vs => by simp [mkF, mkF_len ns vs]
theorem mkF_at : ∀ (ns vs : List L) (i : Nat) (x : L), ns[i]? = some x → (mkF ns vs)[i]? = some (x, vs.getD i [])
  | [], _, i, x, h => by simp at h
  | n :: ns, [], 0, x, h => by simp at h; subst h; simp [mkF]
  | n :: ns, [], i + 1, x, h => by
    have := mkF_at ns [] i x (by simpa using h)
    simpa [mkF] using this
  | n :: ns, v :: vs, 0, x, h => by simp at h; subst h; simp [mkF]
  | n :: ns, v :: vs, i + 1, x, h => by
    have := mkF_at ns vs i x (by simpa using h)
    simpa [mkF] using this
def reqOf (m t : L) (mi : Int) (ns vs : List L) (body : L) (pad : Int) : ReqS := ⟨m, t, mi, mkF ns vs, padS body pad, false⟩
theorem built_rq (a b : ByteArray) (i : Int) (A : Option Addr) (n c : Nat) : Tryz.prog.built 29 [(0, .string a), (1, .string b), (2, .int .i64 i), (4, .slice A n c)] = some #[.string a, .string b, .int .i64 i, .slice none 0 0, .slice A n c, .bool false] := by kernel_rfl
theorem mkF_take {ns vs : List L} {i : Nat} {x : L} (h : ns[i]? = some x) : (mkF ns vs).take (i + 1) = (mkF ns vs).take i ++ [(x, vs.getD i [])] := by
  have h2 := mkF_at ns vs i x h
  have hi : i < (mkF ns vs).length := (List.getElem?_eq_some_iff.1 h2).1
  have hx : (mkF ns vs)[i] = (x, vs.getD i []) := (List.getElem?_eq_some_iff.1 h2).2
  rw [List.take_succ_eq_append_getElem hi, hx]
set_option maxRecDepth 100000 in
set_option maxHeartbeats 8000000 in
theorem request_c {w : World} {m t : L} {mi pad : Int} {ns vs : List L} {body : L} {NB VB BB : Option Addr} {nc vc bc : Nat} (hn : Rd w NB (strC ns)) (hv : Rd w VB (strC vs)) (hnl : ns.length ≤ 10000000) (hr : ReadsInt w .u8 BB body.length body) (hbl : body.length ≤ 1000000000) :
    Calls Tryz.prog 14 #[.agg #[.string (strOfNums m), .string (strOfNums t), .int .i64 mi, .slice NB ns.length nc, .slice VB vs.length vc, .slice BB body.length bc, .int .i64 pad]] w fun e w' => ∃ F f B b, e = .returned (.agg (reqA (reqOf m t mi ns vs body pad) F f B b)) ∧ Hp w w' [] [rowF (.slice F (mkF ns vs).length f) (mkF ns vs), rowB (.slice B (padS body pad).length b) (padS body pad)] := by
  refine enter (args := [.agg #[.string (strOfNums m), .string (strOfNums t), .int .i64 mi, .slice NB ns.length nc, .slice VB vs.length vc, .slice BB body.length bc, .int .i64 pad]]) Tryz.func14 rfl Tryz.ntmps14 rfl ?_
  have H := (Hp.nil w).nilRow 95 2
  repeat' (with_reducible first | refine wp_seq ?_ | refine w_reg ?_)
  (with_reducible refine is_l ?_); refine h_box H rfl rfl rfl (fun gX w_ H => ?_)
  (with_reducible refine is_l ?_); refine h_alloc recs H rfl rfl (fun gC w_ H => ?_)
  repeat' (with_reducible first | refine p_tn ?_ | refine wp_seq ?_ | refine l_nil ?_)
  have HS := H.pick [0, 1] [] (by decide) (by decide) rfl rfl
  refine e_start (fun w_ => Hp w w_ _ _) [] #[false, false, false, false, false, false, false, false, false, false, false, false, false, false] (by kernel_rfl) rfl rfl HS.drew ?_
  have H := H.drew
  have HS := HS.drew
  first | (refine e_pure (i := 0) #[true, false, false, false, false, false, false, false, false, false, false, false, false, false] rfl (by kernel_rfl) (fun _ _ _ h => h) rfl (fun w_ => evF_run (o := ⟨_, _, _, _, _, _⟩) flds rfl) ?_) | (refine e_pure (i := 0) #[true, false, false, false, false, false, false, false, false, false, false, false, false, false] rfl (by kernel_rfl) (fun _ _ _ h => h) rfl (fun w_ => evG_run (o := ⟨_, _, _, _, _, _⟩) flds rfl) ?_)
  first | (refine e_take (i := 1) #[true, true, false, false, false, false, false, false, false, false, false, false, false, false] rfl (by kernel_rfl) (fun _ _ _ h => h) rfl (fun w_ K => evL_run (o := ⟨_, _, _, _, _, _⟩) txs rfl (K.cellAt 0 rfl rfl)) HS ?_) | (refine e_take (i := 1) #[true, true, false, false, false, false, false, false, false, false, false, false, false, false] rfl (by kernel_rfl) (fun _ _ _ h => h) rfl (fun w_ K => evL_run (o := ⟨_, _, _, _, _, _⟩) txs rfl (K.cellAt 1 rfl rfl)) HS ?_)
  first | (refine e_pure (i := 2) #[true, true, true, false, false, false, false, false, false, false, false, false, false, false] rfl (by kernel_rfl) (fun _ _ _ h => h) rfl (fun w_ => evF_run (o := ⟨_, _, _, _, _, _⟩) flds rfl) ?_) | (refine e_pure (i := 2) #[true, true, true, false, false, false, false, false, false, false, false, false, false, false] rfl (by kernel_rfl) (fun _ _ _ h => h) rfl (fun w_ => evG_run (o := ⟨_, _, _, _, _, _⟩) flds rfl) ?_)
  first | (refine e_take (i := 3) #[true, true, true, true, false, false, false, false, false, false, false, false, false, false] rfl (by kernel_rfl) (fun _ _ _ h => h) rfl (fun w_ K => evL_run (o := ⟨_, _, _, _, _, _⟩) txs rfl (K.cellAt 0 rfl rfl)) HS ?_) | (refine e_take (i := 3) #[true, true, true, true, false, false, false, false, false, false, false, false, false, false] rfl (by kernel_rfl) (fun _ _ _ h => h) rfl (fun w_ K => evL_run (o := ⟨_, _, _, _, _, _⟩) txs rfl (K.cellAt 1 rfl rfl)) HS ?_)
  first | (refine e_pure (i := 4) #[true, true, true, true, true, false, false, false, false, false, false, false, false, false] rfl (by kernel_rfl) (fun _ _ _ h => h) rfl (fun w_ => evF_run (o := ⟨_, _, _, _, _, _⟩) flds rfl) ?_) | (refine e_pure (i := 4) #[true, true, true, true, true, false, false, false, false, false, false, false, false, false] rfl (by kernel_rfl) (fun _ _ _ h => h) rfl (fun w_ => evG_run (o := ⟨_, _, _, _, _, _⟩) flds rfl) ?_)
  first | (refine e_take (i := 5) #[true, true, true, true, true, true, false, false, false, false, false, false, false, false] rfl (by kernel_rfl) (fun _ _ _ h => h) rfl (fun w_ K => evL_run (o := ⟨_, _, _, _, _, _⟩) txs rfl (K.cellAt 0 rfl rfl)) HS ?_) | (refine e_take (i := 5) #[true, true, true, true, true, true, false, false, false, false, false, false, false, false] rfl (by kernel_rfl) (fun _ _ _ h => h) rfl (fun w_ K => evL_run (o := ⟨_, _, _, _, _, _⟩) txs rfl (K.cellAt 1 rfl rfl)) HS ?_)
  first | (refine e_pure (i := 6) #[true, true, true, true, true, true, true, false, false, false, false, false, false, false] rfl (by kernel_rfl) (fun _ _ _ h => h) rfl (fun w_ => evF_run (o := ⟨_, _, _, _, _, _⟩) flds rfl) ?_) | (refine e_pure (i := 6) #[true, true, true, true, true, true, true, false, false, false, false, false, false, false] rfl (by kernel_rfl) (fun _ _ _ h => h) rfl (fun w_ => evG_run (o := ⟨_, _, _, _, _, _⟩) flds rfl) ?_)
  first | (refine e_take (i := 7) #[true, true, true, true, true, true, true, true, false, false, false, false, false, false] rfl (by kernel_rfl) (fun _ _ _ h => h) rfl (fun w_ K => evL_run (o := ⟨_, _, _, _, _, _⟩) txs rfl (K.cellAt 0 rfl rfl)) HS ?_) | (refine e_take (i := 7) #[true, true, true, true, true, true, true, true, false, false, false, false, false, false] rfl (by kernel_rfl) (fun _ _ _ h => h) rfl (fun w_ K => evL_run (o := ⟨_, _, _, _, _, _⟩) txs rfl (K.cellAt 1 rfl rfl)) HS ?_)
  first | (refine e_pure (i := 8) #[true, true, true, true, true, true, true, true, true, false, false, false, false, false] rfl (by kernel_rfl) (fun _ _ _ h => h) rfl (fun w_ => evF_run (o := ⟨_, _, _, _, _, _⟩) flds rfl) ?_) | (refine e_pure (i := 8) #[true, true, true, true, true, true, true, true, true, false, false, false, false, false] rfl (by kernel_rfl) (fun _ _ _ h => h) rfl (fun w_ => evG_run (o := ⟨_, _, _, _, _, _⟩) flds rfl) ?_)
  first | (refine e_take (i := 9) #[true, true, true, true, true, true, true, true, true, true, false, false, false, false] rfl (by kernel_rfl) (fun _ _ _ h => h) rfl (fun w_ K => evL_run (o := ⟨_, _, _, _, _, _⟩) txs rfl (K.cellAt 0 rfl rfl)) HS ?_) | (refine e_take (i := 9) #[true, true, true, true, true, true, true, true, true, true, false, false, false, false] rfl (by kernel_rfl) (fun _ _ _ h => h) rfl (fun w_ K => evL_run (o := ⟨_, _, _, _, _, _⟩) txs rfl (K.cellAt 1 rfl rfl)) HS ?_)
  refine e_two (i := 10) (j := 12) #[true, true, true, true, true, true, true, true, true, true, true, false, false, false] #[true, true, true, true, true, true, true, true, true, true, false, false, true, false] rfl rfl (by kernel_rfl) (by decide) (by decide) rfl rfl ?_ ?_
  (refine l_call rfl rfl (by kernel_rfl) (padded_c (hr.below H.B) pad hbl) (fun e w_ hR => ?_)); obtain ⟨A1, c1, rfl, K⟩ := hR; refine ⟨_, rfl, ?_⟩; have H := H.join K
  refine l_nil ?_
  have HS := H.pick [0, 1] [] (by decide) (by decide) rfl rfl
  refine ⟨rfl, HS, ?_⟩
  first | (refine e_pure (i := 11) #[true, true, true, true, true, true, true, true, true, true, true, true, false, false] rfl (by kernel_rfl) (fun _ _ _ h => h) rfl (fun w_ => evBld_run (o := ⟨_, _, _, _, _, _⟩) rfl (built_rq _ _ _ _ _ _)) ?_)
  refine e_one (i := 12) #[true, true, true, true, true, true, true, true, true, true, true, true, true, false] rfl (by kernel_rfl) (by decide) rfl ?_
  refine h_alloc recs H rfl rfl (fun gL w_ H => ?_)
  refine l_nil ?_
  have HS := H.pick [1, 2] [] (by decide) (by decide) rfl rfl
  refine ⟨rfl, HS, ?_⟩
  refine e_one (i := 13) #[true, true, true, true, true, true, true, true, true, true, true, true, true, true] rfl (by kernel_rfl) (by decide) rfl ?_
  refine g_on ?_; ((with_reducible refine g_st ?_); (refine h_stR recs H 0 rfl rfl rfl rfl rfl rfl rfl rfl rfl (fun w_ H => ?_)))
  refine l_nil ?_
  have HS := H.pick [1, 2] [] (by decide) (by decide) rfl rfl
  refine ⟨rfl, HS, ?_⟩
  refine e_done rfl ?_
  rotate_left
  refine h_alloc recs H rfl rfl (fun gL w_ H => ?_)
  refine l_nil ?_
  have HS := H.pick [1, 2] [] (by decide) (by decide) rfl rfl
  refine ⟨rfl, HS, ?_⟩
  refine e_one (i := 10) #[true, true, true, true, true, true, true, true, true, true, true, false, true, false] rfl (by kernel_rfl) (by decide) rfl ?_
  (refine l_call rfl rfl (by kernel_rfl) (padded_c (hr.below H.B) pad hbl) (fun e w_ hR => ?_)); obtain ⟨A1, c1, rfl, K⟩ := hR; refine ⟨_, rfl, ?_⟩; have H := H.join K
  refine l_nil ?_
  have HS := H.pick [1, 2] [] (by decide) (by decide) rfl rfl
  refine ⟨rfl, HS, ?_⟩
  first | (refine e_pure (i := 11) #[true, true, true, true, true, true, true, true, true, true, true, true, true, false] rfl (by kernel_rfl) (fun _ _ _ h => h) rfl (fun w_ => evBld_run (o := ⟨_, _, _, _, _, _⟩) rfl (built_rq _ _ _ _ _ _)) ?_)
  refine e_one (i := 13) #[true, true, true, true, true, true, true, true, true, true, true, true, true, true] rfl (by kernel_rfl) (by decide) rfl ?_
  refine g_on ?_; ((with_reducible refine g_st ?_); (refine h_stR recs H 0 rfl rfl rfl rfl rfl rfl rfl rfl rfl (fun w_ H => ?_)))
  refine l_nil ?_
  have HS := H.pick [1, 2] [] (by decide) (by decide) rfl rfl
  refine ⟨rfl, HS, ?_⟩
  refine e_done rfl ?_
  all_goals
    repeat' (first | (with_reducible first | refine p_tn ?_ | refine wp_seq ?_ | refine wp_block ?_ | refine w_reg ?_ | refine l_nil ?_) | ((with_reducible refine g_on ?_); ((with_reducible refine g_as ?_); refine l_p txs rfl rfl ?_)))
    have hml := mkF_len ns vs
    refine w_loop (σ := Nat × Option Addr × Nat) (S := fun s => [(1, .pointer (some ⟨gX, 0, none⟩)), (2, .pointer (some ⟨gC, 0, none⟩)), (3, .pointer (some ⟨gL, 0, none⟩)), (4, .int .i64 (s.1 : Int))])
      (J := fun s w' => Hp w w' [(gL, 29, [.string (strOfNums m), .string (strOfNums t), .int .i64 mi, .slice s.2.1 s.1 s.2.2, .slice A1 (padS body pad).length c1, .bool false]), (gC, 29, [.string ⟨#[]⟩, .string ⟨#[]⟩, .int .i64 0, .slice none 0 0, .slice none 0 0, .bool false]), (gX, 25, [.string (strOfNums m), .string (strOfNums t), .int .i64 mi, .slice NB ns.length nc, .slice VB vs.length vc, .slice BB body.length bc, .int .i64 pad])] [rowB (.slice A1 (padS body pad).length c1) (padS body pad), ⟨.slice s.2.1 s.1 s.2.2, 95, 2, s.1, fldC ((mkF ns vs).take s.1)⟩] ∧ s.1 ≤ ns.length) (μ := fun s => ns.length - s.1) (0, none, 0) ⟨rfl, rfl, rfl, rfl, trivial⟩ ⟨H, by omega⟩ ?_
    rintro ⟨i, A2, c2⟩ f w_ ⟨H, hi⟩
    simp only at H hi ⊢
    repeat' (first | (with_reducible first | refine wp_seq ?_ | refine w_reg ?_) | ((with_reducible refine g_on ?_); (first | ((with_reducible refine g_mv ?_); refine l_p txs rfl rfl ?_) | ((with_reducible refine g_fa ?_); refine h_fa flds rfl rfl ?_) | ((with_reducible refine g_ld ?_); (refine h_ld txs H 2 rfl rfl rfl rfl ?_)) | ((with_reducible refine g_cl ?_); refine l_p txs rfl rfl ?_))))
    (with_reducible refine is_l ?_); refine l_t txs rfl rfl (fun hlt => ?_) (fun hge => ?_)
    · obtain ⟨x, hx⟩ : ∃ x, ns[i]? = some x := ⟨_, List.getElem?_eq_getElem (by omega)⟩
      obtain ⟨ad, rfl⟩ : ∃ ad, NB = some ad := by
        cases NB with
        | none =>
          have := hn.1 rfl
          simp only [strC, List.map_eq_nil_iff] at this
          rw [this] at hx
          simp at hx
        | some ad => exact ⟨ad, rfl⟩
      have hcell := hn.2 ad rfl _ _ (strC_at hx)
      have htk := mkF_take (vs := vs) hx
      repeat' (first | (with_reducible first | refine p_tn ?_ | refine wp_seq ?_ | refine wp_block ?_) | (with_reducible (refine is_if ?_; (refine w_ift rfl ?_))) | (with_reducible first | refine wp_skip ?_ | refine l_nil ?_))
      have HS := H.pick [0, 1, 2] [0] (by decide) (by decide) rfl rfl
      refine e_start (fun w_ => Hp w w_ _ _) [15] #[false, false, false, false, false, false, false, false, false, false, false, false, false, false, false, false] (by kernel_rfl) rfl rfl HS.drew ?_
      have H := H.drew
      have HS := HS.drew
      first | (refine e_pure (i := 0) #[true, false, false, false, false, false, false, false, false, false, false, false, false, false, false, false] rfl (by kernel_rfl) (fun _ _ _ h => h) rfl (fun w_ => evF_run (o := ⟨_, _, _, _, _, _⟩) flds rfl) ?_) | (refine e_pure (i := 0) #[true, false, false, false, false, false, false, false, false, false, false, false, false, false, false, false] rfl (by kernel_rfl) (fun _ _ _ h => h) rfl (fun w_ => evG_run (o := ⟨_, _, _, _, _, _⟩) flds rfl) ?_)
      first | (refine e_take (i := 1) #[true, true, false, false, false, false, false, false, false, false, false, false, false, false, false, false] rfl (by kernel_rfl) (fun _ _ _ h => h) rfl (fun w_ K => evL_run (o := ⟨_, _, _, _, _, _⟩) txs rfl (K.cellAt 0 rfl rfl)) HS ?_) | (refine e_take (i := 1) #[true, true, false, false, false, false, false, false, false, false, false, false, false, false, false, false] rfl (by kernel_rfl) (fun _ _ _ h => h) rfl (fun w_ K => evL_run (o := ⟨_, _, _, _, _, _⟩) txs rfl (K.cellAt 1 rfl rfl)) HS ?_) | (refine e_take (i := 1) #[true, true, false, false, false, false, false, false, false, false, false, false, false, false, false, false] rfl (by kernel_rfl) (fun _ _ _ h => h) rfl (fun w_ K => evL_run (o := ⟨_, _, _, _, _, _⟩) txs rfl (K.cellAt 2 rfl rfl)) HS ?_)
      first | (refine e_pure (i := 2) #[true, true, true, false, false, false, false, false, false, false, false, false, false, false, false, false] rfl (by kernel_rfl) (fun _ _ _ h => h) rfl (fun w_ => evF_run (o := ⟨_, _, _, _, _, _⟩) flds rfl) ?_) | (refine e_pure (i := 2) #[true, true, true, false, false, false, false, false, false, false, false, false, false, false, false, false] rfl (by kernel_rfl) (fun _ _ _ h => h) rfl (fun w_ => evG_run (o := ⟨_, _, _, _, _, _⟩) flds rfl) ?_)
      first | (refine e_take (i := 3) #[true, true, true, true, false, false, false, false, false, false, false, false, false, false, false, false] rfl (by kernel_rfl) (fun _ _ _ h => h) rfl (fun w_ K => evL_run (o := ⟨_, _, _, _, _, _⟩) txs rfl (K.cellAt 0 rfl rfl)) HS ?_) | (refine e_take (i := 3) #[true, true, true, true, false, false, false, false, false, false, false, false, false, false, false, false] rfl (by kernel_rfl) (fun _ _ _ h => h) rfl (fun w_ K => evL_run (o := ⟨_, _, _, _, _, _⟩) txs rfl (K.cellAt 1 rfl rfl)) HS ?_) | (refine e_take (i := 3) #[true, true, true, true, false, false, false, false, false, false, false, false, false, false, false, false] rfl (by kernel_rfl) (fun _ _ _ h => h) rfl (fun w_ K => evL_run (o := ⟨_, _, _, _, _, _⟩) txs rfl (K.cellAt 2 rfl rfl)) HS ?_)
      first | (refine e_pure (i := 4) #[true, true, true, true, true, false, false, false, false, false, false, false, false, false, false, false] rfl (by kernel_rfl) (fun _ _ _ h => h) rfl (fun w_ => evP_run (o := ⟨_, _, _, _, _, _⟩) txs rfl) ?_)
      first | (refine e_pure (i := 5) #[true, true, true, true, true, true, false, false, false, false, false, false, false, false, false, false] rfl (by kernel_rfl) (fun _ _ _ h => h) rfl (fun w_ => evIA_run (o := ⟨_, _, _, _, _, _⟩) txs rfl (by omega) (by omega)) ?_)
      first | (refine e_take (i := 6) #[true, true, true, true, true, true, true, false, false, false, false, false, false, false, false, false] rfl (by kernel_rfl) (fun _ _ _ h => h) rfl (fun w_ K => evL_run (o := ⟨_, _, _, _, _, _⟩) txs rfl (by rw [Int.toNat_natCast]; exact K.old hcell)) HS ?_)
      first | (refine e_pure (i := 7) #[true, true, true, true, true, true, true, true, false, false, false, false, false, false, false, false] rfl (by kernel_rfl) (fun _ _ _ h => h) rfl (fun w_ => evF_run (o := ⟨_, _, _, _, _, _⟩) flds rfl) ?_) | (refine e_pure (i := 7) #[true, true, true, true, true, true, true, true, false, false, false, false, false, false, false, false] rfl (by kernel_rfl) (fun _ _ _ h => h) rfl (fun w_ => evG_run (o := ⟨_, _, _, _, _, _⟩) flds rfl) ?_)
      first | (refine e_take (i := 8) #[true, true, true, true, true, true, true, true, true, false, false, false, false, false, false, false] rfl (by kernel_rfl) (fun _ _ _ h => h) rfl (fun w_ K => evL_run (o := ⟨_, _, _, _, _, _⟩) txs rfl (K.cellAt 0 rfl rfl)) HS ?_) | (refine e_take (i := 8) #[true, true, true, true, true, true, true, true, true, false, false, false, false, false, false, false] rfl (by kernel_rfl) (fun _ _ _ h => h) rfl (fun w_ K => evL_run (o := ⟨_, _, _, _, _, _⟩) txs rfl (K.cellAt 1 rfl rfl)) HS ?_) | (refine e_take (i := 8) #[true, true, true, true, true, true, true, true, true, false, false, false, false, false, false, false] rfl (by kernel_rfl) (fun _ _ _ h => h) rfl (fun w_ K => evL_run (o := ⟨_, _, _, _, _, _⟩) txs rfl (K.cellAt 2 rfl rfl)) HS ?_)
      first | (refine e_pure (i := 9) #[true, true, true, true, true, true, true, true, true, true, false, false, false, false, false, false] rfl (by kernel_rfl) (fun _ _ _ h => h) rfl (fun w_ => evP_run (o := ⟨_, _, _, _, _, _⟩) txs rfl) ?_)
      refine e_one (i := 10) #[true, true, true, true, true, true, true, true, true, true, true, false, false, false, false, false] rfl (by kernel_rfl) (by decide) rfl ?_
      refine l_callv rfl rfl (by kernel_rfl) (value14_c (hv.below H.B) i (by omega)) (fun w_ K => ?_); have H := H.call K
      refine l_nil ?_
      have HS := H.pick [0, 1, 2] [0] (by decide) (by decide) rfl rfl
      refine ⟨rfl, HS, ?_⟩
      first | (refine e_pure (i := 11) #[true, true, true, true, true, true, true, true, true, true, true, true, false, false, false, false] rfl (by kernel_rfl) (fun _ _ _ h => h) rfl (fun w_ => evBld_run (o := ⟨_, _, _, _, _, _⟩) rfl (built_f2 _ _)) ?_)
      refine e_one (i := 12) #[true, true, true, true, true, true, true, true, true, true, true, true, true, false, false, false] rfl (by kernel_rfl) (by decide) rfl ?_
      refine h_bs H info_f Tryz.underlying27 (by decide) (by decide) rfl rfl (fill_f _ _) (fun g_ w_ H => ?_)
      refine l_nil ?_
      have HS := H.pick [1, 2, 3] [0] (by decide) (by decide) rfl rfl
      refine ⟨rfl, HS, ?_⟩
      refine e_one (i := 13) #[true, true, true, true, true, true, true, true, true, true, true, true, true, true, false, false] rfl (by kernel_rfl) (by decide) rfl ?_
      (refine h_app H 1 rfl info_f Tryz.underlying27 rfl rfl rfl rfl (H.cellRd 0 rfl) rfl rfl (by show (i + 1) * 32 ≤ _; omega) (fun v w_ hv H => ?_)); obtain ⟨A', c', rfl⟩ := hv
      refine l_nil ?_
      have HS := H.pick [1, 2, 3] [0] (by decide) (by decide) rfl rfl
      refine ⟨rfl, HS, ?_⟩
      first | (refine e_pure (i := 14) #[true, true, true, true, true, true, true, true, true, true, true, true, true, true, true, false] rfl (by kernel_rfl) (fun _ _ _ h => h) rfl (fun w_ => evF_run (o := ⟨_, _, _, _, _, _⟩) flds rfl) ?_) | (refine e_pure (i := 14) #[true, true, true, true, true, true, true, true, true, true, true, true, true, true, true, false] rfl (by kernel_rfl) (fun _ _ _ h => h) rfl (fun w_ => evG_run (o := ⟨_, _, _, _, _, _⟩) flds rfl) ?_)
      refine e_last (i := 15) #[true, true, true, true, true, true, true, true, true, true, true, true, true, true, true, true] rfl (by kernel_rfl) (by decide) rfl ?_
      refine g_on ?_; ((with_reducible refine g_st ?_); (refine h_st txs ones H 1 rfl rfl rfl rfl rfl rfl rfl rfl rfl (fun w_ H => ?_)))
      refine l_nil ?_
      refine ⟨rfl, ?_⟩
      refine e_done rfl ?_
      repeat' (first | (with_reducible first | refine p_tn ?_ | refine p_bn ?_ | refine w_reg ?_ | refine l_nil ?_) | ((with_reducible refine g_on ?_); (first | ((with_reducible refine g_mv ?_); refine l_p txs rfl rfl ?_) | ((with_reducible refine g_as ?_); refine l_p txs rfl rfl ?_) | ((with_reducible refine g_bi ?_); (refine l_a txs rfl rfl (by first | exact in_i64 (by omega) (by omega) | exact in_u8 (by omega) (by omega) | exact in_u64 (by omega) (by omega) | exact in_i32 (by omega) (by omega)) ?_)))))
      refine ⟨(i + 1, A', c'), _, rfl, ⟨rfl, rfl, rfl, rfl, trivial⟩, ⟨?_, by show i + 1 ≤ _; omega⟩, by show _ - (i + 1) < _ - i; omega⟩
      simp only [htk, fldC_snoc]
      exact H.pick [1, 2, 3] [0, 1] (by decide) (by decide) rfl rfl
    · have hall : (mkF ns vs).take i = mkF ns vs := List.take_of_length_le (by omega)
      have hin : i = ns.length := by omega
      subst hin
      rw [hall] at H
      repeat' (first | (with_reducible first | refine p_tn ?_ | refine p_tx ?_ | refine x_hit ?_ | refine wp_seq ?_ | refine w_reg ?_) | (with_reducible (refine is_if ?_; (refine w_iff rfl ?_))) | (with_reducible first | refine wp_exit ?_ | refine wp_ret ?_ | refine l_nil ?_) | ((with_reducible refine g_on ?_); (first | ((with_reducible refine g_ld ?_); (refine h_ldR recs H 0 rfl rfl rfl rfl rfl ?_)) | ((with_reducible refine g_st ?_); (refine h_stR recs H 1 rfl rfl rfl rfl rfl rfl rfl rfl rfl (fun w_ H => ?_))))))
      refine end_cell recs H 1 rfl rfl rfl rfl rfl ?_
      refine ⟨A2, c2, A1, c1, ?_, ?_⟩
      · show _ = Ending.returned (.agg #[.string (strOfNums m), .string (strOfNums t), .int .i64 mi, .slice A2 (mkF ns vs).length c2, .slice A1 (padS body pad).length c1, .bool false])
        rw [hml]
      · unfold rowF
        rw [hml]
        exact H.pick [] [1, 0] (by decide) (by decide) rfl rfl
end Go.Proofs.YthgojbdpmcccaaaGreatDoor.K
end
section
namespace Go.Proofs.YthgojbdpmcccaaaGreatDoor.Op
open Go.ChangeShapes Go.WideShapes Go.ChangeAt Go.RowKit
open Go.Proofs.YthgojbdpmcccaaaGreatDoor.K Go.Proofs.YthgojbdpmcccaaaGreatDoor.Q Go.Proofs.YthgojbdpmcccaaaGreatDoor.Wb Go.Proofs.YthgojbdpmcccaaaGreatDoor.LaidF Go.Proofs.YthgojbdpmcccaaaGreatDoorW.PrintWords
set_option linter.unusedVariables false
set_option linter.unusedSimpArgs false
theorem part_le {H : Type} {d : DataW H} {l : List (DataW H)} (h : d ∈ l) : Rows.uptoBulk d ≤ Rows.uptoBulkAll l := by
  induction l with
  | nil => cases h
  | cons x r ih =>
    simp only [Rows.uptoBulkAll]
    cases List.mem_cons.1 h with
    | inl e => subst e; omega
    | inr e => have := ih e; omega
theorem lits_le {H : Type} (k : IntKind) : ∀ l : List Int, l.length ≤ Rows.uptoBulkAll (lits (H := H) k l)
  | [] => by simp [lits, Rows.uptoBulkAll]
  | x :: l => by
    have h := lits_le (H := H) k l
    have e : Rows.uptoBulkAll (lits (H := H) k (x :: l)) = 1 + Rows.uptoBulkAll (lits (H := H) k l) := by simp only [lits, List.map_cons, Rows.uptoBulkAll, Rows.uptoBulk]
    rw [e]
    simp only [List.length_cons]
    omega
theorem strs_le {H : Type} : ∀ l : List ByteArray, l.length ≤ Rows.uptoBulkAll (strs (H := H) l) ∧ ∀ x ∈ l, x.size ≤ Rows.uptoBulkAll (strs (H := H) l)
  | [] => by simp [strs, Rows.uptoBulkAll]
  | s :: l => by
    obtain ⟨h1, h2⟩ := strs_le (H := H) l
    have e : Rows.uptoBulkAll (strs (H := H) (s :: l)) = (s.data.toList.length + 1) + Rows.uptoBulkAll (strs (H := H) l) := by simp only [strs, List.map_cons, Rows.uptoBulkAll, Rows.uptoBulk]
    rw [e, data_length]
    refine ⟨by simp only [List.length_cons]; omega, fun x hx => ?_⟩
    rcases List.mem_cons.1 hx with rfl | hx
    · omega
    · have := h2 x hx; omega
section
variable {H : Type} {enc : TypeId × Value → H} {W : World} {fuel : Nat} {cs : List Value} {x : DataW H × List MemPlace}
set_option maxRecDepth 100000 in
theorem bytes_in (hf : DataW.trod enc Tryz.prog W 0 (fun _ => true) true fuel 23 cs = some x) :
    ∃ (A : Option Addr) (c : Nat) (l : L), cs = [.slice A l.length c] ∧ l.length ≤ c ∧ ReadsInt W .u8 A l.length l ∧ l.length ≤ Rows.uptoBulk x.1 ∧ Bytes l ∧ (A = none → c = 0 ∧ l.length = 0) := by
  rcases open_ints Tryz.underlying23 Tryz.underlying5 (by kernel_rfl) hf with ⟨rfl, hx⟩ | ⟨a, len, cap, ss, rfl, _, hl, hm, hz, rfl, hcell, hwf⟩
  · exact ⟨none, 0, [], rfl, Nat.le_refl _, ⟨rfl, by simp, fun h => absurd h (Nat.lt_irrefl 0)⟩, by simp, (fun _ h => by cases h), fun _ => ⟨rfl, rfl⟩⟩
  · simp only [if_true] at hz
    have hlen : (ss.take len).length = len := by rw [List.length_take]; omega
    have h1 := lits_le (H := H) .u8 (ss.take len)
    have hb : Rows.uptoBulk (.slice (lits (H := H) .u8 (ss.take len)) (lits .u8 (ss.drop len))) = Rows.uptoBulkAll (lits (H := H) .u8 (ss.take len)) + Rows.uptoBulkAll (lits (H := H) .u8 (ss.drop len)) + 1 := by simp only [Rows.uptoBulk]
    refine ⟨some a, cap, ss.take len, by rw [hlen], by omega, ⟨rfl, by rw [hlen]; simp only [maxLen] at hm; omega, fun _ => ⟨a, rfl, fun j hj => ?_⟩⟩, by rw [hb]; omega, fun y hy => bounds_u8 (hwf y (List.mem_of_mem_take hy)), fun h => by cases h⟩
    rw [hcell j (by omega)]
    congr 2
    rw [List.getD_eq_getElem?_getD, List.getD_eq_getElem?_getD, List.getElem?_take_of_lt (by omega)]
set_option maxRecDepth 100000 in
theorem strs_in (hf : DataW.trod enc Tryz.prog W 0 (fun _ => true) true fuel 22 cs = some x) :
    ∃ (A : Option Addr) (c : Nat) (l : List L), cs = [.slice A l.length c] ∧ l.length ≤ c ∧ Rd W A (strC l) ∧ l.length ≤ Rows.uptoBulk x.1 ∧ ∀ y ∈ l, Bytes y ∧ y.length ≤ Rows.uptoBulk x.1 := by
  rcases open_strings Tryz.underlying22 Tryz.underlying9 (by kernel_rfl) hf with ⟨rfl, hx⟩ | ⟨a, len, cap, ss, rfl, _, hl, hm, hz, rfl, hcell, hsz⟩
  · exact ⟨none, 0, [], rfl, Nat.le_refl _, ⟨fun _ => rfl, fun ad e => (by cases e)⟩, by simp, by simp⟩
  · simp only [if_true] at hz
    have hlen : ((ss.take len).map bl).length = len := by rw [List.length_map, List.length_take]; omega
    obtain ⟨h1, h2⟩ := strs_le (H := H) (ss.take len)
    have hb : Rows.uptoBulk (.slice (strs (H := H) (ss.take len)) (strs (ss.drop len))) = Rows.uptoBulkAll (strs (H := H) (ss.take len)) + Rows.uptoBulkAll (strs (H := H) (ss.drop len)) + 1 := by simp only [Rows.uptoBulk]
    refine ⟨some a, cap, (ss.take len).map bl, by rw [hlen], by rw [hlen]; omega, ⟨fun e => (by cases e), fun ad e i v hv => ?_⟩, ?_, fun y hy => ?_⟩
    · injection e with e
      subst e
      have hi : i < len := by
        have := (List.getElem?_eq_some_iff.1 hv).1
        simp only [strC, List.length_map, List.length_take] at this
        omega
      rw [hcell i (by omega)]
      simp only [strC, List.getElem?_map, List.getElem?_take_of_lt hi, Option.map_map, Option.map_eq_some_iff] at hv
      obtain ⟨s, hs, rfl⟩ := hv
      rw [List.getD_eq_getElem?_getD, hs]
      simp [strS]
    · rw [hb, List.length_map]; omega
    · obtain ⟨s, hs, rfl⟩ := List.mem_map.1 hy
      refine ⟨bl_bytes s, ?_⟩
      have := h2 s hs
      rw [bl_length, hb]
      omega
theorem str_in {t : TypeId} (ht : Tryz.prog.underlying t = some .string) (hf : DataW.trod enc Tryz.prog W 0 (fun _ => true) true fuel t cs = some x) : ∃ l : L, cs = [.string (strOfNums l)] ∧ Bytes l ∧ l.length ≤ Rows.uptoBulk x.1 := by
  obtain ⟨s, rfl, rfl, _⟩ := DataW.trod_string ht hf
  refine ⟨bl s, by rw [strS], bl_bytes s, ?_⟩
  have e : Rows.uptoBulk (DataW.lit (.string s.data.toList) : DataW H) = s.data.toList.length + 1 := by simp only [Rows.uptoBulk]
  simp only [e, data_length, bl_length]
  omega
theorem i64_range {n : Int} (h : (Lit.int .i64 n).wf = true) : -9223372036854775808 ≤ n ∧ n ≤ 9223372036854775807 := by
  simp only [Lit.wf, Bool.and_eq_true, decide_eq_true_eq] at h
  have e1 : IntKind.min .i64 = -9223372036854775808 := by decide +kernel
  have e2 : IntKind.max .i64 = 9223372036854775807 := by decide +kernel
  rw [e1, e2] at h
  exact h
theorem int_in {t : TypeId} (ht : Tryz.prog.underlying t = some (.int .i64)) (hf : DataW.trod enc Tryz.prog W 0 (fun _ => true) true fuel t cs = some x) : ∃ n : Int, cs = [.int .i64 n] ∧ -9223372036854775808 ≤ n ∧ n ≤ 9223372036854775807 := by
  obtain ⟨n, rfl, rfl, hw⟩ := DataW.trod_int ht hf
  exact ⟨n, rfl, (i64_range hw).1, (i64_range hw).2⟩
noncomputable def oneB (fs : Array Field) : Bool := fs.toList.zipIdx.all fun p => p.1.offset == p.2 && Tryz.prog.cellsOf p.1.type == 1
theorem one_at {fs : Array Field} {t : TypeId} (ht : Tryz.prog.underlying t = some (.struct fs)) (h1 : oneB fs = true) (h : DataW.trod enc Tryz.prog W 0 (fun _ => true) true fuel t cs = some x) :
    ∃ (xs : List (DataW H × List MemPlace)) (n : Nat), x.1 = .agg (xs.map (·.1)) ∧ cs.length = Tryz.prog.cellsOf t ∧ ∀ (i : Nat) (f : Field), fs[i]? = some f → ∃ y, y ∈ xs ∧ DataW.trod enc Tryz.prog W 0 (fun _ => true) true n f.type ((cs.drop i).take 1) = some y := by
  obtain ⟨xs, n, _, rfl, hl, hxl, hall⟩ := DataW.trod_struct ht h
  refine ⟨xs, n, rfl, hl, fun i f hf => ?_⟩
  have hi : i < fs.size := (Array.getElem?_eq_some_iff.1 hf).1
  have hz : (f, i) ∈ fs.toList.zipIdx := by
    refine List.mem_of_getElem? (i := i) ?_
    rw [List.getElem?_zipIdx, Array.getElem?_toList, hf]
    simp
  have h2 := List.all_eq_true.1 h1 _ hz
  simp only [Bool.and_eq_true, beq_iff_eq] at h2
  have h3 := hall i f hf
  rw [h2.1, h2.2, List.getElem?_eq_getElem (by omega)] at h3
  exact ⟨_, List.getElem_mem _, h3⟩
theorem agg_le {xs : List (DataW H × List MemPlace)} {y : DataW H × List MemPlace} (h : y ∈ xs) : Rows.uptoBulk y.1 ≤ Rows.uptoBulk (.agg (xs.map (·.1))) := by
  have := part_le (H := H) (List.mem_map_of_mem (f := (·.1)) h)
  have e : Rows.uptoBulk (.agg (xs.map (·.1))) = Rows.uptoBulkAll (xs.map (·.1)) + 1 := by simp only [Rows.uptoBulk]
  omega
structure ReqIn (W : World) (k : Nat) where
  m : L
  t : L
  mi : Int
  ns : List L
  vs : List L
  body : L
  pad : Int
  NB : Option Addr
  nc : Nat
  VB : Option Addr
  vc : Nat
  BB : Option Addr
  bc : Nat
  hm : Bytes m ∧ m.length ≤ k
  ht : Bytes t ∧ t.length ≤ k
  hmi : -9223372036854775808 ≤ mi ∧ mi ≤ 9223372036854775807
  hn : Rd W NB (strC ns) ∧ ns.length ≤ k ∧ ∀ x ∈ ns, Bytes x ∧ x.length ≤ k
  hvs : Rd W VB (strC vs) ∧ vs.length ≤ k ∧ ∀ x ∈ vs, Bytes x ∧ x.length ≤ k
  hb : ReadsInt W .u8 BB body.length body ∧ body.length ≤ bc ∧ body.length ≤ k ∧ Bytes body ∧ (BB = none → bc = 0 ∧ body.length = 0)
  hp : -9223372036854775808 ≤ pad ∧ pad ≤ 9223372036854775807
def ReqIn.val {W : World} {k : Nat} (R : ReqIn W k) : Value := .agg #[.string (strOfNums R.m), .string (strOfNums R.t), .int .i64 R.mi, .slice R.NB R.ns.length R.nc, .slice R.VB R.vs.length R.vc, .slice R.BB R.body.length R.bc, .int .i64 R.pad]
theorem seven {cs : List Value} (h : cs.length = 7) : ∃ a b c d e f g, cs = [a, b, c, d, e, f, g] := by
  match cs, h with
  | [a, b, c, d, e, f, g], _ => exact ⟨a, b, c, d, e, f, g, rfl⟩
set_option maxRecDepth 100000 in
theorem open_req {base : Nat} {v : Value} {d : DataW H} {ps : List MemPlace} (hval : Value.okWide Tryz.prog W .any base 25 v) (h : DataW.Trod enc Tryz.prog W 0 (fun _ => true) true 25 v d ps) : ∃ R : ReqIn W (Rows.uptoBulk d), v = R.val := by
  obtain ⟨cs, rfl, hsz⟩ := okWide_struct Tryz.underlying25 hval
  obtain ⟨fuel, hf⟩ := h
  obtain ⟨xs, n, hx, hl, hall⟩ := one_at Tryz.underlying25 (by kernel_rfl) hf
  have e7 : Tryz.prog.cellsOf 25 = 7 := by kernel_rfl
  have hcs : (Value.agg cs).cells.toList = cs.toList := rfl
  rw [hcs, e7] at hl
  rw [hcs] at hall
  obtain ⟨a, b, c, q, e, f, g, h7⟩ := seven hl
  rw [h7] at hall
  simp only at hx
  obtain ⟨y0, m0, h0⟩ := hall 0 _ rfl
  obtain ⟨y1, m1, h1⟩ := hall 1 _ rfl
  obtain ⟨y2, m2, h2⟩ := hall 2 _ rfl
  obtain ⟨y3, m3, h3⟩ := hall 3 _ rfl
  obtain ⟨y4, m4, h4⟩ := hall 4 _ rfl
  obtain ⟨y5, m5, h5⟩ := hall 5 _ rfl
  obtain ⟨y6, m6, h6⟩ := hall 6 _ rfl
  obtain ⟨l0, k0, b0, n0⟩ := str_in Tryz.underlying9 h0
  obtain ⟨l1, k1, b1, n1⟩ := str_in Tryz.underlying9 h1
  obtain ⟨i2, k2, b2⟩ := int_in Tryz.underlying3 h2
  obtain ⟨A3, c3, l3, k3, z3, r3, n3, b3⟩ := strs_in h3
  obtain ⟨A4, c4, l4, k4, z4, r4, n4, b4⟩ := strs_in h4
  obtain ⟨A5, c5, l5, k5, z5, r5, n5, b5, o5⟩ := bytes_in h5
  obtain ⟨i6, k6, b6⟩ := int_in Tryz.underlying3 h6
  have hle : ∀ y, y ∈ xs → Rows.uptoBulk y.1 ≤ Rows.uptoBulk d := fun y hy => by rw [hx]; exact agg_le hy
  have L0 := hle _ m0
  have L1 := hle _ m1
  have L3 := hle _ m3
  have L4 := hle _ m4
  have L5 := hle _ m5
  refine ⟨⟨l0, l1, i2, l3, l4, l5, i6, A3, c3, A4, c4, A5, c5, ⟨b0, by omega⟩, ⟨b1, by omega⟩, b2, ⟨r3, by omega, fun x hx => ⟨(b3 x hx).1, by have := (b3 x hx).2; omega⟩⟩, ⟨r4, by omega, fun x hx => ⟨(b4 x hx).1, by have := (b4 x hx).2; omega⟩⟩, ⟨r5, z5, by omega, b5, o5⟩, b6⟩, ?_⟩
  have h8 : cs = [a, b, c, q, e, f, g].toArray := by rw [← h7]
  simp at k0 k1 k2 k3 k4 k5 k6
  unfold ReqIn.val
  rw [h8, k0, k1, k2, k3, k4, k5, k6]
end
end Go.Proofs.YthgojbdpmcccaaaGreatDoor.Op
end
section
namespace Go.Proofs.YthgojbdpmcccaaaGreatDoor.K
open Go.RowKit Go.Proofs.YthgojbdpmcccaaaGreatDoor.Q Go.Proofs.YthgojbdpmcccaaaGreatDoor.Wb Go.Proofs.YthgojbdpmcccaaaGreatDoorW.PrintWords
set_option linter.unusedVariables false
set_option linter.unusedSimpArgs false
section
variable {P : Program} {ty : Nat → Option Ty} {n : Nat} {f : Fr} {w w0 : World} {ops : Array Oper} {Q : Exit → Act → World → Prop} {rest : List Oper} {d : Option Nat} {op : Op} {tt : TypeId} {ps : String} {af : Array Edge} {gd : Option (Nat × Bool)} {l : List Ent} {r : List RowD}
theorem l_remT {k : IntKind} {a b : Int} (hw : want n ops f ⟨d, op, tt, ps, af, gd⟩ = true) (he : evRem n f op = some (k, a, b)) (hb : b ≠ 0) (h : WL P ops Q rest (act n (put f d (.int k (a.tmod b)))) w) : WL P ops Q (⟨d, op, tt, ps, af, gd⟩ :: rest) (act n f) w :=
  l_val hw (evRem_run (o := ⟨d, op, tt, ps, af, gd⟩) he hb) h
end
theorem info_str3 : (Tryz.prog.info? 9).map (fun i => (i.zero, i.size, i.bytes)) = some (some (.string ⟨#[]⟩), 1, 16) := by kernel_rfl
theorem app_bytes {a b : L} (h1 : Bytes a) (h2 : Bytes b) : Bytes (a ++ b) := fun x hx => (List.mem_append.1 hx).elim (h1 x) (h2 x)
theorem mkF_mem : ∀ (ns vs : List L) (x : Fld), x ∈ mkF ns vs → x.1 ∈ ns ∧ (x.2 = [] ∨ x.2 ∈ vs)
  | [], _, x, h => by simp [mkF] at h
  | n :: ns, [], x, h => by
    rw [mkF] at h
    rcases List.mem_cons.1 h with rfl | h
    · exact ⟨by simp, .inl rfl⟩
    · have := mkF_mem ns [] x h
      exact ⟨by simp [this.1], this.2⟩
  | n :: ns, v :: vs, x, h => by
    rw [mkF] at h
    rcases List.mem_cons.1 h with rfl | h
    · exact ⟨by simp, .inr (by simp)⟩
    · have := mkF_mem ns vs x h
      exact ⟨by simp [this.1], this.2.imp id (by intro h; simp [h])⟩
theorem mkF_bytes {ns vs : List L} (h1 : ∀ x ∈ ns, Bytes x ∧ x.length ≤ 100000000) (h2 : ∀ x ∈ vs, Bytes x ∧ x.length ≤ 100000000) : BytesF (mkF ns vs) := by
  intro x hx
  obtain ⟨a, b⟩ := mkF_mem ns vs x hx
  have h3 := h1 _ a
  rcases b with b | b
  · rw [b]; exact ⟨h3.1, (fun _ h => by cases h), h3.2, by simp⟩
  · have h4 := h2 _ b
    exact ⟨h3.1, h4.1, h3.2, h4.2⟩
end Go.Proofs.YthgojbdpmcccaaaGreatDoor.K
end
section
namespace Go.Proofs.YthgojbdpmcccaaaGreatDoor.K
open Go.RowKit Go.Proofs.YthgojbdpmcccaaaGreatDoor.Q Go.Proofs.YthgojbdpmcccaaaGreatDoor.Wb Go.Proofs.YthgojbdpmcccaaaGreatDoorW.PrintWords
set_option linter.unusedVariables false
set_option linter.unusedSimpArgs false
section
variable {P : Program} {n : Nat} {ops : Array Oper} {Q : Exit → Act → World → Prop} {rest : List Oper} {f : Fr} {w w0 : World} {d : Option Nat} {op : Op} {tt : TypeId} {ps : String} {af : Array Edge} {gd : Option (Nat × Bool)} {l l' : List Ent} {r : List RowD}
theorem l_cvi {src dst : TypeId} {k k2 : IntKind} {z : Int} {x : Operand} (hs : P.underlying src = some (.int k)) (hd : P.underlying dst = some (.int k2)) (hw : want n ops f ⟨d, .convert src dst x, tt, ps, af, gd⟩ = true) (hx : nf (X n f x) = some (.int k z)) (h : WL P ops Q rest (act n (put f d (.int k2 (k2.wrap z)))) w) : WL P ops Q (⟨d, .convert src dst x, tt, ps, af, gd⟩ :: rest) (act n f) w := by
  refine l_val hw ?_ h
  have hx' := nf_eq hx
  unfold execOp
  simp [go_sem, ← hx', convert, run_underlying hs, run_underlying hd]
theorem l_iaa {t e : TypeId} {m : Nat} {x y : Operand} {g : Nat} {k : IntKind} {j : Int} (ht : P.underlying t = some (.array m e)) (he : (P.info? e).map (·.size) = some 1) (hw : want n ops f ⟨d, .indexAddr t x y, tt, ps, af, gd⟩ = true) (hx : nf (X n f x) = some (.pointer (some ⟨g, 0, none⟩))) (hy : nf (X n f y) = some (.int k j)) (h0 : 0 ≤ j) (h1 : j < m)
    (h : WL P ops Q rest (act n (put f d (.pointer (some ⟨g, j.toNat, none⟩)))) w) : WL P ops Q (⟨d, .indexAddr t x y, tt, ps, af, gd⟩ :: rest) (act n f) w := by
  refine l_val hw ?_ h
  have hx' := nf_eq hx
  have hy' := nf_eq hy
  obtain ⟨i0, hi, hz⟩ := Option.map_eq_some_iff.1 he
  unfold execOp
  simp [go_sem, ← hx', ← hy', Instr.indexAt, run_underlying ht, sizeOf, typeInfo, hi, hz, h0, h1, Addr.add_lit]
end
end Go.Proofs.YthgojbdpmcccaaaGreatDoor.K
end
section
namespace Go.Proofs.YthgojbdpmcccaaaGreatDoor.K
open Go.RowKit Go.Proofs.YthgojbdpmcccaaaGreatDoor.Q Go.Proofs.YthgojbdpmcccaaaGreatDoor.Wb Go.Proofs.YthgojbdpmcccaaaGreatDoorW.PrintWords
set_option linter.unusedVariables false
set_option linter.unusedSimpArgs false
theorem low_take {l : L} {i : Nat} {x : Int} (h : l[i]? = some x) : lowS (l.take (i + 1)) = lowS (l.take i) ++ [lowB x] := by
  have hi : i < l.length := (List.getElem?_eq_some_iff.1 h).1
  have hx : l[i] = x := (List.getElem?_eq_some_iff.1 h).2
  unfold lowS
  rw [List.take_succ_eq_append_getElem hi, hx, List.map_append]
  rfl
theorem drop_blk {x : Int} {r : L} (h : blkB x = true) : (x :: r).dropWhile blkB = r.dropWhile blkB := by rw [List.dropWhile_cons, if_pos h]
theorem drop_nblk {x : Int} {r : L} (h : blkB x = false) : (x :: r).dropWhile blkB = x :: r := by rw [List.dropWhile_cons, if_neg (by rw [h]; decide)]
theorem trimR_blk {x : Int} {r : L} (h : blkB x = true) : trimR (r ++ [x]) = trimR r := by unfold trimR; rw [List.reverse_append]; show ((x :: r.reverse).dropWhile blkB).reverse = _; rw [drop_blk h]
theorem trimR_nblk {x : Int} {r : L} (h : blkB x = false) : trimR (r ++ [x]) = r ++ [x] := by unfold trimR; rw [List.reverse_append]; show ((x :: r.reverse).dropWhile blkB).reverse = _; rw [drop_nblk h]; simp
theorem cons_of {l : L} {x : Int} (h : l[0]? = some x) : l = x :: l.drop 1 := by cases l with
  | nil => simp at h
  | cons a r => simp at h; subst h; rfl
theorem snoc_of {l : L} {x : Int} {k : Nat} (h : l[k]? = some x) (hk : l.length = k + 1) : l = l.take k ++ [x] := by
  have h2 := List.take_succ_eq_append_getElem (l := l) (i := k) (by omega)
  rw [List.take_of_length_le (by omega)] at h2
  have hx : l[k] = x := (List.getElem?_eq_some_iff.1 h).2
  rw [hx] at h2
  exact h2
def toldI (v : Int) : Option Nat := if 0 ≤ v then some v.toNat else none
end Go.Proofs.YthgojbdpmcccaaaGreatDoor.K
end
section
namespace Go.Proofs.YthgojbdpmcccaaaGreatDoor.K
open Go.RowKit Go.Proofs.YthgojbdpmcccaaaGreatDoor.Q Go.Proofs.YthgojbdpmcccaaaGreatDoor.Wb Go.Proofs.YthgojbdpmcccaaaGreatDoorW.PrintWords
set_option linter.unusedVariables false
set_option linter.unusedSimpArgs false
theorem dropA {l : L} {i : Nat} (h : i < l.length) : l.drop i = at_ l (i : Int) :: l.drop (i + 1) := by
  rw [List.drop_eq_getElem_cons h]
  congr 1
  unfold at_
  rw [Int.toNat_natCast, List.getD_eq_getElem?_getD, List.getElem?_eq_getElem h]
  rfl
theorem rdigit_c (c : Int) (w : World) : Calls Tryz.prog 138 #[.int .u8 c] w fun e w' => e = .returned (.bool (digB c)) ∧ Below w.heap.size w w' := by
  refine enter (args := [.int .u8 c]) Tryz.func138 rfl Tryz.ntmps138 rfl ?_
  repeat' (first | (with_reducible first | refine p_tn ?_ | refine wp_seq ?_ | refine w_reg ?_ | refine wp_ret ?_ | refine l_nil ?_) | (with_reducible (refine is_l ?_; (first | (refine l_off rfl ?_) | (refine l_p tys rfl rfl ?_) | (refine l_t tys rfl rfl (fun _ => ?_) (fun _ => ?_))))))
  all_goals (refine end1 rfl rfl ?_; exact ⟨by simp [digB, *], Below.refl _ w⟩)
theorem rletter_c (c : Int) (w : World) : Calls Tryz.prog 137 #[.int .u8 c] w fun e w' => e = .returned (.bool (letB c)) ∧ Below w.heap.size w w' := by
  refine enter (args := [.int .u8 c]) Tryz.func137 rfl Tryz.ntmps137 rfl ?_
  repeat' (first | (with_reducible first | refine p_tn ?_ | refine wp_seq ?_ | refine w_reg ?_ | refine wp_ret ?_ | refine l_nil ?_) | (with_reducible (refine is_l ?_; (first | (refine l_off rfl ?_) | (refine l_p tys rfl rfl ?_) | (refine l_t tys rfl rfl (fun _ => ?_) (fun _ => ?_))))))
  all_goals (refine end1 rfl rfl ?_; exact ⟨by simp [letB, *] <;> omega, Below.refl _ w⟩)
set_option maxHeartbeats 2000000 in
theorem ramong_c (s : ByteArray) (c : Int) (w : World) (hs : s.size ≤ 2000000000000) : Calls Tryz.prog 139 #[.string s, .int .u8 c] w fun e w' => e = .returned (.bool ((bl s).contains c)) ∧ Below w.heap.size w w' := by
  refine enter (args := [.string s, .int .u8 c]) Tryz.func139 rfl Tryz.ntmps139 rfl ?_
  have hbl := bl_length s
  have H := Hp.nil w
  repeat' (first | (with_reducible first | refine p_tn ?_ | refine wp_seq ?_ | refine wp_block ?_ | refine w_reg ?_ | refine l_nil ?_) | ((with_reducible refine g_on ?_); ((with_reducible refine g_as ?_); refine l_p txs rfl rfl ?_)))
  refine w_loop (σ := Nat) (S := fun i => [(0, .string s), (1, .int .u8 c), (5, .int .i64 (i : Int))]) (J := fun i w' => Hp w w' [] [] ∧ i ≤ s.size ∧ (bl s).contains c = ((bl s).drop i).contains c) (μ := fun i => s.size - i) 0 ⟨rfl, rfl, rfl, trivial⟩ ⟨H, by omega, rfl⟩ ?_
  rintro i f w_ ⟨H, hi, hD⟩
  repeat' (first | (with_reducible first | refine wp_seq ?_ | refine w_reg ?_) | ((with_reducible refine g_on ?_); (first | ((with_reducible refine g_mv ?_); refine l_p txs rfl rfl ?_) | ((with_reducible refine g_cl ?_); refine l_p txs rfl rfl ?_))))
  (with_reducible refine is_l ?_); refine l_t txs rfl rfl (fun hlt => ?_) (fun hge => ?_)
  · rw [dropA (by omega), List.contains_cons] at hD
    repeat' (first | (with_reducible first | refine p_tn ?_ | refine wp_seq ?_ | refine wp_block ?_ | refine w_reg ?_) | (with_reducible (refine is_if ?_; (refine w_ift rfl ?_))) | (with_reducible first | refine wp_skip ?_ | refine l_nil ?_) | ((with_reducible refine g_on ?_); (first | ((with_reducible refine g_mv ?_); refine l_p txs rfl rfl ?_) | ((with_reducible refine g_ix ?_); refine l_ix txs rfl rfl (by first | omega | assumption | decide) (by first | omega | assumption | decide) ?_))))
    (with_reducible refine is_l ?_); refine l_t txs rfl rfl (fun he => ?_) (fun he => ?_)
    · repeat' (first | (with_reducible first | refine p_tn ?_ | refine p_tr ?_ | refine p_br ?_ | refine wp_seq ?_ | refine w_reg ?_) | (with_reducible (refine is_if ?_; (refine w_ift rfl ?_))) | (with_reducible first | refine wp_ret ?_ | refine l_nil ?_) | ((with_reducible refine g_on ?_); ((with_reducible refine g_as ?_); refine l_p txs rfl rfl ?_)))
      refine end1 rfl rfl ?_
      exact ⟨by rw [hD, he]; simp, H.B⟩
    · repeat' (first | (with_reducible first | refine p_tn ?_ | refine p_bn ?_ | refine w_reg ?_) | (with_reducible (refine is_if ?_; (refine w_iff rfl ?_))) | (with_reducible first | refine wp_skip ?_ | refine l_nil ?_) | ((with_reducible refine g_on ?_); (first | ((with_reducible refine g_mv ?_); refine l_p txs rfl rfl ?_) | ((with_reducible refine g_as ?_); refine l_p txs rfl rfl ?_) | ((with_reducible refine g_bi ?_); (refine l_a txs rfl rfl (by first | exact in_i64 (by omega) (by omega) | exact in_u8 (by omega) (by omega) | exact in_u64 (by omega) (by omega) | exact in_i32 (by omega) (by omega)) ?_)))))
      refine ⟨i + 1, _, rfl, ⟨rfl, rfl, rfl, trivial⟩, ⟨H, by omega, ?_⟩, by omega⟩
      rw [hD]
      have : (c == at_ (bl s) (i : Int)) = false := by simp; exact fun e => he e.symm
      rw [this, Bool.false_or]
  · have hall : (bl s).drop i = [] := List.drop_eq_nil_of_le (by omega)
    rw [hall] at hD
    repeat' (first | (with_reducible first | refine p_tn ?_ | refine p_tx ?_ | refine x_hit ?_ | refine wp_seq ?_ | refine w_reg ?_) | (with_reducible (refine is_if ?_; (refine w_iff rfl ?_))) | (with_reducible first | refine wp_exit ?_ | refine wp_ret ?_ | refine l_nil ?_) | ((with_reducible refine g_on ?_); ((with_reducible refine g_as ?_); refine l_p txs rfl rfl ?_)))
    refine end1 rfl rfl ?_
    exact ⟨by rw [hD]; rfl, H.B⟩
theorem visS_end {l : L} (p : Int → Bool) (h : l.all p = true) : (l ≠ [] → (!l.isEmpty && l.all p) = true) ∧ (¬ l ≠ [] → (!l.isEmpty && l.all p) = false) := by
  cases l with
  | nil => simp
  | cons a r => simp only [h]; simp
theorem valS_false {l : L} (p : Int → Bool) (h : l.all p = false) : (!l.isEmpty && l.all p) = false := by rw [h]; simp
set_option maxHeartbeats 2000000 in
theorem rvisible_c (s : ByteArray) (w : World) (hs : s.size ≤ 2000000000000) : Calls Tryz.prog 80 #[.string s] w fun e w' => e = .returned (.bool (!(bl s).isEmpty && (bl s).all visB)) ∧ Below w.heap.size w w' := by
  refine enter (args := [.string s]) Tryz.func80 rfl Tryz.ntmps80 rfl ?_
  have hbl := bl_length s
  have H := Hp.nil w
  repeat' (first | (with_reducible first | refine p_tn ?_ | refine wp_seq ?_ | refine wp_block ?_ | refine w_reg ?_ | refine l_nil ?_) | ((with_reducible refine g_on ?_); ((with_reducible refine g_as ?_); refine l_p txs rfl rfl ?_)))
  refine w_loop (σ := Nat) (S := fun i => [(0, .string s), (3, .int .i64 (i : Int))]) (J := fun i w' => Hp w w' [] [] ∧ i ≤ s.size ∧ (bl s).all visB = ((bl s).drop i).all visB) (μ := fun i => s.size - i) 0 ⟨rfl, rfl, trivial⟩ ⟨H, by omega, rfl⟩ ?_
  rintro i f w_ ⟨H, hi, hD⟩
  repeat' (first | (with_reducible first | refine wp_seq ?_ | refine w_reg ?_) | ((with_reducible refine g_on ?_); (first | ((with_reducible refine g_mv ?_); refine l_p txs rfl rfl ?_) | ((with_reducible refine g_cl ?_); refine l_p txs rfl rfl ?_))))
  (with_reducible refine is_l ?_); refine l_t txs rfl rfl (fun hlt => ?_) (fun hge => ?_)
  · rw [dropA (by omega), List.all_cons] at hD
    repeat' (first | (with_reducible first | refine p_tn ?_ | refine wp_seq ?_ | refine wp_block ?_ | refine w_reg ?_) | (with_reducible (refine is_if ?_; (refine w_ift rfl ?_))) | (with_reducible first | refine wp_skip ?_ | refine l_nil ?_) | ((with_reducible refine g_on ?_); (first | ((with_reducible refine g_mv ?_); refine l_p txs rfl rfl ?_) | ((with_reducible refine g_ix ?_); refine l_ix txs rfl rfl (by first | omega | assumption | decide) (by first | omega | assumption | decide) ?_))))
    (with_reducible refine is_l ?_); refine l_t txs rfl rfl (fun h1 => ?_) (fun h1 => ?_)
    · have hv : visB (at_ (bl s) (i : Int)) = false := by unfold visB; simp; omega
      rw [hv, Bool.false_and] at hD
      repeat' (first | (with_reducible first | refine p_tn ?_ | refine p_tr ?_ | refine p_br ?_ | refine wp_seq ?_ | refine w_reg ?_) | (with_reducible (refine is_if ?_; (refine w_ift rfl ?_))) | (with_reducible first | refine wp_ret ?_ | refine l_nil ?_) | ((with_reducible refine g_on ?_); (first | ((with_reducible refine g_mv ?_); refine l_p txs rfl rfl ?_) | ((with_reducible refine g_as ?_); refine l_p txs rfl rfl ?_) | ((with_reducible refine g_pk ?_); refine l_p txs rfl rfl ?_))) | ((with_reducible refine g_if ?_); (refine l_off rfl ?_)))
      refine end1 rfl rfl ?_
      exact ⟨by rw [valS_false _ hD], H.B⟩
    · repeat' (first | ((with_reducible refine g_on ?_); ((with_reducible refine g_mv ?_); refine l_p txs rfl rfl ?_)) | ((with_reducible refine g_if ?_); (first | ((with_reducible refine g_mv ?_); refine l_p txs rfl rfl ?_) | ((with_reducible refine g_ix ?_); refine l_ix txs rfl rfl (by first | omega | assumption | decide) (by first | omega | assumption | decide) ?_))))
      (with_reducible refine is_l ?_); refine l_t txs rfl rfl (fun h2 => ?_) (fun h2 => ?_)
      · have hv : visB (at_ (bl s) (i : Int)) = false := by unfold visB; simp; omega
        rw [hv, Bool.false_and] at hD
        repeat' (first | (with_reducible first | refine p_tn ?_ | refine p_tr ?_ | refine p_br ?_ | refine wp_seq ?_ | refine w_reg ?_) | (with_reducible (refine is_if ?_; (refine w_ift rfl ?_))) | (with_reducible first | refine wp_ret ?_ | refine l_nil ?_) | ((with_reducible refine g_on ?_); (first | ((with_reducible refine g_as ?_); refine l_p txs rfl rfl ?_) | ((with_reducible refine g_pk ?_); refine l_p txs rfl rfl ?_))))
        refine end1 rfl rfl ?_
        exact ⟨by rw [valS_false _ hD], H.B⟩
      · have hv : visB (at_ (bl s) (i : Int)) = true := by unfold visB; simp; omega
        rw [hv, Bool.true_and] at hD
        repeat' (first | (with_reducible first | refine p_tn ?_ | refine p_bn ?_ | refine w_reg ?_) | (with_reducible (refine is_if ?_; (refine w_iff rfl ?_))) | (with_reducible first | refine wp_skip ?_ | refine l_nil ?_) | ((with_reducible refine g_on ?_); (first | ((with_reducible refine g_mv ?_); refine l_p txs rfl rfl ?_) | ((with_reducible refine g_as ?_); refine l_p txs rfl rfl ?_) | ((with_reducible refine g_pk ?_); refine l_p txs rfl rfl ?_) | ((with_reducible refine g_bi ?_); (refine l_a txs rfl rfl (by first | exact in_i64 (by omega) (by omega) | exact in_u8 (by omega) (by omega) | exact in_u64 (by omega) (by omega) | exact in_i32 (by omega) (by omega)) ?_)))))
        exact ⟨i + 1, _, rfl, ⟨rfl, rfl, trivial⟩, ⟨H, by omega, hD⟩, by omega⟩
  · have hall : (bl s).drop i = [] := List.drop_eq_nil_of_le (by omega)
    rw [hall] at hD
    obtain ⟨k1, k2⟩ := visS_end visB hD
    repeat' (first | (with_reducible first | refine p_tn ?_ | refine p_tx ?_ | refine x_hit ?_ | refine wp_seq ?_ | refine w_reg ?_) | (with_reducible (refine is_if ?_; (refine w_iff rfl ?_))) | (with_reducible first | refine wp_exit ?_ | refine l_nil ?_) | ((with_reducible refine g_on ?_); ((with_reducible refine g_mv ?_); refine l_p txs rfl rfl ?_)))
    (with_reducible refine is_l ?_); refine l_t txs rfl rfl (fun h1 => ?_) (fun h1 => ?_)
    · repeat' (first | (with_reducible first | refine p_tn ?_ | refine wp_ret ?_ | refine l_nil ?_) | ((with_reducible refine g_on ?_); ((with_reducible refine g_as ?_); refine l_p txs rfl rfl ?_)))
      refine end1 rfl rfl ?_
      exact ⟨by rw [k1 h1], H.B⟩
    · repeat' (first | (with_reducible first | refine p_tn ?_ | refine wp_ret ?_ | refine l_nil ?_) | ((with_reducible refine g_on ?_); ((with_reducible refine g_as ?_); refine l_p txs rfl rfl ?_)))
      refine end1 rfl rfl ?_
      exact ⟨by rw [k2 h1], H.B⟩
set_option maxHeartbeats 2000000 in
theorem rvalued_c (s : ByteArray) (w : World) (hs : s.size ≤ 2000000000000) : Calls Tryz.prog 140 #[.string s] w fun e w' => e = .returned (.bool ((bl s).all valB)) ∧ Below w.heap.size w w' := by
  refine enter (args := [.string s]) Tryz.func140 rfl Tryz.ntmps140 rfl ?_
  have hbl := bl_length s
  have H := Hp.nil w
  repeat' (first | (with_reducible first | refine p_tn ?_ | refine wp_seq ?_ | refine wp_block ?_ | refine w_reg ?_ | refine l_nil ?_) | ((with_reducible refine g_on ?_); ((with_reducible refine g_as ?_); refine l_p txs rfl rfl ?_)))
  refine w_loop (σ := Nat) (S := fun i => [(0, .string s), (3, .int .i64 (i : Int))]) (J := fun i w' => Hp w w' [] [] ∧ i ≤ s.size ∧ (bl s).all valB = ((bl s).drop i).all valB) (μ := fun i => s.size - i) 0 ⟨rfl, rfl, trivial⟩ ⟨H, by omega, rfl⟩ ?_
  rintro i f w_ ⟨H, hi, hD⟩
  repeat' (first | (with_reducible first | refine wp_seq ?_ | refine w_reg ?_) | ((with_reducible refine g_on ?_); (first | ((with_reducible refine g_mv ?_); refine l_p txs rfl rfl ?_) | ((with_reducible refine g_cl ?_); refine l_p txs rfl rfl ?_))))
  (with_reducible refine is_l ?_); refine l_t txs rfl rfl (fun hlt => ?_) (fun hge => ?_)
  · have hmem : at_ (bl s) (i : Int) ∈ bl s := by
      have h1 := dropA (l := bl s) (i := i) (by omega)
      exact List.mem_of_mem_drop (i := i) (by rw [h1]; simp)
    have hbd := bl_bytes s _ hmem
    rw [dropA (by omega), List.all_cons] at hD
    have go : valB (at_ (bl s) (i : Int)) = true → (bl s).all valB = ((bl s).drop (i + 1)).all valB := fun hv => by rw [hD, hv, Bool.true_and]
    have no : valB (at_ (bl s) (i : Int)) = false → (bl s).all valB = false := fun hv => by rw [hD, hv, Bool.false_and]
    repeat' (first | (with_reducible first | refine p_tn ?_ | refine wp_seq ?_ | refine wp_block ?_ | refine w_reg ?_) | (with_reducible (refine is_if ?_; (refine w_ift rfl ?_))) | (with_reducible first | refine wp_skip ?_ | refine l_nil ?_) | ((with_reducible refine g_on ?_); (first | ((with_reducible refine g_mv ?_); refine l_p txs rfl rfl ?_) | ((with_reducible refine g_ix ?_); refine l_ix txs rfl rfl (by first | omega | assumption | decide) (by first | omega | assumption | decide) ?_))))
    (with_reducible refine is_l ?_); refine l_t txs rfl rfl (fun h1 => ?_) (fun h1 => ?_)
    · repeat' (first | ((with_reducible refine g_on ?_); ((with_reducible refine g_mv ?_); refine l_p txs rfl rfl ?_)) | ((with_reducible refine g_if ?_); (first | ((with_reducible refine g_mv ?_); refine l_p txs rfl rfl ?_) | ((with_reducible refine g_ix ?_); refine l_ix txs rfl rfl (by first | omega | assumption | decide) (by first | omega | assumption | decide) ?_))))
      (with_reducible refine is_l ?_); refine l_t txs rfl rfl (fun h2 => ?_) (fun h2 => ?_)
      · repeat' (first | (with_reducible first | refine p_tn ?_ | refine p_tr ?_ | refine p_br ?_ | refine wp_seq ?_ | refine w_reg ?_) | (with_reducible (refine is_if ?_; (refine w_ift rfl ?_))) | (with_reducible first | refine wp_ret ?_ | refine l_nil ?_) | ((with_reducible refine g_on ?_); (first | ((with_reducible refine g_as ?_); refine l_p txs rfl rfl ?_) | ((with_reducible refine g_pk ?_); refine l_p txs rfl rfl ?_))) | ((with_reducible refine g_if ?_); (first | (refine l_off rfl ?_) | ((with_reducible refine g_mv ?_); refine l_p txs rfl rfl ?_) | ((with_reducible refine g_pk ?_); refine l_p txs rfl rfl ?_))))
        refine end1 rfl rfl ?_
        exact ⟨by rw [no (by unfold valB; simp; omega)], H.B⟩
      · repeat' ((with_reducible refine g_if ?_); (first | ((with_reducible refine g_mv ?_); refine l_p txs rfl rfl ?_) | ((with_reducible refine g_ix ?_); refine l_ix txs rfl rfl (by first | omega | assumption | decide) (by first | omega | assumption | decide) ?_)))
        (with_reducible refine is_l ?_); refine l_t txs rfl rfl (fun h3 => ?_) (fun h3 => ?_)
        · repeat' (first | (with_reducible first | refine p_tn ?_ | refine p_tr ?_ | refine p_br ?_ | refine wp_seq ?_ | refine w_reg ?_) | (with_reducible (refine is_if ?_; (refine w_ift rfl ?_))) | (with_reducible first | refine wp_ret ?_ | refine l_nil ?_) | ((with_reducible refine g_on ?_); (first | ((with_reducible refine g_as ?_); refine l_p txs rfl rfl ?_) | ((with_reducible refine g_pk ?_); refine l_p txs rfl rfl ?_))) | ((with_reducible refine g_if ?_); ((with_reducible refine g_pk ?_); refine l_p txs rfl rfl ?_)))
          refine end1 rfl rfl ?_
          exact ⟨by rw [no (by unfold valB; simp; omega)], H.B⟩
        · repeat' (first | (with_reducible first | refine p_tn ?_ | refine p_bn ?_ | refine w_reg ?_) | (with_reducible (refine is_if ?_; (refine w_iff rfl ?_))) | (with_reducible first | refine wp_skip ?_ | refine l_nil ?_) | ((with_reducible refine g_on ?_); (first | ((with_reducible refine g_mv ?_); refine l_p txs rfl rfl ?_) | ((with_reducible refine g_as ?_); refine l_p txs rfl rfl ?_) | ((with_reducible refine g_pk ?_); refine l_p txs rfl rfl ?_) | ((with_reducible refine g_bi ?_); (refine l_a txs rfl rfl (by first | exact in_i64 (by omega) (by omega) | exact in_u8 (by omega) (by omega) | exact in_u64 (by omega) (by omega) | exact in_i32 (by omega) (by omega)) ?_)))) | ((with_reducible refine g_if ?_); ((with_reducible refine g_pk ?_); refine l_p txs rfl rfl ?_)))
          exact ⟨i + 1, _, rfl, ⟨rfl, rfl, trivial⟩, ⟨H, by omega, go (by unfold valB; simp; omega)⟩, by omega⟩
    · repeat' (first | (with_reducible first | refine p_tn ?_ | refine p_bn ?_ | refine w_reg ?_) | (with_reducible (refine is_if ?_; (refine w_iff rfl ?_))) | (with_reducible first | refine wp_skip ?_ | refine l_nil ?_) | ((with_reducible refine g_on ?_); (first | ((with_reducible refine g_mv ?_); refine l_p txs rfl rfl ?_) | ((with_reducible refine g_as ?_); refine l_p txs rfl rfl ?_) | ((with_reducible refine g_pk ?_); refine l_p txs rfl rfl ?_) | ((with_reducible refine g_bi ?_); (refine l_a txs rfl rfl (by first | exact in_i64 (by omega) (by omega) | exact in_u8 (by omega) (by omega) | exact in_u64 (by omega) (by omega) | exact in_i32 (by omega) (by omega)) ?_)))) | ((with_reducible refine g_if ?_); (refine l_off rfl ?_)))
      exact ⟨i + 1, _, rfl, ⟨rfl, rfl, trivial⟩, ⟨H, by omega, go (by unfold valB; simp; omega)⟩, by omega⟩
  · have hall : (bl s).drop i = [] := List.drop_eq_nil_of_le (by omega)
    rw [hall] at hD
    repeat' (first | (with_reducible first | refine p_tn ?_ | refine p_tx ?_ | refine x_hit ?_ | refine wp_seq ?_ | refine w_reg ?_) | (with_reducible (refine is_if ?_; (refine w_iff rfl ?_))) | (with_reducible first | refine wp_exit ?_ | refine wp_ret ?_ | refine l_nil ?_) | ((with_reducible refine g_on ?_); ((with_reducible refine g_as ?_); refine l_p txs rfl rfl ?_)))
    refine end1 rfl rfl ?_
    exact ⟨by rw [hD]; rfl, H.B⟩
theorem tok_split (c : Int) : tokB c = (letB c || digB c || [33, 35, 36, 37, 38, 39, 42, 43, 45, 46, 94, 95, 124, 126].contains c || decide (c = 96)) := by
  unfold tokB
  by_cases h : c = 96
  · subst h; decide
  · have e : ([33, 35, 36, 37, 38, 39, 42, 43, 45, 46, 94, 95, 96, 124, 126] : L).contains c = ([33, 35, 36, 37, 38, 39, 42, 43, 45, 46, 94, 95, 124, 126] : L).contains c := by simp [h]
    rw [e, decide_eq_false h, Bool.or_false]
set_option maxHeartbeats 4000000 in
theorem rtoken_c (s : ByteArray) (w : World) (hs : s.size ≤ 2000000000000) : Calls Tryz.prog 79 #[.string s] w fun e w' => e = .returned (.bool (tokS (bl s))) ∧ Below w.heap.size w w' := by
  refine enter (args := [.string s]) Tryz.func79 rfl Tryz.ntmps79 rfl ?_
  have hbl := bl_length s
  have H := Hp.nil w
  unfold tokS
  repeat' (first | (with_reducible first | refine p_tn ?_ | refine wp_seq ?_ | refine wp_block ?_ | refine w_reg ?_ | refine l_nil ?_) | ((with_reducible refine g_on ?_); ((with_reducible refine g_as ?_); refine l_p txs rfl rfl ?_)))
  refine w_loop (σ := Nat) (S := fun i => [(0, .string s), (3, .int .i64 (i : Int))]) (J := fun i w' => Hp w w' [] [] ∧ i ≤ s.size ∧ (bl s).all tokB = ((bl s).drop i).all tokB) (μ := fun i => s.size - i) 0 ⟨rfl, rfl, trivial⟩ ⟨H, by omega, rfl⟩ ?_
  rintro i f w_ ⟨H, hi, hD⟩
  repeat' (first | (with_reducible first | refine wp_seq ?_ | refine w_reg ?_) | ((with_reducible refine g_on ?_); (first | ((with_reducible refine g_mv ?_); refine l_p txs rfl rfl ?_) | ((with_reducible refine g_cl ?_); refine l_p txs rfl rfl ?_))))
  (with_reducible refine is_l ?_); refine l_t txs rfl rfl (fun hlt => ?_) (fun hge => ?_)
  · rw [dropA (by omega), List.all_cons, tok_split] at hD
    repeat' (first | (with_reducible first | refine p_tn ?_ | refine wp_seq ?_ | refine wp_block ?_ | refine w_reg ?_) | (with_reducible (refine is_if ?_; (refine w_ift rfl ?_))) | (with_reducible first | refine wp_skip ?_ | refine l_nil ?_) | ((with_reducible refine g_on ?_); (first | ((with_reducible refine g_mv ?_); refine l_p txs rfl rfl ?_) | ((with_reducible refine g_ix ?_); refine l_ix txs rfl rfl (by first | omega | assumption | decide) (by first | omega | assumption | decide) ?_))))
    (with_reducible refine is_l ?_); refine l_callv rfl rfl (by kernel_rfl) (rletter_c _ _) (fun w_ K => ?_)
    have H := H.call K
    cases h1 : letB (at_ (bl s) (i : Int))
    · repeat' (first | ((with_reducible refine g_on ?_); (first | ((with_reducible refine g_mv ?_); refine l_p txs rfl rfl ?_) | ((with_reducible refine g_un ?_); (refine l_p txs rfl rfl ?_)))) | ((with_reducible refine g_if ?_); (first | ((with_reducible refine g_mv ?_); refine l_p txs rfl rfl ?_) | ((with_reducible refine g_ix ?_); refine l_ix txs rfl rfl (by first | omega | assumption | decide) (by first | omega | assumption | decide) ?_))))
      (with_reducible refine is_l ?_); refine l_callv rfl rfl (by kernel_rfl) (rdigit_c _ _) (fun w_ K => ?_)
      have H := H.call K
      cases h2 : digB (at_ (bl s) (i : Int))
      · repeat' (first | ((with_reducible refine g_on ?_); (first | ((with_reducible refine g_mv ?_); refine l_p txs rfl rfl ?_) | ((with_reducible refine g_pk ?_); refine l_p txs rfl rfl ?_))) | ((with_reducible refine g_if ?_); (first | ((with_reducible refine g_mv ?_); refine l_p txs rfl rfl ?_) | ((with_reducible refine g_un ?_); (refine l_p txs rfl rfl ?_)) | ((with_reducible refine g_ix ?_); refine l_ix txs rfl rfl (by first | omega | assumption | decide) (by first | omega | assumption | decide) ?_))))
        (with_reducible refine is_l ?_); refine l_callv rfl rfl (by kernel_rfl) (ramong_c _ _ _ (by decide)) (fun w_ K => ?_)
        have H := H.call K
        have e0 : bl (⟨#[33, 35, 36, 37, 38, 39, 42, 43, 45, 46, 94, 95, 124, 126]⟩ : ByteArray) = [33, 35, 36, 37, 38, 39, 42, 43, 45, 46, 94, 95, 124, 126] := rfl
        rw [e0]
        cases h3 : ([33, 35, 36, 37, 38, 39, 42, 43, 45, 46, 94, 95, 124, 126] : L).contains (at_ (bl s) (i : Int))
        · repeat' (first | ((with_reducible refine g_on ?_); (first | ((with_reducible refine g_mv ?_); refine l_p txs rfl rfl ?_) | ((with_reducible refine g_pk ?_); refine l_p txs rfl rfl ?_))) | ((with_reducible refine g_if ?_); (first | ((with_reducible refine g_mv ?_); refine l_p txs rfl rfl ?_) | ((with_reducible refine g_un ?_); (refine l_p txs rfl rfl ?_)) | ((with_reducible refine g_ix ?_); refine l_ix txs rfl rfl (by first | omega | assumption | decide) (by first | omega | assumption | decide) ?_))))
          (with_reducible refine is_l ?_); refine l_t txs rfl rfl (fun h4 => ?_) (fun h4 => ?_)
          · rw [h1, h2, h3, decide_eq_false h4] at hD
            repeat' (first | (with_reducible first | refine p_tn ?_ | refine p_tr ?_ | refine p_br ?_ | refine wp_seq ?_ | refine w_reg ?_) | (with_reducible (refine is_if ?_; (refine w_ift rfl ?_))) | (with_reducible first | refine wp_ret ?_ | refine l_nil ?_) | ((with_reducible refine g_on ?_); (first | ((with_reducible refine g_as ?_); refine l_p txs rfl rfl ?_) | ((with_reducible refine g_pk ?_); refine l_p txs rfl rfl ?_))))
            refine end1 rfl rfl ?_
            exact ⟨by rw [valS_false _ (by rw [hD]; rfl)], H.B⟩
          · rw [h1, h2, h3, decide_eq_true (Classical.not_not.1 h4)] at hD
            repeat' (first | (with_reducible first | refine p_tn ?_ | refine p_bn ?_ | refine w_reg ?_) | (with_reducible (refine is_if ?_; (refine w_iff rfl ?_))) | (with_reducible first | refine wp_skip ?_ | refine l_nil ?_) | ((with_reducible refine g_on ?_); (first | ((with_reducible refine g_mv ?_); refine l_p txs rfl rfl ?_) | ((with_reducible refine g_as ?_); refine l_p txs rfl rfl ?_) | ((with_reducible refine g_pk ?_); refine l_p txs rfl rfl ?_) | ((with_reducible refine g_bi ?_); (refine l_a txs rfl rfl (by first | exact in_i64 (by omega) (by omega) | exact in_u8 (by omega) (by omega) | exact in_u64 (by omega) (by omega) | exact in_i32 (by omega) (by omega)) ?_)))))
            exact ⟨i + 1, _, rfl, ⟨rfl, rfl, trivial⟩, ⟨H, by omega, by rw [hD]; rfl⟩, by omega⟩
        · rw [h1, h2, h3] at hD
          repeat' (first | (with_reducible first | refine p_tn ?_ | refine p_bn ?_ | refine w_reg ?_) | (with_reducible (refine is_if ?_; (refine w_iff rfl ?_))) | (with_reducible first | refine wp_skip ?_ | refine l_nil ?_) | ((with_reducible refine g_on ?_); (first | ((with_reducible refine g_mv ?_); refine l_p txs rfl rfl ?_) | ((with_reducible refine g_as ?_); refine l_p txs rfl rfl ?_) | ((with_reducible refine g_pk ?_); refine l_p txs rfl rfl ?_) | ((with_reducible refine g_bi ?_); (refine l_a txs rfl rfl (by first | exact in_i64 (by omega) (by omega) | exact in_u8 (by omega) (by omega) | exact in_u64 (by omega) (by omega) | exact in_i32 (by omega) (by omega)) ?_)))) | ((with_reducible refine g_if ?_); (first | (refine l_off rfl ?_) | ((with_reducible refine g_un ?_); (refine l_p txs rfl rfl ?_)))))
          exact ⟨i + 1, _, rfl, ⟨rfl, rfl, trivial⟩, ⟨H, by omega, by rw [hD]; rfl⟩, by omega⟩
      · rw [h1, h2] at hD
        repeat' (first | (with_reducible first | refine p_tn ?_ | refine p_bn ?_ | refine w_reg ?_) | (with_reducible (refine is_if ?_; (refine w_iff rfl ?_))) | (with_reducible first | refine wp_skip ?_ | refine l_nil ?_) | ((with_reducible refine g_on ?_); (first | ((with_reducible refine g_mv ?_); refine l_p txs rfl rfl ?_) | ((with_reducible refine g_as ?_); refine l_p txs rfl rfl ?_) | ((with_reducible refine g_pk ?_); refine l_p txs rfl rfl ?_) | ((with_reducible refine g_bi ?_); (refine l_a txs rfl rfl (by first | exact in_i64 (by omega) (by omega) | exact in_u8 (by omega) (by omega) | exact in_u64 (by omega) (by omega) | exact in_i32 (by omega) (by omega)) ?_)))) | ((with_reducible refine g_if ?_); (first | (refine l_off rfl ?_) | ((with_reducible refine g_un ?_); (refine l_p txs rfl rfl ?_)))))
        exact ⟨i + 1, _, rfl, ⟨rfl, rfl, trivial⟩, ⟨H, by omega, by rw [hD]; simp⟩, by omega⟩
    · rw [h1] at hD
      repeat' (first | (with_reducible first | refine p_tn ?_ | refine p_bn ?_ | refine w_reg ?_) | (with_reducible (refine is_if ?_; (refine w_iff rfl ?_))) | (with_reducible first | refine wp_skip ?_ | refine l_nil ?_) | ((with_reducible refine g_on ?_); (first | ((with_reducible refine g_mv ?_); refine l_p txs rfl rfl ?_) | ((with_reducible refine g_as ?_); refine l_p txs rfl rfl ?_) | ((with_reducible refine g_pk ?_); refine l_p txs rfl rfl ?_) | ((with_reducible refine g_un ?_); (refine l_p txs rfl rfl ?_)) | ((with_reducible refine g_bi ?_); (refine l_a txs rfl rfl (by first | exact in_i64 (by omega) (by omega) | exact in_u8 (by omega) (by omega) | exact in_u64 (by omega) (by omega) | exact in_i32 (by omega) (by omega)) ?_)))) | ((with_reducible refine g_if ?_); (refine l_off rfl ?_)))
      exact ⟨i + 1, _, rfl, ⟨rfl, rfl, trivial⟩, ⟨H, by omega, by rw [hD]; simp⟩, by omega⟩
  · have hall : (bl s).drop i = [] := List.drop_eq_nil_of_le (by omega)
    rw [hall] at hD
    obtain ⟨k1, k2⟩ := visS_end tokB hD
    repeat' (first | (with_reducible first | refine p_tn ?_ | refine p_tx ?_ | refine x_hit ?_ | refine wp_seq ?_ | refine w_reg ?_) | (with_reducible (refine is_if ?_; (refine w_iff rfl ?_))) | (with_reducible first | refine wp_exit ?_ | refine l_nil ?_) | ((with_reducible refine g_on ?_); ((with_reducible refine g_mv ?_); refine l_p txs rfl rfl ?_)))
    (with_reducible refine is_l ?_); refine l_t txs rfl rfl (fun h1 => ?_) (fun h1 => ?_)
    · repeat' (first | (with_reducible first | refine p_tn ?_ | refine wp_ret ?_ | refine l_nil ?_) | ((with_reducible refine g_on ?_); ((with_reducible refine g_as ?_); refine l_p txs rfl rfl ?_)))
      refine end1 rfl rfl ?_
      exact ⟨by rw [k1 h1], H.B⟩
    · repeat' (first | (with_reducible first | refine p_tn ?_ | refine wp_ret ?_ | refine l_nil ?_) | ((with_reducible refine g_on ?_); ((with_reducible refine g_as ?_); refine l_p txs rfl rfl ?_)))
      refine end1 rfl rfl ?_
      exact ⟨by rw [k2 h1], H.B⟩
theorem size_pos {s : ByteArray} (h : bl s ≠ bl ⟨#[]⟩) : 0 < s.size := by
  have h1 : bl (⟨#[]⟩ : ByteArray) = [] := rfl
  rw [h1] at h
  rw [← bl_length]
  exact List.length_pos_iff.2 h
theorem size_zero {s : ByteArray} (h : ¬ bl s ≠ bl ⟨#[]⟩) : s.size = 0 := by
  have h1 : bl (⟨#[]⟩ : ByteArray) = [] := rfl
  rw [h1] at h
  rw [← bl_length, Classical.not_not.1 h]
  rfl
set_option maxHeartbeats 4000000 in
theorem rsmall_c (s : ByteArray) (w : World) (hs : s.size ≤ 1000000000) : Calls Tryz.prog 135 #[.string s] w fun e w' => e = .returned (.string (strOfNums (lowS (bl s)))) ∧ Below w.heap.size w w' := by
  refine enter (args := [.string s]) Tryz.func135 rfl Tryz.ntmps135 rfl ?_
  have hbl := bl_length s
  have H := (Hp.nil w).nilRow 5 1
  repeat' (first | (with_reducible first | refine p_tn ?_ | refine wp_seq ?_ | refine wp_block ?_ | refine w_reg ?_ | refine l_nil ?_) | ((with_reducible refine g_on ?_); ((with_reducible refine g_as ?_); refine l_p txs rfl rfl ?_)))
  refine w_loop (σ := Nat × Option Addr × Nat) (S := fun s' => [(0, .string s), (3, .slice s'.2.1 (lowS ((bl s).take s'.1)).length s'.2.2), (4, .int .i64 (s'.1 : Int))])
    (J := fun s' w' => Hp w w' [] [rowB (.slice s'.2.1 (lowS ((bl s).take s'.1)).length s'.2.2) (lowS ((bl s).take s'.1))] ∧ s'.1 ≤ s.size) (μ := fun s' => s.size - s'.1) (0, none, 0) ⟨rfl, rfl, rfl, trivial⟩ ⟨H, by omega⟩ ?_
  rintro ⟨i, A2, c2⟩ f w_ ⟨H, hi⟩
  simp only at H hi ⊢
  repeat' (first | (with_reducible first | refine wp_seq ?_ | refine w_reg ?_) | ((with_reducible refine g_on ?_); (first | ((with_reducible refine g_mv ?_); refine l_p txs rfl rfl ?_) | ((with_reducible refine g_cl ?_); refine l_p txs rfl rfl ?_))))
  (with_reducible refine is_l ?_); refine l_t txs rfl rfl (fun hlt => ?_) (fun hge => ?_)
  · obtain ⟨x, hx⟩ : ∃ x, (bl s)[i]? = some x := ⟨_, List.getElem?_eq_getElem (by omega)⟩
    have hx2 := bl_bytes s x (List.mem_of_getElem? hx)
    have hlow := low_take hx
    have hl0 : (lowS ((bl s).take i)).length = i := by unfold lowS; rw [List.length_map, List.length_take]; omega
    have hl1 : (lowS ((bl s).take (i + 1))).length = (lowS ((bl s).take i)).length + 1 := by rw [hlow]; simp
    have hat : at_ (bl s) (i : Int) = x := by unfold at_; rw [Int.toNat_natCast, List.getD_eq_getElem?_getD, hx]; rfl
    repeat' (first | (with_reducible first | refine p_tn ?_ | refine wp_seq ?_ | refine wp_block ?_ | refine w_reg ?_) | (with_reducible (refine is_if ?_; (refine w_ift rfl ?_))) | (with_reducible first | refine wp_skip ?_ | refine l_nil ?_) | ((with_reducible refine g_on ?_); (first | ((with_reducible refine g_mv ?_); refine l_p txs rfl rfl ?_) | ((with_reducible refine g_as ?_); refine l_p txs rfl rfl ?_) | ((with_reducible refine g_ix ?_); refine l_ix txs rfl rfl (by first | omega | assumption | decide) (by first | omega | assumption | decide) ?_))))
    rw [hat]
    skip
    (with_reducible refine is_l ?_); refine l_t txs rfl rfl (fun h1 => ?_) (fun h1 => ?_)
    · repeat' (first | ((with_reducible refine g_on ?_); ((with_reducible refine g_mv ?_); refine l_p txs rfl rfl ?_)) | ((with_reducible refine g_if ?_); ((with_reducible refine g_mv ?_); refine l_p txs rfl rfl ?_)))
      (with_reducible refine is_l ?_); refine l_t txs rfl rfl (fun h2 => ?_) (fun h2 => ?_)
      · have hxe : lowB x = x + 32 := if_pos ⟨by omega, by omega⟩
        repeat' (first | (with_reducible first | refine p_tn ?_ | refine w_reg ?_) | (with_reducible (refine is_if ?_; (refine w_ift rfl ?_))) | (with_reducible refine l_nil ?_) | ((with_reducible refine g_on ?_); (first | ((with_reducible refine g_mv ?_); refine l_p txs rfl rfl ?_) | ((with_reducible refine g_as ?_); refine l_p txs rfl rfl ?_) | ((with_reducible refine g_pk ?_); refine l_p txs rfl rfl ?_) | ((with_reducible refine g_bi ?_); (refine l_a txs rfl rfl (by first | exact in_i64 (by omega) (by omega) | exact in_u8 (by omega) (by omega) | exact in_u64 (by omega) (by omega) | exact in_i32 (by omega) (by omega)) ?_)))))
        (with_reducible refine is_l ?_); refine h_bs H info_u8 Tryz.underlying23 (by decide) (by decide) rfl rfl (by kernel_rfl) (fun g_ w_ H => ?_)
        (with_reducible refine is_l ?_); refine h_app H 0 rfl info_u8 Tryz.underlying23 rfl rfl rfl rfl (H.cellRd 0 rfl) rfl rfl (by show ((lowS ((bl s).take i)).length + 1) * 1 ≤ _; omega) (fun v w_ hv H => ?_)
        obtain ⟨A', c', rfl⟩ := hv
        have H := H.pick [] [0] (by decide) (by decide) rfl rfl
        repeat' (first | (with_reducible first | refine p_tn ?_ | refine p_bn ?_ | refine w_reg ?_ | refine l_nil ?_) | ((with_reducible refine g_on ?_); (first | ((with_reducible refine g_mv ?_); refine l_p txs rfl rfl ?_) | ((with_reducible refine g_as ?_); refine l_p txs rfl rfl ?_) | ((with_reducible refine g_bi ?_); (refine l_a txs rfl rfl (by first | exact in_i64 (by omega) (by omega) | exact in_u8 (by omega) (by omega) | exact in_u64 (by omega) (by omega) | exact in_i32 (by omega) (by omega)) ?_)))))
        refine ⟨(i + 1, A', c'), _, rfl, ⟨rfl, ?_, rfl, trivial⟩, ⟨?_, by show i + 1 ≤ _; omega⟩, by show _ - (i + 1) < _ - i; omega⟩
        · show Value.slice A' ((lowS ((bl s).take i)).length + 1) c' = Value.slice A' (lowS ((bl s).take (i + 1))).length c'
          rw [hl1]
        · show Hp w _ [] [rowB (.slice A' (lowS ((bl s).take (i + 1))).length c') (lowS ((bl s).take (i + 1)))]
          unfold rowB
          rw [hl1, hlow, hxe, nums_append]
          exact H
      · have hxe : lowB x = x := if_neg (by omega)
        repeat' (first | (with_reducible first | refine p_tn ?_ | refine w_reg ?_) | (with_reducible (refine is_if ?_; (refine w_iff rfl ?_))) | (with_reducible first | refine wp_skip ?_ | refine l_nil ?_) | ((with_reducible refine g_on ?_); (first | ((with_reducible refine g_mv ?_); refine l_p txs rfl rfl ?_) | ((with_reducible refine g_pk ?_); refine l_p txs rfl rfl ?_))))
        (with_reducible refine is_l ?_); refine h_bs H info_u8 Tryz.underlying23 (by decide) (by decide) rfl rfl (by kernel_rfl) (fun g_ w_ H => ?_)
        (with_reducible refine is_l ?_); refine h_app H 0 rfl info_u8 Tryz.underlying23 rfl rfl rfl rfl (H.cellRd 0 rfl) rfl rfl (by show ((lowS ((bl s).take i)).length + 1) * 1 ≤ _; omega) (fun v w_ hv H => ?_)
        obtain ⟨A', c', rfl⟩ := hv
        have H := H.pick [] [0] (by decide) (by decide) rfl rfl
        repeat' (first | (with_reducible first | refine p_tn ?_ | refine p_bn ?_ | refine w_reg ?_ | refine l_nil ?_) | ((with_reducible refine g_on ?_); (first | ((with_reducible refine g_mv ?_); refine l_p txs rfl rfl ?_) | ((with_reducible refine g_as ?_); refine l_p txs rfl rfl ?_) | ((with_reducible refine g_bi ?_); (refine l_a txs rfl rfl (by first | exact in_i64 (by omega) (by omega) | exact in_u8 (by omega) (by omega) | exact in_u64 (by omega) (by omega) | exact in_i32 (by omega) (by omega)) ?_)))))
        refine ⟨(i + 1, A', c'), _, rfl, ⟨rfl, ?_, rfl, trivial⟩, ⟨?_, by show i + 1 ≤ _; omega⟩, by show _ - (i + 1) < _ - i; omega⟩
        · show Value.slice A' ((lowS ((bl s).take i)).length + 1) c' = Value.slice A' (lowS ((bl s).take (i + 1))).length c'
          rw [hl1]
        · show Hp w _ [] [rowB (.slice A' (lowS ((bl s).take (i + 1))).length c') (lowS ((bl s).take (i + 1)))]
          unfold rowB
          rw [hl1, hlow, hxe, nums_append]
          exact H
    · have hxe : lowB x = x := if_neg (by omega)
      repeat' (first | (with_reducible first | refine p_tn ?_ | refine w_reg ?_) | (with_reducible (refine is_if ?_; (refine w_iff rfl ?_))) | (with_reducible first | refine wp_skip ?_ | refine l_nil ?_) | ((with_reducible refine g_on ?_); (first | ((with_reducible refine g_mv ?_); refine l_p txs rfl rfl ?_) | ((with_reducible refine g_pk ?_); refine l_p txs rfl rfl ?_))) | ((with_reducible refine g_if ?_); (refine l_off rfl ?_)))
      (with_reducible refine is_l ?_); refine h_bs H info_u8 Tryz.underlying23 (by decide) (by decide) rfl rfl (by kernel_rfl) (fun g_ w_ H => ?_)
      (with_reducible refine is_l ?_); refine h_app H 0 rfl info_u8 Tryz.underlying23 rfl rfl rfl rfl (H.cellRd 0 rfl) rfl rfl (by show ((lowS ((bl s).take i)).length + 1) * 1 ≤ _; omega) (fun v w_ hv H => ?_)
      obtain ⟨A', c', rfl⟩ := hv
      have H := H.pick [] [0] (by decide) (by decide) rfl rfl
      repeat' (first | (with_reducible first | refine p_tn ?_ | refine p_bn ?_ | refine w_reg ?_ | refine l_nil ?_) | ((with_reducible refine g_on ?_); (first | ((with_reducible refine g_mv ?_); refine l_p txs rfl rfl ?_) | ((with_reducible refine g_as ?_); refine l_p txs rfl rfl ?_) | ((with_reducible refine g_bi ?_); (refine l_a txs rfl rfl (by first | exact in_i64 (by omega) (by omega) | exact in_u8 (by omega) (by omega) | exact in_u64 (by omega) (by omega) | exact in_i32 (by omega) (by omega)) ?_)))))
      refine ⟨(i + 1, A', c'), _, rfl, ⟨rfl, ?_, rfl, trivial⟩, ⟨?_, by show i + 1 ≤ _; omega⟩, by show _ - (i + 1) < _ - i; omega⟩
      · show Value.slice A' ((lowS ((bl s).take i)).length + 1) c' = Value.slice A' (lowS ((bl s).take (i + 1))).length c'
        rw [hl1]
      · show Hp w _ [] [rowB (.slice A' (lowS ((bl s).take (i + 1))).length c') (lowS ((bl s).take (i + 1)))]
        unfold rowB
        rw [hl1, hlow, hxe, nums_append]
        exact H
  · have hall : (bl s).take i = bl s := List.take_of_length_le (by omega)
    simp only [hall] at H ⊢
    repeat' (first | (with_reducible first | refine p_tn ?_ | refine p_tx ?_ | refine x_hit ?_ | refine wp_seq ?_ | refine w_reg ?_) | (with_reducible (refine is_if ?_; (refine w_iff rfl ?_))) | (with_reducible first | refine wp_exit ?_ | refine l_nil ?_) | ((with_reducible refine g_on ?_); ((with_reducible refine g_mv ?_); refine l_p txs rfl rfl ?_)))
    (with_reducible refine is_l ?_); refine l_text rfl rfl Tryz.underlying23 Tryz.underlying5 Tryz.underlying9 (rowB_rd H 0 (F := A2) (f := c2) (x := lowS (bl s)) rfl).1 ?_
    repeat' (first | (with_reducible first | refine p_tn ?_ | refine wp_ret ?_ | refine l_nil ?_) | ((with_reducible refine g_on ?_); ((with_reducible refine g_as ?_); refine l_p txs rfl rfl ?_)))
    refine end1 rfl rfl ?_
    exact ⟨rfl, H.B⟩
set_option maxHeartbeats 4000000 in
theorem rtrim_c (s : ByteArray) (w : World) (hs : s.size ≤ 1000000000) : Calls Tryz.prog 136 #[.string s] w fun e w' => e = .returned (.string (strOfNums (trimS (bl s)))) ∧ Below w.heap.size w w' := by
  refine enter (args := [.string s]) Tryz.func136 rfl Tryz.ntmps136 rfl ?_
  have H := Hp.nil w
  repeat' (first | (with_reducible first | refine p_tn ?_ | refine wp_seq ?_ | refine wp_block ?_ | refine w_reg ?_ | refine l_nil ?_) | ((with_reducible refine g_on ?_); ((with_reducible refine g_as ?_); refine l_p txs rfl rfl ?_)))
  refine w_loop (σ := ByteArray) (S := fun u => [(0, .string u)]) (J := fun u w' => Hp w w' [] [] ∧ (bl s).dropWhile blkB = (bl u).dropWhile blkB ∧ u.size ≤ s.size) (μ := fun u => u.size) s ⟨rfl, trivial⟩ ⟨H, rfl, Nat.le_refl _⟩ ?_
  rintro u f w_ ⟨H, hd, hu⟩
  have hbl := bl_length u
  have cut : ∀ x, (bl u)[0]? = some x → blkB x = true → (bl s).dropWhile blkB = (bl (u.extract 1 u.size)).dropWhile blkB ∧ (u.extract 1 u.size).size < u.size := by
    intro x hx hb
    have h1 := cons_of hx
    have h2 : 0 < u.size := by have := (List.getElem?_eq_some_iff.1 hx).1; omega
    have h3 : bl (u.extract 1 u.size) = (bl u).drop 1 := by rw [blE, List.take_of_length_le (by rw [List.length_drop]; omega)]
    refine ⟨?_, ?_⟩
    · rw [hd, h3, h1, drop_blk hb]; rfl
    · rw [← bl_length, h3, List.length_drop]; omega
  have done : (∀ x, (bl u)[0]? = some x → blkB x = false) → (bl s).dropWhile blkB = bl u := by
    intro h
    cases hl : bl u with
    | nil => rw [hd, hl]; rfl
    | cons x r => rw [hd, hl]; exact drop_nblk (h x (by rw [hl]; rfl))
  repeat' (first | (with_reducible first | refine wp_seq ?_ | refine w_reg ?_) | ((with_reducible refine g_on ?_); ((with_reducible refine g_mv ?_); refine l_p txs rfl rfl ?_)))
  (with_reducible refine is_l ?_); refine l_t txs rfl rfl (fun hne => ?_) (fun heq => ?_)
  · have hlt : 0 < u.size := size_pos hne
    obtain ⟨x, hx⟩ : ∃ x, (bl u)[0]? = some x := ⟨_, List.getElem?_eq_getElem (by omega)⟩
    have hx2 := bl_bytes u x (List.mem_of_getElem? hx)
    have hat : at_ (bl u) 0 = x := by show (bl u).getD 0 0 = x; rw [List.getD_eq_getElem?_getD, hx]; rfl
    repeat' (first | ((with_reducible refine g_on ?_); ((with_reducible refine g_mv ?_); refine l_p txs rfl rfl ?_)) | ((with_reducible refine g_if ?_); (first | ((with_reducible refine g_mv ?_); refine l_p txs rfl rfl ?_) | ((with_reducible refine g_ix ?_); refine l_ix txs rfl rfl (by first | omega | assumption | decide) (by first | omega | assumption | decide) ?_))))
    rw [hat]
    skip
    (with_reducible refine is_l ?_); refine l_t txs rfl rfl (fun h1 => ?_) (fun h1 => ?_)
    · obtain ⟨k1, k2⟩ := cut x hx (by unfold blkB; rw [h1]; rfl)
      repeat' (first | (with_reducible first | refine p_tn ?_ | refine p_bn ?_ | refine wp_block ?_ | refine w_reg ?_) | (with_reducible (refine is_if ?_; (refine w_ift rfl ?_))) | (with_reducible first | refine wp_skip ?_ | refine l_nil ?_) | ((with_reducible refine g_on ?_); (first | ((with_reducible refine g_mv ?_); refine l_p txs rfl rfl ?_) | ((with_reducible refine g_as ?_); refine l_p txs rfl rfl ?_) | ((with_reducible refine g_pk ?_); refine l_p txs rfl rfl ?_) | ((with_reducible refine g_sl ?_); refine l_sl txs rfl rfl (by first | omega | assumption | decide) (by first | omega | assumption | decide) (by first | omega | assumption | decide) ?_))) | ((with_reducible refine g_if ?_); (first | (refine l_off rfl ?_) | ((with_reducible refine g_mv ?_); refine l_p txs rfl rfl ?_) | ((with_reducible refine g_pk ?_); refine l_p txs rfl rfl ?_))))
      exact ⟨u.extract 1 u.size, _, rfl, ⟨rfl, trivial⟩, ⟨H, k1, by omega⟩, k2⟩
    · repeat' ((with_reducible refine g_if ?_); (first | ((with_reducible refine g_mv ?_); refine l_p txs rfl rfl ?_) | ((with_reducible refine g_ix ?_); refine l_ix txs rfl rfl (by first | omega | assumption | decide) (by first | omega | assumption | decide) ?_)))
      rw [hat]
      skip
      (with_reducible refine is_l ?_); refine l_t txs rfl rfl (fun h2 => ?_) (fun h2 => ?_)
      · obtain ⟨k1, k2⟩ := cut x hx (by unfold blkB; rw [h2]; rfl)
        repeat' (first | (with_reducible first | refine p_tn ?_ | refine p_bn ?_ | refine wp_block ?_ | refine w_reg ?_) | (with_reducible (refine is_if ?_; (refine w_ift rfl ?_))) | (with_reducible first | refine wp_skip ?_ | refine l_nil ?_) | ((with_reducible refine g_on ?_); (first | ((with_reducible refine g_mv ?_); refine l_p txs rfl rfl ?_) | ((with_reducible refine g_as ?_); refine l_p txs rfl rfl ?_) | ((with_reducible refine g_pk ?_); refine l_p txs rfl rfl ?_) | ((with_reducible refine g_sl ?_); refine l_sl txs rfl rfl (by first | omega | assumption | decide) (by first | omega | assumption | decide) (by first | omega | assumption | decide) ?_))) | ((with_reducible refine g_if ?_); ((with_reducible refine g_pk ?_); refine l_p txs rfl rfl ?_)))
        exact ⟨u.extract 1 u.size, _, rfl, ⟨rfl, trivial⟩, ⟨H, k1, by omega⟩, k2⟩
      · have hdu := done (fun y hy => by rw [hx] at hy; injection hy with hy; subst hy; unfold blkB; simp [h1, h2])
        repeat' (first | (with_reducible first | refine p_tn ?_ | refine p_tx ?_ | refine x_hit ?_ | refine wp_seq ?_ | refine wp_block ?_) | (with_reducible (refine is_if ?_; (refine w_iff rfl ?_))) | (with_reducible first | refine wp_exit ?_ | refine l_nil ?_) | ((with_reducible refine g_on ?_); ((with_reducible refine g_pk ?_); refine l_p txs rfl rfl ?_)) | ((with_reducible refine g_if ?_); ((with_reducible refine g_pk ?_); refine l_p txs rfl rfl ?_)))
        refine w_loop (σ := ByteArray) (S := fun v => [(0, .string v)]) (J := fun v w' => Hp w w' [] [] ∧ trimR (bl u) = trimR (bl v) ∧ v.size ≤ u.size) (μ := fun v => v.size) u ⟨rfl, trivial⟩ ⟨H, rfl, Nat.le_refl _⟩ ?_
        rintro v f w_ ⟨H, hv, hvu⟩
        have hvl := bl_length v
        have cut2 : ∀ x, (bl v)[v.size - 1]? = some x → blkB x = true → trimR (bl u) = trimR (bl (v.extract 0 (v.size - 1))) ∧ (v.extract 0 (v.size - 1)).size < v.size := by
          intro x hx hb
          have h2 : v.size - 1 < (bl v).length := (List.getElem?_eq_some_iff.1 hx).1
          have h1 := snoc_of hx (by omega)
          have h3 : bl (v.extract 0 (v.size - 1)) = (bl v).take (v.size - 1) := by rw [blE]; simp
          refine ⟨?_, ?_⟩
          · rw [hv, h3]
            conv => lhs; rw [h1]
            exact trimR_blk hb
          · rw [← bl_length, h3, List.length_take]; omega
        have done2 : (∀ x, (bl v)[v.size - 1]? = some x → blkB x = false) → Value.string v = Value.string (strOfNums (trimS (bl s))) := by
          intro h
          unfold trimS
          rw [hdu, hv]
          have : trimR (bl v) = bl v := by
            cases hz : v.size with
            | zero => have : bl v = [] := List.length_eq_zero_iff.1 (by omega); rw [this]; rfl
            | succ k =>
              have hx : (bl v)[k]? = some (bl v)[k] := List.getElem?_eq_getElem (by omega)
              have h1 := snoc_of hx (by omega)
              rw [h1]
              exact trimR_nblk (h _ (by rw [hz]; exact hx))
          rw [this, strS]
        repeat' (first | (with_reducible first | refine wp_seq ?_ | refine w_reg ?_) | ((with_reducible refine g_on ?_); ((with_reducible refine g_mv ?_); refine l_p txs rfl rfl ?_)))
        (with_reducible refine is_l ?_); refine l_t txs rfl rfl (fun hne2 => ?_) (fun heq2 => ?_)
        · have hlt : 0 < v.size := size_pos hne2
          obtain ⟨x, hx⟩ : ∃ x, (bl v)[v.size - 1]? = some x := ⟨_, List.getElem?_eq_getElem (by omega)⟩
          have hx2 := bl_bytes v x (List.mem_of_getElem? hx)
          have hat : at_ (bl v) ((v.size : Int) - 1) = x := by unfold at_; rw [show ((v.size : Int) - 1).toNat = v.size - 1 by omega, List.getD_eq_getElem?_getD, hx]; rfl
          have hto : ((v.size : Int) - 1).toNat = v.size - 1 := by omega
          repeat' (first | ((with_reducible refine g_on ?_); ((with_reducible refine g_mv ?_); refine l_p txs rfl rfl ?_)) | ((with_reducible refine g_if ?_); (first | ((with_reducible refine g_mv ?_); refine l_p txs rfl rfl ?_) | ((with_reducible refine g_cl ?_); refine l_p txs rfl rfl ?_) | ((with_reducible refine g_ix ?_); refine l_ix txs rfl rfl (by first | omega | assumption | decide) (by first | omega | assumption | decide) ?_) | ((with_reducible refine g_bi ?_); (refine l_a txs rfl rfl (by first | exact in_i64 (by omega) (by omega) | exact in_u8 (by omega) (by omega) | exact in_u64 (by omega) (by omega) | exact in_i32 (by omega) (by omega)) ?_)))))
          rw [hat]
          skip
          (with_reducible refine is_l ?_); refine l_t txs rfl rfl (fun h1 => ?_) (fun h1 => ?_)
          · obtain ⟨k1, k2⟩ := cut2 x hx (by unfold blkB; rw [h1]; rfl)
            repeat' (first | (with_reducible first | refine p_tn ?_ | refine p_bn ?_ | refine wp_block ?_ | refine w_reg ?_) | (with_reducible (refine is_if ?_; (refine w_ift rfl ?_))) | (with_reducible first | refine wp_skip ?_ | refine l_nil ?_) | ((with_reducible refine g_on ?_); (first | ((with_reducible refine g_mv ?_); refine l_p txs rfl rfl ?_) | ((with_reducible refine g_as ?_); refine l_p txs rfl rfl ?_) | ((with_reducible refine g_pk ?_); refine l_p txs rfl rfl ?_) | ((with_reducible refine g_cl ?_); refine l_p txs rfl rfl ?_) | ((with_reducible refine g_sl ?_); refine l_sl txs rfl rfl (by first | omega | assumption | decide) (by first | omega | assumption | decide) (by first | omega | assumption | decide) ?_) | ((with_reducible refine g_bi ?_); (refine l_a txs rfl rfl (by first | exact in_i64 (by omega) (by omega) | exact in_u8 (by omega) (by omega) | exact in_u64 (by omega) (by omega) | exact in_i32 (by omega) (by omega)) ?_)))) | ((with_reducible refine g_if ?_); (first | (refine l_off rfl ?_) | ((with_reducible refine g_mv ?_); refine l_p txs rfl rfl ?_) | ((with_reducible refine g_pk ?_); refine l_p txs rfl rfl ?_))))
            exact ⟨v.extract 0 (v.size - 1), _, rfl, ⟨by show Value.string (v.extract _ _) = _; rw [hto]; rfl, trivial⟩, ⟨H, k1, by omega⟩, k2⟩
          · repeat' ((with_reducible refine g_if ?_); (first | ((with_reducible refine g_mv ?_); refine l_p txs rfl rfl ?_) | ((with_reducible refine g_cl ?_); refine l_p txs rfl rfl ?_) | ((with_reducible refine g_ix ?_); refine l_ix txs rfl rfl (by first | omega | assumption | decide) (by first | omega | assumption | decide) ?_) | ((with_reducible refine g_bi ?_); (refine l_a txs rfl rfl (by first | exact in_i64 (by omega) (by omega) | exact in_u8 (by omega) (by omega) | exact in_u64 (by omega) (by omega) | exact in_i32 (by omega) (by omega)) ?_))))
            rw [hat]
            skip
            (with_reducible refine is_l ?_); refine l_t txs rfl rfl (fun h2 => ?_) (fun h2 => ?_)
            · obtain ⟨k1, k2⟩ := cut2 x hx (by unfold blkB; rw [h2]; rfl)
              repeat' (first | (with_reducible first | refine p_tn ?_ | refine p_bn ?_ | refine wp_block ?_ | refine w_reg ?_) | (with_reducible (refine is_if ?_; (refine w_ift rfl ?_))) | (with_reducible first | refine wp_skip ?_ | refine l_nil ?_) | ((with_reducible refine g_on ?_); (first | ((with_reducible refine g_mv ?_); refine l_p txs rfl rfl ?_) | ((with_reducible refine g_as ?_); refine l_p txs rfl rfl ?_) | ((with_reducible refine g_pk ?_); refine l_p txs rfl rfl ?_) | ((with_reducible refine g_cl ?_); refine l_p txs rfl rfl ?_) | ((with_reducible refine g_sl ?_); refine l_sl txs rfl rfl (by first | omega | assumption | decide) (by first | omega | assumption | decide) (by first | omega | assumption | decide) ?_) | ((with_reducible refine g_bi ?_); (refine l_a txs rfl rfl (by first | exact in_i64 (by omega) (by omega) | exact in_u8 (by omega) (by omega) | exact in_u64 (by omega) (by omega) | exact in_i32 (by omega) (by omega)) ?_)))) | ((with_reducible refine g_if ?_); ((with_reducible refine g_pk ?_); refine l_p txs rfl rfl ?_)))
              exact ⟨v.extract 0 (v.size - 1), _, rfl, ⟨by show Value.string (v.extract _ _) = _; rw [hto]; rfl, trivial⟩, ⟨H, k1, by omega⟩, k2⟩
            · have he := done2 (fun y hy => by rw [hx] at hy; injection hy with hy; subst hy; unfold blkB; simp [h1, h2])
              repeat' (first | (with_reducible first | refine p_tn ?_ | refine p_tx ?_ | refine x_hit ?_ | refine wp_seq ?_ | refine w_reg ?_) | (with_reducible (refine is_if ?_; (refine w_iff rfl ?_))) | (with_reducible first | refine wp_exit ?_ | refine wp_ret ?_ | refine l_nil ?_) | ((with_reducible refine g_on ?_); (first | ((with_reducible refine g_mv ?_); refine l_p txs rfl rfl ?_) | ((with_reducible refine g_as ?_); refine l_p txs rfl rfl ?_) | ((with_reducible refine g_pk ?_); refine l_p txs rfl rfl ?_))) | ((with_reducible refine g_if ?_); ((with_reducible refine g_pk ?_); refine l_p txs rfl rfl ?_)))
              refine end1 rfl rfl ?_
              exact ⟨by rw [he], H.B⟩
        · have hge : v.size = 0 := size_zero heq2
          have he := done2 (fun y hy => by rw [List.getElem?_eq_none (by omega)] at hy; cases hy)
          repeat' (first | (with_reducible first | refine p_tn ?_ | refine p_tx ?_ | refine x_hit ?_ | refine wp_seq ?_ | refine w_reg ?_) | (with_reducible (refine is_if ?_; (refine w_iff rfl ?_))) | (with_reducible first | refine wp_exit ?_ | refine wp_ret ?_ | refine l_nil ?_) | ((with_reducible refine g_on ?_); (first | ((with_reducible refine g_mv ?_); refine l_p txs rfl rfl ?_) | ((with_reducible refine g_as ?_); refine l_p txs rfl rfl ?_) | ((with_reducible refine g_pk ?_); refine l_p txs rfl rfl ?_))) | ((with_reducible refine g_if ?_); (refine l_off rfl ?_)))
          refine end1 rfl rfl ?_
          exact ⟨by rw [he], H.B⟩
  · have hge : u.size = 0 := size_zero heq
    have hdu := done (fun y hy => by rw [List.getElem?_eq_none (by omega)] at hy; cases hy)
    repeat' (first | (with_reducible first | refine p_tn ?_ | refine p_tx ?_ | refine x_hit ?_ | refine wp_seq ?_ | refine wp_block ?_) | (with_reducible (refine is_if ?_; (refine w_iff rfl ?_))) | (with_reducible first | refine wp_exit ?_ | refine l_nil ?_) | ((with_reducible refine g_on ?_); (first | ((with_reducible refine g_mv ?_); refine l_p txs rfl rfl ?_) | ((with_reducible refine g_pk ?_); refine l_p txs rfl rfl ?_))) | ((with_reducible refine g_if ?_); (refine l_off rfl ?_)))
    refine w_loop (σ := ByteArray) (S := fun v => [(0, .string v)]) (J := fun v w' => Hp w w' [] [] ∧ trimR (bl u) = trimR (bl v) ∧ v.size ≤ u.size) (μ := fun v => v.size) u ⟨rfl, trivial⟩ ⟨H, rfl, Nat.le_refl _⟩ ?_
    rintro v f w_ ⟨H, hv, hvu⟩
    have hvl := bl_length v
    have cut2 : ∀ x, (bl v)[v.size - 1]? = some x → blkB x = true → trimR (bl u) = trimR (bl (v.extract 0 (v.size - 1))) ∧ (v.extract 0 (v.size - 1)).size < v.size := by
      intro x hx hb
      have h2 : v.size - 1 < (bl v).length := (List.getElem?_eq_some_iff.1 hx).1
      have h1 := snoc_of hx (by omega)
      have h3 : bl (v.extract 0 (v.size - 1)) = (bl v).take (v.size - 1) := by rw [blE]; simp
      refine ⟨?_, ?_⟩
      · rw [hv, h3]
        conv => lhs; rw [h1]
        exact trimR_blk hb
      · rw [← bl_length, h3, List.length_take]; omega
    have done2 : (∀ x, (bl v)[v.size - 1]? = some x → blkB x = false) → Value.string v = Value.string (strOfNums (trimS (bl s))) := by
      intro h
      unfold trimS
      rw [hdu, hv]
      have : trimR (bl v) = bl v := by
        cases hz : v.size with
        | zero => have : bl v = [] := List.length_eq_zero_iff.1 (by omega); rw [this]; rfl
        | succ k =>
          have hx : (bl v)[k]? = some (bl v)[k] := List.getElem?_eq_getElem (by omega)
          have h1 := snoc_of hx (by omega)
          rw [h1]
          exact trimR_nblk (h _ (by rw [hz]; exact hx))
      rw [this, strS]
    repeat' (first | (with_reducible first | refine wp_seq ?_ | refine w_reg ?_) | ((with_reducible refine g_on ?_); ((with_reducible refine g_mv ?_); refine l_p txs rfl rfl ?_)))
    (with_reducible refine is_l ?_); refine l_t txs rfl rfl (fun hne2 => ?_) (fun heq2 => ?_)
    · have hlt : 0 < v.size := size_pos hne2
      obtain ⟨x, hx⟩ : ∃ x, (bl v)[v.size - 1]? = some x := ⟨_, List.getElem?_eq_getElem (by omega)⟩
      have hx2 := bl_bytes v x (List.mem_of_getElem? hx)
      have hat : at_ (bl v) ((v.size : Int) - 1) = x := by unfold at_; rw [show ((v.size : Int) - 1).toNat = v.size - 1 by omega, List.getD_eq_getElem?_getD, hx]; rfl
      have hto : ((v.size : Int) - 1).toNat = v.size - 1 := by omega
      repeat' (first | ((with_reducible refine g_on ?_); ((with_reducible refine g_mv ?_); refine l_p txs rfl rfl ?_)) | ((with_reducible refine g_if ?_); (first | ((with_reducible refine g_mv ?_); refine l_p txs rfl rfl ?_) | ((with_reducible refine g_cl ?_); refine l_p txs rfl rfl ?_) | ((with_reducible refine g_ix ?_); refine l_ix txs rfl rfl (by first | omega | assumption | decide) (by first | omega | assumption | decide) ?_) | ((with_reducible refine g_bi ?_); (refine l_a txs rfl rfl (by first | exact in_i64 (by omega) (by omega) | exact in_u8 (by omega) (by omega) | exact in_u64 (by omega) (by omega) | exact in_i32 (by omega) (by omega)) ?_)))))
      rw [hat]
      skip
      (with_reducible refine is_l ?_); refine l_t txs rfl rfl (fun h1 => ?_) (fun h1 => ?_)
      · obtain ⟨k1, k2⟩ := cut2 x hx (by unfold blkB; rw [h1]; rfl)
        repeat' (first | (with_reducible first | refine p_tn ?_ | refine p_bn ?_ | refine wp_block ?_ | refine w_reg ?_) | (with_reducible (refine is_if ?_; (refine w_ift rfl ?_))) | (with_reducible first | refine wp_skip ?_ | refine l_nil ?_) | ((with_reducible refine g_on ?_); (first | ((with_reducible refine g_mv ?_); refine l_p txs rfl rfl ?_) | ((with_reducible refine g_as ?_); refine l_p txs rfl rfl ?_) | ((with_reducible refine g_pk ?_); refine l_p txs rfl rfl ?_) | ((with_reducible refine g_cl ?_); refine l_p txs rfl rfl ?_) | ((with_reducible refine g_sl ?_); refine l_sl txs rfl rfl (by first | omega | assumption | decide) (by first | omega | assumption | decide) (by first | omega | assumption | decide) ?_) | ((with_reducible refine g_bi ?_); (refine l_a txs rfl rfl (by first | exact in_i64 (by omega) (by omega) | exact in_u8 (by omega) (by omega) | exact in_u64 (by omega) (by omega) | exact in_i32 (by omega) (by omega)) ?_)))) | ((with_reducible refine g_if ?_); (first | (refine l_off rfl ?_) | ((with_reducible refine g_mv ?_); refine l_p txs rfl rfl ?_) | ((with_reducible refine g_pk ?_); refine l_p txs rfl rfl ?_))))
        exact ⟨v.extract 0 (v.size - 1), _, rfl, ⟨by show Value.string (v.extract _ _) = _; rw [hto]; rfl, trivial⟩, ⟨H, k1, by omega⟩, k2⟩
      · repeat' ((with_reducible refine g_if ?_); (first | ((with_reducible refine g_mv ?_); refine l_p txs rfl rfl ?_) | ((with_reducible refine g_cl ?_); refine l_p txs rfl rfl ?_) | ((with_reducible refine g_ix ?_); refine l_ix txs rfl rfl (by first | omega | assumption | decide) (by first | omega | assumption | decide) ?_) | ((with_reducible refine g_bi ?_); (refine l_a txs rfl rfl (by first | exact in_i64 (by omega) (by omega) | exact in_u8 (by omega) (by omega) | exact in_u64 (by omega) (by omega) | exact in_i32 (by omega) (by omega)) ?_))))
        rw [hat]
        skip
        (with_reducible refine is_l ?_); refine l_t txs rfl rfl (fun h2 => ?_) (fun h2 => ?_)
        · obtain ⟨k1, k2⟩ := cut2 x hx (by unfold blkB; rw [h2]; rfl)
          repeat' (first | (with_reducible first | refine p_tn ?_ | refine p_bn ?_ | refine wp_block ?_ | refine w_reg ?_) | (with_reducible (refine is_if ?_; (refine w_ift rfl ?_))) | (with_reducible first | refine wp_skip ?_ | refine l_nil ?_) | ((with_reducible refine g_on ?_); (first | ((with_reducible refine g_mv ?_); refine l_p txs rfl rfl ?_) | ((with_reducible refine g_as ?_); refine l_p txs rfl rfl ?_) | ((with_reducible refine g_pk ?_); refine l_p txs rfl rfl ?_) | ((with_reducible refine g_cl ?_); refine l_p txs rfl rfl ?_) | ((with_reducible refine g_sl ?_); refine l_sl txs rfl rfl (by first | omega | assumption | decide) (by first | omega | assumption | decide) (by first | omega | assumption | decide) ?_) | ((with_reducible refine g_bi ?_); (refine l_a txs rfl rfl (by first | exact in_i64 (by omega) (by omega) | exact in_u8 (by omega) (by omega) | exact in_u64 (by omega) (by omega) | exact in_i32 (by omega) (by omega)) ?_)))) | ((with_reducible refine g_if ?_); ((with_reducible refine g_pk ?_); refine l_p txs rfl rfl ?_)))
          exact ⟨v.extract 0 (v.size - 1), _, rfl, ⟨by show Value.string (v.extract _ _) = _; rw [hto]; rfl, trivial⟩, ⟨H, k1, by omega⟩, k2⟩
        · have he := done2 (fun y hy => by rw [hx] at hy; injection hy with hy; subst hy; unfold blkB; simp [h1, h2])
          repeat' (first | (with_reducible first | refine p_tn ?_ | refine p_tx ?_ | refine x_hit ?_ | refine wp_seq ?_ | refine w_reg ?_) | (with_reducible (refine is_if ?_; (refine w_iff rfl ?_))) | (with_reducible first | refine wp_exit ?_ | refine wp_ret ?_ | refine l_nil ?_) | ((with_reducible refine g_on ?_); (first | ((with_reducible refine g_mv ?_); refine l_p txs rfl rfl ?_) | ((with_reducible refine g_as ?_); refine l_p txs rfl rfl ?_) | ((with_reducible refine g_pk ?_); refine l_p txs rfl rfl ?_))) | ((with_reducible refine g_if ?_); ((with_reducible refine g_pk ?_); refine l_p txs rfl rfl ?_)))
          refine end1 rfl rfl ?_
          exact ⟨by rw [he], H.B⟩
    · have hge : v.size = 0 := size_zero heq2
      have he := done2 (fun y hy => by rw [List.getElem?_eq_none (by omega)] at hy; cases hy)
      repeat' (first | (with_reducible first | refine p_tn ?_ | refine p_tx ?_ | refine x_hit ?_ | refine wp_seq ?_ | refine w_reg ?_) | (with_reducible (refine is_if ?_; (refine w_iff rfl ?_))) | (with_reducible first | refine wp_exit ?_ | refine wp_ret ?_ | refine l_nil ?_) | ((with_reducible refine g_on ?_); (first | ((with_reducible refine g_mv ?_); refine l_p txs rfl rfl ?_) | ((with_reducible refine g_as ?_); refine l_p txs rfl rfl ?_) | ((with_reducible refine g_pk ?_); refine l_p txs rfl rfl ?_))) | ((with_reducible refine g_if ?_); (refine l_off rfl ?_)))
      refine end1 rfl rfl ?_
      exact ⟨by rw [he], H.B⟩
end Go.Proofs.YthgojbdpmcccaaaGreatDoor.K
end
section
namespace Go.Proofs.YthgojbdpmcccaaaGreatDoor.K
open Go.RowKit Go.Proofs.YthgojbdpmcccaaaGreatDoor.Q Go.Proofs.YthgojbdpmcccaaaGreatDoor.Wb Go.Proofs.YthgojbdpmcccaaaGreatDoorW.PrintWords
set_option linter.unusedVariables false
set_option linter.unusedSimpArgs false
abbrev rowT (v : Value) (l : List L) : RowD := ⟨v, 9, 1, l.length, strC l⟩
theorem strC_snoc (l : List L) (x : L) : strC (l ++ [x]) = strC l ++ [.string (strOfNums x)] := by simp [strC]
end Go.Proofs.YthgojbdpmcccaaaGreatDoor.K
end
section
namespace Go.Proofs.YthgojbdpmcccaaaGreatDoor.K.Ref
open Go.Proofs.YthgojbdpmcccaaaGreatDoor.Q Go.Proofs.YthgojbdpmcccaaaGreatDoor.K
set_option linter.unusedVariables false
def rt : Nat → Option (List Value)
  | 95 => some [.string ⟨#[]⟩, .string ⟨#[]⟩]
  | 29 => some [.string ⟨#[]⟩, .string ⟨#[]⟩, .int .i64 0, .slice none 0 0, .slice none 0 0, .bool false]
  | 59 => some [.int .i64 0, .int .i64 0, .slice none 0 0, .slice none 0 0, .bool false]
  | 25 => some [.string ⟨#[]⟩, .string ⟨#[]⟩, .int .i64 0, .slice none 0 0, .slice none 0 0, .slice none 0 0, .int .i64 0]
  | 53 => some [.int .i64 0, .int .i64 0, .slice none 0 0, .slice none 0 0, .slice none 0 0, .int .i64 0]
  | 145 => some [.string ⟨#[]⟩, .string ⟨#[]⟩]
  | 86 => some [.string ⟨#[]⟩, .string ⟨#[]⟩, .int .i64 0, .slice none 0 0, .slice none 0 0, .bool false]
  | 120 => some [.int .i64 0, .int .i64 0, .slice none 0 0, .slice none 0 0, .bool false]
  | 56 => some [.int .i64 0, .slice none 0 0, .int .i64 0, .int .i64 0, .string ⟨#[]⟩, .string ⟨#[]⟩, .string ⟨#[]⟩, .int .i64 0, .slice none 0 0, .slice none 0 0, .slice none 0 0, .int .i64 0, .int .i64 0, .int .i64 0, .slice none 0 0, .slice none 0 0, .slice none 0 0, .int .i64 0]
  | _ => none
theorem recOk0 : RecOk Tryz.prog 95 [.string ⟨#[]⟩, .string ⟨#[]⟩] := ⟨⟨_, Tryz.underlying95, rfl⟩, by kernel_rfl⟩
theorem recOk1 : RecOk Tryz.prog 29 [.string ⟨#[]⟩, .string ⟨#[]⟩, .int .i64 0, .slice none 0 0, .slice none 0 0, .bool false] := ⟨⟨_, Tryz.underlying29, rfl⟩, by kernel_rfl⟩
theorem recOk2 : RecOk Tryz.prog 59 [.int .i64 0, .int .i64 0, .slice none 0 0, .slice none 0 0, .bool false] := ⟨⟨_, Tryz.underlying59, rfl⟩, by kernel_rfl⟩
theorem recOk3 : RecOk Tryz.prog 25 [.string ⟨#[]⟩, .string ⟨#[]⟩, .int .i64 0, .slice none 0 0, .slice none 0 0, .slice none 0 0, .int .i64 0] := ⟨⟨_, Tryz.underlying25, rfl⟩, by kernel_rfl⟩
theorem recOk4 : RecOk Tryz.prog 53 [.int .i64 0, .int .i64 0, .slice none 0 0, .slice none 0 0, .slice none 0 0, .int .i64 0] := ⟨⟨_, Tryz.underlying53, rfl⟩, by kernel_rfl⟩
theorem recOk5 : RecOk Tryz.prog 145 [.string ⟨#[]⟩, .string ⟨#[]⟩] := ⟨⟨_, Tryz.underlying145, rfl⟩, by kernel_rfl⟩
theorem recOk6 : RecOk Tryz.prog 86 [.string ⟨#[]⟩, .string ⟨#[]⟩, .int .i64 0, .slice none 0 0, .slice none 0 0, .bool false] := ⟨⟨_, Tryz.underlying86, rfl⟩, by kernel_rfl⟩
theorem recOk7 : RecOk Tryz.prog 120 [.int .i64 0, .int .i64 0, .slice none 0 0, .slice none 0 0, .bool false] := ⟨⟨_, Tryz.underlying120, rfl⟩, by kernel_rfl⟩
theorem recOk8 : RecOk Tryz.prog 56 [.int .i64 0, .slice none 0 0, .int .i64 0, .int .i64 0, .string ⟨#[]⟩, .string ⟨#[]⟩, .string ⟨#[]⟩, .int .i64 0, .slice none 0 0, .slice none 0 0, .slice none 0 0, .int .i64 0, .int .i64 0, .int .i64 0, .slice none 0 0, .slice none 0 0, .slice none 0 0, .int .i64 0] := ⟨⟨_, Tryz.underlying56, rfl⟩, by kernel_rfl⟩
theorem recs : Recs Tryz.prog rt := by
  intro t zs h
  unfold rt at h
  split at h
  · cases h; exact recOk0
  · cases h; exact recOk1
  · cases h; exact recOk2
  · cases h; exact recOk3
  · cases h; exact recOk4
  · cases h; exact recOk5
  · cases h; exact recOk6
  · cases h; exact recOk7
  · cases h; exact recOk8
  · cases h
def fo : Nat → Nat → Option Nat
  | 95, 0 => some 0
  | 95, 1 => some 1
  | 29, 0 => some 0
  | 29, 1 => some 1
  | 29, 2 => some 2
  | 29, 3 => some 3
  | 29, 4 => some 4
  | 29, 5 => some 5
  | 59, 0 => some 0
  | 59, 1 => some 1
  | 59, 2 => some 2
  | 59, 3 => some 3
  | 59, 4 => some 4
  | 25, 0 => some 0
  | 25, 1 => some 1
  | 25, 2 => some 2
  | 25, 3 => some 3
  | 25, 4 => some 4
  | 25, 5 => some 5
  | 25, 6 => some 6
  | 53, 0 => some 0
  | 53, 1 => some 1
  | 53, 2 => some 2
  | 53, 3 => some 3
  | 53, 4 => some 4
  | 53, 5 => some 5
  | 145, 0 => some 0
  | 145, 1 => some 1
  | 86, 0 => some 0
  | 86, 1 => some 1
  | 86, 2 => some 2
  | 86, 3 => some 3
  | 86, 4 => some 4
  | 86, 5 => some 5
  | 120, 0 => some 0
  | 120, 1 => some 1
  | 120, 2 => some 2
  | 120, 3 => some 3
  | 120, 4 => some 4
  | 56, 0 => some 0
  | 56, 1 => some 1
  | 56, 2 => some 2
  | 56, 3 => some 3
  | 56, 4 => some 4
  | 56, 5 => some 5
  | 56, 6 => some 12
  | _, _ => none
theorem fld0 : fldB Tryz.prog 95 0 = some 0 := by kernel_rfl
theorem fld1 : fldB Tryz.prog 95 1 = some 1 := by kernel_rfl
theorem fld2 : fldB Tryz.prog 29 0 = some 0 := by kernel_rfl
theorem fld3 : fldB Tryz.prog 29 1 = some 1 := by kernel_rfl
theorem fld4 : fldB Tryz.prog 29 2 = some 2 := by kernel_rfl
theorem fld5 : fldB Tryz.prog 29 3 = some 3 := by kernel_rfl
theorem fld6 : fldB Tryz.prog 29 4 = some 4 := by kernel_rfl
theorem fld7 : fldB Tryz.prog 29 5 = some 5 := by kernel_rfl
theorem fld8 : fldB Tryz.prog 59 0 = some 0 := by kernel_rfl
theorem fld9 : fldB Tryz.prog 59 1 = some 1 := by kernel_rfl
theorem fld10 : fldB Tryz.prog 59 2 = some 2 := by kernel_rfl
theorem fld11 : fldB Tryz.prog 59 3 = some 3 := by kernel_rfl
theorem fld12 : fldB Tryz.prog 59 4 = some 4 := by kernel_rfl
theorem fld13 : fldB Tryz.prog 25 0 = some 0 := by kernel_rfl
theorem fld14 : fldB Tryz.prog 25 1 = some 1 := by kernel_rfl
theorem fld15 : fldB Tryz.prog 25 2 = some 2 := by kernel_rfl
theorem fld16 : fldB Tryz.prog 25 3 = some 3 := by kernel_rfl
theorem fld17 : fldB Tryz.prog 25 4 = some 4 := by kernel_rfl
theorem fld18 : fldB Tryz.prog 25 5 = some 5 := by kernel_rfl
theorem fld19 : fldB Tryz.prog 25 6 = some 6 := by kernel_rfl
theorem fld20 : fldB Tryz.prog 53 0 = some 0 := by kernel_rfl
theorem fld21 : fldB Tryz.prog 53 1 = some 1 := by kernel_rfl
theorem fld22 : fldB Tryz.prog 53 2 = some 2 := by kernel_rfl
theorem fld23 : fldB Tryz.prog 53 3 = some 3 := by kernel_rfl
theorem fld24 : fldB Tryz.prog 53 4 = some 4 := by kernel_rfl
theorem fld25 : fldB Tryz.prog 53 5 = some 5 := by kernel_rfl
theorem fld26 : fldB Tryz.prog 145 0 = some 0 := by kernel_rfl
theorem fld27 : fldB Tryz.prog 145 1 = some 1 := by kernel_rfl
theorem fld28 : fldB Tryz.prog 86 0 = some 0 := by kernel_rfl
theorem fld29 : fldB Tryz.prog 86 1 = some 1 := by kernel_rfl
theorem fld30 : fldB Tryz.prog 86 2 = some 2 := by kernel_rfl
theorem fld31 : fldB Tryz.prog 86 3 = some 3 := by kernel_rfl
theorem fld32 : fldB Tryz.prog 86 4 = some 4 := by kernel_rfl
theorem fld33 : fldB Tryz.prog 86 5 = some 5 := by kernel_rfl
theorem fld34 : fldB Tryz.prog 120 0 = some 0 := by kernel_rfl
theorem fld35 : fldB Tryz.prog 120 1 = some 1 := by kernel_rfl
theorem fld36 : fldB Tryz.prog 120 2 = some 2 := by kernel_rfl
theorem fld37 : fldB Tryz.prog 120 3 = some 3 := by kernel_rfl
theorem fld38 : fldB Tryz.prog 120 4 = some 4 := by kernel_rfl
theorem fld39 : fldB Tryz.prog 56 0 = some 0 := by kernel_rfl
theorem fld40 : fldB Tryz.prog 56 1 = some 1 := by kernel_rfl
theorem fld41 : fldB Tryz.prog 56 2 = some 2 := by kernel_rfl
theorem fld42 : fldB Tryz.prog 56 3 = some 3 := by kernel_rfl
theorem fld43 : fldB Tryz.prog 56 4 = some 4 := by kernel_rfl
theorem fld44 : fldB Tryz.prog 56 5 = some 5 := by kernel_rfl
theorem fld45 : fldB Tryz.prog 56 6 = some 12 := by kernel_rfl
theorem flds : Flds Tryz.prog fo := by
  intro t k o h
  unfold fo at h
  split at h
  · cases h; exact fld0
  · cases h; exact fld1
  · cases h; exact fld2
  · cases h; exact fld3
  · cases h; exact fld4
  · cases h; exact fld5
  · cases h; exact fld6
  · cases h; exact fld7
  · cases h; exact fld8
  · cases h; exact fld9
  · cases h; exact fld10
  · cases h; exact fld11
  · cases h; exact fld12
  · cases h; exact fld13
  · cases h; exact fld14
  · cases h; exact fld15
  · cases h; exact fld16
  · cases h; exact fld17
  · cases h; exact fld18
  · cases h; exact fld19
  · cases h; exact fld20
  · cases h; exact fld21
  · cases h; exact fld22
  · cases h; exact fld23
  · cases h; exact fld24
  · cases h; exact fld25
  · cases h; exact fld26
  · cases h; exact fld27
  · cases h; exact fld28
  · cases h; exact fld29
  · cases h; exact fld30
  · cases h; exact fld31
  · cases h; exact fld32
  · cases h; exact fld33
  · cases h; exact fld34
  · cases h; exact fld35
  · cases h; exact fld36
  · cases h; exact fld37
  · cases h; exact fld38
  · cases h; exact fld39
  · cases h; exact fld40
  · cases h; exact fld41
  · cases h; exact fld42
  · cases h; exact fld43
  · cases h; exact fld44
  · cases h; exact fld45
  · cases h
def tx : Nat → Option Ty
  | 22 => some (.slc 9 1)
  | 27 => some (.slc 95 2)
  | 84 => some (.slc 145 2)
  | 31 => some (.int .i64)
  | t => ty t
theorem slcOk0 : TyOk Tryz.prog 22 (.slc 9 1) := by
  have h : (Tryz.prog.info? 9).map (·.size) = some 1 := by kernel_rfl
  obtain ⟨i0, hi, hz⟩ := Option.map_eq_some_iff.1 h
  exact ⟨Tryz.underlying22, i0, hi, hz⟩
theorem slcOk1 : TyOk Tryz.prog 27 (.slc 95 2) := by
  have h : (Tryz.prog.info? 95).map (·.size) = some 2 := by kernel_rfl
  obtain ⟨i0, hi, hz⟩ := Option.map_eq_some_iff.1 h
  exact ⟨Tryz.underlying27, i0, hi, hz⟩
theorem slcOk2 : TyOk Tryz.prog 84 (.slc 145 2) := by
  have h : (Tryz.prog.info? 145).map (·.size) = some 2 := by kernel_rfl
  obtain ⟨i0, hi, hz⟩ := Option.map_eq_some_iff.1 h
  exact ⟨Tryz.underlying84, i0, hi, hz⟩
theorem txs : Tys Tryz.prog tx := by
  intro t k h
  unfold tx at h
  split at h
  · cases h; exact slcOk0
  · cases h; exact slcOk1
  · cases h; exact slcOk2
  · cases h; exact Tryz.underlying31
  · exact tys t k h
theorem one0_0 : (Tryz.prog.info? 3).map (·.size) = some 1 := by kernel_rfl
theorem one0_1 : (Tryz.prog.info? 5).map (·.size) = some 1 := by kernel_rfl
theorem one0_2 : (Tryz.prog.info? 4).map (·.size) = some 1 := by kernel_rfl
theorem one0_3 : (Tryz.prog.info? 9).map (·.size) = some 1 := by kernel_rfl
theorem one0_4 : (Tryz.prog.info? 23).map (·.size) = some 1 := by kernel_rfl
theorem one0_5 : (Tryz.prog.info? 98).map (·.size) = some 1 := by kernel_rfl
theorem one1_0 : (Tryz.prog.info? 22).map (·.size) = some 1 := by kernel_rfl
theorem one1_1 : (Tryz.prog.info? 27).map (·.size) = some 1 := by kernel_rfl
theorem one1_2 : (Tryz.prog.info? 84).map (·.size) = some 1 := by kernel_rfl
theorem one1_3 : (Tryz.prog.info? 31).map (·.size) = some 1 := by kernel_rfl
theorem ones0 : Ones Tryz.prog ty := by
  intro t k h
  unfold ty at h
  split at h
  · exact one0_0
  · exact one0_1
  · exact one0_2
  · exact one0_3
  · exact one0_4
  · exact one0_5
  · cases h
theorem ones : Ones Tryz.prog tx := by
  intro t k h
  unfold tx at h
  split at h
  · exact one1_0
  · exact one1_1
  · exact one1_2
  · exact one1_3
  · exact ones0 t k h
end Go.Proofs.YthgojbdpmcccaaaGreatDoor.K.Ref
end
section
namespace Go.Proofs.YthgojbdpmcccaaaGreatDoor.K.Ref
open Go.RowKit Go.Proofs.YthgojbdpmcccaaaGreatDoor.Q Go.Proofs.YthgojbdpmcccaaaGreatDoor.Wb Go.Proofs.YthgojbdpmcccaaaGreatDoorW.PrintWords Go.Proofs.YthgojbdpmcccaaaGreatDoor.K
set_option linter.unusedVariables false
set_option linter.unusedSimpArgs false
abbrev rowG (v : Value) (l : List Fld) : RowD := ⟨v, 145, 2, l.length, fldC l⟩
theorem info_g : (Tryz.prog.info? 145).map (fun i => (i.zero, i.size, i.bytes)) = some (some (.agg #[.string ⟨#[]⟩, .string ⟨#[]⟩]), 2, 32) := by kernel_rfl
theorem built_g2 (a b : ByteArray) : Tryz.prog.built 145 [(0, .string a), (1, .string b)] = some #[.string a, .string b] := by kernel_rfl
theorem vals_take {l : List Fld} {n : L} {i : Nat} {x : Fld} (hx : l[i]? = some x) : vals (l.take (i + 1)) n = vals (l.take i) n ++ (if lowS x.1 = n then [x.2] else []) := by
  have hi : i < l.length := (List.getElem?_eq_some_iff.1 hx).1
  rw [List.take_succ_eq_append_getElem hi, (List.getElem?_eq_some_iff.1 hx).2, vals_app]
  congr 1
  by_cases h : lowS x.1 = n
  · simp [vals, h]
  · simp [vals, h]
theorem vals_le (l : List Fld) (n : L) : (vals l n).length ≤ l.length := by unfold vals; exact List.length_filterMap_le _ _
set_option maxHeartbeats 4000000 in
theorem rall_c {w : World} {B : Option Addr} {c : Nat} {l : List Fld} (h : Rd w B (fldC l)) (hb : BytesF l) (hl : l.length ≤ 100000000) (t : ByteArray) :
    Calls Tryz.prog 141 #[.slice B l.length c, .string t] w fun e w' => ∃ A1 c1, e = .returned (.slice A1 (vals l (bl t)).length c1) ∧ Hp w w' [] [rowT (.slice A1 (vals l (bl t)).length c1) (vals l (bl t))] := by
  refine enter (args := [.slice B l.length c, .string t]) Tryz.func141 rfl Tryz.ntmps141 rfl ?_
  have H := (Hp.nil w).nilRow 9 1
  repeat' (first | (with_reducible first | refine p_tn ?_ | refine wp_seq ?_ | refine wp_block ?_ | refine w_reg ?_ | refine l_nil ?_) | ((with_reducible refine g_on ?_); ((with_reducible refine g_as ?_); refine l_p txs rfl rfl ?_)))
  refine w_loop (σ := Nat × Option Addr × Nat) (S := fun s => [(0, .slice B l.length c), (1, .string t), (5, .slice s.2.1 (vals (l.take s.1) (bl t)).length s.2.2), (6, .int .i64 (s.1 : Int))])
    (J := fun s w' => Hp w w' [] [rowT (.slice s.2.1 (vals (l.take s.1) (bl t)).length s.2.2) (vals (l.take s.1) (bl t))] ∧ s.1 ≤ l.length) (μ := fun s => l.length - s.1) (0, none, 0) ⟨rfl, rfl, rfl, rfl, trivial⟩ ⟨H, by omega⟩ ?_
  rintro ⟨i, A2, c2⟩ f w_ ⟨H, hi⟩
  simp only at H hi ⊢
  repeat' (first | (with_reducible first | refine wp_seq ?_ | refine w_reg ?_) | ((with_reducible refine g_on ?_); (first | ((with_reducible refine g_mv ?_); refine l_p txs rfl rfl ?_) | ((with_reducible refine g_cl ?_); refine l_p txs rfl rfl ?_))))
  (with_reducible refine is_l ?_); refine l_t txs rfl rfl (fun hlt => ?_) (fun hge => ?_)
  · obtain ⟨x, hx⟩ : ∃ x, l[i]? = some x := ⟨_, List.getElem?_eq_getElem (by omega)⟩
    obtain ⟨a1, rfl⟩ := rd_some h (i := i) (by omega)
    obtain ⟨bx1, bx2, lx1, lx2⟩ := hb x (List.mem_of_getElem? hx)
    have zx1 := sizeS' bx1
    have hvt := vals_take (n := bl t) hx
    have hvl := vals_le (l.take i) (bl t)
    rw [List.length_take_of_le (by omega)] at hvl
    have hc1 := fld_part h hx 0 _ rfl
    have hc2 := fld_part h hx 1 _ rfl
    repeat' (first | (with_reducible first | refine p_tn ?_ | refine wp_seq ?_ | refine wp_block ?_ | refine w_reg ?_) | (with_reducible (refine is_if ?_; (refine w_ift rfl ?_))) | (with_reducible first | refine wp_skip ?_ | refine l_nil ?_) | ((with_reducible refine g_on ?_); (first | ((with_reducible refine g_mv ?_); refine l_p txs rfl rfl ?_) | ((with_reducible refine g_ia ?_); refine l_ia txs rfl rfl (by first | omega | assumption | decide) (by first | omega | assumption | decide) ?_))))
    (with_reducible refine is_l ?_); refine h_fg flds rfl rfl ?_
    (with_reducible refine is_l ?_); refine l_ld txs rfl rfl (by rw [Int.toNat_natCast]; exact H.old hc1) ?_
    skip
    have hlow := rsmall_c (strOfNums x.1) w_ (by omega)
    rw [blS bx1] at hlow
    (with_reducible refine is_l ?_); refine l_callv rfl rfl (by kernel_rfl) hlow (fun w_ K => ?_)
    have H := H.call K
    repeat' ((with_reducible refine g_on ?_); ((with_reducible refine g_mv ?_); refine l_p txs rfl rfl ?_))
    have e1 := blS (bytes_low bx1)
    (with_reducible refine is_l ?_); refine l_t txs rfl rfl (fun h1 => ?_) (fun h1 => ?_)
    · rw [e1] at h1
      rw [if_pos h1] at hvt
      repeat' (first | (with_reducible first | refine p_tn ?_ | refine w_reg ?_) | (with_reducible (refine is_if ?_; (refine w_ift rfl ?_))) | (with_reducible refine l_nil ?_) | ((with_reducible refine g_on ?_); (first | ((with_reducible refine g_mv ?_); refine l_p txs rfl rfl ?_) | ((with_reducible refine g_ia ?_); refine l_ia txs rfl rfl (by first | omega | assumption | decide) (by first | omega | assumption | decide) ?_))))
      (with_reducible refine is_l ?_); refine h_fg flds rfl rfl ?_
      (with_reducible refine is_l ?_); refine l_ld txs rfl rfl (by rw [Int.toNat_natCast]; exact H.old hc2) ?_
      skip
      (with_reducible refine is_l ?_); refine h_bs H info_str3 Tryz.underlying22 (by decide) (by decide) rfl rfl (fill_s _) (fun g_ w_ H => ?_)
      (with_reducible refine is_l ?_); refine h_app H 0 rfl info_str3 Tryz.underlying22 rfl rfl rfl rfl (H.cellRd 0 rfl) rfl rfl (by show ((vals (l.take i) (bl t)).length + 1) * 16 ≤ _; omega) (fun v w_ hv H => ?_)
      obtain ⟨A', c', rfl⟩ := hv
      repeat' (first | (with_reducible first | refine p_tn ?_ | refine p_bn ?_ | refine w_reg ?_ | refine l_nil ?_) | ((with_reducible refine g_on ?_); (first | ((with_reducible refine g_mv ?_); refine l_p txs rfl rfl ?_) | ((with_reducible refine g_as ?_); refine l_p txs rfl rfl ?_) | ((with_reducible refine g_bi ?_); (refine l_a txs rfl rfl (by first | exact in_i64 (by omega) (by omega) | exact in_u8 (by omega) (by omega) | exact in_u64 (by omega) (by omega) | exact in_i32 (by omega) (by omega)) ?_)))))
      have H := H.pick [] [0] (by decide) (by decide) rfl rfl
      have hlen : (vals (l.take (i + 1)) (bl t)).length = (vals (l.take i) (bl t)).length + 1 := by rw [hvt]; simp
      refine ⟨(i + 1, A', c'), _, rfl, ⟨rfl, rfl, ?_, rfl, trivial⟩, ⟨?_, by show i + 1 ≤ _; omega⟩, by show _ - (i + 1) < _ - i; omega⟩
      · show Value.slice A' ((vals (l.take i) (bl t)).length + 1) c' = Value.slice A' (vals (l.take (i + 1)) (bl t)).length c'
        rw [hlen]
      · show Hp w _ [] [rowT (.slice A' (vals (l.take (i + 1)) (bl t)).length c') (vals (l.take (i + 1)) (bl t))]
        unfold rowT
        rw [hlen, hvt, strC_snoc]
        exact H
    · rw [e1] at h1
      rw [if_neg h1, List.append_nil] at hvt
      repeat' (first | (with_reducible first | refine p_tn ?_ | refine p_bn ?_ | refine w_reg ?_) | (with_reducible (refine is_if ?_; (refine w_iff rfl ?_))) | (with_reducible first | refine wp_skip ?_ | refine l_nil ?_) | ((with_reducible refine g_on ?_); (first | ((with_reducible refine g_mv ?_); refine l_p txs rfl rfl ?_) | ((with_reducible refine g_as ?_); refine l_p txs rfl rfl ?_) | ((with_reducible refine g_bi ?_); (refine l_a txs rfl rfl (by first | exact in_i64 (by omega) (by omega) | exact in_u8 (by omega) (by omega) | exact in_u64 (by omega) (by omega) | exact in_i32 (by omega) (by omega)) ?_)))))
      refine ⟨(i + 1, A2, c2), _, rfl, ⟨rfl, rfl, ?_, rfl, trivial⟩, ⟨?_, by show i + 1 ≤ _; omega⟩, by show _ - (i + 1) < _ - i; omega⟩
      · show Value.slice A2 (vals (l.take i) (bl t)).length c2 = Value.slice A2 (vals (l.take (i + 1)) (bl t)).length c2
        rw [hvt]
      · show Hp w _ [] [rowT (.slice A2 (vals (l.take (i + 1)) (bl t)).length c2) (vals (l.take (i + 1)) (bl t))]
        rw [hvt]
        exact H
  · have hall : l.take i = l := List.take_of_length_le (by omega)
    simp only [hall] at H ⊢
    repeat' (first | (with_reducible first | refine p_tn ?_ | refine p_tx ?_ | refine x_hit ?_ | refine wp_seq ?_ | refine w_reg ?_) | (with_reducible (refine is_if ?_; (refine w_iff rfl ?_))) | (with_reducible first | refine wp_exit ?_ | refine wp_ret ?_ | refine l_nil ?_) | ((with_reducible refine g_on ?_); (first | ((with_reducible refine g_mv ?_); refine l_p txs rfl rfl ?_) | ((with_reducible refine g_as ?_); refine l_p txs rfl rfl ?_))))
    refine end1 rfl rfl ?_
    exact ⟨A2, c2, rfl, H⟩
theorem rowT_at {w0 w : World} {l : List Ent} {r : List RowD} (H : Hp w0 w l r) (k : Nat) {A : Option Addr} {c : Nat} {x : List L} (hk : r[k]? = some (rowT (.slice A x.length c) x)) : Rd w A (strC x) := by
  obtain ⟨A', c', e, _, hrd, _⟩ := H.rd k hk
  simp only [Value.slice.injEq] at e
  rw [e.1]
  exact hrd
theorem rdT_some {w : World} {A : Option Addr} {x : List L} {y : L} {i : Nat} (h : Rd w A (strC x)) (hy : x[i]? = some y) : ∃ a, A = some a := by
  have hc := strC_at hy
  cases A with
  | none =>
    have h1 : strC x = [] := h.1 rfl
    rw [h1] at hc
    simp at hc
  | some a => exact ⟨a, rfl⟩
theorem rdT_cell {w : World} {a : Addr} {x : List L} {y : L} {i : Nat} (h : Rd w (some a) (strC x)) (hy : x[i]? = some y) : w.cell? (a.add (i * 1)) = some (.string (strOfNums y)) := h.2 a rfl _ _ (strC_at hy)
end Go.Proofs.YthgojbdpmcccaaaGreatDoor.K.Ref
end
section
namespace Go.Proofs.YthgojbdpmcccaaaGreatDoor.K.Ref
open Go.RowKit Go.Proofs.YthgojbdpmcccaaaGreatDoor.Q Go.Proofs.YthgojbdpmcccaaaGreatDoor.Wb Go.Proofs.YthgojbdpmcccaaaGreatDoorW.PrintWords Go.Proofs.YthgojbdpmcccaaaGreatDoor.K
set_option linter.unusedVariables false
set_option linter.unusedSimpArgs false
def sepB (c : Int) : Bool := !([47, 63, 35, 64, 92] : L).contains c
theorem host_split (v : L) : v.all hostB = (v.all visB && v.all sepB) := by
  induction v with
  | nil => rfl
  | cons x r ih =>
    simp only [List.all_cons, ih]
    have : hostB x = (visB x && sepB x) := rfl
    rw [this]
    cases visB x <;> cases sepB x <;> cases r.all visB <;> cases r.all sepB <;> rfl
set_option maxRecDepth 100000 in
set_option maxHeartbeats 8000000 in
theorem rhost_c {w : World} {B : Option Addr} {c : Nat} {l : List Fld} (h : Rd w B (fldC l)) (hb : BytesF l) (hl : l.length ≤ 100000000) (minor : Int) :
    Calls Tryz.prog 83 #[.slice B l.length c, .int .i64 minor] w fun e w' => e = .returned (.int .i64 (if hostOk l minor = true then 0 else 144)) ∧ Below w.heap.size w w' := by
  refine enter (args := [.slice B l.length c, .int .i64 minor]) Tryz.func83 rfl Tryz.ntmps83 rfl ?_
  have H := Hp.nil w
  repeat' (first | (with_reducible first | refine p_tn ?_ | refine wp_seq ?_ | refine w_reg ?_ | refine l_nil ?_) | ((with_reducible refine g_on ?_); (first | ((with_reducible refine g_mv ?_); refine l_p txs rfl rfl ?_) | ((with_reducible refine g_as ?_); refine l_p txs rfl rfl ?_))))
  (with_reducible refine is_l ?_); refine l_call rfl rfl (by kernel_rfl) (rall_c (h.below H.B) hb hl _) (fun e w_ hR => ?_)
  obtain ⟨A1, c1, rfl, K⟩ := hR
  refine ⟨_, rfl, ?_⟩
  have e0 : bl (⟨#[104, 111, 115, 116]⟩ : ByteArray) = nHost := rfl
  rw [e0] at K ⊢
  have H := H.join K
  have hmem : ∀ v ∈ vals l nHost, Bytes v ∧ v.length ≤ 100000000 := fun v hv => by
    obtain ⟨f, hf, hv⟩ := List.mem_filterMap.1 hv
    have := hb f hf
    split at hv
    · injection hv with hv; subst hv; exact ⟨this.2.1, this.2.2.2⟩
    · cases hv
  have hok : hostOk l minor = match vals l nHost with | [] => minor != 1 | [v] => v.all hostB | _ => false := rfl
  repeat' (first | (with_reducible first | refine p_tn ?_ | refine wp_seq ?_ | refine w_reg ?_ | refine l_nil ?_) | ((with_reducible refine g_on ?_); (first | ((with_reducible refine g_mv ?_); refine l_p txs rfl rfl ?_) | ((with_reducible refine g_as ?_); refine l_p txs rfl rfl ?_) | ((with_reducible refine g_cl ?_); refine l_p txs rfl rfl ?_))))
  match hv : vals l nHost with
  | [] =>
    rw [hv] at H hok
    simp only at hok
    (with_reducible refine is_l ?_); refine l_t txs rfl rfl (fun hh => absurd hh (by decide)) (fun _ => ?_)
    repeat' (first | ((with_reducible refine g_on ?_); ((with_reducible refine g_mv ?_); refine l_p txs rfl rfl ?_)) | ((with_reducible refine g_if ?_); (first | ((with_reducible refine g_mv ?_); refine l_p txs rfl rfl ?_) | ((with_reducible refine g_cl ?_); refine l_p txs rfl rfl ?_))))
    (with_reducible refine is_l ?_); refine l_t txs rfl rfl (fun _ => ?_) (fun hh => absurd rfl hh)
    repeat' ((with_reducible refine g_if ?_); ((with_reducible refine g_mv ?_); refine l_p txs rfl rfl ?_))
    (with_reducible refine is_l ?_); refine l_t txs rfl rfl (fun h1 => ?_) (fun h1 => ?_)
    · have ho : hostOk l minor = false := by rw [hok, h1]; rfl
      repeat' (first | (with_reducible first | refine p_tn ?_ | refine p_tr ?_ | refine wp_seq ?_ | refine w_reg ?_) | (with_reducible (refine is_if ?_; (refine w_ift rfl ?_))) | (with_reducible first | refine wp_ret ?_ | refine l_nil ?_) | ((with_reducible refine g_on ?_); (first | ((with_reducible refine g_as ?_); refine l_p txs rfl rfl ?_) | ((with_reducible refine g_pk ?_); refine l_p txs rfl rfl ?_))) | ((with_reducible refine g_if ?_); ((with_reducible refine g_pk ?_); refine l_p txs rfl rfl ?_)))
      refine end1 rfl rfl ?_
      exact ⟨by rw [ho]; rfl, H.B⟩
    · have ho : hostOk l minor = true := by rw [hok]; simp; exact h1
      repeat' (first | (with_reducible first | refine p_tn ?_ | refine wp_seq ?_ | refine wp_block ?_ | refine w_reg ?_) | (with_reducible (refine is_if ?_; (refine w_iff rfl ?_))) | (with_reducible first | refine wp_skip ?_ | refine l_nil ?_) | ((with_reducible refine g_on ?_); (first | ((with_reducible refine g_as ?_); refine l_p txs rfl rfl ?_) | ((with_reducible refine g_pk ?_); refine l_p txs rfl rfl ?_))) | ((with_reducible refine g_if ?_); ((with_reducible refine g_pk ?_); refine l_p txs rfl rfl ?_)))
      refine w_loop (σ := Unit) (S := fun _ => [(5, .slice A1 ([] : List L).length c1), (6, .int .i64 0)]) (J := fun _ w' => Hp w w' [] []) (μ := fun _ => 0) () ⟨rfl, rfl, trivial⟩ (H.pick [] [] (by decide) (by decide) rfl rfl) ?_
      rintro _ f w_ H
      repeat' (first | (with_reducible first | refine wp_seq ?_ | refine w_reg ?_) | ((with_reducible refine g_on ?_); (first | ((with_reducible refine g_mv ?_); refine l_p txs rfl rfl ?_) | ((with_reducible refine g_cl ?_); refine l_p txs rfl rfl ?_))))
      (with_reducible refine is_l ?_); refine l_t txs rfl rfl (fun hh => absurd hh (by decide)) (fun _ => ?_)
      repeat' (first | (with_reducible first | refine p_tn ?_ | refine p_tx ?_ | refine x_hit ?_ | refine wp_seq ?_ | refine w_reg ?_) | (with_reducible (refine is_if ?_; (refine w_iff rfl ?_))) | (with_reducible first | refine wp_exit ?_ | refine wp_ret ?_ | refine l_nil ?_) | ((with_reducible refine g_on ?_); ((with_reducible refine g_as ?_); refine l_p txs rfl rfl ?_)))
      refine end1 rfl rfl ?_
      exact ⟨by rw [ho]; rfl, H.B⟩
  | [v] =>
    rw [hv] at H hok
    simp only at hok
    obtain ⟨hbv, hlv⟩ := hmem v (by rw [hv]; simp)
    have zv := sizeS' hbv
    obtain ⟨a, ha⟩ := rdT_some (rowT_at H 0 rfl) (y := v) (i := 0) rfl
    subst ha
    (with_reducible refine is_l ?_); refine l_t txs rfl rfl (fun hh => absurd hh (show ¬ ((1 : Int) < ((1 : Nat) : Int)) by decide)) (fun _ => ?_)
    repeat' (first | ((with_reducible refine g_on ?_); ((with_reducible refine g_mv ?_); refine l_p txs rfl rfl ?_)) | ((with_reducible refine g_if ?_); (first | ((with_reducible refine g_mv ?_); refine l_p txs rfl rfl ?_) | ((with_reducible refine g_cl ?_); refine l_p txs rfl rfl ?_))))
    (with_reducible refine is_l ?_); refine l_t txs rfl rfl (fun hh => absurd hh (show ¬ (((1 : Nat) : Int) = 0) by decide)) (fun _ => ?_)
    repeat' (first | (with_reducible first | refine p_tn ?_ | refine wp_seq ?_ | refine wp_block ?_ | refine w_reg ?_) | (with_reducible (refine is_if ?_; (refine w_iff rfl ?_))) | (with_reducible first | refine wp_skip ?_ | refine l_nil ?_) | ((with_reducible refine g_on ?_); (first | ((with_reducible refine g_as ?_); refine l_p txs rfl rfl ?_) | ((with_reducible refine g_pk ?_); refine l_p txs rfl rfl ?_))) | ((with_reducible refine g_if ?_); (first | (refine l_off rfl ?_) | ((with_reducible refine g_mv ?_); refine l_p txs rfl rfl ?_) | ((with_reducible refine g_pk ?_); refine l_p txs rfl rfl ?_))))
    refine w_loop (σ := Nat) (S := fun i => [(5, .slice (some a) [v].length c1), (6, .int .i64 (i : Int))]) (J := fun i w' => Hp w w' [] [rowT (.slice (some a) [v].length c1) [v]] ∧ i ≤ 1 ∧ (i = 1 → v.all hostB = true)) (μ := fun i => 1 - i) 0 ⟨rfl, rfl, trivial⟩ ⟨H.pick [] [0] (by decide) (by decide) rfl rfl, Nat.zero_le _, fun h => by cases h⟩ ?_
    rintro i f w_ ⟨H, hi, hD⟩
    repeat' (first | (with_reducible first | refine wp_seq ?_ | refine w_reg ?_) | ((with_reducible refine g_on ?_); (first | ((with_reducible refine g_mv ?_); refine l_p txs rfl rfl ?_) | ((with_reducible refine g_cl ?_); refine l_p txs rfl rfl ?_))))
    (with_reducible refine is_l ?_); refine l_t txs rfl rfl (fun hlt => ?_) (fun hge => ?_)
    · have hlt' : (i : Int) < ((1 : Nat) : Int) := hlt
      obtain rfl : i = 0 := by omega
      have hcell := rdT_cell (rowT_at H 0 rfl) (y := v) (i := 0) rfl
      repeat' (first | (with_reducible first | refine p_tn ?_ | refine wp_seq ?_ | refine wp_block ?_ | refine w_reg ?_) | (with_reducible (refine is_if ?_; (refine w_ift rfl ?_))) | (with_reducible first | refine wp_skip ?_ | refine l_nil ?_) | ((with_reducible refine g_on ?_); (first | ((with_reducible refine g_mv ?_); refine l_p txs rfl rfl ?_) | ((with_reducible refine g_ia ?_); refine l_ia txs rfl rfl (by first | omega | assumption | decide) (by first | omega | assumption | decide) ?_))))
      (with_reducible refine is_l ?_); refine l_ld txs rfl rfl (by rw [Int.toNat_natCast]; exact hcell) ?_
      skip
      (with_reducible refine is_l ?_); refine l_t txs rfl rfl (fun hne => ?_) (fun heq => ?_)
      · have hv0 : v ≠ [] := fun e => hne (by rw [blS hbv, e]; rfl)
        have hvi := rvisible_c (strOfNums v) w_ (by omega)
        rw [blS hbv] at hvi
        have hem : (!v.isEmpty && v.all visB) = v.all visB := by cases v with
          | nil => exact absurd rfl hv0
          | cons x r => rfl
        rw [hem] at hvi
        repeat' (first | ((with_reducible refine g_on ?_); ((with_reducible refine g_mv ?_); refine l_p txs rfl rfl ?_)) | ((with_reducible refine g_if ?_); (first | ((with_reducible refine g_mv ?_); refine l_p txs rfl rfl ?_) | ((with_reducible refine g_ia ?_); refine l_ia txs rfl rfl (by first | omega | assumption | decide) (by first | omega | assumption | decide) ?_))))
        (with_reducible refine is_l ?_); refine l_ld txs rfl rfl (by rw [Int.toNat_natCast]; exact hcell) ?_
        skip
        (with_reducible refine is_l ?_); refine l_callv rfl rfl (by kernel_rfl) hvi (fun w_ K => ?_)
        have H := H.call K
        cases hvis : v.all visB
        · have ho : hostOk l minor = false := by rw [hok, host_split, hvis, Bool.false_and]
          repeat' (first | (with_reducible first | refine p_tn ?_ | refine p_tr ?_ | refine p_br ?_ | refine wp_seq ?_ | refine w_reg ?_) | (with_reducible (refine is_if ?_; (refine w_ift rfl ?_))) | (with_reducible first | refine wp_ret ?_ | refine l_nil ?_) | ((with_reducible refine g_on ?_); (first | ((with_reducible refine g_as ?_); refine l_p txs rfl rfl ?_) | ((with_reducible refine g_pk ?_); refine l_p txs rfl rfl ?_))) | ((with_reducible refine g_if ?_); ((with_reducible refine g_un ?_); (refine l_p txs rfl rfl ?_))))
          refine end1 rfl rfl ?_
          exact ⟨by rw [ho]; rfl, H.B⟩
        · skip
          repeat' (first | (with_reducible first | refine p_tn ?_ | refine wp_seq ?_ | refine wp_block ?_ | refine w_reg ?_) | (with_reducible (refine is_if ?_; (refine w_iff rfl ?_))) | (with_reducible first | refine wp_skip ?_ | refine l_nil ?_) | ((with_reducible refine g_on ?_); (first | ((with_reducible refine g_as ?_); refine l_p txs rfl rfl ?_) | ((with_reducible refine g_pk ?_); refine l_p txs rfl rfl ?_))) | ((with_reducible refine g_if ?_); ((with_reducible refine g_un ?_); (refine l_p txs rfl rfl ?_))))
          refine w_loop (σ := Nat) (S := fun j => [(5, .slice (some a) [v].length c1), (6, .int .i64 ((0 : Nat) : Int)), (7, .int .i64 (j : Int))]) (J := fun j w' => Hp w w' [] [rowT (.slice (some a) [v].length c1) [v]] ∧ j ≤ v.length ∧ v.all sepB = (v.drop j).all sepB) (μ := fun j => v.length - j) 0 ⟨rfl, rfl, rfl, trivial⟩ ⟨H.pick [] [0] (by decide) (by decide) rfl rfl, Nat.zero_le _, rfl⟩ ?_
          rintro j f w_ ⟨H, hj, hS⟩
          have hcell := rdT_cell (rowT_at H 0 rfl) (y := v) (i := 0) rfl
          repeat' (first | (with_reducible first | refine wp_seq ?_ | refine w_reg ?_) | ((with_reducible refine g_on ?_); (first | ((with_reducible refine g_mv ?_); refine l_p txs rfl rfl ?_) | ((with_reducible refine g_ia ?_); refine l_ia txs rfl rfl (by first | omega | assumption | decide) (by first | omega | assumption | decide) ?_))))
          (with_reducible refine is_l ?_); refine l_ld txs rfl rfl (by rw [Int.toNat_natCast]; exact hcell) ?_
          repeat' ((with_reducible refine g_on ?_); ((with_reducible refine g_cl ?_); refine l_p txs rfl rfl ?_))
          (with_reducible refine is_l ?_); refine l_t txs rfl rfl (fun hlt2 => ?_) (fun hge2 => ?_)
          · repeat' (first | (with_reducible first | refine p_tn ?_ | refine wp_seq ?_ | refine wp_block ?_ | refine w_reg ?_) | (with_reducible (refine is_if ?_; (refine w_ift rfl ?_))) | (with_reducible first | refine wp_skip ?_ | refine l_nil ?_) | ((with_reducible refine g_on ?_); (first | ((with_reducible refine g_mv ?_); refine l_p txs rfl rfl ?_) | ((with_reducible refine g_ia ?_); refine l_ia txs rfl rfl (by first | omega | assumption | decide) (by first | omega | assumption | decide) ?_))))
            (with_reducible refine is_l ?_); refine l_ld txs rfl rfl (by rw [Int.toNat_natCast]; exact hcell) ?_
            repeat' ((with_reducible refine g_on ?_); (first | ((with_reducible refine g_mv ?_); refine l_p txs rfl rfl ?_) | ((with_reducible refine g_ix ?_); refine l_ix txs rfl rfl (by first | omega | assumption | decide) (by first | omega | assumption | decide) ?_)))
            have ham := ramong_c ⟨#[47, 63, 35, 64, 92]⟩ (at_ (bl (strOfNums v)) (j : Int)) w_ (by decide)
            have e5 : bl (⟨#[47, 63, 35, 64, 92]⟩ : ByteArray) = [47, 63, 35, 64, 92] := rfl
            rw [e5] at ham
            (with_reducible refine is_l ?_); refine l_callv rfl rfl (by kernel_rfl) ham (fun w_ K => ?_)
            have H := H.call K
            have hdr := dropA (l := v) (i := j) (by omega)
            rw [hdr, List.all_cons] at hS
            rw [blS hbv]
            cases hc : ([47, 63, 35, 64, 92] : L).contains (at_ v (j : Int))
            · have hsb : sepB (at_ v (j : Int)) = true := by unfold sepB; rw [hc]; rfl
              rw [hsb, Bool.true_and] at hS
              repeat' (first | (with_reducible first | refine p_tn ?_ | refine p_bn ?_ | refine w_reg ?_) | (with_reducible (refine is_if ?_; (refine w_iff rfl ?_))) | (with_reducible first | refine wp_skip ?_ | refine l_nil ?_) | ((with_reducible refine g_on ?_); (first | ((with_reducible refine g_mv ?_); refine l_p txs rfl rfl ?_) | ((with_reducible refine g_as ?_); refine l_p txs rfl rfl ?_) | ((with_reducible refine g_bi ?_); (refine l_a txs rfl rfl (by first | exact in_i64 (by omega) (by omega) | exact in_u8 (by omega) (by omega) | exact in_u64 (by omega) (by omega) | exact in_i32 (by omega) (by omega)) ?_)))))
              exact ⟨j + 1, _, rfl, ⟨rfl, rfl, rfl, trivial⟩, ⟨H, by omega, hS⟩, by omega⟩
            · have hsb : sepB (at_ v (j : Int)) = false := by unfold sepB; rw [hc]; rfl
              rw [hsb, Bool.false_and] at hS
              have ho : hostOk l minor = false := by rw [hok, host_split, hS, Bool.and_false]
              repeat' (first | (with_reducible first | refine p_tn ?_ | refine p_tr ?_ | refine p_br ?_ | refine wp_seq ?_ | refine w_reg ?_) | (with_reducible (refine is_if ?_; (refine w_ift rfl ?_))) | (with_reducible first | refine wp_ret ?_ | refine l_nil ?_) | ((with_reducible refine g_on ?_); ((with_reducible refine g_as ?_); refine l_p txs rfl rfl ?_)))
              refine end1 rfl rfl ?_
              exact ⟨by rw [ho]; rfl, H.B⟩
          · have hall : v.drop j = [] := List.drop_eq_nil_of_le (by omega)
            rw [hall] at hS
            repeat' (first | (with_reducible first | refine p_tn ?_ | refine p_tx ?_ | refine p_bn ?_ | refine x_hit ?_ | refine w_reg ?_) | (with_reducible (refine is_if ?_; (refine w_iff rfl ?_))) | (with_reducible first | refine wp_exit ?_ | refine l_nil ?_) | ((with_reducible refine g_on ?_); (first | ((with_reducible refine g_mv ?_); refine l_p txs rfl rfl ?_) | ((with_reducible refine g_as ?_); refine l_p txs rfl rfl ?_) | ((with_reducible refine g_bi ?_); (refine l_a txs rfl rfl (by first | exact in_i64 (by omega) (by omega) | exact in_u8 (by omega) (by omega) | exact in_u64 (by omega) (by omega) | exact in_i32 (by omega) (by omega)) ?_)))))
            exact ⟨1, _, rfl, ⟨rfl, rfl, trivial⟩, ⟨H, Nat.le_refl _, fun _ => by rw [host_split, hvis, hS]; rfl⟩, by omega⟩
      · have hv0 : v = [] := by have h1 := Classical.not_not.1 heq; rw [blS hbv] at h1; exact h1
        have hvis : v.all visB = true := by rw [hv0]; rfl
        repeat' (first | (with_reducible first | refine p_tn ?_ | refine wp_seq ?_ | refine wp_block ?_ | refine w_reg ?_) | (with_reducible (refine is_if ?_; (refine w_iff rfl ?_))) | (with_reducible first | refine wp_skip ?_ | refine l_nil ?_) | ((with_reducible refine g_on ?_); (first | ((with_reducible refine g_mv ?_); refine l_p txs rfl rfl ?_) | ((with_reducible refine g_as ?_); refine l_p txs rfl rfl ?_) | ((with_reducible refine g_pk ?_); refine l_p txs rfl rfl ?_))) | ((with_reducible refine g_if ?_); (refine l_off rfl ?_)))
        refine w_loop (σ := Nat) (S := fun j => [(5, .slice (some a) [v].length c1), (6, .int .i64 ((0 : Nat) : Int)), (7, .int .i64 (j : Int))]) (J := fun j w' => Hp w w' [] [rowT (.slice (some a) [v].length c1) [v]] ∧ j ≤ v.length ∧ v.all sepB = (v.drop j).all sepB) (μ := fun j => v.length - j) 0 ⟨rfl, rfl, rfl, trivial⟩ ⟨H.pick [] [0] (by decide) (by decide) rfl rfl, Nat.zero_le _, rfl⟩ ?_
        rintro j f w_ ⟨H, hj, hS⟩
        have hcell := rdT_cell (rowT_at H 0 rfl) (y := v) (i := 0) rfl
        repeat' (first | (with_reducible first | refine wp_seq ?_ | refine w_reg ?_) | ((with_reducible refine g_on ?_); (first | ((with_reducible refine g_mv ?_); refine l_p txs rfl rfl ?_) | ((with_reducible refine g_ia ?_); refine l_ia txs rfl rfl (by first | omega | assumption | decide) (by first | omega | assumption | decide) ?_))))
        (with_reducible refine is_l ?_); refine l_ld txs rfl rfl (by rw [Int.toNat_natCast]; exact hcell) ?_
        repeat' ((with_reducible refine g_on ?_); ((with_reducible refine g_cl ?_); refine l_p txs rfl rfl ?_))
        (with_reducible refine is_l ?_); refine l_t txs rfl rfl (fun hlt2 => ?_) (fun hge2 => ?_)
        · repeat' (first | (with_reducible first | refine p_tn ?_ | refine wp_seq ?_ | refine wp_block ?_ | refine w_reg ?_) | (with_reducible (refine is_if ?_; (refine w_ift rfl ?_))) | (with_reducible first | refine wp_skip ?_ | refine l_nil ?_) | ((with_reducible refine g_on ?_); (first | ((with_reducible refine g_mv ?_); refine l_p txs rfl rfl ?_) | ((with_reducible refine g_ia ?_); refine l_ia txs rfl rfl (by first | omega | assumption | decide) (by first | omega | assumption | decide) ?_))))
          (with_reducible refine is_l ?_); refine l_ld txs rfl rfl (by rw [Int.toNat_natCast]; exact hcell) ?_
          repeat' ((with_reducible refine g_on ?_); (first | ((with_reducible refine g_mv ?_); refine l_p txs rfl rfl ?_) | ((with_reducible refine g_ix ?_); refine l_ix txs rfl rfl (by first | omega | assumption | decide) (by first | omega | assumption | decide) ?_)))
          have ham := ramong_c ⟨#[47, 63, 35, 64, 92]⟩ (at_ (bl (strOfNums v)) (j : Int)) w_ (by decide)
          have e5 : bl (⟨#[47, 63, 35, 64, 92]⟩ : ByteArray) = [47, 63, 35, 64, 92] := rfl
          rw [e5] at ham
          (with_reducible refine is_l ?_); refine l_callv rfl rfl (by kernel_rfl) ham (fun w_ K => ?_)
          have H := H.call K
          have hdr := dropA (l := v) (i := j) (by omega)
          rw [hdr, List.all_cons] at hS
          rw [blS hbv]
          cases hc : ([47, 63, 35, 64, 92] : L).contains (at_ v (j : Int))
          · have hsb : sepB (at_ v (j : Int)) = true := by unfold sepB; rw [hc]; rfl
            rw [hsb, Bool.true_and] at hS
            repeat' (first | (with_reducible first | refine p_tn ?_ | refine p_bn ?_ | refine w_reg ?_) | (with_reducible (refine is_if ?_; (refine w_iff rfl ?_))) | (with_reducible first | refine wp_skip ?_ | refine l_nil ?_) | ((with_reducible refine g_on ?_); (first | ((with_reducible refine g_mv ?_); refine l_p txs rfl rfl ?_) | ((with_reducible refine g_as ?_); refine l_p txs rfl rfl ?_) | ((with_reducible refine g_bi ?_); (refine l_a txs rfl rfl (by first | exact in_i64 (by omega) (by omega) | exact in_u8 (by omega) (by omega) | exact in_u64 (by omega) (by omega) | exact in_i32 (by omega) (by omega)) ?_)))))
            exact ⟨j + 1, _, rfl, ⟨rfl, rfl, rfl, trivial⟩, ⟨H, by omega, hS⟩, by omega⟩
          · have hsb : sepB (at_ v (j : Int)) = false := by unfold sepB; rw [hc]; rfl
            rw [hsb, Bool.false_and] at hS
            have ho : hostOk l minor = false := by rw [hok, host_split, hS, Bool.and_false]
            repeat' (first | (with_reducible first | refine p_tn ?_ | refine p_tr ?_ | refine p_br ?_ | refine wp_seq ?_ | refine w_reg ?_) | (with_reducible (refine is_if ?_; (refine w_ift rfl ?_))) | (with_reducible first | refine wp_ret ?_ | refine l_nil ?_) | ((with_reducible refine g_on ?_); ((with_reducible refine g_as ?_); refine l_p txs rfl rfl ?_)))
            refine end1 rfl rfl ?_
            exact ⟨by rw [ho]; rfl, H.B⟩
        · have hall : v.drop j = [] := List.drop_eq_nil_of_le (by omega)
          rw [hall] at hS
          repeat' (first | (with_reducible first | refine p_tn ?_ | refine p_tx ?_ | refine p_bn ?_ | refine x_hit ?_ | refine w_reg ?_) | (with_reducible (refine is_if ?_; (refine w_iff rfl ?_))) | (with_reducible first | refine wp_exit ?_ | refine l_nil ?_) | ((with_reducible refine g_on ?_); (first | ((with_reducible refine g_mv ?_); refine l_p txs rfl rfl ?_) | ((with_reducible refine g_as ?_); refine l_p txs rfl rfl ?_) | ((with_reducible refine g_bi ?_); (refine l_a txs rfl rfl (by first | exact in_i64 (by omega) (by omega) | exact in_u8 (by omega) (by omega) | exact in_u64 (by omega) (by omega) | exact in_i32 (by omega) (by omega)) ?_)))))
          exact ⟨1, _, rfl, ⟨rfl, rfl, trivial⟩, ⟨H, Nat.le_refl _, fun _ => by rw [host_split, hvis, hS]; rfl⟩, by omega⟩
    · have hge' : ¬ (i : Int) < ((1 : Nat) : Int) := hge
      have ho : hostOk l minor = true := by rw [hok]; exact hD (by omega)
      repeat' (first | (with_reducible first | refine p_tn ?_ | refine p_tx ?_ | refine x_hit ?_ | refine wp_seq ?_ | refine w_reg ?_) | (with_reducible (refine is_if ?_; (refine w_iff rfl ?_))) | (with_reducible first | refine wp_exit ?_ | refine wp_ret ?_ | refine l_nil ?_) | ((with_reducible refine g_on ?_); ((with_reducible refine g_as ?_); refine l_p txs rfl rfl ?_)))
      refine end1 rfl rfl ?_
      exact ⟨by rw [ho]; rfl, H.B⟩
  | a :: b :: r =>
    rw [hv] at H hok
    simp only at hok
    have hll : (a :: b :: r).length = r.length + 2 := rfl
    (with_reducible refine is_l ?_); refine l_t txs rfl rfl (fun _ => ?_) (fun hh => absurd (by omega) hh)
    repeat' (first | (with_reducible first | refine p_tn ?_ | refine p_tr ?_ | refine wp_seq ?_ | refine w_reg ?_) | (with_reducible (refine is_if ?_; (refine w_ift rfl ?_))) | (with_reducible first | refine wp_ret ?_ | refine l_nil ?_) | ((with_reducible refine g_on ?_); (first | ((with_reducible refine g_mv ?_); refine l_p txs rfl rfl ?_) | ((with_reducible refine g_as ?_); refine l_p txs rfl rfl ?_) | ((with_reducible refine g_pk ?_); refine l_p txs rfl rfl ?_))) | ((with_reducible refine g_if ?_); (refine l_off rfl ?_)))
    refine end1 rfl rfl ?_
    exact ⟨by rw [hok]; rfl, H.B⟩
end Go.Proofs.YthgojbdpmcccaaaGreatDoor.K.Ref
end
section
namespace Go.Proofs.YthgojbdpmcccaaaGreatDoor.K.Ref
open Go.RowKit Go.Proofs.YthgojbdpmcccaaaGreatDoor.Q Go.Proofs.YthgojbdpmcccaaaGreatDoor.Wb Go.Proofs.YthgojbdpmcccaaaGreatDoorW.PrintWords Go.Proofs.YthgojbdpmcccaaaGreatDoor.K
set_option linter.unusedVariables false
set_option linter.unusedSimpArgs false
theorem info_str1 : (Tryz.prog.info? 9).map (·.size) = some 1 := by kernel_rfl
set_option maxHeartbeats 4000000 in
theorem rknown_c {w : World} {t2 : TypeId} {fr : Nat × Nat} (hT : w.heap[14]? = some (.cells meC t2 fr)) (s : ByteArray) :
    Calls Tryz.prog 81 #[.string s] w fun e w' => e = .returned (.bool (methodsS.contains (bl s))) ∧ Below w.heap.size w w' := by
  refine enter (args := [.string s]) Tryz.func81 rfl Tryz.ntmps81 rfl ?_
  have H := Hp.nil w
  repeat' (first | (with_reducible first | refine p_tn ?_ | refine wp_seq ?_ | refine wp_block ?_ | refine w_reg ?_ | refine l_nil ?_) | ((with_reducible refine g_on ?_); ((with_reducible refine g_as ?_); refine l_p txs rfl rfl ?_)))
  refine w_loop (σ := Nat) (S := fun k => [(0, .string s), (3, .int .i64 (k : Int))]) (J := fun k w' => Hp w w' [] [] ∧ k ≤ 9 ∧ methodsS.contains (bl s) = (methodsS.drop k).contains (bl s)) (μ := fun k => 9 - k) 0 ⟨rfl, rfl, trivial⟩ ⟨H, by omega, rfl⟩ ?_
  rintro k f w_ ⟨H, hk, hl⟩
  repeat' (first | (with_reducible first | refine wp_seq ?_ | refine w_reg ?_) | ((with_reducible refine g_on ?_); ((with_reducible refine g_mv ?_); refine l_p txs rfl rfl ?_)))
  (with_reducible refine is_l ?_); refine l_t txs rfl rfl (fun hlt => ?_) (fun hge => ?_)
  · have hk' : k < 9 := by omega
    obtain ⟨h1, h2⟩ := me_at k hk'
    rw [h2, List.contains_cons] at hl
    have hcell : w.cell? ⟨14, k, none⟩ = some (.string (meB.getD k ⟨#[]⟩)) := by
      simp only [World.cell?, hT]
      exact h1
    repeat' (first | (with_reducible first | refine p_tn ?_ | refine wp_seq ?_ | refine wp_block ?_ | refine w_reg ?_) | (with_reducible (refine is_if ?_; (refine w_ift rfl ?_))) | (with_reducible first | refine wp_skip ?_ | refine l_nil ?_) | ((with_reducible refine g_on ?_); ((with_reducible refine g_mv ?_); refine l_p txs rfl rfl ?_)))
    (with_reducible refine is_l ?_); refine l_iaa Tryz.underlying208 info_str1 rfl rfl rfl (by omega) (by omega) ?_
    skip
    (with_reducible refine is_l ?_); refine l_ld txs rfl rfl (by rw [Int.toNat_natCast]; exact H.old hcell) ?_
    repeat' ((with_reducible refine g_on ?_); ((with_reducible refine g_mv ?_); refine l_p txs rfl rfl ?_))
    (with_reducible refine is_l ?_); refine l_t txs rfl rfl (fun hh => ?_) (fun hn => ?_)
    · repeat' (first | (with_reducible first | refine p_tn ?_ | refine p_tr ?_ | refine p_br ?_ | refine wp_seq ?_ | refine w_reg ?_) | (with_reducible (refine is_if ?_; (refine w_ift rfl ?_))) | (with_reducible first | refine wp_ret ?_ | refine l_nil ?_) | ((with_reducible refine g_on ?_); ((with_reducible refine g_as ?_); refine l_p txs rfl rfl ?_)))
      refine end1 rfl rfl ?_
      exact ⟨by rw [hl, hh]; simp, H.B⟩
    · repeat' (first | (with_reducible first | refine p_tn ?_ | refine p_bn ?_ | refine w_reg ?_) | (with_reducible (refine is_if ?_; (refine w_iff rfl ?_))) | (with_reducible first | refine wp_skip ?_ | refine l_nil ?_) | ((with_reducible refine g_on ?_); (first | ((with_reducible refine g_mv ?_); refine l_p txs rfl rfl ?_) | ((with_reducible refine g_as ?_); refine l_p txs rfl rfl ?_) | ((with_reducible refine g_bi ?_); (refine l_a txs rfl rfl (by first | exact in_i64 (by omega) (by omega) | exact in_u8 (by omega) (by omega) | exact in_u64 (by omega) (by omega) | exact in_i32 (by omega) (by omega)) ?_)))))
      exact ⟨k + 1, _, rfl, ⟨rfl, rfl, trivial⟩, ⟨H, by omega, by rw [hl, beq_eq_false_iff_ne.2 (fun e => hn e.symm)]; simp⟩, by omega⟩
  · have hnil : methodsS.drop k = [] := List.drop_eq_nil_of_le (by show 9 ≤ k; omega)
    rw [hnil] at hl
    repeat' (first | (with_reducible first | refine p_tn ?_ | refine p_tx ?_ | refine x_hit ?_ | refine wp_seq ?_ | refine w_reg ?_) | (with_reducible (refine is_if ?_; (refine w_iff rfl ?_))) | (with_reducible first | refine wp_exit ?_ | refine wp_ret ?_ | refine l_nil ?_) | ((with_reducible refine g_on ?_); ((with_reducible refine g_as ?_); refine l_p txs rfl rfl ?_)))
    refine end1 rfl rfl ?_
    exact ⟨by rw [hl]; rfl, H.B⟩
def hexI (c : Int) : Int := match hexV c with | some n => (n : Int) | none => -1
end Go.Proofs.YthgojbdpmcccaaaGreatDoor.K.Ref
end
section
namespace Go.Proofs.YthgojbdpmcccaaaGreatDoor.K.Ref
open Go.RowKit Go.Proofs.YthgojbdpmcccaaaGreatDoor.Q Go.Proofs.YthgojbdpmcccaaaGreatDoor.Wb Go.Proofs.YthgojbdpmcccaaaGreatDoorW.PrintWords Go.Proofs.YthgojbdpmcccaaaGreatDoor.K
set_option linter.unusedVariables false
set_option linter.unusedSimpArgs false
def outUn (b : L) : L × Nat × Nat := match unchunkS b with | .ok (x, n) => (x, n, 0) | .error k => ([], 0, k)
theorem un_err {b : L} {k : Nat} (h : unchS (b.length + 1) [] b = .error k) : outUn b = ([], 0, k) := by unfold outUn unchunkS; rw [h]
theorem un_ok {b x r : L} (h : unchS (b.length + 1) [] b = .ok (x, r)) : outUn b = (x, b.length - r.length, 0) := by unfold outUn unchunkS; rw [h]
end Go.Proofs.YthgojbdpmcccaaaGreatDoor.K.Ref
end
section
namespace Go.Proofs.YthgojbdpmcccaaaGreatDoor.K.Ref
open Go.RowKit Go.Proofs.YthgojbdpmcccaaaGreatDoor.Q Go.Proofs.YthgojbdpmcccaaaGreatDoor.Wb Go.Proofs.YthgojbdpmcccaaaGreatDoorW.PrintWords Go.Proofs.YthgojbdpmcccaaaGreatDoor.K
set_option linter.unusedVariables false
set_option linter.unusedSimpArgs false
def wOf (v : L) : List L := (splitC 44 v).map fun w => lowS (trimS w)
theorem closes_eq (l : List Fld) (minor : Int) : closesS l minor = (((vals l nConn).flatMap wOf).contains wClose || (minor != 1 && !((vals l nConn).flatMap wOf).contains wKeep)) := rfl
theorem map_take {α β : Type} (g : α → β) {l : List α} {j : Nat} {y : α} (h : l[j]? = some y) : (l.map g).take (j + 1) = (l.map g).take j ++ [g y] := by
  have hj : j < l.length := (List.getElem?_eq_some_iff.1 h).1
  have e : l[j] = y := (List.getElem?_eq_some_iff.1 h).2
  rw [List.take_succ_eq_append_getElem (by simpa using hj)]
  simp [e]
end Go.Proofs.YthgojbdpmcccaaaGreatDoor.K.Ref
end
section
namespace Go.Proofs.YthgojbdpmcccaaaGreatDoor.K.Ref
open Go.RowKit Go.Proofs.YthgojbdpmcccaaaGreatDoor.Q Go.Proofs.YthgojbdpmcccaaaGreatDoor.Wb Go.Proofs.YthgojbdpmcccaaaGreatDoorW.PrintWords Go.Proofs.YthgojbdpmcccaaaGreatDoor.K
set_option linter.unusedVariables false
set_option linter.unusedSimpArgs false
theorem rowG_at {w0 w : World} {l : List Ent} {r : List RowD} (H : Hp w0 w l r) (k : Nat) {A : Option Addr} {c : Nat} {x : List Fld} (hk : r[k]? = some (rowG (.slice A x.length c) x)) : Rd w A (fldC x) := by
  obtain ⟨A', c', e, _, hrd, _⟩ := H.rd k hk
  simp only [Value.slice.injEq] at e
  rw [e.1]
  exact hrd
def frN : Wb.Frame → Int
  | .none => -1
  | .chunks => -2
  | .len n => (n : Int)
end Go.Proofs.YthgojbdpmcccaaaGreatDoor.K.Ref
end
section
namespace Go.Proofs.YthgojbdpmcccaaaGreatDoor.K.Ref
open Go.RowKit Go.Proofs.YthgojbdpmcccaaaGreatDoor.Q Go.Proofs.YthgojbdpmcccaaaGreatDoor.Wb Go.Proofs.YthgojbdpmcccaaaGreatDoorW.PrintWords Go.Proofs.YthgojbdpmcccaaaGreatDoor.K
set_option linter.unusedVariables false
set_option linter.unusedSimpArgs false
section
variable {P : Program} {ty : Nat → Option Ty} {n : Nat} {f : Fr} {w : World} {o : Oper}
end
theorem rbare_c (st : Int) (w : World) : Calls Tryz.prog 120 #[.int .i64 st] w fun e w' => e = .returned (.bool (bareS st)) ∧ Below w.heap.size w w' := by
  refine enter (args := [.int .i64 st]) Tryz.func120 rfl Tryz.ntmps120 rfl ?_
  have H := Hp.nil w
  repeat' (first | (with_reducible first | refine p_tn ?_ | refine wp_seq ?_ | refine w_reg ?_ | refine wp_ret ?_ | refine l_nil ?_) | (with_reducible (refine is_l ?_; (first | (refine l_off rfl ?_) | (refine l_p tys rfl rfl ?_) | (refine l_t tys rfl rfl (fun _ => ?_) (fun _ => ?_))))))
  all_goals
    refine end1 rfl rfl ?_
    refine ⟨?_, H.B⟩
    congr 2
    unfold bareS
    simp
    try omega
end Go.Proofs.YthgojbdpmcccaaaGreatDoor.K.Ref
end
