/- Joined texts of mine, 4: PUnq, PB64B, Gx7, Gx8, Gx9, Ta, Tb, QA, Tc, Td. -/
import Derived.Test.YtljinjgamgmocaaDoorPb3
section
namespace Go.Proofs.YtljinjgamgmocaaDoor.Pure
open Go.RowKit Go.Proofs.YtljinjgamgmocaaDoor.G Go.Proofs.YtljinjgamgmocaaDoorW.PrintWords Go.Proofs.YtljinjgamgmocaaDoorW.PrintLast Go.Proofs.YtljinjgamgmocaaDoorW.PrintMore
set_option linter.unusedSimpArgs false
set_option linter.unusedVariables false
theorem behind {t : ByteArray} {p r : List Int} (h : bytesOf t = p ++ r) : bytesOf (t.extract p.length t.size) = r := by
  rw [bytesOf_extract, h, size_of h]
  simp
def uAns (acc : List Int) (o : Option (List Int)) : List Int × Int := match o with | some l => (acc ++ l, 0) | none => ([], 66)
theorem unq_short (n : Nat) (s : List Int) (h0 : s ≠ []) (h : s.length < 4) (hs : ∀ c r, s = c :: r → selfB c = false) : unq (n + 1) s = none := by
  match s, h0, h, hs with
  | [c], _, _, hs => simp [unq, hs c [] rfl]
  | [c, x], _, _, hs => simp [unq, hs c [x] rfl]
  | [c, x, y], _, _, hs => simp [unq, hs c [x, y] rfl]
  | _ :: _ :: _ :: _ :: _, _, h, _ => simp only [List.length_cons] at h; omega
theorem unq_other (n : Nat) (c x : Int) (r : List Int) (hs : selfB c = false) (h : ¬ (c = 92 ∧ x = 120)) : unq (n + 1) (c :: x :: r) = none := by
  simp only [unq, hs]
  rw [if_neg (by simp)]
  split
  · rename_i heq
    simp only [List.cons.injEq] at heq
    exact absurd ⟨heq.1, heq.2.1⟩ h
  · rfl
theorem str_is (t : ByteArray) (a b : Int) (h : bytesOf t = [a, b]) : (t.toList != ([92, 120] : List UInt8)) = decide (¬ (a = 92 ∧ b = 120)) := by
  have e : ([92, 120] : List UInt8) = (⟨#[92, 120]⟩ : ByteArray).toList := by decide +kernel
  have e2 : bytesOf (⟨#[92, 120]⟩ : ByteArray) = [92, 120] := by decide +kernel
  rw [Bool.eq_iff_iff, bne_iff_ne, decide_eq_true_iff, e, ne_eq, toList_iff, h, e2]
  simp
theorem uq_nil (n k : Nat) (t : ByteArray) (acc : List Int) (h : bytesOf t = []) : text_Unquote.l0 (k + 1) t acc = some (uAns acc (unq (n + 1) (bytesOf t))) := by
  rw [text_Unquote.l0, if_pos ((toList_nil_iff t).2 h), h]
  simp [uAns, unq]
theorem uq_loop (n : Nat) : ∀ (t : ByteArray) (acc : List Int) (k : Nat), t.size ≤ n → acc.length + t.size ≤ 1048576 → 2 * n + 1048710 ≤ k →
    text_Unquote.l0 k t acc = some (uAns acc (unq (n + 1) (bytesOf t))) := by
  induction n with
  | zero =>
    intro t acc k hn ha hk
    obtain ⟨k, rfl⟩ : ∃ m, k = m + 1 := ⟨k - 1, by omega⟩
    have hl := bytesOf_length t
    exact uq_nil 0 k t acc (List.length_eq_zero_iff.1 (by omega))
  | succ n ihn =>
    intro t acc k hn ha hk
    obtain ⟨k, rfl⟩ : ∃ m, k = m + 2 := ⟨k - 2, by omega⟩
    have hl := bytesOf_length t
    by_cases h0 : bytesOf t = []
    · exact uq_nil (n + 1) (k + 1) t acc h0
    rw [text_Unquote.l0]
    rw [if_neg (fun e => h0 ((toList_nil_iff t).1 e))]
    obtain ⟨c, r, hc⟩ : ∃ c r, bytesOf t = c :: r := by
      cases hb : bytesOf t with
      | nil => exact absurd hb h0
      | cons c r => exact ⟨c, r, rfl⟩
    have hz := size_of hc
    simp only [List.length_cons] at hz
    have h1 : bt t 0 = c := bt_mid (p := []) hc
    rw [if_pos (by omega), h1, itself_f]
    simp only [Option.bind_some]
    by_cases hs : selfB c = true
    · have e1 : bytesOf (t.extract 1 t.size) = r := behind (p := [c]) hc
      have e2 := bytesOf_length (t.extract 1 t.size)
      rw [e1] at e2
      have ih := ihn (t.extract 1 t.size) (acc ++ [c]) (k + 1) (by omega) (by simp; omega) (by omega)
      rw [if_pos hs, if_pos (by omega), if_pos (by omega), ih, e1, hc]
      rw [show unq (n + 1 + 1) (c :: r) = (unq (n + 1) r).map (c :: ·) from by rw [unq, if_pos hs]]
      cases unq (n + 1) r <;> simp [uAns]
    have hs' : selfB c = false := by simpa using hs
    rw [if_neg hs]
    by_cases h4 : t.size < 4
    · rw [if_pos (by omega), text_Unquote.j2, if_pos rfl, unq_short _ _ h0 (by omega) (fun c' r' e => by rw [hc] at e; obtain ⟨rfl, rfl⟩ := List.cons.inj e; exact hs')]
      rfl
    rw [if_neg (by omega), if_pos (by omega), if_pos (by omega)]
    obtain ⟨x, a, b, r', rfl⟩ : ∃ x a b r', r = x :: a :: b :: r' := by
      match r, hz with
      | [], hz => simp only [List.length_nil] at hz; omega
      | [_], hz => simp only [List.length_cons, List.length_nil] at hz; omega
      | [_, _], hz => simp only [List.length_cons, List.length_nil] at hz; omega
      | x :: a :: b :: r', _ => exact ⟨x, a, b, r', rfl⟩
    have e1 : bytesOf (t.extract 0 2) = [c, x] := by rw [bytesOf_extract, hc]; rfl
    rw [str_is _ c x e1]
    by_cases hcx : c = 92 ∧ x = 120
    · have e2 : bytesOf (t.extract 2 4) = [a, b] := by rw [bytesOf_extract, hc]; rfl
      have e3 : (t.extract 2 4).size = 2 := size_of e2
      have hT : hexTold (t.extract 2 4) = (match unhex [a, b] with | some l => (l, (0 : Int)) | none => (([] : List Int), 61)) := by
        unfold hexTold
        rw [if_neg (by omega), e2]
        cases unhex [a, b] <;> rfl
      rw [text_Unquote.j2, if_neg (by rw [decide_eq_true_iff]; exact fun h => h hcx), if_pos (by omega), if_pos (by omega), (decHex _ k (by omega)).1, hT]
      simp only [Option.bind_some]
      obtain ⟨rfl, rfl⟩ := hcx
      rw [hc]
      rcases unhex_two a b with hu | ⟨v, hu⟩
      · rw [hu]
        simp [uAns, unq, hs', hu]
      · rw [hu]
        have e4 : bytesOf (t.extract 4 t.size) = r' := behind (p := [92, 120, a, b]) hc
        have e5 := bytesOf_length (t.extract 4 t.size)
        rw [e4] at e5
        simp only [List.length_cons, List.length_nil] at hz ⊢
        have ih := ihn (t.extract 4 t.size) (acc ++ [v]) k (by omega) (by simp; omega) (by omega)
        have hq : unq (n + 1 + 1) (92 :: 120 :: a :: b :: r') = if selfB v = true then none else (unq (n + 1) r').map (v :: ·) := by simp [unq, hs', hu]
        rw [hq, if_pos trivial, if_pos (by omega), rd_zero, itself_f]
        simp only [Option.bind_some]
        by_cases hv : selfB v = true
        · rw [if_pos hv, if_pos hv]
          rfl
        · rw [if_neg hv, if_neg hv, if_pos (by omega), ih, e4]
          cases unq (n + 1) r' <;> simp [uAns]
    · rw [text_Unquote.j2, if_pos (decide_eq_true hcx), hc, unq_other _ _ _ _ hs' hcx]
      rfl
def quoIs (s : ByteArray) (r : List Int × Int) : Prop :=
  (s.size > 1048576 ∧ r = ([], 2)) ∨ (s.size ≤ 1048576 ∧ ((∃ l, Bytes l ∧ quoteOf l = bytesOf s ∧ r = (l, 0)) ∨ ((∀ l, Bytes l → quoteOf l ≠ bytesOf s) ∧ r = ([], 66))))
theorem quoteOf_inj {a b : List Int} (ha : Bytes a) (hb : Bytes b) (h : quoteOf a = quoteOf b) : a = b := by
  simp only [quoteOf, List.cons.injEq, true_and] at h
  have h' := List.append_inj_left' h rfl
  have e1 := unq_qOf a (a.length + b.length + 1) ha (by omega)
  have e2 := unq_qOf b (a.length + b.length + 1) hb (by omega)
  rw [h', e2] at e1
  exact (Option.some.inj e1).symm
theorem unq_f (s : ByteArray) (k : Nat) (hk : 3145900 ≤ k) : ∃ r, text_Unquote.f k s = some r ∧ quoIs s r := by
  have hl := bytesOf_length s
  by_cases hm : s.size ≤ 1048576
  · have c1 : ¬ (s.size : Int) > 1048576 := by omega
    obtain ⟨k, rfl⟩ : ∃ m, k = m + 1 := ⟨k - 1, by omega⟩
    unfold text_Unquote.f
    rw [if_neg c1]
    by_cases h2 : s.size < 2
    · refine ⟨([], 66), ?_, .inr ⟨hm, .inr ⟨fun l _ e => ?_, rfl⟩⟩⟩
      · rw [if_pos (by omega), text_Unquote.j0, if_pos rfl]
      · have := congrArg List.length e
        simp only [quoteOf, List.length_cons, List.length_append, List.length_nil] at this
        omega
    rw [if_neg (by omega), if_pos (by omega)]
    have w1 := Aside0.mk (w64 (x := (s.size : Int) - 1) (by omega) (by omega))
    by_cases hf : bt s 0 = 34
    · rw [if_pos hf, w1.out, if_pos (by omega), if_pos (by omega), text_Unquote.j0]
      by_cases hg : bt s ((s.size : Int) - 1) = 34
      · have hb : bytesOf s = 34 :: (bytesOf (s.extract 1 (s.size - 1)) ++ [34]) := by
          rw [← rd_bytesOf] at hf hg
          rw [bytesOf_extract]
          match hs : bytesOf s, hl with
          | [], hl => simp at hl; omega
          | c :: r, hl =>
            simp only [List.length_cons] at hl
            rw [hs] at hf hg
            obtain rfl : c = 34 := hf
            rw [List.drop_succ_cons, List.drop_zero]
            congr 1
            have hne : r ≠ [] := fun e => by rw [e] at hl; simp at hl; omega
            have hla : r.getLast hne = 34 := by
              rw [List.getLast_eq_getElem]
              rw [← hg]
              simp only [rd, List.getD_eq_getElem?_getD]
              rw [show ((s.size : Int) - 1).toNat = (r.length - 1) + 1 from by omega, List.getElem?_cons_succ, List.getElem?_eq_getElem (by omega)]
              rfl
            refine (List.dropLast_concat_getLast hne).symm.trans ?_
            rw [hla, List.dropLast_eq_take, show s.size - 1 - 1 = r.length - 1 from by omega]
        have hz := bytesOf_length (s.extract 1 (s.size - 1))
        have he : (s.extract 1 (s.size - 1)).size = s.size - 2 := by rw [ByteArray.size_extract]; omega
        rw [hg, if_neg (by simp)]
        simp only [w1.out]
        rw [if_pos (by omega), if_pos (by omega), show ((s.size : Int) - 1).toNat = s.size - 1 from by omega, if_pos (by omega), if_pos (by omega)]
        rw [uq_loop (s.size - 2) (s.extract 1 (s.size - 1)) [] k (by omega) (by simp only [List.length_nil]; omega) (by omega)]
        refine ⟨_, rfl, .inr ⟨hm, ?_⟩⟩
        cases hu : unq (s.size - 2 + 1) (bytesOf (s.extract 1 (s.size - 1))) with
        | some l =>
          obtain ⟨h1, h2⟩ := unq_sound _ _ _ (bytesOf_bytes _) hu
          exact .inl ⟨l, h2, by rw [quoteOf, h1, hb], by simp [uAns]⟩
        | none =>
          refine .inr ⟨fun l hl' e => ?_, rfl⟩
          rw [hb, quoteOf, List.cons.injEq] at e
          have e' := List.append_inj_left' e.2 rfl
          have h1 := (qOf_length l).1
          rw [e', hz] at h1
          have := unq_qOf l (s.size - 2 + 1) hl' (by omega)
          rw [e', hu] at this
          cases this
      · refine ⟨([], 66), ?_, .inr ⟨hm, .inr ⟨fun l _ e => hg ?_, rfl⟩⟩⟩
        · rw [if_pos (by simpa using hg)]
        · have hz := size_of e.symm
          simp only [quoteOf, List.length_cons, List.length_append, List.length_nil] at hz
          rw [quoteOf] at e
          rw [show (s.size : Int) - 1 = ((34 :: qOf l).length : Int) from by simp only [List.length_cons]; omega]
          exact bt_mid (r := []) (p := 34 :: qOf l) (by rw [← e]; rfl)
    · refine ⟨([], 66), ?_, .inr ⟨hm, .inr ⟨fun l _ e => hf ?_, rfl⟩⟩⟩
      · rw [if_neg hf, text_Unquote.j0, if_pos rfl]
      · exact bt_mid (p := []) (r := qOf l ++ [34]) e.symm
  · have c1 : (s.size : Int) > 1048576 := by omega
    refine ⟨([], 2), ?_, .inl ⟨by omega, rfl⟩⟩
    unfold text_Unquote.f
    rw [if_pos c1]
end Go.Proofs.YtljinjgamgmocaaDoor.Pure
end
section
namespace Go.Proofs.YtljinjgamgmocaaDoor.Pure
open Go.RowKit Go.Proofs.YtljinjgamgmocaaDoor.G Go.Proofs.YtljinjgamgmocaaDoorW.PrintWords Go.Proofs.YtljinjgamgmocaaDoorW.PrintLast Go.Proofs.YtljinjgamgmocaaDoorW.PrintMore
set_option linter.unusedSimpArgs false
set_option linter.unusedVariables false
theorem dloop : ∀ (r : List Int) (s : ByteArray) (pre acc : List Int) (k : Nat), bytesOf s = pre ++ r → s.size ≤ 1048576 → acc.length + r.length ≤ 1048576 → r.length % 4 ≠ 1 → r.length + 8 ≤ k →
    text_DecodeBase64.l0 k s acc 0 0 (s.size : Int) (pre.length : Int) = some (match dec64 r with | some l => (acc ++ l, 0) | none => ([], 60))
  | [], s, pre, acc, k, hs, hm, ha, h4, hk => by
    obtain ⟨k, rfl⟩ := rounds (n := 0) (k := k) (by omega)
    have hz := size_of hs
    simp only [List.append_nil] at hz
    simp only [text_DecodeBase64.l0, dec64]
    rw [if_neg (by omega)]
    simp
  | [_], _, _, _, _, _, _, _, h4, _ => by simp at h4
  | [a, b], s, pre, acc, k, hs, hm, ha, h4, hk => by
    simp only [List.length_cons, List.length_nil] at ha hk
    obtain ⟨k, rfl⟩ : ∃ m, k = m + 3 := ⟨k - 3, by omega⟩
    have hz := size_of hs
    simp only [List.length_append, List.length_cons, List.length_nil] at hz
    rcases val_cases a with va | ⟨a0, a1, a2⟩
    · rw [dstep_bad hs (by omega) acc 0 0 (k + 2) (by omega)]
      simp only [dec64]; rw [if_pos (by omega)]
    rw [dstep_0 hs hm a0 a1 acc (k + 2) (by omega)]
    have hs1 : bytesOf s = (pre ++ [a]) ++ b :: [] := by rw [hs]; simp
    rcases val_cases b with vb | ⟨b0, b1, b2⟩
    · rw [dstep_bad hs1 (by omega) acc _ _ (k + 1) (by omega)]
      simp only [dec64]; rw [if_neg (by omega), if_pos (by omega)]
    rw [dstep_n hs1 hm b0 b1 acc (val a) 6 4 (by omega) (by omega) a0 a1 (by omega) (k + 1) (by omega)]
    have hs2 : bytesOf s = (pre ++ [a] ++ [b]) ++ [] := by rw [hs]; simp
    have hz2 := size_of hs2
    simp only [text_DecodeBase64.l0, dec64]
    rw [if_neg (show ¬ (((pre ++ [a] ++ [b]).length : Nat) : Int) < (s.size : Int) by rw [hz2]; simp)]
    by_cases e : val b % 16 = 0
    · rw [if_pos (by omega), if_neg (by omega), if_neg (by omega), if_pos e, show (val a * 64 + val b) / 2 ^ 4 % 256 = val a * 4 + val b / 16 from by omega]
    · rw [if_neg (by omega), if_neg (by omega), if_neg (by omega), if_neg e]
  | [a, b, c], s, pre, acc, k, hs, hm, ha, h4, hk => by
    simp only [List.length_cons, List.length_nil] at ha hk
    obtain ⟨k, rfl⟩ : ∃ m, k = m + 4 := ⟨k - 4, by omega⟩
    have hz := size_of hs
    simp only [List.length_append, List.length_cons, List.length_nil] at hz
    rcases val_cases a with va | ⟨a0, a1, a2⟩
    · rw [dstep_bad hs (by omega) acc 0 0 (k + 3) (by omega)]
      simp only [dec64]; rw [if_pos (by omega)]
    rw [dstep_0 hs hm a0 a1 acc (k + 3) (by omega)]
    have hs1 : bytesOf s = (pre ++ [a]) ++ b :: [c] := by rw [hs]; simp
    rcases val_cases b with vb | ⟨b0, b1, b2⟩
    · rw [dstep_bad hs1 (by omega) acc _ _ (k + 2) (by omega)]
      simp only [dec64]; rw [if_neg (by omega), if_pos (by omega)]
    rw [dstep_n hs1 hm b0 b1 acc (val a) 6 4 (by omega) (by omega) a0 a1 (by omega) (k + 2) (by omega)]
    have hs2 : bytesOf s = (pre ++ [a] ++ [b]) ++ c :: [] := by rw [hs]; simp
    rcases val_cases c with vc | ⟨c0, c1, c2⟩
    · rw [dstep_bad hs2 (by omega) _ _ _ (k + 1) (by omega)]
      simp only [dec64]; rw [if_neg (by omega), if_neg (by omega), if_pos (by omega)]
    rw [dstep_n hs2 hm c0 c1 _ ((val a * 64 + val b) % 2 ^ 4) ((4 : Nat) : Int) 2 (by omega) (by omega) (by omega) (by omega) (by simp; omega) (k + 1) (by omega)]
    have hs3 : bytesOf s = (pre ++ [a] ++ [b] ++ [c]) ++ [] := by rw [hs]; simp
    have hz3 := size_of hs3
    simp only [text_DecodeBase64.l0, dec64]
    rw [if_neg (show ¬ (((pre ++ [a] ++ [b] ++ [c]).length : Nat) : Int) < (s.size : Int) by rw [hz3]; simp)]
    by_cases e : val c % 4 = 0
    · rw [if_pos (by omega), if_neg (by omega), if_neg (by omega), if_neg (by omega), if_pos e, show (val a * 64 + val b) / 2 ^ 4 % 256 = val a * 4 + val b / 16 from by omega, show ((val a * 64 + val b) % 2 ^ 4 * 64 + val c) / 2 ^ 2 % 256 = val b % 16 * 16 + val c / 4 from by omega]
      simp
    · rw [if_neg (by omega), if_neg (by omega), if_neg (by omega), if_neg (by omega), if_neg e]
  | a :: b :: c :: d :: r, s, pre, acc, k, hs, hm, ha, h4, hk => by
    simp only [List.length_cons] at ha hk h4
    obtain ⟨k, rfl⟩ : ∃ m, k = m + 4 := ⟨k - 4, by omega⟩
    have hz := size_of hs
    simp only [List.length_append, List.length_cons] at hz
    rcases val_cases a with va | ⟨a0, a1, a2⟩
    · rw [dstep_bad hs (by omega) acc 0 0 (k + 3) (by omega)]
      simp only [dec64]; rw [if_pos (by omega)]
    rw [dstep_0 hs hm a0 a1 acc (k + 3) (by omega)]
    have hs1 : bytesOf s = (pre ++ [a]) ++ b :: c :: d :: r := by rw [hs]; simp
    rcases val_cases b with vb | ⟨b0, b1, b2⟩
    · rw [dstep_bad hs1 (by omega) acc _ _ (k + 2) (by omega)]
      simp only [dec64]; rw [if_neg (by omega), if_pos (by omega)]
    rw [dstep_n hs1 hm b0 b1 acc (val a) 6 4 (by omega) (by omega) a0 a1 (by omega) (k + 2) (by omega)]
    have hs2 : bytesOf s = (pre ++ [a] ++ [b]) ++ c :: d :: r := by rw [hs]; simp
    rcases val_cases c with vc | ⟨c0, c1, c2⟩
    · rw [dstep_bad hs2 (by omega) _ _ _ (k + 1) (by omega)]
      simp only [dec64]; rw [if_neg (by omega), if_neg (by omega), if_pos (by omega)]
    rw [dstep_n hs2 hm c0 c1 _ ((val a * 64 + val b) % 2 ^ 4) ((4 : Nat) : Int) 2 (by omega) (by omega) (by omega) (by omega) (by simp; omega) (k + 1) (by omega)]
    have hs3 : bytesOf s = (pre ++ [a] ++ [b] ++ [c]) ++ d :: r := by rw [hs]; simp
    rcases val_cases d with vd | ⟨d0, d1, d2⟩
    · rw [dstep_bad hs3 (by omega) _ _ _ k (by omega)]
      simp only [dec64]; rw [if_neg (by omega), if_neg (by omega), if_neg (by omega), if_pos (by omega)]
    rw [dstep_n hs3 hm d0 d1 _ (((val a * 64 + val b) % 2 ^ 4 * 64 + val c) % 2 ^ 2) ((2 : Nat) : Int) 0 (by omega) (by omega) (by omega) (by omega) (by simp; omega) k (by omega)]
    have hs4 : bytesOf s = (pre ++ [a] ++ [b] ++ [c] ++ [d]) ++ r := by rw [hs]; simp
    have ih := dloop r s _ (acc ++ [(val a * 64 + val b) / 2 ^ 4 % 256] ++ [((val a * 64 + val b) % 2 ^ 4 * 64 + val c) / 2 ^ 2 % 256] ++ [(((val a * 64 + val b) % 2 ^ 4 * 64 + val c) % 2 ^ 2 * 64 + val d) / 2 ^ 0 % 256]) k hs4 hm (by simp; omega) (by omega) (by omega)
    rw [show ((((val a * 64 + val b) % 2 ^ 4 * 64 + val c) % 2 ^ 2 * 64 + val d) % 2 ^ 0 : Int) = 0 from by omega, show (((0 : Nat) : Int)) = 0 from rfl, ih]
    simp only [dec64]
    rw [if_neg (by omega), if_neg (by omega), if_neg (by omega), if_neg (by omega)]
    rw [show (val a * 64 + val b) / 2 ^ 4 % 256 = val a * 4 + val b / 16 from by omega, show ((val a * 64 + val b) % 2 ^ 4 * 64 + val c) / 2 ^ 2 % 256 = val b % 16 * 16 + val c / 4 from by omega, show (((val a * 64 + val b) % 2 ^ 4 * 64 + val c) % 2 ^ 2 * 64 + val d) / 2 ^ 0 % 256 = val c % 4 * 64 + val d from by omega]
    cases dec64 r with
    | none => rfl
    | some l => simp
def trim1 (s : ByteArray) : ByteArray := if 1 ≤ s.size ∧ bt s ((s.size : Int) - 1) = 61 then s.extract 0 (s.size - 1) else s
theorem trim_f (s : ByteArray) (hm : s.size ≤ 1048576) : strings_TrimSuffix.f s (⟨#[61]⟩ : ByteArray) = some (trim1 s) := by
  have hw1 := Aside0.mk (w64 (x := (s.size : Int) - 1) (by omega) (by omega))
  have h1 : ((⟨#[61]⟩ : ByteArray).size : Int) = 1 := rfl
  unfold strings_TrimSuffix.f stringslite_TrimSuffix.f stringslite_HasSuffix.f trim1
  simp only [h1, hw1.out]
  by_cases h0 : 1 ≤ s.size
  · rw [if_pos (by omega), if_pos (by omega), if_pos (by omega)]
    simp only [Option.bind_some]
    have hx : ((s.extract (((s.size : Int) - 1).toNat) s.size).toList == (⟨#[61]⟩ : ByteArray).toList) = decide (bt s ((s.size : Int) - 1) = 61) := by
      rw [Bool.eq_iff_iff, beq_iff_eq, decide_eq_true_iff, toList_iff, bytesOf_extract, ← rd_bytesOf]
      have hl := bytesOf_length s
      have hd : (bytesOf s).drop (((s.size : Int) - 1).toNat) = [rd (bytesOf s) ((s.size : Int) - 1)] := by
        rw [List.drop_eq_getElem_cons (by omega), List.drop_eq_nil_of_le (by omega)]
        simp only [rd, List.getD_eq_getElem?_getD]
        rw [List.getElem?_eq_getElem (by omega)]
        rfl
      rw [hd, show s.size - ((s.size : Int) - 1).toNat = 1 from by omega]
      simp [bytesOf]
    rw [hx]
    by_cases e : bt s ((s.size : Int) - 1) = 61
    · rw [if_pos (by simpa using e), if_pos (by omega), if_pos (by omega), if_pos ⟨h0, e⟩]
      simp only [Option.bind_some]
      rw [show ((s.size : Int) - 1).toNat = s.size - 1 from by omega]
    · rw [if_neg (by simpa using e), if_neg (fun h => e h.2)]
      rfl
  · rw [if_neg (by omega)]
    simp only [Option.bind_some]
    rw [if_neg (by simp), if_neg (fun h => h0 h.1)]
    rfl
theorem trim1_size (s : ByteArray) : (trim1 s).size ≤ s.size := by
  unfold trim1
  split
  · rw [ByteArray.size_extract]; omega
  · omega
theorem trim1_eq {s : ByteArray} {l : List Int} (h : bytesOf s = l ++ [61]) : bytesOf (trim1 s) = l := by
  have hz := size_of h
  simp only [List.length_append, List.length_cons, List.length_nil] at hz
  unfold trim1
  rw [if_pos ⟨by omega, by rw [show (s.size : Int) - 1 = (l.length : Int) from by omega]; exact bt_mid (r := []) h⟩]
  rw [bytesOf_extract, h]
  simp [hz]
theorem trim1_ne {s : ByteArray} (h : ∀ l, bytesOf s ≠ l ++ [61]) : trim1 s = s := by
  unfold trim1
  rw [if_neg]
  rintro ⟨h1, h2⟩
  have hl := bytesOf_length s
  apply h ((bytesOf s).dropLast)
  have hne : bytesOf s ≠ [] := fun e => by rw [e] at hl; simp at hl; omega
  rw [← rd_bytesOf] at h2
  refine (List.dropLast_concat_getLast hne).symm.trans ?_
  congr 2
  rw [List.getLast_eq_getElem]
  rw [← h2]
  simp only [rd, List.getD_eq_getElem?_getD]
  rw [List.getElem?_eq_getElem (by omega)]
  simp only [Option.getD_some]
  congr 1
  omega
theorem trim1_cases (s : ByteArray) : (∃ l, bytesOf s = l ++ [61] ∧ bytesOf (trim1 s) = l) ∨ ((∀ l, bytesOf s ≠ l ++ [61]) ∧ trim1 s = s) := by
  by_cases h : ∃ l, bytesOf s = l ++ [61]
  · obtain ⟨l, h⟩ := h
    exact .inl ⟨l, h, trim1_eq h⟩
  · have h' : ∀ l, bytesOf s ≠ l ++ [61] := fun l e => h ⟨l, e⟩
    exact .inr ⟨h', trim1_ne h'⟩
def b64Is (s : ByteArray) (r : List Int × Int) : Prop :=
  (s.size > 1048576 ∧ r = ([], 2)) ∨ (s.size ≤ 1048576 ∧ ((∃ l, Bytes l ∧ enc64 l = bytesOf s ∧ r = (l, 0)) ∨ ((∀ l, Bytes l → enc64 l ≠ bytesOf s) ∧ r = ([], 60))))
theorem enc64_inj {a b : List Int} (ha : Bytes a) (hb : Bytes b) (h : enc64 a = enc64 b) : a = b := by
  obtain ⟨s, e1, e2, e3⟩ := enc64_body ha
  obtain ⟨t, f1, f2, f3⟩ := enc64_body hb
  have key : ∀ (s t : List Int) (m n : Nat), s ++ pads m = t ++ pads n → (s ≠ [] → ∃ s' x, s = s' ++ [x] ∧ x ≠ (61 : Int)) → (t ≠ [] → ∃ s' x, t = s' ++ [x] ∧ x ≠ (61 : Int)) → s = t := by
    intro s t m n h hs ht
    have hp : ∀ n, ∃ k, pads n = List.replicate k 61 := by
      intro n
      unfold pads
      split
      · exact ⟨2, rfl⟩
      split
      · exact ⟨1, rfl⟩
      · exact ⟨0, rfl⟩
    obtain ⟨k1, h1⟩ := hp m
    obtain ⟨k2, h2⟩ := hp n
    rw [h1, h2] at h
    have hd : ∀ (s : List Int) (k : Nat), (s ≠ [] → ∃ s' x, s = s' ++ [x] ∧ x ≠ (61 : Int)) → (s ++ List.replicate k 61).reverse.dropWhile (· == 61) = s.reverse := by
      intro s k hs
      rw [List.reverse_append, List.reverse_replicate]
      have : ∀ k, (List.replicate k (61 : Int) ++ s.reverse).dropWhile (· == 61) = s.reverse.dropWhile (· == 61) := by
        intro k
        induction k with
        | zero => rfl
        | succ k ih => rw [List.replicate_succ, List.cons_append, List.dropWhile_cons_of_pos (by simp), ih]
      rw [this]
      by_cases e : s = []
      · subst e; rfl
      · obtain ⟨s', x, rfl, hx⟩ := hs e
        rw [List.reverse_append]
        simp only [List.reverse_cons, List.reverse_nil, List.nil_append, List.singleton_append]
        rw [List.dropWhile_cons_of_neg (by simpa using hx)]
    have := hd s k1 hs
    rw [h, hd t k2 ht] at this
    exact List.reverse_inj.1 this.symm
  have : s = t := key s t _ _ (by rw [← e1, ← f1, h]) e3 f3
  subst this
  rw [e2] at f2
  exact Option.some.inj f2
theorem pads_cases (n : Nat) : pads n = [] ∨ pads n = [61] ∨ pads n = [61, 61] := by
  unfold pads
  split
  · exact .inr (.inr rfl)
  split
  · exact .inr (.inl rfl)
  · exact .inl rfl
theorem trims (s : ByteArray) : ∃ j, j ≤ 2 ∧ bytesOf s = bytesOf (trim1 (trim1 s)) ++ List.replicate j 61 := by
  rcases trim1_cases s with ⟨l, h1, h2⟩ | ⟨_, h2⟩
  · rcases trim1_cases (trim1 s) with ⟨m, h3, h4⟩ | ⟨_, h4⟩
    · exact ⟨2, by omega, by rw [h1, ← h2, h3, h4]; simp⟩
    · exact ⟨1, by omega, by rw [h4, h1, h2]; rfl⟩
  · rw [h2, h2]
    exact ⟨0, by omega, by simp⟩
theorem trims_of {s : ByteArray} {b : List Int} {n : Nat} (h : bytesOf s = b ++ pads n) (hb : b ≠ [] → ∃ s' x, b = s' ++ [x] ∧ x ≠ (61 : Int)) : bytesOf (trim1 (trim1 s)) = b := by
  have hn : ∀ l, b ≠ l ++ [61] := by
    intro l e
    obtain ⟨s', x, e2, hx⟩ := hb (by rw [e]; simp)
    rw [e] at e2
    exact hx (by simpa using (List.append_inj_right' e2 rfl).symm)
  rcases pads_cases n with e | e | e <;> rw [e] at h
  · rw [List.append_nil] at h
    have h1 : trim1 s = s := trim1_ne (by rw [h]; exact hn)
    rw [h1, h1, h]
  · have h1 := trim1_eq h
    have h2 : trim1 (trim1 s) = trim1 s := trim1_ne (by rw [h1]; exact hn)
    rw [h2, h1]
  · have h1 : bytesOf (trim1 s) = b ++ [61] := trim1_eq (by rw [h]; simp)
    exact trim1_eq h1
def dec64r (s : ByteArray) : List Int × Int := match dec64 (bytesOf (trim1 (trim1 s))) with | some l => (l, 0) | none => ([], 60)
theorem dec64r_is (s : ByteArray) (hm : s.size ≤ 1048576) (h4 : s.size % 4 = 0) : b64Is s (dec64r s) := by
  obtain ⟨j, hj, hs⟩ := trims s
  have hz := size_of hs
  rw [List.length_append, List.length_replicate] at hz
  refine .inr ⟨hm, ?_⟩
  unfold dec64r
  cases he : dec64 (bytesOf (trim1 (trim1 s))) with
  | some l =>
    obtain ⟨h1, h2, h3⟩ := dec64_sound _ _ he
    refine .inl ⟨l, h1, ?_, rfl⟩
    rw [h2, hs]
    congr 1
    rcases pads_cases l.length with e | e | e <;> rw [e] at h3 ⊢ <;> simp only [List.length_nil, List.length_cons] at h3
    · rw [show j = 0 from by omega]; rfl
    · rw [show j = 1 from by omega]; rfl
    · rw [show j = 2 from by omega]; rfl
  | none =>
    refine .inr ⟨fun l hb hl => ?_, rfl⟩
    obtain ⟨b, e1, e2, e3⟩ := enc64_body hb
    have := trims_of (hl.symm.trans e1) e3
    rw [this, e2] at he
    cases he
theorem dec64_main (s : ByteArray) (hm : s.size ≤ 1048576) (h4 : s.size % 4 = 0) (k : Nat) (hk : s.size + 9 ≤ k) : text_DecodeBase64.l0 k (trim1 (trim1 s)) [] 0 0 ((trim1 (trim1 s)).size : Int) 0 = some (dec64r s) := by
  have hm2 := trim1_size s
  have hm3 := trim1_size (trim1 s)
  obtain ⟨j, hj, hs⟩ := trims s
  have hz := size_of hs
  rw [List.length_append, List.length_replicate] at hz
  have hl := bytesOf_length (trim1 (trim1 s))
  have hd := dloop (bytesOf (trim1 (trim1 s))) (trim1 (trim1 s)) [] [] k rfl (by omega) (by simp only [List.length_nil]; omega) (by omega) (by omega)
  unfold dec64r
  simp only [List.length_nil, List.nil_append] at hd
  exact hd
theorem dec64_in (s : ByteArray) (hm : s.size ≤ 1048576) (h4 : s.size % 4 = 0) (k : Nat) (hk : s.size + 9 ≤ k) : text_DecodeBase64.f k s = some (dec64r s) := by
  have hm2 := trim1_size s
  have hw1 := Aside0.mk (w64 (x := (s.size : Int) / 4) (by omega) (by omega))
  have hw2 := Aside0.mk (w64 (x := (s.size : Int) / 4 * 3) (by omega) (by omega))
  have hmain := dec64_main s hm h4 k hk
  have t1 := trim_f s hm
  have t2 := trim_f (trim1 s) (by omega)
  have c1 : ¬ (s.size : Int) > 1048576 := by omega
  have c2 : (s.size : Int) % 4 = 0 := by omega
  have c3 : 0 ≤ (s.size : Int) / 4 * 3 := by omega
  have c4 : ((s.size : Int) / 4 * 3).toNat ≤ 281474976710656 := by omega
  unfold text_DecodeBase64.f
  rw [if_neg c1, if_pos c2, t1, Option.bind_some, t2, Option.bind_some, hw1.out, hw2.out, if_pos c3, if_pos c4]
  exact hmain
theorem dec64_f (s : ByteArray) (k : Nat) (hk : s.size + 9 ≤ k) : ∃ r, text_DecodeBase64.f k s = some r ∧ b64Is s r := by
  by_cases hm : s.size ≤ 1048576
  · by_cases h4 : s.size % 4 = 0
    · exact ⟨_, dec64_in s hm h4 k hk, dec64r_is s hm h4⟩
    · have c1 : ¬ (s.size : Int) > 1048576 := by omega
      have c2 : ¬ (s.size : Int) % 4 = 0 := by omega
      refine ⟨([], 60), ?_, .inr ⟨hm, .inr ⟨fun l hb hl => ?_, rfl⟩⟩⟩
      · unfold text_DecodeBase64.f
        rw [if_neg c1, if_neg c2]
      · have h1 := enc64_length l
        rw [hl, bytesOf_length] at h1
        omega
  · have c1 : (s.size : Int) > 1048576 := by omega
    refine ⟨([], 2), ?_, .inl ⟨by omega, rfl⟩⟩
    unfold text_DecodeBase64.f
    rw [if_pos c1]
end Go.Proofs.YtljinjgamgmocaaDoor.Pure
end
section
namespace Go.Proofs.YtljinjgamgmocaaDoor.G
open Go.RowKit Go.Proofs.YtljinjgamgmocaaDoorW.PrintWords Go.Proofs.YtljinjgamgmocaaDoorW.PrintLast Go.Proofs.YtljinjgamgmocaaDoorW.PrintMore
attribute [local go_sem] max2_int min2_int max_two min_two max_three min_three max_four min_four   -- for this text's walks alone
set_option linter.unusedVariables false
set_option linter.unusedSimpArgs false
set_option maxHeartbeats 8000000 in
set_option maxRecDepth 100000 in
theorem stringslite_HasSuffix.calls (a0 : ByteArray) (a1 : ByteArray) (r : Bool) (w : World) (h : stringslite_HasSuffix.f a0 a1 = some r) :
    Calls Tryd.prog 62 #[.string a0, .string a1] w fun e w' => e = .returned (.bool r) ∧ Drawn0 w w' := by
  have H : (if (a0.size : Int) ≥ (a1.size : Int) then (if 0 ≤ (wrap64 ((a0.size : Int) - (a1.size : Int))) then (if (wrap64 ((a0.size : Int) - (a1.size : Int))) ≤ (a0.size : Int) then (some ((a0.extract ((wrap64 ((a0.size : Int) - (a1.size : Int))) : Int).toNat a0.size).toList == a1.toList)) else (none)) else (none)) else (some false)) = some r := h
  clear h
  by_cases c3 : (a0.size : Int) ≥ (a1.size : Int)
  · rw [if_pos c3] at H
    have c3b0 : decide ((a1.size : Int) ≤ (a0.size : Int)) = true := decide_eq_true c3
    have c3b1 : decide (a1.size ≤ a0.size) = true := decide_eq_true (Int.ofNat_le.mp c3)
    clear c3
    obtain ⟨ji4, hji4⟩ : ∃ j_ : Int, (wrap64 ((a0.size : Int) - (a1.size : Int))) = j_ := ⟨_, rfl⟩
    replace H : (if 0 ≤ (ji4) then (if (ji4) ≤ (a0.size : Int) then (some ((a0.extract ((ji4) : Int).toNat a0.size).toList == a1.toList)) else (none)) else (none)) = some r := by first | (rw [hji4] at H; exact H) | (simp only [hji4] at H ⊢; exact H)
    have hji4w : (IntKind.i64.wrap ((a0.size : Int) - (a1.size : Int))) = ji4 := (i64_w _).trans hji4
    by_cases c5 : 0 ≤ (ji4)
    · rw [if_pos c5] at H
      have c5b0 := eq_true c5
      have c5b1 : decide (0 ≤ (ji4)) = true := decide_eq_true c5
      clear c5
      by_cases c6 : (ji4) ≤ (a0.size : Int)
      · rw [if_pos c6] at H
        have c6b0 := eq_true c6
        have c6b1 : decide ((ji4) ≤ (a0.size : Int)) = true := decide_eq_true c6
        clear c6
        obtain rfl := Option.some.inj H
        go_enter Tryd.func62, Tryd.ntmps62
        go_wp2
        go_ret
        exact ⟨by first | rfl | (simp; done) | (simp only [← hji4] <;> (first | rfl | simp)) | (simp [*]; done), by repeat (first | exact Drawn0.refl _ | apply Drawn0.step)⟩
      · rw [if_neg c6] at H
        exact absurd H (by simp)
    · rw [if_neg c5] at H
      exact absurd H (by simp)
  · rw [if_neg c3] at H
    have c3b0 : decide ((a1.size : Int) ≤ (a0.size : Int)) = false := decide_eq_false c3
    have c3b1 : decide (a1.size ≤ a0.size) = false := decide_eq_false (fun h => c3 (Int.ofNat_le.mpr h))
    clear c3
    obtain rfl := Option.some.inj H
    go_enter Tryd.func62, Tryd.ntmps62
    go_wp2
    go_ret
    exact ⟨by first | rfl | (simp; done) | (simp [*]; done), by repeat (first | exact Drawn0.refl _ | apply Drawn0.step)⟩
set_option maxHeartbeats 8000000 in
set_option maxRecDepth 100000 in
theorem stringslite_TrimSuffix.calls (a0 : ByteArray) (a1 : ByteArray) (r : ByteArray) (w : World) (h : stringslite_TrimSuffix.f a0 a1 = some r) :
    Calls Tryd.prog 50 #[.string a0, .string a1] w fun e w' => e = .returned (.string r) ∧ Drawn0 w w' := by
  have H : ((stringslite_HasSuffix.f a0 a1).bind fun t195 => (if t195 = true then (if 0 ≤ (wrap64 ((a0.size : Int) - (a1.size : Int))) then (if (wrap64 ((a0.size : Int) - (a1.size : Int))) ≤ (a0.size : Int) then (some (a0.extract 0 ((wrap64 ((a0.size : Int) - (a1.size : Int))) : Int).toNat)) else (none)) else (none)) else (some a0))) = some r := h
  clear h
  replace H := Option.bind_eq_some_iff.mp H
  obtain ⟨t195, A30, H⟩ := H
  replace H : (if t195 = true then (if 0 ≤ (wrap64 ((a0.size : Int) - (a1.size : Int))) then (if (wrap64 ((a0.size : Int) - (a1.size : Int))) ≤ (a0.size : Int) then (some (a0.extract 0 ((wrap64 ((a0.size : Int) - (a1.size : Int))) : Int).toNat)) else (none)) else (none)) else (some a0)) = some r := H
  have A3 := Aside0.mk A30
  clear A30
  by_cases c4 : t195 = true
  · subst c4
    have H1 : (if 0 ≤ (wrap64 ((a0.size : Int) - (a1.size : Int))) then (if (wrap64 ((a0.size : Int) - (a1.size : Int))) ≤ (a0.size : Int) then (some (a0.extract 0 ((wrap64 ((a0.size : Int) - (a1.size : Int))) : Int).toNat)) else (none)) else (none)) = some r := by rw [if_pos rfl] at H; exact H
    clear H
    have H := H1
    clear H1
    obtain ⟨ji5, hji5⟩ : ∃ j_ : Int, (wrap64 ((a0.size : Int) - (a1.size : Int))) = j_ := ⟨_, rfl⟩
    replace H : (if 0 ≤ (ji5) then (if (ji5) ≤ (a0.size : Int) then (some (a0.extract 0 ((ji5) : Int).toNat)) else (none)) else (none)) = some r := by first | (rw [hji5] at H; exact H) | (simp only [hji5] at H ⊢; exact H)
    (try rw [hji5] at A3)
    have hji5w : (IntKind.i64.wrap ((a0.size : Int) - (a1.size : Int))) = ji5 := (i64_w _).trans hji5
    by_cases c6 : 0 ≤ (ji5)
    · rw [if_pos c6] at H
      have c6b0 := eq_true c6
      have c6b1 : decide (0 ≤ (ji5)) = true := decide_eq_true c6
      clear c6
      by_cases c7 : (ji5) ≤ (a0.size : Int)
      · rw [if_pos c7] at H
        have c7b0 := eq_true c7
        have c7b1 : decide ((ji5) ≤ (a0.size : Int)) = true := decide_eq_true c7
        clear c7
        obtain rfl := Option.some.inj H
        go_enter Tryd.func50, Tryd.ntmps50
        go_wp2_with (first | ((with_reducible refine gate_callee (f := 62) rfl ?_); refine goesL_ (some 7) rfl rfl Tryd.func62 (by kernel_rfl) rfl #[.string a0, .string a1] rfl (by (try simp only [List.map_toArray, List.map_cons, List.map_nil]); first | done | rfl | (simp only [List.length_drop, List.length_take]; rfl)) ?_; (with_reducible refine (stringslite_HasSuffix.calls a0 a1 true _ A3.out).mono ?_); rintro e w' ⟨rfl, ⟨nd, rfl⟩⟩; refine ⟨_, rfl, ?_⟩))
        go_ret
        exact ⟨by first | rfl | (simp; done) | (simp only [← hji5] <;> (first | rfl | simp)) | (simp [*]; done), by repeat (first | exact Drawn0.refl _ | apply Drawn0.step)⟩
      · rw [if_neg c7] at H
        exact absurd H (by simp)
    · rw [if_neg c6] at H
      exact absurd H (by simp)
  · replace c4 := Bool.eq_false_iff.mpr c4
    subst c4
    have H1 : (some a0) = some r := by rw [if_neg (show ¬ (false = true) by decide)] at H; exact H
    clear H
    have H := H1
    clear H1
    obtain rfl := Option.some.inj H
    go_enter Tryd.func50, Tryd.ntmps50
    go_wp2_with (first | ((with_reducible refine gate_callee (f := 62) rfl ?_); refine goesL_ (some 7) rfl rfl Tryd.func62 (by kernel_rfl) rfl #[.string a0, .string a1] rfl (by (try simp only [List.map_toArray, List.map_cons, List.map_nil]); first | done | rfl | (simp only [List.length_drop, List.length_take]; rfl)) ?_; (with_reducible refine (stringslite_HasSuffix.calls a0 a1 false _ A3.out).mono ?_); rintro e w' ⟨rfl, ⟨nd, rfl⟩⟩; refine ⟨_, rfl, ?_⟩))
    go_ret
    exact ⟨by first | rfl | (simp; done) | (simp [*]; done), by repeat (first | exact Drawn0.refl _ | apply Drawn0.step)⟩
set_option maxHeartbeats 8000000 in
set_option maxRecDepth 100000 in
theorem strings_TrimSuffix.calls (a0 : ByteArray) (a1 : ByteArray) (r : ByteArray) (w : World) (h : strings_TrimSuffix.f a0 a1 = some r) :
    Calls Tryd.prog 39 #[.string a0, .string a1] w fun e w' => e = .returned (.string r) ∧ Drawn0 w w' := by
  have H : ((stringslite_TrimSuffix.f a0 a1).bind fun t196 => (some t196)) = some r := h
  clear h
  replace H := Option.bind_eq_some_iff.mp H
  obtain ⟨t196, A30, H⟩ := H
  replace H : (some t196) = some r := H
  have A3 := Aside0.mk A30
  clear A30
  obtain rfl := Option.some.inj H
  go_enter Tryd.func39, Tryd.ntmps39
  go_wp2_with (first | ((with_reducible refine gate_callee (f := 50) rfl ?_); refine goesL_ (some 7) rfl rfl Tryd.func50 (by kernel_rfl) rfl #[.string a0, .string a1] rfl (by (try simp only [List.map_toArray, List.map_cons, List.map_nil]); first | done | rfl | (simp only [List.length_drop, List.length_take]; rfl)) ?_; (with_reducible refine (stringslite_TrimSuffix.calls a0 a1 t196 _ A3.out).mono ?_); rintro e w' ⟨rfl, ⟨nd, rfl⟩⟩; refine ⟨_, rfl, ?_⟩))
  go_ret
  exact ⟨by first | rfl | (simp; done) | (simp [*]; done), by repeat (first | exact Drawn0.refl _ | apply Drawn0.step)⟩
set_option maxHeartbeats 8000000 in
set_option maxRecDepth 100000 in
theorem text_value.calls (k : Nat) (a0 : Int) (r : Int) (w : World) (h : text_value.f k a0 = some r) :
    Calls Tryd.prog 40 #[.int .u8 a0] w fun e w' => e = .returned (.int .i64 r) ∧ Drawn0 w w' := by
  have H : (if a0 ≥ 65 then (text_value.j0 k a0 (decide (a0 ≤ 90))) else (text_value.j0 k a0 false)) = some r := h
  clear h
  have HC2 := Aside0.mk H
  clear H
  go_enter Tryd.func40, Tryd.ntmps40
  go_upto_region 1 with (fail)
  go_cut [3] (fun v3 wc => ∃ (kq : Nat) (x3_1 : Bool), v3 = .bool x3_1 ∧ Aside0 (text_value.j0 kq a0 x3_1 = some r) ∧ Aside0 (kq ≤ k) ∧ Drawn0 w wc)
  case first =>
    have H := HC2.out
    clear HC2
    by_cases c3 : a0 ≥ 65
    · rw [if_pos c3] at H
      have c3b0 : decide (65 ≤ a0) = true := decide_eq_true c3
      clear c3
      (first | rw [c3b0] | (simp only [i64_w, i32_w]; rw [c3b0]) | skip)
      have H' := Aside0.mk H
      clear H
      go_wp2
      go_meet
      case rel => exact ⟨_, (decide (a0 ≤ 90)), (by first | rfl | (simp; done) | (simp [*]; done)), H', ⟨by first | omega | exact Nat.le_refl _⟩, by repeat (first | exact Drawn0.refl _ | apply Drawn0.step)⟩
    · rw [if_neg c3] at H
      have c3b0 : decide (65 ≤ a0) = false := decide_eq_false c3
      clear c3
      (first | rw [c3b0] | (simp only [i64_w, i32_w]; rw [c3b0]) | skip)
      have H' := Aside0.mk H
      clear H
      go_wp2
      go_meet
      case rel => exact ⟨_, (false), (by first | rfl | (simp; done) | (simp [*]; done)), H', ⟨by first | omega | exact Nat.le_refl _⟩, by repeat (first | exact Drawn0.refl _ | apply Drawn0.step)⟩
  case rest =>
    clear HC2
    try clear p2
    try clear c3
    try clear c3b0
    obtain ⟨kq, x3_1, rfl, HA, HJ1, ⟨mc1, rfl⟩⟩ := hcut
    cases kq with
    | zero => exact absurd HA.out (by simp [text_value.j0])
    | succ kj1 =>
      have H := HA.out
      clear HA
      simp only [text_value.j0] at H
      by_cases c4 : x3_1 = true
      · subst c4
        have H1 : (some ((a0 - 65) % 256)) = some r := by rw [if_pos rfl] at H; exact H
        clear H
        have H := H1
        clear H1
        obtain rfl := Option.some.inj H
        go_wp2
        go_ret
        exact ⟨by first | rfl | (simp; done) | (simp [*]; done), by repeat (first | exact Drawn0.refl _ | apply Drawn0.step)⟩
      · replace c4 := Bool.eq_false_iff.mpr c4
        subst c4
        have H1 : (if a0 ≥ 97 then (text_value.j1 kj1 a0 (decide (a0 ≤ 122))) else (text_value.j1 kj1 a0 false)) = some r := by rw [if_neg (show ¬ (false = true) by decide)] at H; exact H
        clear H
        have H := H1
        clear H1
        have HC5 := Aside0.mk H
        clear H
        go_upto_region 3 with (fail)
        go_cut [13] (fun v13 wc => ∃ (kq : Nat) (x13_4 : Bool), v13 = .bool x13_4 ∧ Aside0 (text_value.j1 kq a0 x13_4 = some r) ∧ Aside0 (kq ≤ kj1) ∧ Drawn0 w wc)
        case first =>
          have H := HC5.out
          clear HC5
          by_cases c6 : a0 ≥ 97
          · rw [if_pos c6] at H
            have c6b0 : decide (97 ≤ a0) = true := decide_eq_true c6
            clear c6
            (first | rw [c6b0] | (simp only [i64_w, i32_w]; rw [c6b0]) | skip)
            have H' := Aside0.mk H
            clear H
            go_wp2
            go_meet
            case rel => exact ⟨_, (decide (a0 ≤ 122)), (by first | rfl | (simp; done) | (simp [*]; done)), H', ⟨by have := HJ1.out; first | omega | exact Nat.le_refl _⟩, by repeat (first | exact Drawn0.refl _ | apply Drawn0.step)⟩
          · rw [if_neg c6] at H
            have c6b0 : decide (97 ≤ a0) = false := decide_eq_false c6
            clear c6
            (first | rw [c6b0] | (simp only [i64_w, i32_w]; rw [c6b0]) | skip)
            have H' := Aside0.mk H
            clear H
            go_wp2
            go_meet
            case rel => exact ⟨_, (false), (by first | rfl | (simp; done) | (simp [*]; done)), H', ⟨by have := HJ1.out; first | omega | exact Nat.le_refl _⟩, by repeat (first | exact Drawn0.refl _ | apply Drawn0.step)⟩
        case rest =>
          clear HC5
          try clear c1
          try clear p2
          try clear c3
          try clear c3b0
          try clear c4
          try clear c6
          try clear c6b0
          try clear p2
          obtain ⟨kq, x13_4, rfl, HA, HJ4, ⟨mc4, rfl⟩⟩ := hcut
          cases kq with
          | zero => exact absurd HA.out (by simp [text_value.j1])
          | succ kj4 =>
            have H := HA.out
            clear HA
            simp only [text_value.j1] at H
            by_cases c7 : x13_4 = true
            · subst c7
              have H1 : (some (((a0 - 97) % 256) + 26)) = some r := by rw [if_pos rfl] at H; exact H
              clear H
              have H := H1
              clear H1
              obtain rfl := Option.some.inj H
              go_wp2
              go_ret
              exact ⟨by first | rfl | (simp; done) | (simp [*]; done), by repeat (first | exact Drawn0.refl _ | apply Drawn0.step)⟩
            · replace c7 := Bool.eq_false_iff.mpr c7
              subst c7
              have H1 : (if a0 ≥ 48 then (text_value.j2 kj4 a0 (decide (a0 ≤ 57))) else (text_value.j2 kj4 a0 false)) = some r := by rw [if_neg (show ¬ (false = true) by decide)] at H; exact H
              clear H
              have H := H1
              clear H1
              have HC8 := Aside0.mk H
              clear H
              go_upto_region 5 with (fail)
              go_cut [24] (fun v24 wc => ∃ (kq : Nat) (x24_7 : Bool), v24 = .bool x24_7 ∧ Aside0 (text_value.j2 kq a0 x24_7 = some r) ∧ Aside0 (kq ≤ kj4) ∧ Drawn0 w wc)
              case first =>
                have H := HC8.out
                clear HC8
                by_cases c9 : a0 ≥ 48
                · rw [if_pos c9] at H
                  have c9b0 : decide (48 ≤ a0) = true := decide_eq_true c9
                  clear c9
                  (first | rw [c9b0] | (simp only [i64_w, i32_w]; rw [c9b0]) | skip)
                  have H' := Aside0.mk H
                  clear H
                  go_wp2
                  go_meet
                  case rel => exact ⟨_, (decide (a0 ≤ 57)), (by first | rfl | (simp; done) | (simp [*]; done)), H', ⟨by have := HJ1.out; have := HJ4.out; first | omega | exact Nat.le_refl _⟩, by repeat (first | exact Drawn0.refl _ | apply Drawn0.step)⟩
                · rw [if_neg c9] at H
                  have c9b0 : decide (48 ≤ a0) = false := decide_eq_false c9
                  clear c9
                  (first | rw [c9b0] | (simp only [i64_w, i32_w]; rw [c9b0]) | skip)
                  have H' := Aside0.mk H
                  clear H
                  go_wp2
                  go_meet
                  case rel => exact ⟨_, (false), (by first | rfl | (simp; done) | (simp [*]; done)), H', ⟨by have := HJ1.out; have := HJ4.out; first | omega | exact Nat.le_refl _⟩, by repeat (first | exact Drawn0.refl _ | apply Drawn0.step)⟩
              case rest =>
                clear HC8
                try clear c1
                try clear p2
                try clear c3
                try clear c3b0
                try clear c4
                try clear c6
                try clear c6b0
                try clear c7
                try clear c9
                try clear c9b0
                try clear p2
                obtain ⟨kq, x24_7, rfl, HA, HJ7, ⟨mc7, rfl⟩⟩ := hcut
                cases kq with
                | zero => exact absurd HA.out (by simp [text_value.j2])
                | succ kj7 =>
                  have H := HA.out
                  clear HA
                  simp only [text_value.j2] at H
                  by_cases c10 : x24_7 = true
                  · subst c10
                    have H1 : (some (((a0 - 48) % 256) + 52)) = some r := by rw [if_pos rfl] at H; exact H
                    clear H
                    have H := H1
                    clear H1
                    obtain rfl := Option.some.inj H
                    go_wp2
                    go_ret
                    exact ⟨by first | rfl | (simp; done) | (simp [*]; done), by repeat (first | exact Drawn0.refl _ | apply Drawn0.step)⟩
                  · replace c10 := Bool.eq_false_iff.mpr c10
                    subst c10
                    have H1 : (if a0 = 43 then (some 62) else (if a0 = 47 then (some 63) else (some (-1)))) = some r := by rw [if_neg (show ¬ (false = true) by decide)] at H; exact H
                    clear H
                    have H := H1
                    clear H1
                    by_cases c11 : a0 = 43
                    · rw [if_pos c11] at H
                      have c11b0 : (a0 == 43) = true := beq_iff_eq.mpr c11
                      have c11b1 : (a0 != 43) = false := bne_eq_false_iff_eq.mpr c11
                      clear c11
                      obtain rfl := Option.some.inj H
                      go_wp2
                      go_ret
                      exact ⟨by first | rfl | (simp; done) | (simp [*]; done), by repeat (first | exact Drawn0.refl _ | apply Drawn0.step)⟩
                    · rw [if_neg c11] at H
                      have c11b0 : (a0 == 43) = false := beq_eq_false_iff_ne.mpr c11
                      have c11b1 : (a0 != 43) = true := bne_iff_ne.mpr c11
                      by_cases c12 : a0 = 47
                      · rw [if_pos c12] at H
                        have c12b0 : (a0 == 47) = true := beq_iff_eq.mpr c12
                        have c12b1 : (a0 != 47) = false := bne_eq_false_iff_eq.mpr c12
                        clear c12
                        obtain rfl := Option.some.inj H
                        go_wp2
                        go_ret
                        exact ⟨by first | rfl | (simp; done) | (simp [*]; done), by repeat (first | exact Drawn0.refl _ | apply Drawn0.step)⟩
                      · rw [if_neg c12] at H
                        have c12b0 : (a0 == 47) = false := beq_eq_false_iff_ne.mpr c12
                        have c12b1 : (a0 != 47) = true := bne_iff_ne.mpr c12
                        obtain rfl := Option.some.inj H
                        go_wp2
                        go_ret
                        exact ⟨by first | rfl | (simp; done) | (simp [*]; done), by repeat (first | exact Drawn0.refl _ | apply Drawn0.step)⟩
end Go.Proofs.YtljinjgamgmocaaDoor.G
end
section
namespace Go.Proofs.YtljinjgamgmocaaDoor.G
open Go.RowKit Go.Proofs.YtljinjgamgmocaaDoorW.PrintWords Go.Proofs.YtljinjgamgmocaaDoorW.PrintLast Go.Proofs.YtljinjgamgmocaaDoorW.PrintMore
attribute [local go_sem] max2_int min2_int max_two min_two max_three min_three max_four min_four   -- for this text's walks alone
set_option linter.unusedVariables false
set_option linter.unusedSimpArgs false
set_option maxHeartbeats 8000000 in
set_option maxRecDepth 100000 in
theorem text_DecodeBase64.calls (k : Nat) (a0 : ByteArray) (r1 : List Int) (r2 : Int) (w : World) (h : text_DecodeBase64.f k a0 = some (r1, r2)) :
    Calls Tryd.prog 20 #[.string a0] w fun e w' => ∃ v0_ : Value, e = .returned (.tuple #[v0_, .int .i64 r2]) ∧ Kd.R (Kd.int .u8) 5 w' w.heap.size (fun _ => True) v0_ r1 ∧ Below w.heap.size w w' := by
  have HB := Aside0.mk (Below.refl w.heap.size w)
  have H : (if (a0.size : Int) > 1048576 then (some (([] : List Int), 2)) else (if ((a0.size : Int) % 4) = 0 then ((strings_TrimSuffix.f a0 (⟨#[61]⟩ : ByteArray)).bind fun t197 => ((strings_TrimSuffix.f t197 (⟨#[61]⟩ : ByteArray)).bind fun t198 => (if 0 ≤ (wrap64 ((wrap64 ((a0.size : Int) / 4)) * 3)) then (if (wrap64 ((wrap64 ((a0.size : Int) / 4)) * 3) : Int).toNat ≤ 281474976710656 then (text_DecodeBase64.l0 k t198 (([] : List Int)) 0 0 (t198.size : Int) 0) else (none)) else (none)))) else (some (([] : List Int), 60)))) = some (r1, r2) := h
  clear h
  by_cases c2 : (a0.size : Int) > 1048576
  · rw [if_pos c2] at H
    have c2b0 : decide (1048576 < (a0.size : Int)) = true := decide_eq_true c2
    have c2b1 : decide (1048576 < a0.size) = true := decide_eq_true (by omega)
    clear c2
    simp only [Option.some.injEq, Prod.mk.injEq] at H
    obtain ⟨rfl, rfl⟩ := H
    go_enter Tryd.func20, Tryd.ntmps20
    go_wp2
    go_ret2
    exact ⟨_, by first | rfl | (simp [errW_none, errW_some] <;> rfl) | (simp [*, errW_none, errW_some] <;> rfl), by first | exact Kd.R_nil _ _ _ _ _ | exact Kd.N_nil _ _ _ _ _ | exact Kd.V_nil _ _ _ _ _ | exact Kd.Q_nil _ _ _ _ _ | exact Kd.S_nil _ _ _ _ _, by repeat (first | (with_reducible first | exact HB.out | apply below_alloc | apply pw_below_drewN | apply below_drew1) | exact HB.out)⟩
  · rw [if_neg c2] at H
    have c2b0 : decide (1048576 < (a0.size : Int)) = false := decide_eq_false c2
    have c2b1 : decide (1048576 < a0.size) = false := decide_eq_false (by omega)
    clear c2
    by_cases c3 : ((a0.size : Int) % 4) = 0
    · rw [if_pos c3] at H
      have c3b0 : (((a0.size : Int) % 4) == 0) = true := beq_iff_eq.mpr c3
      have c3b1 : (((a0.size : Int) % 4) != 0) = false := bne_eq_false_iff_eq.mpr c3
      clear c3
      replace H := Option.bind_eq_some_iff.mp H
      obtain ⟨t197, A40, H⟩ := H
      replace H : ((strings_TrimSuffix.f t197 (⟨#[61]⟩ : ByteArray)).bind fun t198 => (if 0 ≤ (wrap64 ((wrap64 ((a0.size : Int) / 4)) * 3)) then (if (wrap64 ((wrap64 ((a0.size : Int) / 4)) * 3) : Int).toNat ≤ 281474976710656 then (text_DecodeBase64.l0 k t198 (([] : List Int)) 0 0 (t198.size : Int) 0) else (none)) else (none))) = some (r1, r2) := H
      have A4 := Aside0.mk A40
      clear A40
      replace H := Option.bind_eq_some_iff.mp H
      obtain ⟨t198, A50, H⟩ := H
      replace H : (if 0 ≤ (wrap64 ((wrap64 ((a0.size : Int) / 4)) * 3)) then (if (wrap64 ((wrap64 ((a0.size : Int) / 4)) * 3) : Int).toNat ≤ 281474976710656 then (text_DecodeBase64.l0 k t198 (([] : List Int)) 0 0 (t198.size : Int) 0) else (none)) else (none)) = some (r1, r2) := H
      have A5 := Aside0.mk A50
      clear A50
      obtain ⟨ji6, hji6⟩ : ∃ j_ : Int, (wrap64 ((wrap64 ((a0.size : Int) / 4)) * 3)) = j_ := ⟨_, rfl⟩
      replace H : (if 0 ≤ (ji6) then (if (ji6 : Int).toNat ≤ 281474976710656 then (text_DecodeBase64.l0 k t198 (([] : List Int)) 0 0 (t198.size : Int) 0) else (none)) else (none)) = some (r1, r2) := by first | (rw [hji6] at H; exact H) | (simp only [hji6] at H ⊢; exact H)
      (try rw [hji6] at A4)
      (try rw [hji6] at A5)
      have hji6w : (IntKind.i64.wrap ((wrap64 ((a0.size : Int) / 4)) * 3)) = ji6 := (i64_w _).trans hji6
      by_cases c7 : 0 ≤ (ji6)
      · rw [if_pos c7] at H
        have c7b0 := eq_true c7
        have c7b1 : decide (0 ≤ (ji6)) = true := decide_eq_true c7
        clear c7
        by_cases c8 : (ji6 : Int).toNat ≤ 281474976710656
        · rw [if_pos c8] at H
          have c8b0 := eq_true c8
          have c8b1 : decide ((ji6 : Int).toNat ≤ 281474976710656) = true := decide_eq_true c8
          clear c8
          obtain ⟨y199, hy199⟩ : ∃ y_ : List Int, y_ = (([] : List Int)) := ⟨_, rfl⟩
          replace H : (text_DecodeBase64.l0 k t198 y199 0 0 (t198.size : Int) 0) = some (r1, r2) := by first | (rw [hy199]; with_reducible exact H) | (have H2_ := (Option.bind_some _ _).symm.trans H; rw [hy199]; with_reducible exact H2_) | (have H2_ := (Option.bind_some _ _).symm.trans H; with_reducible exact H2_) | with_reducible exact H | (rw [hy199]; exact H) | exact H
          have Ny199 := Aside0.mk hy199
          clear hy199
          have H' := Aside0.mk H
          clear H
          go_enter Tryd.func20, Tryd.ntmps20
          go_wp2_with (first | ((with_reducible refine gate_callee (f := 39) rfl ?_); refine goesL_ (some 18) rfl rfl Tryd.func39 (by kernel_rfl) rfl #[.string a0, .string (⟨#[61]⟩ : ByteArray)] rfl (by (try simp only [List.map_toArray, List.map_cons, List.map_nil]); first | done | rfl | (simp only [List.length_drop, List.length_take]; rfl)) ?_; (with_reducible refine (strings_TrimSuffix.calls a0 (⟨#[61]⟩ : ByteArray) t197 _ A4.out).mono ?_); rintro e w' ⟨rfl, ⟨nd, rfl⟩⟩; refine ⟨_, rfl, ?_⟩) | ((with_reducible refine gate_callee (f := 39) rfl ?_); refine goesL_ (some 19) rfl rfl Tryd.func39 (by kernel_rfl) rfl #[.string t197, .string (⟨#[61]⟩ : ByteArray)] rfl (by (try simp only [List.map_toArray, List.map_cons, List.map_nil]); first | done | rfl | (simp only [List.length_drop, List.length_take]; rfl)) ?_; (with_reducible refine (strings_TrimSuffix.calls t197 (⟨#[61]⟩ : ByteArray) t198 _ A5.out).mono ?_); rintro e w' ⟨rfl, ⟨nd, rfl⟩⟩; refine ⟨_, rfl, ?_⟩) | ((with_reducible refine gate_dst (N := 24) rfl ?_); refine Kd.R_make0 (Kd.int .u8) _ 5 rfl (N := 24) rfl 22 _ _ rfl ji6 rfl rfl Tryd.underlying22 (.int .u8 0) 1 info5 rfl (by decide) (by omega) (ok := fun _ => True) trivial (of_decide_eq_true (by first | (with_reducible assumption) | assumption)) (Nat.le_trans (Nat.mul_le_mul_right _ (of_decide_eq_true (by first | (with_reducible assumption) | assumption) : ji6.toNat ≤ 281474976710656)) (by omega)) (Below.refl _ _) (Nat.le_refl _) ?_; intro v200 w9 ho10 hb hg_ hnew_; clear hg_ hnew_; (first | rw [← Ny199.out] at ho10 | (simp only [Int.reduceToNat] at ho10; rw [← Ny199.out] at ho10)); have n0_ := Aside0.mk (Kd.R_lower ho10 (below_size (by repeat (first | (with_reducible first | exact HB.out | apply below_alloc | apply pw_below_drewN | apply below_drew1) | exact HB.out)))); have n1_ := Aside0.mk (below_step (by repeat (first | (with_reducible first | exact HB.out | apply below_alloc | apply pw_below_drewN | apply below_drew1) | exact HB.out)) hb); clear HB; have HO201 := n0_; have HB := n1_; clear n0_ n1_; clear hb ho10))
          go_loopg [5, 6, 7, 27] k (fun kq v5 v6 v7 v27 w' => ∃ (x5_1 : List Int) (x6_1 : Int) (x7_1 : Int) (x27_1 : Int), v6 = .int .i64 x6_1 ∧ v7 = .int .i64 x7_1 ∧ v27 = .int .i64 x27_1 ∧ Aside0 (text_DecodeBase64.l0 kq t198 x5_1 x6_1 x7_1 (t198.size : Int) x27_1 = some (r1, r2)) ∧ Aside0 (kq ≤ k) ∧ Aside0 (Kd.R (Kd.int .u8) 5 w' w.heap.size (fun _ => True) v5 x5_1) ∧ Aside0 (Below w.heap.size w w'))
          case atStart => exact ⟨(y199), (0), (0), (0), (by first | rfl | (simp; done) | (simp [*]; done)), (by first | rfl | (simp; done) | (simp [*]; done)), (by first | rfl | (simp; done) | (simp [*]; done)), H', ⟨Nat.le_refl _⟩, ⟨by (with_reducible repeat (first | apply Kd.R_alloc | apply Kd.R_drewN | apply Kd.R_drew)); exact HO201.out⟩, ⟨by repeat (first | (with_reducible first | exact HB.out | apply below_alloc | apply pw_below_drewN | apply below_drew1) | exact HB.out)⟩⟩
          case round =>
            clear H'
            try clear c2
            try clear c2b0
            try clear c2b1
            try clear p2
            try clear c3
            try clear c3b0
            try clear c3b1
            try clear p6
            try clear c7
            try clear c7b0
            try clear c7b1
            try clear c8
            try clear c8b0
            try clear c8b1
            obtain ⟨x5_1, x6_1, x7_1, x27_1, rfl, rfl, rfl, HA, HK1, HO_5, HB⟩ := hrel
            cases gk with
            | zero => exact absurd HA.out (by simp [text_DecodeBase64.l0])
            | succ k1 =>
              have H := HA.out
              clear HA
              simp only [text_DecodeBase64.l0] at H
              by_cases c11 : x27_1 < (t198.size : Int)
              · rw [if_pos c11] at H
                have c11b0 : decide (x27_1 < (t198.size : Int)) = true := decide_eq_true c11
                clear c11
                by_cases c12 : 0 ≤ x27_1
                · rw [if_pos c12] at H
                  have c12b0 : decide (0 ≤ x27_1) = true := decide_eq_true c12
                  clear c12
                  by_cases c13 : x27_1 < (t198.size : Int)
                  · rw [if_pos c13] at H
                    have c13b0 : decide (x27_1 < (t198.size : Int)) = true := decide_eq_true c13
                    clear c13
                    replace H := Option.bind_eq_some_iff.mp H
                    obtain ⟨t202, A150, H⟩ := H
                    replace H : (if t202 < 0 then (some (([] : List Int), 60)) else (if (wrap64 (x7_1 + 6)) ≥ 8 then (if 0 ≤ (wrap64 ((wrap64 (x7_1 + 6)) - 8)) then (if x5_1.length < 140737488355328 then (text_DecodeBase64.l0 k1 t198 (x5_1 ++ [(shr .i64 (Go.bits .or .i64 (wrap64 (x6_1 * 64)) t202) (wrap64 ((wrap64 (x7_1 + 6)) - 8))) % 256]) (Go.bits .and .i64 (Go.bits .or .i64 (wrap64 (x6_1 * 64)) t202) (wrap64 ((shl .i64 1 (wrap64 ((wrap64 (x7_1 + 6)) - 8))) - 1))) (wrap64 ((wrap64 (x7_1 + 6)) - 8)) (t198.size : Int) (wrap64 (x27_1 + 1))) else (none)) else (none)) else (text_DecodeBase64.l0 k1 t198 x5_1 (Go.bits .or .i64 (wrap64 (x6_1 * 64)) t202) (wrap64 (x7_1 + 6)) (t198.size : Int) (wrap64 (x27_1 + 1))))) = some (r1, r2) := H
                    have A15 := Aside0.mk A150
                    clear A150
                    by_cases c16 : t202 < 0
                    · rw [if_pos c16] at H
                      have c16b0 : decide (t202 < 0) = true := decide_eq_true c16
                      clear c16
                      simp only [Option.some.injEq, Prod.mk.injEq] at H
                      obtain ⟨rfl, rfl⟩ := H
                      have p14 : 0 ≤ (x27_1 : Int) := of_decide_eq_true (by first | (with_reducible assumption) | assumption)
                      have q14 : x27_1 < (t198.size : Int) := of_decide_eq_true (by first | (with_reducible assumption) | assumption)
                      have hx14 := bt_at t198 x27_1
                      replace p14 := eq_true p14
                      replace q14 := eq_true q14
                      go_wp2_with (first | ((with_reducible refine gate_callee (f := 40) rfl ?_); refine goesL_ (some 33) rfl rfl Tryd.func40 (by kernel_rfl) rfl #[.int .u8 (bt t198 x27_1)] rfl (by (try simp only [List.map_toArray, List.map_cons, List.map_nil]); first | done | rfl | (simp only [List.length_drop, List.length_take]; rfl)) ?_; (with_reducible refine (text_value.calls k1 (bt t198 x27_1) t202 _ A15.out).mono ?_); rintro e w' ⟨rfl, ⟨nd, rfl⟩⟩; refine ⟨_, rfl, ?_⟩))
                      go_ret2
                      exact ⟨_, by first | rfl | (simp [errW_none, errW_some] <;> rfl) | (simp only [← hji6]; first | rfl | (simp [errW_none, errW_some] <;> rfl)) | (simp [*, errW_none, errW_some] <;> rfl), by first | exact Kd.R_nil _ _ _ _ _ | exact Kd.N_nil _ _ _ _ _ | exact Kd.V_nil _ _ _ _ _ | exact Kd.Q_nil _ _ _ _ _ | exact Kd.S_nil _ _ _ _ _, by repeat (first | (with_reducible first | exact HB.out | apply below_alloc | apply pw_below_drewN | apply below_drew1) | exact HB.out)⟩
                    · rw [if_neg c16] at H
                      have c16b0 : decide (t202 < 0) = false := decide_eq_false c16
                      clear c16
                      by_cases c17 : (wrap64 (x7_1 + 6)) ≥ 8
                      · rw [if_pos c17] at H
                        have c17b0 : decide (8 ≤ (wrap64 (x7_1 + 6))) = true := decide_eq_true c17
                        clear c17
                        obtain ⟨ji18, hji18⟩ : ∃ j_ : Int, (wrap64 ((wrap64 (x7_1 + 6)) - 8)) = j_ := ⟨_, rfl⟩
                        replace H : (if 0 ≤ (ji18) then (if x5_1.length < 140737488355328 then (text_DecodeBase64.l0 k1 t198 (x5_1 ++ [(shr .i64 (Go.bits .or .i64 (wrap64 (x6_1 * 64)) t202) (ji18)) % 256]) (Go.bits .and .i64 (Go.bits .or .i64 (wrap64 (x6_1 * 64)) t202) (wrap64 ((shl .i64 1 (ji18)) - 1))) ji18 (t198.size : Int) (wrap64 (x27_1 + 1))) else (none)) else (none)) = some (r1, r2) := by first | (rw [hji18] at H; exact H) | (simp only [hji18] at H ⊢; exact H)
                        (try rw [hji18] at A15)
                        have hji18w : (IntKind.i64.wrap ((wrap64 (x7_1 + 6)) - 8)) = ji18 := (i64_w _).trans hji18
                        by_cases c19 : 0 ≤ (ji18)
                        · rw [if_pos c19] at H
                          have c19b0 := eq_true c19
                          have c19b1 : decide (0 ≤ (ji18)) = true := decide_eq_true c19
                          clear c19
                          obtain ⟨ji20, hji20⟩ : ∃ j_ : Int, (shr .i64 (Go.bits .or .i64 (wrap64 (x6_1 * 64)) t202) (ji18)) = j_ := ⟨_, rfl⟩
                          replace H : (if x5_1.length < 140737488355328 then (text_DecodeBase64.l0 k1 t198 (x5_1 ++ [(ji20) % 256]) (Go.bits .and .i64 (Go.bits .or .i64 (wrap64 (x6_1 * 64)) t202) (wrap64 ((shl .i64 1 (ji18)) - 1))) ji18 (t198.size : Int) (wrap64 (x27_1 + 1))) else (none)) = some (r1, r2) := by first | (rw [hji20] at H; exact H) | (simp only [hji20] at H ⊢; exact H)
                          (try rw [hji20] at A15)
                          have hji20_ : ((Go.bits .or .i64 (wrap64 (x6_1 * 64)) t202) / 2 ^ min (ji18).toNat 64) = ji20 := hji20
                          have hji20z : (ji18) ≤ 64 → ((Go.bits .or .i64 (wrap64 (x6_1 * 64)) t202) / 2 ^ (ji18).toNat) = ji20 := shr_small hji20
                          by_cases c21 : x5_1.length < 140737488355328
                          · rw [if_pos c21] at H
                            have LMc21 := Aside0.mk c21
                            clear c21
                            obtain ⟨y203, hy203⟩ : ∃ y_ : List Int, y_ = (x5_1 ++ [(ji20) % 256]) := ⟨_, rfl⟩
                            replace H : (text_DecodeBase64.l0 k1 t198 y203 (Go.bits .and .i64 (Go.bits .or .i64 (wrap64 (x6_1 * 64)) t202) (wrap64 ((shl .i64 1 (ji18)) - 1))) ji18 (t198.size : Int) (wrap64 (x27_1 + 1))) = some (r1, r2) := by first | (rw [hy203]; with_reducible exact H) | (have H2_ := (Option.bind_some _ _).symm.trans H; rw [hy203]; with_reducible exact H2_) | (have H2_ := (Option.bind_some _ _).symm.trans H; with_reducible exact H2_) | with_reducible exact H | (rw [hy203]; exact H) | exact H
                            have Ny203 := Aside0.mk hy203
                            clear hy203
                            have c22b0 := eq_true (of_decide_eq_true (by first | (with_reducible assumption) | assumption) : 0 ≤ (ji18))
                            obtain ⟨ji23, hji23⟩ : ∃ j_ : Int, (shl .i64 1 (ji18)) = j_ := ⟨_, rfl⟩
                            replace H : (text_DecodeBase64.l0 k1 t198 y203 (Go.bits .and .i64 (Go.bits .or .i64 (wrap64 (x6_1 * 64)) t202) (wrap64 ((ji23) - 1))) ji18 (t198.size : Int) (wrap64 (x27_1 + 1))) = some (r1, r2) := by first | (rw [hji23] at H; exact H) | (simp only [hji23] at H ⊢; exact H)
                            (try rw [hji23] at A15)
                            have hji23_ : (IntKind.i64.wrap (1 * 2 ^ min (ji18).toNat 64)) = ji23 := hji23
                            have hji23z : (ji18) ≤ 64 → (IntKind.i64.wrap (1 * 2 ^ (ji18).toNat)) = ji23 := shl_small hji23
                            have hji23u : (IntKind.i64.wrap (2 ^ min (ji18).toNat 64)) = ji23 := by have h_ := hji23_; rw [Int.one_mul] at h_; exact h_
                            have hji23v : (ji18) ≤ 64 → (IntKind.i64.wrap (2 ^ (ji18).toNat)) = ji23 := fun hle_ => by have h_ := hji23z hle_; rw [Int.one_mul] at h_; exact h_
                            have hji23y : (wrap64 (1 * 2 ^ min (ji18).toNat 64)) = ji23 := (i64_w _).symm.trans hji23_
                            have hji23x : (ji18) ≤ 64 → (wrap64 (1 * 2 ^ (ji18).toNat)) = ji23 := fun h_ => (i64_w _).symm.trans (hji23z h_)
                            have H' := Aside0.mk H
                            clear H
                            have p14 : 0 ≤ (x27_1 : Int) := of_decide_eq_true (by first | (with_reducible assumption) | assumption)
                            have q14 : x27_1 < (t198.size : Int) := of_decide_eq_true (by first | (with_reducible assumption) | assumption)
                            have hx14 := bt_at t198 x27_1
                            replace p14 := eq_true p14
                            replace q14 := eq_true q14
                            go_wp2_with (first | ((with_reducible refine gate_callee (f := 40) rfl ?_); refine goesL_ (some 33) rfl rfl Tryd.func40 (by kernel_rfl) rfl #[.int .u8 (bt t198 x27_1)] rfl (by (try simp only [List.map_toArray, List.map_cons, List.map_nil]); first | done | rfl | (simp only [List.length_drop, List.length_take]; rfl)) ?_; (with_reducible refine (text_value.calls k1 (bt t198 x27_1) t202 _ A15.out).mono ?_); rintro e w' ⟨rfl, ⟨nd, rfl⟩⟩; refine ⟨_, rfl, ?_⟩) | ((with_reducible refine gate_builtin (b := .append) (xs := #[.tmp 46, .tmp 51]) rfl ?_); at_builtin; refine Kd.R_append (Kd.int .u8) (w0 := w) w.heap.size rfl (.tmp 46) (.tmp 51) 22 5 (.int .u8 0) 1 rfl Tryd.underlying22 info5 rfl (by decide) (by omega) u5 x5_1 ((ji20) % 256) [.int .u8 ((ji20) % 256)] (fun _ => True) (fun _ => False) rfl rfl ?aP (fun _ hk => hk.elim) ?aF ?aO ?aB ?aS ?aL ?_; (case aP => exact rfl); (case aB => exact (by repeat (first | (with_reducible first | exact HB.out | apply below_alloc | apply pw_below_drewN | apply below_drew1) | exact HB.out))); (case aF => exact (fun _ _ => trivial)); (case aO => exact (by (with_reducible repeat (first | apply Kd.R_alloc | apply Kd.R_drewN | apply Kd.R_drew)); exact HO_5.out)); (case aS => exact (below_size (by repeat (first | (with_reducible first | exact HB.out | apply below_alloc | apply pw_below_drewN | apply below_drew1) | exact HB.out)))); (case aL => have := LMc21.out; omega); intro v204 w24 ho hb hg hat; rw [← Ny203.out] at ho; have n0_ := Aside0.mk (hb); have n1_ := Aside0.mk (ho); clear HB; clear HO_5; have HB := n0_; have HO205 := n1_; clear n0_ n1_; clear ho hb hg hat))
                            go_roundg k1
                            case measure => have := HK1.out; omega
                            case rel => exact ⟨(y203), (Go.bits .and .i64 (Go.bits .or .i64 (wrap64 (x6_1 * 64)) t202) (wrap64 ((ji23) - 1))), (ji18), (wrap64 (x27_1 + 1)), (by first | rfl | (simp; done) | (simp only [← hji23] <;> (first | rfl | simp)) | (simp [*]; done)), (by first | rfl | (simp; done) | (simp only [← hji18] <;> (first | rfl | simp)) | (simp [*]; done)), (by first | rfl | (simp; done) | (simp [*]; done)), H', ⟨by have := HK1.out; omega⟩, ⟨by (with_reducible repeat (first | apply Kd.R_alloc | apply Kd.R_drewN | apply Kd.R_drew)); exact HO205.out⟩, ⟨by repeat (first | (with_reducible first | exact HB.out | apply below_alloc | apply pw_below_drewN | apply below_drew1) | exact HB.out)⟩⟩
                          · rw [if_neg c21] at H
                            exact absurd H (by simp)
                        · rw [if_neg c19] at H
                          exact absurd H (by simp)
                      · rw [if_neg c17] at H
                        have c17b0 : decide (8 ≤ (wrap64 (x7_1 + 6))) = false := decide_eq_false c17
                        clear c17
                        have H' := Aside0.mk H
                        clear H
                        have p14 : 0 ≤ (x27_1 : Int) := of_decide_eq_true (by first | (with_reducible assumption) | assumption)
                        have q14 : x27_1 < (t198.size : Int) := of_decide_eq_true (by first | (with_reducible assumption) | assumption)
                        have hx14 := bt_at t198 x27_1
                        replace p14 := eq_true p14
                        replace q14 := eq_true q14
                        go_wp2_with (first | ((with_reducible refine gate_callee (f := 40) rfl ?_); refine goesL_ (some 33) rfl rfl Tryd.func40 (by kernel_rfl) rfl #[.int .u8 (bt t198 x27_1)] rfl (by (try simp only [List.map_toArray, List.map_cons, List.map_nil]); first | done | rfl | (simp only [List.length_drop, List.length_take]; rfl)) ?_; (with_reducible refine (text_value.calls k1 (bt t198 x27_1) t202 _ A15.out).mono ?_); rintro e w' ⟨rfl, ⟨nd, rfl⟩⟩; refine ⟨_, rfl, ?_⟩))
                        go_roundg k1
                        case measure => have := HK1.out; omega
                        case rel => exact ⟨(x5_1), (Go.bits .or .i64 (wrap64 (x6_1 * 64)) t202), (wrap64 (x7_1 + 6)), (wrap64 (x27_1 + 1)), (by first | rfl | (simp; done) | (simp [*]; done)), (by first | rfl | (simp; done) | (simp [*]; done)), (by first | rfl | (simp; done) | (simp [*]; done)), H', ⟨by have := HK1.out; omega⟩, ⟨by (with_reducible repeat (first | apply Kd.R_alloc | apply Kd.R_drewN | apply Kd.R_drew)); exact HO_5.out⟩, ⟨by repeat (first | (with_reducible first | exact HB.out | apply below_alloc | apply pw_below_drewN | apply below_drew1) | exact HB.out)⟩⟩
                  · rw [if_neg c13] at H
                    exact absurd H (by simp)
                · rw [if_neg c12] at H
                  exact absurd H (by simp)
              · rw [if_neg c11] at H
                have c11b0 : decide (x27_1 < (t198.size : Int)) = false := decide_eq_false c11
                clear c11
                by_cases c25 : x6_1 = 0
                · rw [if_pos c25] at H
                  have c25b0 : (x6_1 == 0) = true := beq_iff_eq.mpr c25
                  have c25b1 : (x6_1 != 0) = false := bne_eq_false_iff_eq.mpr c25
                  clear c25
                  simp only [Option.some.injEq, Prod.mk.injEq] at H
                  obtain ⟨rfl, rfl⟩ := H
                  go_wp2
                  go_ret2
                  exact ⟨_, by first | rfl | (simp [errW_none, errW_some] <;> rfl) | (simp only [← hji6]; first | rfl | (simp [errW_none, errW_some] <;> rfl)) | (simp [*, errW_none, errW_some] <;> rfl), by (with_reducible repeat (first | apply Kd.R_alloc | apply Kd.R_drewN | apply Kd.R_drew)); exact HO_5.out, by repeat (first | (with_reducible first | exact HB.out | apply below_alloc | apply pw_below_drewN | apply below_drew1) | exact HB.out)⟩
                · rw [if_neg c25] at H
                  have c25b0 : (x6_1 == 0) = false := beq_eq_false_iff_ne.mpr c25
                  have c25b1 : (x6_1 != 0) = true := bne_iff_ne.mpr c25
                  simp only [Option.some.injEq, Prod.mk.injEq] at H
                  obtain ⟨rfl, rfl⟩ := H
                  go_wp2
                  go_ret2
                  exact ⟨_, by first | rfl | (simp [errW_none, errW_some] <;> rfl) | (simp only [← hji6]; first | rfl | (simp [errW_none, errW_some] <;> rfl)) | (simp [*, errW_none, errW_some] <;> rfl), by first | exact Kd.R_nil _ _ _ _ _ | exact Kd.N_nil _ _ _ _ _ | exact Kd.V_nil _ _ _ _ _ | exact Kd.Q_nil _ _ _ _ _ | exact Kd.S_nil _ _ _ _ _, by repeat (first | (with_reducible first | exact HB.out | apply below_alloc | apply pw_below_drewN | apply below_drew1) | exact HB.out)⟩
        · rw [if_neg c8] at H
          exact absurd H (by simp)
      · rw [if_neg c7] at H
        exact absurd H (by simp)
    · rw [if_neg c3] at H
      have c3b0 : (((a0.size : Int) % 4) == 0) = false := beq_eq_false_iff_ne.mpr c3
      have c3b1 : (((a0.size : Int) % 4) != 0) = true := bne_iff_ne.mpr c3
      simp only [Option.some.injEq, Prod.mk.injEq] at H
      obtain ⟨rfl, rfl⟩ := H
      go_enter Tryd.func20, Tryd.ntmps20
      go_wp2
      go_ret2
      exact ⟨_, by first | rfl | (simp [errW_none, errW_some] <;> rfl) | (simp [*, errW_none, errW_some] <;> rfl), by first | exact Kd.R_nil _ _ _ _ _ | exact Kd.N_nil _ _ _ _ _ | exact Kd.V_nil _ _ _ _ _ | exact Kd.Q_nil _ _ _ _ _ | exact Kd.S_nil _ _ _ _ _, by repeat (first | (with_reducible first | exact HB.out | apply below_alloc | apply pw_below_drewN | apply below_drew1) | exact HB.out)⟩
set_option maxHeartbeats 8000000 in
set_option maxRecDepth 100000 in
theorem text_DecodeHex.calls (k : Nat) (a0 : ByteArray) (r1 : List Int) (r2 : Int) (w : World) (hLD : LayD w) (h : text_DecodeHex.f k a0 = some (r1, r2)) :
    Calls Tryd.prog 23 #[.string a0] w fun e w' => ∃ v0_ : Value, e = .returned (.tuple #[v0_, .int .i64 r2]) ∧ Kd.R (Kd.int .u8) 5 w' w.heap.size (fun _ => True) v0_ r1 ∧ Below w.heap.size w w' := by
  have HB := Aside0.mk (Below.refl w.heap.size w)
  have HLayD := Aside0.mk hLD
  clear hLD
  have H : (if (a0.size : Int) > 1048576 then (some (([] : List Int), 2)) else (if ((a0.size : Int) % 2) = 0 then (if 0 ≤ (wrap64 ((a0.size : Int) / 2)) then (if (wrap64 ((a0.size : Int) / 2) : Int).toNat ≤ 281474976710656 then (text_DecodeHex.l0 k a0 (([] : List Int)) 0) else (none)) else (none)) else (some (([] : List Int), 61)))) = some (r1, r2) := h
  clear h
  by_cases c2 : (a0.size : Int) > 1048576
  · rw [if_pos c2] at H
    have c2b0 : decide (1048576 < (a0.size : Int)) = true := decide_eq_true c2
    have c2b1 : decide (1048576 < a0.size) = true := decide_eq_true (by omega)
    clear c2
    simp only [Option.some.injEq, Prod.mk.injEq] at H
    obtain ⟨rfl, rfl⟩ := H
    go_enter Tryd.func23, Tryd.ntmps23
    go_wp2
    repeat (go_quiet (fail); try go_wp2)
    go_ret2
    exact ⟨_, by first | rfl | (simp [errW_none, errW_some] <;> rfl) | (simp [*, errW_none, errW_some] <;> rfl), by first | exact Kd.R_nil _ _ _ _ _ | exact Kd.N_nil _ _ _ _ _ | exact Kd.V_nil _ _ _ _ _ | exact Kd.Q_nil _ _ _ _ _ | exact Kd.S_nil _ _ _ _ _, by repeat (first | (with_reducible first | exact HB.out | apply below_alloc | apply pw_below_drewN | apply below_drew1) | exact HB.out)⟩
  · rw [if_neg c2] at H
    have c2b0 : decide (1048576 < (a0.size : Int)) = false := decide_eq_false c2
    have c2b1 : decide (1048576 < a0.size) = false := decide_eq_false (by omega)
    clear c2
    by_cases c3 : ((a0.size : Int) % 2) = 0
    · rw [if_pos c3] at H
      have c3b0 : (((a0.size : Int) % 2) == 0) = true := beq_iff_eq.mpr c3
      have c3b1 : (((a0.size : Int) % 2) != 0) = false := bne_eq_false_iff_eq.mpr c3
      clear c3
      obtain ⟨ji4, hji4⟩ : ∃ j_ : Int, (wrap64 ((a0.size : Int) / 2)) = j_ := ⟨_, rfl⟩
      replace H : (if 0 ≤ (ji4) then (if (ji4 : Int).toNat ≤ 281474976710656 then (text_DecodeHex.l0 k a0 (([] : List Int)) 0) else (none)) else (none)) = some (r1, r2) := by first | (rw [hji4] at H; exact H) | (simp only [hji4] at H ⊢; exact H)
      have hji4w : (IntKind.i64.wrap ((a0.size : Int) / 2)) = ji4 := (i64_w _).trans hji4
      by_cases c5 : 0 ≤ (ji4)
      · rw [if_pos c5] at H
        have c5b0 := eq_true c5
        have c5b1 : decide (0 ≤ (ji4)) = true := decide_eq_true c5
        clear c5
        by_cases c6 : (ji4 : Int).toNat ≤ 281474976710656
        · rw [if_pos c6] at H
          have c6b0 := eq_true c6
          have c6b1 : decide ((ji4 : Int).toNat ≤ 281474976710656) = true := decide_eq_true c6
          clear c6
          obtain ⟨y206, hy206⟩ : ∃ y_ : List Int, y_ = (([] : List Int)) := ⟨_, rfl⟩
          replace H : (text_DecodeHex.l0 k a0 y206 0) = some (r1, r2) := by first | (rw [hy206]; with_reducible exact H) | (have H2_ := (Option.bind_some _ _).symm.trans H; rw [hy206]; with_reducible exact H2_) | (have H2_ := (Option.bind_some _ _).symm.trans H; with_reducible exact H2_) | with_reducible exact H | (rw [hy206]; exact H) | exact H
          have Ny206 := Aside0.mk hy206
          clear hy206
          have H' := Aside0.mk H
          clear H
          go_enter Tryd.func23, Tryd.ntmps23
          go_wp2_with (first | ((with_reducible refine gate_dst (N := 18) rfl ?_); refine Kd.R_make0 (Kd.int .u8) _ 5 rfl (N := 18) rfl 22 _ _ rfl ji4 rfl rfl Tryd.underlying22 (.int .u8 0) 1 info5 rfl (by decide) (by omega) (ok := fun _ => True) trivial (of_decide_eq_true (by first | (with_reducible assumption) | assumption)) (Nat.le_trans (Nat.mul_le_mul_right _ (of_decide_eq_true (by first | (with_reducible assumption) | assumption) : ji4.toNat ≤ 281474976710656)) (by omega)) (Below.refl _ _) (Nat.le_refl _) ?_; intro v207 w7 ho8 hb hg_ hnew_; clear hg_ hnew_; (first | rw [← Ny206.out] at ho8 | (simp only [Int.reduceToNat] at ho8; rw [← Ny206.out] at ho8)); have n0_ := Aside0.mk (Kd.R_lower ho8 (below_size (by repeat (first | (with_reducible first | exact HB.out | apply below_alloc | apply pw_below_drewN | apply below_drew1) | exact HB.out)))); have n1_ := Aside0.mk (below_step (by repeat (first | (with_reducible first | exact HB.out | apply below_alloc | apply pw_below_drewN | apply below_drew1) | exact HB.out)) hb); clear HB; have HO208 := n0_; have HB := n1_; clear n0_ n1_; clear hb ho8))
          repeat (go_quiet (first | ((with_reducible refine gate_dst (N := 18) rfl ?_); refine Kd.R_make0 (Kd.int .u8) _ 5 rfl (N := 18) rfl 22 _ _ rfl ji4 rfl rfl Tryd.underlying22 (.int .u8 0) 1 info5 rfl (by decide) (by omega) (ok := fun _ => True) trivial (of_decide_eq_true (by first | (with_reducible assumption) | assumption)) (Nat.le_trans (Nat.mul_le_mul_right _ (of_decide_eq_true (by first | (with_reducible assumption) | assumption) : ji4.toNat ≤ 281474976710656)) (by omega)) (Below.refl _ _) (Nat.le_refl _) ?_; intro v207 w7 ho8 hb hg_ hnew_; clear hg_ hnew_; (first | rw [← Ny206.out] at ho8 | (simp only [Int.reduceToNat] at ho8; rw [← Ny206.out] at ho8)); have n0_ := Aside0.mk (Kd.R_lower ho8 (below_size (by repeat (first | (with_reducible first | exact HB.out | apply below_alloc | apply pw_below_drewN | apply below_drew1) | exact HB.out)))); have n1_ := Aside0.mk (below_step (by repeat (first | (with_reducible first | exact HB.out | apply below_alloc | apply pw_below_drewN | apply below_drew1) | exact HB.out)) hb); clear HB; have HO208 := n0_; have HB := n1_; clear n0_ n1_; clear hb ho8)); try go_wp2_with (first | ((with_reducible refine gate_dst (N := 18) rfl ?_); refine Kd.R_make0 (Kd.int .u8) _ 5 rfl (N := 18) rfl 22 _ _ rfl ji4 rfl rfl Tryd.underlying22 (.int .u8 0) 1 info5 rfl (by decide) (by omega) (ok := fun _ => True) trivial (of_decide_eq_true (by first | (with_reducible assumption) | assumption)) (Nat.le_trans (Nat.mul_le_mul_right _ (of_decide_eq_true (by first | (with_reducible assumption) | assumption) : ji4.toNat ≤ 281474976710656)) (by omega)) (Below.refl _ _) (Nat.le_refl _) ?_; intro v207 w7 ho8 hb hg_ hnew_; clear hg_ hnew_; (first | rw [← Ny206.out] at ho8 | (simp only [Int.reduceToNat] at ho8; rw [← Ny206.out] at ho8)); have n0_ := Aside0.mk (Kd.R_lower ho8 (below_size (by repeat (first | (with_reducible first | exact HB.out | apply below_alloc | apply pw_below_drewN | apply below_drew1) | exact HB.out)))); have n1_ := Aside0.mk (below_step (by repeat (first | (with_reducible first | exact HB.out | apply below_alloc | apply pw_below_drewN | apply below_drew1) | exact HB.out)) hb); clear HB; have HO208 := n0_; have HB := n1_; clear n0_ n1_; clear hb ho8)))
          go_loopg [4, 5] k (fun kq v4 v5 w' => ∃ (x4_1 : List Int) (x5_1 : Int), v5 = .int .i64 x5_1 ∧ Aside0 (text_DecodeHex.l0 kq a0 x4_1 x5_1 = some (r1, r2)) ∧ Aside0 (kq ≤ k) ∧ Aside0 (Kd.R (Kd.int .u8) 5 w' w.heap.size (fun _ => True) v4 x4_1) ∧ Aside0 (Below w.heap.size w w'))
          case atStart => exact ⟨(y206), (0), (by first | rfl | (simp; done) | (simp [*]; done)), H', ⟨Nat.le_refl _⟩, ⟨by (with_reducible repeat (first | apply Kd.R_alloc | apply Kd.R_drewN | apply Kd.R_drew)); exact HO208.out⟩, ⟨by repeat (first | (with_reducible first | exact HB.out | apply below_alloc | apply pw_below_drewN | apply below_drew1) | exact HB.out)⟩⟩
          case round =>
            clear H'
            try clear c2
            try clear c2b0
            try clear c2b1
            try clear p2
            try clear c3
            try clear c3b0
            try clear c3b1
            try clear c5
            try clear c5b0
            try clear c5b1
            try clear c6
            try clear c6b0
            try clear c6b1
            try clear p6
            obtain ⟨x4_1, x5_1, rfl, HA, HK1, HO_4, HB⟩ := hrel
            cases gk with
            | zero => exact absurd HA.out (by simp [text_DecodeHex.l0])
            | succ k1 =>
              have H := HA.out
              clear HA
              simp only [text_DecodeHex.l0] at H
              by_cases c9 : x5_1 < (a0.size : Int)
              · rw [if_pos c9] at H
                have c9b0 : decide (x5_1 < (a0.size : Int)) = true := decide_eq_true c9
                clear c9
                by_cases c10 : 0 ≤ x5_1
                · rw [if_pos c10] at H
                  have c10b0 : decide (0 ≤ x5_1) = true := decide_eq_true c10
                  clear c10
                  replace H := Option.bind_eq_some_iff.mp H
                  obtain ⟨t209, A120, H⟩ := H
                  replace H : (if 0 ≤ (wrap64 (x5_1 + 1)) then (if (wrap64 (x5_1 + 1)) < (a0.size : Int) then ((text_digit.f (bt a0 (wrap64 (x5_1 + 1)))).bind fun t210 => (if t209 < 0 then (some (([] : List Int), 61)) else (if t210 < 0 then (some (([] : List Int), 61)) else (if x4_1.length < 140737488355328 then (text_DecodeHex.l0 k1 a0 (x4_1 ++ [(Go.bits .or .i64 (wrap64 (t209 * 16)) t210) % 256]) (wrap64 (x5_1 + 2))) else (none))))) else (none)) else (none)) = some (r1, r2) := H
                  have A12 := Aside0.mk A120
                  clear A120
                  obtain ⟨ji13, hji13⟩ : ∃ j_ : Int, (wrap64 (x5_1 + 1)) = j_ := ⟨_, rfl⟩
                  replace H : (if 0 ≤ (ji13) then (if (ji13) < (a0.size : Int) then ((text_digit.f (bt a0 (ji13))).bind fun t210 => (if t209 < 0 then (some (([] : List Int), 61)) else (if t210 < 0 then (some (([] : List Int), 61)) else (if x4_1.length < 140737488355328 then (text_DecodeHex.l0 k1 a0 (x4_1 ++ [(Go.bits .or .i64 (wrap64 (t209 * 16)) t210) % 256]) (wrap64 (x5_1 + 2))) else (none))))) else (none)) else (none)) = some (r1, r2) := by first | (rw [hji13] at H; exact H) | (simp only [hji13] at H ⊢; exact H)
                  (try rw [hji13] at A12)
                  have hji13w : (IntKind.i64.wrap (x5_1 + 1)) = ji13 := (i64_w _).trans hji13
                  by_cases c14 : 0 ≤ (ji13)
                  · rw [if_pos c14] at H
                    have c14b0 : decide (0 ≤ (ji13)) = true := decide_eq_true c14
                    clear c14
                    by_cases c15 : (ji13) < (a0.size : Int)
                    · rw [if_pos c15] at H
                      have c15b0 : decide ((ji13) < (a0.size : Int)) = true := decide_eq_true c15
                      clear c15
                      replace H := Option.bind_eq_some_iff.mp H
                      obtain ⟨t210, A170, H⟩ := H
                      replace H : (if t209 < 0 then (some (([] : List Int), 61)) else (if t210 < 0 then (some (([] : List Int), 61)) else (if x4_1.length < 140737488355328 then (text_DecodeHex.l0 k1 a0 (x4_1 ++ [(Go.bits .or .i64 (wrap64 (t209 * 16)) t210) % 256]) (wrap64 (x5_1 + 2))) else (none)))) = some (r1, r2) := H
                      have A17 := Aside0.mk A170
                      clear A170
                      by_cases c18 : t209 < 0
                      · rw [if_pos c18] at H
                        have c18b0 : decide (t209 < 0) = true := decide_eq_true c18
                        clear c18
                        simp only [Option.some.injEq, Prod.mk.injEq] at H
                        obtain ⟨rfl, rfl⟩ := H
                        have p11 : 0 ≤ (x5_1 : Int) := of_decide_eq_true (by first | (with_reducible assumption) | assumption)
                        have q11 : x5_1 < (a0.size : Int) := of_decide_eq_true (by first | (with_reducible assumption) | assumption)
                        have hx11 := bt_at a0 x5_1
                        replace p11 := eq_true p11
                        replace q11 := eq_true q11
                        go_wp2_with (first | (go_at_call 41; (with_reducible refine (text_digit.calls (bt a0 x5_1) t209 _ ?side1 A12.out).mono ?_); (case side1 => exact LayD.below HLayD.out (by repeat (first | (with_reducible first | exact HB.out | apply below_alloc | apply pw_below_drewN | apply below_drew1) | exact HB.out))); rintro e w' ⟨rfl, ⟨nd, rfl⟩⟩; (try first | exact ⟨rfl, _, World.drewN_drewN _ _ _⟩ | exact ⟨rfl, _, Eq.trans (World.drewN_drewN _ _ _) (congrArg (World.drewN _) (Nat.add_assoc _ _ _))⟩); have p16 : 0 ≤ ((ji13) : Int) := of_decide_eq_true (by first | (with_reducible assumption) | assumption); have q16 : (ji13) < (a0.size : Int) := of_decide_eq_true (by first | (with_reducible assumption) | assumption); have hx16 := bt_at a0 (ji13); replace p16 := eq_true p16; replace q16 := eq_true q16) | (go_at_call 41; (with_reducible refine (text_digit.calls (bt a0 (ji13)) t210 _ ?side1 A17.out).mono ?_); (case side1 => exact LayD.below HLayD.out (by repeat (first | (with_reducible first | exact HB.out | apply below_alloc | apply pw_below_drewN | apply below_drew1) | exact HB.out))); rintro e w' ⟨rfl, ⟨nd, rfl⟩⟩; (try first | exact ⟨rfl, _, World.drewN_drewN _ _ _⟩ | exact ⟨rfl, _, Eq.trans (World.drewN_drewN _ _ _) (congrArg (World.drewN _) (Nat.add_assoc _ _ _))⟩)))
                        repeat (go_quiet (first | (go_at_call 41; (with_reducible refine (text_digit.calls (bt a0 x5_1) t209 _ ?side1 A12.out).mono ?_); (case side1 => exact LayD.below HLayD.out (by repeat (first | (with_reducible first | exact HB.out | apply below_alloc | apply pw_below_drewN | apply below_drew1) | exact HB.out))); rintro e w' ⟨rfl, ⟨nd, rfl⟩⟩; (try first | exact ⟨rfl, _, World.drewN_drewN _ _ _⟩ | exact ⟨rfl, _, Eq.trans (World.drewN_drewN _ _ _) (congrArg (World.drewN _) (Nat.add_assoc _ _ _))⟩); have p16 : 0 ≤ ((ji13) : Int) := of_decide_eq_true (by first | (with_reducible assumption) | assumption); have q16 : (ji13) < (a0.size : Int) := of_decide_eq_true (by first | (with_reducible assumption) | assumption); have hx16 := bt_at a0 (ji13); replace p16 := eq_true p16; replace q16 := eq_true q16) | (go_at_call 41; (with_reducible refine (text_digit.calls (bt a0 (ji13)) t210 _ ?side1 A17.out).mono ?_); (case side1 => exact LayD.below HLayD.out (by repeat (first | (with_reducible first | exact HB.out | apply below_alloc | apply pw_below_drewN | apply below_drew1) | exact HB.out))); rintro e w' ⟨rfl, ⟨nd, rfl⟩⟩; (try first | exact ⟨rfl, _, World.drewN_drewN _ _ _⟩ | exact ⟨rfl, _, Eq.trans (World.drewN_drewN _ _ _) (congrArg (World.drewN _) (Nat.add_assoc _ _ _))⟩))); try go_wp2_with (first | (go_at_call 41; (with_reducible refine (text_digit.calls (bt a0 x5_1) t209 _ ?side1 A12.out).mono ?_); (case side1 => exact LayD.below HLayD.out (by repeat (first | (with_reducible first | exact HB.out | apply below_alloc | apply pw_below_drewN | apply below_drew1) | exact HB.out))); rintro e w' ⟨rfl, ⟨nd, rfl⟩⟩; (try first | exact ⟨rfl, _, World.drewN_drewN _ _ _⟩ | exact ⟨rfl, _, Eq.trans (World.drewN_drewN _ _ _) (congrArg (World.drewN _) (Nat.add_assoc _ _ _))⟩); have p16 : 0 ≤ ((ji13) : Int) := of_decide_eq_true (by first | (with_reducible assumption) | assumption); have q16 : (ji13) < (a0.size : Int) := of_decide_eq_true (by first | (with_reducible assumption) | assumption); have hx16 := bt_at a0 (ji13); replace p16 := eq_true p16; replace q16 := eq_true q16) | (go_at_call 41; (with_reducible refine (text_digit.calls (bt a0 (ji13)) t210 _ ?side1 A17.out).mono ?_); (case side1 => exact LayD.below HLayD.out (by repeat (first | (with_reducible first | exact HB.out | apply below_alloc | apply pw_below_drewN | apply below_drew1) | exact HB.out))); rintro e w' ⟨rfl, ⟨nd, rfl⟩⟩; (try first | exact ⟨rfl, _, World.drewN_drewN _ _ _⟩ | exact ⟨rfl, _, Eq.trans (World.drewN_drewN _ _ _) (congrArg (World.drewN _) (Nat.add_assoc _ _ _))⟩))))
                        go_ret2
                        exact ⟨_, by first | rfl | (simp [errW_none, errW_some] <;> rfl) | (simp only [← hji4, ← hji13]; first | rfl | (simp [errW_none, errW_some] <;> rfl)) | (simp [*, errW_none, errW_some] <;> rfl), by first | exact Kd.R_nil _ _ _ _ _ | exact Kd.N_nil _ _ _ _ _ | exact Kd.V_nil _ _ _ _ _ | exact Kd.Q_nil _ _ _ _ _ | exact Kd.S_nil _ _ _ _ _, by repeat (first | (with_reducible first | exact HB.out | apply below_alloc | apply pw_below_drewN | apply below_drew1) | exact HB.out)⟩
                      · rw [if_neg c18] at H
                        have c18b0 : decide (t209 < 0) = false := decide_eq_false c18
                        clear c18
                        by_cases c19 : t210 < 0
                        · rw [if_pos c19] at H
                          have c19b0 : decide (t210 < 0) = true := decide_eq_true c19
                          clear c19
                          simp only [Option.some.injEq, Prod.mk.injEq] at H
                          obtain ⟨rfl, rfl⟩ := H
                          have p11 : 0 ≤ (x5_1 : Int) := of_decide_eq_true (by first | (with_reducible assumption) | assumption)
                          have q11 : x5_1 < (a0.size : Int) := of_decide_eq_true (by first | (with_reducible assumption) | assumption)
                          have hx11 := bt_at a0 x5_1
                          replace p11 := eq_true p11
                          replace q11 := eq_true q11
                          go_wp2_with (first | (go_at_call 41; (with_reducible refine (text_digit.calls (bt a0 x5_1) t209 _ ?side1 A12.out).mono ?_); (case side1 => exact LayD.below HLayD.out (by repeat (first | (with_reducible first | exact HB.out | apply below_alloc | apply pw_below_drewN | apply below_drew1) | exact HB.out))); rintro e w' ⟨rfl, ⟨nd, rfl⟩⟩; (try first | exact ⟨rfl, _, World.drewN_drewN _ _ _⟩ | exact ⟨rfl, _, Eq.trans (World.drewN_drewN _ _ _) (congrArg (World.drewN _) (Nat.add_assoc _ _ _))⟩); have p16 : 0 ≤ ((ji13) : Int) := of_decide_eq_true (by first | (with_reducible assumption) | assumption); have q16 : (ji13) < (a0.size : Int) := of_decide_eq_true (by first | (with_reducible assumption) | assumption); have hx16 := bt_at a0 (ji13); replace p16 := eq_true p16; replace q16 := eq_true q16) | (go_at_call 41; (with_reducible refine (text_digit.calls (bt a0 (ji13)) t210 _ ?side1 A17.out).mono ?_); (case side1 => exact LayD.below HLayD.out (by repeat (first | (with_reducible first | exact HB.out | apply below_alloc | apply pw_below_drewN | apply below_drew1) | exact HB.out))); rintro e w' ⟨rfl, ⟨nd, rfl⟩⟩; (try first | exact ⟨rfl, _, World.drewN_drewN _ _ _⟩ | exact ⟨rfl, _, Eq.trans (World.drewN_drewN _ _ _) (congrArg (World.drewN _) (Nat.add_assoc _ _ _))⟩)))
                          repeat (go_quiet (first | (go_at_call 41; (with_reducible refine (text_digit.calls (bt a0 x5_1) t209 _ ?side1 A12.out).mono ?_); (case side1 => exact LayD.below HLayD.out (by repeat (first | (with_reducible first | exact HB.out | apply below_alloc | apply pw_below_drewN | apply below_drew1) | exact HB.out))); rintro e w' ⟨rfl, ⟨nd, rfl⟩⟩; (try first | exact ⟨rfl, _, World.drewN_drewN _ _ _⟩ | exact ⟨rfl, _, Eq.trans (World.drewN_drewN _ _ _) (congrArg (World.drewN _) (Nat.add_assoc _ _ _))⟩); have p16 : 0 ≤ ((ji13) : Int) := of_decide_eq_true (by first | (with_reducible assumption) | assumption); have q16 : (ji13) < (a0.size : Int) := of_decide_eq_true (by first | (with_reducible assumption) | assumption); have hx16 := bt_at a0 (ji13); replace p16 := eq_true p16; replace q16 := eq_true q16) | (go_at_call 41; (with_reducible refine (text_digit.calls (bt a0 (ji13)) t210 _ ?side1 A17.out).mono ?_); (case side1 => exact LayD.below HLayD.out (by repeat (first | (with_reducible first | exact HB.out | apply below_alloc | apply pw_below_drewN | apply below_drew1) | exact HB.out))); rintro e w' ⟨rfl, ⟨nd, rfl⟩⟩; (try first | exact ⟨rfl, _, World.drewN_drewN _ _ _⟩ | exact ⟨rfl, _, Eq.trans (World.drewN_drewN _ _ _) (congrArg (World.drewN _) (Nat.add_assoc _ _ _))⟩))); try go_wp2_with (first | (go_at_call 41; (with_reducible refine (text_digit.calls (bt a0 x5_1) t209 _ ?side1 A12.out).mono ?_); (case side1 => exact LayD.below HLayD.out (by repeat (first | (with_reducible first | exact HB.out | apply below_alloc | apply pw_below_drewN | apply below_drew1) | exact HB.out))); rintro e w' ⟨rfl, ⟨nd, rfl⟩⟩; (try first | exact ⟨rfl, _, World.drewN_drewN _ _ _⟩ | exact ⟨rfl, _, Eq.trans (World.drewN_drewN _ _ _) (congrArg (World.drewN _) (Nat.add_assoc _ _ _))⟩); have p16 : 0 ≤ ((ji13) : Int) := of_decide_eq_true (by first | (with_reducible assumption) | assumption); have q16 : (ji13) < (a0.size : Int) := of_decide_eq_true (by first | (with_reducible assumption) | assumption); have hx16 := bt_at a0 (ji13); replace p16 := eq_true p16; replace q16 := eq_true q16) | (go_at_call 41; (with_reducible refine (text_digit.calls (bt a0 (ji13)) t210 _ ?side1 A17.out).mono ?_); (case side1 => exact LayD.below HLayD.out (by repeat (first | (with_reducible first | exact HB.out | apply below_alloc | apply pw_below_drewN | apply below_drew1) | exact HB.out))); rintro e w' ⟨rfl, ⟨nd, rfl⟩⟩; (try first | exact ⟨rfl, _, World.drewN_drewN _ _ _⟩ | exact ⟨rfl, _, Eq.trans (World.drewN_drewN _ _ _) (congrArg (World.drewN _) (Nat.add_assoc _ _ _))⟩))))
                          go_ret2
                          exact ⟨_, by first | rfl | (simp [errW_none, errW_some] <;> rfl) | (simp only [← hji4, ← hji13]; first | rfl | (simp [errW_none, errW_some] <;> rfl)) | (simp [*, errW_none, errW_some] <;> rfl), by first | exact Kd.R_nil _ _ _ _ _ | exact Kd.N_nil _ _ _ _ _ | exact Kd.V_nil _ _ _ _ _ | exact Kd.Q_nil _ _ _ _ _ | exact Kd.S_nil _ _ _ _ _, by repeat (first | (with_reducible first | exact HB.out | apply below_alloc | apply pw_below_drewN | apply below_drew1) | exact HB.out)⟩
                        · rw [if_neg c19] at H
                          have c19b0 : decide (t210 < 0) = false := decide_eq_false c19
                          clear c19
                          by_cases c20 : x4_1.length < 140737488355328
                          · rw [if_pos c20] at H
                            have LMc20 := Aside0.mk c20
                            clear c20
                            obtain ⟨y211, hy211⟩ : ∃ y_ : List Int, y_ = (x4_1 ++ [(Go.bits .or .i64 (wrap64 (t209 * 16)) t210) % 256]) := ⟨_, rfl⟩
                            replace H : (text_DecodeHex.l0 k1 a0 y211 (wrap64 (x5_1 + 2))) = some (r1, r2) := by first | (rw [hy211]; with_reducible exact H) | (have H2_ := (Option.bind_some _ _).symm.trans H; rw [hy211]; with_reducible exact H2_) | (have H2_ := (Option.bind_some _ _).symm.trans H; with_reducible exact H2_) | with_reducible exact H | (rw [hy211]; exact H) | exact H
                            have Ny211 := Aside0.mk hy211
                            clear hy211
                            have H' := Aside0.mk H
                            clear H
                            have p11 : 0 ≤ (x5_1 : Int) := of_decide_eq_true (by first | (with_reducible assumption) | assumption)
                            have q11 : x5_1 < (a0.size : Int) := of_decide_eq_true (by first | (with_reducible assumption) | assumption)
                            have hx11 := bt_at a0 x5_1
                            replace p11 := eq_true p11
                            replace q11 := eq_true q11
                            go_wp2_with (first | (go_at_call 41; (with_reducible refine (text_digit.calls (bt a0 x5_1) t209 _ ?side1 A12.out).mono ?_); (case side1 => exact LayD.below HLayD.out (by repeat (first | (with_reducible first | exact HB.out | apply below_alloc | apply pw_below_drewN | apply below_drew1) | exact HB.out))); rintro e w' ⟨rfl, ⟨nd, rfl⟩⟩; (try first | exact ⟨rfl, _, World.drewN_drewN _ _ _⟩ | exact ⟨rfl, _, Eq.trans (World.drewN_drewN _ _ _) (congrArg (World.drewN _) (Nat.add_assoc _ _ _))⟩); have p16 : 0 ≤ ((ji13) : Int) := of_decide_eq_true (by first | (with_reducible assumption) | assumption); have q16 : (ji13) < (a0.size : Int) := of_decide_eq_true (by first | (with_reducible assumption) | assumption); have hx16 := bt_at a0 (ji13); replace p16 := eq_true p16; replace q16 := eq_true q16) | (go_at_call 41; (with_reducible refine (text_digit.calls (bt a0 (ji13)) t210 _ ?side1 A17.out).mono ?_); (case side1 => exact LayD.below HLayD.out (by repeat (first | (with_reducible first | exact HB.out | apply below_alloc | apply pw_below_drewN | apply below_drew1) | exact HB.out))); rintro e w' ⟨rfl, ⟨nd, rfl⟩⟩; (try first | exact ⟨rfl, _, World.drewN_drewN _ _ _⟩ | exact ⟨rfl, _, Eq.trans (World.drewN_drewN _ _ _) (congrArg (World.drewN _) (Nat.add_assoc _ _ _))⟩)) | ((with_reducible refine gate_builtin (b := .append) (xs := #[.tmp 40, .tmp 46]) rfl ?_); at_builtin; refine Kd.R_append (Kd.int .u8) (w0 := w) w.heap.size rfl (.tmp 40) (.tmp 46) 22 5 (.int .u8 0) 1 rfl Tryd.underlying22 info5 rfl (by decide) (by omega) u4 x4_1 ((Go.bits .or .i64 (wrap64 (t209 * 16)) t210) % 256) [.int .u8 ((Go.bits .or .i64 (wrap64 (t209 * 16)) t210) % 256)] (fun _ => True) (fun _ => False) rfl rfl ?aP (fun _ hk => hk.elim) ?aF ?aO ?aB ?aS ?aL ?_; (case aP => exact rfl); (case aB => exact (by repeat (first | (with_reducible first | exact HB.out | apply below_alloc | apply pw_below_drewN | apply below_drew1) | exact HB.out))); (case aF => exact (fun _ _ => trivial)); (case aO => exact (by (with_reducible repeat (first | apply Kd.R_alloc | apply Kd.R_drewN | apply Kd.R_drew)); exact HO_4.out)); (case aS => exact (below_size (by repeat (first | (with_reducible first | exact HB.out | apply below_alloc | apply pw_below_drewN | apply below_drew1) | exact HB.out)))); (case aL => have := LMc20.out; omega); intro v212 w21 ho hb hg hat; rw [← Ny211.out] at ho; have n0_ := Aside0.mk (hb); have n1_ := Aside0.mk (ho); clear HB; clear HO_4; have HB := n0_; have HO213 := n1_; clear n0_ n1_; clear ho hb hg hat))
                            repeat (go_quiet (first | (go_at_call 41; (with_reducible refine (text_digit.calls (bt a0 x5_1) t209 _ ?side1 A12.out).mono ?_); (case side1 => exact LayD.below HLayD.out (by repeat (first | (with_reducible first | exact HB.out | apply below_alloc | apply pw_below_drewN | apply below_drew1) | exact HB.out))); rintro e w' ⟨rfl, ⟨nd, rfl⟩⟩; (try first | exact ⟨rfl, _, World.drewN_drewN _ _ _⟩ | exact ⟨rfl, _, Eq.trans (World.drewN_drewN _ _ _) (congrArg (World.drewN _) (Nat.add_assoc _ _ _))⟩); have p16 : 0 ≤ ((ji13) : Int) := of_decide_eq_true (by first | (with_reducible assumption) | assumption); have q16 : (ji13) < (a0.size : Int) := of_decide_eq_true (by first | (with_reducible assumption) | assumption); have hx16 := bt_at a0 (ji13); replace p16 := eq_true p16; replace q16 := eq_true q16) | (go_at_call 41; (with_reducible refine (text_digit.calls (bt a0 (ji13)) t210 _ ?side1 A17.out).mono ?_); (case side1 => exact LayD.below HLayD.out (by repeat (first | (with_reducible first | exact HB.out | apply below_alloc | apply pw_below_drewN | apply below_drew1) | exact HB.out))); rintro e w' ⟨rfl, ⟨nd, rfl⟩⟩; (try first | exact ⟨rfl, _, World.drewN_drewN _ _ _⟩ | exact ⟨rfl, _, Eq.trans (World.drewN_drewN _ _ _) (congrArg (World.drewN _) (Nat.add_assoc _ _ _))⟩)) | ((with_reducible refine gate_builtin (b := .append) (xs := #[.tmp 40, .tmp 46]) rfl ?_); at_builtin; refine Kd.R_append (Kd.int .u8) (w0 := w) w.heap.size rfl (.tmp 40) (.tmp 46) 22 5 (.int .u8 0) 1 rfl Tryd.underlying22 info5 rfl (by decide) (by omega) u4 x4_1 ((Go.bits .or .i64 (wrap64 (t209 * 16)) t210) % 256) [.int .u8 ((Go.bits .or .i64 (wrap64 (t209 * 16)) t210) % 256)] (fun _ => True) (fun _ => False) rfl rfl ?aP (fun _ hk => hk.elim) ?aF ?aO ?aB ?aS ?aL ?_; (case aP => exact rfl); (case aB => exact (by repeat (first | (with_reducible first | exact HB.out | apply below_alloc | apply pw_below_drewN | apply below_drew1) | exact HB.out))); (case aF => exact (fun _ _ => trivial)); (case aO => exact (by (with_reducible repeat (first | apply Kd.R_alloc | apply Kd.R_drewN | apply Kd.R_drew)); exact HO_4.out)); (case aS => exact (below_size (by repeat (first | (with_reducible first | exact HB.out | apply below_alloc | apply pw_below_drewN | apply below_drew1) | exact HB.out)))); (case aL => have := LMc20.out; omega); intro v212 w21 ho hb hg hat; rw [← Ny211.out] at ho; have n0_ := Aside0.mk (hb); have n1_ := Aside0.mk (ho); clear HB; clear HO_4; have HB := n0_; have HO213 := n1_; clear n0_ n1_; clear ho hb hg hat)); try go_wp2_with (first | (go_at_call 41; (with_reducible refine (text_digit.calls (bt a0 x5_1) t209 _ ?side1 A12.out).mono ?_); (case side1 => exact LayD.below HLayD.out (by repeat (first | (with_reducible first | exact HB.out | apply below_alloc | apply pw_below_drewN | apply below_drew1) | exact HB.out))); rintro e w' ⟨rfl, ⟨nd, rfl⟩⟩; (try first | exact ⟨rfl, _, World.drewN_drewN _ _ _⟩ | exact ⟨rfl, _, Eq.trans (World.drewN_drewN _ _ _) (congrArg (World.drewN _) (Nat.add_assoc _ _ _))⟩); have p16 : 0 ≤ ((ji13) : Int) := of_decide_eq_true (by first | (with_reducible assumption) | assumption); have q16 : (ji13) < (a0.size : Int) := of_decide_eq_true (by first | (with_reducible assumption) | assumption); have hx16 := bt_at a0 (ji13); replace p16 := eq_true p16; replace q16 := eq_true q16) | (go_at_call 41; (with_reducible refine (text_digit.calls (bt a0 (ji13)) t210 _ ?side1 A17.out).mono ?_); (case side1 => exact LayD.below HLayD.out (by repeat (first | (with_reducible first | exact HB.out | apply below_alloc | apply pw_below_drewN | apply below_drew1) | exact HB.out))); rintro e w' ⟨rfl, ⟨nd, rfl⟩⟩; (try first | exact ⟨rfl, _, World.drewN_drewN _ _ _⟩ | exact ⟨rfl, _, Eq.trans (World.drewN_drewN _ _ _) (congrArg (World.drewN _) (Nat.add_assoc _ _ _))⟩)) | ((with_reducible refine gate_builtin (b := .append) (xs := #[.tmp 40, .tmp 46]) rfl ?_); at_builtin; refine Kd.R_append (Kd.int .u8) (w0 := w) w.heap.size rfl (.tmp 40) (.tmp 46) 22 5 (.int .u8 0) 1 rfl Tryd.underlying22 info5 rfl (by decide) (by omega) u4 x4_1 ((Go.bits .or .i64 (wrap64 (t209 * 16)) t210) % 256) [.int .u8 ((Go.bits .or .i64 (wrap64 (t209 * 16)) t210) % 256)] (fun _ => True) (fun _ => False) rfl rfl ?aP (fun _ hk => hk.elim) ?aF ?aO ?aB ?aS ?aL ?_; (case aP => exact rfl); (case aB => exact (by repeat (first | (with_reducible first | exact HB.out | apply below_alloc | apply pw_below_drewN | apply below_drew1) | exact HB.out))); (case aF => exact (fun _ _ => trivial)); (case aO => exact (by (with_reducible repeat (first | apply Kd.R_alloc | apply Kd.R_drewN | apply Kd.R_drew)); exact HO_4.out)); (case aS => exact (below_size (by repeat (first | (with_reducible first | exact HB.out | apply below_alloc | apply pw_below_drewN | apply below_drew1) | exact HB.out)))); (case aL => have := LMc20.out; omega); intro v212 w21 ho hb hg hat; rw [← Ny211.out] at ho; have n0_ := Aside0.mk (hb); have n1_ := Aside0.mk (ho); clear HB; clear HO_4; have HB := n0_; have HO213 := n1_; clear n0_ n1_; clear ho hb hg hat)))
                            go_roundg k1
                            case measure => have := HK1.out; omega
                            case rel => exact ⟨(y211), (wrap64 (x5_1 + 2)), (by first | rfl | (simp; done) | (simp [*]; done)), H', ⟨by have := HK1.out; omega⟩, ⟨by (with_reducible repeat (first | apply Kd.R_alloc | apply Kd.R_drewN | apply Kd.R_drew)); exact HO213.out⟩, ⟨by repeat (first | (with_reducible first | exact HB.out | apply below_alloc | apply pw_below_drewN | apply below_drew1) | exact HB.out)⟩⟩
                          · rw [if_neg c20] at H
                            exact absurd H (by simp)
                    · rw [if_neg c15] at H
                      exact absurd H (by simp)
                  · rw [if_neg c14] at H
                    exact absurd H (by simp)
                · rw [if_neg c10] at H
                  exact absurd H (by simp)
              · rw [if_neg c9] at H
                have c9b0 : decide (x5_1 < (a0.size : Int)) = false := decide_eq_false c9
                clear c9
                simp only [Option.some.injEq, Prod.mk.injEq] at H
                obtain ⟨rfl, rfl⟩ := H
                go_wp2
                repeat (go_quiet (fail); try go_wp2)
                go_ret2
                exact ⟨_, by first | rfl | (simp [errW_none, errW_some] <;> rfl) | (simp only [← hji4]; first | rfl | (simp [errW_none, errW_some] <;> rfl)) | (simp [*, errW_none, errW_some] <;> rfl), by (with_reducible repeat (first | apply Kd.R_alloc | apply Kd.R_drewN | apply Kd.R_drew)); exact HO_4.out, by repeat (first | (with_reducible first | exact HB.out | apply below_alloc | apply pw_below_drewN | apply below_drew1) | exact HB.out)⟩
        · rw [if_neg c6] at H
          exact absurd H (by simp)
      · rw [if_neg c5] at H
        exact absurd H (by simp)
    · rw [if_neg c3] at H
      have c3b0 : (((a0.size : Int) % 2) == 0) = false := beq_eq_false_iff_ne.mpr c3
      have c3b1 : (((a0.size : Int) % 2) != 0) = true := bne_iff_ne.mpr c3
      simp only [Option.some.injEq, Prod.mk.injEq] at H
      obtain ⟨rfl, rfl⟩ := H
      go_enter Tryd.func23, Tryd.ntmps23
      go_wp2
      repeat (go_quiet (fail); try go_wp2)
      go_ret2
      exact ⟨_, by first | rfl | (simp [errW_none, errW_some] <;> rfl) | (simp [*, errW_none, errW_some] <;> rfl), by first | exact Kd.R_nil _ _ _ _ _ | exact Kd.N_nil _ _ _ _ _ | exact Kd.V_nil _ _ _ _ _ | exact Kd.Q_nil _ _ _ _ _ | exact Kd.S_nil _ _ _ _ _, by repeat (first | (with_reducible first | exact HB.out | apply below_alloc | apply pw_below_drewN | apply below_drew1) | exact HB.out)⟩
end Go.Proofs.YtljinjgamgmocaaDoor.G
end
section
namespace Go.Proofs.YtljinjgamgmocaaDoor.G
open Go.RowKit Go.Proofs.YtljinjgamgmocaaDoorW.PrintWords Go.Proofs.YtljinjgamgmocaaDoorW.PrintLast Go.Proofs.YtljinjgamgmocaaDoorW.PrintMore
attribute [local go_sem] max2_int min2_int max_two min_two max_three min_three max_four min_four   -- for this text's walks alone
set_option linter.unusedVariables false
set_option linter.unusedSimpArgs false
def text_Unquote.T9 : Bool × List (List Nat × List Nat) := (true, [([], []), ([], []), ([1], [1]), ([2], [2]), ([0, 3], [0, 3]), ([], []), ([5], [5]), ([4, 4, 0, 1, 2, 3, 4], [0, 4]), ([6, 7, 0, 1, 2, 3, 4, 5, 6, 7], [1, 5, 6])])
def text_Unquote.B9 : List Nat := [0, 0, 2, 6, 15, 0, 32, 31, 255]
theorem text_Unquote.tab9 : rtab .any (opsOf Tryd.f24 9) = text_Unquote.T9 := by kernel_rfl
theorem text_Unquote.bits9 : waitsOk text_Unquote.T9.2 text_Unquote.B9 = true := by kernel_rfl
def text_Unquote.T15 : Bool × List (List Nat × List Nat) := (true, [([], []), ([], []), ([1], [1]), ([2], [2]), ([3], [3]), ([0, 4], [0, 4]), ([], []), ([6], [6]), ([5, 5, 0, 1, 2, 3, 4, 5], [0, 5]), ([7, 8, 0, 1, 2, 3, 4, 5, 6, 7, 8], [6, 7])])
def text_Unquote.B15 : List Nat := [0, 0, 2, 6, 14, 31, 0, 64, 63, 511]
theorem text_Unquote.tab15 : rtab .any (opsOf Tryd.f24 15) = text_Unquote.T15 := by kernel_rfl
theorem text_Unquote.bits15 : waitsOk text_Unquote.T15.2 text_Unquote.B15 = true := by kernel_rfl
set_option maxHeartbeats 8000000 in
set_option maxRecDepth 100000 in
theorem text_Unquote.calls (k : Nat) (a0 : ByteArray) (r1 : List Int) (r2 : Int) (w : World) (hLD : LayD w) (h : text_Unquote.f k a0 = some (r1, r2)) :
    Calls Tryd.prog 24 #[.string a0] w fun e w' => ∃ v0_ : Value, e = .returned (.tuple #[v0_, .int .i64 r2]) ∧ Kd.R (Kd.int .u8) 5 w' w.heap.size (fun _ => True) v0_ r1 ∧ Below w.heap.size w w' := by
  have HB := Aside0.mk (Below.refl w.heap.size w)
  have HLayD := Aside0.mk hLD
  clear hLD
  have H : (if (a0.size : Int) > 1048576 then (some (([] : List Int), 2)) else (if (a0.size : Int) < 2 then (text_Unquote.j0 k a0 true) else (if 0 < (a0.size : Int) then (if (bt a0 0) = 34 then (if 0 ≤ (wrap64 ((a0.size : Int) - 1)) then (if (wrap64 ((a0.size : Int) - 1)) < (a0.size : Int) then (text_Unquote.j0 k a0 ((bt a0 (wrap64 ((a0.size : Int) - 1))) != 34)) else (none)) else (none)) else (text_Unquote.j0 k a0 true)) else (none)))) = some (r1, r2) := h
  clear h
  by_cases c2 : (a0.size : Int) > 1048576
  · rw [if_pos c2] at H
    have c2b0 : decide (1048576 < (a0.size : Int)) = true := decide_eq_true c2
    have c2b1 : decide (1048576 < a0.size) = true := decide_eq_true (by omega)
    clear c2
    simp only [Option.some.injEq, Prod.mk.injEq] at H
    obtain ⟨rfl, rfl⟩ := H
    go_enter Tryd.func24, Tryd.ntmps24
    go_wp2
    go_ret2
    exact ⟨_, by first | rfl | (simp [errW_none, errW_some] <;> rfl) | (simp [*, errW_none, errW_some] <;> rfl), by first | exact Kd.R_nil _ _ _ _ _ | exact Kd.N_nil _ _ _ _ _ | exact Kd.V_nil _ _ _ _ _ | exact Kd.Q_nil _ _ _ _ _ | exact Kd.S_nil _ _ _ _ _, by repeat (first | (with_reducible first | exact HB.out | apply below_alloc | apply pw_below_drewN | apply below_drew1) | exact HB.out)⟩
  · rw [if_neg c2] at H
    have c2b0 : decide (1048576 < (a0.size : Int)) = false := decide_eq_false c2
    have c2b1 : decide (1048576 < a0.size) = false := decide_eq_false (by omega)
    clear c2
    have HC3 := Aside0.mk H
    clear H
    go_enter Tryd.func24, Tryd.ntmps24
    go_upto_region 3 with (fail)
    go_cut [25] (fun v25 wc => ∃ (kq : Nat) (x25_2 : Bool), v25 = .bool x25_2 ∧ Aside0 (text_Unquote.j0 kq a0 x25_2 = some (r1, r2)) ∧ Aside0 (kq ≤ k) ∧ Aside0 (Below w.heap.size w wc))
    case first =>
      have H := HC3.out
      clear HC3
      by_cases c4 : (a0.size : Int) < 2
      · rw [if_pos c4] at H
        have c4b0 : decide ((a0.size : Int) < 2) = true := decide_eq_true c4
        have c4b1 : decide (a0.size < 2) = true := decide_eq_true (by omega)
        clear c4
        (first | rw [c4b0] | (simp only [i64_w, i32_w]; rw [c4b0]) | skip)
        have H' := Aside0.mk H
        clear H
        go_wp2
        go_meet
        case rel => exact ⟨_, (true), (by first | rfl | (simp; done) | (simp [*]; done)), H', ⟨by first | omega | exact Nat.le_refl _⟩, ⟨by repeat (first | (with_reducible first | exact HB.out | apply below_alloc | apply pw_below_drewN | apply below_drew1) | exact HB.out)⟩⟩
      · rw [if_neg c4] at H
        have c4b0 : decide ((a0.size : Int) < 2) = false := decide_eq_false c4
        have c4b1 : decide (a0.size < 2) = false := decide_eq_false (by omega)
        clear c4
        (first | rw [c4b0] | (simp only [i64_w, i32_w]; rw [c4b0]) | skip)
        by_cases c5 : 0 < (a0.size : Int)
        · rw [if_pos c5] at H
          have c5b0 : decide (0 < (a0.size : Int)) = true := decide_eq_true c5
          have c5b1 : decide (0 < a0.size) = true := decide_eq_true (by omega)
          clear c5
          by_cases c7 : (bt a0 0) = 34
          · rw [if_pos c7] at H
            have c7b0 : ((bt a0 0) == 34) = true := beq_iff_eq.mpr c7
            have c7b1 : ((bt a0 0) != 34) = false := bne_eq_false_iff_eq.mpr c7
            clear c7
            obtain ⟨ji8, hji8⟩ : ∃ j_ : Int, (wrap64 ((a0.size : Int) - 1)) = j_ := ⟨_, rfl⟩
            replace H : (if 0 ≤ (ji8) then (if (ji8) < (a0.size : Int) then (text_Unquote.j0 k a0 ((bt a0 (ji8)) != 34)) else (none)) else (none)) = some (r1, r2) := by first | (rw [hji8] at H; exact H) | (simp only [hji8] at H ⊢; exact H)
            have hji8w : (IntKind.i64.wrap ((a0.size : Int) - 1)) = ji8 := (i64_w _).trans hji8
            by_cases c9 : 0 ≤ (ji8)
            · rw [if_pos c9] at H
              have c9b0 : decide (0 ≤ (ji8)) = true := decide_eq_true c9
              clear c9
              by_cases c10 : (ji8) < (a0.size : Int)
              · rw [if_pos c10] at H
                have c10b0 : decide ((ji8) < (a0.size : Int)) = true := decide_eq_true c10
                clear c10
                have H' := Aside0.mk H
                clear H
                have p6 : 0 ≤ (0 : Int) := (by omega)
                have q6 : 0 < a0.size := (by have : (0 : Int) < (a0.size : Int) := of_decide_eq_true (by first | (with_reducible assumption) | assumption); omega)
                have hx6 : ∀ h : 0 < a0.size, ((a0[0]'h).toNat : Int) = bt a0 0 := bt_at a0 0
                clear p6
                have qi6 : (0 < (a0.size : Int)) = True := eq_true (of_decide_eq_true (by first | (with_reducible assumption) | assumption))
                replace q6 := eq_true q6
                have p11 : 0 ≤ ((ji8) : Int) := of_decide_eq_true (by first | (with_reducible assumption) | assumption)
                have q11 : (ji8) < (a0.size : Int) := of_decide_eq_true (by first | (with_reducible assumption) | assumption)
                have hx11 := bt_at a0 (ji8)
                replace p11 := eq_true p11
                replace q11 := eq_true q11
                go_wp2
                go_meet
                case rel => exact ⟨_, (((bt a0 (ji8)) != 34)), (by first | rfl | (simp; done) | (simp only [← hji8] <;> (first | rfl | simp)) | (simp [*]; done)), H', ⟨by first | omega | exact Nat.le_refl _⟩, ⟨by repeat (first | (with_reducible first | exact HB.out | apply below_alloc | apply pw_below_drewN | apply below_drew1) | exact HB.out)⟩⟩
              · rw [if_neg c10] at H
                exact absurd H (by simp)
            · rw [if_neg c9] at H
              exact absurd H (by simp)
          · rw [if_neg c7] at H
            have c7b0 : ((bt a0 0) == 34) = false := beq_eq_false_iff_ne.mpr c7
            have c7b1 : ((bt a0 0) != 34) = true := bne_iff_ne.mpr c7
            have H' := Aside0.mk H
            clear H
            have p6 : 0 ≤ (0 : Int) := (by omega)
            have q6 : 0 < a0.size := (by have : (0 : Int) < (a0.size : Int) := of_decide_eq_true (by first | (with_reducible assumption) | assumption); omega)
            have hx6 : ∀ h : 0 < a0.size, ((a0[0]'h).toNat : Int) = bt a0 0 := bt_at a0 0
            clear p6
            have qi6 : (0 < (a0.size : Int)) = True := eq_true (of_decide_eq_true (by first | (with_reducible assumption) | assumption))
            replace q6 := eq_true q6
            go_wp2
            go_meet
            case rel => exact ⟨_, (true), (by first | rfl | (simp; done) | (simp [*]; done)), H', ⟨by first | omega | exact Nat.le_refl _⟩, ⟨by repeat (first | (with_reducible first | exact HB.out | apply below_alloc | apply pw_below_drewN | apply below_drew1) | exact HB.out)⟩⟩
        · rw [if_neg c5] at H
          exact absurd H (by simp)
    case rest =>
      clear HC3
      try clear c1
      try clear p1
      try clear q1
      try clear hx1
      try clear c2
      try clear c2b0
      try clear c2b1
      try clear p2
      try clear c4
      try clear c4b0
      try clear c4b1
      try clear c5
      try clear c5b0
      try clear c5b1
      try clear p6
      try clear q6
      try clear hx6
      try clear qi6
      try clear c7
      try clear c7b0
      try clear c7b1
      try clear c9
      try clear c9b0
      try clear c10
      try clear c10b0
      try clear p11
      try clear q11
      try clear hx11
      try clear p11
      try clear p6
      try clear q11
      try clear q6
      obtain ⟨kq, x25_2, rfl, HA, HJ2, HB⟩ := hcut
      cases kq with
      | zero => exact absurd HA.out (by simp [text_Unquote.j0])
      | succ kj2 =>
        have H := HA.out
        clear HA
        simp only [text_Unquote.j0] at H
        by_cases c12 : x25_2 = true
        · subst c12
          have H1 : (some (([] : List Int), 66)) = some (r1, r2) := by rw [if_pos rfl] at H; exact H
          clear H
          have H := H1
          clear H1
          simp only [Option.some.injEq, Prod.mk.injEq] at H
          obtain ⟨rfl, rfl⟩ := H
          go_wp2
          go_ret2
          exact ⟨_, by first | rfl | (simp [errW_none, errW_some] <;> rfl) | (simp [*, errW_none, errW_some] <;> rfl), by first | exact Kd.R_nil _ _ _ _ _ | exact Kd.N_nil _ _ _ _ _ | exact Kd.V_nil _ _ _ _ _ | exact Kd.Q_nil _ _ _ _ _ | exact Kd.S_nil _ _ _ _ _, by repeat (first | (with_reducible first | exact HB.out | apply below_alloc | apply pw_below_drewN | apply below_drew1) | exact HB.out)⟩
        · replace c12 := Bool.eq_false_iff.mpr c12
          subst c12
          have H1 : (if 1 ≤ (wrap64 ((a0.size : Int) - 1)) then (if (wrap64 ((a0.size : Int) - 1)) ≤ (a0.size : Int) then (if 0 ≤ ((a0.extract 1 ((wrap64 ((a0.size : Int) - 1)) : Int).toNat).size : Int) then (if (((a0.extract 1 ((wrap64 ((a0.size : Int) - 1)) : Int).toNat).size : Int) : Int).toNat ≤ 281474976710656 then (text_Unquote.l0 kj2 (a0.extract 1 ((wrap64 ((a0.size : Int) - 1)) : Int).toNat) (([] : List Int))) else (none)) else (none)) else (none)) else (none)) = some (r1, r2) := by rw [if_neg (show ¬ (false = true) by decide)] at H; exact H
          clear H
          have H := H1
          clear H1
          by_cases c13 : 1 ≤ (wrap64 ((a0.size : Int) - 1))
          · rw [if_pos c13] at H
            have c13b0 := eq_true c13
            have c13b1 : decide (1 ≤ (wrap64 ((a0.size : Int) - 1))) = true := decide_eq_true c13
            clear c13
            by_cases c14 : (wrap64 ((a0.size : Int) - 1)) ≤ (a0.size : Int)
            · rw [if_pos c14] at H
              have c14b0 := eq_true c14
              have c14b1 : decide ((wrap64 ((a0.size : Int) - 1)) ≤ (a0.size : Int)) = true := decide_eq_true c14
              clear c14
              obtain ⟨ji15, hji15⟩ : ∃ j_ : Int, ((a0.extract 1 ((wrap64 ((a0.size : Int) - 1)) : Int).toNat).size : Int) = j_ := ⟨_, rfl⟩
              replace H : (if 0 ≤ (ji15) then (if ((ji15) : Int).toNat ≤ 281474976710656 then (text_Unquote.l0 kj2 (a0.extract 1 ((wrap64 ((a0.size : Int) - 1)) : Int).toNat) (([] : List Int))) else (none)) else (none)) = some (r1, r2) := by first | (rw [hji15] at H; exact H) | (simp only [hji15] at H ⊢; exact H)
              by_cases c16 : 0 ≤ (ji15)
              · rw [if_pos c16] at H
                have c16b0 := eq_true c16
                have c16b1 : decide (0 ≤ (ji15)) = true := decide_eq_true c16
                clear c16
                by_cases c17 : ((ji15) : Int).toNat ≤ 281474976710656
                · rw [if_pos c17] at H
                  have c17b0 := eq_true c17
                  have c17b1 : decide (((ji15) : Int).toNat ≤ 281474976710656) = true := decide_eq_true c17
                  clear c17
                  obtain ⟨y214, hy214⟩ : ∃ y_ : List Int, y_ = (([] : List Int)) := ⟨_, rfl⟩
                  replace H : (text_Unquote.l0 kj2 (a0.extract 1 ((wrap64 ((a0.size : Int) - 1)) : Int).toNat) y214) = some (r1, r2) := by first | (rw [hy214]; with_reducible exact H) | (have H2_ := (Option.bind_some _ _).symm.trans H; rw [hy214]; with_reducible exact H2_) | (have H2_ := (Option.bind_some _ _).symm.trans H; with_reducible exact H2_) | with_reducible exact H | (rw [hy214]; exact H) | exact H
                  have Ny214 := Aside0.mk hy214
                  clear hy214
                  have H' := Aside0.mk H
                  clear H
                  go_wp2_with (first | ((with_reducible refine gate_dst (N := 33) rfl ?_); (try (refine gate_guard (by rfl) ?_; dsimp only)); refine Kd.R_make0 (Kd.int .u8) _ 5 rfl (N := 33) rfl 22 _ _ rfl (ji15) rfl (by refine congrArg (Value.int .i64) ?_; rw [← hji15, ByteArray.size_extract, Nat.min_eq_left (Int.toNat_le.2 (of_decide_eq_true c14b1))]) Tryd.underlying22 (.int .u8 0) 1 info5 rfl (by decide) (by omega) (ok := fun _ => True) trivial (of_decide_eq_true (by first | (with_reducible assumption) | assumption)) (Nat.le_trans (Nat.mul_le_mul_right _ (of_decide_eq_true (by first | (with_reducible assumption) | assumption) : (ji15).toNat ≤ 281474976710656)) (by omega)) (Below.refl _ _) (Nat.le_refl _) ?_; intro v215 w18 ho19 hb hg_ hnew_; clear hg_ hnew_; (first | rw [← Ny214.out] at ho19 | (simp only [Int.reduceToNat] at ho19; rw [← Ny214.out] at ho19)); have n0_ := Aside0.mk (Kd.R_lower ho19 (below_size (by repeat (first | (with_reducible first | exact HB.out | apply below_alloc | apply pw_below_drewN | apply below_drew1) | exact HB.out)))); have n1_ := Aside0.mk (below_step (by repeat (first | (with_reducible first | exact HB.out | apply below_alloc | apply pw_below_drewN | apply below_drew1) | exact HB.out)) hb); clear HB; have HO216 := n0_; have HB := n1_; clear n0_ n1_; clear hb ho19))
                  go_loopg [0, 4] kj2 (fun kq v0 v4 w' => ∃ (x0_2 : ByteArray) (x4_2 : List Int), v0 = .string x0_2 ∧ Aside0 (text_Unquote.l0 kq x0_2 x4_2 = some (r1, r2)) ∧ Aside0 (kq ≤ kj2) ∧ Aside0 (Kd.R (Kd.int .u8) 5 w' w.heap.size (fun _ => True) v4 x4_2) ∧ Aside0 (Below w.heap.size w w'))
                  case atStart => exact ⟨(a0.extract 1 ((wrap64 ((a0.size : Int) - 1)) : Int).toNat), (y214), (by first | rfl | (simp; done) | (simp [*]; done)), H', ⟨Nat.le_refl _⟩, ⟨by (with_reducible repeat (first | apply Kd.R_alloc | apply Kd.R_drewN | apply Kd.R_drew)); exact HO216.out⟩, ⟨by repeat (first | (with_reducible first | exact HB.out | apply below_alloc | apply pw_below_drewN | apply below_drew1) | exact HB.out)⟩⟩
                  case round =>
                    clear H'
                    try clear c1
                    try clear p1
                    try clear q1
                    try clear hx1
                    try clear c2
                    try clear c2b0
                    try clear c2b1
                    try clear p2
                    try clear c4
                    try clear c4b0
                    try clear c4b1
                    try clear c5
                    try clear c5b0
                    try clear c5b1
                    try clear p6
                    try clear q6
                    try clear hx6
                    try clear qi6
                    try clear c7
                    try clear c7b0
                    try clear c7b1
                    try clear c9
                    try clear c9b0
                    try clear c10
                    try clear c10b0
                    try clear p11
                    try clear q11
                    try clear hx11
                    try clear c12
                    try clear c13
                    try clear c13b0
                    try clear c13b1
                    try clear c14
                    try clear c14b0
                    try clear c14b1
                    try clear c16
                    try clear c16b0
                    try clear c16b1
                    try clear c17
                    try clear c17b0
                    try clear c17b1
                    try clear p1
                    try clear p11
                    try clear p2
                    try clear p6
                    try clear q1
                    try clear q11
                    try clear q6
                    obtain ⟨x0_2, x4_2, rfl, HA, HK2, HO_4, HB⟩ := hrel
                    cases gk with
                    | zero => exact absurd HA.out (by simp [text_Unquote.l0])
                    | succ k2 =>
                      have H := HA.out
                      clear HA
                      simp only [text_Unquote.l0] at H
                      by_cases c20 : x0_2.toList = ([] : List UInt8)
                      · rw [if_pos c20] at H
                        have c20b0 : (x0_2.toList == ([] : List UInt8)) = true := beq_iff_eq.mpr c20
                        have c20b1 : (x0_2.toList != ([] : List UInt8)) = false := bne_eq_false_iff_eq.mpr c20
                        clear c20
                        simp only [Option.some.injEq, Prod.mk.injEq] at H
                        obtain ⟨rfl, rfl⟩ := H
                        go_wp2
                        go_ret2
                        exact ⟨_, by first | rfl | (simp [errW_none, errW_some] <;> rfl) | (simp only [← hji15]; first | rfl | (simp [errW_none, errW_some] <;> rfl)) | (simp [*, errW_none, errW_some] <;> rfl), by (with_reducible repeat (first | apply Kd.R_alloc | apply Kd.R_drewN | apply Kd.R_drew)); exact HO_4.out, by repeat (first | (with_reducible first | exact HB.out | apply below_alloc | apply pw_below_drewN | apply below_drew1) | exact HB.out)⟩
                      · rw [if_neg c20] at H
                        have c20b0 : (x0_2.toList == ([] : List UInt8)) = false := beq_eq_false_iff_ne.mpr c20
                        have c20b1 : (x0_2.toList != ([] : List UInt8)) = true := bne_iff_ne.mpr c20
                        by_cases c21 : 0 < (x0_2.size : Int)
                        · rw [if_pos c21] at H
                          have c21b0 : decide (0 < (x0_2.size : Int)) = true := decide_eq_true c21
                          have c21b1 : decide (0 < x0_2.size) = true := decide_eq_true (by omega)
                          clear c21
                          replace H := Option.bind_eq_some_iff.mp H
                          obtain ⟨t217, A230, H⟩ := H
                          replace H : (if t217 = true then (if x4_2.length < 140737488355328 then (if 1 ≤ (x0_2.size : Int) then (text_Unquote.l0 k2 (x0_2.extract 1 x0_2.size) (x4_2 ++ [bt x0_2 0])) else (none)) else (none)) else (if (x0_2.size : Int) < 4 then (text_Unquote.j2 k2 x0_2 x4_2 true) else (if 0 ≤ 2 then (if 2 ≤ (x0_2.size : Int) then (text_Unquote.j2 k2 x0_2 x4_2 ((x0_2.extract 0 2).toList != ([92, 120] : List UInt8))) else (none)) else (none)))) = some (r1, r2) := H
                          have A23 := Aside0.mk A230
                          clear A230
                          by_cases c24 : t217 = true
                          · subst c24
                            have H1 : (if x4_2.length < 140737488355328 then (if 1 ≤ (x0_2.size : Int) then (text_Unquote.l0 k2 (x0_2.extract 1 x0_2.size) (x4_2 ++ [bt x0_2 0])) else (none)) else (none)) = some (r1, r2) := by rw [if_pos rfl] at H; exact H
                            clear H
                            have H := H1
                            clear H1
                            by_cases c26 : x4_2.length < 140737488355328
                            · rw [if_pos c26] at H
                              have LMc26 := Aside0.mk c26
                              clear c26
                              obtain ⟨y218, hy218⟩ : ∃ y_ : List Int, y_ = (x4_2 ++ [bt x0_2 0]) := ⟨_, rfl⟩
                              replace H : (if 1 ≤ (x0_2.size : Int) then (text_Unquote.l0 k2 (x0_2.extract 1 x0_2.size) y218) else (none)) = some (r1, r2) := by first | (rw [hy218]; with_reducible exact H) | (have H2_ := (Option.bind_some _ _).symm.trans H; rw [hy218]; with_reducible exact H2_) | (have H2_ := (Option.bind_some _ _).symm.trans H; with_reducible exact H2_) | with_reducible exact H | (rw [hy218]; exact H) | exact H
                              have Ny218 := Aside0.mk hy218
                              clear hy218
                              by_cases c27 : 1 ≤ (x0_2.size : Int)
                              · rw [if_pos c27] at H
                                have c27b0 := eq_true c27
                                have c27b1 : decide (1 ≤ (x0_2.size : Int)) = true := decide_eq_true c27
                                clear c27
                                have H' := Aside0.mk H
                                clear H
                                have p22 : 0 ≤ (0 : Int) := (by omega)
                                have q22 : 0 < x0_2.size := (by have : (0 : Int) < (x0_2.size : Int) := of_decide_eq_true (by first | (with_reducible assumption) | assumption); omega)
                                have hx22 : ∀ h : 0 < x0_2.size, ((x0_2[0]'h).toNat : Int) = bt x0_2 0 := bt_at x0_2 0
                                clear p22
                                have qi22 : (0 < (x0_2.size : Int)) = True := eq_true (of_decide_eq_true (by first | (with_reducible assumption) | assumption))
                                replace q22 := eq_true q22
                                try go_wp2_with (first | ((with_reducible refine gate_callee (f := 32) rfl ?_); refine goesL_ (some 38) rfl rfl Tryd.func32 (by kernel_rfl) rfl #[.int .u8 (bt x0_2 0)] rfl (by (try simp only [List.map_toArray, List.map_cons, List.map_nil]); first | done | rfl | (simp only [List.length_drop, List.length_take]; rfl)) ?_; (with_reducible refine (text_itself.calls (bt x0_2 0) true _ A23.out).mono ?_); rintro e w' ⟨rfl, ⟨nd, rfl⟩⟩; refine ⟨_, rfl, ?_⟩))
                                (try (rw [drewN_self wr]; generalize hq_ : World.drewN wr _ = wr; have n0_ : Aside0 (Kd.R (Kd.int .u8) 5 wr w.heap.size (fun _ => True) u4 x4_2) := ⟨by rw [← hq_]; exact (by (with_reducible repeat (first | apply Kd.R_alloc | apply Kd.R_drewN | apply Kd.R_drew)); exact HO_4.out)⟩; have n1_ : Aside0 (Below w.heap.size w wr) := ⟨by rw [← hq_]; exact (by repeat (first | (with_reducible first | exact HB.out | apply below_alloc | apply pw_below_drewN | apply below_drew1) | exact HB.out))⟩; clear HO_4 HB hq_; have HO_4 := n0_; have HB := n1_; clear n0_ n1_))
                                have n0_ := Aside0.mk (Kd.R_drew HO_4.out)
                                have n1_ := Aside0.mk (below_drew1 HB.out)
                                clear HO_4
                                clear HB
                                have HO_4 := n0_
                                have HB := n1_
                                clear n0_ n1_
                                have p25 : 0 ≤ (0 : Int) := (by omega)
                                have q25 : 0 < x0_2.size := (by have : (0 : Int) < (x0_2.size : Int) := of_decide_eq_true (by first | (with_reducible assumption) | assumption); omega)
                                have hx25 : ∀ h : 0 < x0_2.size, ((x0_2[0]'h).toNat : Int) = bt x0_2 0 := bt_at x0_2 0
                                clear p25
                                have qi25 : (0 < (x0_2.size : Int)) = True := eq_true (of_decide_eq_true (by first | (with_reducible assumption) | assumption))
                                replace q25 := eq_true q25
                                refine start_ (n := 9) (S := fun w' => True) (ds := []) #[false, false, false, false, false, false, false, false, false] (by kernel_rfl) rfl rfl trivial (fun hHeld => ?_); refine with_tabW text_Unquote.tab9 text_Unquote.bits9 (fun HT_ HW_ => ?_)
                                generalize wr.drew = w28 at HO_4 HB hHeld ⊢
                                refine pure_ (i := 0) (N := some 39) (v := ?_) (a' := ?_) #[true, false, false, false, false, false, false, false, false] rfl rfl (any_of HT_.out (by kernel_rfl)) (fun _ _ _ h => h) (Or.inl ⟨by rfl, ?_⟩) ?_ ?_
                                rotate_left
                                · intro w'
                                  go_simp
                                  with_reducible rfl
                                rotate_left
                                · simp only [Act.put, List.setIfInBounds_toArray, List.set_cons_zero, List.set_cons_succ, i64_w, i32_w]
                                  rfl
                                refine pure_ (i := 1) (N := some 40) (v := ?_) (a' := ?_) #[true, true, false, false, false, false, false, false, false] rfl rfl (any_of HT_.out (by kernel_rfl)) (fun _ _ _ h => h) (Or.inl ⟨by rfl, ?_⟩) ?_ ?_
                                rotate_left
                                · intro w'
                                  go_simp
                                  with_reducible rfl
                                rotate_left
                                · simp only [Act.put, List.setIfInBounds_toArray, List.set_cons_zero, List.set_cons_succ, i64_w, i32_w]
                                  rfl
                                refine pure_ (i := 5) (N := some 44) (v := ?_) (a' := ?_) #[true, true, false, false, false, true, false, false, false] rfl rfl (any_of HT_.out (by kernel_rfl)) (fun _ _ _ h => h) (Or.inl ⟨by rfl, ?_⟩) ?_ ?_
                                rotate_left
                                · intro w'
                                  go_simp
                                  with_reducible rfl
                                rotate_left
                                · simp only [Act.put, List.setIfInBounds_toArray, List.set_cons_zero, List.set_cons_succ, i64_w, i32_w]
                                  rfl
                                refine pure_ (i := 6) (N := some 45) (v := ?_) (a' := ?_) #[true, true, false, false, false, true, true, false, false] rfl rfl (any_of HT_.out (by kernel_rfl)) (fun _ _ _ h => h) (Or.inl ⟨by rfl, ?_⟩) ?_ ?_
                                rotate_left
                                · intro w'
                                  go_simp
                                  with_reducible rfl
                                rotate_left
                                · simp only [Act.put, List.setIfInBounds_toArray, List.set_cons_zero, List.set_cons_succ, i64_w, i32_w]
                                  rfl
                                refine take_ (i := 2) (N := some 41) (v := ?_) (a' := ?_) #[true, true, true, false, false, true, true, false, false] rfl rfl (take_ofW HT_.out HW_.out (by kernel_rfl)) (fun _ _ _ h => h) (Or.inl ⟨by rfl, ?_⟩) hHeld ?_ ?_
                                rotate_left
                                · intro w' _
                                  go_simp
                                  with_reducible rfl
                                rotate_left
                                · simp only [Act.put, List.setIfInBounds_toArray, List.set_cons_zero, List.set_cons_succ, i64_w, i32_w]
                                  rfl
                                refine one_ (i := 3) (N := some 42) #[true, true, true, true, false, true, true, false, false] rfl rfl (one_of HT_.out (by kernel_rfl)) (by decide) (fun K hK => ?_)
                                refine value_ (w1 := ?_) (v := ?_) (by rfl) rfl ?_ ?_
                                rotate_left 2
                                · go_simp
                                  constructor
                                  · rfl
                                  · rfl
                                refine hK.out _ _ trivial (fun hHeld => ?_)
                                clear hK K
                                refine norm_ (a' := ?_) ?_ ?_
                                rotate_left
                                · show Act.put _ (some 42) _ = _
                                  simp only [Act.put, List.setIfInBounds_toArray, List.set_cons_zero, List.set_cons_succ, i64_w, i32_w]
                                  rfl
                                refine one_ (i := 4) (N := some 43) #[true, true, true, true, true, true, true, false, false] rfl rfl (one_of HT_.out (by kernel_rfl)) (by decide) (fun K hK => ?_)
                                refine Kd.R_append_step (Kd.int .u8) (w0 := w) w.heap.size (by rfl) (.tmp 39) (.tmp 42) 22 5 (.int .u8 0) 1 rfl Tryd.underlying22 info5 rfl (by decide) (by omega) u4 x4_2 (bt x0_2 0) [.int .u8 (bt x0_2 0)] (fun _ => True) (fun _ => False) rfl rfl ?aP (fun _ hk => hk.elim) ?aF ?aO ?aB ?aS ?aL ?_
                                (case aP => exact rfl)
                                (case aB => exact (by repeat (first | (with_reducible first | exact HB.out | apply below_alloc | apply pw_below_drewN | apply below_drew1) | exact HB.out)))
                                (case aF => exact (fun _ _ => trivial))
                                (case aO => exact (by (with_reducible repeat (first | apply Kd.R_alloc | apply Kd.R_drewN | apply Kd.R_drew)); exact HO_4.out))
                                (case aS => exact (below_size (by repeat (first | (with_reducible first | exact HB.out | apply below_alloc | apply pw_below_drewN | apply below_drew1) | exact HB.out))))
                                (case aL => have := LMc26.out; omega)
                                intro v219 w29 ho hb hg hat
                                rw [← Ny218.out] at ho
                                have n0_ := Aside0.mk (hb)
                                have n1_ := Aside0.mk (ho)
                                clear HB
                                clear HO_4
                                have HB := n0_
                                have HO220 := n1_
                                clear n0_ n1_
                                clear ho hb hg hat
                                refine hK.out _ _ trivial (fun hHeld => ?_)
                                clear hK K
                                refine norm_ (a' := ?_) ?_ ?_
                                rotate_left
                                · show Act.put _ (some 43) _ = _
                                  simp only [Act.put, List.setIfInBounds_toArray, List.set_cons_zero, List.set_cons_succ, i64_w, i32_w]
                                  rfl
                                refine pure_ (i := 7) (N := some 4) (v := ?_) (a' := ?_) #[true, true, true, true, true, true, true, true, false] rfl rfl (any_of HT_.out (by kernel_rfl)) (fun _ _ _ h => h) (Or.inl ⟨by rfl, ?_⟩) ?_ ?_
                                rotate_left
                                · intro w'
                                  go_simp
                                  with_reducible rfl
                                rotate_left
                                · simp only [Act.put, List.setIfInBounds_toArray, List.set_cons_zero, List.set_cons_succ, i64_w, i32_w]
                                  rfl
                                refine pure_ (i := 8) (N := some 0) (v := ?_) (a' := ?_) #[true, true, true, true, true, true, true, true, true] rfl rfl (any_of HT_.out (by kernel_rfl)) (fun _ _ _ h => h) (Or.inl ⟨by rfl, ?_⟩) ?_ ?_
                                rotate_left
                                · intro w'
                                  go_simp
                                  with_reducible rfl
                                rotate_left
                                · simp only [Act.put, List.setIfInBounds_toArray, List.set_cons_zero, List.set_cons_succ, i64_w, i32_w]
                                  rfl
                                refine done_ (done_of HT_.out (by kernel_rfl)) ?_
                                try go_wp2
                                go_roundg k2
                                case measure => have := HJ2.out; have := HK2.out; omega
                                case rel => exact ⟨(x0_2.extract 1 x0_2.size), (y218), (by first | rfl | (simp; done) | (simp [*]; done)), H', ⟨by have := HJ2.out; have := HK2.out; omega⟩, ⟨by (with_reducible repeat (first | apply Kd.R_alloc | apply Kd.R_drewN | apply Kd.R_drew)); exact HO220.out⟩, ⟨by repeat (first | (with_reducible first | exact HB.out | apply below_alloc | apply pw_below_drewN | apply below_drew1) | exact HB.out)⟩⟩
                              · rw [if_neg c27] at H
                                exact absurd H (by simp)
                            · rw [if_neg c26] at H
                              exact absurd H (by simp)
                          · replace c24 := Bool.eq_false_iff.mpr c24
                            subst c24
                            have H1 : (if (x0_2.size : Int) < 4 then (text_Unquote.j2 k2 x0_2 x4_2 true) else (if 0 ≤ 2 then (if 2 ≤ (x0_2.size : Int) then (text_Unquote.j2 k2 x0_2 x4_2 ((x0_2.extract 0 2).toList != ([92, 120] : List UInt8))) else (none)) else (none))) = some (r1, r2) := by rw [if_neg (show ¬ (false = true) by decide)] at H; exact H
                            clear H
                            have H := H1
                            clear H1
                            have HC30 := Aside0.mk H
                            clear H
                            have p22 : 0 ≤ (0 : Int) := (by omega)
                            have q22 : 0 < x0_2.size := (by have : (0 : Int) < (x0_2.size : Int) := of_decide_eq_true (by first | (with_reducible assumption) | assumption); omega)
                            have hx22 : ∀ h : 0 < x0_2.size, ((x0_2[0]'h).toNat : Int) = bt x0_2 0 := bt_at x0_2 0
                            clear p22
                            have qi22 : (0 < (x0_2.size : Int)) = True := eq_true (of_decide_eq_true (by first | (with_reducible assumption) | assumption))
                            replace q22 := eq_true q22
                            go_upto_region 10 with (first | ((with_reducible refine gate_callee (f := 32) rfl ?_); refine goesL_ (some 38) rfl rfl Tryd.func32 (by kernel_rfl) rfl #[.int .u8 (bt x0_2 0)] rfl (by (try simp only [List.map_toArray, List.map_cons, List.map_nil]); first | done | rfl | (simp only [List.length_drop, List.length_take]; rfl)) ?_; (with_reducible refine (text_itself.calls (bt x0_2 0) false _ A23.out).mono ?_); rintro e w' ⟨rfl, ⟨nd, rfl⟩⟩; refine ⟨_, rfl, ?_⟩))
                            (try simp only [Act.put, List.setIfInBounds_toArray, List.set_cons_zero, List.set_cons_succ])
                            go_cut [53] (fun v53 wc => ∃ (kq : Nat) (x53_29 : Bool), v53 = .bool x53_29 ∧ Aside0 (text_Unquote.j2 kq x0_2 x4_2 x53_29 = some (r1, r2)) ∧ Aside0 (kq ≤ k2) ∧ Aside0 (Kd.R (Kd.int .u8) 5 wc w.heap.size (fun _ => True) u4 x4_2) ∧ Aside0 (Below w.heap.size w wc))
                            case first =>
                              have H := HC30.out
                              clear HC30
                              by_cases c31 : (x0_2.size : Int) < 4
                              · rw [if_pos c31] at H
                                have c31b0 : decide ((x0_2.size : Int) < 4) = true := decide_eq_true c31
                                have c31b1 : decide (x0_2.size < 4) = true := decide_eq_true (by omega)
                                clear c31
                                (first | rw [c31b0] | (simp only [i64_w, i32_w]; rw [c31b0]) | skip)
                                have H' := Aside0.mk H
                                clear H
                                go_wp2
                                go_meet
                                case rel => exact ⟨_, (true), (by first | rfl | (simp; done) | (simp [*]; done)), H', ⟨by have := HJ2.out; have := HK2.out; first | omega | exact Nat.le_refl _⟩, ⟨by (with_reducible repeat (first | apply Kd.R_alloc | apply Kd.R_drewN | apply Kd.R_drew)); exact HO_4.out⟩, ⟨by repeat (first | (with_reducible first | exact HB.out | apply below_alloc | apply pw_below_drewN | apply below_drew1) | exact HB.out)⟩⟩
                              · rw [if_neg c31] at H
                                have c31b0 : decide ((x0_2.size : Int) < 4) = false := decide_eq_false c31
                                have c31b1 : decide (x0_2.size < 4) = false := decide_eq_false (by omega)
                                clear c31
                                (first | rw [c31b0] | (simp only [i64_w, i32_w]; rw [c31b0]) | skip)
                                by_cases c32 : 0 ≤ 2
                                · rw [if_pos c32] at H
                                  have c32b0 := eq_true c32
                                  have c32b1 : decide (0 ≤ 2) = true := decide_eq_true c32
                                  clear c32
                                  by_cases c33 : 2 ≤ (x0_2.size : Int)
                                  · rw [if_pos c33] at H
                                    have c33b0 := eq_true c33
                                    have c33b1 : decide (2 ≤ (x0_2.size : Int)) = true := decide_eq_true c33
                                    clear c33
                                    have H' := Aside0.mk H
                                    clear H
                                    go_wp2
                                    go_meet
                                    case rel => exact ⟨_, (((x0_2.extract 0 2).toList != ([92, 120] : List UInt8))), (by first | rfl | (simp; done) | (simp [*]; done)), H', ⟨by have := HJ2.out; have := HK2.out; first | omega | exact Nat.le_refl _⟩, ⟨by (with_reducible repeat (first | apply Kd.R_alloc | apply Kd.R_drewN | apply Kd.R_drew)); exact HO_4.out⟩, ⟨by repeat (first | (with_reducible first | exact HB.out | apply below_alloc | apply pw_below_drewN | apply below_drew1) | exact HB.out)⟩⟩
                                  · rw [if_neg c33] at H
                                    exact absurd H (by simp)
                                · rw [if_neg c32] at H
                                  exact absurd H (by simp)
                            case rest =>
                              clear HC30
                              try clear c1
                              try clear p1
                              try clear q1
                              try clear hx1
                              try clear c2
                              try clear c2b0
                              try clear c2b1
                              try clear p2
                              try clear q2
                              try clear hx2
                              try clear qi2
                              try clear c3
                              try clear c4
                              try clear c4b0
                              try clear c4b1
                              try clear c5
                              try clear c5b0
                              try clear c5b1
                              try clear p6
                              try clear q6
                              try clear hx6
                              try clear qi6
                              try clear c7
                              try clear c7b0
                              try clear c7b1
                              try clear c9
                              try clear c9b0
                              try clear c10
                              try clear c10b0
                              try clear p11
                              try clear q11
                              try clear hx11
                              try clear c12
                              try clear c13
                              try clear c13b0
                              try clear c13b1
                              try clear c14
                              try clear c14b0
                              try clear c14b1
                              try clear c16
                              try clear c16b0
                              try clear c16b1
                              try clear c17
                              try clear c17b0
                              try clear c17b1
                              try clear c20
                              try clear c20b0
                              try clear c20b1
                              try clear c21
                              try clear c21b0
                              try clear c21b1
                              try clear p22
                              try clear q22
                              try clear hx22
                              try clear qi22
                              try clear c24
                              try clear p25
                              try clear q25
                              try clear hx25
                              try clear qi25
                              try clear c26
                              try clear c27
                              try clear c27b0
                              try clear c27b1
                              try clear c31
                              try clear c31b0
                              try clear c31b1
                              try clear c32
                              try clear c32b0
                              try clear c32b1
                              try clear c33
                              try clear c33b0
                              try clear c33b1
                              try clear p1
                              try clear p11
                              try clear p2
                              try clear p22
                              try clear p25
                              try clear p6
                              try clear q1
                              try clear q11
                              try clear q22
                              try clear q25
                              try clear q6
                              obtain ⟨kq, x53_29, rfl, HA, HJ29, HO_4, HB⟩ := hcut
                              cases kq with
                              | zero => exact absurd HA.out (by simp [text_Unquote.j2])
                              | succ kj29 =>
                                have H := HA.out
                                clear HA
                                simp only [text_Unquote.j2] at H
                                by_cases c34 : x53_29 = true
                                · subst c34
                                  have H1 : (some (([] : List Int), 66)) = some (r1, r2) := by rw [if_pos rfl] at H; exact H
                                  clear H
                                  have H := H1
                                  clear H1
                                  simp only [Option.some.injEq, Prod.mk.injEq] at H
                                  obtain ⟨rfl, rfl⟩ := H
                                  go_wp2
                                  go_ret2
                                  exact ⟨_, by first | rfl | (simp [errW_none, errW_some] <;> rfl) | (simp only [← hji15]; first | rfl | (simp [errW_none, errW_some] <;> rfl)) | (simp [*, errW_none, errW_some] <;> rfl), by first | exact Kd.R_nil _ _ _ _ _ | exact Kd.N_nil _ _ _ _ _ | exact Kd.V_nil _ _ _ _ _ | exact Kd.Q_nil _ _ _ _ _ | exact Kd.S_nil _ _ _ _ _, by repeat (first | (with_reducible first | exact HB.out | apply below_alloc | apply pw_below_drewN | apply below_drew1) | exact HB.out)⟩
                                · replace c34 := Bool.eq_false_iff.mpr c34
                                  subst c34
                                  have H1 : (if 2 ≤ 4 then (if 4 ≤ (x0_2.size : Int) then ((text_DecodeHex.f kj29 (x0_2.extract 2 4)).bind fun bt221 => (if bt221.2 = 0 then (if 0 < (bt221.1.length : Int) then ((text_itself.f (rd bt221.1 0)).bind fun t226 => (if t226 = true then (some (([] : List Int), 66)) else (if x4_2.length < 140737488355328 then (text_Unquote.l0 kj29 (x0_2.extract 4 x0_2.size) (x4_2 ++ [rd bt221.1 0])) else (none)))) else (none)) else (some (([] : List Int), 66)))) else (none)) else (none)) = some (r1, r2) := by rw [if_neg (show ¬ (false = true) by decide)] at H; exact H
                                  clear H
                                  have H := H1
                                  clear H1
                                  by_cases c35 : 2 ≤ 4
                                  · rw [if_pos c35] at H
                                    have c35b0 := eq_true c35
                                    have c35b1 : decide (2 ≤ 4) = true := decide_eq_true c35
                                    clear c35
                                    by_cases c36 : 4 ≤ (x0_2.size : Int)
                                    · rw [if_pos c36] at H
                                      have c36b0 := eq_true c36
                                      have c36b1 : decide (4 ≤ (x0_2.size : Int)) = true := decide_eq_true c36
                                      clear c36
                                      replace H := Option.bind_eq_some_iff.mp H
                                      obtain ⟨⟨t221, t222⟩, A370, H⟩ := H
                                      replace H : (if t222 = 0 then (if 0 < (t221.length : Int) then ((text_itself.f (rd t221 0)).bind fun t226 => (if t226 = true then (some (([] : List Int), 66)) else (if x4_2.length < 140737488355328 then (text_Unquote.l0 kj29 (x0_2.extract 4 x0_2.size) (x4_2 ++ [rd t221 0])) else (none)))) else (none)) else (some (([] : List Int), 66))) = some (r1, r2) := H
                                      have A37 := Aside0.mk A370
                                      clear A370
                                      by_cases c38 : t222 = 0
                                      · rw [if_pos c38] at H
                                        have c38b0 : (t222 == 0) = true := beq_iff_eq.mpr c38
                                        have c38b1 : (t222 != 0) = false := bne_eq_false_iff_eq.mpr c38
                                        clear c38
                                        by_cases c39 : 0 < (t221.length : Int)
                                        · rw [if_pos c39] at H
                                          have c39b0 : decide (0 < (t221.length : Int)) = true := decide_eq_true c39
                                          have c39b1 : decide (0 < t221.length) = true := decide_eq_true (by omega)
                                          clear c39
                                          replace H := Option.bind_eq_some_iff.mp H
                                          obtain ⟨t226, A400, H⟩ := H
                                          replace H : (if t226 = true then (some (([] : List Int), 66)) else (if x4_2.length < 140737488355328 then (text_Unquote.l0 kj29 (x0_2.extract 4 x0_2.size) (x4_2 ++ [rd t221 0])) else (none))) = some (r1, r2) := H
                                          have A40 := Aside0.mk A400
                                          clear A400
                                          by_cases c41 : t226 = true
                                          · subst c41
                                            have H1 : (some (([] : List Int), 66)) = some (r1, r2) := by rw [if_pos rfl] at H; exact H
                                            clear H
                                            have H := H1
                                            clear H1
                                            simp only [Option.some.injEq, Prod.mk.injEq] at H
                                            obtain ⟨rfl, rfl⟩ := H
                                            go_wp2_with (first | ((with_reducible refine gate_callee (f := 23) rfl ?_); refine goesL_ (some 57) rfl rfl Tryd.func23 (by kernel_rfl) rfl #[.string (x0_2.extract 2 4)] rfl (by (try simp only [List.map_toArray, List.map_cons, List.map_nil]); first | done | rfl | (simp only [List.length_drop, List.length_take]; rfl)) ?_; (with_reducible refine (text_DecodeHex.calls kj29 (x0_2.extract 2 4) t221 t222 _ ?side1 A37.out).mono ?_); (case side1 => exact LayD.below HLayD.out (by repeat (first | (with_reducible first | exact HB.out | apply below_alloc | apply pw_below_drewN | apply below_drew1) | exact HB.out))); rintro e w42 ⟨v223, rfl, ho0, hb⟩; refine ⟨_, rfl, ?_⟩; have n0_ := Aside0.mk (Kd.R_elder' (by (with_reducible repeat (first | apply Kd.R_alloc | apply Kd.R_drewN | apply Kd.R_drew)); exact HO_4.out) (Kd.R_base ho0) hb); have n1_ := Aside0.mk (Kd.R_lower (Kd.R_new' ho0 (Kd.R_lt (by (with_reducible repeat (first | apply Kd.R_alloc | apply Kd.R_drewN | apply Kd.R_drew)); exact HO_4.out))) (below_size (by repeat (first | (with_reducible first | exact HB.out | apply below_alloc | apply pw_below_drewN | apply below_drew1) | exact HB.out)))); have n2_ := Aside0.mk (below_step (by repeat (first | (with_reducible first | exact HB.out | apply below_alloc | apply pw_below_drewN | apply below_drew1) | exact HB.out)) hb); clear HO_4; clear HB; have HO_4 := n0_; have HO224 := n1_; have HB := n2_; clear n0_ n1_ n2_; (try clear hb); (try clear hb2); (try clear hk); (try clear hi); (try clear ho0); obtain ⟨Ao43, co43, eo43⟩ := Kd.R_slice HO224.out; subst eo43; have p225 : 0 ≤ (0 : Int) := (by omega); have q225 : 0 < (t221.length : Int) := of_decide_eq_true (by first | (with_reducible assumption) | assumption); obtain ⟨ad225, e225, hx225_0⟩ := Kd.at_int (Kd.R_reads' HO224.out).2.2 0 p225 q225; cases e225; have qi225 : (0 < t221.length) = True := eq_true (by omega); (try rw [show ((0 : Int)).toNat = 0 from rfl] at hx225_0); (try rw [Addr.add_zero'] at hx225_0); replace p225 := eq_true p225; replace q225 := eq_true q225) | (go_at_call 32; (with_reducible refine (text_itself.calls (rd t221 0) true _ A40.out).mono ?_); rintro e w' ⟨rfl, ⟨nd, rfl⟩⟩))
                                            go_ret2
                                            exact ⟨_, by first | rfl | (simp [errW_none, errW_some] <;> rfl) | (simp only [← hji15]; first | rfl | (simp [errW_none, errW_some] <;> rfl)) | (simp [*, errW_none, errW_some] <;> rfl), by first | exact Kd.R_nil _ _ _ _ _ | exact Kd.N_nil _ _ _ _ _ | exact Kd.V_nil _ _ _ _ _ | exact Kd.Q_nil _ _ _ _ _ | exact Kd.S_nil _ _ _ _ _, by repeat (first | (with_reducible first | exact HB.out | apply below_alloc | apply pw_below_drewN | apply below_drew1) | exact HB.out)⟩
                                          · replace c41 := Bool.eq_false_iff.mpr c41
                                            subst c41
                                            have H1 : (if x4_2.length < 140737488355328 then (text_Unquote.l0 kj29 (x0_2.extract 4 x0_2.size) (x4_2 ++ [rd t221 0])) else (none)) = some (r1, r2) := by rw [if_neg (show ¬ (false = true) by decide)] at H; exact H
                                            clear H
                                            have H := H1
                                            clear H1
                                            by_cases c44 : x4_2.length < 140737488355328
                                            · rw [if_pos c44] at H
                                              have LMc44 := Aside0.mk c44
                                              clear c44
                                              obtain ⟨y228, hy228⟩ : ∃ y_ : List Int, y_ = (x4_2 ++ [rd t221 0]) := ⟨_, rfl⟩
                                              replace H : (text_Unquote.l0 kj29 (x0_2.extract 4 x0_2.size) y228) = some (r1, r2) := by first | (rw [hy228]; with_reducible exact H) | (have H2_ := (Option.bind_some _ _).symm.trans H; rw [hy228]; with_reducible exact H2_) | (have H2_ := (Option.bind_some _ _).symm.trans H; with_reducible exact H2_) | with_reducible exact H | (rw [hy228]; exact H) | exact H
                                              have Ny228 := Aside0.mk hy228
                                              clear hy228
                                              have c45b0 := eq_true (of_decide_eq_true (by first | (with_reducible assumption) | assumption) : 4 ≤ (x0_2.size : Int))
                                              have H' := Aside0.mk H
                                              clear H
                                              try go_wp2_with (first | ((with_reducible refine gate_callee (f := 23) rfl ?_); refine goesL_ (some 57) rfl rfl Tryd.func23 (by kernel_rfl) rfl #[.string (x0_2.extract 2 4)] rfl (by (try simp only [List.map_toArray, List.map_cons, List.map_nil]); first | done | rfl | (simp only [List.length_drop, List.length_take]; rfl)) ?_; (with_reducible refine (text_DecodeHex.calls kj29 (x0_2.extract 2 4) t221 t222 _ ?side1 A37.out).mono ?_); (case side1 => exact LayD.below HLayD.out (by repeat (first | (with_reducible first | exact HB.out | apply below_alloc | apply pw_below_drewN | apply below_drew1) | exact HB.out))); rintro e w46 ⟨v223, rfl, ho0, hb⟩; refine ⟨_, rfl, ?_⟩; have n0_ := Aside0.mk (Kd.R_elder' (by (with_reducible repeat (first | apply Kd.R_alloc | apply Kd.R_drewN | apply Kd.R_drew)); exact HO_4.out) (Kd.R_base ho0) hb); have n1_ := Aside0.mk (Kd.R_lower (Kd.R_new' ho0 (Kd.R_lt (by (with_reducible repeat (first | apply Kd.R_alloc | apply Kd.R_drewN | apply Kd.R_drew)); exact HO_4.out))) (below_size (by repeat (first | (with_reducible first | exact HB.out | apply below_alloc | apply pw_below_drewN | apply below_drew1) | exact HB.out)))); have n2_ := Aside0.mk (below_step (by repeat (first | (with_reducible first | exact HB.out | apply below_alloc | apply pw_below_drewN | apply below_drew1) | exact HB.out)) hb); clear HO_4; clear HB; have HO_4 := n0_; have HO224 := n1_; have HB := n2_; clear n0_ n1_ n2_; (try clear hb); (try clear hb2); (try clear hk); (try clear hi); (try clear ho0); obtain ⟨Ao47, co47, eo47⟩ := Kd.R_slice HO224.out; subst eo47; have p225 : 0 ≤ (0 : Int) := (by omega); have q225 : 0 < (t221.length : Int) := of_decide_eq_true (by first | (with_reducible assumption) | assumption); obtain ⟨ad225, e225, hx225_0⟩ := Kd.at_int (Kd.R_reads' HO224.out).2.2 0 p225 q225; cases e225; have qi225 : (0 < t221.length) = True := eq_true (by omega); (try rw [show ((0 : Int)).toNat = 0 from rfl] at hx225_0); (try rw [Addr.add_zero'] at hx225_0); replace p225 := eq_true p225; replace q225 := eq_true q225) | (go_at_call 32; (with_reducible refine (text_itself.calls (rd t221 0) false _ A40.out).mono ?_); rintro e w' ⟨rfl, ⟨nd, rfl⟩⟩))
                                              (try (rw [drewN_self w46]; generalize hq_ : World.drewN w46 _ = w46; have n0_ : Aside0 (Kd.R (Kd.int .u8) 5 w46 w.heap.size (fun k_ => some k_ ≠ (u4 : Value).ownBlock) (.slice (some ad225) t221.length co47) t221) := ⟨by rw [← hq_]; exact (by (with_reducible repeat (first | apply Kd.R_alloc | apply Kd.R_drewN | apply Kd.R_drew)); exact Kd.R_mono HO224.out (fun _ hk => hk.2))⟩; have n1_ : Aside0 (Kd.R (Kd.int .u8) 5 w46 w.heap.size (fun k_ => some k_ ≠ (.slice (some ad225) t221.length co47 : Value).ownBlock) u4 x4_2) := ⟨by rw [← hq_]; exact (by (with_reducible repeat (first | apply Kd.R_alloc | apply Kd.R_drewN | apply Kd.R_drew)); exact Kd.R_mono HO_4.out (fun _ hk => hk.2))⟩; have n2_ : Aside0 (Below w.heap.size w w46) := ⟨by rw [← hq_]; exact (by repeat (first | (with_reducible first | exact HB.out | apply below_alloc | apply pw_below_drewN | apply below_drew1) | exact HB.out))⟩; clear HO224 HO_4 HB hq_; have HO224 := n0_; have HO_4 := n1_; have HB := n2_; clear n0_ n1_ n2_))
                                              have n0_ := Aside0.mk (Kd.R_drew HO_4.out)
                                              have n1_ := Aside0.mk (Kd.R_drew HO224.out)
                                              have n2_ := Aside0.mk (below_drew1 HB.out)
                                              clear HO_4
                                              clear HO224
                                              clear HB
                                              have HO_4 := n0_
                                              have HO224 := n1_
                                              have HB := n2_
                                              clear n0_ n1_ n2_
                                              have p227 : 0 ≤ (0 : Int) := (by omega)
                                              have q227 : 0 < (t221.length : Int) := of_decide_eq_true (by first | (with_reducible assumption) | assumption)
                                              obtain ⟨ad227, e227, hx227_0⟩ := Kd.at_int (Kd.R_reads' HO224.out).2.2 0 p227 q227
                                              obtain rfl : ad225 = ad227 := (by injection e227)
                                              have qi227 : (0 < t221.length) = True := eq_true (by omega)
                                              (try rw [show ((0 : Int)).toNat = 0 from rfl] at hx227_0)
                                              (try rw [Addr.add_zero'] at hx227_0)
                                              replace p227 := eq_true p227
                                              replace q227 := eq_true q227
                                              refine start_ (n := 10) (S := fun w' => w'.cell? ad225 = some (.int .u8 (rd t221 0))) (ds := [4, 5]) #[false, false, false, false, false, false, false, false, false, false] (by kernel_rfl) rfl rfl (hx227_0) (fun hHeld => ?_); refine with_tabW text_Unquote.tab15 text_Unquote.bits15 (fun HT_ HW_ => ?_)
                                              generalize w46.drew = w48 at HO_4 HO224 HB hx227_0 hHeld ⊢
                                              refine pure_ (i := 0) (N := some 68) (v := ?_) (a' := ?_) #[true, false, false, false, false, false, false, false, false, false] rfl rfl (any_of HT_.out (by kernel_rfl)) (fun _ _ _ h => h) (Or.inl ⟨by rfl, ?_⟩) ?_ ?_
                                              rotate_left
                                              · intro w'
                                                go_simp
                                                with_reducible rfl
                                              rotate_left
                                              · simp only [Act.put, List.setIfInBounds_toArray, List.set_cons_zero, List.set_cons_succ, i64_w, i32_w]
                                                rfl
                                              refine pure_ (i := 1) (N := some 69) (v := ?_) (a' := ?_) #[true, true, false, false, false, false, false, false, false, false] rfl rfl (any_of HT_.out (by kernel_rfl)) (fun _ _ _ h => h) (Or.inl ⟨by rfl, ?_⟩) ?_ ?_
                                              rotate_left
                                              · intro w'
                                                go_simp
                                                with_reducible rfl
                                              rotate_left
                                              · simp only [Act.put, List.setIfInBounds_toArray, List.set_cons_zero, List.set_cons_succ, i64_w, i32_w]
                                                rfl
                                              refine pure_ (i := 2) (N := some 70) (v := ?_) (a' := ?_) #[true, true, true, false, false, false, false, false, false, false] rfl rfl (any_of HT_.out (by kernel_rfl)) (fun _ _ _ h => h) (Or.inl ⟨by rfl, ?_⟩) ?_ ?_
                                              rotate_left
                                              · intro w'
                                                go_simp
                                                with_reducible rfl
                                              rotate_left
                                              · simp only [Act.put, List.setIfInBounds_toArray, List.set_cons_zero, List.set_cons_succ, i64_w, i32_w]
                                                rfl
                                              refine pure_ (i := 6) (N := some 74) (v := ?_) (a' := ?_) #[true, true, true, false, false, false, true, false, false, false] rfl rfl (any_of HT_.out (by kernel_rfl)) (fun _ _ _ h => h) (Or.inl ⟨by rfl, ?_⟩) ?_ ?_
                                              rotate_left
                                              · intro w'
                                                go_simp
                                                with_reducible rfl
                                              rotate_left
                                              · simp only [Act.put, List.setIfInBounds_toArray, List.set_cons_zero, List.set_cons_succ, i64_w, i32_w]
                                                rfl
                                              refine pure_ (i := 7) (N := some 75) (v := ?_) (a' := ?_) #[true, true, true, false, false, false, true, true, false, false] rfl rfl (any_of HT_.out (by kernel_rfl)) (fun _ _ _ h => h) (Or.inl ⟨by rfl, ?_⟩) ?_ ?_
                                              rotate_left
                                              · intro w'
                                                go_simp
                                                with_reducible rfl
                                              rotate_left
                                              · simp only [Act.put, List.setIfInBounds_toArray, List.set_cons_zero, List.set_cons_succ, i64_w, i32_w]
                                                rfl
                                              refine take_ (i := 3) (N := some 71) (v := ?_) (a' := ?_) #[true, true, true, true, false, false, true, true, false, false] rfl rfl (take_ofW HT_.out HW_.out (by kernel_rfl)) (fun _ _ _ h => h) (Or.inl ⟨by rfl, ?_⟩) hHeld ?_ ?_
                                              rotate_left
                                              · intro w' s0
                                                go_simp
                                                with_reducible rfl
                                              rotate_left
                                              · simp only [Act.put, List.setIfInBounds_toArray, List.set_cons_zero, List.set_cons_succ, i64_w, i32_w]
                                                rfl
                                              refine last_ (i := 4) (N := some 72) #[true, true, true, true, true, false, true, true, false, false] rfl rfl (one_of HT_.out (by kernel_rfl)) (by decide) (fun K hK => ?_)
                                              refine value_ (w1 := ?_) (v := ?_) (by rfl) rfl ?_ ?_
                                              rotate_left 2
                                              · go_simp
                                                constructor
                                                · rfl
                                                · rfl
                                              refine hK.out _ _ ?_
                                              clear hK K
                                              refine norm_ (a' := ?_) ?_ ?_
                                              rotate_left
                                              · show Act.put _ (some 72) _ = _
                                                simp only [Act.put, List.setIfInBounds_toArray, List.set_cons_zero, List.set_cons_succ, i64_w, i32_w]
                                                rfl
                                              refine last_ (i := 5) (N := some 73) #[true, true, true, true, true, true, true, true, false, false] rfl rfl (one_of HT_.out (by kernel_rfl)) (by decide) (fun K hK => ?_)
                                              refine Kd.R_append_step (Kd.int .u8) (w0 := w) w.heap.size (by rfl) (.tmp 68) (.tmp 72) 22 5 (.int .u8 0) 1 rfl Tryd.underlying22 info5 rfl (by decide) (by omega) u4 x4_2 (rd t221 0) [.int .u8 (rd t221 0)] (fun k_ => some k_ ≠ (.slice (some ad225) t221.length co47 : Value).ownBlock) (fun _ => False) rfl rfl ?aP (fun _ hk => hk.elim) ?aF ?aO ?aB ?aS ?aL ?_
                                              (case aP => exact rfl)
                                              (case aB => exact (by repeat (first | (with_reducible first | exact HB.out | apply below_alloc | apply pw_below_drewN | apply below_drew1) | exact HB.out)))
                                              (case aF => exact (fun k_ hk => Kd.fresh' (Kd.R_lt (by (with_reducible repeat (first | apply Kd.R_alloc | apply Kd.R_drewN | apply Kd.R_drew)); exact HO224.out)) k_ hk))
                                              (case aO => exact (by (with_reducible repeat (first | apply Kd.R_alloc | apply Kd.R_drewN | apply Kd.R_drew)); first | exact Kd.R_mono HO_4.out (fun _ hk => hk.2) | exact HO_4.out))
                                              (case aS => exact (below_size (by repeat (first | (with_reducible first | exact HB.out | apply below_alloc | apply pw_below_drewN | apply below_drew1) | exact HB.out))))
                                              (case aL => have := LMc44.out; omega)
                                              intro v229 w49 ho hb hg hat
                                              rw [← Ny228.out] at ho
                                              have n0_ := Aside0.mk (Kd.R_after (ok := (fun _ => True)) (by (with_reducible repeat (first | apply Kd.R_alloc | apply Kd.R_drewN | apply Kd.R_drew)); first | exact HO224.out | exact Kd.R_mono HO224.out (fun _ hk => ⟨trivial, hk⟩)) hg hat)
                                              have n1_ := Aside0.mk (hb)
                                              have n2_ := Aside0.mk (ho)
                                              clear HO224
                                              clear HB
                                              clear HO_4
                                              have HO224 := n0_
                                              have HB := n1_
                                              have HO230 := n2_
                                              clear n0_ n1_ n2_
                                              clear ho hb hg hat
                                              refine hK.out _ _ ?_
                                              clear hK K
                                              refine norm_ (a' := ?_) ?_ ?_
                                              rotate_left
                                              · show Act.put _ (some 73) _ = _
                                                simp only [Act.put, List.setIfInBounds_toArray, List.set_cons_zero, List.set_cons_succ, i64_w, i32_w]
                                                rfl
                                              refine pure_ (i := 8) (N := some 4) (v := ?_) (a' := ?_) #[true, true, true, true, true, true, true, true, true, false] rfl rfl (any_of HT_.out (by kernel_rfl)) (fun _ _ _ h => h) (Or.inl ⟨by rfl, ?_⟩) ?_ ?_
                                              rotate_left
                                              · intro w'
                                                go_simp
                                                with_reducible rfl
                                              rotate_left
                                              · simp only [Act.put, List.setIfInBounds_toArray, List.set_cons_zero, List.set_cons_succ, i64_w, i32_w]
                                                rfl
                                              refine pure_ (i := 9) (N := some 0) (v := ?_) (a' := ?_) #[true, true, true, true, true, true, true, true, true, true] rfl rfl (any_of HT_.out (by kernel_rfl)) (fun _ _ _ h => h) (Or.inl ⟨by rfl, ?_⟩) ?_ ?_
                                              rotate_left
                                              · intro w'
                                                go_simp
                                                with_reducible rfl
                                              rotate_left
                                              · simp only [Act.put, List.setIfInBounds_toArray, List.set_cons_zero, List.set_cons_succ, i64_w, i32_w]
                                                rfl
                                              refine done_ (done_of HT_.out (by kernel_rfl)) ?_
                                              try go_wp2
                                              go_roundg kj29
                                              case measure => have := HJ2.out; have := HK2.out; have := HJ29.out; omega
                                              case rel => exact ⟨(x0_2.extract 4 x0_2.size), (y228), (by first | rfl | (simp; done) | (simp [*]; done)), H', ⟨by have := HJ2.out; have := HK2.out; have := HJ29.out; omega⟩, ⟨by (with_reducible repeat (first | apply Kd.R_alloc | apply Kd.R_drewN | apply Kd.R_drew)); exact Kd.R_mono HO230.out (fun _ hk => trivial)⟩, ⟨by repeat (first | (with_reducible first | exact HB.out | apply below_alloc | apply pw_below_drewN | apply below_drew1) | exact HB.out)⟩⟩
                                            · rw [if_neg c44] at H
                                              exact absurd H (by simp)
                                        · rw [if_neg c39] at H
                                          exact absurd H (by simp)
                                      · rw [if_neg c38] at H
                                        have c38b0 : (t222 == 0) = false := beq_eq_false_iff_ne.mpr c38
                                        have c38b1 : (t222 != 0) = true := bne_iff_ne.mpr c38
                                        simp only [Option.some.injEq, Prod.mk.injEq] at H
                                        obtain ⟨rfl, rfl⟩ := H
                                        go_wp2_with (first | ((with_reducible refine gate_callee (f := 23) rfl ?_); refine goesL_ (some 57) rfl rfl Tryd.func23 (by kernel_rfl) rfl #[.string (x0_2.extract 2 4)] rfl (by (try simp only [List.map_toArray, List.map_cons, List.map_nil]); first | done | rfl | (simp only [List.length_drop, List.length_take]; rfl)) ?_; (with_reducible refine (text_DecodeHex.calls kj29 (x0_2.extract 2 4) t221 t222 _ ?side1 A37.out).mono ?_); (case side1 => exact LayD.below HLayD.out (by repeat (first | (with_reducible first | exact HB.out | apply below_alloc | apply pw_below_drewN | apply below_drew1) | exact HB.out))); rintro e w50 ⟨v223, rfl, ho0, hb⟩; refine ⟨_, rfl, ?_⟩; have n0_ := Aside0.mk (Kd.R_elder' (by (with_reducible repeat (first | apply Kd.R_alloc | apply Kd.R_drewN | apply Kd.R_drew)); exact HO_4.out) (Kd.R_base ho0) hb); have n1_ := Aside0.mk (Kd.R_lower (Kd.R_new' ho0 (Kd.R_lt (by (with_reducible repeat (first | apply Kd.R_alloc | apply Kd.R_drewN | apply Kd.R_drew)); exact HO_4.out))) (below_size (by repeat (first | (with_reducible first | exact HB.out | apply below_alloc | apply pw_below_drewN | apply below_drew1) | exact HB.out)))); have n2_ := Aside0.mk (below_step (by repeat (first | (with_reducible first | exact HB.out | apply below_alloc | apply pw_below_drewN | apply below_drew1) | exact HB.out)) hb); clear HO_4; clear HB; have HO_4 := n0_; have HO224 := n1_; have HB := n2_; clear n0_ n1_ n2_; (try clear hb); (try clear hb2); (try clear hk); (try clear hi); (try clear ho0)))
                                        go_ret2
                                        exact ⟨_, by first | rfl | (simp [errW_none, errW_some] <;> rfl) | (simp only [← hji15]; first | rfl | (simp [errW_none, errW_some] <;> rfl)) | (simp [*, errW_none, errW_some] <;> rfl), by first | exact Kd.R_nil _ _ _ _ _ | exact Kd.N_nil _ _ _ _ _ | exact Kd.V_nil _ _ _ _ _ | exact Kd.Q_nil _ _ _ _ _ | exact Kd.S_nil _ _ _ _ _, by repeat (first | (with_reducible first | exact HB.out | apply below_alloc | apply pw_below_drewN | apply below_drew1) | exact HB.out)⟩
                                    · rw [if_neg c36] at H
                                      exact absurd H (by simp)
                                  · rw [if_neg c35] at H
                                    exact absurd H (by simp)
                        · rw [if_neg c21] at H
                          exact absurd H (by simp)
                · rw [if_neg c17] at H
                  exact absurd H (by simp)
              · rw [if_neg c16] at H
                exact absurd H (by simp)
            · rw [if_neg c14] at H
              exact absurd H (by simp)
          · rw [if_neg c13] at H
            exact absurd H (by simp)
end Go.Proofs.YtljinjgamgmocaaDoor.G
end
section
namespace Go.Proofs.YtljinjgamgmocaaDoor.B
open Go.RowKit Go.Proofs.YtljinjgamgmocaaDoorW.PrintWords Go.Proofs.YtljinjgamgmocaaDoor.Q Go.Proofs.YtljinjgamgmocaaDoor.G Go.Proofs.YtljinjgamgmocaaDoor.Pure Go.Proofs.YtljinjgamgmocaaDoor.J
set_option linter.unusedVariables false
set_option linter.unusedSimpArgs false
def tx : Nat → Option Ty
  | 25 => some (.int .i64)
  | t => J.ty t
theorem txs : Tys Tryd.prog tx := by
  intro t k h
  unfold tx at h
  split at h
  · cases h; exact Tryd.underlying25
  · exact J.tys t k h
theorem one1 : (Tryd.prog.info? 3).map (·.size) = some 1 := by kernel_rfl
theorem one2 : (Tryd.prog.info? 5).map (·.size) = some 1 := by kernel_rfl
theorem one3 : (Tryd.prog.info? 4).map (·.size) = some 1 := by kernel_rfl
theorem one4 : (Tryd.prog.info? 9).map (·.size) = some 1 := by kernel_rfl
theorem one5 : (Tryd.prog.info? 22).map (·.size) = some 1 := by kernel_rfl
theorem one6 : (Tryd.prog.info? 25).map (·.size) = some 1 := by kernel_rfl
theorem ones : Ones Tryd.prog tx := by
  intro t k h
  unfold tx at h
  split at h
  · exact one6
  · unfold J.ty at h
    split at h
    · exact one1
    · exact one2
    · exact one3
    · exact one4
    · exact one5
    · cases h
abbrev zM : List Value := [.slice none 0 0, .slice none 0 0]
def rt : Nat → Option (List Value)
  | 39 => some [.slice none 0 0, .slice none 0 0]
  | _ => none
theorem recOkM : RecOk Tryd.prog 39 [.slice none 0 0, .slice none 0 0] := ⟨⟨_, Tryd.underlying39, rfl⟩, by kernel_rfl⟩
theorem recs : Recs Tryd.prog rt := by
  intro t zs h
  unfold rt at h
  split at h
  · cases h; exact recOkM
  · cases h
def fo : Nat → Nat → Option Nat
  | 39, 0 => some 0
  | 39, 1 => some 1
  | _, _ => none
theorem fldM0 : fldB Tryd.prog 39 0 = some 0 := by kernel_rfl
theorem fldM1 : fldB Tryd.prog 39 1 = some 1 := by kernel_rfl
theorem flds : Flds Tryd.prog fo := by
  intro t k o h
  unfold fo at h
  split at h
  · cases h; exact fldM0
  · cases h; exact fldM1
  · cases h
abbrev L := List Int
abbrev rowB (v : Value) (x : L) : RowD := ⟨v, 5, 1, x.length, nums .u8 x⟩
abbrev rowN (A : Option Addr) (n c : Nat) (x : L) : RowD := ⟨.slice A n c, 5, 1, n, nums .u8 x⟩
theorem row_at {s : Bool} {w0 w : World} {l : List Ent} {r : List RowD} (H : HpS s w0 w l r) (k : Nat) {A : Option Addr} {n c sz : Nat} {e : TypeId} {cs : List Value} (hk : r[k]? = some ⟨.slice A n c, e, sz, n, cs⟩) : Rd w A cs := by
  obtain ⟨A', c', e, _, hrd, _⟩ := H.rd k hk
  simp only [Value.slice.injEq] at e
  rw [e.1]
  exact hrd
theorem row_addr {s : Bool} {w0 w : World} {l : List Ent} {r : List RowD} (H : HpS s w0 w l r) (k : Nat) {A : Option Addr} {n c sz : Nat} {e : TypeId} {cs : List Value} (hk : r[k]? = some ⟨.slice A n c, e, sz, n, cs⟩) (hn : 0 < n) : ∃ g, A = some ⟨g, 0, none⟩ := by
  obtain ⟨_, h | ⟨g, cap, cur, h, _⟩⟩ := H.row k _ hk
  · have h2 : n = 0 := h.2
    omega
  · simp only [Value.slice.injEq] at h
    exact ⟨g, h.1⟩
theorem noL {s : Bool} {w0 w : World} {l : List Ent} {r : List RowD} (H : HpS s w0 w l r) : HpS s w0 w [] r := ⟨H.B, by simp, H.row, by simp, H.ndr, by simp, H.dr⟩
theorem pre_rd {w : World} {A : Option Addr} {a b : List Value} (h : Rd w A (a ++ b)) : Rd w A a := ⟨fun e => (List.append_eq_nil_iff.1 (h.1 e)).1, fun ad e i v hv => h.2 ad e i v (by rw [List.getElem?_append_left (List.getElem?_eq_some_iff.1 hv).1, hv])⟩
theorem cut_zero {ad : Addr} {c : Nat} (h : 0 < c) : cutA (some ad) c 0 1 = some ad := by
  unfold cutA
  simp [Addr.add]
theorem nums_one (k : IntKind) (x : L) : (nums k x).all (·.oneCell') = true := by
  unfold nums
  rw [List.all_map, List.all_eq_true]
  intro y _
  rfl
theorem nums_app (k : IntKind) (x y : L) : nums k (x ++ y) = nums k x ++ nums k y := by simp [nums]
theorem nums_at {k : IntKind} {x : L} {i : Nat} {y : Int} (h : x[i]? = some y) : (nums k x)[i * 1]? = some (.int k y) := by
  rw [Nat.mul_one]
  simp [nums, h]
theorem rdB_cell {w : World} {a : Addr} {x : L} {y : Int} {i : Nat} (h : Rd w (some a) (nums .u8 x)) (hy : x[i]? = some y) : w.cell? (a.add (i * 1)) = some (.int .u8 y) := h.2 a rfl _ _ (nums_at hy)
theorem rdB_some {w : World} {A : Option Addr} {x : L} {y : Int} {i : Nat} (h : Rd w A (nums .u8 x)) (hy : x[i]? = some y) : ∃ a, A = some a := by
  have hc := nums_at (k := .u8) hy
  cases A with
  | none =>
    have h1 := h.1 rfl
    rw [h1] at hc
    simp at hc
  | some a => exact ⟨a, rfl⟩
theorem fill1 (a : Int) : Instr.fill (fun i => some (i * 1, 1)) ((Array.range (1 * 1)).map ((Value.int .u8 0).cells[· % (Value.int .u8 0).cells.size]!)) [(0, .int .u8 a)] = some (nums .u8 [a]).toArray := by kernel_rfl
def gotL (n : Nat) (b : L) : L := if 1048576 < n then [] else b
def gotE (n : Nat) : Int := if 1048576 < n then 2 else 0
def ToR (w : World) (n : Nat) (b : L) (e : Ending) (w' : World) : Prop := ∃ A c, e = .returned (.tuple #[.slice A (gotL n b).length c, .int .i64 (gotE n)]) ∧ Hp w w' [] [rowB (.slice A (gotL n b).length c) (gotL n b)]
theorem to_of {w w' : World} {v : Value} {n : Nat} {b r1 : L} {r2 : Int} (h1 : r1 = gotL n b) (h2 : r2 = gotE n) (hR : Kd.R (Kd.int .u8) 5 w' w.heap.size (fun _ => True) v r1) (hB : Below w.heap.size w w') : ToR w n b (.returned (.tuple #[v, .int .i64 r2])) w' := by
  subst h1 h2
  have ho : w'.ownsRow w.heap.size 5 1 v (gotL n b).length (nums .u8 (gotL n b)) := Kd.own_of_R hR
  obtain ⟨A, c, rfl⟩ := own_slice ho
  exact ⟨A, c, rfl, Hp.ofOwn ho hB⟩
theorem got_is {P : (L → L)} {n : Nat} {b : L} {r : L × Int} (hn : n = (P b).length) (h : (1048576 < n ∧ r = ([], 2)) ∨ (n ≤ 1048576 ∧ r = (b, 0))) : r.1 = gotL n b ∧ r.2 = gotE n := by
  unfold gotL gotE
  rcases h with ⟨h1, rfl⟩ | ⟨h1, rfl⟩
  · rw [if_pos h1, if_pos h1]; exact ⟨rfl, rfl⟩
  · rw [if_neg (by omega), if_neg (by omega)]; exact ⟨rfl, rfl⟩
theorem un64_c {b : L} (hb : Bytes b) (hl : b.length ≤ 3000000) (w : World) : Calls Tryd.prog 20 #[.string (strOfNums (enc64 b))] w (ToR w (enc64 b).length b) := by
  have he := enc64_bytes hb
  have hs := sizeS he
  obtain ⟨⟨r1, r2⟩, hr, his⟩ := dec64_f (strOfNums (enc64 b)) ((strOfNums (enc64 b)).size + 9) (Nat.le_refl _)
  have hg := got_is (P := enc64) (b := b) (r := (r1, r2)) rfl (by
    unfold b64Is at his
    rw [hs, show bytesOf (strOfNums (enc64 b)) = enc64 b from blS he] at his
    rcases his with h | ⟨h1, ⟨l, bl, hl2, h3⟩ | ⟨h2, _⟩⟩
    · exact .inl h
    · exact .inr ⟨h1, by rw [h3, enc64_inj bl hb hl2]⟩
    · exact absurd rfl (h2 b hb))
  exact (text_DecodeBase64.calls _ _ r1 r2 w hr).mono fun e w' h => by
    obtain ⟨v, rfl, hR, hB⟩ := h
    exact to_of hg.1 hg.2 hR hB
theorem unhex_c {b : L} (hb : Bytes b) (hl : b.length ≤ 3000000) {w : World} (hL : LayD w) : Calls Tryd.prog 23 #[.string (strOfNums (hexOf b))] w (ToR w (hexOf b).length b) := by
  have he := hexOf_bytes hb
  have hs := sizeS he
  have hr := (decHex (strOfNums (hexOf b)) 1048701 (by decide)).1
  have hg := got_is (P := hexOf) (b := b) (r := hexTold (strOfNums (hexOf b))) rfl (by
    unfold hexTold
    rw [hs, show bytesOf (strOfNums (hexOf b)) = hexOf b from blS he, unhex_hex hb]
    by_cases h : (hexOf b).length > 1048576
    · rw [if_pos h]; exact .inl ⟨h, rfl⟩
    · rw [if_neg h]; exact .inr ⟨by omega, rfl⟩)
  generalize hexTold (strOfNums (hexOf b)) = r at hr hg
  obtain ⟨r1, r2⟩ := r
  exact (text_DecodeHex.calls _ _ r1 r2 w hL hr).mono fun e w' h => by
    obtain ⟨v, rfl, hR, hB⟩ := h
    exact to_of hg.1 hg.2 hR hB
theorem unq_c {b : L} (hb : Bytes b) (hl : b.length ≤ 3000000) {w : World} (hL : LayD w) : Calls Tryd.prog 24 #[.string (strOfNums (quoteOf b))] w (ToR w (quoteOf b).length b) := by
  have he := quoteOf_bytes hb
  have hs := sizeS he
  obtain ⟨⟨r1, r2⟩, hr, his⟩ := unq_f (strOfNums (quoteOf b)) 3145900 (Nat.le_refl _)
  have hg := got_is (P := quoteOf) (b := b) (r := (r1, r2)) rfl (by
    unfold quoIs at his
    rw [hs, show bytesOf (strOfNums (quoteOf b)) = quoteOf b from blS he] at his
    rcases his with h | ⟨h1, ⟨l, bl, hl2, h3⟩ | ⟨h2, _⟩⟩
    · exact .inl h
    · exact .inr ⟨h1, by rw [h3, quoteOf_inj bl hb hl2]⟩
    · exact absurd rfl (h2 b hb))
  exact (text_Unquote.calls _ _ r1 r2 w hL hr).mono fun e w' h => by
    obtain ⟨v, rfl, hR, hB⟩ := h
    exact to_of hg.1 hg.2 hR hB
end Go.Proofs.YtljinjgamgmocaaDoor.B
end
section
namespace Go.Proofs.YtljinjgamgmocaaDoor.B
open Go.RowKit Go.Proofs.YtljinjgamgmocaaDoorW.PrintWords Go.Proofs.YtljinjgamgmocaaDoor.Q Go.Proofs.YtljinjgamgmocaaDoor.G Go.Proofs.YtljinjgamgmocaaDoor.Pure Go.Proofs.YtljinjgamgmocaaDoor.J
set_option linter.unusedVariables false
set_option linter.unusedSimpArgs false
abbrev wide (b : L) (j : Nat) : L := b ++ List.replicate j 165
theorem wide_at {b : L} {i m : Nat} (h : b.length ≤ i) (h2 : i < b.length + m) : (wide b m)[i]? = some 165 := by
  unfold wide
  rw [List.getElem?_append_right h, List.getElem?_replicate, if_pos (by omega)]
theorem wide_snoc (b : L) (j : Nat) : nums .u8 (wide b (j + 1)) = nums .u8 (wide b j) ++ [.int .u8 165] := by
  unfold wide
  rw [List.replicate_succ', ← List.append_assoc, nums_app]
  rfl
set_option maxHeartbeats 4000000 in
theorem lent_c {w : World} {A : Option Addr} {c : Nat} {b : L} (hr : Rd w A (nums .u8 b)) (hl : b.length ≤ 2000000) :
    Calls Tryd.prog 18 #[.slice A b.length c] w fun e w' => ∃ g c', e = .returned (.slice (some ⟨g, 0, none⟩) (b.length + 400) c') ∧ Hp w w' [] [rowN (some ⟨g, 0, none⟩) (b.length + 400) c' (wide b 400)] := by
  refine enter (args := [.slice A b.length c]) Tryd.func18 rfl Tryd.ntmps18 rfl ?_
  have H := (Hp.nil w).nilRow 5 1
  repeat' (first | (with_reducible first | refine p_tn ?_ | refine wp_seq ?_ | refine w_reg ?_ | refine l_nil ?_) | ((with_reducible refine g_on ?_); (first | ((with_reducible refine g_mv ?_); refine l_p txs rfl rfl ?_) | ((with_reducible refine g_as ?_); refine l_p txs rfl rfl ?_))))
  (with_reducible refine is_l ?_); refine h_app H 0 rfl info_u8 Tryd.underlying22 rfl rfl rfl rfl (hr.below H.B) (by simp [nums]) (nums_one _ _) (by show (0 + b.length) * 1 ≤ _; omega) (fun v w_ hv H => ?_)
  obtain ⟨A', c', hv⟩ := hv
  have hv : v = .slice A' (b.length + 0) c' := by rw [hv]; show Value.slice A' (0 + b.length) c' = _; rw [Nat.zero_add]; rfl
  subst hv
  have H : Hp w w_ [] [rowN A' (b.length + 0) c' (wide b 0)] := by
    have h : Hp w w_ [] [⟨.slice A' (b.length + 0) c', 5, 1, 0 + b.length, [] ++ nums .u8 b⟩] := H
    rw [Nat.zero_add] at h
    have e : wide b 0 = b := by simp [wide]
    show Hp w w_ [] [⟨.slice A' (b.length + 0) c', 5, 1, b.length, nums .u8 (wide b 0)⟩]
    rw [e]
    exact h
  repeat' (first | (with_reducible first | refine p_tn ?_ | refine wp_seq ?_ | refine wp_block ?_ | refine w_reg ?_ | refine l_nil ?_) | ((with_reducible refine g_on ?_); ((with_reducible refine g_as ?_); refine l_p txs rfl rfl ?_)))
  refine w_loop (σ := Nat × Option Addr × Nat) (S := fun s => [(3, .slice s.2.1 (b.length + s.1) s.2.2), (4, .int .i64 (s.1 : Int))]) (J := fun s w' => Hp w w' [] [rowN s.2.1 (b.length + s.1) s.2.2 (wide b s.1)] ∧ s.1 ≤ 400) (μ := fun s => 400 - s.1) (0, A', c') ⟨rfl, rfl, trivial⟩ ⟨H, Nat.zero_le _⟩ ?_
  clear H
  rintro ⟨j, A2, c2⟩ f w_ ⟨H, hj⟩
  simp only at H hj ⊢
  repeat' (first | (with_reducible first | refine wp_seq ?_ | refine w_reg ?_) | ((with_reducible refine g_on ?_); ((with_reducible refine g_mv ?_); refine l_p txs rfl rfl ?_)))
  (with_reducible refine is_l ?_); refine l_t txs rfl rfl (fun hlt => ?_) (fun hge => ?_)
  · repeat' (first | (with_reducible first | refine p_tn ?_ | refine wp_seq ?_ | refine wp_block ?_ | refine w_reg ?_) | (with_reducible (refine is_if ?_; (refine w_ift rfl ?_))) | (with_reducible first | refine wp_skip ?_ | refine l_nil ?_) | ((with_reducible refine g_on ?_); ((with_reducible refine g_mv ?_); refine l_p txs rfl rfl ?_)))
    (with_reducible refine is_l ?_); refine h_bs H info_u8 Tryd.underlying22 (by decide) (by decide) rfl rfl (fill1 _) (fun g_ w_ H => ?_)
    (with_reducible refine is_l ?_); refine h_app H 0 rfl info_u8 Tryd.underlying22 rfl rfl rfl rfl (H.cellRd 0 rfl) rfl rfl (by show (b.length + j + 1) * 1 ≤ _; omega) (fun v w_ hv H => ?_)
    obtain ⟨A3, c3, hv⟩ := hv
    have hv : v = .slice A3 (b.length + (j + 1)) c3 := hv
    subst hv
    have H : Hp w w_ [] [rowN A3 (b.length + (j + 1)) c3 (wide b (j + 1))] := by
      have H := noL H
      show Hp w w_ [] [⟨.slice A3 (b.length + (j + 1)) c3, 5, 1, b.length + (j + 1), nums .u8 (wide b (j + 1))⟩]
      rw [wide_snoc]
      exact H
    repeat' (first | (with_reducible first | refine p_tn ?_ | refine p_bn ?_ | refine w_reg ?_ | refine l_nil ?_) | ((with_reducible refine g_on ?_); (first | ((with_reducible refine g_mv ?_); refine l_p txs rfl rfl ?_) | ((with_reducible refine g_as ?_); refine l_p txs rfl rfl ?_) | ((with_reducible refine g_bi ?_); (refine l_a txs rfl rfl (by first | exact in_i64 (by omega) (by omega) | exact in_u8 (by omega) (by omega) | exact in_u64 (by omega) (by omega) | exact in_i32 (by omega) (by omega)) ?_)))))
    exact ⟨(j + 1, A3, c3), _, rfl, ⟨rfl, rfl, trivial⟩, ⟨H, by show j + 1 ≤ _; omega⟩, by show _ - (j + 1) < _ - j; omega⟩
  · obtain rfl : j = 400 := by omega
    obtain ⟨g, rfl⟩ := row_addr H 0 rfl (by omega)
    repeat' (first | (with_reducible first | refine p_tn ?_ | refine p_tx ?_ | refine x_hit ?_ | refine wp_seq ?_ | refine w_reg ?_) | (with_reducible (refine is_if ?_; (refine w_iff rfl ?_))) | (with_reducible first | refine wp_exit ?_ | refine wp_ret ?_ | refine l_nil ?_) | ((with_reducible refine g_on ?_); (first | ((with_reducible refine g_mv ?_); refine l_p txs rfl rfl ?_) | ((with_reducible refine g_as ?_); refine l_p txs rfl rfl ?_))))
    refine end1 rfl rfl ?_
    exact ⟨g, c2, rfl, H⟩
set_option maxHeartbeats 4000000 in
theorem untouched_c {w : World} {g c : Nat} {b : L} (hb : Bytes b) (hr : Rd w (some ⟨g, 0, none⟩) (nums .u8 (wide b 400))) (hc : b.length + 400 ≤ c) (hl : b.length ≤ 2000000) :
    Calls Tryd.prog 19 #[.slice (some ⟨g, 0, none⟩) (b.length + 400) c, .string (strOfNums b)] w fun e w' => e = .returned (.bool true) ∧ w' = w := by
  have hs := sizeS hb
  have hr1 : Rd w (some ⟨g, 0, none⟩) (nums .u8 b) := pre_rd (nums_app .u8 b _ ▸ hr)
  refine enter (args := [.slice (some ⟨g, 0, none⟩) (b.length + 400) c, .string (strOfNums b)]) Tryd.func19 rfl Tryd.ntmps19 rfl ?_
  have H := Hp.nil w
  repeat' (first | (with_reducible first | refine p_tn ?_ | refine wp_seq ?_ | refine wp_block ?_ | refine w_reg ?_ | refine l_nil ?_) | ((with_reducible refine g_on ?_); (first | ((with_reducible refine g_mv ?_); refine l_p txs rfl rfl ?_) | ((with_reducible refine g_as ?_); refine l_p txs rfl rfl ?_) | ((with_reducible refine g_cl ?_); refine l_p txs rfl rfl ?_))))
  refine w_loop (σ := Nat) (S := fun s => [(0, .slice (some ⟨g, 0, none⟩) (b.length + 400) c), (1, .string (strOfNums b)), (5, .int .i64 ((b.length + s : Nat) : Int))]) (J := fun s w' => w' = w ∧ s ≤ 400) (μ := fun s => 400 - s) 0 ⟨rfl, rfl, by rw [← hs]; rfl, trivial⟩ ⟨rfl, Nat.zero_le _⟩ ?_
  rintro j f w_ ⟨rfl, hj⟩
  repeat' (first | (with_reducible first | refine wp_seq ?_ | refine w_reg ?_) | ((with_reducible refine g_on ?_); (first | ((with_reducible refine g_mv ?_); refine l_p txs rfl rfl ?_) | ((with_reducible refine g_cl ?_); refine l_p txs rfl rfl ?_))))
  (with_reducible refine is_l ?_); refine l_t txs rfl rfl (fun hlt => ?_) (fun hge => ?_)
  · have hx := wide_at (b := b) (i := b.length + j) (m := 400) (by omega) (by omega)
    repeat' (first | (with_reducible first | refine p_tn ?_ | refine wp_seq ?_ | refine wp_block ?_ | refine w_reg ?_) | (with_reducible (refine is_if ?_; (refine w_ift rfl ?_))) | (with_reducible first | refine wp_skip ?_ | refine l_nil ?_) | ((with_reducible refine g_on ?_); (first | ((with_reducible refine g_mv ?_); refine l_p txs rfl rfl ?_) | ((with_reducible refine g_ia ?_); refine l_ia txs rfl rfl (by first | omega | assumption | decide) (by first | omega | assumption | decide) ?_))))
    (with_reducible refine is_l ?_); refine l_ld txs rfl rfl (by rw [Int.toNat_natCast]; exact rdB_cell hr hx) ?_
    skip
    (with_reducible refine is_l ?_); refine l_t txs rfl rfl (fun h => absurd rfl h) (fun _ => ?_)
    repeat' (first | (with_reducible first | refine p_tn ?_ | refine p_bn ?_ | refine w_reg ?_) | (with_reducible (refine is_if ?_; (refine w_iff rfl ?_))) | (with_reducible first | refine wp_skip ?_ | refine l_nil ?_) | ((with_reducible refine g_on ?_); (first | ((with_reducible refine g_mv ?_); refine l_p txs rfl rfl ?_) | ((with_reducible refine g_as ?_); refine l_p txs rfl rfl ?_) | ((with_reducible refine g_bi ?_); (refine l_a txs rfl rfl (by first | exact in_i64 (by omega) (by omega) | exact in_u8 (by omega) (by omega) | exact in_u64 (by omega) (by omega) | exact in_i32 (by omega) (by omega)) ?_)))))
    exact ⟨j + 1, _, rfl, ⟨rfl, rfl, rfl, trivial⟩, ⟨rfl, by omega⟩, by omega⟩
  · repeat' (first | (with_reducible first | refine p_tn ?_ | refine p_tx ?_ | refine x_hit ?_ | refine wp_seq ?_ | refine w_reg ?_) | (with_reducible (refine is_if ?_; (refine w_iff rfl ?_))) | (with_reducible first | refine wp_exit ?_ | refine l_nil ?_) | ((with_reducible refine g_on ?_); (first | ((with_reducible refine g_mv ?_); refine l_p txs rfl rfl ?_) | ((with_reducible refine g_cl ?_); refine l_p txs rfl rfl ?_))))
    (with_reducible refine is_l ?_); refine l_cutN txs 0 b.length rfl (by rw [← hs]; rfl) (by omega) (by omega) ?_
    rw [cut_zero (by omega)]
    skip
    (with_reducible refine is_l ?_); refine l_text rfl rfl Tryd.underlying22 Tryd.underlying5 Tryd.underlying9 (reads_of_rd (k := .u8) hr1 (by omega)) ?_
    repeat' ((with_reducible refine g_on ?_); ((with_reducible refine g_mv ?_); refine l_p txs rfl rfl ?_))
    (with_reducible refine is_l ?_); refine l_t txs rfl rfl (fun _ => ?_) (fun h => absurd rfl h)
    repeat' (first | (with_reducible first | refine p_tn ?_ | refine wp_ret ?_ | refine l_nil ?_) | ((with_reducible refine g_on ?_); ((with_reducible refine g_as ?_); refine l_p txs rfl rfl ?_)))
    refine end1 rfl rfl ?_
    exact ⟨rfl, rfl⟩
set_option maxHeartbeats 4000000 in
theorem back_c {w : World} {A : Option Addr} {c n : Nat} {b : L} (hr : Rd w A (nums .u8 (gotL n b))) (hl : b.length ≤ 2000000) :
    Calls Tryd.prog 21 #[.int .i64 (n : Int), .slice A (gotL n b).length c, .int .i64 (gotE n), .string (strOfNums b)] w fun e w' => e = .returned (.bool true) ∧ w' = w := by
  refine enter (args := [.int .i64 (n : Int), .slice A (gotL n b).length c, .int .i64 (gotE n), .string (strOfNums b)]) Tryd.func21 rfl Tryd.ntmps21 rfl ?_
  have H := Hp.nil w
  repeat' (first | (with_reducible first | refine p_tn ?_ | refine wp_seq ?_ | refine w_reg ?_ | refine l_nil ?_) | ((with_reducible refine g_on ?_); (first | ((with_reducible refine g_mv ?_); refine l_p txs rfl rfl ?_) | ((with_reducible refine g_as ?_); refine l_p txs rfl rfl ?_))))
  (with_reducible refine is_l ?_); refine l_t txs rfl rfl (fun h1 => ?_) (fun h1 => ?_)
  · have e1 : gotL n b = [] := by unfold gotL; rw [if_pos (by omega)]
    have e2 : gotE n = 2 := by unfold gotE; rw [if_pos (by omega)]
    rw [e1, e2]
    repeat' (first | (with_reducible first | refine p_tn ?_ | refine wp_seq ?_ | refine w_reg ?_) | (with_reducible (refine is_if ?_; (refine w_ift rfl ?_))) | (with_reducible refine l_nil ?_) | ((with_reducible refine g_on ?_); ((with_reducible refine g_mv ?_); refine l_p txs rfl rfl ?_)))
    (with_reducible refine is_l ?_); refine l_t txs rfl rfl (fun _ => ?_) (fun h => absurd rfl h)
    repeat' (first | ((with_reducible refine g_on ?_); ((with_reducible refine g_mv ?_); refine l_p txs rfl rfl ?_)) | ((with_reducible refine g_if ?_); (first | ((with_reducible refine g_mv ?_); refine l_p txs rfl rfl ?_) | ((with_reducible refine g_cl ?_); refine l_p txs rfl rfl ?_))))
    (with_reducible refine is_l ?_); refine l_t txs rfl rfl (fun _ => ?_) (fun h => absurd rfl h)
    repeat' (first | (with_reducible first | refine p_tn ?_ | refine p_tr ?_ | refine wp_ret ?_ | refine l_nil ?_) | ((with_reducible refine g_on ?_); (first | ((with_reducible refine g_as ?_); refine l_p txs rfl rfl ?_) | ((with_reducible refine g_pk ?_); refine l_p txs rfl rfl ?_))))
    refine end1 rfl rfl ?_
    exact ⟨rfl, rfl⟩
  · have e1 : gotL n b = b := by unfold gotL; rw [if_neg (by omega)]
    have e2 : gotE n = 0 := by unfold gotE; rw [if_neg (by omega)]
    rw [e1] at hr ⊢
    rw [e2]
    repeat' (first | (with_reducible first | refine p_tn ?_ | refine wp_seq ?_ | refine w_reg ?_) | (with_reducible (refine is_if ?_; (refine w_iff rfl ?_))) | (with_reducible first | refine wp_skip ?_ | refine l_nil ?_) | ((with_reducible refine g_on ?_); ((with_reducible refine g_mv ?_); refine l_p txs rfl rfl ?_)))
    (with_reducible refine is_l ?_); refine l_t txs rfl rfl (fun _ => ?_) (fun h => absurd rfl h)
    repeat' (first | ((with_reducible refine g_on ?_); ((with_reducible refine g_mv ?_); refine l_p txs rfl rfl ?_)) | ((with_reducible refine g_if ?_); ((with_reducible refine g_mv ?_); refine l_p txs rfl rfl ?_)))
    (with_reducible refine is_l ?_); refine l_text rfl rfl Tryd.underlying22 Tryd.underlying5 Tryd.underlying9 (reads_of_rd (k := .u8) hr (by omega)) ?_
    repeat' ((with_reducible refine g_if ?_); ((with_reducible refine g_mv ?_); refine l_p txs rfl rfl ?_))
    (with_reducible refine is_l ?_); refine l_t txs rfl rfl (fun _ => ?_) (fun h => absurd rfl h)
    repeat' (first | (with_reducible first | refine p_tn ?_ | refine wp_ret ?_ | refine l_nil ?_) | ((with_reducible refine g_on ?_); (first | ((with_reducible refine g_as ?_); refine l_p txs rfl rfl ?_) | ((with_reducible refine g_pk ?_); refine l_p txs rfl rfl ?_))))
    refine end1 rfl rfl ?_
    exact ⟨rfl, rfl⟩
end Go.Proofs.YtljinjgamgmocaaDoor.B
end
section
namespace Go.Proofs.YtljinjgamgmocaaDoor.Q
open Go.RowKit Go.Proofs.YtljinjgamgmocaaDoorW.PrintWords Go.Proofs.YtljinjgamgmocaaDoorW.PrintLast
set_option linter.unusedVariables false
set_option linter.unusedSimpArgs false
theorem Hp.keep {w0 w : World} {l l' : List Ent} {r rs r' : List RowD} (H : Hp w0 w l (r ++ rs)) (ks ms : List Nat) (hk : ks.Nodup) (hm : ms.Nodup) (hlt : ms.all (fun m => Nat.blt m r.length) = true) (hl : nfO (ks.map (l[·]?)) some = some l') (hr : nfO (ms.map (r[·]?)) some = some r') : Hp w0 w l' (r' ++ rs) := by
  have hlt' : ∀ m ∈ ms, m < r.length := fun m h => by have := List.all_eq_true.1 hlt m h; simpa using this
  refine H.sel ks (ms ++ (List.range rs.length).map (· + r.length)) hk ?_ (nfO_some hl) ?_
  · rw [List.nodup_append]
    refine ⟨hm, List.pairwise_map.2 (List.nodup_range.imp fun h e => h (by omega)), fun a ha b hb e => ?_⟩
    obtain ⟨i, _, rfl⟩ := List.mem_map.1 hb
    have := hlt' a ha
    omega
  · rw [List.map_append, List.map_append]
    congr 1
    · rw [← nfO_some hr]
      exact List.map_congr_left fun m h => List.getElem?_append_left (hlt' m h)
    · rw [List.map_map]
      refine List.ext_getElem? fun i => ?_
      simp only [List.getElem?_map]
      by_cases hi : i < rs.length
      · rw [List.getElem?_range hi, List.getElem?_eq_getElem hi]
        simp only [Option.map_some, Function.comp]
        rw [List.getElem?_append_right (by omega), Nat.add_sub_cancel, List.getElem?_eq_getElem hi]
      · rw [List.getElem?_eq_none (by simp; omega), List.getElem?_eq_none (by omega)]
        rfl
section
variable {P : Program} {n : Nat} {f : Fr} {w w0 : World} {ops : Array Oper} {Q : Exit → Act → World → Prop} {rest : List Oper} {tt : TypeId} {ps : String} {af : Array Edge} {gd : Option (Nat × Bool)} {s : Bool} {l : List Ent} {r : List RowD}
theorem h_stE {t : TypeId} {x y : Operand} (ho : (P.info? t).map (·.size) = some 1) (H : HpS s w0 w l r) (k : Nat) {g i c m : Nat} {e : TypeId} {cs : List Value} {v : Value} (h1 : v.oneCell' = true) (hv : v.cells = #[v]) (hw : want n ops f ⟨none, .store t x y, tt, ps, af, gd⟩ = true) {a : Addr} (hx : X n f x = .pointer (some a)) (ha : a = ⟨g, i, none⟩) (hy : X n f y = v) (hk : r[k]? = some ⟨.slice (some ⟨g, 0, none⟩) m c, e, 1, m, cs⟩) (hi : i < m)
    (h : ∀ w', HpS s w0 w' l (r.set k ⟨.slice (some ⟨g, 0, none⟩) m c, e, 1, m, cs.set i v⟩) → WL P ops Q rest (act n f) w') : WL P ops Q (⟨none, .store t x y, tt, ps, af, gd⟩ :: rest) (act n f) w := by
  subst ha
  have hO : w.ownsRow w0.heap.size e 1 (.slice (some ⟨g, 0, none⟩) m c) m cs := H.row k _ hk
  obtain ⟨s1, s2⟩ := hO.stored i v
  obtain ⟨h2, h3 | ⟨g', cap, cur, h3, h4, h5, h6, h7, h8, h9⟩⟩ := hO
  · exact absurd h3.1 (by simp)
  simp only [Value.slice.injEq, Option.some.injEq, Addr.mk.injEq, and_true, true_and] at h3
  obtain ⟨e1, e2⟩ := h3
  subst e1 e2
  have hr := run_store_run (P := P) (o := i) t v [v] h5 (by rw [hv]) ho (by simp; omega) (by intro q1 h2; simp at h2; subst h2; exact h1)
  have e : w.setCells g i [v] = w.setCell ⟨g, i, none⟩ v := by simp [World.setCells]
  rw [e] at hr
  refine h_skip hw ?_ (h _ (H.put k hk s2 s1 (.inl rfl) (fun _ => Nat.le_refl _)))
  unfold execOp
  simp [hx, hy, hr]
end
theorem own_up {w : World} {b b' : Nat} {e : TypeId} {sz n : Nat} {v : Value} {xs : List Value} (h : w.ownsRow b e sz v n xs) (hb : ∀ g, v.ownBlock = some g → b' ≤ g) : w.ownsRow b' e sz v n xs := by
  refine ⟨h.1, ?_⟩
  rcases h.2 with h2 | ⟨g, cap, cur, h1, h2, h3⟩
  · exact .inl h2
  · exact .inr ⟨g, cap, cur, h1, hb g (by rw [h1]; rfl), h3⟩
section
variable {P : Program} {n : Nat} {f : Fr} {w w0 : World} {ops : Array Oper} {Q : Exit → Act → World → Prop} {rest : List Oper} {l : List Ent} {r : List RowD}
theorem h_app2 {d : Option Nat} {tt : TypeId} {ps : String} {af : Array Edge} {op : Op} (H : Hp w0 w l r) (k : Nat) {q : RowD} {t : TypeId} {ad : Addr} {m c : Nat} {ys : List Value} {z : Value} {by_ : Nat}
    (hk : r[k]? = some q) (hinfo : (P.info? q.e).map (fun i => (i.zero, i.size, i.bytes)) = some (some z, q.sz, by_)) (hu : P.underlying t = some (.slice q.e)) (he : evApp n f op = some (t, q.v, .slice (some ad) m c)) (hzs : z.cells.size = q.sz) (h0 : Nat.ble 1 q.sz = true) (hb0 : Nat.ble 1 by_ = true) (hm0 : 0 < m)
    (HR : Rd w (some ad) ys) (hm : ys.length = m * q.sz) (h1 : ys.all (·.oneCell') = true) (hl : (q.n + m) * by_ ≤ 140737488355328)
    (h : ∀ v w', ((∃ a c', q.v = .slice (some a) q.n c' ∧ v = .slice (some a) (q.n + m) c' ∧ Hp w0 w' l (r.set k ⟨v, q.e, q.sz, q.n + m, q.cs ++ ys⟩)) ∨ (∃ A' c', v = .slice A' (q.n + m) c' ∧ Hp w0 w' l (⟨v, q.e, q.sz, q.n + m, q.cs ++ ys⟩ :: r))) → WL P ops Q rest (act n (put f d v)) w') : WL P ops Q (⟨d, op, tt, ps, af, none⟩ :: rest) (act n f) w := by
  have HO := H.row k q hk
  replace h0 : 0 < q.sz := Nat.le_of_ble_eq_true h0
  replace hb0 : 0 < by_ := Nat.le_of_ble_eq_true hb0
  obtain ⟨i0, hi, hzz⟩ := Option.map_eq_some_iff.1 hinfo
  simp only [Prod.mk.injEq] at hzz
  obtain ⟨hz0, hz1, hz2⟩ := hzz
  have hlen : q.n + m ≤ 140737488355328 := Nat.le_trans (Nat.le_mul_of_pos_right _ hb0) hl
  have h1' : ∀ u ∈ ys, u.oneCell' = true := fun u hu => List.all_eq_true.1 h1 u hu
  obtain ⟨v1, w1, hrr, hown, hg, _, hat⟩ := run_append_own_at (P := P) w w0.heap.size t tt q.e i0 z q.sz by_ hu hi hz0 hz1 hz2 hzs h0 q.v q.n q.cs HO ad m c ys hm (fun j u hj => HR.2 ad rfl j u hj) h1' (by simp only [maxLen]; omega) hl H.B.size
  obtain ⟨A', c', hv⟩ := own_slice hown
  have fresh : w.grownBy w1 none → v1.ownBlock = some w.heap.size → Hp w0 w1 l (⟨v1, q.e, q.sz, q.n + m, q.cs ++ ys⟩ :: r) := by
    intro hgn hb
    have ho : w1.ownsRow w.heap.size q.e q.sz v1 (q.n + m) (q.cs ++ ys) := own_up hown (fun g hgb => by rw [hb] at hgb; cases hgb; exact Nat.le_refl _)
    have hbw : Below w.heap.size w w1 := (Below.refl _ w).grown hgn (Nat.le_refl _) (fun b e => by cases e)
    exact H.join (Hp.ofOwn ho hbw)
  have hlm : m * i0.bytes ≤ 140737488355328 := by rw [hz2]; exact Nat.le_trans (Nat.mul_le_mul_right _ (Nat.le_add_left m q.n)) hl
  have key : (∃ a c', q.v = .slice (some a) q.n c' ∧ v1 = .slice (some a) (q.n + m) c' ∧ Hp w0 w1 l (r.set k ⟨v1, q.e, q.sz, q.n + m, q.cs ++ ys⟩)) ∨ (∃ A' c', v1 = .slice A' (q.n + m) c' ∧ Hp w0 w1 l (⟨v1, q.e, q.sz, q.n + m, q.cs ++ ys⟩ :: r)) := by
    rcases HO.2 with ⟨e1, hn⟩ | ⟨g, cap, cur, e1, hb, hgg, hnc, hcm, hcs, htake⟩
    · have hr := run_append_nil (P := P) w t tt q.e i0 z hu hi hz0 ad m c ys (by rw [hz1]; exact hm) (fun j u hj => HR.2 ad rfl j u hj) hm0 (by omega) (by omega)
      rw [e1, hr] at hrr
      injection hrr with e2 e3
      exact .inr ⟨A', c', hv, fresh (by rw [← e3]; exact ⟨rfl, rfl, rfl, by simp, fun k hk _ => heap_alloc_old w.drew _ hk⟩) (by rw [← e2]; rfl)⟩
    · by_cases hroom : q.n + m ≤ cap
      · have hr := run_append_room (P := P) w t tt q.e i0 hu hi g q.n cap cur hgg ad m c ys (by rw [hz1]; exact hm) (fun j u hj => HR.2 ad rfl j u hj) h1' hroom (by rw [hz1, hm, hcs, ← Nat.add_mul]; exact Nat.mul_le_mul_right _ hroom)
        have hrr0 := hrr
        rw [e1, hr] at hrr
        injection hrr with e2 e3
        have hob : v1.ownBlock = q.v.ownBlock := by rw [← e2, e1]; rfl
        exact .inl ⟨⟨g, 0, none⟩, cap, e1, e2.symm, H.put (d' := ⟨v1, q.e, q.sz, q.n + m, q.cs ++ ys⟩) k hk hg hown (.inl hob)⟩
      · have hr := run_append_grow (P := P) w t tt q.e i0 z hu hi hz0 ⟨g, 0, none⟩ q.n cap q.cs (by rw [hz1]; exact HO.1) (fun j u hj => (by rw [e1] at HO; exact HO.cells (g := g) rfl j u hj)) ad m c ys (by rw [hz1]; exact hm) (fun j u hj => HR.2 ad rfl j u hj) (by omega) (by omega) (growslice_fits (by omega) (by rw [hz2]; exact hl))
        rw [e1, hr] at hrr
        injection hrr with e2 e3
        exact .inr ⟨A', c', hv, fresh (by rw [← e3]; exact ⟨rfl, rfl, rfl, by simp, fun k hk _ => heap_alloc_old w.drew _ hk⟩) (by rw [← e2]; rfl)⟩
  unfold evApp at he
  split at he
  · rename_i cc
    split at he
    · rename_i x y t1 t2 h2 h3 h4
      by_cases ht : t1 = t2
      · subst ht
        simp only [Nat.beq_refl, cond_true, Option.some.injEq, Prod.mk.injEq] at he
        obtain ⟨rfl, he1, he2⟩ := he
        have hargs : cc.args = #[x, y] := by rw [← Array.toList_inj]; exact h3
        have htys : cc.argTypes = #[t1, t1] := by rw [← Array.toList_inj]; exact h4
        have ho : Op.call cc = .call { callee := .builtin .append, args := #[x, y], argTypes := #[t1, t1] } := by
          cases cc
          simp_all
        rw [ho]
        refine ⟨?_⟩
        refine wpList_plain rfl fun K hK => ?_
        unfold Oper.wp execOp
        rw [eval_act]
        simp only [resolve, invoke, builtin, Sem.run_bind, Sem.run_pure, Result.andThen_ok, List.map_toArray, List.map_cons, List.map_nil, he1, he2, hrr]
        refine hK _ _ ?_
        rw [put_act]
        exact (h v1 w1 key).out
      · exfalso
        have : Nat.beq t1 t2 = false := by rw [Bool.eq_false_iff]; intro hb; exact ht (Nat.eq_of_beq_eq_true hb)
        simp [this] at he
    · cases he
  · cases he
end
theorem HpS.tailL {s : Bool} {w0 w : World} {p : Ent} {l : List Ent} {r : List RowD} (H : HpS s w0 w (p :: l) r) : HpS s w0 w l r :=
  ⟨H.B, fun i q h => H.blk (i + 1) q (by simpa using h), H.row, fun i j q u h1 h2 hne => H.ndl (i + 1) (j + 1) q u (by simpa using h1) (by simpa using h2) (by omega), H.ndr, fun i j q d h1 h2 => H.ndm (i + 1) j q d (by simpa using h1) h2, H.dr⟩
section
variable {P : Program} {ty : Nat → Option Ty} {n : Nat} {f : Fr} {w : World} {o : Oper}
theorem evT_no (hty : Tys P ty) {p : Prop} (h : evT ty n f o.op = some p) (hp : ¬ p) : (execOp (X n f) o).run P w = .ok (.value (.bool false)) w := by
  obtain ⟨t, hr, ht⟩ := evT_run (w := w) hty h
  cases t with
  | true => exact absurd (ht.1 rfl) hp
  | false => exact hr
end
end Go.Proofs.YtljinjgamgmocaaDoor.Q
end
section
namespace Go.Proofs.YtljinjgamgmocaaDoor.B
open Go.RowKit Go.Proofs.YtljinjgamgmocaaDoorW.PrintWords Go.Proofs.YtljinjgamgmocaaDoor.Q Go.Proofs.YtljinjgamgmocaaDoor.G Go.Proofs.YtljinjgamgmocaaDoor.Pure Go.Proofs.YtljinjgamgmocaaDoor.J
set_option linter.unusedVariables false
set_option linter.unusedSimpArgs false
def upN (n : Int) (x : L) : L := x.map fun a => (a + n) % 256
theorem upN_len (n : Int) (x : L) : (upN n x).length = x.length := by simp [upN]
theorem upN_at {n : Int} {x : L} {i : Nat} {a : Int} (h : x[i]? = some a) : (upN n x)[i]? = some ((a + n) % 256) := by simp [upN, h]
def CovB (d : RowD) (A : Option Addr) (y : L) : Prop := ∃ a k c t, d = rowN (some a) k c (y ++ t) ∧ A = some a
structure MovD where
  A : Option Addr
  n : Nat
  c : Nat
  m : Addr
  mc : Nat
def MovD.cells (q : MovD) : List Value := [.slice q.A q.n q.c, .slice (some q.m) (q.n + 1) q.mc]
def MovIn (RS : List RowD) (q : MovD) (v : Int) (y : L) : Prop := q.n = y.length ∧ (y = [] ∨ ∃ d ∈ RS, CovB d q.A y) ∧ ∃ d ∈ RS, CovB d (some q.m) (y ++ [v])
theorem MovIn.mono {RS RS' : List RowD} {q : MovD} {v : Int} {y : L} (h : MovIn RS q v y) (hs : ∀ d ∈ RS, d ∈ RS') : MovIn RS' q v y := by
  obtain ⟨h1, h2, d, hd, h3⟩ := h
  exact ⟨h1, h2.imp id fun ⟨d, hd, hc⟩ => ⟨d, hs d hd, hc⟩, d, hs d hd, h3⟩
theorem cov_rd {s : Bool} {w0 w : World} {l : List Ent} {r : List RowD} (H : HpS s w0 w l r) {d : RowD} (hd : d ∈ r) {A : Option Addr} {y : L} (hc : CovB d A y) : Rd w A (nums .u8 y) := by
  obtain ⟨a, k, c, t, rfl, rfl⟩ := hc
  obtain ⟨i, hi⟩ := List.getElem?_of_mem hd
  exact pre_rd (nums_app .u8 y t ▸ row_at H i hi)
theorem MovIn.rdA {s : Bool} {w0 w : World} {l : List Ent} {r : List RowD} (H : HpS s w0 w l r) {q : MovD} {v : Int} {y : L} (h : MovIn r q v y) : y = [] ∨ Rd w q.A (nums .u8 y) := h.2.1.imp id fun ⟨d, hd, hc⟩ => cov_rd H hd hc
theorem MovIn.rdM {s : Bool} {w0 w : World} {l : List Ent} {r : List RowD} (H : HpS s w0 w l r) {q : MovD} {v : Int} {y : L} (h : MovIn r q v y) : Rd w (some q.m) (nums .u8 (y ++ [v])) := by
  obtain ⟨d, hd, hc⟩ := h.2.2
  exact cov_rd H hd hc
theorem built_mov (A B : Option Addr) (n c m d : Nat) : Tryd.prog.built 39 [(0, .slice A n c), (1, .slice B m d)] = some #[.slice A n c, .slice B m d] := by kernel_rfl
theorem up_set {n : Int} {x : L} {j : Nat} {a : Int} (h : x[j]? = some a) : (nums .u8 (upN n (x.take j) ++ x.drop j)).set j (.int .u8 ((a + n) % 256)) = nums .u8 (upN n (x.take (j + 1)) ++ x.drop (j + 1)) := by
  have hj : j < x.length := (List.getElem?_eq_some_iff.1 h).1
  have e := (List.getElem?_eq_some_iff.1 h).2
  rw [List.drop_eq_getElem_cons hj, List.take_succ_eq_append_getElem hj, e]
  have hl : (nums .u8 (upN n (x.take j))).length = j := by rw [nums_length, upN_len, List.length_take]; omega
  rw [nums_app, List.set_append_right _ _ (by omega), hl, Nat.sub_self]
  simp [upN, nums]
set_option maxRecDepth 100000 in
set_option maxHeartbeats 8000000 in
theorem moved_c {w0 w : World} {l : List Ent} {RS : List RowD} {A : Option Addr} {c : Nat} {x : L} (H : Hp w0 w l (rowB (.slice A x.length c) x :: RS)) (n : Int) (hl : x.length ≤ 3000000) :
    Calls Tryd.prog 22 #[.slice A x.length c, .int .u8 n] w fun e w' => ∃ q P, e = .returned (.agg (MovD.cells q).toArray) ∧ MovIn P q n (upN n x) ∧ Hp w0 w' l (P ++ RS) := by
  refine enter (args := [.slice A x.length c, .int .u8 n]) Tryd.func22 rfl Tryd.ntmps22 rfl ?_
  repeat' (with_reducible first | refine wp_seq ?_ | refine w_reg ?_)
  (with_reducible refine is_l ?_); refine h_alloc recs H rfl rfl (fun gX w_ H => ?_)
  repeat' (first | (with_reducible first | refine p_tn ?_ | refine wp_seq ?_ | refine wp_block ?_ | refine w_reg ?_ | refine l_nil ?_) | ((with_reducible refine g_on ?_); ((with_reducible refine g_as ?_); refine l_p txs rfl rfl ?_)))
  have H : Hp w0 w_ ((gX, 39, zM) :: l) (rowN A x.length c (upN n (x.take 0) ++ x.drop 0) :: RS) := H
  refine w_loop (σ := Nat) (S := fun s => [(0, .slice A x.length c), (1, .int .u8 n), (4, .pointer (some ⟨gX, 0, none⟩)), (5, .int .i64 (s : Int))]) (J := fun s w' => Hp w0 w' ((gX, 39, zM) :: l) (rowN A x.length c (upN n (x.take s) ++ x.drop s) :: RS) ∧ s ≤ x.length) (μ := fun s => x.length - s) 0 ⟨rfl, rfl, rfl, rfl, trivial⟩ ⟨H, Nat.zero_le _⟩ ?_
  clear H
  rintro j f w_ ⟨H, hj⟩
  repeat' (first | (with_reducible first | refine wp_seq ?_ | refine w_reg ?_) | ((with_reducible refine g_on ?_); (first | ((with_reducible refine g_mv ?_); refine l_p txs rfl rfl ?_) | ((with_reducible refine g_cl ?_); refine l_p txs rfl rfl ?_))))
  (with_reducible refine is_l ?_); refine l_t txs rfl rfl (fun hlt => ?_) (fun hge => ?_)
  · obtain ⟨a, ha⟩ : ∃ a, x[j]? = some a := ⟨_, List.getElem?_eq_getElem (by omega)⟩
    obtain ⟨ga, rfl⟩ := row_addr H 0 rfl (by omega)
    have hat : (upN n (x.take j) ++ x.drop j)[j]? = some a := by
      rw [List.getElem?_append_right (by rw [upN_len, List.length_take]; omega), upN_len, List.length_take, Nat.min_eq_left hj, Nat.sub_self, List.getElem?_drop, Nat.add_zero, ha]
    obtain ⟨z, hz⟩ : ∃ z, z = (a + n) % 256 := ⟨_, rfl⟩
    have hw : IntKind.wrap .u8 (a + n) = z := by rw [IntKind.wrap_u8, hz]
    repeat' (first | (with_reducible first | refine p_tn ?_ | refine wp_seq ?_ | refine wp_block ?_ | refine w_reg ?_) | (with_reducible (refine is_if ?_; (refine w_ift rfl ?_))) | (with_reducible first | refine wp_skip ?_ | refine l_nil ?_) | ((with_reducible refine g_on ?_); (first | ((with_reducible refine g_mv ?_); refine l_p txs rfl rfl ?_) | ((with_reducible refine g_ia ?_); refine l_ia txs rfl rfl (by first | omega | assumption | decide) (by first | omega | assumption | decide) ?_))))
    (with_reducible refine is_l ?_); refine l_ld txs rfl rfl (by rw [Int.toNat_natCast]; exact rdB_cell (row_at H 0 rfl) hat) ?_
    repeat' ((with_reducible refine g_on ?_); ((with_reducible refine g_mv ?_); refine l_p txs rfl rfl ?_))
    (with_reducible refine is_l ?_); refine l_val (v := .int .u8 z) rfl ((evA_run (o := ⟨_, _, _, _, _, _⟩) txs rfl).trans (by rw [hw])) ?_
    repeat' ((with_reducible refine g_on ?_); ((with_reducible refine g_ia ?_); refine l_ia txs rfl rfl (by first | omega | assumption | decide) (by first | omega | assumption | decide) ?_))
    (with_reducible refine is_l ?_); refine h_stE (by kernel_rfl) H 0 (i := j) (v := .int .u8 z) rfl rfl rfl rfl (by rw [Int.toNat_natCast, add_lit, Nat.mul_one, Nat.zero_add]) rfl rfl (by omega) (fun w_ H => ?_)
    have H : Hp w0 w_ ((gX, 39, zM) :: l) (rowN (some ⟨ga, 0, none⟩) x.length c (upN n (x.take (j + 1)) ++ x.drop (j + 1)) :: RS) := by
      show Hp w0 w_ _ (⟨.slice (some ⟨ga, 0, none⟩) x.length c, 5, 1, x.length, nums .u8 (upN n (x.take (j + 1)) ++ x.drop (j + 1))⟩ :: RS)
      rw [← up_set ha, ← hz]
      exact H
    repeat' (first | (with_reducible first | refine p_tn ?_ | refine p_bn ?_ | refine w_reg ?_ | refine l_nil ?_) | ((with_reducible refine g_on ?_); (first | ((with_reducible refine g_mv ?_); refine l_p txs rfl rfl ?_) | ((with_reducible refine g_as ?_); refine l_p txs rfl rfl ?_) | ((with_reducible refine g_bi ?_); (refine l_a txs rfl rfl (by first | exact in_i64 (by omega) (by omega) | exact in_u8 (by omega) (by omega) | exact in_u64 (by omega) (by omega) | exact in_i32 (by omega) (by omega)) ?_)))))
    exact ⟨j + 1, _, rfl, ⟨rfl, rfl, rfl, rfl, trivial⟩, ⟨H, by omega⟩, by omega⟩
  obtain rfl : j = x.length := by omega
  rw [show upN n (x.take x.length) ++ x.drop x.length = upN n x by simp] at H
  repeat' (first | (with_reducible first | refine p_tn ?_ | refine p_tx ?_ | refine x_hit ?_ | refine wp_seq ?_ | refine w_reg ?_) | (with_reducible (refine is_if ?_; (refine w_iff rfl ?_))) | (with_reducible first | refine wp_exit ?_ | refine l_nil ?_) | ((with_reducible refine g_on ?_); ((with_reducible refine g_mv ?_); refine l_p txs rfl rfl ?_)))
  (with_reducible refine is_l ?_); refine h_bs H info_u8 Tryd.underlying22 (by decide) (by decide) rfl rfl (fill1 _) (fun g_ w_ H => ?_)
  (with_reducible refine is_l ?_); refine h_app2 H 0 rfl info_u8 Tryd.underlying22 rfl rfl rfl rfl (by decide) (H.cellRd 0 rfl) rfl rfl (by show (x.length + 1) * 1 ≤ _; omega) (fun v w_ hv => ?_)
  obtain ⟨m, mc, P, rfl, hcov, hcm, H⟩ : ∃ (m : Addr) (mc : Nat) (P : List RowD), v = .slice (some m) (x.length + 1) mc ∧ (upN n x = [] ∨ ∃ d ∈ P, CovB d A (upN n x)) ∧ (∃ d ∈ P, CovB d (some m) (upN n x ++ [n])) ∧ Hp w0 w_ ((gX, 39, zM) :: l) (P ++ RS) := by
    have eu : nums .u8 (upN n x) ++ [.int .u8 n] = nums .u8 (upN n x ++ [n]) := by rw [nums_app]; rfl
    rcases hv with ⟨a, c', e1, e2, H⟩ | ⟨A', c', e2, H⟩
    · have e1 : Value.slice A x.length c = .slice (some a) x.length c' := e1
      simp only [Value.slice.injEq, true_and] at e1
      obtain ⟨e3, e4⟩ := e1
      subst e3 e4
      have e2 : v = .slice (some a) (x.length + 1) c := e2
      subst e2
      have H : Hp w0 w_ _ (⟨.slice (some a) (x.length + 1) c, 5, 1, x.length + 1, nums .u8 (upN n x) ++ [.int .u8 n]⟩ :: RS) := H.tailL
      rw [eu] at H
      exact ⟨a, c, [_], rfl, .inr ⟨_, List.mem_cons_self .., a, _, _, [n], rfl, rfl⟩, ⟨_, List.mem_cons_self .., a, x.length + 1, c, [], by rw [List.append_nil], rfl⟩, H⟩
    · have e2 : v = .slice A' (x.length + 1) c' := e2
      subst e2
      obtain ⟨gm, rfl⟩ := row_addr H 0 rfl (by show 0 < x.length + 1; omega)
      have H : Hp w0 w_ _ (⟨.slice (some ⟨gm, 0, none⟩) (x.length + 1) c', 5, 1, x.length + 1, nums .u8 (upN n x) ++ [.int .u8 n]⟩ :: rowN A x.length c (upN n x) :: RS) := H.tailL
      rw [eu] at H
      refine ⟨⟨gm, 0, none⟩, c', [_, _], rfl, ?_, ⟨_, List.mem_cons_self .., _, x.length + 1, c', [], by rw [List.append_nil], rfl⟩, H⟩
      by_cases h0 : x.length = 0
      · exact .inl (List.eq_nil_of_length_eq_zero (by rw [upN_len, h0]))
      · obtain ⟨gl, rfl⟩ := row_addr H 1 rfl (by omega)
        exact .inr ⟨_, List.mem_cons_of_mem _ (List.mem_cons_self ..), _, x.length, c, [], by rw [List.append_nil], rfl⟩
  skip
  (with_reducible refine is_l ?_); refine h_bld rfl rfl (built_mov _ _ _ _ _ _) ?_
  skip
  (with_reducible refine is_l ?_); refine h_stR recs H 0 rfl rfl rfl rfl rfl rfl rfl rfl (nfL_eq _ _) (fun w_ H => ?_)
  repeat' (with_reducible first | refine p_tn ?_ | refine wp_ret ?_ | refine l_nil ?_)
  refine end_cell recs H 0 rfl rfl rfl rfl rfl ?_
  exact ⟨⟨A, x.length, c, m, mc⟩, P, rfl, ⟨(upN_len _ _).symm, hcov, hcm⟩, H.tailL⟩
set_option maxRecDepth 100000 in
set_option maxHeartbeats 16000000 in
theorem stays_c {w : World} {q : MovD} {n : Int} {y b : L} (hb : Bytes b) (hl : b.length ≤ 3000000) (hq : q.n = y.length) (hA : y = [] ∨ Rd w q.A (nums .u8 y)) (hM : Rd w (some q.m) (nums .u8 (y ++ [n]))) (hy : y = [] ∨ y = upN n b) :
    Calls Tryd.prog 25 #[.agg (MovD.cells q).toArray, .int .u8 n, .string (strOfNums b)] w fun e w' => e = .returned (.bool true) ∧ Below w.heap.size w w' := by
  obtain ⟨A, k, c, m, mc⟩ := q
  simp only at hq hA hM
  subst hq
  have hs := sizeS hb
  have hyl : y.length ≤ 3000000 := by
    rcases hy with h | h
    · rw [h]; decide
    · rw [h, upN_len]; exact hl
  have hlast : (y ++ [n])[y.length]? = some n := by rw [List.getElem?_append_right (Nat.le_refl _), Nat.sub_self]; rfl
  refine enter (args := [.agg (MovD.cells ⟨A, y.length, c, m, mc⟩).toArray, .int .u8 n, .string (strOfNums b)]) Tryd.func25 rfl Tryd.ntmps25 rfl ?_
  have H := Hp.nil w
  repeat' (with_reducible first | refine wp_seq ?_ | refine w_reg ?_)
  (with_reducible refine is_l ?_); refine h_box H rfl rfl (nfL_eq _ _) (fun gX w_ H => ?_)
  have H : Hp w w_ [(gX, 39, [.slice A y.length c, .slice (some m) (y.length + 1) mc])] [] := H
  repeat' (first | (with_reducible first | refine p_tn ?_ | refine wp_seq ?_ | refine w_reg ?_ | refine l_nil ?_) | ((with_reducible refine g_on ?_); (first | ((with_reducible refine g_as ?_); refine l_p txs rfl rfl ?_) | ((with_reducible refine g_fa ?_); refine h_fa flds rfl rfl ?_) | ((with_reducible refine g_ld ?_); (refine h_ld txs H 0 rfl rfl rfl rfl ?_)) | ((with_reducible refine g_cl ?_); refine l_p txs rfl rfl ?_) | ((with_reducible refine g_bi ?_); (refine l_a txs rfl rfl (by first | exact in_i64 (by omega) (by omega) | exact in_u8 (by omega) (by omega) | exact in_u64 (by omega) (by omega) | exact in_i32 (by omega) (by omega)) ?_)))))
  (with_reducible refine is_l ?_); refine l_t txs rfl rfl (fun h => absurd rfl h) (fun _ => ?_)
  repeat' (first | ((with_reducible refine g_on ?_); ((with_reducible refine g_mv ?_); refine l_p txs rfl rfl ?_)) | ((with_reducible refine g_if ?_); (first | ((with_reducible refine g_fa ?_); refine h_fa flds rfl rfl ?_) | ((with_reducible refine g_ld ?_); (refine h_ld txs H 0 rfl rfl rfl rfl ?_)) | ((with_reducible refine g_cl ?_); refine l_p txs rfl rfl ?_) | ((with_reducible refine g_ia ?_); refine l_ia txs rfl rfl (by first | omega | assumption | decide) (by first | omega | assumption | decide) ?_))))
  (with_reducible refine is_l ?_); refine l_ld txs rfl rfl (by rw [Int.toNat_natCast]; exact H.old (rdB_cell hM hlast)) ?_
  repeat' ((with_reducible refine g_if ?_); ((with_reducible refine g_mv ?_); refine l_p txs rfl rfl ?_))
  (with_reducible refine is_l ?_); refine l_t txs rfl rfl (fun h => absurd rfl h) (fun _ => ?_)
  repeat' (first | ((with_reducible refine g_on ?_); (first | ((with_reducible refine g_mv ?_); refine l_p txs rfl rfl ?_) | ((with_reducible refine g_pk ?_); refine l_p txs rfl rfl ?_))) | ((with_reducible refine g_if ?_); (first | ((with_reducible refine g_fa ?_); refine h_fa flds rfl rfl ?_) | ((with_reducible refine g_ld ?_); (refine h_ld txs H 0 rfl rfl rfl rfl ?_)) | ((with_reducible refine g_cl ?_); refine l_p txs rfl rfl ?_))))
  by_cases h0 : y.length = 0
  · have hy0 : y = [] := List.eq_nil_of_length_eq_zero h0
    subst hy0
    (with_reducible refine is_l ?_); refine l_t txs rfl rfl (fun h => absurd rfl h) (fun _ => ?_)
    repeat' (first | (with_reducible first | refine p_tn ?_ | refine wp_seq ?_ | refine wp_block ?_ | refine w_reg ?_) | (with_reducible (refine is_if ?_; (refine w_iff rfl ?_))) | (with_reducible first | refine wp_skip ?_ | refine l_nil ?_) | ((with_reducible refine g_on ?_); (first | ((with_reducible refine g_as ?_); refine l_p txs rfl rfl ?_) | ((with_reducible refine g_pk ?_); refine l_p txs rfl rfl ?_))) | ((with_reducible refine g_if ?_); (first | (refine l_off rfl ?_) | ((with_reducible refine g_mv ?_); refine l_p txs rfl rfl ?_) | ((with_reducible refine g_pk ?_); refine l_p txs rfl rfl ?_))))
    refine w_loop (σ := Unit) (S := fun _ => [(3, .pointer (some ⟨gX, 0, none⟩)), (7, .int .i64 0)]) (J := fun _ w' => Hp w w' [(gX, 39, [.slice A ([] : L).length c, .slice (some m) (([] : L).length + 1) mc])] []) (μ := fun _ => 0) () ⟨rfl, rfl, trivial⟩ H ?_
    clear H
    rintro _ f w_ H
    repeat' (first | (with_reducible first | refine wp_seq ?_ | refine w_reg ?_) | ((with_reducible refine g_on ?_); (first | ((with_reducible refine g_mv ?_); refine l_p txs rfl rfl ?_) | ((with_reducible refine g_fa ?_); refine h_fa flds rfl rfl ?_) | ((with_reducible refine g_ld ?_); (refine h_ld txs H 0 rfl rfl rfl rfl ?_)) | ((with_reducible refine g_cl ?_); refine l_p txs rfl rfl ?_))))
    (with_reducible refine is_l ?_); refine l_t txs rfl rfl (fun h => absurd h (by decide)) (fun _ => ?_)
    repeat' (first | (with_reducible first | refine p_tn ?_ | refine p_tx ?_ | refine x_hit ?_ | refine wp_seq ?_ | refine w_reg ?_) | (with_reducible (refine is_if ?_; (refine w_iff rfl ?_))) | (with_reducible first | refine wp_exit ?_ | refine wp_ret ?_ | refine l_nil ?_) | ((with_reducible refine g_on ?_); ((with_reducible refine g_as ?_); refine l_p txs rfl rfl ?_)))
    refine end1 rfl rfl ?_
    exact ⟨rfl, H.B⟩
  · have hyu : y = upN n b := hy.resolve_left (fun e => h0 (by rw [e]; rfl))
    have hA : Rd w A (nums .u8 y) := hA.resolve_left (fun e => h0 (by rw [e]; rfl))
    have hyb : y.length = b.length := by rw [hyu, upN_len]
    (with_reducible refine is_l ?_); refine l_t txs rfl rfl (fun _ => ?_) (fun h => absurd (by show (y.length : Int) ≠ 0; omega) h)
    repeat' ((with_reducible refine g_if ?_); (first | ((with_reducible refine g_mv ?_); refine l_p txs rfl rfl ?_) | ((with_reducible refine g_fa ?_); refine h_fa flds rfl rfl ?_) | ((with_reducible refine g_ld ?_); (refine h_ld txs H 0 rfl rfl rfl rfl ?_)) | ((with_reducible refine g_cl ?_); refine l_p txs rfl rfl ?_)))
    (with_reducible refine is_l ?_); refine l_t txs rfl rfl (fun h => absurd (by show (y.length : Int) = ((strOfNums b).size : Int); omega) h) (fun _ => ?_)
    repeat' (first | (with_reducible first | refine p_tn ?_ | refine wp_seq ?_ | refine wp_block ?_ | refine w_reg ?_) | (with_reducible (refine is_if ?_; (refine w_iff rfl ?_))) | (with_reducible first | refine wp_skip ?_ | refine l_nil ?_) | ((with_reducible refine g_on ?_); (first | ((with_reducible refine g_as ?_); refine l_p txs rfl rfl ?_) | ((with_reducible refine g_pk ?_); refine l_p txs rfl rfl ?_))) | ((with_reducible refine g_if ?_); ((with_reducible refine g_pk ?_); refine l_p txs rfl rfl ?_)))
    refine w_loop (σ := Nat) (S := fun s => [(1, .int .u8 n), (2, .string (strOfNums b)), (3, .pointer (some ⟨gX, 0, none⟩)), (7, .int .i64 (s : Int))]) (J := fun s w' => Hp w w' [(gX, 39, [.slice A y.length c, .slice (some m) (y.length + 1) mc])] [] ∧ s ≤ y.length) (μ := fun s => y.length - s) 0 ⟨rfl, rfl, rfl, rfl, trivial⟩ ⟨H, Nat.zero_le _⟩ ?_
    clear H
    rintro j f w_ ⟨H, hj⟩
    repeat' (first | (with_reducible first | refine wp_seq ?_ | refine w_reg ?_) | ((with_reducible refine g_on ?_); (first | ((with_reducible refine g_mv ?_); refine l_p txs rfl rfl ?_) | ((with_reducible refine g_fa ?_); refine h_fa flds rfl rfl ?_) | ((with_reducible refine g_ld ?_); (refine h_ld txs H 0 rfl rfl rfl rfl ?_)) | ((with_reducible refine g_cl ?_); refine l_p txs rfl rfl ?_))))
    (with_reducible refine is_l ?_); refine l_t txs rfl rfl (fun hlt => ?_) (fun hge => ?_)
    · obtain ⟨a, ha⟩ : ∃ a, b[j]? = some a := ⟨_, List.getElem?_eq_getElem (by omega)⟩
      obtain ⟨z, hz⟩ : ∃ z, z = (a + n) % 256 := ⟨_, rfl⟩
      have hyj : y[j]? = some z := by rw [hyu, hz]; exact upN_at ha
      have hyj2 : (y ++ [n])[j]? = some z := by rw [List.getElem?_append_left (by omega), hyj]
      have hat : at_ (bl (strOfNums b)) (j : Int) = a := by
        rw [blS hb]
        unfold at_
        rw [Int.toNat_natCast, List.getD_eq_getElem?_getD, ha]
        rfl
      have hw : IntKind.wrap .u8 (at_ (bl (strOfNums b)) (j : Int) + n) = z := by rw [hat, IntKind.wrap_u8, hz]
      obtain ⟨la, rfl⟩ := rdB_some hA hyj
      repeat' (first | (with_reducible first | refine p_tn ?_ | refine wp_seq ?_ | refine wp_block ?_) | (with_reducible (refine is_if ?_; (refine w_ift rfl ?_))) | (with_reducible first | refine wp_skip ?_ | refine l_nil ?_))
      have HS := H.pick [0] [] (by decide) (by decide) rfl rfl
      refine d_start (fun w_ => HpS _ w w_ _ _) #[false, false, false, false, false, false, false, false, false, false, false, false, false, false, false, false, false, false, false, false, false, false, false, false] (by kernel_rfl) rfl rfl HS.drew ?_
      have H := H.drew
      have HS := HS.drew
      first | (refine d_pure (i := 0) #[true, false, false, false, false, false, false, false, false, false, false, false, false, false, false, false, false, false, false, false, false, false, false, false] rfl (by kernel_rfl) (fun _ _ _ h => h) rfl (fun w_ => evF_run (o := ⟨_, _, _, _, _, _⟩) flds rfl) ?_) | (refine d_pure (i := 0) #[true, false, false, false, false, false, false, false, false, false, false, false, false, false, false, false, false, false, false, false, false, false, false, false] rfl (by kernel_rfl) (fun _ _ _ h => h) rfl (fun w_ => evG_run (o := ⟨_, _, _, _, _, _⟩) flds rfl) ?_)
      first | (refine d_take (i := 1) #[true, true, false, false, false, false, false, false, false, false, false, false, false, false, false, false, false, false, false, false, false, false, false, false] rfl (by kernel_rfl) (fun _ _ _ h => h) rfl (fun w_ K => evL_run (o := ⟨_, _, _, _, _, _⟩) txs rfl (K.cellAt 0 rfl rfl)) HS ?_)
      first | (refine d_pure (i := 2) #[true, true, true, false, false, false, false, false, false, false, false, false, false, false, false, false, false, false, false, false, false, false, false, false] rfl (by kernel_rfl) (fun _ _ _ h => h) rfl (fun w_ => evP_run (o := ⟨_, _, _, _, _, _⟩) txs rfl) ?_)
      first | (refine d_pure (i := 3) #[true, true, true, true, false, false, false, false, false, false, false, false, false, false, false, false, false, false, false, false, false, false, false, false] rfl (by kernel_rfl) (fun _ _ _ h => h) rfl (fun w_ => evIA_run (o := ⟨_, _, _, _, _, _⟩) txs rfl (by omega) (by omega)) ?_)
      first | (refine d_take (i := 4) #[true, true, true, true, true, false, false, false, false, false, false, false, false, false, false, false, false, false, false, false, false, false, false, false] rfl (by kernel_rfl) (fun _ _ _ h => h) rfl (fun w_ K => evL_run (o := ⟨_, _, _, _, _, _⟩) txs rfl (by rw [Int.toNat_natCast]; exact K.old (rdB_cell hA hyj))) HS ?_)
      first | (refine d_pure (i := 5) #[true, true, true, true, true, true, false, false, false, false, false, false, false, false, false, false, false, false, false, false, false, false, false, false] rfl (by kernel_rfl) (fun _ _ _ h => h) rfl (fun w_ => evP_run (o := ⟨_, _, _, _, _, _⟩) txs rfl) ?_)
      first | (refine d_pure (i := 6) #[true, true, true, true, true, true, true, false, false, false, false, false, false, false, false, false, false, false, false, false, false, false, false, false] rfl (by kernel_rfl) (fun _ _ _ h => h) rfl (fun w_ => evP_run (o := ⟨_, _, _, _, _, _⟩) txs rfl) ?_)
      first | (refine d_pure (i := 7) #[true, true, true, true, true, true, true, true, false, false, false, false, false, false, false, false, false, false, false, false, false, false, false, false] rfl (by kernel_rfl) (fun _ _ _ h => h) rfl (fun w_ => evI_run (o := ⟨_, _, _, _, _, _⟩) txs rfl (by omega) (by omega)) ?_)
      first | (refine d_pure (i := 8) #[true, true, true, true, true, true, true, true, true, false, false, false, false, false, false, false, false, false, false, false, false, false, false, false] rfl (by kernel_rfl) (fun _ _ _ h => h) rfl (fun w_ => evP_run (o := ⟨_, _, _, _, _, _⟩) txs rfl) ?_)
      first | (refine d_pure (i := 9) #[true, true, true, true, true, true, true, true, true, true, false, false, false, false, false, false, false, false, false, false, false, false, false, false] rfl (by kernel_rfl) (fun _ _ _ h => h) rfl (fun w_ => (evA_run (o := ⟨_, _, _, _, _, _⟩) txs rfl).trans (by rw [hw])) ?_)
      first | (refine d_pure (i := 10) #[true, true, true, true, true, true, true, true, true, true, true, false, false, false, false, false, false, false, false, false, false, false, false, false] rfl (by kernel_rfl) (fun _ _ _ h => h) rfl (fun w_ => evT_no (o := ⟨_, _, _, _, _, _⟩) txs rfl (fun h => h rfl)) ?_)
      first | (refine d_pure (i := 11) #[true, true, true, true, true, true, true, true, true, true, true, true, false, false, false, false, false, false, false, false, false, false, false, false] rfl (by kernel_rfl) (fun _ _ _ h => h) rfl (fun w_ => evP_run (o := ⟨_, _, _, _, _, _⟩) txs rfl) ?_)
      first | (refine d_off (i := 12) #[true, true, true, true, true, true, true, true, true, true, true, true, true, false, false, false, false, false, false, false, false, false, false, false] rfl (by kernel_rfl) (fun _ _ _ h => h) rfl ?_) | (first | (refine d_pure (i := 12) #[true, true, true, true, true, true, true, true, true, true, true, true, true, false, false, false, false, false, false, false, false, false, false, false] rfl (by kernel_rfl) (fun _ _ _ h => h) rfl (fun w_ => evF_run (o := ⟨_, _, _, _, _, _⟩) flds rfl) ?_) | (refine d_pure (i := 12) #[true, true, true, true, true, true, true, true, true, true, true, true, true, false, false, false, false, false, false, false, false, false, false, false] rfl (by kernel_rfl) (fun _ _ _ h => h) rfl (fun w_ => evG_run (o := ⟨_, _, _, _, _, _⟩) flds rfl) ?_))
      first | (refine d_off (i := 13) #[true, true, true, true, true, true, true, true, true, true, true, true, true, true, false, false, false, false, false, false, false, false, false, false] rfl (by kernel_rfl) (fun _ _ _ h => h) rfl ?_) | (first | (refine d_take (i := 13) #[true, true, true, true, true, true, true, true, true, true, true, true, true, true, false, false, false, false, false, false, false, false, false, false] rfl (by kernel_rfl) (fun _ _ _ h => h) rfl (fun w_ K => evL_run (o := ⟨_, _, _, _, _, _⟩) txs rfl (K.cellAt 0 rfl rfl)) HS ?_))
      first | (refine d_off (i := 14) #[true, true, true, true, true, true, true, true, true, true, true, true, true, true, true, false, false, false, false, false, false, false, false, false] rfl (by kernel_rfl) (fun _ _ _ h => h) rfl ?_) | (first | (refine d_pure (i := 14) #[true, true, true, true, true, true, true, true, true, true, true, true, true, true, true, false, false, false, false, false, false, false, false, false] rfl (by kernel_rfl) (fun _ _ _ h => h) rfl (fun w_ => evP_run (o := ⟨_, _, _, _, _, _⟩) txs rfl) ?_))
      first | (refine d_off (i := 15) #[true, true, true, true, true, true, true, true, true, true, true, true, true, true, true, true, false, false, false, false, false, false, false, false] rfl (by kernel_rfl) (fun _ _ _ h => h) rfl ?_) | (first | (refine d_pure (i := 15) #[true, true, true, true, true, true, true, true, true, true, true, true, true, true, true, true, false, false, false, false, false, false, false, false] rfl (by kernel_rfl) (fun _ _ _ h => h) rfl (fun w_ => evIA_run (o := ⟨_, _, _, _, _, _⟩) txs rfl (by omega) (by omega)) ?_))
      first | (refine d_off (i := 16) #[true, true, true, true, true, true, true, true, true, true, true, true, true, true, true, true, true, false, false, false, false, false, false, false] rfl (by kernel_rfl) (fun _ _ _ h => h) rfl ?_) | (first | (refine d_take (i := 16) #[true, true, true, true, true, true, true, true, true, true, true, true, true, true, true, true, true, false, false, false, false, false, false, false] rfl (by kernel_rfl) (fun _ _ _ h => h) rfl (fun w_ K => evL_run (o := ⟨_, _, _, _, _, _⟩) txs rfl (by rw [Int.toNat_natCast]; exact K.old (rdB_cell hM hyj2))) HS ?_))
      first | (refine d_off (i := 17) #[true, true, true, true, true, true, true, true, true, true, true, true, true, true, true, true, true, true, false, false, false, false, false, false] rfl (by kernel_rfl) (fun _ _ _ h => h) rfl ?_) | (first | (refine d_pure (i := 17) #[true, true, true, true, true, true, true, true, true, true, true, true, true, true, true, true, true, true, false, false, false, false, false, false] rfl (by kernel_rfl) (fun _ _ _ h => h) rfl (fun w_ => evP_run (o := ⟨_, _, _, _, _, _⟩) txs rfl) ?_))
      first | (refine d_off (i := 18) #[true, true, true, true, true, true, true, true, true, true, true, true, true, true, true, true, true, true, true, false, false, false, false, false] rfl (by kernel_rfl) (fun _ _ _ h => h) rfl ?_) | (first | (refine d_pure (i := 18) #[true, true, true, true, true, true, true, true, true, true, true, true, true, true, true, true, true, true, true, false, false, false, false, false] rfl (by kernel_rfl) (fun _ _ _ h => h) rfl (fun w_ => evP_run (o := ⟨_, _, _, _, _, _⟩) txs rfl) ?_))
      first | (refine d_off (i := 19) #[true, true, true, true, true, true, true, true, true, true, true, true, true, true, true, true, true, true, true, true, false, false, false, false] rfl (by kernel_rfl) (fun _ _ _ h => h) rfl ?_) | (first | (refine d_pure (i := 19) #[true, true, true, true, true, true, true, true, true, true, true, true, true, true, true, true, true, true, true, true, false, false, false, false] rfl (by kernel_rfl) (fun _ _ _ h => h) rfl (fun w_ => evI_run (o := ⟨_, _, _, _, _, _⟩) txs rfl (by omega) (by omega)) ?_))
      first | (refine d_off (i := 20) #[true, true, true, true, true, true, true, true, true, true, true, true, true, true, true, true, true, true, true, true, true, false, false, false] rfl (by kernel_rfl) (fun _ _ _ h => h) rfl ?_) | (first | (refine d_pure (i := 20) #[true, true, true, true, true, true, true, true, true, true, true, true, true, true, true, true, true, true, true, true, true, false, false, false] rfl (by kernel_rfl) (fun _ _ _ h => h) rfl (fun w_ => evP_run (o := ⟨_, _, _, _, _, _⟩) txs rfl) ?_))
      first | (refine d_off (i := 21) #[true, true, true, true, true, true, true, true, true, true, true, true, true, true, true, true, true, true, true, true, true, true, false, false] rfl (by kernel_rfl) (fun _ _ _ h => h) rfl ?_) | (first | (refine d_pure (i := 21) #[true, true, true, true, true, true, true, true, true, true, true, true, true, true, true, true, true, true, true, true, true, true, false, false] rfl (by kernel_rfl) (fun _ _ _ h => h) rfl (fun w_ => (evA_run (o := ⟨_, _, _, _, _, _⟩) txs rfl).trans (by rw [hw])) ?_))
      first | (refine d_off (i := 22) #[true, true, true, true, true, true, true, true, true, true, true, true, true, true, true, true, true, true, true, true, true, true, true, false] rfl (by kernel_rfl) (fun _ _ _ h => h) rfl ?_) | (first | (refine d_pure (i := 22) #[true, true, true, true, true, true, true, true, true, true, true, true, true, true, true, true, true, true, true, true, true, true, true, false] rfl (by kernel_rfl) (fun _ _ _ h => h) rfl (fun w_ => evT_no (o := ⟨_, _, _, _, _, _⟩) txs rfl (fun h => h rfl)) ?_))
      first | (refine d_pure (i := 23) #[true, true, true, true, true, true, true, true, true, true, true, true, true, true, true, true, true, true, true, true, true, true, true, true] rfl (by kernel_rfl) (fun _ _ _ h => h) rfl (fun w_ => evP_run (o := ⟨_, _, _, _, _, _⟩) txs rfl) ?_)
      refine d_done rfl ?_
      repeat' (first | (with_reducible first | refine p_tn ?_ | refine p_bn ?_ | refine w_reg ?_) | (with_reducible (refine is_if ?_; (refine w_iff rfl ?_))) | (with_reducible first | refine wp_skip ?_ | refine l_nil ?_) | ((with_reducible refine g_on ?_); (first | ((with_reducible refine g_mv ?_); refine l_p txs rfl rfl ?_) | ((with_reducible refine g_as ?_); refine l_p txs rfl rfl ?_) | ((with_reducible refine g_bi ?_); (refine l_a txs rfl rfl (by first | exact in_i64 (by omega) (by omega) | exact in_u8 (by omega) (by omega) | exact in_u64 (by omega) (by omega) | exact in_i32 (by omega) (by omega)) ?_)))))
      exact ⟨j + 1, _, rfl, ⟨rfl, rfl, rfl, rfl, trivial⟩, ⟨H, by omega⟩, by omega⟩
    · repeat' (first | (with_reducible first | refine p_tn ?_ | refine p_tx ?_ | refine x_hit ?_ | refine wp_seq ?_ | refine w_reg ?_) | (with_reducible (refine is_if ?_; (refine w_iff rfl ?_))) | (with_reducible first | refine wp_exit ?_ | refine wp_ret ?_ | refine l_nil ?_) | ((with_reducible refine g_on ?_); ((with_reducible refine g_as ?_); refine l_p txs rfl rfl ?_)))
      refine end1 rfl rfl ?_
      exact ⟨rfl, H.B⟩
end Go.Proofs.YtljinjgamgmocaaDoor.B
end
section
namespace Go.Proofs.YtljinjgamgmocaaDoor.B
open Go.RowKit Go.Proofs.YtljinjgamgmocaaDoorW.PrintWords Go.Proofs.YtljinjgamgmocaaDoor.Q Go.Proofs.YtljinjgamgmocaaDoor.G Go.Proofs.YtljinjgamgmocaaDoor.Pure Go.Proofs.YtljinjgamgmocaaDoor.J
set_option linter.unusedVariables false
set_option linter.unusedSimpArgs false
section
variable {P : Program} {n : Nat} {ops : Array Oper} {Q : Exit → Act → World → Prop} {rest : List Oper} {f : Fr} {w w0 : World} {d : Option Nat} {op : Op} {tt : TypeId} {ps : String} {af : Array Edge} {gd : Option (Nat × Bool)} {l l' : List Ent} {r : List RowD}
theorem bii_run {b : BinOp} {t t2 : TypeId} {x y : Operand} {k1 k2 : IntKind} {a c : Int} {z : Value} (hx : nf (X n f x) = some (.int k1 a)) (hy : nf (X n f y) = some (.int k2 c))
    (hr : (binOp b t (.int k1 a) (.int k2 c)).run P w = .ok z w) : (execOp (X n f) ⟨d, .binOp b t x y t2, tt, ps, af, gd⟩).run P w = .ok (.value z) w := by
  have hx' := nf_eq hx
  have hy' := nf_eq hy
  have hge : (eqGuard b t x y (.int k1 a) (.int k2 c)).run P w = .ok () w := by
    unfold eqGuard
    cases b <;> rfl
  unfold execOp
  simp [← hx', ← hy', hge, hr]
theorem l_bii {b : BinOp} {t t2 : TypeId} {x y : Operand} {k1 k2 : IntKind} {a c : Int} {z : Value} (hw : want n ops f ⟨d, .binOp b t x y t2, tt, ps, af, gd⟩ = true) (hx : nf (X n f x) = some (.int k1 a)) (hy : nf (X n f y) = some (.int k2 c))
    (hr : (binOp b t (.int k1 a) (.int k2 c)).run P w = .ok z w) (h : WL P ops Q rest (act n (put f d z)) w) : WL P ops Q (⟨d, .binOp b t x y t2, tt, ps, af, gd⟩ :: rest) (act n f) w :=
  l_val hw (bii_run hx hy hr) h
end
section
variable (w : World)
theorem quoI (k m : Nat) (hk : k ≤ 1000000000) (hm : 0 < m) : (binOp .quo 3 (.int .i64 (k : Int)) (.int .i64 (m : Int))).run Tryd.prog w = .ok (.int .i64 ((k / m : Nat) : Int)) w := by
  rw [binOp_quo]
  have hle : k / m ≤ k := Nat.div_le_self _ _
  have h1 : (k : Int).tdiv (m : Int) = ((k / m : Nat) : Int) := by rw [Int.tdiv_eq_ediv_of_nonneg (by omega)]; rfl
  generalize k / m = q at hle h1 ⊢
  have h2 : IntKind.i64.wrap (q : Int) = (q : Int) := by rw [IntKind.wrap_i64]; omega
  have h3 : ¬ m = 0 := by omega
  simp [Op.intDiv, h1, h2, h3]
theorem quoZ {a z : Int} (m : Nat) (h0 : 0 ≤ a) (ha : a ≤ 1000000000) (hm : 0 < m) (hz : z = a / m) : (binOp .quo 3 (.int .i64 a) (.int .i64 (m : Int))).run Tryd.prog w = .ok (.int .i64 z) w := by
  obtain ⟨k, rfl⟩ := Int.eq_ofNat_of_zero_le h0
  rw [quoI w k m (by omega) hm, hz]
  rfl
end
theorem HpS.front {s : Bool} {w0 w : World} {l : List Ent} {P r : List RowD} {d : RowD} (H : HpS s w0 w l (P ++ d :: r)) : HpS s w0 w l (d :: (P ++ r)) := by
  have key : ∀ i e, (d :: (P ++ r))[i]? = some e → (P ++ d :: r)[if i = 0 then P.length else if i ≤ P.length then i - 1 else i]? = some e := by
    intro i e h
    by_cases h0 : i = 0
    · subst h0
      rw [if_pos rfl, List.getElem?_append_right (Nat.le_refl _), Nat.sub_self]
      exact h
    · rw [if_neg h0]
      obtain ⟨j, rfl⟩ : ∃ j, i = j + 1 := ⟨i - 1, by omega⟩
      rw [List.getElem?_cons_succ] at h
      by_cases h1 : j + 1 ≤ P.length
      · rw [if_pos h1, Nat.add_sub_cancel, List.getElem?_append_left (by omega)]
        rw [List.getElem?_append_left (by omega)] at h
        exact h
      · rw [if_neg h1, List.getElem?_append_right (by omega)]
        rw [List.getElem?_append_right (by omega)] at h
        rw [show j + 1 - P.length = (j - P.length) + 1 by omega, List.getElem?_cons_succ]
        exact h
  have inj : ∀ i j : Nat, i ≠ j → (if i = 0 then P.length else if i ≤ P.length then i - 1 else i) ≠ (if j = 0 then P.length else if j ≤ P.length then j - 1 else j) := by
    intro i j h
    split <;> split <;> (try split) <;> (try split) <;> omega
  exact ⟨H.B, H.blk, fun i e h => H.row _ e (key i e h), H.ndl, fun i j e e2 h1 h2 hne => H.ndr _ _ e e2 (key i e h1) (key j e2 h2) (inj i j hne), fun i j p e h1 h2 => H.ndm i _ p e h1 (key j e h2), H.dr⟩
theorem got_up (n : Int) (k : Nat) (b : L) : upN n (gotL k b) = [] ∨ upN n (gotL k b) = upN n b := by
  unfold gotL
  split
  · exact .inl rfl
  · exact .inr rfl
theorem got_len (k : Nat) (b : L) : (gotL k b).length ≤ b.length := by
  unfold gotL
  split
  · exact Nat.zero_le _
  · exact Nat.le_refl _
theorem mem_rd {s : Bool} {w0 w : World} {l : List Ent} {r : List RowD} (H : HpS s w0 w l r) {A : Option Addr} {n c : Nat} {x : L} (hd : rowN A n c x ∈ r) : Rd w A (nums .u8 x) := by
  obtain ⟨i, hi⟩ := List.getElem?_of_mem hd
  exact row_at H i hi
theorem quote_len (b : L) : b.length + 2 ≤ (quoteOf b).length ∧ (quoteOf b).length ≤ 4 * b.length + 2 := by
  have := qOf_length b
  unfold quoteOf
  simp only [List.length_cons, List.length_append, List.length_nil]
  omega
set_option maxRecDepth 100000 in
set_option maxHeartbeats 32000000 in
theorem textBack_c {w : World} {A : Option Addr} {c : Nat} {b : L} (hr : ReadsInt w .u8 A b.length b) (hb : Bytes b) (hl : b.length ≤ 1048576) (hL : LayD w) :
    Calls Tryd.prog 7 #[.slice A b.length c] w fun e w' => e = .returned (.bool true) ∧ Below w.heap.size w w' := by
  have s64 := sizeS (enc64_bytes hb)
  have shx := sizeS (hexOf_bytes hb)
  have squ := sizeS (quoteOf_bytes hb)
  have l64 := enc64_length b
  have lhx := hexOf_length b
  obtain ⟨lq1, lq2⟩ := quote_len b
  have hk : bl (strOfNums b) = b := blS hb
  have hu64 := fun (w1 : World) => un64_c hb (by omega : b.length ≤ 3000000) w1
  have huhx := fun (w1 : World) (h : LayD w1) => unhex_c hb (by omega : b.length ≤ 3000000) h
  have huqu := fun (w1 : World) (h : LayD w1) => unq_c hb (by omega : b.length ≤ 3000000) h
  have he64 := fun (w1 : World) (A1 : Option Addr) (n1 c1 : Nat) (h : ReadsInt w1 .u8 A1 n1 b) (hc : n1 ≤ c1) => b64_c (c := c1) h hc hb (by omega)
  have hehx := fun (w1 : World) (A1 : Option Addr) (n1 c1 : Nat) (h : ReadsInt w1 .u8 A1 n1 b) (hc : n1 ≤ c1) (hL : LayD w1) => hex_c (c := c1) h hc hb (by omega) hL
  have hequ := fun (w1 : World) (A1 : Option Addr) (n1 c1 : Nat) (h : ReadsInt w1 .u8 A1 n1 b) (hc : n1 ≤ c1) (hL : LayD w1) => quote_c (c := c1) h hc hb (by omega) hL
  rw [← s64] at l64 hu64
  rw [← shx] at lhx huhx
  rw [← squ] at lq1 lq2 huqu
  clear s64 shx squ
  generalize strOfNums (enc64 b) = t64 at l64 hu64 he64
  generalize strOfNums (hexOf b) = thx at lhx huhx hehx
  generalize strOfNums (quoteOf b) = tqu at lq1 lq2 huqu hequ
  refine enter (args := [.slice A b.length c]) Tryd.func7 rfl Tryd.ntmps7 rfl ?_
  have H := Hp.nil w
  repeat' (first | (with_reducible first | refine p_tn ?_ | refine wp_seq ?_ | refine w_reg ?_ | refine l_nil ?_) | ((with_reducible refine g_on ?_); (first | ((with_reducible refine g_mv ?_); refine l_p txs rfl rfl ?_) | ((with_reducible refine g_as ?_); refine l_p txs rfl rfl ?_))))
  (with_reducible refine is_l ?_); refine l_text rfl rfl Tryd.underlying22 Tryd.underlying5 Tryd.underlying9 hr ?_
  repeat' (first | (with_reducible first | refine p_tn ?_ | refine wp_seq ?_ | refine w_reg ?_ | refine l_nil ?_) | ((with_reducible refine g_on ?_); (first | ((with_reducible refine g_mv ?_); refine l_p txs rfl rfl ?_) | ((with_reducible refine g_as ?_); refine l_p txs rfl rfl ?_))))
  (with_reducible refine is_l ?_); refine l_call rfl rfl (by kernel_rfl) (lent_c (rd_of_reads hr) (by omega)) (fun e w_ hQ => ?_)
  obtain ⟨gw, wc, rfl, K⟩ := hQ
  refine ⟨_, rfl, ?_⟩
  have H : Hp w w_ [] [rowN (some ⟨gw, 0, none⟩) (b.length + 400) wc (wide b 400)] := H.join K
  obtain ⟨_, _, eW, hwc, _, _⟩ := H.rd 0 rfl
  simp only [Value.slice.injEq] at eW
  have hwc : b.length + 400 ≤ wc := by rw [eW.2.2]; exact hwc
  clear eW
  have hrW : ∀ {w1 : World} {l1 : List Ent} {r1 : List RowD}, Hp w w1 l1 r1 → rowN (some ⟨gw, 0, none⟩) (b.length + 400) wc (wide b 400) ∈ r1 → ReadsInt w1 .u8 (some ⟨gw, 0, none⟩) b.length b := fun h hm => reads_of_rd (pre_rd (nums_app .u8 b _ ▸ mem_rd h hm)) (by omega)
  repeat' (first | (with_reducible first | refine p_tn ?_ | refine wp_seq ?_ | refine w_reg ?_ | refine l_nil ?_) | ((with_reducible refine g_on ?_); (first | ((with_reducible refine g_mv ?_); refine l_p txs rfl rfl ?_) | ((with_reducible refine g_as ?_); refine l_p txs rfl rfl ?_) | ((with_reducible refine g_cl ?_); refine l_p txs rfl rfl ?_))))
  (with_reducible refine is_l ?_); refine l_cutN txs 0 b.length rfl rfl (by omega) (by omega) ?_
  rw [cut_zero (by omega)]
  repeat' (first | (with_reducible first | refine p_tn ?_ | refine wp_seq ?_ | refine w_reg ?_ | refine l_nil ?_) | ((with_reducible refine g_on ?_); (first | ((with_reducible refine g_mv ?_); refine l_p txs rfl rfl ?_) | ((with_reducible refine g_as ?_); refine l_p txs rfl rfl ?_))))
  (with_reducible refine is_l ?_); refine l_callv rfl rfl (by kernel_rfl) (he64 _ _ (b.length - 0) (wc - 0) (hrW H (List.mem_cons_self ..)) (by omega)) (fun w_ K => ?_)
  have H := H.call K
  repeat' (first | (with_reducible first | refine p_tn ?_ | refine wp_seq ?_ | refine w_reg ?_ | refine l_nil ?_) | ((with_reducible refine g_on ?_); (first | ((with_reducible refine g_mv ?_); refine l_p txs rfl rfl ?_) | ((with_reducible refine g_as ?_); refine l_p txs rfl rfl ?_))))
  (with_reducible refine is_l ?_); refine l_callv rfl rfl (by kernel_rfl) (hehx _ _ (b.length - 0) (wc - 0) (hrW H (List.mem_cons_self ..)) (by omega) (hL.below H.B)) (fun w_ K => ?_)
  have H := H.call K
  repeat' (first | (with_reducible first | refine p_tn ?_ | refine wp_seq ?_ | refine w_reg ?_ | refine l_nil ?_) | ((with_reducible refine g_on ?_); (first | ((with_reducible refine g_mv ?_); refine l_p txs rfl rfl ?_) | ((with_reducible refine g_as ?_); refine l_p txs rfl rfl ?_))))
  (with_reducible refine is_l ?_); refine l_callv rfl rfl (by kernel_rfl) (hequ _ _ (b.length - 0) (wc - 0) (hrW H (List.mem_cons_self ..)) (by omega) (hL.below H.B)) (fun w_ K => ?_)
  have H := H.call K
  repeat' (first | (with_reducible first | refine p_tn ?_ | refine wp_seq ?_ | refine w_reg ?_ | refine l_nil ?_) | ((with_reducible refine g_on ?_); (first | ((with_reducible refine g_mv ?_); refine l_p txs rfl rfl ?_) | ((with_reducible refine g_as ?_); refine l_p txs rfl rfl ?_))))
  (with_reducible refine is_l ?_); refine l_callp rfl rfl (by kernel_rfl) (untouched_c hb (mem_rd H (List.mem_cons_self ..)) hwc (by omega)) ?_
  repeat' (first | (with_reducible first | refine p_tn ?_ | refine wp_seq ?_ | refine w_reg ?_) | (with_reducible (refine is_if ?_; (refine w_iff rfl ?_))) | (with_reducible first | refine wp_skip ?_ | refine l_nil ?_) | ((with_reducible refine g_on ?_); (first | ((with_reducible refine g_mv ?_); refine l_p txs rfl rfl ?_) | ((with_reducible refine g_un ?_); (refine l_p txs rfl rfl ?_)) | ((with_reducible refine g_cl ?_); refine l_p txs rfl rfl ?_) | ((with_reducible refine g_bi ?_); (refine l_a txs rfl rfl (by first | exact in_i64 (by omega) (by omega) | exact in_u8 (by omega) (by omega) | exact in_u64 (by omega) (by omega) | exact in_i32 (by omega) (by omega)) ?_)))))
  (with_reducible refine is_l ?_); refine l_bii rfl rfl rfl (quoZ _ 3 (by omega) (by omega) (by decide) rfl) ?_
  repeat' ((with_reducible refine g_on ?_); ((with_reducible refine g_bi ?_); (refine l_a txs rfl rfl (by first | exact in_i64 (by omega) (by omega) | exact in_u8 (by omega) (by omega) | exact in_u64 (by omega) (by omega) | exact in_i32 (by omega) (by omega)) ?_)))
  (with_reducible refine is_l ?_); refine l_t txs rfl rfl (fun h => absurd (by omega) h) (fun _ => ?_)
  repeat' (first | ((with_reducible refine g_on ?_); ((with_reducible refine g_mv ?_); refine l_p txs rfl rfl ?_)) | ((with_reducible refine g_if ?_); (first | ((with_reducible refine g_mv ?_); refine l_p txs rfl rfl ?_) | ((with_reducible refine g_cl ?_); refine l_p txs rfl rfl ?_) | ((with_reducible refine g_bi ?_); (refine l_a txs rfl rfl (by first | exact in_i64 (by omega) (by omega) | exact in_u8 (by omega) (by omega) | exact in_u64 (by omega) (by omega) | exact in_i32 (by omega) (by omega)) ?_)))))
  (with_reducible refine is_l ?_); refine l_t txs rfl rfl (fun h => absurd (by omega) h) (fun _ => ?_)
  repeat' (first | ((with_reducible refine g_on ?_); (first | ((with_reducible refine g_mv ?_); refine l_p txs rfl rfl ?_) | ((with_reducible refine g_pk ?_); refine l_p txs rfl rfl ?_))) | ((with_reducible refine g_if ?_); (first | ((with_reducible refine g_mv ?_); refine l_p txs rfl rfl ?_) | ((with_reducible refine g_cl ?_); refine l_p txs rfl rfl ?_) | ((with_reducible refine g_bi ?_); (refine l_a txs rfl rfl (by first | exact in_i64 (by omega) (by omega) | exact in_u8 (by omega) (by omega) | exact in_u64 (by omega) (by omega) | exact in_i32 (by omega) (by omega)) ?_)))))
  (with_reducible refine is_l ?_); refine l_t txs rfl rfl (fun h => absurd h (by omega)) (fun _ => ?_)
  repeat' (first | ((with_reducible refine g_on ?_); (first | ((with_reducible refine g_mv ?_); refine l_p txs rfl rfl ?_) | ((with_reducible refine g_pk ?_); refine l_p txs rfl rfl ?_))) | ((with_reducible refine g_if ?_); (first | ((with_reducible refine g_mv ?_); refine l_p txs rfl rfl ?_) | ((with_reducible refine g_cl ?_); refine l_p txs rfl rfl ?_) | ((with_reducible refine g_bi ?_); (refine l_a txs rfl rfl (by first | exact in_i64 (by omega) (by omega) | exact in_u8 (by omega) (by omega) | exact in_u64 (by omega) (by omega) | exact in_i32 (by omega) (by omega)) ?_)))))
  (with_reducible refine is_l ?_); refine l_t txs rfl rfl (fun h => absurd h (by omega)) (fun _ => ?_)
  repeat' (first | ((with_reducible refine g_on ?_); (first | ((with_reducible refine g_mv ?_); refine l_p txs rfl rfl ?_) | ((with_reducible refine g_pk ?_); refine l_p txs rfl rfl ?_))) | ((with_reducible refine g_if ?_); ((with_reducible refine g_mv ?_); refine l_p txs rfl rfl ?_)))
  (with_reducible refine is_l ?_); refine l_text rfl rfl Tryd.underlying22 Tryd.underlying5 Tryd.underlying9 (hrW H (List.mem_cons_self ..)) ?_
  repeat' ((with_reducible refine g_if ?_); ((with_reducible refine g_mv ?_); refine l_p txs rfl rfl ?_))
  (with_reducible refine is_l ?_); refine l_t txs rfl rfl (fun h => absurd rfl h) (fun _ => ?_)
  repeat' (first | (with_reducible first | refine p_tn ?_ | refine wp_seq ?_ | refine w_reg ?_) | (with_reducible (refine is_if ?_; (refine w_iff rfl ?_))) | (with_reducible first | refine wp_skip ?_ | refine l_nil ?_) | ((with_reducible refine g_on ?_); (first | ((with_reducible refine g_mv ?_); refine l_p txs rfl rfl ?_) | ((with_reducible refine g_pk ?_); refine l_p txs rfl rfl ?_))))
  (with_reducible refine is_l ?_); refine l_call rfl rfl (by kernel_rfl) (hu64 _) (fun e w_ hQ => ?_)
  obtain ⟨A1, c1, rfl, K⟩ := hQ
  refine ⟨_, rfl, ?_⟩
  have H : Hp w w_ [] (rowB (.slice A1 (gotL t64.size b).length c1) (gotL t64.size b) :: [rowN (some ⟨gw, 0, none⟩) (b.length + 400) wc (wide b 400)]) := H.join K
  repeat' (first | (with_reducible first | refine p_tn ?_ | refine wp_seq ?_ | refine w_reg ?_ | refine l_nil ?_) | ((with_reducible refine g_on ?_); (first | ((with_reducible refine g_mv ?_); refine l_p txs rfl rfl ?_) | ((with_reducible refine g_as ?_); refine l_p txs rfl rfl ?_) | ((with_reducible refine g_ex ?_); refine l_p txs rfl rfl ?_) | ((with_reducible refine g_cl ?_); refine l_p txs rfl rfl ?_))))
  (with_reducible refine is_l ?_); refine l_callp rfl rfl (by kernel_rfl) (back_c (n := t64.size) (row_at H 0 rfl) (by omega)) ?_
  repeat' (first | (with_reducible first | refine p_tn ?_ | refine wp_seq ?_ | refine w_reg ?_) | (with_reducible (refine is_if ?_; (refine w_iff rfl ?_))) | (with_reducible first | refine wp_skip ?_ | refine l_nil ?_) | ((with_reducible refine g_on ?_); (first | ((with_reducible refine g_mv ?_); refine l_p txs rfl rfl ?_) | ((with_reducible refine g_un ?_); (refine l_p txs rfl rfl ?_)))))
  (with_reducible refine is_l ?_); refine l_call rfl rfl (by kernel_rfl) (moved_c H 1 (by have := got_len t64.size b; omega)) (fun e w_ hQ => ?_)
  obtain ⟨⟨B1, n1, d1, m1, k1⟩, P1, rfl, hm1, H⟩ := hQ
  refine ⟨_, rfl, ?_⟩
  repeat' (first | (with_reducible first | refine p_tn ?_ | refine wp_seq ?_ | refine w_reg ?_ | refine l_nil ?_) | ((with_reducible refine g_on ?_); (first | ((with_reducible refine g_mv ?_); refine l_p txs rfl rfl ?_) | ((with_reducible refine g_st ?_); (refine h_stR recs H 0 rfl rfl rfl rfl rfl rfl rfl rfl rfl (fun w_ H => ?_))) | ((with_reducible refine g_al ?_); refine h_alloc recs H rfl rfl (fun g_ w_ H => ?_)))))
  obtain ⟨x1, hx⟩ : ∃ g, g = g_ := ⟨_, rfl⟩
  rw [← hx] at H ⊢
  clear hx
  have H : Hp w w_ [(x1, 39, [.slice B1 n1 d1, .slice (some m1) (n1 + 1) k1])] (P1 ++ ([rowN (some ⟨gw, 0, none⟩) (b.length + 400) wc (wide b 400)])) := H
  skip
  (with_reducible refine is_l ?_); refine l_call rfl rfl (by kernel_rfl) (huhx _ (hL.below H.B)) (fun e w_ hQ => ?_)
  obtain ⟨A2, c2, rfl, K⟩ := hQ
  refine ⟨_, rfl, ?_⟩
  have H : Hp w w_ [(x1, 39, [.slice B1 n1 d1, .slice (some m1) (n1 + 1) k1])] (rowB (.slice A2 (gotL thx.size b).length c2) (gotL thx.size b) :: (P1 ++ ([rowN (some ⟨gw, 0, none⟩) (b.length + 400) wc (wide b 400)]))) := H.join K
  repeat' (first | (with_reducible first | refine p_tn ?_ | refine wp_seq ?_ | refine w_reg ?_ | refine l_nil ?_) | ((with_reducible refine g_on ?_); (first | ((with_reducible refine g_mv ?_); refine l_p txs rfl rfl ?_) | ((with_reducible refine g_as ?_); refine l_p txs rfl rfl ?_) | ((with_reducible refine g_ex ?_); refine l_p txs rfl rfl ?_) | ((with_reducible refine g_cl ?_); refine l_p txs rfl rfl ?_))))
  (with_reducible refine is_l ?_); refine l_callp rfl rfl (by kernel_rfl) (back_c (n := thx.size) (row_at H 0 rfl) (by omega)) ?_
  repeat' (first | (with_reducible first | refine p_tn ?_ | refine wp_seq ?_ | refine w_reg ?_) | (with_reducible (refine is_if ?_; (refine w_iff rfl ?_))) | (with_reducible first | refine wp_skip ?_ | refine l_nil ?_) | ((with_reducible refine g_on ?_); (first | ((with_reducible refine g_mv ?_); refine l_p txs rfl rfl ?_) | ((with_reducible refine g_un ?_); (refine l_p txs rfl rfl ?_)))))
  (with_reducible refine is_l ?_); refine l_call rfl rfl (by kernel_rfl) (moved_c H 2 (by have := got_len thx.size b; omega)) (fun e w_ hQ => ?_)
  obtain ⟨⟨B2, n2, d2, m2, k2⟩, P2, rfl, hm2, H⟩ := hQ
  refine ⟨_, rfl, ?_⟩
  repeat' (first | (with_reducible first | refine p_tn ?_ | refine wp_seq ?_ | refine w_reg ?_ | refine l_nil ?_) | ((with_reducible refine g_on ?_); (first | ((with_reducible refine g_mv ?_); refine l_p txs rfl rfl ?_) | ((with_reducible refine g_st ?_); (refine h_stR recs H 0 rfl rfl rfl rfl rfl rfl rfl rfl rfl (fun w_ H => ?_))) | ((with_reducible refine g_al ?_); refine h_alloc recs H rfl rfl (fun g_ w_ H => ?_)))))
  obtain ⟨x2, hx⟩ : ∃ g, g = g_ := ⟨_, rfl⟩
  rw [← hx] at H ⊢
  clear hx
  have H : Hp w w_ [(x2, 39, [.slice B2 n2 d2, .slice (some m2) (n2 + 1) k2]), (x1, 39, [.slice B1 n1 d1, .slice (some m1) (n1 + 1) k1])] (P2 ++ (P1 ++ ([rowN (some ⟨gw, 0, none⟩) (b.length + 400) wc (wide b 400)]))) := H
  skip
  (with_reducible refine is_l ?_); refine l_call rfl rfl (by kernel_rfl) (huqu _ (hL.below H.B)) (fun e w_ hQ => ?_)
  obtain ⟨A3, c3, rfl, K⟩ := hQ
  refine ⟨_, rfl, ?_⟩
  have H : Hp w w_ [(x2, 39, [.slice B2 n2 d2, .slice (some m2) (n2 + 1) k2]), (x1, 39, [.slice B1 n1 d1, .slice (some m1) (n1 + 1) k1])] (rowB (.slice A3 (gotL tqu.size b).length c3) (gotL tqu.size b) :: (P2 ++ (P1 ++ ([rowN (some ⟨gw, 0, none⟩) (b.length + 400) wc (wide b 400)])))) := H.join K
  repeat' (first | (with_reducible first | refine p_tn ?_ | refine wp_seq ?_ | refine w_reg ?_ | refine l_nil ?_) | ((with_reducible refine g_on ?_); (first | ((with_reducible refine g_mv ?_); refine l_p txs rfl rfl ?_) | ((with_reducible refine g_as ?_); refine l_p txs rfl rfl ?_) | ((with_reducible refine g_ex ?_); refine l_p txs rfl rfl ?_) | ((with_reducible refine g_cl ?_); refine l_p txs rfl rfl ?_))))
  (with_reducible refine is_l ?_); refine l_callp rfl rfl (by kernel_rfl) (back_c (n := tqu.size) (row_at H 0 rfl) (by omega)) ?_
  repeat' (first | (with_reducible first | refine p_tn ?_ | refine wp_seq ?_ | refine w_reg ?_) | (with_reducible (refine is_if ?_; (refine w_iff rfl ?_))) | (with_reducible first | refine wp_skip ?_ | refine l_nil ?_) | ((with_reducible refine g_on ?_); (first | ((with_reducible refine g_mv ?_); refine l_p txs rfl rfl ?_) | ((with_reducible refine g_un ?_); (refine l_p txs rfl rfl ?_)))))
  (with_reducible refine is_l ?_); refine l_call rfl rfl (by kernel_rfl) (moved_c H 3 (by have := got_len tqu.size b; omega)) (fun e w_ hQ => ?_)
  obtain ⟨⟨B3, n3, d3, m3, k3⟩, P3, rfl, hm3, H⟩ := hQ
  refine ⟨_, rfl, ?_⟩
  repeat' (first | (with_reducible first | refine p_tn ?_ | refine wp_seq ?_ | refine w_reg ?_ | refine l_nil ?_) | ((with_reducible refine g_on ?_); (first | ((with_reducible refine g_mv ?_); refine l_p txs rfl rfl ?_) | ((with_reducible refine g_st ?_); (refine h_stR recs H 0 rfl rfl rfl rfl rfl rfl rfl rfl rfl (fun w_ H => ?_))) | ((with_reducible refine g_al ?_); refine h_alloc recs H rfl rfl (fun g_ w_ H => ?_)))))
  obtain ⟨x3, hx⟩ : ∃ g, g = g_ := ⟨_, rfl⟩
  rw [← hx] at H ⊢
  clear hx
  have H : Hp w w_ [(x3, 39, [.slice B3 n3 d3, .slice (some m3) (n3 + 1) k3]), (x2, 39, [.slice B2 n2 d2, .slice (some m2) (n2 + 1) k2]), (x1, 39, [.slice B1 n1 d1, .slice (some m1) (n1 + 1) k1])] (P3 ++ (P2 ++ (P1 ++ ([rowN (some ⟨gw, 0, none⟩) (b.length + 400) wc (wide b 400)])))) := H
  skip
  (with_reducible refine is_l ?_); refine l_call rfl rfl (by kernel_rfl) (hu64 _) (fun e w_ hQ => ?_)
  obtain ⟨A4, c4, rfl, K⟩ := hQ
  refine ⟨_, rfl, ?_⟩
  have H : Hp w w_ [(x3, 39, [.slice B3 n3 d3, .slice (some m3) (n3 + 1) k3]), (x2, 39, [.slice B2 n2 d2, .slice (some m2) (n2 + 1) k2]), (x1, 39, [.slice B1 n1 d1, .slice (some m1) (n1 + 1) k1])] (rowB (.slice A4 (gotL t64.size b).length c4) (gotL t64.size b) :: (P3 ++ (P2 ++ (P1 ++ ([rowN (some ⟨gw, 0, none⟩) (b.length + 400) wc (wide b 400)]))))) := H.join K
  repeat' (first | (with_reducible first | refine p_tn ?_ | refine wp_seq ?_ | refine w_reg ?_ | refine l_nil ?_) | ((with_reducible refine g_on ?_); (first | ((with_reducible refine g_mv ?_); refine l_p txs rfl rfl ?_) | ((with_reducible refine g_as ?_); refine l_p txs rfl rfl ?_) | ((with_reducible refine g_ex ?_); refine l_p txs rfl rfl ?_))))
  (with_reducible refine is_l ?_); refine l_call rfl rfl (by kernel_rfl) (huhx _ (hL.below H.B)) (fun e w_ hQ => ?_)
  obtain ⟨A5, c5, rfl, K⟩ := hQ
  refine ⟨_, rfl, ?_⟩
  have H : Hp w w_ [(x3, 39, [.slice B3 n3 d3, .slice (some m3) (n3 + 1) k3]), (x2, 39, [.slice B2 n2 d2, .slice (some m2) (n2 + 1) k2]), (x1, 39, [.slice B1 n1 d1, .slice (some m1) (n1 + 1) k1])] (rowB (.slice A5 (gotL thx.size b).length c5) (gotL thx.size b) :: rowB (.slice A4 (gotL t64.size b).length c4) (gotL t64.size b) :: (P3 ++ (P2 ++ (P1 ++ ([rowN (some ⟨gw, 0, none⟩) (b.length + 400) wc (wide b 400)]))))) := H.join K
  repeat' (first | (with_reducible first | refine p_tn ?_ | refine wp_seq ?_ | refine w_reg ?_ | refine l_nil ?_) | ((with_reducible refine g_on ?_); (first | ((with_reducible refine g_mv ?_); refine l_p txs rfl rfl ?_) | ((with_reducible refine g_as ?_); refine l_p txs rfl rfl ?_) | ((with_reducible refine g_ex ?_); refine l_p txs rfl rfl ?_))))
  (with_reducible refine is_l ?_); refine l_call rfl rfl (by kernel_rfl) (huqu _ (hL.below H.B)) (fun e w_ hQ => ?_)
  obtain ⟨A6, c6, rfl, K⟩ := hQ
  refine ⟨_, rfl, ?_⟩
  have H : Hp w w_ [(x3, 39, [.slice B3 n3 d3, .slice (some m3) (n3 + 1) k3]), (x2, 39, [.slice B2 n2 d2, .slice (some m2) (n2 + 1) k2]), (x1, 39, [.slice B1 n1 d1, .slice (some m1) (n1 + 1) k1])] (rowB (.slice A6 (gotL tqu.size b).length c6) (gotL tqu.size b) :: rowB (.slice A5 (gotL thx.size b).length c5) (gotL thx.size b) :: rowB (.slice A4 (gotL t64.size b).length c4) (gotL t64.size b) :: (P3 ++ (P2 ++ (P1 ++ ([rowN (some ⟨gw, 0, none⟩) (b.length + 400) wc (wide b 400)]))))) := H.join K
  repeat' (first | (with_reducible first | refine p_tn ?_ | refine wp_seq ?_ | refine w_reg ?_ | refine l_nil ?_) | ((with_reducible refine g_on ?_); (first | ((with_reducible refine g_mv ?_); refine l_p txs rfl rfl ?_) | ((with_reducible refine g_as ?_); refine l_p txs rfl rfl ?_) | ((with_reducible refine g_ex ?_); refine l_p txs rfl rfl ?_) | ((with_reducible refine g_cl ?_); refine l_p txs rfl rfl ?_))))
  (with_reducible refine is_l ?_); refine l_callp rfl rfl (by kernel_rfl) (back_c (n := t64.size) (row_at H 2 rfl) (by omega)) ?_
  repeat' (first | ((with_reducible refine g_on ?_); (first | ((with_reducible refine g_mv ?_); refine l_p txs rfl rfl ?_) | ((with_reducible refine g_un ?_); (refine l_p txs rfl rfl ?_)))) | ((with_reducible refine g_if ?_); (first | ((with_reducible refine g_mv ?_); refine l_p txs rfl rfl ?_) | ((with_reducible refine g_cl ?_); refine l_p txs rfl rfl ?_))))
  (with_reducible refine is_l ?_); refine l_callp rfl rfl (by kernel_rfl) (back_c (n := thx.size) (row_at H 1 rfl) (by omega)) ?_
  repeat' (first | ((with_reducible refine g_on ?_); (first | ((with_reducible refine g_mv ?_); refine l_p txs rfl rfl ?_) | ((with_reducible refine g_pk ?_); refine l_p txs rfl rfl ?_))) | ((with_reducible refine g_if ?_); (first | ((with_reducible refine g_mv ?_); refine l_p txs rfl rfl ?_) | ((with_reducible refine g_un ?_); (refine l_p txs rfl rfl ?_)) | ((with_reducible refine g_cl ?_); refine l_p txs rfl rfl ?_))))
  (with_reducible refine is_l ?_); refine l_callp rfl rfl (by kernel_rfl) (back_c (n := tqu.size) (row_at H 0 rfl) (by omega)) ?_
  repeat' (first | ((with_reducible refine g_on ?_); (first | ((with_reducible refine g_mv ?_); refine l_p txs rfl rfl ?_) | ((with_reducible refine g_pk ?_); refine l_p txs rfl rfl ?_))) | ((with_reducible refine g_if ?_); (first | ((with_reducible refine g_mv ?_); refine l_p txs rfl rfl ?_) | ((with_reducible refine g_un ?_); (refine l_p txs rfl rfl ?_)))))
  (with_reducible refine is_l ?_); refine l_text rfl rfl Tryd.underlying22 Tryd.underlying5 Tryd.underlying9 (hrW H (by simp)) ?_
  repeat' ((with_reducible refine g_if ?_); ((with_reducible refine g_mv ?_); refine l_p txs rfl rfl ?_))
  (with_reducible refine is_l ?_); refine l_t txs rfl rfl (fun h => absurd rfl h) (fun _ => ?_)
  have H : Hp w w_ [(x3, 39, [.slice B3 n3 d3, .slice (some m3) (n3 + 1) k3]), (x2, 39, [.slice B2 n2 d2, .slice (some m2) (n2 + 1) k2]), (x1, 39, [.slice B1 n1 d1, .slice (some m1) (n1 + 1) k1])] (rowB (.slice A4 (gotL t64.size b).length c4) (gotL t64.size b) :: rowB (.slice A5 (gotL thx.size b).length c5) (gotL thx.size b) :: rowB (.slice A6 (gotL tqu.size b).length c6) (gotL tqu.size b) :: (P3 ++ (P2 ++ (P1 ++ ([rowN (some ⟨gw, 0, none⟩) (b.length + 400) wc (wide b 400)]))))) := Hp.keep (r := [_, _, _]) (rs := P3 ++ (P2 ++ (P1 ++ ([rowN (some ⟨gw, 0, none⟩) (b.length + 400) wc (wide b 400)])))) H [0, 1, 2] [2, 1, 0] (by decide) (by decide) rfl rfl rfl
  repeat' (first | (with_reducible first | refine p_tn ?_ | refine wp_seq ?_ | refine w_reg ?_) | (with_reducible (refine is_if ?_; (refine w_iff rfl ?_))) | (with_reducible first | refine wp_skip ?_ | refine l_nil ?_) | ((with_reducible refine g_on ?_); (first | ((with_reducible refine g_mv ?_); refine l_p txs rfl rfl ?_) | ((with_reducible refine g_pk ?_); refine l_p txs rfl rfl ?_))))
  (with_reducible refine is_l ?_); refine l_call rfl rfl (by kernel_rfl) (moved_c H 4 (by have := got_len t64.size b; omega)) (fun e w_ hQ => ?_)
  obtain ⟨⟨B4, n4, d4, m4, k4⟩, P4, rfl, hm4, H⟩ := hQ
  refine ⟨_, rfl, ?_⟩
  repeat' (first | (with_reducible first | refine p_tn ?_ | refine wp_seq ?_ | refine w_reg ?_ | refine l_nil ?_) | ((with_reducible refine g_on ?_); (first | ((with_reducible refine g_mv ?_); refine l_p txs rfl rfl ?_) | ((with_reducible refine g_st ?_); (refine h_stR recs H 0 rfl rfl rfl rfl rfl rfl rfl rfl rfl (fun w_ H => ?_))) | ((with_reducible refine g_al ?_); refine h_alloc recs H rfl rfl (fun g_ w_ H => ?_)))))
  obtain ⟨x4, hx⟩ : ∃ g, g = g_ := ⟨_, rfl⟩
  rw [← hx] at H ⊢
  clear hx
  have H : Hp w w_ [(x4, 39, [.slice B4 n4 d4, .slice (some m4) (n4 + 1) k4]), (x3, 39, [.slice B3 n3 d3, .slice (some m3) (n3 + 1) k3]), (x2, 39, [.slice B2 n2 d2, .slice (some m2) (n2 + 1) k2]), (x1, 39, [.slice B1 n1 d1, .slice (some m1) (n1 + 1) k1])] (P4 ++ (rowB (.slice A5 (gotL thx.size b).length c5) (gotL thx.size b) :: rowB (.slice A6 (gotL tqu.size b).length c6) (gotL tqu.size b) :: (P3 ++ (P2 ++ (P1 ++ ([rowN (some ⟨gw, 0, none⟩) (b.length + 400) wc (wide b 400)])))))) := H
  have H : Hp w w_ [(x4, 39, [.slice B4 n4 d4, .slice (some m4) (n4 + 1) k4]), (x3, 39, [.slice B3 n3 d3, .slice (some m3) (n3 + 1) k3]), (x2, 39, [.slice B2 n2 d2, .slice (some m2) (n2 + 1) k2]), (x1, 39, [.slice B1 n1 d1, .slice (some m1) (n1 + 1) k1])] (rowB (.slice A5 (gotL thx.size b).length c5) (gotL thx.size b) :: (P4 ++ (rowB (.slice A6 (gotL tqu.size b).length c6) (gotL tqu.size b) :: (P3 ++ (P2 ++ (P1 ++ ([rowN (some ⟨gw, 0, none⟩) (b.length + 400) wc (wide b 400)]))))))) := HpS.front H
  skip
  (with_reducible refine is_l ?_); refine l_call rfl rfl (by kernel_rfl) (moved_c H 5 (by have := got_len thx.size b; omega)) (fun e w_ hQ => ?_)
  obtain ⟨⟨B5, n5, d5, m5, k5⟩, P5, rfl, hm5, H⟩ := hQ
  refine ⟨_, rfl, ?_⟩
  repeat' (first | (with_reducible first | refine p_tn ?_ | refine wp_seq ?_ | refine w_reg ?_ | refine l_nil ?_) | ((with_reducible refine g_on ?_); (first | ((with_reducible refine g_mv ?_); refine l_p txs rfl rfl ?_) | ((with_reducible refine g_st ?_); (refine h_stR recs H 0 rfl rfl rfl rfl rfl rfl rfl rfl rfl (fun w_ H => ?_))) | ((with_reducible refine g_al ?_); refine h_alloc recs H rfl rfl (fun g_ w_ H => ?_)))))
  obtain ⟨x5, hx⟩ : ∃ g, g = g_ := ⟨_, rfl⟩
  rw [← hx] at H ⊢
  clear hx
  have H : Hp w w_ [(x5, 39, [.slice B5 n5 d5, .slice (some m5) (n5 + 1) k5]), (x4, 39, [.slice B4 n4 d4, .slice (some m4) (n4 + 1) k4]), (x3, 39, [.slice B3 n3 d3, .slice (some m3) (n3 + 1) k3]), (x2, 39, [.slice B2 n2 d2, .slice (some m2) (n2 + 1) k2]), (x1, 39, [.slice B1 n1 d1, .slice (some m1) (n1 + 1) k1])] (P5 ++ (P4 ++ (rowB (.slice A6 (gotL tqu.size b).length c6) (gotL tqu.size b) :: (P3 ++ (P2 ++ (P1 ++ ([rowN (some ⟨gw, 0, none⟩) (b.length + 400) wc (wide b 400)]))))))) := H
  have H : Hp w w_ [(x5, 39, [.slice B5 n5 d5, .slice (some m5) (n5 + 1) k5]), (x4, 39, [.slice B4 n4 d4, .slice (some m4) (n4 + 1) k4]), (x3, 39, [.slice B3 n3 d3, .slice (some m3) (n3 + 1) k3]), (x2, 39, [.slice B2 n2 d2, .slice (some m2) (n2 + 1) k2]), (x1, 39, [.slice B1 n1 d1, .slice (some m1) (n1 + 1) k1])] ((P5 ++ P4) ++ rowB (.slice A6 (gotL tqu.size b).length c6) (gotL tqu.size b) :: (P3 ++ (P2 ++ (P1 ++ ([rowN (some ⟨gw, 0, none⟩) (b.length + 400) wc (wide b 400)]))))) := by rw [List.append_assoc]; exact H
  have H : Hp w w_ [(x5, 39, [.slice B5 n5 d5, .slice (some m5) (n5 + 1) k5]), (x4, 39, [.slice B4 n4 d4, .slice (some m4) (n4 + 1) k4]), (x3, 39, [.slice B3 n3 d3, .slice (some m3) (n3 + 1) k3]), (x2, 39, [.slice B2 n2 d2, .slice (some m2) (n2 + 1) k2]), (x1, 39, [.slice B1 n1 d1, .slice (some m1) (n1 + 1) k1])] (rowB (.slice A6 (gotL tqu.size b).length c6) (gotL tqu.size b) :: ((P5 ++ P4) ++ (P3 ++ (P2 ++ (P1 ++ ([rowN (some ⟨gw, 0, none⟩) (b.length + 400) wc (wide b 400)])))))) := HpS.front H
  skip
  (with_reducible refine is_l ?_); refine l_call rfl rfl (by kernel_rfl) (moved_c H 6 (by have := got_len tqu.size b; omega)) (fun e w_ hQ => ?_)
  obtain ⟨⟨B6, n6, d6, m6, k6⟩, P6, rfl, hm6, H⟩ := hQ
  refine ⟨_, rfl, ?_⟩
  repeat' (first | (with_reducible first | refine p_tn ?_ | refine wp_seq ?_ | refine w_reg ?_ | refine l_nil ?_) | ((with_reducible refine g_on ?_); (first | ((with_reducible refine g_mv ?_); refine l_p txs rfl rfl ?_) | ((with_reducible refine g_ld ?_); (refine h_ldR recs H 5 rfl rfl rfl rfl rfl ?_)) | ((with_reducible refine g_st ?_); (refine h_stR recs H 0 rfl rfl rfl rfl rfl rfl rfl rfl rfl (fun w_ H => ?_))) | ((with_reducible refine g_al ?_); refine h_alloc recs H rfl rfl (fun g_ w_ H => ?_)))))
  obtain ⟨x6, hx⟩ : ∃ g, g = g_ := ⟨_, rfl⟩
  rw [← hx] at H ⊢
  clear hx
  have H : Hp w w_ [(x6, 39, [.slice B6 n6 d6, .slice (some m6) (n6 + 1) k6]), (x5, 39, [.slice B5 n5 d5, .slice (some m5) (n5 + 1) k5]), (x4, 39, [.slice B4 n4 d4, .slice (some m4) (n4 + 1) k4]), (x3, 39, [.slice B3 n3 d3, .slice (some m3) (n3 + 1) k3]), (x2, 39, [.slice B2 n2 d2, .slice (some m2) (n2 + 1) k2]), (x1, 39, [.slice B1 n1 d1, .slice (some m1) (n1 + 1) k1])] (P6 ++ ((P5 ++ P4) ++ (P3 ++ (P2 ++ (P1 ++ ([rowN (some ⟨gw, 0, none⟩) (b.length + 400) wc (wide b 400)])))))) := H
  have g1 := hm1.mono (RS' := P6 ++ ((P5 ++ P4) ++ (P3 ++ (P2 ++ (P1 ++ ([rowN (some ⟨gw, 0, none⟩) (b.length + 400) wc (wide b 400)])))))) (fun d hd => by simp [hd])
  have g2 := hm2.mono (RS' := P6 ++ ((P5 ++ P4) ++ (P3 ++ (P2 ++ (P1 ++ ([rowN (some ⟨gw, 0, none⟩) (b.length + 400) wc (wide b 400)])))))) (fun d hd => by simp [hd])
  have g3 := hm3.mono (RS' := P6 ++ ((P5 ++ P4) ++ (P3 ++ (P2 ++ (P1 ++ ([rowN (some ⟨gw, 0, none⟩) (b.length + 400) wc (wide b 400)])))))) (fun d hd => by simp [hd])
  have g4 := hm4.mono (RS' := P6 ++ ((P5 ++ P4) ++ (P3 ++ (P2 ++ (P1 ++ ([rowN (some ⟨gw, 0, none⟩) (b.length + 400) wc (wide b 400)])))))) (fun d hd => by simp [hd])
  have g5 := hm5.mono (RS' := P6 ++ ((P5 ++ P4) ++ (P3 ++ (P2 ++ (P1 ++ ([rowN (some ⟨gw, 0, none⟩) (b.length + 400) wc (wide b 400)])))))) (fun d hd => by simp [hd])
  have g6 := hm6.mono (RS' := P6 ++ ((P5 ++ P4) ++ (P3 ++ (P2 ++ (P1 ++ ([rowN (some ⟨gw, 0, none⟩) (b.length + 400) wc (wide b 400)])))))) (fun d hd => by simp [hd])
  have gW : rowN (some ⟨gw, 0, none⟩) (b.length + 400) wc (wide b 400) ∈ P6 ++ ((P5 ++ P4) ++ (P3 ++ (P2 ++ (P1 ++ ([rowN (some ⟨gw, 0, none⟩) (b.length + 400) wc (wide b 400)]))))) := by simp
  skip
  (with_reducible refine is_l ?_); refine l_callv rfl rfl (by kernel_rfl) (stays_c (q := ⟨B1, n1, d1, m1, k1⟩) hb (by omega) g1.1 (g1.rdA H) (g1.rdM H) (got_up 1 t64.size b)) (fun w_ K => ?_)
  have H := H.call K
  repeat' (first | ((with_reducible refine g_on ?_); (first | ((with_reducible refine g_mv ?_); refine l_p txs rfl rfl ?_) | ((with_reducible refine g_un ?_); (refine l_p txs rfl rfl ?_)))) | ((with_reducible refine g_if ?_); (first | ((with_reducible refine g_mv ?_); refine l_p txs rfl rfl ?_) | ((with_reducible refine g_ld ?_); (refine h_ldR recs H 4 rfl rfl rfl rfl rfl ?_)))))
  (with_reducible refine is_l ?_); refine l_callv rfl rfl (by kernel_rfl) (stays_c (q := ⟨B2, n2, d2, m2, k2⟩) hb (by omega) g2.1 (g2.rdA H) (g2.rdM H) (got_up 2 thx.size b)) (fun w_ K => ?_)
  have H := H.call K
  repeat' (first | ((with_reducible refine g_on ?_); (first | ((with_reducible refine g_mv ?_); refine l_p txs rfl rfl ?_) | ((with_reducible refine g_pk ?_); refine l_p txs rfl rfl ?_))) | ((with_reducible refine g_if ?_); (first | ((with_reducible refine g_mv ?_); refine l_p txs rfl rfl ?_) | ((with_reducible refine g_ld ?_); (refine h_ldR recs H 3 rfl rfl rfl rfl rfl ?_)) | ((with_reducible refine g_un ?_); (refine l_p txs rfl rfl ?_)))))
  (with_reducible refine is_l ?_); refine l_callv rfl rfl (by kernel_rfl) (stays_c (q := ⟨B3, n3, d3, m3, k3⟩) hb (by omega) g3.1 (g3.rdA H) (g3.rdM H) (got_up 3 tqu.size b)) (fun w_ K => ?_)
  have H := H.call K
  repeat' (first | (with_reducible first | refine p_tn ?_ | refine wp_seq ?_ | refine w_reg ?_) | (with_reducible (refine is_if ?_; (refine w_iff rfl ?_))) | (with_reducible first | refine wp_skip ?_ | refine l_nil ?_) | ((with_reducible refine g_on ?_); (first | ((with_reducible refine g_mv ?_); refine l_p txs rfl rfl ?_) | ((with_reducible refine g_pk ?_); refine l_p txs rfl rfl ?_) | ((with_reducible refine g_ld ?_); (refine h_ldR recs H 2 rfl rfl rfl rfl rfl ?_)))) | ((with_reducible refine g_if ?_); ((with_reducible refine g_un ?_); (refine l_p txs rfl rfl ?_))))
  (with_reducible refine is_l ?_); refine l_callv rfl rfl (by kernel_rfl) (stays_c (q := ⟨B4, n4, d4, m4, k4⟩) hb (by omega) g4.1 (g4.rdA H) (g4.rdM H) (got_up 4 t64.size b)) (fun w_ K => ?_)
  have H := H.call K
  repeat' (first | ((with_reducible refine g_on ?_); ((with_reducible refine g_mv ?_); refine l_p txs rfl rfl ?_)) | ((with_reducible refine g_if ?_); (first | ((with_reducible refine g_mv ?_); refine l_p txs rfl rfl ?_) | ((with_reducible refine g_ld ?_); (refine h_ldR recs H 1 rfl rfl rfl rfl rfl ?_)))))
  (with_reducible refine is_l ?_); refine l_callv rfl rfl (by kernel_rfl) (stays_c (q := ⟨B5, n5, d5, m5, k5⟩) hb (by omega) g5.1 (g5.rdA H) (g5.rdM H) (got_up 5 thx.size b)) (fun w_ K => ?_)
  have H := H.call K
  repeat' (first | ((with_reducible refine g_on ?_); (first | ((with_reducible refine g_mv ?_); refine l_p txs rfl rfl ?_) | ((with_reducible refine g_pk ?_); refine l_p txs rfl rfl ?_))) | ((with_reducible refine g_if ?_); (first | ((with_reducible refine g_mv ?_); refine l_p txs rfl rfl ?_) | ((with_reducible refine g_ld ?_); (refine h_ldR recs H 0 rfl rfl rfl rfl rfl ?_)))))
  (with_reducible refine is_l ?_); refine l_callv rfl rfl (by kernel_rfl) (stays_c (q := ⟨B6, n6, d6, m6, k6⟩) hb (by omega) g6.1 (g6.rdA H) (g6.rdM H) (got_up 6 tqu.size b)) (fun w_ K => ?_)
  have H := H.call K
  repeat' (first | ((with_reducible refine g_on ?_); (first | ((with_reducible refine g_mv ?_); refine l_p txs rfl rfl ?_) | ((with_reducible refine g_pk ?_); refine l_p txs rfl rfl ?_))) | ((with_reducible refine g_if ?_); ((with_reducible refine g_mv ?_); refine l_p txs rfl rfl ?_)))
  (with_reducible refine is_l ?_); refine l_callp rfl rfl (by kernel_rfl) (untouched_c hb (mem_rd H gW) hwc (by omega)) ?_
  repeat' (first | (with_reducible first | refine p_tn ?_ | refine wp_ret ?_ | refine l_nil ?_) | ((with_reducible refine g_on ?_); (first | ((with_reducible refine g_as ?_); refine l_p txs rfl rfl ?_) | ((with_reducible refine g_pk ?_); refine l_p txs rfl rfl ?_))))
  refine end1 rfl rfl ?_
  exact ⟨rfl, H.B⟩
end Go.Proofs.YtljinjgamgmocaaDoor.B
end
