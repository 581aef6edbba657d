/- Quoted texts: what the two reading calls compute. -/
import Derived.Test.YtljinjgamgmocaaDoorPQuote
namespace Go.Proofs.YtljinjgamgmocaaDoor.Pure
open Go.RowKit Go.Proofs.YtljinjgamgmocaaDoor.G Go.Proofs.YtljinjgamgmocaaDoorW.PrintWords Go.Proofs.YtljinjgamgmocaaDoorW.PrintLast Go.Proofs.YtljinjgamgmocaaDoorW.PrintMore
set_option linter.unusedSimpArgs false
set_option linter.unusedVariables false

theorem behind {t : ByteArray} {p r : List Int} (h : bytesOf t = p ++ r) : bytesOf (t.extract p.length t.size) = r := by
  rw [bytesOf_extract, h, size_of h]
  simp
def uAns (acc : List Int) (o : Option (List Int)) : List Int × Int := match o with | some l => (acc ++ l, 0) | none => ([], 66)
theorem unq_short (n : Nat) (s : List Int) (h0 : s ≠ []) (h : s.length < 4) (hs : ∀ c r, s = c :: r → selfB c = false) : unq (n + 1) s = none := by
  match s, h0, h, hs with
  | [c], _, _, hs => simp [unq, hs c [] rfl]
  | [c, x], _, _, hs => simp [unq, hs c [x] rfl]
  | [c, x, y], _, _, hs => simp [unq, hs c [x, y] rfl]
  | _ :: _ :: _ :: _ :: _, _, h, _ => simp only [List.length_cons] at h; omega
theorem unq_other (n : Nat) (c x : Int) (r : List Int) (hs : selfB c = false) (h : ¬ (c = 92 ∧ x = 120)) : unq (n + 1) (c :: x :: r) = none := by
  simp only [unq, hs]
  rw [if_neg (by simp)]
  split
  · rename_i heq
    simp only [List.cons.injEq] at heq
    exact absurd ⟨heq.1, heq.2.1⟩ h
  · rfl
theorem str_is (t : ByteArray) (a b : Int) (h : bytesOf t = [a, b]) : (t.toList != ([92, 120] : List UInt8)) = decide (¬ (a = 92 ∧ b = 120)) := by
  have e : ([92, 120] : List UInt8) = (⟨#[92, 120]⟩ : ByteArray).toList := by decide +kernel
  have e2 : bytesOf (⟨#[92, 120]⟩ : ByteArray) = [92, 120] := by decide +kernel
  rw [Bool.eq_iff_iff, bne_iff_ne, decide_eq_true_iff, e, ne_eq, toList_iff, h, e2]
  simp
theorem uq_nil (n k : Nat) (t : ByteArray) (acc : List Int) (h : bytesOf t = []) : text_Unquote.l0 (k + 1) t acc = some (uAns acc (unq (n + 1) (bytesOf t))) := by
  rw [text_Unquote.l0, if_pos ((toList_nil_iff t).2 h), h]
  simp [uAns, unq]
theorem uq_loop (n : Nat) : ∀ (t : ByteArray) (acc : List Int) (k : Nat), t.size ≤ n → acc.length + t.size ≤ 1048576 → 2 * n + 1048710 ≤ k →
    text_Unquote.l0 k t acc = some (uAns acc (unq (n + 1) (bytesOf t))) := by
  induction n with
  | zero =>
    intro t acc k hn ha hk
    obtain ⟨k, rfl⟩ : ∃ m, k = m + 1 := ⟨k - 1, by omega⟩
    have hl := bytesOf_length t
    exact uq_nil 0 k t acc (List.length_eq_zero_iff.1 (by omega))
  | succ n ihn =>
    intro t acc k hn ha hk
    obtain ⟨k, rfl⟩ : ∃ m, k = m + 2 := ⟨k - 2, by omega⟩
    have hl := bytesOf_length t
    by_cases h0 : bytesOf t = []
    · exact uq_nil (n + 1) (k + 1) t acc h0
    rw [text_Unquote.l0]
    rw [if_neg (fun e => h0 ((toList_nil_iff t).1 e))]
    obtain ⟨c, r, hc⟩ : ∃ c r, bytesOf t = c :: r := by
      cases hb : bytesOf t with
      | nil => exact absurd hb h0
      | cons c r => exact ⟨c, r, rfl⟩
    have hz := size_of hc
    simp only [List.length_cons] at hz
    have h1 : bt t 0 = c := bt_mid (p := []) hc
    rw [if_pos (by omega), h1, itself_f]
    simp only [Option.bind_some]
    by_cases hs : selfB c = true
    · have e1 : bytesOf (t.extract 1 t.size) = r := behind (p := [c]) hc
      have e2 := bytesOf_length (t.extract 1 t.size)
      rw [e1] at e2
      have ih := ihn (t.extract 1 t.size) (acc ++ [c]) (k + 1) (by omega) (by simp; omega) (by omega)
      rw [if_pos hs, if_pos (by omega), if_pos (by omega), ih, e1, hc]
      rw [show unq (n + 1 + 1) (c :: r) = (unq (n + 1) r).map (c :: ·) from by rw [unq, if_pos hs]]
      cases unq (n + 1) r <;> simp [uAns]
    have hs' : selfB c = false := by simpa using hs
    rw [if_neg hs]
    by_cases h4 : t.size < 4
    · rw [if_pos (by omega), text_Unquote.j2, if_pos rfl, unq_short _ _ h0 (by omega) (fun c' r' e => by rw [hc] at e; obtain ⟨rfl, rfl⟩ := List.cons.inj e; exact hs')]
      rfl
    rw [if_neg (by omega), if_pos (by omega), if_pos (by omega)]
    obtain ⟨x, a, b, r', rfl⟩ : ∃ x a b r', r = x :: a :: b :: r' := by
      match r, hz with
      | [], hz => simp only [List.length_nil] at hz; omega
      | [_], hz => simp only [List.length_cons, List.length_nil] at hz; omega
      | [_, _], hz => simp only [List.length_cons, List.length_nil] at hz; omega
      | x :: a :: b :: r', _ => exact ⟨x, a, b, r', rfl⟩
    have e1 : bytesOf (t.extract 0 2) = [c, x] := by rw [bytesOf_extract, hc]; rfl
    rw [str_is _ c x e1]
    by_cases hcx : c = 92 ∧ x = 120
    · have e2 : bytesOf (t.extract 2 4) = [a, b] := by rw [bytesOf_extract, hc]; rfl
      have e3 : (t.extract 2 4).size = 2 := size_of e2
      have hT : hexTold (t.extract 2 4) = (match unhex [a, b] with | some l => (l, (0 : Int)) | none => (([] : List Int), 61)) := by
        unfold hexTold
        rw [if_neg (by omega), e2]
        cases unhex [a, b] <;> rfl
      rw [text_Unquote.j2, if_neg (by rw [decide_eq_true_iff]; exact fun h => h hcx), if_pos (by omega), if_pos (by omega), (decHex _ k (by omega)).1, hT]
      simp only [Option.bind_some]
      obtain ⟨rfl, rfl⟩ := hcx
      rw [hc]
      rcases unhex_two a b with hu | ⟨v, hu⟩
      · rw [hu]
        simp [uAns, unq, hs', hu]
      · rw [hu]
        have e4 : bytesOf (t.extract 4 t.size) = r' := behind (p := [92, 120, a, b]) hc
        have e5 := bytesOf_length (t.extract 4 t.size)
        rw [e4] at e5
        simp only [List.length_cons, List.length_nil] at hz ⊢
        have ih := ihn (t.extract 4 t.size) (acc ++ [v]) k (by omega) (by simp; omega) (by omega)
        have hq : unq (n + 1 + 1) (92 :: 120 :: a :: b :: r') = if selfB v = true then none else (unq (n + 1) r').map (v :: ·) := by simp [unq, hs', hu]
        rw [hq, if_pos trivial, if_pos (by omega), rd_zero, itself_f]
        simp only [Option.bind_some]
        by_cases hv : selfB v = true
        · rw [if_pos hv, if_pos hv]
          rfl
        · rw [if_neg hv, if_neg hv, if_pos (by omega), ih, e4]
          cases unq (n + 1) r' <;> simp [uAns]
    · rw [text_Unquote.j2, if_pos (decide_eq_true hcx), hc, unq_other _ _ _ _ hs' hcx]
      rfl

/-- What a text is read as. -/
def quoIs (s : ByteArray) (r : List Int × Int) : Prop :=
  (s.size > 1048576 ∧ r = ([], 2)) ∨ (s.size ≤ 1048576 ∧ ((∃ l, Bytes l ∧ quoteOf l = bytesOf s ∧ r = (l, 0)) ∨ ((∀ l, Bytes l → quoteOf l ≠ bytesOf s) ∧ r = ([], 66))))
theorem quoteOf_inj {a b : List Int} (ha : Bytes a) (hb : Bytes b) (h : quoteOf a = quoteOf b) : a = b := by
  simp only [quoteOf, List.cons.injEq, true_and] at h
  have h' := List.append_inj_left' h rfl
  have e1 := unq_qOf a (a.length + b.length + 1) ha (by omega)
  have e2 := unq_qOf b (a.length + b.length + 1) hb (by omega)
  rw [h', e2] at e1
  exact (Option.some.inj e1).symm
theorem quoIs_unique {s : ByteArray} {r q : List Int × Int} (h : quoIs s r) (g : quoIs s q) : r = q := by
  rcases h with ⟨h, rfl⟩ | ⟨h, h'⟩ <;> rcases g with ⟨g, rfl⟩ | ⟨g, g'⟩
  · rfl
  · omega
  · omega
  rcases h' with ⟨l, h1, h2, rfl⟩ | ⟨h1, rfl⟩ <;> rcases g' with ⟨m, g1, g2, rfl⟩ | ⟨g1, rfl⟩
  · rw [quoteOf_inj h1 g1 (h2.trans g2.symm)]
  · exact absurd h2 (g1 l h1)
  · exact absurd g2 (h1 m g1)
  · rfl
theorem unq_f (s : ByteArray) (k : Nat) (hk : 3145900 ≤ k) : ∃ r, text_Unquote.f k s = some r ∧ quoIs s r := by
  have hl := bytesOf_length s
  by_cases hm : s.size ≤ 1048576
  · have c1 : ¬ (s.size : Int) > 1048576 := by omega
    obtain ⟨k, rfl⟩ : ∃ m, k = m + 1 := ⟨k - 1, by omega⟩
    unfold text_Unquote.f
    rw [if_neg c1]
    by_cases h2 : s.size < 2
    · refine ⟨([], 66), ?_, .inr ⟨hm, .inr ⟨fun l _ e => ?_, rfl⟩⟩⟩
      · rw [if_pos (by omega), text_Unquote.j0, if_pos rfl]
      · have := congrArg List.length e
        simp only [quoteOf, List.length_cons, List.length_append, List.length_nil] at this
        omega
    rw [if_neg (by omega), if_pos (by omega)]
    have w1 := Aside0.mk (w64 (x := (s.size : Int) - 1) (by omega) (by omega))
    by_cases hf : bt s 0 = 34
    · rw [if_pos hf, w1.out, if_pos (by omega), if_pos (by omega), text_Unquote.j0]
      by_cases hg : bt s ((s.size : Int) - 1) = 34
      · have hb : bytesOf s = 34 :: (bytesOf (s.extract 1 (s.size - 1)) ++ [34]) := by
          rw [← rd_bytesOf] at hf hg
          rw [bytesOf_extract]
          match hs : bytesOf s, hl with
          | [], hl => simp at hl; omega
          | c :: r, hl =>
            simp only [List.length_cons] at hl
            rw [hs] at hf hg
            obtain rfl : c = 34 := hf
            rw [List.drop_succ_cons, List.drop_zero]
            congr 1
            have hne : r ≠ [] := fun e => by rw [e] at hl; simp at hl; omega
            have hla : r.getLast hne = 34 := by
              rw [List.getLast_eq_getElem]
              rw [← hg]
              simp only [rd, List.getD_eq_getElem?_getD]
              rw [show ((s.size : Int) - 1).toNat = (r.length - 1) + 1 from by omega, List.getElem?_cons_succ, List.getElem?_eq_getElem (by omega)]
              rfl
            refine (List.dropLast_concat_getLast hne).symm.trans ?_
            rw [hla, List.dropLast_eq_take, show s.size - 1 - 1 = r.length - 1 from by omega]
        have hz := bytesOf_length (s.extract 1 (s.size - 1))
        have he : (s.extract 1 (s.size - 1)).size = s.size - 2 := by rw [ByteArray.size_extract]; omega
        rw [hg, if_neg (by simp)]
        simp only [w1.out]
        rw [if_pos (by omega), if_pos (by omega), show ((s.size : Int) - 1).toNat = s.size - 1 from by omega, if_pos (by omega), if_pos (by omega)]
        rw [uq_loop (s.size - 2) (s.extract 1 (s.size - 1)) [] k (by omega) (by simp only [List.length_nil]; omega) (by omega)]
        refine ⟨_, rfl, .inr ⟨hm, ?_⟩⟩
        cases hu : unq (s.size - 2 + 1) (bytesOf (s.extract 1 (s.size - 1))) with
        | some l =>
          obtain ⟨h1, h2⟩ := unq_sound _ _ _ (bytesOf_bytes _) hu
          exact .inl ⟨l, h2, by rw [quoteOf, h1, hb], by simp [uAns]⟩
        | none =>
          refine .inr ⟨fun l hl' e => ?_, rfl⟩
          rw [hb, quoteOf, List.cons.injEq] at e
          have e' := List.append_inj_left' e.2 rfl
          have h1 := (qOf_length l).1
          rw [e', hz] at h1
          have := unq_qOf l (s.size - 2 + 1) hl' (by omega)
          rw [e', hu] at this
          cases this
      · refine ⟨([], 66), ?_, .inr ⟨hm, .inr ⟨fun l _ e => hg ?_, rfl⟩⟩⟩
        · rw [if_pos (by simpa using hg)]
        · have hz := size_of e.symm
          simp only [quoteOf, List.length_cons, List.length_append, List.length_nil] at hz
          rw [quoteOf] at e
          rw [show (s.size : Int) - 1 = ((34 :: qOf l).length : Int) from by simp only [List.length_cons]; omega]
          exact bt_mid (r := []) (p := 34 :: qOf l) (by rw [← e]; rfl)
    · refine ⟨([], 66), ?_, .inr ⟨hm, .inr ⟨fun l _ e => hf ?_, rfl⟩⟩⟩
      · rw [if_neg hf, text_Unquote.j0, if_pos rfl]
      · exact bt_mid (p := []) (r := qOf l ++ [34]) e.symm
  · have c1 : (s.size : Int) > 1048576 := by omega
    refine ⟨([], 2), ?_, .inl ⟨by omega, rfl⟩⟩
    unfold text_Unquote.f
    rw [if_pos c1]

/-! The document's reading call. -/
def rq : Nat → List Int → List Int → Option (List Int)
  | 0, _, _ => none
  | n + 1, rest, acc => if rest.length ≤ 1 then some acc else if rest.headD 0 = 92 ∧ 4 ≤ rest.length then
      (if findI digitsTab (rest.getD 2 0) 0 < 0 then none else if findI digitsTab (rest.getD 3 0) 0 < 0 then none else rq n (rest.drop 4) (acc ++ [(16 * findI digitsTab (rest.getD 2 0) 0 + findI digitsTab (rest.getD 3 0) 0) % 256]))
    else rq n (rest.drop 1) (acc ++ [rest.headD 0])
theorem rq_good : ∀ (n : Nat) (rest acc m : List Int), rq n rest acc = some m → Bytes acc → Bytes rest → Bytes m ∧ m.length ≤ acc.length + rest.length
  | 0, _, _, _, h, _, _ => by cases h
  | n + 1, rest, acc, m, h, ha, hr => by
    rw [rq] at h
    split at h
    · obtain rfl := Option.some.inj h; exact ⟨ha, by omega⟩
    rename_i h1
    split at h
    · split at h
      · cases h
      split at h
      · cases h
      obtain ⟨g1, g2⟩ := rq_good n _ _ m h (ha.app (Bytes.mk (by omega) (by omega) Bytes.nil)) (fun y hy => hr y (List.mem_of_mem_drop hy))
      simp only [List.length_append, List.length_cons, List.length_nil, List.length_drop] at g2
      exact ⟨g1, by omega⟩
    · have hc : 0 ≤ rest.headD 0 ∧ rest.headD 0 ≤ 255 := by
        cases rest with
        | nil => simp at h1
        | cons c r => exact hr c (by simp)
      obtain ⟨g1, g2⟩ := rq_good n _ _ m h (ha.app (Bytes.mk hc.1 hc.2 Bytes.nil)) (fun y hy => hr y (List.mem_of_mem_drop hy))
      simp only [List.length_append, List.length_cons, List.length_nil, List.length_drop] at g2
      exact ⟨g1, by omega⟩
theorem rq_qOf : ∀ (l : List Int) (n : Nat) (acc : List Int), Bytes l → l.length < n → rq n (qOf l ++ [34]) acc = some (acc ++ l)
  | [], n, acc, _, hn => by
    obtain ⟨n, rfl⟩ := rounds hn
    simp [qOf, rq]
  | c :: l, n, acc, hb, hn => by
    obtain ⟨n, rfl⟩ := rounds hn
    obtain ⟨hc, hl⟩ := hb.cons
    have ih := fun acc => rq_qOf l n acc hl (by simp only [List.length_cons] at hn; omega)
    by_cases hs : selfB c = true
    · have h92 : ¬ c = 92 := fun e => by rw [e] at hs; exact absurd hs (by decide)
      simp only [qOf, q1, if_pos hs, List.cons_append, List.nil_append]
      rw [rq, if_neg (by simp), if_neg (fun h => h92 h.1)]
      exact (ih (acc ++ [c])).trans (by simp)
    · simp only [qOf, q1, if_neg hs, List.cons_append, List.nil_append]
      have a := hx_at (x := c / 16) (by omega) (by omega)
      have b := hx_at (x := c % 16) (by omega) (by omega)
      rw [rq, if_neg (by simp), if_pos ⟨rfl, by simp⟩]
      simp only [List.getD_cons_succ, List.getD_cons_zero, List.drop_succ_cons, List.drop_zero, a.2.2.1, b.2.2.1]
      rw [if_neg (by omega), if_neg (by omega), ih, show (16 * (c / 16) + c % 16) % 256 = c from by omega]
      simp
def rAns (s : ByteArray) (o : Option (List Int)) : List Int × Int := match o with | some m => if (strOfNums (quoteOf m)).toList = s.toList then (m, 0) else ([], 66) | none => ([], 66)
theorem rq_loop (s : ByteArray) (hm : s.size ≤ 1048576) (n : Nat) : ∀ (rest pre acc : List Int) (k : Nat), bytesOf s = pre ++ rest → 1 ≤ pre.length → rest.length ≤ n + 1 → Bytes acc → acc.length + rest.length ≤ 1048576 → 2 * n + 1048600 ≤ k →
    ledgerref06_Unquote.l0 k s acc (pre.length : Int) = some (rAns s (rq (n + 1) rest acc)) := by
  have fin : ∀ (n : Nat) (rest pre acc : List Int) (k : Nat), bytesOf s = pre ++ rest → 1 ≤ pre.length → rest.length ≤ 1 → Bytes acc → acc.length ≤ 1048576 → 1048600 ≤ k →
      ledgerref06_Unquote.l0 k s acc (pre.length : Int) = some (rAns s (rq (n + 1) rest acc)) := by
    intro n rest pre acc k hs hp hr hab ha hk
    obtain ⟨k, rfl⟩ : ∃ m, k = m + 1 := ⟨k - 1, by omega⟩
    have hz := size_of hs
    rw [List.length_append] at hz
    have w1 := Aside0.mk (w64 (x := (s.size : Int) - 1) (by omega) (by omega))
    rw [ledgerref06_Unquote.l0, w1.out, if_neg (by omega), refQuote_f hab (by omega) _ (by omega), rq, if_pos hr]
    simp only [Option.bind_some, rAns]
    by_cases e : (strOfNums (quoteOf acc)).toList = s.toList
    · rw [if_pos e, if_pos e]
    · rw [if_neg e, if_neg e]
  induction n with
  | zero =>
    intro rest pre acc k hs hp hn hab ha hk
    exact fin 0 rest pre acc k hs hp hn hab (by omega) (by omega)
  | succ n ihn =>
    intro rest pre acc k hs hp hn hab ha hk
    by_cases h1 : rest.length ≤ 1
    · exact fin (n + 1) rest pre acc k hs hp h1 hab (by omega) (by omega)
    obtain ⟨k, rfl⟩ : ∃ m, k = m + 2 := ⟨k - 2, by omega⟩
    have hz := size_of hs
    rw [List.length_append] at hz
    have w1 := Aside0.mk (w64 (x := (s.size : Int) - 1) (by omega) (by omega))
    have hby := bytesOf_bytes s
    rw [hs] at hby
    obtain ⟨c, r, rfl⟩ : ∃ c r, rest = c :: r := by
      cases rest with
      | nil => exact absurd (by simp) h1
      | cons c r => exact ⟨c, r, rfl⟩
    simp only [List.length_cons] at hz hn ha h1
    have hcb := hby c (by simp)
    have w2 := Aside0.mk (show wrap64 ((pre.length : Int) + 1) = ((pre ++ [c]).length : Int) by rw [w64 (by omega) (by omega)]; simp)
    have w3 := Aside0.mk (w64 (x := (pre.length : Int) + 3) (by omega) (by omega))
    rw [ledgerref06_Unquote.l0, w1.out, if_pos (by omega), if_pos (by omega), if_pos (by omega), bt_mid hs]
    have next : ledgerref06_Unquote.j1 (k + 1) s acc (pre.length : Int) false = some (rAns s (rq (n + 1) r (acc ++ [c]))) := by
      rw [ledgerref06_Unquote.j1, if_neg (by simp), if_pos (by omega), if_pos (by omega), if_pos (by omega), bt_mid hs, w2.out]
      exact ihn r (pre ++ [c]) (acc ++ [c]) k (by rw [hs]; simp) (by simp) (by omega) (hab.app (Bytes.mk hcb.1 hcb.2 Bytes.nil)) (by simp; omega) (by omega)
    by_cases hc : c = 92
    · rw [if_pos hc, w3.out, rq, if_neg (by simp only [List.length_cons]; omega)]
      by_cases h4 : 3 ≤ r.length
      · rw [if_pos ⟨hc, by simp only [List.length_cons]; omega⟩, decide_eq_true (by omega : (pre.length : Int) + 3 < (s.size : Int))]
        obtain ⟨x, a, b, r', rfl⟩ : ∃ x a b r', r = x :: a :: b :: r' := by
          match r, h4 with
          | [], h => simp at h
          | [_], h => simp at h
          | [_, _], h => simp at h
          | x :: a :: b :: r', _ => exact ⟨x, a, b, r', rfl⟩
        simp only [List.length_cons] at hz hn ha
        simp only [List.getD_cons_succ, List.getD_cons_zero, List.drop_succ_cons, List.drop_zero]
        have hsa : bytesOf s = (pre ++ [c, x]) ++ a :: (b :: r') := by rw [hs]; simp
        have hsb : bytesOf s = (pre ++ [c, x, a]) ++ b :: r' := by rw [hs]; simp
        have hsc : bytesOf s = (pre ++ [c, x, a, b]) ++ r' := by rw [hs]; simp
        have ea : bt s ((pre.length : Int) + 2) = a := by have := bt_mid hsa; rwa [show (((pre ++ [c, x]).length : Nat) : Int) = (pre.length : Int) + 2 from by simp] at this
        have eb : bt s ((pre.length : Int) + 3) = b := by have := bt_mid hsb; rwa [show (((pre ++ [c, x, a]).length : Nat) : Int) = (pre.length : Int) + 3 from by simp] at this
        have w4 := Aside0.mk (w64 (x := (pre.length : Int) + 2) (by omega) (by omega))
        have w5 := Aside0.mk (show wrap64 ((pre.length : Int) + 4) = ((pre ++ [c, x, a, b]).length : Int) by rw [w64 (by omega) (by omega)]; simp)
        rw [ledgerref06_Unquote.j1, if_pos rfl, w4.out, w3.out, w5.out, if_pos (by omega), if_pos (by omega), ea, eb, place_hex _ _ (by omega), place_hex _ _ (by omega)]
        simp only [Option.bind_some]
        rw [if_pos (by omega), if_pos (by omega)]
        rcases digit_cases a with da | ⟨a0, a1, _⟩
        · rw [if_pos (by omega), if_pos (by omega)]; rfl
        rcases digit_cases b with db | ⟨b0, b1, _⟩
        · rw [if_neg (by omega), if_pos (by omega), if_neg (by omega), if_pos (by omega)]; rfl
        have k2 := Aside0.mk (w64 (x := 16 * findI digitsTab a 0) (by omega) (by omega))
        have k3 := Aside0.mk (w64 (x := 16 * findI digitsTab a 0 + findI digitsTab b 0) (by omega) (by omega))
        rw [if_neg (by omega), if_neg (by omega), if_pos (by omega), if_neg (by omega), if_neg (by omega), k2.out, k3.out]
        exact ihn r' (pre ++ [c, x, a, b]) (acc ++ [(16 * findI digitsTab a 0 + findI digitsTab b 0) % 256]) k hsc (by simp) (by omega) (hab.app (Bytes.mk (by omega) (by omega) Bytes.nil)) (by simp; omega) (by omega)
      · rw [if_neg (fun h => h4 (by have := h.2; simp only [List.length_cons] at this; omega)), decide_eq_false (by omega : ¬ (pre.length : Int) + 3 < (s.size : Int))]
        exact next
    · rw [if_neg hc, rq, if_neg (by simp only [List.length_cons]; omega), if_neg (fun h => hc h.1)]
      exact next
theorem refUnq_f (s : ByteArray) (k : Nat) (hk : 3145900 ≤ k) : ∃ r, ledgerref06_Unquote.f k s = some r ∧ quoIs s r := by
  have hl := bytesOf_length s
  unfold ledgerref06_Unquote.f
  by_cases hm : s.size ≤ 1048576
  · rw [if_neg (by omega)]
    cases hs : bytesOf s with
    | nil =>
      rw [hs] at hl
      simp only [List.length_nil] at hl
      obtain ⟨k, rfl⟩ : ∃ m, k = m + 1 := ⟨k - 1, by omega⟩
      have w1 := Aside0.mk (w64 (x := (s.size : Int) - 1) (by omega) (by omega))
      have e : ¬ (strOfNums (quoteOf [])).toList = s.toList := by
        rw [toList_iff, bytesOf_str (quoteOf_bytes Bytes.nil), hs]
        simp [quoteOf]
      rw [ledgerref06_Unquote.l0, w1.out, if_neg (by omega), refQuote_f Bytes.nil (by simp) _ (by simp; omega)]
      simp only [Option.bind_some]
      rw [if_neg e]
      exact ⟨_, rfl, .inr ⟨hm, .inr ⟨fun l _ h => by rw [hs] at h; simp [quoteOf] at h, rfl⟩⟩⟩
    | cons c rest =>
      rw [hs] at hl
      simp only [List.length_cons] at hl
      have h := rq_loop s hm s.size rest [c] [] k hs (by simp) (by omega) Bytes.nil (by simp only [List.length_nil]; omega) (by omega)
      have hrb : Bytes rest := by have := bytesOf_bytes s; rw [hs] at this; exact this.cons.2
      refine ⟨_, h, .inr ⟨hm, ?_⟩⟩
      have neg : ∀ m, rq (s.size + 1) rest [] = m → (∀ x, m = some x → quoteOf x ≠ bytesOf s) → ∀ l, Bytes l → quoteOf l ≠ bytesOf s := by
        intro m hm' hx l hb e
        rw [hs, quoteOf, List.cons.injEq] at e
        have h1 := (qOf_length l).1
        have h2 := congrArg List.length e.2
        simp only [List.length_append, List.length_cons, List.length_nil] at h2
        have := rq_qOf l (s.size + 1) [] hb (by omega)
        rw [e.2, hm'] at this
        exact hx l (by simpa using this) (by rw [hs, quoteOf, e.2, e.1])
      cases hr : rq (s.size + 1) rest [] with
      | none => exact .inr ⟨neg none hr (fun x e => by cases e), rfl⟩
      | some m =>
        obtain ⟨g1, g2⟩ := rq_good _ _ _ _ hr Bytes.nil hrb
        unfold rAns
        simp only
        by_cases e : (strOfNums (quoteOf m)).toList = s.toList
        · rw [if_pos e]
          rw [toList_iff, bytesOf_str (quoteOf_bytes g1)] at e
          exact .inl ⟨m, g1, e.trans (by rw [hs]), rfl⟩
        · rw [if_neg e]
          refine .inr ⟨neg _ hr (fun x hx h' => e ?_), rfl⟩
          obtain rfl := Option.some.inj hx
          rw [toList_iff, bytesOf_str (quoteOf_bytes g1)]
          exact h'
  · rw [if_pos (by omega)]
    exact ⟨_, rfl, .inl ⟨by omega, rfl⟩⟩
end Go.Proofs.YtljinjgamgmocaaDoor.Pure
