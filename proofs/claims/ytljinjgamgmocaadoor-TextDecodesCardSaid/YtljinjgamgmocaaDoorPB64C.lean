/- Base64: the document's writing and reading calls. -/
import Derived.Test.YtljinjgamgmocaaDoorPB64B
namespace Go.Proofs.YtljinjgamgmocaaDoor.Pure
open Go.RowKit Go.Proofs.YtljinjgamgmocaaDoor.G Go.Proofs.YtljinjgamgmocaaDoorW.PrintWords Go.Proofs.YtljinjgamgmocaaDoorW.PrintLast Go.Proofs.YtljinjgamgmocaaDoorW.PrintMore
set_option linter.unusedSimpArgs false
set_option linter.unusedVariables false

/-- A byte's bits, the great ones first. -/
def bits8 (x : Int) : List Int := [x / 2 ^ 7 % 2, x / 2 ^ 6 % 2, x / 2 ^ 5 % 2, x / 2 ^ 4 % 2, x / 2 ^ 3 % 2, x / 2 ^ 2 % 2, x / 2 ^ 1 % 2, x / 2 ^ 0 % 2]
def bitsOf : List Int → List Int
  | [] => []
  | x :: r => bits8 x ++ bitsOf r
theorem bitsOf_length : ∀ l, (bitsOf l).length = 8 * l.length
  | [] => rfl
  | x :: r => by simp only [bitsOf, bits8, List.length_append, List.length_cons, List.length_nil, bitsOf_length r]; omega
theorem bit_val {x : Int} (h0 : 0 ≤ x) (h1 : x ≤ 255) (j : Nat) (hj : j ≤ 7) : Int.tmod (wrap64 (shr .u8 x (IntKind.u64.wrap (j : Int)))) 2 = x / 2 ^ j % 2 := by
  have h : shr .u8 x (IntKind.u64.wrap (j : Int)) = x / 2 ^ j := by
    rcases (by omega : j = 0 ∨ j = 1 ∨ j = 2 ∨ j = 3 ∨ j = 4 ∨ j = 5 ∨ j = 6 ∨ j = 7) with rfl | rfl | rfl | rfl | rfl | rfl | rfl | rfl <;> rfl
  have h2 : 0 ≤ x / 2 ^ j := Int.ediv_nonneg h0 (by exact_mod_cast Nat.zero_le _)
  have h3 : x / 2 ^ j ≤ x := Int.ediv_le_self _ h0
  rw [h, w64 (by omega) (by omega), Int.tmod_eq_emod_of_nonneg h2]
theorem bit_step (x0 x3 : List Int) (i : Int) (j k : Nat) (hj : j ≤ 7) (h0 : 0 ≤ i) (h1 : i < x0.length) (hb : 0 ≤ rd x0 i ∧ rd x0 i ≤ 255) (hx : x3.length < 17592186044416) :
    ledgerref06_bits.l1 (k + 1) x0 x3 i (j : Int) = ledgerref06_bits.l1 k x0 (x3 ++ [rd x0 i / 2 ^ j % 2]) i ((j : Int) - 1) := by
  have e1 := Aside0.mk (bit_val hb.1 hb.2 j hj)
  have e2 := Aside0.mk (w64 (x := (j : Int) - 1) (by omega) (by omega))
  have e3 : 0 ≤ IntKind.u64.wrap (j : Int) := by rw [IntKind.wrap_u64]; omega
  simp only [ledgerref06_bits.l1, e1.out, e2.out]
  rw [if_pos (by omega), if_pos h0, if_pos h1, if_pos e3, if_pos hx]
theorem byte_step (x0 x3 : List Int) (i : Int) (k : Nat) (h0 : 0 ≤ i) (h1 : i < x0.length) (hb : 0 ≤ rd x0 i ∧ rd x0 i ≤ 255) (hx : x3.length < 17592186044400) :
    ledgerref06_bits.l1 (k + 9) x0 x3 i 7 = ledgerref06_bits.l0 k x0 (x3 ++ bits8 (rd x0 i)) (wrap64 (i + 1)) := by
  have s7 := bit_step x0 x3 i 7 (k + 8) (by omega) h0 h1 hb (by omega)
  have s6 := bit_step x0 (x3 ++ [rd x0 i / 2 ^ 7 % 2]) i 6 (k + 7) (by omega) h0 h1 hb (by simp; omega)
  have s5 := bit_step x0 (x3 ++ [rd x0 i / 2 ^ 7 % 2] ++ [rd x0 i / 2 ^ 6 % 2]) i 5 (k + 6) (by omega) h0 h1 hb (by simp; omega)
  have s4 := bit_step x0 (x3 ++ [rd x0 i / 2 ^ 7 % 2] ++ [rd x0 i / 2 ^ 6 % 2] ++ [rd x0 i / 2 ^ 5 % 2]) i 4 (k + 5) (by omega) h0 h1 hb (by simp; omega)
  have s3 := bit_step x0 (x3 ++ [rd x0 i / 2 ^ 7 % 2] ++ [rd x0 i / 2 ^ 6 % 2] ++ [rd x0 i / 2 ^ 5 % 2] ++ [rd x0 i / 2 ^ 4 % 2]) i 3 (k + 4) (by omega) h0 h1 hb (by simp; omega)
  have s2 := bit_step x0 (x3 ++ [rd x0 i / 2 ^ 7 % 2] ++ [rd x0 i / 2 ^ 6 % 2] ++ [rd x0 i / 2 ^ 5 % 2] ++ [rd x0 i / 2 ^ 4 % 2] ++ [rd x0 i / 2 ^ 3 % 2]) i 2 (k + 3) (by omega) h0 h1 hb (by simp; omega)
  have s1 := bit_step x0 (x3 ++ [rd x0 i / 2 ^ 7 % 2] ++ [rd x0 i / 2 ^ 6 % 2] ++ [rd x0 i / 2 ^ 5 % 2] ++ [rd x0 i / 2 ^ 4 % 2] ++ [rd x0 i / 2 ^ 3 % 2] ++ [rd x0 i / 2 ^ 2 % 2]) i 1 (k + 2) (by omega) h0 h1 hb (by simp; omega)
  have s0 := bit_step x0 (x3 ++ [rd x0 i / 2 ^ 7 % 2] ++ [rd x0 i / 2 ^ 6 % 2] ++ [rd x0 i / 2 ^ 5 % 2] ++ [rd x0 i / 2 ^ 4 % 2] ++ [rd x0 i / 2 ^ 3 % 2] ++ [rd x0 i / 2 ^ 2 % 2] ++ [rd x0 i / 2 ^ 1 % 2]) i 0 (k + 1) (by omega) h0 h1 hb (by simp; omega)
  refine s7.trans (s6.trans (s5.trans (s4.trans (s3.trans (s2.trans (s1.trans (s0.trans ?_)))))))
  simp only [ledgerref06_bits.l1]
  rw [if_neg (by decide)]
  simp only [List.append_assoc, List.cons_append, List.nil_append]
  rfl
theorem bits_loop : ∀ (r x0 pre x3 : List Int), x0 = pre ++ r → Bytes x0 → pre.length + r.length ≤ 1099511627776 → x3.length + 8 * r.length ≤ 8796093022208 →
    ledgerref06_bits.l0 (10 * r.length + 1) x0 x3 (pre.length : Int) = some (x3 ++ bitsOf r)
  | [], x0, pre, x3, h, hb, h1, h2 => by
    have hl : x0.length = pre.length := by rw [h]; simp
    simp only [List.length_nil, Nat.mul_zero, ledgerref06_bits.l0, bitsOf, List.append_nil]
    rw [if_neg (by omega)]
  | x :: r, x0, pre, x3, h, hb, h1, h2 => by
    simp only [List.length_cons] at h1 h2
    have hl : x0.length = pre.length + (r.length + 1) := by rw [h]; simp
    have hx : rd x0 (pre.length : Int) = x := by rw [h, rd_mid]
    have hxb : 0 ≤ x ∧ x ≤ 255 := hb x (by rw [h]; simp)
    have hw := w64 (x := (pre.length : Int) + 1) (by omega) (by omega)
    have st := byte_step x0 x3 (pre.length : Int) (10 * r.length + 1) (by omega) (by omega) (by rw [hx]; exact hxb) (by omega)
    have ih := bits_loop r x0 (pre ++ [x]) (x3 ++ bits8 x) (by rw [h]; simp) hb (by simp; omega) (by simp [bits8]; omega)
    rw [hx, hw, show (pre.length : Int) + 1 = ((pre ++ [x]).length : Int) from by simp, ih] at st
    rw [show 10 * (x :: r).length + 1 = (10 * r.length + 1 + 9) + 1 from by simp only [List.length_cons]; omega]
    rw [ledgerref06_bits.l0, if_pos (by omega), st]
    simp [bitsOf]
theorem bits_f {l : List Int} (hb : Bytes l) (hl : l.length ≤ 549755813888) : ∀ k, 10 * l.length + 1 ≤ k → ledgerref06_bits.f k l = some (bitsOf l) := by
  intro k hk
  refine more (fun k => ledgerref06_bits.mono l k) (n := 10 * l.length + 1) ?_ hk
  have := bits_loop l l [] [] rfl hb (by simp; omega) (by simp; omega)
  simpa [ledgerref06_bits.f] using this

/-! Six bits, one letter. -/
def six (a b c d e f : Int) : Int := a * 32 + b * 16 + c * 8 + d * 4 + e * 2 + f
def letters : List Int → List Int
  | a :: b :: c :: d :: e :: f :: r => lt (six a b c d e f) :: letters r
  | _ => []
/-- Each is a bit. -/
def Bits (l : List Int) : Prop := ∀ x ∈ l, 0 ≤ x ∧ x ≤ 1
theorem letter_step (x3 x4 pre r : List Int) (a b c d e f : Int) (k : Nat) (h : x3 = pre ++ a :: b :: c :: d :: e :: f :: r) (hb : Bits x3) (hl : x3.length ≤ 17592186044416) (h4 : x4.length < 140737488355328) :
    ledgerref06_EncodeBase64.l1 (k + 8) x3 x4 (pre.length : Int) = ledgerref06_EncodeBase64.l1 k x3 (x4 ++ [lt (six a b c d e f)]) ((pre ++ [a, b, c, d, e, f]).length : Int) := by
  have hz : x3.length = pre.length + (r.length + 6) := by rw [h]; simp
  have ha : 0 ≤ a ∧ a ≤ 1 := hb a (by rw [h]; simp)
  have hb' : 0 ≤ b ∧ b ≤ 1 := hb b (by rw [h]; simp)
  have hc : 0 ≤ c ∧ c ≤ 1 := hb c (by rw [h]; simp)
  have hd : 0 ≤ d ∧ d ≤ 1 := hb d (by rw [h]; simp)
  have he : 0 ≤ e ∧ e ≤ 1 := hb e (by rw [h]; simp)
  have hf : 0 ≤ f ∧ f ≤ 1 := hb f (by rw [h]; simp)
  have step : ∀ (k : Nat) (v x : Int) (j : Nat), j < 6 → 0 ≤ v → v ≤ 31 → 0 ≤ x → x ≤ 1 → rd x3 ((pre.length + j : Nat) : Int) = x → ledgerref06_EncodeBase64.l2 (k + 1) x3 x4 (pre.length : Int) v (j : Int) = ledgerref06_EncodeBase64.l2 k x3 x4 (pre.length : Int) (2 * v + x) ((j + 1 : Nat) : Int) := by
    intro k v x j hj h0 h1 h2 h3 hx
    have w1 := Aside0.mk (show wrap64 ((pre.length : Int) + (j : Int)) = ((pre.length + j : Nat) : Int) by rw [w64 (by omega) (by omega)]; omega)
    have w2 := Aside0.mk (w64 (x := 2 * v) (by omega) (by omega))
    have w3 := Aside0.mk (w64 (x := 2 * v + x) (by omega) (by omega))
    have w4 := Aside0.mk (show wrap64 ((j : Int) + 1) = ((j + 1 : Nat) : Int) by rw [w64 (by omega) (by omega)]; omega)
    simp only [ledgerref06_EncodeBase64.l2, w1.out, hx, w2.out, w3.out, w4.out]
    rw [if_pos (by omega), if_pos (by omega), if_pos (by omega)]
  have r0 : rd x3 ((pre.length + 0 : Nat) : Int) = a := by rw [h, rd_app]; rfl
  have r1 : rd x3 ((pre.length + 1 : Nat) : Int) = b := by rw [h, rd_app]; rfl
  have r2 : rd x3 ((pre.length + 2 : Nat) : Int) = c := by rw [h, rd_app]; rfl
  have r3 : rd x3 ((pre.length + 3 : Nat) : Int) = d := by rw [h, rd_app]; rfl
  have r4 : rd x3 ((pre.length + 4 : Nat) : Int) = e := by rw [h, rd_app]; rfl
  have r5 : rd x3 ((pre.length + 5 : Nat) : Int) = f := by rw [h, rd_app]; rfl
  have w6 := Aside0.mk (show wrap64 ((pre.length : Int) + 6) = ((pre ++ [a, b, c, d, e, f]).length : Int) by rw [w64 (by omega) (by omega)]; simp)
  have t0 := step (k + 6) 0 a 0 (by omega) (by omega) (by omega) ha.1 ha.2 r0
  have t1 := step (k + 5) (2 * 0 + a) b 1 (by omega) (by omega) (by omega) hb'.1 hb'.2 r1
  have t2 := step (k + 4) (2 * (2 * 0 + a) + b) c 2 (by omega) (by omega) (by omega) hc.1 hc.2 r2
  have t3 := step (k + 3) (2 * (2 * (2 * 0 + a) + b) + c) d 3 (by omega) (by omega) (by omega) hd.1 hd.2 r3
  have t4 := step (k + 2) (2 * (2 * (2 * (2 * 0 + a) + b) + c) + d) e 4 (by omega) (by omega) (by omega) he.1 he.2 r4
  have t5 := step (k + 1) (2 * (2 * (2 * (2 * (2 * 0 + a) + b) + c) + d) + e) f 5 (by omega) (by omega) (by omega) hf.1 hf.2 r5
  rw [show k + 8 = (k + 7) + 1 from rfl, ledgerref06_EncodeBase64.l1, if_pos (by omega)]
  refine t0.trans (t1.trans (t2.trans (t3.trans (t4.trans (t5.trans ?_)))))
  have hs : 2 * (2 * (2 * (2 * (2 * (2 * 0 + a) + b) + c) + d) + e) + f = six a b c d e f := by unfold six; omega
  have hs0 : 0 ≤ six a b c d e f := by unfold six; omega
  have hs1 : six a b c d e f < 64 := by unfold six; omega
  rw [hs]
  simp only [ledgerref06_EncodeBase64.l2, w6.out]
  rw [if_neg (by omega), if_pos hs0, if_pos hs1, if_pos h4]
  rfl
theorem letters_loop : ∀ (n : Nat) (r x3 x4 pre : List Int) (k : Nat), x3 = pre ++ r → r.length = 6 * n → Bits x3 → x3.length ≤ 17592186044416 → x4.length + n < 140737488355328 →
    ledgerref06_EncodeBase64.l1 (k + 1 + 8 * n) x3 x4 (pre.length : Int) = ledgerref06_EncodeBase64.l3 k (x4 ++ letters r)
  | 0, [], x3, x4, pre, k, h, hn, hb, hl, h4 => by
    have hz : x3.length = pre.length := by rw [h]; simp
    simp only [Nat.mul_zero, Nat.add_zero, ledgerref06_EncodeBase64.l1, letters, List.append_nil]
    rw [if_neg (by omega)]
  | 0, _ :: _, _, _, _, _, _, hn, _, _, _ => by simp at hn
  | n + 1, a :: b :: c :: d :: e :: f :: r, x3, x4, pre, k, h, hn, hb, hl, h4 => by
    simp only [List.length_cons] at hn
    have st := letter_step x3 x4 pre r a b c d e f (k + 1 + 8 * n) h hb hl (by omega)
    have ih := letters_loop n r x3 (x4 ++ [lt (six a b c d e f)]) (pre ++ [a, b, c, d, e, f]) k (by rw [h]; simp) (by omega) hb hl (by simp; omega)
    rw [show k + 1 + 8 * (n + 1) = k + 1 + 8 * n + 8 from by omega, st, ih]
    simp [letters]
  | n + 1, [], _, _, _, _, _, hn, _, _, _ => by simp at hn
  | n + 1, [_], _, _, _, _, _, hn, _, _, _ => by simp at hn; omega
  | n + 1, [_, _], _, _, _, _, _, hn, _, _, _ => by simp at hn; omega
  | n + 1, [_, _, _], _, _, _, _, _, hn, _, _, _ => by simp at hn; omega
  | n + 1, [_, _, _, _], _, _, _, _, _, hn, _, _, _ => by simp at hn; omega
  | n + 1, [_, _, _, _, _], _, _, _, _, _, hn, _, _, _ => by simp at hn; omega
theorem bits_bits8 (x : Int) : Bits (bits8 x) := by
  intro y hy
  simp only [bits8, List.mem_cons, List.not_mem_nil, or_false] at hy
  rcases hy with rfl | rfl | rfl | rfl | rfl | rfl | rfl | rfl <;> omega
theorem bits_bitsOf : ∀ l, Bits (bitsOf l)
  | [] => fun _ h => by cases h
  | x :: r => fun y hy => by
    simp only [bitsOf, List.mem_append] at hy
    rcases hy with h | h
    · exact bits_bits8 x y h
    · exact bits_bitsOf r y h
/-- The zeros behind the bits. -/
def zeros (n : Nat) : List Int := if n % 3 = 1 then [0, 0, 0, 0] else if n % 3 = 2 then [0, 0] else []
theorem letters_bits : ∀ {l : List Int}, Bytes l → letters (bitsOf l ++ zeros l.length) ++ pads l.length = enc64 l
  | [], _ => rfl
  | [a], h => by
    have ha := h a (by simp)
    simp only [bitsOf, bits8, zeros, pads, List.length_cons, List.length_nil, List.append_nil, List.cons_append, List.nil_append, enc64, letters]
    rw [show six (a / 2 ^ 7 % 2) (a / 2 ^ 6 % 2) (a / 2 ^ 5 % 2) (a / 2 ^ 4 % 2) (a / 2 ^ 3 % 2) (a / 2 ^ 2 % 2) = a / 4 from by unfold six; omega]
    simp only [show (0 + 1) % 3 = 1 from rfl, if_true, List.cons_append, List.nil_append, letters]
    rw [show six (a / 2 ^ 1 % 2) (a / 2 ^ 0 % 2) 0 0 0 0 = a % 4 * 16 from by unfold six; omega]
  | [a, b], h => by
    have ha := h a (by simp)
    have hb := h b (by simp)
    simp only [bitsOf, bits8, zeros, pads, List.length_cons, List.length_nil, List.append_nil, List.cons_append, List.nil_append, enc64, letters]
    simp only [show (0 + 1 + 1) % 3 = 2 from rfl, show ¬ (2 = 1) from by decide, if_true, if_false, List.cons_append, List.nil_append, letters]
    rw [show six (a / 2 ^ 7 % 2) (a / 2 ^ 6 % 2) (a / 2 ^ 5 % 2) (a / 2 ^ 4 % 2) (a / 2 ^ 3 % 2) (a / 2 ^ 2 % 2) = a / 4 from by unfold six; omega,
      show six (a / 2 ^ 1 % 2) (a / 2 ^ 0 % 2) (b / 2 ^ 7 % 2) (b / 2 ^ 6 % 2) (b / 2 ^ 5 % 2) (b / 2 ^ 4 % 2) = a % 4 * 16 + b / 16 from by unfold six; omega,
      show six (b / 2 ^ 3 % 2) (b / 2 ^ 2 % 2) (b / 2 ^ 1 % 2) (b / 2 ^ 0 % 2) 0 0 = b % 16 * 4 from by unfold six; omega]
  | a :: b :: c :: r, h => by
    have ha := h a (by simp)
    have hb := h b (by simp)
    have hc := h c (by simp)
    have ih := letters_bits (l := r) (fun x hx => h x (by simp [hx]))
    have hp : pads (r.length + 1 + 1 + 1) = pads r.length := by unfold pads; rw [show (r.length + 1 + 1 + 1) % 3 = r.length % 3 from by omega]
    have hq : zeros (r.length + 1 + 1 + 1) = zeros r.length := by unfold zeros; rw [show (r.length + 1 + 1 + 1) % 3 = r.length % 3 from by omega]
    simp only [bitsOf, bits8, List.length_cons, hp, hq, List.append_nil, List.cons_append, List.nil_append, enc64, letters]
    rw [ih, show six (a / 2 ^ 7 % 2) (a / 2 ^ 6 % 2) (a / 2 ^ 5 % 2) (a / 2 ^ 4 % 2) (a / 2 ^ 3 % 2) (a / 2 ^ 2 % 2) = a / 4 from by unfold six; omega,
      show six (a / 2 ^ 1 % 2) (a / 2 ^ 0 % 2) (b / 2 ^ 7 % 2) (b / 2 ^ 6 % 2) (b / 2 ^ 5 % 2) (b / 2 ^ 4 % 2) = a % 4 * 16 + b / 16 from by unfold six; omega,
      show six (b / 2 ^ 3 % 2) (b / 2 ^ 2 % 2) (b / 2 ^ 1 % 2) (b / 2 ^ 0 % 2) (c / 2 ^ 7 % 2) (c / 2 ^ 6 % 2) = b % 16 * 4 + c / 64 from by unfold six; omega,
      show six (c / 2 ^ 5 % 2) (c / 2 ^ 4 % 2) (c / 2 ^ 3 % 2) (c / 2 ^ 2 % 2) (c / 2 ^ 1 % 2) (c / 2 ^ 0 % 2) = c % 64 from by unfold six; omega]
theorem letters_length : ∀ (n : Nat) (r : List Int), r.length = 6 * n → (letters r).length = n
  | 0, [], _ => rfl
  | 0, _ :: _, h => by simp at h
  | n + 1, a :: b :: c :: d :: e :: f :: r, h => by
    simp only [List.length_cons] at h
    simp only [letters, List.length_cons, letters_length n r (by omega)]
  | n + 1, [], h => by simp at h
  | n + 1, [_], h => by simp at h; omega
  | n + 1, [_, _], h => by simp at h; omega
  | n + 1, [_, _, _], h => by simp at h; omega
  | n + 1, [_, _, _, _], h => by simp at h; omega
  | n + 1, [_, _, _, _, _], h => by simp at h; omega
theorem pad_step (k : Nat) (x : List Int) (h : (x.length : Int) % 4 ≠ 0) (hl : x.length < 140737488355328) : ledgerref06_EncodeBase64.l3 (k + 1) x = ledgerref06_EncodeBase64.l3 k (x ++ [61]) := by
  rw [ledgerref06_EncodeBase64.l3, if_neg h, if_pos hl]
theorem pad_end (k : Nat) (x : List Int) (h : (x.length : Int) % 4 = 0) : ledgerref06_EncodeBase64.l3 (k + 1) x = some (strOfNums x) := by
  rw [ledgerref06_EncodeBase64.l3, if_pos h]
theorem zero_step (k : Nat) (x : List Int) (h : (x.length : Int) % 6 ≠ 0) (hl : x.length < 17592186044416) : ledgerref06_EncodeBase64.l0 (k + 1) x = ledgerref06_EncodeBase64.l0 k (x ++ [0]) := by
  rw [ledgerref06_EncodeBase64.l0, if_neg h, if_pos hl]
theorem zero_end (k : Nat) (x : List Int) (h : (x.length : Int) % 6 = 0) : ledgerref06_EncodeBase64.l0 (k + 1) x = ledgerref06_EncodeBase64.l1 k x [] 0 := by
  rw [ledgerref06_EncodeBase64.l0, if_pos h]
theorem refEnc_tail (b : List Int) (n m k : Nat) (hm : b.length = 6 * m) (hb : Bits b) (hl : m ≤ 1099511627776) (hp : (m + (pads n).length) % 4 = 0) :
    ledgerref06_EncodeBase64.l1 (k + 3 + 1 + 8 * m) b [] 0 = some (strOfNums (letters b ++ pads n)) := by
  have h := letters_loop m b b [] [] (k + 3) rfl hm hb (by omega) (by simp; omega)
  simp only [List.length_nil, List.nil_append] at h
  have hz := letters_length m b hm
  refine h.trans ?_
  rcases pads_cases n with e | e | e <;> rw [e] at hp ⊢ <;> simp only [List.length_nil, List.length_cons] at hp
  · rw [pad_end _ _ (by omega), List.append_nil]
  · rw [pad_step _ _ (by omega) (by omega), pad_end _ _ (by simp; omega)]
  · rw [pad_step _ _ (by omega) (by omega), pad_step _ _ (by simp; omega) (by simp; omega), pad_end _ _ (by simp; omega)]
    simp
theorem refEnc_f {l : List Int} (hb : Bytes l) (hl : l.length ≤ 549755813888) : ∀ k, 30 * l.length + 40 ≤ k → ledgerref06_EncodeBase64.f k l = some (strOfNums (enc64 l)) := by
  intro k hk
  refine more (fun k => ledgerref06_EncodeBase64.mono l k) (n := 30 * l.length + 40) ?_ hk
  unfold ledgerref06_EncodeBase64.f
  rw [bits_f hb hl _ (by omega)]
  simp only [Option.bind_some]
  have hz := bitsOf_length l
  have hbb : Bits (bitsOf l ++ zeros l.length) := fun x hx => by
    rcases List.mem_append.1 hx with h | h
    · exact bits_bitsOf l x h
    · unfold zeros at h
      split at h
      · simp at h; omega
      split at h
      · simp at h; omega
      · cases h
  rw [← letters_bits hb]
  have hmore : ∀ n k b r, ledgerref06_EncodeBase64.l1 n b [] 0 = some r → n ≤ k → ledgerref06_EncodeBase64.l1 k b [] 0 = some r := fun n k b r h hk => more (fun k => (ledgerref06_EncodeBase64.mono_l k).2.1 b [] 0) h hk
  rcases (by omega : l.length % 3 = 0 ∨ l.length % 3 = 1 ∨ l.length % 3 = 2) with h | h | h
  · have e1 : zeros l.length = [] := by unfold zeros; rw [if_neg (by omega), if_neg (by omega)]
    have e2 : pads l.length = [] := by unfold pads; rw [if_neg (by omega), if_neg (by omega)]
    have t := refEnc_tail (bitsOf l ++ zeros l.length) l.length (4 * (l.length / 3)) 0 (by rw [e1]; simp [hz]; omega) hbb (by omega) (by rw [e2]; simp)
    rw [e1, List.append_nil] at t ⊢
    rw [show 30 * l.length + 40 = (30 * l.length + 39) + 1 from rfl, zero_end _ _ (by omega)]
    exact hmore _ _ _ _ t (by omega)
  · have e1 : zeros l.length = [0, 0, 0, 0] := by unfold zeros; rw [if_pos (by omega)]
    have e2 : pads l.length = [61, 61] := by unfold pads; rw [if_pos (by omega)]
    have t := refEnc_tail (bitsOf l ++ zeros l.length) l.length (4 * (l.length / 3) + 2) 0 (by rw [e1]; simp [hz]; omega) hbb (by omega) (by rw [e2]; simp; omega)
    rw [e1] at t ⊢
    rw [show 30 * l.length + 40 = (30 * l.length + 35) + 1 + 1 + 1 + 1 + 1 from rfl, zero_step _ _ (by omega) (by omega), zero_step _ _ (by simp; omega) (by simp; omega), zero_step _ _ (by simp; omega) (by simp; omega), zero_step _ _ (by simp; omega) (by simp; omega), zero_end _ _ (by simp; omega)]
    simp only [List.append_assoc, List.cons_append, List.nil_append]
    exact hmore _ _ _ _ t (by omega)
  · have e1 : zeros l.length = [0, 0] := by unfold zeros; rw [if_neg (by omega), if_pos (by omega)]
    have e2 : pads l.length = [61] := by unfold pads; rw [if_neg (by omega), if_pos (by omega)]
    have t := refEnc_tail (bitsOf l ++ zeros l.length) l.length (4 * (l.length / 3) + 3) 0 (by rw [e1]; simp [hz]; omega) hbb (by omega) (by rw [e2]; simp; omega)
    rw [e1] at t ⊢
    rw [show 30 * l.length + 40 = (30 * l.length + 37) + 1 + 1 + 1 from rfl, zero_step _ _ (by omega) (by omega), zero_step _ _ (by simp; omega) (by simp; omega), zero_end _ _ (by simp; omega)]
    simp only [List.append_assoc, List.cons_append, List.nil_append]
    exact hmore _ _ _ _ t (by omega)

/-! The document's reading call: what is no letter is passed over; the text must be what is written of the outcome. -/
def go : List Int → List Int → Int → Int → List Int
  | [], acc, _, _ => acc
  | c :: r, acc, h, b => if val c < 0 then go r acc h b else if 8 ≤ h + 6 then go r (acc ++ [(b % 256 * 64 + val c) / 2 ^ (h - 2).toNat % 256]) (h - 2) (b % 256 * 64 + val c) else go r acc (h + 6) (b % 256 * 64 + val c)
theorem go_bytes : ∀ (r acc : List Int) (h b : Int), Bytes acc → Bytes (go r acc h b)
  | [], _, _, _, ha => ha
  | c :: r, acc, h, b, ha => by
    unfold go
    split
    · exact go_bytes r _ _ _ ha
    split
    · exact go_bytes r _ _ _ (ha.app (Bytes.mk (by omega) (by omega) Bytes.nil))
    · exact go_bytes r _ _ _ ha
theorem go_length : ∀ (r acc : List Int) (h b : Int), (go r acc h b).length ≤ acc.length + r.length
  | [], _, _, _ => by simp [go]
  | c :: r, acc, h, b => by
    unfold go
    simp only [List.length_cons]
    split
    · have := go_length r acc h b; omega
    split
    · have := go_length r (acc ++ [(b % 256 * 64 + val c) / 2 ^ (h - 2).toNat % 256]) (h - 2) (b % 256 * 64 + val c)
      simp only [List.length_append, List.length_cons, List.length_nil] at this
      omega
    · have := go_length r acc (h + 6) (b % 256 * 64 + val c); omega
theorem go_0 {x : Int} (h0 : 0 ≤ x) (h1 : x < 64) (r acc : List Int) (b : Int) : go (lt x :: r) acc 0 b = go r acc 6 (b % 256 * 64 + x) := by
  rw [go, (lt_at h0 h1).2.2, if_neg (by omega), if_neg (by omega)]
  rfl
theorem go_n {x : Int} (h0 : 0 ≤ x) (h1 : x < 64) (r acc : List Int) (b : Int) (i : Nat) : go (lt x :: r) acc ((i : Int) + 2) b = go r (acc ++ [(b % 256 * 64 + x) / 2 ^ i % 256]) (i : Int) (b % 256 * 64 + x) := by
  rw [go, (lt_at h0 h1).2.2, if_neg (by omega), if_pos (by omega), show (i : Int) + 2 - 2 = i from by omega, Int.toNat_natCast]
theorem go_61 (r acc : List Int) (h b : Int) : go (61 :: r) acc h b = go r acc h b := by
  rw [go, val_61, if_pos (by omega)]
theorem go_enc : ∀ (l acc : List Int) (b : Int), Bytes l → go (enc64 l) acc 0 b = acc ++ l
  | [], acc, b, _ => by simp [enc64, go]
  | [x], acc, b, h => by
    have hx := h x (by simp)
    simp only [enc64]
    rw [go_0 (by omega) (by omega), show (6 : Int) = ((4 : Nat) : Int) + 2 from rfl, go_n (by omega) (by omega), go_61, go_61]
    rw [go, show ((b % 256 * 64 + x / 4) % 256 * 64 + x % 4 * 16) / 2 ^ 4 % 256 = x from by omega]
  | [x, y], acc, b, h => by
    have hx := h x (by simp)
    have hy := h y (by simp)
    simp only [enc64]
    rw [go_0 (by omega) (by omega), show (6 : Int) = ((4 : Nat) : Int) + 2 from rfl, go_n (by omega) (by omega), show ((4 : Nat) : Int) = ((2 : Nat) : Int) + 2 from rfl, go_n (by omega) (by omega), go_61]
    rw [go, show ((b % 256 * 64 + x / 4) % 256 * 64 + (x % 4 * 16 + y / 16)) / 2 ^ 4 % 256 = x from by omega, show (((b % 256 * 64 + x / 4) % 256 * 64 + (x % 4 * 16 + y / 16)) % 256 * 64 + y % 16 * 4) / 2 ^ 2 % 256 = y from by omega]
    simp
  | x :: y :: z :: r, acc, b, h => by
    have hx := h x (by simp)
    have hy := h y (by simp)
    have hz := h z (by simp)
    simp only [enc64]
    rw [go_0 (by omega) (by omega), show (6 : Int) = ((4 : Nat) : Int) + 2 from rfl, go_n (by omega) (by omega), show ((4 : Nat) : Int) = ((2 : Nat) : Int) + 2 from rfl, go_n (by omega) (by omega), show ((2 : Nat) : Int) = ((0 : Nat) : Int) + 2 from rfl, go_n (by omega) (by omega)]
    rw [show ((0 : Nat) : Int) = 0 from rfl, go_enc r _ _ (fun x hx => h x (by simp [hx]))]
    rw [show ((b % 256 * 64 + x / 4) % 256 * 64 + (x % 4 * 16 + y / 16)) / 2 ^ 4 % 256 = x from by omega, show (((b % 256 * 64 + x / 4) % 256 * 64 + (x % 4 * 16 + y / 16)) % 256 * 64 + (y % 16 * 4 + z / 64)) / 2 ^ 2 % 256 = y from by omega, show ((((b % 256 * 64 + x / 4) % 256 * 64 + (x % 4 * 16 + y / 16)) % 256 * 64 + (y % 16 * 4 + z / 64)) % 256 * 64 + z % 64) / 2 ^ 0 % 256 = z from by omega]
    simp
theorem place_letters (c : Int) : ∀ k, 64 < k → ledgerref06_place.f k lettersB c = some (val c) := by
  intro k hk
  unfold ledgerref06_place.f
  exact place_loop _ c lettersL [] k rfl (by decide) hk
theorem refDec_loop : ∀ (r acc pre : List Int) (s : ByteArray) (h b : Int) (k : Nat), bytesOf s = pre ++ r → s.size ≤ 1048576 → 0 ≤ h → h ≤ 7 → 0 ≤ b → b ≤ 32768 → acc.length + r.length ≤ 1048576 → 70 ≤ k →
    ledgerref06_DecodeBase64.l0 (k + r.length + 1) s acc h b (pre.length : Int) = (ledgerref06_EncodeBase64.f k (go r acc h b)).bind fun t => if t.toList = s.toList then some (go r acc h b, 0) else some (([] : List Int), 60)
  | [], acc, pre, s, h, b, k, hs, hm, h0, h6, b0, b1, ha, hk => by
    have hz := size_of hs
    simp only [List.append_nil] at hz
    simp only [List.length_nil, Nat.add_zero, ledgerref06_DecodeBase64.l0, go]
    rw [if_neg (by omega)]
  | c :: r, acc, pre, s, h, b, k, hs, hm, h0, h6, b0, b1, ha, hk => by
    have hz := size_of hs
    simp only [List.length_append, List.length_cons] at hz ha
    have hs' : bytesOf s = (pre ++ [c]) ++ r := by rw [hs]; simp
    have w3 := Aside0.mk (show wrap64 ((pre.length : Int) + 1) = ((pre ++ [c]).length : Int) by rw [w64 (by omega) (by omega)]; simp)
    have hp := place_letters c (k + r.length + 1) (by omega)
    have hl : (⟨#[65, 66, 67, 68, 69, 70, 71, 72, 73, 74, 75, 76, 77, 78, 79, 80, 81, 82, 83, 84, 85, 86, 87, 88, 89, 90, 97, 98, 99, 100, 101, 102, 103, 104, 105, 106, 107, 108, 109, 110, 111, 112, 113, 114, 115, 116, 117, 118, 119, 120, 121, 122, 48, 49, 50, 51, 52, 53, 54, 55, 56, 57, 43, 47]⟩ : ByteArray) = lettersB := rfl
    rw [show k + (c :: r).length + 1 = (k + r.length + 1) + 1 from rfl, ledgerref06_DecodeBase64.l0, go, if_pos (by omega), if_pos (by omega), bt_mid hs, hl, hp]
    simp only [Option.bind_some, w3.out]
    rcases val_cases c with hv | ⟨v0, v1, _⟩
    · rw [if_pos (by omega), if_pos (by omega)]
      exact refDec_loop r acc _ s h b k hs' hm h0 h6 b0 b1 (by omega) hk
    have t1 := Aside0.mk (show Int.tmod b 256 = b % 256 from Int.tmod_eq_emod_of_nonneg b0)
    have w4 := Aside0.mk (w64 (x := h + 6) (by omega) (by omega))
    have w5 := Aside0.mk (w64 (x := h + 6 - 8) (by omega) (by omega))
    have w6 := Aside0.mk (w64 (x := b % 256 * 64) (by omega) (by omega))
    have w7 := Aside0.mk (w64 (x := b % 256 * 64 + val c) (by omega) (by omega))
    simp only [t1.out, w4.out, w5.out, w6.out, w7.out]
    by_cases e : 8 ≤ h + 6
    · have w8 := Aside0.mk (show IntKind.u64.wrap (h + 6 - 8) = h - 2 by rw [IntKind.wrap_u64]; omega)
      have w9 := Aside0.mk (show shr .i64 (b % 256 * 64 + val c) (h - 2) = (b % 256 * 64 + val c) / 2 ^ (h - 2).toNat by
        rcases (by omega : h - 2 = 0 ∨ h - 2 = 1 ∨ h - 2 = 2 ∨ h - 2 = 3 ∨ h - 2 = 4 ∨ h - 2 = 5) with e' | e' | e' | e' | e' | e' <;> rw [e'] <;> rfl)
      simp only [w8.out, w9.out]
      rw [if_neg (by omega), if_pos (by omega), if_pos (by omega), if_pos (by omega), if_neg (by omega), if_pos e, show h + 6 - 8 = h - 2 from by omega]
      exact refDec_loop r _ _ s (h - 2) _ k hs' hm (by omega) (by omega) (by omega) (by omega) (by simp; omega) hk
    · rw [if_neg (by omega), if_neg (by omega), if_neg (by omega), if_neg e]
      exact refDec_loop r acc _ s (h + 6) _ k hs' hm (by omega) (by omega) (by omega) (by omega) (by omega) hk
theorem refDec_f (s : ByteArray) : ∀ k, 40 * s.size + 80 ≤ k → ∃ r, ledgerref06_DecodeBase64.f k s = some r ∧ b64Is s r := by
  intro k hk
  unfold ledgerref06_DecodeBase64.f
  by_cases hm : s.size ≤ 1048576
  · rw [if_neg (by omega)]
    have hl := bytesOf_length s
    have hg := go_bytes (bytesOf s) [] 0 0 Bytes.nil
    have hgl := go_length (bytesOf s) [] 0 0
    simp only [List.length_nil, Nat.zero_add] at hgl
    obtain ⟨j, rfl⟩ : ∃ j, k = j + (bytesOf s).length + 1 := ⟨k - (bytesOf s).length - 1, by omega⟩
    have h := refDec_loop (bytesOf s) [] [] s 0 0 j rfl hm (by omega) (by omega) (by omega) (by omega) (by simp only [List.length_nil]; omega) (by omega)
    rw [refEnc_f hg (by omega) j (by omega)] at h
    simp only [Option.bind_some, List.length_nil] at h
    by_cases e : (strOfNums (enc64 (go (bytesOf s) [] 0 0))).toList = s.toList
    · rw [if_pos e] at h
      refine ⟨_, h, .inr ⟨hm, .inl ⟨_, hg, ?_, rfl⟩⟩⟩
      rw [toList_iff, bytesOf_str (enc64_bytes hg)] at e
      exact e
    · rw [if_neg e] at h
      refine ⟨_, h, .inr ⟨hm, .inr ⟨fun l hb hl => e ?_, rfl⟩⟩⟩
      rw [toList_iff, bytesOf_str (enc64_bytes hg), ← hl, go_enc l [] 0 hb]
      rfl
  · rw [if_pos (by omega)]
    exact ⟨_, rfl, .inl ⟨by omega, rfl⟩⟩
end Go.Proofs.YtljinjgamgmocaaDoor.Pure
