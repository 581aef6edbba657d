/- Base64: the program's and the document's calls, on lists of bytes. -/
import Derived.Test.YtljinjgamgmocaaDoorPHex
namespace Go.Proofs.YtljinjgamgmocaaDoor.Pure
open Go.RowKit Go.Proofs.YtljinjgamgmocaaDoor.G Go.Proofs.YtljinjgamgmocaaDoorW.PrintWords Go.Proofs.YtljinjgamgmocaaDoorW.PrintLast Go.Proofs.YtljinjgamgmocaaDoorW.PrintMore
set_option linter.unusedSimpArgs false
set_option linter.unusedVariables false

def lettersB : ByteArray := ⟨#[65, 66, 67, 68, 69, 70, 71, 72, 73, 74, 75, 76, 77, 78, 79, 80, 81, 82, 83, 84, 85, 86, 87, 88, 89, 90, 97, 98, 99, 100, 101, 102, 103, 104, 105, 106, 107, 108, 109, 110, 111, 112, 113, 114, 115, 116, 117, 118, 119, 120, 121, 122, 48, 49, 50, 51, 52, 53, 54, 55, 56, 57, 43, 47]⟩
def lettersL : List Int := bytesOf lettersB
/-- A letter. -/
def lt (x : Int) : Int := bt lettersB x
/-- What a letter is worth; -1: it is none. -/
def val (c : Int) : Int := findI lettersL c 0
def enc64 : List Int → List Int
  | [] => []
  | [a] => [lt (a / 4), lt (a % 4 * 16), 61, 61]
  | [a, b] => [lt (a / 4), lt (a % 4 * 16 + b / 16), lt (b % 16 * 4), 61]
  | a :: b :: c :: r => lt (a / 4) :: lt (a % 4 * 16 + b / 16) :: lt (b % 16 * 4 + c / 64) :: lt (c % 64) :: enc64 r
theorem lt_all : ∀ i : Fin 64, 0 ≤ lt (i.val : Int) ∧ lt (i.val : Int) ≤ 255 ∧ val (lt (i.val : Int)) = i.val := by decide +kernel
theorem lt_at {x : Int} (h0 : 0 ≤ x) (h1 : x < 64) : 0 ≤ lt x ∧ lt x ≤ 255 ∧ val (lt x) = x := by
  obtain ⟨n, rfl⟩ := Int.eq_ofNat_of_zero_le h0
  exact lt_all ⟨n, by omega⟩
theorem val_61 : val 61 = -1 := by decide +kernel
theorem lettersL_length : lettersL.length = 64 := by decide +kernel
theorem val_cases (c : Int) : val c = -1 ∨ (0 ≤ val c ∧ val c < 64 ∧ lt (val c) = c) := by
  rcases find_range lettersL c 0 (by omega) with h | ⟨h1, h2, h3⟩
  · exact .inl h
  · rw [Int.sub_zero, show lettersL = bytesOf lettersB from rfl, rd_bytesOf] at h3
    rw [lettersL_length] at h2
    exact .inr ⟨h1, by show findI lettersL c 0 < 64; omega, h3⟩
theorem value_all : ∀ c : Fin 256, text_value.f 4 (c.val : Int) = some (val (c.val : Int)) := by decide +kernel
theorem value_f {c : Int} (h0 : 0 ≤ c) (h1 : c ≤ 255) : ∀ k, 4 ≤ k → text_value.f k c = some (val c) := by
  obtain ⟨n, rfl⟩ := Int.eq_ofNat_of_zero_le h0
  intro k hk
  exact more (text_value.mono _) (value_all ⟨n, by omega⟩) hk

theorem enc64_length : ∀ l : List Int, (enc64 l).length = (l.length + 2) / 3 * 4
  | [] => rfl
  | [_] => by simp [enc64]
  | [_, _] => by simp [enc64]
  | a :: b :: c :: r => by simp only [enc64, List.length_cons, enc64_length r]; omega
theorem enc64_append : ∀ (a b : List Int), a.length % 3 = 0 → enc64 (a ++ b) = enc64 a ++ enc64 b
  | [], _, _ => rfl
  | [_], _, h => by simp at h
  | [_, _], _, h => by simp at h
  | x :: y :: z :: a, b, h => by
    simp only [List.cons_append, enc64]
    rw [enc64_append a b (by simp only [List.length_cons] at h; omega)]
theorem enc64_bytes : ∀ {l : List Int}, Bytes l → Bytes (enc64 l)
  | [], _ => Bytes.nil
  | [a], h => by
    have ha := h a (by simp)
    have h1 := lt_at (x := a / 4) (by omega) (by omega)
    have h2 := lt_at (x := a % 4 * 16) (by omega) (by omega)
    exact Bytes.mk h1.1 h1.2.1 (Bytes.mk h2.1 h2.2.1 (Bytes.mk (by omega) (by omega) (Bytes.mk (by omega) (by omega) Bytes.nil)))
  | [a, b], h => by
    have ha := h a (by simp)
    have hb := h b (by simp)
    have h1 := lt_at (x := a / 4) (by omega) (by omega)
    have h2 := lt_at (x := a % 4 * 16 + b / 16) (by omega) (by omega)
    have h3 := lt_at (x := b % 16 * 4) (by omega) (by omega)
    exact Bytes.mk h1.1 h1.2.1 (Bytes.mk h2.1 h2.2.1 (Bytes.mk h3.1 h3.2.1 (Bytes.mk (by omega) (by omega) Bytes.nil)))
  | a :: b :: c :: r, h => by
    have ha := h a (by simp)
    have hb := h b (by simp)
    have hc := h c (by simp)
    have h1 := lt_at (x := a / 4) (by omega) (by omega)
    have h2 := lt_at (x := a % 4 * 16 + b / 16) (by omega) (by omega)
    have h3 := lt_at (x := b % 16 * 4 + c / 64) (by omega) (by omega)
    have h4 := lt_at (x := c % 64) (by omega) (by omega)
    exact Bytes.mk h1.1 h1.2.1 (Bytes.mk h2.1 h2.2.1 (Bytes.mk h3.1 h3.2.1 (Bytes.mk h4.1 h4.2.1 (enc64_bytes (fun x hx => h x (by simp [hx]))))))

theorem join {x y : Int} (i : Nat) (hi : i ≤ 62) (h0 : 0 ≤ x) (hx : x % 2 ^ i = 0) (h1 : x < 2 ^ 62) (h2 : 0 ≤ y) (h3 : y < 2 ^ i) : Go.bits .or .i64 x y = x + y :=
  bits_join .i64 62 (by decide) (fun n h0 h1 => by rw [IntKind.wrap_i64]; omega) i x y h0 hx h1 h2 h3 (by
    have : (2 : Int) ^ i ≤ 2 ^ 62 := by exact_mod_cast Nat.pow_le_pow_right (by omega) hi
    omega)
theorem mask63 {x : Int} (h0 : 0 ≤ x) (h1 : x < 2 ^ 62) : Go.bits .and .i64 x 63 = x % 64 :=
  bits_mask .i64 62 (by decide) (fun n h0 h1 => by rw [IntKind.wrap_i64]; omega) 6 (by decide) x h0 h1

theorem enc_loop : ∀ (l acc : List Int) (k : Nat), Bytes l → acc.length + 2 * l.length + 8 < 140737488355328 → l.length < k → text_EncodeBase64.l0 k l acc = some (strOfNums (acc ++ enc64 l))
  | [], acc, k, _, _, hk => by
    obtain ⟨k, rfl⟩ := rounds hk
    simp only [text_EncodeBase64.l0, List.length_nil]
    rw [if_neg (by omega), if_neg (by omega), if_neg (by omega)]
    simp [enc64]
  | [a], acc, k, hb, hl, hk => by
    obtain ⟨k, rfl⟩ := rounds hk
    have ha := hb a (by simp)
    simp only [List.length_cons, List.length_nil] at hl
    have e1 := Aside0.mk (w64 (x := a) (by omega) (by omega))
    have e2 := Aside0.mk (w64 (x := a * 65536) (by omega) (by omega))
    simp only [text_EncodeBase64.l0]
    rw [if_neg (by first | omega | (simp; done) | (simp; omega)), if_pos (by first | omega | (simp; done) | (simp; omega))]
    simp only [rd_zero, e1.out, e2.out]
    rw [mask63 (by omega) (by omega)]
    rw [show a * 65536 / 262144 = a / 4 from by omega, show a * 65536 / 4096 % 64 = a % 4 * 16 from by omega]
    rw [if_pos (by first | omega | (simp; done) | (simp; omega)), if_pos (by omega), if_pos (by omega), if_pos (by omega), if_pos (by omega)]
    try simp only [Option.bind_some]
    rw [if_pos (by first | omega | (simp; done) | (simp; omega))]
    rfl
  | [a, b], acc, k, hb, hl, hk => by
    obtain ⟨k, rfl⟩ := rounds hk
    have ha := hb a (by simp)
    have hb' := hb b (by simp)
    simp only [List.length_cons, List.length_nil] at hl
    have e1 := Aside0.mk (w64 (x := a) (by omega) (by omega))
    have e2 := Aside0.mk (w64 (x := a * 65536) (by omega) (by omega))
    have e3 := Aside0.mk (w64 (x := b) (by omega) (by omega))
    have e4 := Aside0.mk (w64 (x := b * 256) (by omega) (by omega))
    have e5 : Go.bits .or .i64 (a * 65536) (b * 256) = a * 65536 + b * 256 := join 16 (by omega) (by omega) (by omega) (by omega) (by omega) (by omega)
    simp only [text_EncodeBase64.l0]
    rw [if_neg (by first | omega | (simp; done) | (simp; omega)), if_neg (by first | omega | (simp; done) | (simp; omega)), if_pos (by first | omega | (simp; done) | (simp; omega))]
    simp only [rd_zero, rd_one, e1.out, e2.out, e3.out, e4.out, e5]
    rw [mask63 (x := (a * 65536 + b * 256) / 4096) (by omega) (by omega), mask63 (x := (a * 65536 + b * 256) / 64) (by omega) (by omega)]
    rw [show (a * 65536 + b * 256) / 262144 = a / 4 from by omega, show (a * 65536 + b * 256) / 4096 % 64 = a % 4 * 16 + b / 16 from by omega, show (a * 65536 + b * 256) / 64 % 64 = b % 16 * 4 from by omega]
    rw [if_pos (by first | omega | (simp; done) | (simp; omega)), if_pos (by first | omega | (simp; done) | (simp; omega)), if_pos (by omega), if_pos (by omega), if_pos (by omega), if_pos (by omega), if_pos (by omega), if_pos (by omega)]
    try simp only [Option.bind_some]
    rw [if_pos (by first | omega | (simp; done) | (simp; omega))]
    rfl
  | a :: b :: c :: r, acc, k, hb, hl, hk => by
    obtain ⟨k, rfl⟩ := rounds hk
    have ha := hb a (by simp)
    have hb' := hb b (by simp)
    have hc := hb c (by simp)
    simp only [List.length_cons] at hl hk
    have e1 := Aside0.mk (w64 (x := a) (by omega) (by omega))
    have e2 := Aside0.mk (w64 (x := a * 65536) (by omega) (by omega))
    have e3 := Aside0.mk (w64 (x := b) (by omega) (by omega))
    have e4 := Aside0.mk (w64 (x := b * 256) (by omega) (by omega))
    have e6 := Aside0.mk (w64 (x := c) (by omega) (by omega))
    have e5 : Go.bits .or .i64 (a * 65536) (b * 256) = a * 65536 + b * 256 := join 16 (by omega) (by omega) (by omega) (by omega) (by omega) (by omega)
    have e7 : Go.bits .or .i64 (a * 65536 + b * 256) c = a * 65536 + b * 256 + c := join 8 (by omega) (by omega) (by omega) (by omega) (by omega) (by omega)
    simp only [text_EncodeBase64.l0]
    rw [if_pos (by first | omega | (simp; done) | (simp; omega))]
    simp only [rd_zero, rd_one, rd_two, e1.out, e2.out, e3.out, e4.out, e5, e6.out, e7]
    rw [mask63 (x := (a * 65536 + b * 256 + c) / 4096) (by omega) (by omega), mask63 (x := (a * 65536 + b * 256 + c) / 64) (by omega) (by omega), mask63 (x := a * 65536 + b * 256 + c) (by omega) (by omega)]
    rw [show (a * 65536 + b * 256 + c) / 262144 = a / 4 from by omega, show (a * 65536 + b * 256 + c) / 4096 % 64 = a % 4 * 16 + b / 16 from by omega, show (a * 65536 + b * 256 + c) / 64 % 64 = b % 16 * 4 + c / 64 from by omega, show (a * 65536 + b * 256 + c) % 64 = c % 64 from by omega]
    rw [if_pos (by first | omega | (simp; done) | (simp; omega)), if_pos (by first | omega | (simp; done) | (simp; omega)), if_pos (by first | omega | (simp; done) | (simp; omega)), if_pos (by omega), if_pos (by omega), if_pos (by omega), if_pos (by omega), if_pos (by omega), if_pos (by omega), if_pos (by omega), if_pos (by omega)]
    try simp only [Option.bind_some]
    rw [if_pos (by first | omega | (simp; done) | (simp; omega)), if_pos (by first | omega | (simp; done) | (simp; omega))]
    have ih := enc_loop r (acc ++ [lt (a / 4), lt (a % 4 * 16 + b / 16), lt (b % 16 * 4 + c / 64), lt (c % 64)]) k (fun x hx => hb x (by simp [hx])) (by first | omega | (simp; done) | (simp; omega)) (by omega)
    simp only [List.drop_succ_cons, List.drop_zero]
    rw [show (acc ++ enc64 (a :: b :: c :: r)) = acc ++ [lt (a / 4), lt (a % 4 * 16 + b / 16), lt (b % 16 * 4 + c / 64), lt (c % 64)] ++ enc64 r from by simp [enc64]]
    exact ih
theorem enc64_f {l : List Int} (hb : Bytes l) (hl : l.length ≤ 70368744177600) : ∀ k, l.length < k → text_EncodeBase64.f k l = some (strOfNums (enc64 l)) := by
  intro k hk
  unfold text_EncodeBase64.f
  have h := enc_loop l [] k hb (by first | omega | (simp; done) | (simp; omega)) hk
  rw [w64 (x := (l.length : Int) + 2) (by omega) (by omega), Int.tdiv_eq_ediv_of_nonneg (by omega), w64 (x := ((l.length : Int) + 2) / 3) (by omega) (by omega), w64 (by omega) (by omega), if_pos (by omega), if_pos (by omega)]
  simpa using h

/-- Letters read, four by four. -/
def dec64 : List Int → Option (List Int)
  | [] => some []
  | [_] => none
  | [a, b] => if val a < 0 then none else if val b < 0 then none else if val b % 16 = 0 then some [val a * 4 + val b / 16] else none
  | [a, b, c] => if val a < 0 then none else if val b < 0 then none else if val c < 0 then none else if val c % 4 = 0 then some [val a * 4 + val b / 16, val b % 16 * 16 + val c / 4] else none
  | a :: b :: c :: d :: r => if val a < 0 then none else if val b < 0 then none else if val c < 0 then none else if val d < 0 then none else
      (dec64 r).map fun l => (val a * 4 + val b / 16) :: (val b % 16 * 16 + val c / 4) :: (val c % 4 * 64 + val d) :: l
def pads (n : Nat) : List Int := if n % 3 = 1 then [61, 61] else if n % 3 = 2 then [61] else []
theorem dec64_sound : ∀ (s l : List Int), dec64 s = some l → Bytes l ∧ enc64 l = s ++ pads l.length ∧ (s.length + (pads l.length).length) % 4 = 0
  | [], l, h => by
    simp only [dec64, Option.some.injEq] at h
    subst h
    exact ⟨Bytes.nil, rfl, rfl⟩
  | [_], l, h => by simp [dec64] at h
  | [a, b], l, h => by
    simp only [dec64] at h
    rcases val_cases a with ha | ⟨a0, a1, a2⟩
    · rw [if_pos (by omega)] at h; cases h
    rcases val_cases b with hb | ⟨b0, b1, b2⟩
    · rw [if_neg (by omega), if_pos (by omega)] at h; cases h
    rw [if_neg (by omega), if_neg (by omega)] at h
    split at h
    · rename_i hm
      obtain rfl := Option.some.inj h
      refine ⟨Bytes.mk (by omega) (by omega) Bytes.nil, ?_, by simp [pads]⟩
      simp only [enc64, pads, List.length_cons, List.length_nil]
      rw [show (val a * 4 + val b / 16) / 4 = val a from by omega, show (val a * 4 + val b / 16) % 4 * 16 = val b from by omega, a2, b2]
      rfl
    · cases h
  | [a, b, c], l, h => by
    simp only [dec64] at h
    rcases val_cases a with ha | ⟨a0, a1, a2⟩
    · rw [if_pos (by omega)] at h; cases h
    rcases val_cases b with hb | ⟨b0, b1, b2⟩
    · rw [if_neg (by omega), if_pos (by omega)] at h; cases h
    rcases val_cases c with hc | ⟨c0, c1, c2⟩
    · rw [if_neg (by omega), if_neg (by omega), if_pos (by omega)] at h; cases h
    rw [if_neg (by omega), if_neg (by omega), if_neg (by omega)] at h
    split at h
    · rename_i hm
      obtain rfl := Option.some.inj h
      refine ⟨Bytes.mk (by omega) (by omega) (Bytes.mk (by omega) (by omega) Bytes.nil), ?_, by simp [pads]⟩
      simp only [enc64, pads, List.length_cons, List.length_nil]
      rw [show (val a * 4 + val b / 16) / 4 = val a from by omega, show (val a * 4 + val b / 16) % 4 * 16 + (val b % 16 * 16 + val c / 4) / 16 = val b from by omega, show (val b % 16 * 16 + val c / 4) % 16 * 4 = val c from by omega, a2, b2, c2]
      rfl
    · cases h
  | a :: b :: c :: d :: r, l, h => by
    simp only [dec64] at h
    rcases val_cases a with ha | ⟨a0, a1, a2⟩
    · rw [if_pos (by omega)] at h; cases h
    rcases val_cases b with hb | ⟨b0, b1, b2⟩
    · rw [if_neg (by omega), if_pos (by omega)] at h; cases h
    rcases val_cases c with hc | ⟨c0, c1, c2⟩
    · rw [if_neg (by omega), if_neg (by omega), if_pos (by omega)] at h; cases h
    rcases val_cases d with hd | ⟨d0, d1, d2⟩
    · rw [if_neg (by omega), if_neg (by omega), if_neg (by omega), if_pos (by omega)] at h; cases h
    rw [if_neg (by omega), if_neg (by omega), if_neg (by omega), if_neg (by omega)] at h
    obtain ⟨m, hm, rfl⟩ := Option.map_eq_some_iff.1 h
    obtain ⟨h1, h2, h3⟩ := dec64_sound r m hm
    refine ⟨Bytes.mk (by omega) (by omega) (Bytes.mk (by omega) (by omega) (Bytes.mk (by omega) (by omega) h1)), ?_, ?_⟩
    · have hp : pads (m.length + 1 + 1 + 1) = pads m.length := by unfold pads; rw [show (m.length + 1 + 1 + 1) % 3 = m.length % 3 from by omega]
      simp only [enc64, List.length_cons, hp, h2, List.cons_append]
      rw [show (val a * 4 + val b / 16) / 4 = val a from by omega, show (val a * 4 + val b / 16) % 4 * 16 + (val b % 16 * 16 + val c / 4) / 16 = val b from by omega, show (val b % 16 * 16 + val c / 4) % 16 * 4 + (val c % 4 * 64 + val d) / 64 = val c from by omega, show (val c % 4 * 64 + val d) % 64 = val d from by omega, a2, b2, c2, d2]
    · have hp : pads (m.length + 1 + 1 + 1) = pads m.length := by unfold pads; rw [show (m.length + 1 + 1 + 1) % 3 = m.length % 3 from by omega]
      simp only [List.length_cons, hp]
      omega
/-- Every list of bytes: its letters without the padding. -/
theorem enc64_body : ∀ {l : List Int}, Bytes l → ∃ s, enc64 l = s ++ pads l.length ∧ dec64 s = some l ∧ (s ≠ [] → ∃ s' x, s = s' ++ [x] ∧ x ≠ 61)
  | [], _ => ⟨[], rfl, rfl, fun h => absurd rfl h⟩
  | [a], h => by
    have ha := h a (by simp)
    have h1 := lt_at (x := a / 4) (by omega) (by omega)
    have h2 := lt_at (x := a % 4 * 16) (by omega) (by omega)
    refine ⟨[lt (a / 4), lt (a % 4 * 16)], rfl, ?_, fun _ => ⟨[lt (a / 4)], _, rfl, fun e => ?_⟩⟩
    · simp only [dec64, h1.2.2, h2.2.2]
      rw [if_neg (by omega), if_neg (by omega), if_pos (by omega), show a / 4 * 4 + a % 4 * 16 / 16 = a from by omega]
    · have := h2.2.2; rw [e, val_61] at this; omega
  | [a, b], h => by
    have ha := h a (by simp)
    have hb := h b (by simp)
    have h1 := lt_at (x := a / 4) (by omega) (by omega)
    have h2 := lt_at (x := a % 4 * 16 + b / 16) (by omega) (by omega)
    have h3 := lt_at (x := b % 16 * 4) (by omega) (by omega)
    refine ⟨[lt (a / 4), lt (a % 4 * 16 + b / 16), lt (b % 16 * 4)], rfl, ?_, fun _ => ⟨[lt (a / 4), lt (a % 4 * 16 + b / 16)], _, rfl, fun e => ?_⟩⟩
    · simp only [dec64, h1.2.2, h2.2.2, h3.2.2]
      rw [if_neg (by omega), if_neg (by omega), if_neg (by omega), if_pos (by omega), show a / 4 * 4 + (a % 4 * 16 + b / 16) / 16 = a from by omega, show (a % 4 * 16 + b / 16) % 16 * 16 + b % 16 * 4 / 4 = b from by omega]
    · have := h3.2.2; rw [e, val_61] at this; omega
  | a :: b :: c :: r, h => by
    have ha := h a (by simp)
    have hb := h b (by simp)
    have hc := h c (by simp)
    have h1 := lt_at (x := a / 4) (by omega) (by omega)
    have h2 := lt_at (x := a % 4 * 16 + b / 16) (by omega) (by omega)
    have h3 := lt_at (x := b % 16 * 4 + c / 64) (by omega) (by omega)
    have h4 := lt_at (x := c % 64) (by omega) (by omega)
    obtain ⟨s, e1, e2, e3⟩ := enc64_body (l := r) (fun x hx => h x (by simp [hx]))
    have hp : pads (r.length + 1 + 1 + 1) = pads r.length := by unfold pads; rw [show (r.length + 1 + 1 + 1) % 3 = r.length % 3 from by omega]
    refine ⟨lt (a / 4) :: lt (a % 4 * 16 + b / 16) :: lt (b % 16 * 4 + c / 64) :: lt (c % 64) :: s, ?_, ?_, fun _ => ?_⟩
    · simp only [enc64, e1, List.length_cons, hp, List.cons_append]
    · simp only [dec64, h1.2.2, h2.2.2, h3.2.2, h4.2.2, e2]
      rw [if_neg (by omega), if_neg (by omega), if_neg (by omega), if_neg (by omega)]
      simp only [Option.map_some]
      rw [show a / 4 * 4 + (a % 4 * 16 + b / 16) / 16 = a from by omega, show (a % 4 * 16 + b / 16) % 16 * 16 + (b % 16 * 4 + c / 64) / 4 = b from by omega, show (b % 16 * 4 + c / 64) % 4 * 64 + c % 64 = c from by omega]
    · by_cases hs : s = []
      · subst hs
        refine ⟨[lt (a / 4), lt (a % 4 * 16 + b / 16), lt (b % 16 * 4 + c / 64)], _, rfl, fun e => ?_⟩
        have := h4.2.2; rw [e, val_61] at this; omega
      · obtain ⟨s', x, e4, e5⟩ := e3 hs
        exact ⟨lt (a / 4) :: lt (a % 4 * 16 + b / 16) :: lt (b % 16 * 4 + c / 64) :: lt (c % 64) :: s', x, by rw [e4]; rfl, e5⟩

/-! The program's reading loop: one letter. -/
theorem shr4 (x : Int) : shr .i64 x 4 = x / 16 := rfl
theorem shr2 (x : Int) : shr .i64 x 2 = x / 4 := rfl
theorem shr0 (x : Int) : shr .i64 x 0 = x / 1 := rfl
theorem shl4 : shl .i64 1 4 = 16 := by decide
theorem shl2 : shl .i64 1 2 = 4 := by decide
theorem shl0 : shl .i64 1 0 = 1 := by decide
theorem mask (i : Nat) (hi : i ≤ 62) {x m : Int} (hm : m = 2 ^ i - 1) (h0 : 0 ≤ x) (h1 : x < 2 ^ 62) : Go.bits .and .i64 x m = x % 2 ^ i := by
  rw [hm]
  exact bits_mask .i64 62 (by decide) (fun n h0 h1 => by rw [IntKind.wrap_i64]; omega) i hi x h0 h1
section
variable {s : ByteArray} {pre r : List Int} {c : Int} (hs : bytesOf s = pre ++ c :: r)
include hs
theorem dstep_bad (hv : val c < 0) (acc : List Int) (bits held : Int) (k : Nat) (hk : 4 ≤ k) :
    text_DecodeBase64.l0 (k + 1) s acc bits held (s.size : Int) (pre.length : Int) = some ([], 60) := by
  have hz := size_of hs
  simp only [List.length_append, List.length_cons] at hz
  have hb : 0 ≤ c ∧ c ≤ 255 := (bytesOf_bytes s) c (by rw [hs]; simp)
  simp only [text_DecodeBase64.l0]
  rw [if_pos (by omega), if_pos (by omega), if_pos (by omega), bt_mid hs, value_f hb.1 hb.2 k hk]
  simp only [Option.bind_some]
  rw [if_pos hv]
variable (hm : s.size ≤ 1048576)
include hm
theorem dstep_0 (hv : 0 ≤ val c) (hv' : val c < 64) (acc : List Int) (k : Nat) (hk : 4 ≤ k) :
    text_DecodeBase64.l0 (k + 1) s acc 0 0 (s.size : Int) (pre.length : Int) = text_DecodeBase64.l0 k s acc (val c) 6 (s.size : Int) ((pre ++ [c]).length : Int) := by
  have hz := size_of hs
  simp only [List.length_append, List.length_cons] at hz
  have hb : 0 ≤ c ∧ c ≤ 255 := (bytesOf_bytes s) c (by rw [hs]; simp)
  have w1 := Aside0.mk (show wrap64 ((0 : Int) + 6) = 6 by decide +kernel)
  have w2 := Aside0.mk (show wrap64 ((0 : Int) * 64) = 0 by decide +kernel)
  have w3 := Aside0.mk (show wrap64 ((pre.length : Int) + 1) = ((pre ++ [c]).length : Int) by rw [w64 (by omega) (by omega)]; simp)
  have o1 := Aside0.mk (show Go.bits .or .i64 0 (val c) = val c by rw [join 62 (by omega) (by omega) (by omega) (by omega) (by omega) (by omega)]; omega)
  simp only [text_DecodeBase64.l0]
  rw [if_pos (by omega), if_pos (by omega), if_pos (by omega), bt_mid hs, value_f hb.1 hb.2 k hk]
  simp only [Option.bind_some, w1.out, w2.out, w3.out, o1.out]
  rw [if_neg (by omega), if_neg (by omega)]
theorem dstep_n (hv : 0 ≤ val c) (hv' : val c < 64) (acc : List Int) (bits held : Int) (i : Nat) (hi : i = 0 ∨ i = 2 ∨ i = 4) (hh : held = i + 2) (h0 : 0 ≤ bits) (h1 : bits < 64) (ha : acc.length ≤ 1048576) (k : Nat) (hk : 4 ≤ k) :
    text_DecodeBase64.l0 (k + 1) s acc bits held (s.size : Int) (pre.length : Int) = text_DecodeBase64.l0 k s (acc ++ [(bits * 64 + val c) / 2 ^ i % 256]) ((bits * 64 + val c) % 2 ^ i) (i : Int) (s.size : Int) ((pre ++ [c]).length : Int) := by
  have hz := size_of hs
  simp only [List.length_append, List.length_cons] at hz
  have hb : 0 ≤ c ∧ c ≤ 255 := (bytesOf_bytes s) c (by rw [hs]; simp)
  have w1 := Aside0.mk (show wrap64 (held + 6) = (i : Int) + 8 by rw [w64 (by omega) (by omega)]; omega)
  have w2 := Aside0.mk (show wrap64 (bits * 64) = bits * 64 from w64 (by omega) (by omega))
  have w3 := Aside0.mk (show wrap64 ((pre.length : Int) + 1) = ((pre ++ [c]).length : Int) by rw [w64 (by omega) (by omega)]; simp)
  have w4 := Aside0.mk (show wrap64 ((i : Int) + 8 - 8) = (i : Int) by rw [w64 (by omega) (by omega)]; omega)
  have o1 := Aside0.mk (show Go.bits .or .i64 (bits * 64) (val c) = bits * 64 + val c from join 6 (by omega) (by omega) (by omega) (by omega) (by omega) (by omega))
  have o2 := Aside0.mk (show shr .i64 (bits * 64 + val c) (i : Int) = (bits * 64 + val c) / 2 ^ i by rcases hi with rfl | rfl | rfl <;> rfl)
  have o3 := Aside0.mk (show Go.bits .and .i64 (bits * 64 + val c) (wrap64 (shl .i64 1 (i : Int) - 1)) = (bits * 64 + val c) % 2 ^ i by
    rcases hi with rfl | rfl | rfl
    · exact mask 0 (by omega) (by decide +kernel) (by omega) (by omega)
    · exact mask 2 (by omega) (by decide +kernel) (by omega) (by omega)
    · exact mask 4 (by omega) (by decide +kernel) (by omega) (by omega))
  simp only [text_DecodeBase64.l0]
  rw [if_pos (by omega), if_pos (by omega), if_pos (by omega), bt_mid hs, value_f hb.1 hb.2 k hk]
  simp only [Option.bind_some, w1.out, w2.out, w3.out, w4.out, o1.out, o2.out, o3.out]
  rw [if_neg (by omega), if_pos (by omega), if_pos (by omega), if_pos (by omega)]
end
end Go.Proofs.YtljinjgamgmocaaDoor.Pure
