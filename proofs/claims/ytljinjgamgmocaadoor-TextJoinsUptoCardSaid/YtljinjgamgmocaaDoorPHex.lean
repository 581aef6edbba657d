/- Hexadecimal: the program's and the document's calls, each on lists of bytes. -/
import Derived.Test.YtljinjgamgmocaaDoorPBase
import Derived.Test.YtljinjgamgmocaaDoorGxD1
import Derived.Test.YtljinjgamgmocaaDoorGxD2
namespace Go.Proofs.YtljinjgamgmocaaDoor.Pure
open Go.RowKit Go.Proofs.YtljinjgamgmocaaDoor.G Go.Proofs.YtljinjgamgmocaaDoorW.PrintWords Go.Proofs.YtljinjgamgmocaaDoorW.PrintLast Go.Proofs.YtljinjgamgmocaaDoorW.PrintMore
set_option linter.unusedSimpArgs false
set_option linter.unusedVariables false

/-- One digit of hexadecimal. -/
def hx (x : Int) : Int := rd digitsTab x
def hexOf : List Int → List Int
  | [] => []
  | x :: r => hx (x / 16) :: hx (x % 16) :: hexOf r
theorem hexOf_length : ∀ l, (hexOf l).length = 2 * l.length
  | [] => rfl
  | x :: r => by simp only [hexOf, List.length_cons, hexOf_length r]; omega
theorem hexOf_append : ∀ a b, hexOf (a ++ b) = hexOf a ++ hexOf b
  | [], _ => rfl
  | x :: a, b => by simp only [hexOf, List.cons_append, hexOf_append a b]
theorem hx_all : ∀ i : Fin 16, 0 ≤ hx (i.val : Int) ∧ hx (i.val : Int) ≤ 255 ∧ findI digitsTab (hx (i.val : Int)) 0 = i.val ∧ hx (i.val : Int) = bt (⟨#[48, 49, 50, 51, 52, 53, 54, 55, 56, 57, 97, 98, 99, 100, 101, 102]⟩ : ByteArray) (i.val : Int) := by decide +kernel
theorem hx_at {x : Int} (h0 : 0 ≤ x) (h1 : x < 16) : 0 ≤ hx x ∧ hx x ≤ 255 ∧ findI digitsTab (hx x) 0 = x ∧ hx x = bt (⟨#[48, 49, 50, 51, 52, 53, 54, 55, 56, 57, 97, 98, 99, 100, 101, 102]⟩ : ByteArray) x := by
  obtain ⟨n, rfl⟩ := Int.eq_ofNat_of_zero_le h0
  exact hx_all ⟨n, by omega⟩
theorem hexOf_bytes : ∀ {l}, Bytes l → Bytes (hexOf l)
  | [], _ => Bytes.nil
  | x :: r, h => by
    obtain ⟨hx', hr⟩ := h.cons
    have a := hx_at (x := x / 16) (by omega) (by omega)
    have b := hx_at (x := x % 16) (by omega) (by omega)
    exact Bytes.mk a.1 a.2.1 (Bytes.mk b.1 b.2.1 (hexOf_bytes hr))

theorem encHex_loop (suf : List Int) : ∀ (pre acc : List Int) (k : Nat), Bytes suf → (pre.length + suf.length : Nat) ≤ 70368744177664 → acc.length + 2 * suf.length < 140737488355328 → suf.length < k →
    text_EncodeHex.l0 k acc (pre ++ suf) ((pre.length + suf.length : Nat) : Int) (pre.length : Int) = some (strOfNums (acc ++ hexOf suf)) := by
  induction suf with
  | nil =>
    intro pre acc k _ _ _ hk
    obtain ⟨k, rfl⟩ := rounds hk
    simp only [text_EncodeHex.l0]
    rw [if_neg (by simp)]
    simp [hexOf]
  | cons x r ih =>
    intro pre acc k hb hl ha hk
    obtain ⟨k, rfl⟩ := rounds hk
    obtain ⟨hx', hr⟩ := hb.cons
    simp only [List.length_cons] at hl ha hk ⊢
    simp only [text_EncodeHex.l0]
    rw [if_pos (by omega), if_pos (by omega), if_pos (by first | omega | (simp; done) | (simp; omega)), rd_mid, u8_and15 _ hx'.1 (by omega), if_pos (by omega), if_pos (by omega), if_pos (by omega), if_pos (by omega)]
    simp only [Option.bind_some, List.length_cons, List.length_nil]
    rw [if_pos (by omega), w64 (by omega) (by omega)]
    have h := ih (pre ++ [x]) (acc ++ [hx (x / 16), hx (x % 16)]) k hr (by simp; omega) (by simp; omega) (by omega)
    simp only [List.length_append, List.length_cons, List.length_nil, List.append_assoc, List.cons_append, List.nil_append] at h
    rw [show ((pre.length + (r.length + 1) : Nat) : Int) = ((pre.length + (0 + 1) + r.length : Nat) : Int) from by omega, show (pre.length : Int) + 1 = ((pre.length + (0 + 1) : Nat) : Int) from by omega]
    exact h
theorem encHex {l : List Int} (hb : Bytes l) (hl : l.length ≤ 70368744177663) : ∀ k, l.length < k → text_EncodeHex.f k l = some (strOfNums (hexOf l)) := by
  intro k hk
  unfold text_EncodeHex.f
  rw [w64 (by omega) (by omega), if_pos (by omega), if_pos (by omega)]
  have h := encHex_loop l [] [] k hb (by simp; omega) (by simp; omega) hk
  simpa using h

theorem refHex_loop (suf : List Int) : ∀ (pre acc : List Int) (k : Nat), Bytes suf → (pre.length + suf.length : Nat) ≤ 70368744177664 → acc.length + 2 * suf.length < 140737488355328 → suf.length < k →
    ledgerref06_EncodeHex.l0 k (pre ++ suf) acc (pre.length : Int) = some (strOfNums (acc ++ hexOf suf)) := by
  induction suf with
  | nil =>
    intro pre acc k _ _ _ hk
    obtain ⟨k, rfl⟩ := rounds hk
    simp only [ledgerref06_EncodeHex.l0]
    rw [if_neg (by simp)]
    simp [hexOf]
  | cons x r ih =>
    intro pre acc k hb hl ha hk
    obtain ⟨k, rfl⟩ := rounds hk
    obtain ⟨hx', hr⟩ := hb.cons
    simp only [List.length_cons] at hl ha hk ⊢
    have h := ih (pre ++ [x]) (acc ++ [hx (x / 16), hx (x % 16)]) k hr (by simp; omega) (by simp; omega) (by omega)
    simp only [List.length_append, List.length_cons, List.length_nil, List.append_assoc, List.cons_append, List.nil_append] at h
    have e1 := (hx_at (x := x / 16) (by omega) (by omega)).2.2.2
    have e2 := (hx_at (x := x % 16) (by omega) (by omega)).2.2.2
    have t1 : Int.tdiv x 16 = x / 16 := Int.tdiv_eq_ediv_of_nonneg hx'.1
    have t2 : Int.tmod x 16 = x % 16 := Int.tmod_eq_emod_of_nonneg hx'.1
    have e3 : x / 16 % 256 = x / 16 := by omega
    simp only [ledgerref06_EncodeHex.l0, rd_mid, t1, t2, e3]
    rw [if_pos (by simp; omega), if_pos (by omega), if_pos (by omega), if_pos (by omega), if_pos (by omega)]
    simp only [Option.bind_some]
    rw [if_pos (by omega), if_pos (by omega), if_pos (by simp; omega), w64 (by omega) (by omega), ← e1, ← e2]
    rw [show (pre.length : Int) + 1 = ((pre.length + (0 + 1) : Nat) : Int) from by omega]
    simp only [List.append_assoc, List.cons_append, List.nil_append]
    exact h
theorem refHex {l : List Int} (hb : Bytes l) (hl : l.length ≤ 70368744177663) : ∀ k, l.length < k → ledgerref06_EncodeHex.f k l = some (strOfNums (hexOf l)) := by
  intro k hk
  unfold ledgerref06_EncodeHex.f
  have h := refHex_loop l [] [] k hb (by simp; omega) (by simp; omega) hk
  simpa using h

/-- The document's place: the same as the program's. -/
theorem place_loop (s : ByteArray) (c : Int) (suf : List Int) : ∀ (pre : List Int) (k : Nat), bytesOf s = pre ++ suf → s.size ≤ 1000 → suf.length < k → ledgerref06_place.l0 k s c (pre.length : Int) = some (findI suf c (pre.length : Int)) := by
  induction suf with
  | nil =>
    intro pre k hs _ hk
    obtain ⟨k, rfl⟩ := rounds hk
    have := size_of hs
    simp only [ledgerref06_place.l0]
    rw [if_neg (by simp at this; omega)]
    rfl
  | cons x r ih =>
    intro pre k hs hm hk
    obtain ⟨k, rfl⟩ := rounds hk
    have hz := size_of hs
    simp only [List.length_append, List.length_cons] at hz hk
    simp only [ledgerref06_place.l0, findI]
    rw [if_pos (by omega), if_pos (by omega), bt_mid hs]
    by_cases e : x = c
    · rw [if_pos e, if_pos e.symm]
    · rw [if_neg e, if_neg (fun h => e h.symm), w64 (by omega) (by omega)]
      have h := ih (pre ++ [x]) k (by simpa using hs) hm (by omega)
      simp only [List.length_append, List.length_cons, List.length_nil] at h
      rw [show (pre.length : Int) + 1 = ((pre.length + (0 + 1) : Nat) : Int) from by omega]
      exact h
theorem place_hex (c : Int) : ∀ k, 16 < k → ledgerref06_place.f k (⟨#[48, 49, 50, 51, 52, 53, 54, 55, 56, 57, 97, 98, 99, 100, 101, 102]⟩ : ByteArray) c = some (findI digitsTab c 0) := by
  intro k hk
  unfold ledgerref06_place.f
  exact place_loop _ c digitsTab [] k rfl (by decide) hk

theorem find_range : ∀ (l : List Int) (c i : Int), 0 ≤ i → findI l c i = -1 ∨ (i ≤ findI l c i ∧ findI l c i < i + l.length ∧ rd l (findI l c i - i) = c)
  | [], _, _, _ => .inl rfl
  | x :: l, c, i, h0 => by
    unfold findI
    by_cases e : c = x
    · rw [if_pos e]
      exact .inr ⟨by omega, by simp only [List.length_cons]; omega, by rw [Int.sub_self]; exact e.symm⟩
    · rw [if_neg e]
      rcases find_range l c (i + 1) (by omega) with h | ⟨h1, h2, h3⟩
      · exact .inl h
      · refine .inr ⟨by omega, by simp only [List.length_cons]; omega, ?_⟩
        obtain ⟨n, hn⟩ := Int.eq_ofNat_of_zero_le (a := findI l c (i + 1) - (i + 1)) (by omega)
        rw [hn] at h3
        rw [show findI l c (i + 1) - i = ((n + 1 : Nat) : Int) from by omega]
        unfold rd at h3 ⊢
        simpa using h3
/-- What a digit's letter is worth: none (-1), or a number below 16 whose letter it is. -/
theorem digit_cases (c : Int) : findI digitsTab c 0 = -1 ∨ (0 ≤ findI digitsTab c 0 ∧ findI digitsTab c 0 < 16 ∧ hx (findI digitsTab c 0) = c) := by
  rcases find_range digitsTab c 0 (by omega) with h | ⟨h1, h2, h3⟩
  · exact .inl h
  · rw [Int.sub_zero] at h3
    exact .inr ⟨h1, by simpa [digitsTab_len] using h2, h3⟩

/-- What a text of hexadecimal digits is read as. -/
def unhex : List Int → Option (List Int)
  | [] => some []
  | [_] => none
  | a :: b :: r => if findI digitsTab a 0 < 0 then none else if findI digitsTab b 0 < 0 then none else (unhex r).map fun l => (16 * findI digitsTab a 0 + findI digitsTab b 0) :: l
theorem unhex_hex : ∀ {l}, Bytes l → unhex (hexOf l) = some l
  | [], _ => rfl
  | x :: r, h => by
    obtain ⟨hx', hr⟩ := h.cons
    have a := (hx_at (x := x / 16) (by omega) (by omega)).2.2.1
    have b := (hx_at (x := x % 16) (by omega) (by omega)).2.2.1
    simp only [hexOf, unhex, a, b, unhex_hex hr]
    rw [if_neg (by omega), if_neg (by omega)]
    simp only [Option.map_some]
    rw [show 16 * (x / 16) + x % 16 = x from by omega]
theorem hex_unhex : ∀ (s l : List Int), unhex s = some l → hexOf l = s ∧ Bytes l
  | [], l, h => by
    simp only [unhex, Option.some.injEq] at h
    subst h
    exact ⟨rfl, Bytes.nil⟩
  | [_], l, h => by simp [unhex] at h
  | a :: b :: r, l, h => by
    simp only [unhex] at h
    rcases digit_cases a with ha | ⟨ha0, ha1, ha2⟩
    · rw [if_pos (by omega)] at h; cases h
    rcases digit_cases b with hb | ⟨hb0, hb1, hb2⟩
    · rw [if_neg (by omega), if_pos (by omega)] at h; cases h
    rw [if_neg (by omega), if_neg (by omega)] at h
    obtain ⟨m, hm, rfl⟩ := Option.map_eq_some_iff.1 h
    obtain ⟨h1, h2⟩ := hex_unhex r m hm
    refine ⟨?_, Bytes.mk (by omega) (by omega) h2⟩
    simp only [hexOf, h1]
    rw [show (16 * findI digitsTab a 0 + findI digitsTab b 0) / 16 = findI digitsTab a 0 from by omega, show (16 * findI digitsTab a 0 + findI digitsTab b 0) % 16 = findI digitsTab b 0 from by omega, ha2, hb2]

/-- The answer of the reading calls. -/
def hexAns (s : List Int) : List Int × Int := match unhex s with
  | some l => (l, 0)
  | none => ([], 61)
theorem or16 {a b : Int} (ha : 0 ≤ a) (ha' : a < 16) (hb : 0 ≤ b) (hb' : b < 16) : Go.bits .or .i64 (a * 16) b = 16 * a + b := by
  have h := bits_join .i64 62 (by decide) (fun n h0 h1 => by rw [IntKind.wrap_i64]; omega) 4 (a * 16) b (by omega) (by omega) (by omega) (by omega) (by omega) (by omega)
  omega
/-- Both loops: from an even place on. -/
theorem unhex_steps (s : ByteArray) (hm : s.size ≤ 1048576) (n : Nat) : ∀ (suf pre acc : List Int) (k : Nat), suf.length ≤ n → bytesOf s = pre ++ suf → acc.length ≤ pre.length → suf.length % 2 = 0 → suf.length + 40 < k →
    text_DecodeHex.l0 k s acc (pre.length : Int) = some (match unhex suf with | some l => (acc ++ l, 0) | none => ([], 61)) ∧
    ledgerref06_DecodeHex.l0 k s acc (pre.length : Int) = some (match unhex suf with | some l => (acc ++ l, 0) | none => ([], 61)) := by
  induction n with
  | zero =>
    intro suf pre acc k hn hs hacc hev hk
    obtain rfl : suf = [] := List.eq_nil_of_length_eq_zero (by omega)
    obtain ⟨k, rfl⟩ := rounds hk
    have hz := size_of hs
    simp only [List.append_nil] at hz
    simp only [text_DecodeHex.l0, ledgerref06_DecodeHex.l0, unhex, List.append_nil]
    rw [if_neg (by omega), w64 (by omega) (by omega), if_neg (by omega)]
    exact ⟨rfl, rfl⟩
  | succ n ih =>
    intro suf pre acc k hn hs hacc hev hk
    match suf, hn, hs, hev, hk with
    | [], _, hs, hev, hk => exact ih [] pre acc k (by simp) hs hacc hev hk
    | [_], _, _, hev, _ => simp at hev
    | a :: b :: r, hn, hs, hev, hk =>
      obtain ⟨k, rfl⟩ := rounds hk
      have hz := size_of hs
      simp only [List.length_append, List.length_cons] at hz hk hn hev
      have ea : bt s (pre.length : Int) = a := bt_mid hs
      have eb : bt s ((pre.length : Int) + 1) = b := by
        have h : bytesOf s = (pre ++ [a]) ++ b :: r := by simpa using hs
        have := bt_mid h
        simpa using this
      have hk16 : 16 < k := by omega
      have h2 := fun x => ih r (pre ++ [a, b]) (acc ++ [x]) k (by omega) (by simpa using hs) (by simp; omega) (by omega) (by omega)
      simp only [List.length_append, List.length_cons, List.length_nil, Int.natCast_add] at h2
      have c1 := digit_cases a
      have c2 := digit_cases b
      have hw1 := Aside0.mk (w64 (x := (pre.length : Int) + 1) (by omega) (by omega))
      have hw2 := Aside0.mk (w64 (x := (pre.length : Int) + 2) (by omega) (by omega))
      have h3 := h2 (16 * findI digitsTab a 0 + findI digitsTab b 0)
      have e0 : unhex (a :: b :: r) = if findI digitsTab a 0 < 0 then none else if findI digitsTab b 0 < 0 then none else (unhex r).map fun l => (16 * findI digitsTab a 0 + findI digitsTab b 0) :: l := by simp only [unhex]
      rcases digit_cases a with ha | ⟨ha0, ha1, ha2⟩
      · rw [e0, if_pos (by omega)]
        constructor
        · simp only [text_DecodeHex.l0, text_digit.f, Option.bind_some, hw1.out, ea, eb]
          rw [if_pos (by omega), if_pos (by omega), if_pos (by omega), if_pos (by omega), if_pos (by omega)]
        · simp only [ledgerref06_DecodeHex.l0, Option.bind_some, hw1.out, ea, eb, place_hex _ k hk16]
          rw [if_pos (by omega), if_pos (by omega), if_pos (by omega), if_pos (by omega), if_pos (by omega)]
      rcases digit_cases b with hb | ⟨hb0, hb1, hb2⟩
      · rw [e0, if_neg (by omega), if_pos (by omega)]
        constructor
        · simp only [text_DecodeHex.l0, text_digit.f, Option.bind_some, hw1.out, ea, eb]
          rw [if_pos (by omega), if_pos (by omega), if_pos (by omega), if_pos (by omega), if_neg (by omega), if_pos (by omega)]
        · simp only [ledgerref06_DecodeHex.l0, Option.bind_some, hw1.out, ea, eb, place_hex _ k hk16]
          rw [if_pos (by omega), if_pos (by omega), if_pos (by omega), if_pos (by omega), if_neg (by omega), if_pos (by omega)]
      rw [e0, if_neg (by omega), if_neg (by omega)]
      have k1 := Aside0.mk (w64 (x := findI digitsTab a 0 * 16) (by omega) (by omega))
      have k2 := Aside0.mk (w64 (x := 16 * findI digitsTab a 0) (by omega) (by omega))
      have k3 := Aside0.mk (w64 (x := 16 * findI digitsTab a 0 + findI digitsTab b 0) (by omega) (by omega))
      have k4 : (16 * findI digitsTab a 0 + findI digitsTab b 0) % 256 = 16 * findI digitsTab a 0 + findI digitsTab b 0 := by omega
      constructor
      · simp only [text_DecodeHex.l0, text_digit.f, Option.bind_some, hw1.out, hw2.out, ea, eb, k1.out, or16 ha0 ha1 hb0 hb1, k4]
        rw [if_pos (by omega), if_pos (by omega), if_pos (by omega), if_pos (by omega), if_neg (by omega), if_neg (by omega), if_pos (by omega)]
        rw [show (pre.length : Int) + 2 = (pre.length : Int) + (((0 : Nat) : Int) + 1 + 1) from by omega]
        cases hu : unhex r with
        | none => rw [hu] at h3; simpa using h3.1
        | some l => rw [hu] at h3; simpa using h3.1
      · simp only [ledgerref06_DecodeHex.l0, Option.bind_some, hw1.out, hw2.out, ea, eb, k2.out, k3.out, k4, place_hex _ k hk16]
        rw [if_pos (by omega), if_pos (by omega), if_pos (by omega), if_pos (by omega), if_neg (by omega), if_neg (by omega), if_pos (by omega)]
        rw [show (pre.length : Int) + 2 = (pre.length : Int) + (((0 : Nat) : Int) + 1 + 1) from by omega]
        cases hu : unhex r with
        | none => rw [hu] at h3; simpa using h3.2
        | some l => rw [hu] at h3; simpa using h3.2

/-- The answer for a text. -/
def hexTold (s : ByteArray) : List Int × Int := if s.size > 1048576 then ([], 2) else match unhex (bytesOf s) with | some l => (l, 0) | none => ([], 61)
theorem unhex_odd : ∀ (s : List Int), s.length % 2 = 1 → unhex s = none
  | [], h => by simp at h
  | [_], _ => rfl
  | a :: b :: r, h => by
    simp only [unhex, unhex_odd r (by simp only [List.length_cons] at h; omega), Option.map_none]
    split
    · rfl
    · split <;> rfl
theorem decHex (s : ByteArray) : ∀ k, 1048700 < k → text_DecodeHex.f k s = some (hexTold s) ∧ ledgerref06_DecodeHex.f k s = some (hexTold s) := by
  intro k hk
  unfold hexTold
  by_cases hm : s.size > 1048576
  · rw [if_pos hm]
    constructor
    · unfold text_DecodeHex.f; rw [if_pos (by omega)]
    · unfold ledgerref06_DecodeHex.f; rw [if_pos (by omega)]
  rw [if_neg hm]
  have hz := bytesOf_length s
  by_cases ho : s.size % 2 = 1
  · rw [unhex_odd _ (by omega)]
    constructor
    · unfold text_DecodeHex.f; rw [if_neg (by omega), if_neg (by omega)]
    · unfold ledgerref06_DecodeHex.f; rw [if_neg (by omega), if_pos (by omega)]
  · have h := unhex_steps s (by omega) s.size (bytesOf s) [] [] k (by omega) (by simp) (by simp) (by omega) (by omega)
    constructor
    · unfold text_DecodeHex.f
      rw [if_neg (by omega), if_pos (by omega), w64 (by omega) (by omega), if_pos (by omega), if_pos (by omega)]
      cases hu : unhex (bytesOf s) with
      | none => rw [hu] at h; simpa using h.1
      | some l => rw [hu] at h; simpa using h.1
    · unfold ledgerref06_DecodeHex.f
      rw [if_neg (by omega), if_neg (by omega)]
      cases hu : unhex (bytesOf s) with
      | none => rw [hu] at h; simpa using h.2
      | some l => rw [hu] at h; simpa using h.2
end Go.Proofs.YtljinjgamgmocaaDoor.Pure
