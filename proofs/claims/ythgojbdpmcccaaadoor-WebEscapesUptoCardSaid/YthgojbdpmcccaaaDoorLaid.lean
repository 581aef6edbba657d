/- The refusals' variables: what their listing gives, and a world for the witness in which each is laid. -/
import Derived.Test.YthgojbdpmcccaaaDoorCards
import Derived.Test.YthgojbdpmcccaaaDoorWb
import Derived.LaidLaws
import Derived.Stop.LaidErr
import Derived.Stop.Texts
import Derived.Lib.LaidU8
import Derived.ProofKit
import Derived.WalkKit
namespace Go.Proofs.YthgojbdpmcccaaaDoor.Laid
open Go.ChangeShapes Go.WideShapes Go.ChangeAt Go.RowKit
open Go.Proofs.YthgojbdpmcccaaaDoor.K
set_option linter.unusedVariables false
set_option linter.unusedSimpArgs false

theorem own : ownKnob Tryd.prog.godebug = none := by kernel_rfl
theorem star : "*" ++ "errors.errorString" = "*errors.errorString" := by decide
theorem rowE (u : TypeId) (h : Tryd.prog.typeName? 3 u = some "*errors.errorString") : u = 164 :=
  typeName_ptr_named (nm := "errors.errorString") (by rw [star]; kernel_rfl) (by kernel_rfl) (by decide) u (by rw [star]; exact h)
theorem cellsE : Tryd.prog.cellsOf 189 = 1 := by kernel_rfl
theorem cellsS : Tryd.prog.cellsOf 9 = 1 := by kernel_rfl
abbrev errD (text : List UInt8) : DataW Unit := .iface "*errors.errorString" (.ptr (.agg [.lit (.string text)]))
set_option maxRecDepth 100000 in
theorem sent_of_laid {W : World} : ∀ {l : List (String × DataW Unit)} {ps : List MemPlace}, DataW.LaidVars Tryd.prog W l ps →
    (∀ b off, MemPlace.cell b off ∈ ps → (∃ c t, W.heap[b]? = some (.cells c t (0, 0))) ∧ ∀ u v, W.cell? ⟨b, off, none⟩ = some (.iface u v) → Value.okWide Tryd.prog W .any 0 u v) →
    ∀ (n : String) (text : List UInt8), (n, errD text) ∈ l → ∀ g, Tryd.prog.globalNamed n = some g → (Tryd.prog.globals[g]?).map (·.type) = some 54 → ∃ a s, Sent W g a ∧ W.cell? a = some (.string s) ∧ s.data.toList = text
  | [], _, _, _, _, _, hm, _, _, _ => by cases hm
  | (n', d') :: r, ps, h, hrows, n, text, hm, g, hg, ht => by
    obtain ⟨g0, t0, cs0, f0, p0, q0, hg0, ht0, hv0, hd0, hr0, e0⟩ := h
    subst e0
    rcases List.mem_cons.1 hm with e | e
    · cases e
      obtain rfl := Option.some.inj (hg.symm.trans hg0)
      obtain rfl := Option.some.inj (ht.symm.trans ht0)
      obtain ⟨l0⟩ := cs0
      have ok0 : ∀ u v, l0 = [.iface u v] → Value.okWide Tryd.prog W .any 0 u v := fun u v e => by
        subst e
        exact (hrows g 0 (by simp [MemPlace.row])).2 u v (by simpa using World.var?_cell hg0 hv0 0)
      obtain ⟨a0, s0, rfl, hc0, hs0, hz0, rfl⟩ := errorString_of_trod Tryd.underlying54 rowE Tryd.underlying164 Tryd.underlying189 rfl rfl Tryd.underlying9 cellsE cellsS hd0 ok0
      refine ⟨a0, s0, ⟨by simpa using World.var?_cell hg0 hv0 0, ?_⟩, hc0, hs0⟩
      exact (hrows a0.block a0.off (by simp [MemPlace.row])).1
    · exact sent_of_laid hr0 (fun b off hb => hrows b off (by simp [hb])) n text e g hg ht
/-- The texts of the refusals. -/
def textE : Nat → List UInt8
  | 2 => [116, 104, 101, 32, 116, 97, 114, 103, 101, 116]
  | 3 => [97, 32, 110, 117, 109, 98, 101, 114, 32, 116, 104, 97, 116, 32, 109, 97, 121, 32, 110, 111, 116, 32, 98, 101]
  | 4 => [116, 111, 111, 32, 108, 111, 110, 103]
  | 5 => [116, 104, 101, 32, 109, 101, 115, 115, 97, 103, 101, 32, 101, 110, 100, 115, 32, 116, 111, 111, 32, 101, 97, 114, 108, 121]
  | 6 => [116, 104, 101, 32, 102, 105, 114, 115, 116, 32, 108, 105, 110, 101]
  | 7 => [116, 104, 101, 32, 118, 101, 114, 115, 105, 111, 110]
  | 8 => [97, 32, 102, 105, 101, 108, 100]
  | 9 => [116, 104, 101, 32, 104, 111, 115, 116]
  | 10 => [116, 104, 101, 32, 108, 101, 110, 103, 116, 104, 32, 111, 102, 32, 116, 104, 101, 32, 98, 111, 100, 121]
  | 11 => [97, 32, 99, 104, 117, 110, 107]
  | 12 => [116, 104, 101, 32, 109, 101, 116, 104, 111, 100]
  | _ => []
theorem textE_ne : ∀ g : Fin 13, ∀ h : Fin 13, 2 ≤ g.val → 2 ≤ h.val → g.val ≠ h.val → textE g.val ≠ textE h.val := by decide +kernel
theorem layS {W : World} (H : ∀ g, 2 ≤ g → g ≤ 12 → ∃ a s, Sent W g a ∧ W.cell? a = some (.string s) ∧ s.data.toList = textE g) : ∃ A, LayS A W := by
  have H' : ∀ g, ∃ a, 2 ≤ g → g ≤ 12 → ∃ s, Sent W g a ∧ W.cell? a = some (.string s) ∧ s.data.toList = textE g := fun g => by
    by_cases h2 : 2 ≤ g
    · by_cases h12 : g ≤ 12
      · obtain ⟨a, s, h⟩ := H g h2 h12
        exact ⟨a, fun _ _ => ⟨s, h⟩⟩
      · exact ⟨⟨0, 0, none⟩, fun _ h => absurd h h12⟩
    · exact ⟨⟨0, 0, none⟩, fun h => absurd h h2⟩
  obtain ⟨A, hA⟩ := Classical.axiomOfChoice H'
  refine ⟨A, fun g h2 h12 => (hA g h2 h12).elim fun s h => h.1, fun g h g2 g12 h2 h12 hne he => ?_⟩
  obtain ⟨s, _, hc, hs⟩ := hA g g2 g12
  obtain ⟨s', _, hc', hs'⟩ := hA h h2 h12
  rw [he, hc'] at hc
  injection hc with hc
  injection hc with hc
  subst hc
  exact textE_ne ⟨g, by omega⟩ ⟨h, by omega⟩ g2 h2 hne (hs.symm.trans hs')
set_option maxRecDepth 100000 in
theorem layE {W : World} {l : List (String × DataW Unit)} (hL : laidMet Tryd.prog l W)
    (m2 : ("ledger/web.errTarget", errD (textE 2)) ∈ l)
    (m3 : ("ledger/web.errArg", errD (textE 3)) ∈ l)
    (m4 : ("ledger/web.errLong", errD (textE 4)) ∈ l)
    (m5 : ("ledger/web.errShort", errD (textE 5)) ∈ l)
    (m6 : ("ledger/web.errStart", errD (textE 6)) ∈ l)
    (m7 : ("ledger/web.errProtocol", errD (textE 7)) ∈ l)
    (m8 : ("ledger/web.errField", errD (textE 8)) ∈ l)
    (m9 : ("ledger/web.errHost", errD (textE 9)) ∈ l)
    (m10 : ("ledger/web.errLength", errD (textE 10)) ∈ l)
    (m11 : ("ledger/web.errChunk", errD (textE 11)) ∈ l)
    (m12 : ("ledger/web.errMethod", errD (textE 12)) ∈ l) : ∃ A, LayS A W := by
  obtain ⟨ps, hv, _, hrows⟩ := hL
  refine layS fun g h2 h12 => ?_
  have key := fun n text hm => sent_of_laid hv hrows n text hm g
  match g, h2, h12 with
  | 2, _, _ => exact sent_of_laid hv hrows _ _ m2 2 (by kernel_rfl) (by kernel_rfl)
  | 3, _, _ => exact sent_of_laid hv hrows _ _ m3 3 (by kernel_rfl) (by kernel_rfl)
  | 4, _, _ => exact sent_of_laid hv hrows _ _ m4 4 (by kernel_rfl) (by kernel_rfl)
  | 5, _, _ => exact sent_of_laid hv hrows _ _ m5 5 (by kernel_rfl) (by kernel_rfl)
  | 6, _, _ => exact sent_of_laid hv hrows _ _ m6 6 (by kernel_rfl) (by kernel_rfl)
  | 7, _, _ => exact sent_of_laid hv hrows _ _ m7 7 (by kernel_rfl) (by kernel_rfl)
  | 8, _, _ => exact sent_of_laid hv hrows _ _ m8 8 (by kernel_rfl) (by kernel_rfl)
  | 9, _, _ => exact sent_of_laid hv hrows _ _ m9 9 (by kernel_rfl) (by kernel_rfl)
  | 10, _, _ => exact sent_of_laid hv hrows _ _ m10 10 (by kernel_rfl) (by kernel_rfl)
  | 11, _, _ => exact sent_of_laid hv hrows _ _ m11 11 (by kernel_rfl) (by kernel_rfl)
  | 12, _, _ => exact sent_of_laid hv hrows _ _ m12 12 (by kernel_rfl) (by kernel_rfl)
/-! A world for the witness. -/
def put (vs : List Value) : Obj → Obj
  | .cells _ t frozen => .cells vs.toArray t frozen
  | o => o
noncomputable def low : Nat := (World.holding Tryd.prog default ⟨#[], #[], []⟩).heap.size
noncomputable def world (os : Os) : World :=
  let w0 := World.holding Tryd.prog os ⟨#[.cells #[.string ⟨(textE 2).toArray⟩] 189, .cells #[.string ⟨(textE 3).toArray⟩] 189, .cells #[.string ⟨(textE 4).toArray⟩] 189, .cells #[.string ⟨(textE 5).toArray⟩] 189, .cells #[.string ⟨(textE 6).toArray⟩] 189, .cells #[.string ⟨(textE 7).toArray⟩] 189, .cells #[.string ⟨(textE 8).toArray⟩] 189, .cells #[.string ⟨(textE 9).toArray⟩] 189, .cells #[.string ⟨(textE 10).toArray⟩] 189, .cells #[.string ⟨(textE 11).toArray⟩] 189, .cells #[.string ⟨(textE 12).toArray⟩] 189], #[], []⟩
  { w0 with heap := (((((((((((w0.heap).modify 2 (put [.iface 164 (.pointer (some ⟨low + 0, 0, none⟩))])).modify 3 (put [.iface 164 (.pointer (some ⟨low + 1, 0, none⟩))])).modify 4 (put [.iface 164 (.pointer (some ⟨low + 2, 0, none⟩))])).modify 5 (put [.iface 164 (.pointer (some ⟨low + 3, 0, none⟩))])).modify 6 (put [.iface 164 (.pointer (some ⟨low + 4, 0, none⟩))])).modify 7 (put [.iface 164 (.pointer (some ⟨low + 5, 0, none⟩))])).modify 8 (put [.iface 164 (.pointer (some ⟨low + 6, 0, none⟩))])).modify 9 (put [.iface 164 (.pointer (some ⟨low + 7, 0, none⟩))])).modify 10 (put [.iface 164 (.pointer (some ⟨low + 8, 0, none⟩))])).modify 11 (put [.iface 164 (.pointer (some ⟨low + 9, 0, none⟩))])).modify 12 (put [.iface 164 (.pointer (some ⟨low + 10, 0, none⟩))]) }
end Go.Proofs.YthgojbdpmcccaaaDoor.Laid
