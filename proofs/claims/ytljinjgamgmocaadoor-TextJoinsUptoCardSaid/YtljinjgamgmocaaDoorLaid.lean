/- The package-level variables that the rows list: what a listed variable gives the walks, and a world for the witness in which each is laid. -/
import Derived.Test.YtljinjgamgmocaaDoorCards
import Derived.Test.YtljinjgamgmocaaDoorExtN
import Derived.Test.YtljinjgamgmocaaDoorExtU
import Derived.Lib.LaidU8
import Derived.ProofKit
import Derived.WalkKit
namespace Go.Proofs.YtljinjgamgmocaaDoor.Laid
open Go.ChangeShapes Go.WideShapes Go.ChangeAt Go.RowKit
open Go.Proofs.YtljinjgamgmocaaDoor.G
open Go.Lib (VarReads)

theorem own : ownKnob Tryd.prog.godebug = none := by kernel_rfl
theorem tabIs_of_reads {P : Program} {W : World} {name : String} {k : IntKind} {zs : List Int} {g : Nat} {t e : TypeId} {n : Nat}
    (hg : P.globalNamed name = some g) (hty : (P.globals[g]?).map (·.type) = some t) (ht : P.underlying t = some (.array n e)) (he : P.underlying e = some (.int k)) (hce : P.cellsOf e = 1) (hct : P.cellsOf t = n)
    (h : VarReads P W name (Lib.tabData k zs)) : Lib.TabIs P W name k zs := by
  obtain ⟨g', t', cs, fuel, p, hg', ht', hvar, hd⟩ := h
  obtain rfl := Option.some.inj (hg.symm.trans hg')
  obtain rfl := Option.some.inj (hty.symm.trans ht')
  unfold Lib.TabIs
  rw [hvar, ← Lib.cells_of_tab ht he hce hct hd]
theorem lt_of_var {P : Program} {W : World} {name : String} {g : Nat} {cs : Array Value} (hg : P.globalNamed name = some g) (h : W.var? P name = some cs) : g < W.heap.size := by
  unfold World.var? at h
  rw [hg, Option.bind_some] at h
  cases hx : W.heap[g]? with
  | none => rw [hx] at h; cases h
  | some o => exact (Array.getElem?_eq_some_iff.1 hx).1
theorem cells1 : Tryd.prog.cellsOf 5 = 1 := by kernel_rfl
theorem layD {W : World} (h : VarReads Tryd.prog W "ledger/text.digits" Rows.laid_ledger_text_digits) : LayD W := by
  have t : Lib.TabIs Tryd.prog W "ledger/text.digits" .u8 digitsTab := tabIs_of_reads gDigits (show (Tryd.prog.globals[0]?).map (·.type) = some 53 by kernel_rfl) Tryd.underlying53 Tryd.underlying5 cells1 (show Tryd.prog.cellsOf 53 = 16 by kernel_rfl) h
  exact ⟨World.block_lt_of_cell? W _ (t.cell gDigits 0 (by decide)), t⟩
theorem powData : Rows.laid_internal_strconv_uint64pow10 = Lib.tabData (H := Unit) .u64 Lib.pow10Tab := by kernel_rfl
theorem layP {W : World} (h : VarReads Tryd.prog W "internal/strconv.uint64pow10" Rows.laid_internal_strconv_uint64pow10) : LayP W := by
  rw [powData] at h
  have t : Lib.TabIs Tryd.prog W "internal/strconv.uint64pow10" .u64 Lib.pow10Tab := tabIs_of_reads gPow (show (Tryd.prog.globals[5]?).map (·.type) = some 110 by kernel_rfl) Tryd.underlying110 Tryd.underlying87 (show Tryd.prog.cellsOf 87 = 1 by kernel_rfl) (show Tryd.prog.cellsOf 110 = 20 by kernel_rfl) h
  exact ⟨World.block_lt_of_cell? W _ (t.cell gPow 0 (by rw [Lib.pow10Tab_length]; omega)), t⟩
set_option maxRecDepth 100000 in
theorem layE {W : World} (h : VarReads Tryd.prog W "strconv.ErrRange" Rows.laid_strconv_ErrRange) : LayE W := by
  obtain ⟨g', t', cs, fuel, p, hg', ht', hvar, hd⟩ := h
  obtain rfl := Option.some.inj (gErr.symm.trans hg')
  obtain rfl := Option.some.inj ((show (Tryd.prog.globals[4]?).map (·.type) = some 63 by kernel_rfl).symm.trans ht')
  obtain ⟨f1, u, v, hcs, _, _⟩ := iface_of_trod Tryd.underlying63 hd
  refine ⟨lt_of_var gErr hvar, u, v, ?_⟩
  rw [hvar]
  congr 1
  cases cs
  simp_all

/-! A world for the witness. -/
def put (vs : List Value) : Obj → Obj
  | .cells _ t frozen => .cells vs.toArray t frozen
  | o => o
def bru32 : List Int := [0, 1, 28, 2, 29, 14, 24, 3, 30, 22, 20, 15, 25, 17, 4, 8, 31, 27, 13, 23, 21, 19, 16, 7, 26, 12, 18, 6, 11, 5, 10, 9]
def bru64 : List Int := [0, 1, 56, 2, 57, 49, 28, 3, 61, 58, 42, 50, 38, 29, 17, 4, 62, 47, 59, 36, 45, 43, 51, 22, 53, 39, 33, 30, 24, 18, 12, 5, 63, 55, 48, 27, 60, 41, 37, 16, 46, 35, 44, 21, 52, 32, 23, 11, 54, 26, 40, 15, 34, 20, 31, 10, 25, 14, 19, 9, 13, 8, 7, 6]
def accs : List Int := [128, 191, 160, 191, 128, 159, 144, 191, 128, 143, 0, 0, 0, 0, 0, 0, 0, 0, 0, 0, 0, 0, 0, 0, 0, 0, 0, 0, 0, 0, 0, 0]
noncomputable def low : Nat := (World.holding Tryd.prog default ⟨#[], #[], []⟩).heap.size
abbrev rangeS : ByteArray := ⟨#[118, 97, 108, 117, 101, 32, 111, 117, 116, 32, 111, 102, 32, 114, 97, 110, 103, 101]⟩
abbrev syntS : ByteArray := ⟨#[105, 110, 118, 97, 108, 105, 100, 32, 115, 121, 110, 116, 97, 120]⟩
noncomputable def world (os : Os) : World :=
  let w0 := World.holding Tryd.prog os ⟨#[.cells #[.string rangeS] 120, .cells #[.string syntS] 120], #[], []⟩
  { w0 with heap := ((((((w0.heap.modify 0 (put (digitsTab.map (Value.int .u8)))).modify 5 (put (Lib.pow10Tab.map (Value.int .u64)))).modify 7 (put (bru32.map (Value.int .u8)))).modify 8 (put (bru64.map (Value.int .u8)))).modify 4 (put [.iface 118 (.pointer (some ⟨low, 0, none⟩))])).modify 3 (put [.iface 118 (.pointer (some ⟨low + 1, 0, none⟩))])) }
end Go.Proofs.YtljinjgamgmocaaDoor.Laid
