/- The two tables of records and the powers of ten: what their listing gives, and a world for the witness. -/
import Derived.Test.YthgojbdpmcccaaaDoorCards
import Derived.Test.YthgojbdpmcccaaaDoorWv
import Derived.LaidLaws
import Derived.ChangeSame
import Derived.ChangeArms
import Derived.OpenShut
import Derived.Lib.LaidU8
import Derived.Lib.LaidTab
import Derived.ProofKit
import Derived.WalkKit
namespace Go.Proofs.YthgojbdpmcccaaaDoor.LaidT
open Go.ChangeShapes Go.WideShapes Go.ChangeAt Go.RowKit
open Go.Proofs.YthgojbdpmcccaaaDoor.K
open Go.Lib (VarReads)
set_option linter.unusedVariables false
set_option linter.unusedSimpArgs false

theorem own : ownKnob Tryd.prog.godebug = none := by kernel_rfl
theorem var?_below {w w' : World} {B : Nat} {nm : String} {g : Nat} {v : Array Value} (hb : Below B w w') (hg : Tryd.prog.globalNamed nm = some g) (hlt : g < B) (h : w.var? Tryd.prog nm = some v) : w'.var? Tryd.prog nm = some v := by
  unfold World.var? at h ⊢
  rw [hg, Option.bind_some] at h ⊢
  rw [hb.block g hlt]
  exact h
theorem tabIs_of_reads {P : Program} {W : World} {name : String} {k : IntKind} {zs : List Int} {g : Nat} {t e : TypeId} {n : Nat}
    (hg : P.globalNamed name = some g) (hty : (P.globals[g]?).map (·.type) = some t) (ht : P.underlying t = some (.array n e)) (he : P.underlying e = some (.int k)) (hce : P.cellsOf e = 1) (hct : P.cellsOf t = n)
    (h : VarReads P W name (Lib.tabData k zs)) : Lib.TabIs P W name k zs := by
  obtain ⟨g', t', cs, fuel, p, hg', ht', hvar, hd⟩ := h
  obtain rfl := Option.some.inj (hg.symm.trans hg')
  obtain rfl := Option.some.inj (hty.symm.trans ht')
  unfold Lib.TabIs
  rw [hvar, ← Lib.cells_of_tab ht he hce hct hd]
theorem gPow : Tryd.prog.globalNamed "internal/strconv.uint64pow10" = some 15 := by kernel_rfl
theorem powData : Rows.laid_internal_strconv_uint64pow10 = Lib.tabData (H := Unit) .u64 Lib.pow10Tab := by kernel_rfl
theorem layP {W : World} (h : VarReads Tryd.prog W "internal/strconv.uint64pow10" Rows.laid_internal_strconv_uint64pow10) : ∀ w', Below W.heap.size W w' → Lib.TabIs Tryd.prog w' "internal/strconv.uint64pow10" .u64 Lib.pow10Tab := by
  rw [powData] at h
  have t : Lib.TabIs Tryd.prog W "internal/strconv.uint64pow10" .u64 Lib.pow10Tab := tabIs_of_reads gPow (show (Tryd.prog.globals[15]?).map (·.type) = some 138 by kernel_rfl) Tryd.underlying138 Tryd.underlying112 (show Tryd.prog.cellsOf 112 = 1 by kernel_rfl) (show Tryd.prog.cellsOf 138 = 20 by kernel_rfl) h
  have hlt := World.block_lt_of_cell? W _ (t.cell gPow 0 (by rw [Lib.pow10Tab_length]; omega))
  exact fun w' hb => var?_below hb gPow hlt t
/-- A table of records of a number and a value: as data, as cells. -/
def ld (v : Value) : DataW Unit := match v with
  | .int k z => .lit (.int k z)
  | .string s => .lit (.string s.data.toList)
  | _ => .nil
def pd (x : Int × Value) : DataW Unit := .agg [.lit (.int .i64 x.1), ld x.2]
def pv (x : Int × Value) : List Value := [.int .i64 x.1, x.2]
theorem chunks : ∀ (T : List (Int × Value)) (cs : List Value), cs.length = T.length * 2 → (∀ i (h : i < T.length), (cs.drop (i * 2)).take 2 = pv T[i]) → cs = T.flatMap pv
  | [], cs, hl, _ => by
    simp at hl; simp [hl]
  | x :: T, cs, hl, h => by
    simp only [List.length_cons] at hl
    match cs, hl with
    | [c0], hl => exfalso; simp only [List.length_cons, List.length_nil] at hl; omega
    | c0 :: c1 :: r, hl =>
      have h0 := h 0 (by simp)
      have ih := chunks T r (by simp only [List.length_cons] at hl; omega) (fun i hi => by
        have := h (i + 1) (by simp only [List.length_cons]; omega)
        rw [show (i + 1) * 2 = i * 2 + 2 by omega] at this
        simpa using this)
      rw [List.flatMap_cons, ← ih]
      have e : pv x = [c0, c1] := by simpa using h0.symm
      rw [e]; rfl
theorem int_in {W : World} {m : Nat} {t : TypeId} {k : IntKind} {c : List Value} {y : DataW Unit × List MemPlace} {v : Value} (ht : Tryd.prog.underlying t = some (.int k)) (h : DataW.trod (fun _ => ()) Tryd.prog W 0 (fun _ => true) false m t c = some y) (hy : y.1 = ld v) : c = [v] := by
  obtain ⟨z, rfl, rfl, _⟩ := DataW.trod_int ht h
  cases v <;> simp [ld] at hy
  obtain ⟨rfl, rfl⟩ := hy
  rfl
theorem text_in {W : World} {m : Nat} {t : TypeId} {c : List Value} {y : DataW Unit × List MemPlace} {v : Value} (ht : Tryd.prog.underlying t = some .string) (h : DataW.trod (fun _ => ()) Tryd.prog W 0 (fun _ => true) false m t c = some y) (hy : y.1 = ld v) : c = [v] := by
  obtain ⟨s, rfl, rfl, _⟩ := DataW.trod_string ht h
  cases v <;> simp [ld] at hy
  rename_i s'
  have : s = s' := by
    cases s; cases s'
    simp only [ByteArray.mk.injEq]
    exact Array.toList_inj.1 (by simpa using hy)
  rw [this]
theorem cells_of_pairs {W : World} {fuel n : Nat} {arr E : TypeId} {f0 f1 : Field} {cs : List Value} {p : List MemPlace} {T : List (Int × Value)}
    (ht : Tryd.prog.underlying arr = some (.array n E)) (hE : Tryd.prog.underlying E = some (.struct #[f0, f1])) (h0 : Tryd.prog.underlying f0.type = some (.int .i64)) (o0 : f0.offset = 0) (o1 : f1.offset = 1)
    (k0 : Tryd.prog.cellsOf f0.type = 1) (k1 : Tryd.prog.cellsOf f1.type = 1) (kE : Tryd.prog.cellsOf E = 2) (kA : Tryd.prog.cellsOf arr = n * 2) (hn : T.length = n)
    (h1 : ∀ m c y v, DataW.trod (fun _ => ()) Tryd.prog W 0 (fun _ => true) false m f1.type c = some y → y.1 = ld v → c = [v])
    (h : DataW.trod (fun _ => ()) Tryd.prog W 0 (fun _ => true) false fuel arr cs = some (.agg (T.map pd), p)) : cs = T.flatMap pv := by
  obtain ⟨xs, m, _, hx, hl, hxl, hall⟩ := DataW.trod_array ht h
  have hmap : xs.map (·.1) = T.map pd := by
    have := congrArg Prod.fst hx
    simpa using this.symm
  refine chunks T cs (by rw [hl, kA, hn]) fun i hi => ?_
  have hi' : i < n := by omega
  have hxi : i < xs.length := by omega
  have ha := hall i hi'
  rw [List.getElem?_eq_getElem hxi, kE] at ha
  have he : (xs[i]).1 = pd T[i] := by
    have := congrArg (fun l => l[i]?) hmap
    simp only [List.getElem?_map, List.getElem?_eq_getElem hxi, List.getElem?_eq_getElem hi, Option.map_some, Option.some.injEq] at this
    exact this
  obtain ⟨y0, y1, q, hy, hlen, t0, t1⟩ := trod_struct2 hE ha
  rw [hy] at he
  simp only [pd, DataW.agg.injEq, List.cons.injEq, and_true] at he
  obtain ⟨e0, e1⟩ := he
  rw [kE] at hlen
  match hc : (cs.drop (i * 2)).take 2, hlen with
  | [c0, c1], _ =>
    rw [hc, o0, k0] at t0
    rw [hc, o1, k1] at t1
    have r0 := int_in (v := .int .i64 T[i].1) h0 t0 (by rw [e0]; rfl)
    have r1 := h1 _ _ _ _ t1 e1
    simp at r0 r1
    rw [r0, r1]; rfl
def stTV : List (Int × Value) := stT.map fun x => (x.1, .int .i64 x.2)
def reTV : List (Int × Value) := reT.map fun x => (x.1, .string x.2)
theorem stData : Rows.laid_ledger_web_statuses = .agg (stTV.map pd) := by kernel_rfl
theorem reData : Rows.laid_ledger_web_reasons = .agg (reTV.map pd) := by kernel_rfl
theorem heap_of_var {W : World} {nm : String} {g : Nat} {cs : Array Value} (hg : Tryd.prog.globalNamed nm = some g) (h : W.var? Tryd.prog nm = some cs) : ∃ t fr, W.heap[g]? = some (.cells cs t fr) := by
  unfold World.var? at h
  rw [hg, Option.bind_some] at h
  cases hx : W.heap[g]? with
  | none => rw [hx] at h; cases h
  | some o =>
    rw [hx] at h
    cases o <;> simp at h
    subst h
    exact ⟨_, _, rfl⟩
theorem layT0 {W : World} (h : VarReads Tryd.prog W "ledger/web.statuses" Rows.laid_ledger_web_statuses) : ∃ t fr, W.heap[0]? = some (.cells stC t fr) := by
  rw [stData] at h
  obtain ⟨g', t', cs, fuel, p, hg', ht', hvar, hd⟩ := h
  obtain rfl := Option.some.inj ((show Tryd.prog.globalNamed "ledger/web.statuses" = some 0 by kernel_rfl).symm.trans hg')
  obtain rfl := Option.some.inj ((show (Tryd.prog.globals[0]?).map (·.type) = some 50 by kernel_rfl).symm.trans ht')
  have e := cells_of_pairs Tryd.underlying50 Tryd.underlying49 Tryd.underlying22 rfl rfl (by kernel_rfl) (by kernel_rfl) (by kernel_rfl) (by kernel_rfl) rfl (fun m c y v h hy => int_in Tryd.underlying3 h hy) hd
  have e2 : cs = stC := by
    rw [← Array.toList_inj, e]; rfl
  rw [e2] at hvar
  exact heap_of_var (by kernel_rfl) hvar
theorem layT1 {W : World} (h : VarReads Tryd.prog W "ledger/web.reasons" Rows.laid_ledger_web_reasons) : ∃ t fr, W.heap[1]? = some (.cells reC t fr) := by
  rw [reData] at h
  obtain ⟨g', t', cs, fuel, p, hg', ht', hvar, hd⟩ := h
  obtain rfl := Option.some.inj ((show Tryd.prog.globalNamed "ledger/web.reasons" = some 1 by kernel_rfl).symm.trans hg')
  obtain rfl := Option.some.inj ((show (Tryd.prog.globals[1]?).map (·.type) = some 52 by kernel_rfl).symm.trans ht')
  have e := cells_of_pairs Tryd.underlying52 Tryd.underlying51 Tryd.underlying3 rfl rfl (by kernel_rfl) (by kernel_rfl) (by kernel_rfl) (by kernel_rfl) rfl (fun m c y v h hy => text_in Tryd.underlying9 h hy) hd
  have e2 : cs = reC := by
    rw [← Array.toList_inj, e]; rfl
  rw [e2] at hvar
  exact heap_of_var (by kernel_rfl) hvar
/-! A world for the witness. -/
def put (vs : List Value) : Obj → Obj
  | .cells _ t frozen => .cells vs.toArray t frozen
  | o => o
def bru32 : List Int := [0, 1, 28, 2, 29, 14, 24, 3, 30, 22, 20, 15, 25, 17, 4, 8, 31, 27, 13, 23, 21, 19, 16, 7, 26, 12, 18, 6, 11, 5, 10, 9]
def bru64 : List Int := [0, 1, 56, 2, 57, 49, 28, 3, 61, 58, 42, 50, 38, 29, 17, 4, 62, 47, 59, 36, 45, 43, 51, 22, 53, 39, 33, 30, 24, 18, 12, 5, 63, 55, 48, 27, 60, 41, 37, 16, 46, 35, 44, 21, 52, 32, 23, 11, 54, 26, 40, 15, 34, 20, 31, 10, 25, 14, 19, 9, 13, 8, 7, 6]
noncomputable def world (os : Os) : World :=
  let w0 := World.holding Tryd.prog os ⟨#[], #[], []⟩
  { w0 with heap := ((((w0.heap.modify 15 (put (Lib.pow10Tab.map (Value.int .u64)))).modify 17 (put (bru32.map (Value.int .u8)))).modify 18 (put (bru64.map (Value.int .u8)))).modify 0 (put stC.toList)).modify 1 (put reC.toList) }
end Go.Proofs.YthgojbdpmcccaaaDoor.LaidT
