/- WebPrints, the second form: where what comes in is of bulk at most 1048576, the bytes of every request and response that are printed, or the first error, are the document's. The card: package-level variables as the program's text lays them. -/
import Derived.Test.YthgojbdpmcccaaaGreatDoorCards
import Derived.Test.YthgojbdpmcccaaaGreatDoorTie
import Derived.WalkKit
import Derived.ProofKit
import Derived.OpenShut
import Derived.ShutString
import Derived.ChangeSlices
import Derived.Below
import Derived.Carry
import Derived.Deep.DeepHandedRow
import Derived.Lib.LaidTab
import Derived.Test.YthgojbdpmcccaaaGreatDoorXp7
section
namespace Go.Proofs.YthgojbdpmcccaaaGreatDoor.webPrints
open Go.ChangeShapes Go.WideShapes Go.ChangeAt Go.RowKit
open Go.Proofs.YthgojbdpmcccaaaGreatDoor.K Go.Proofs.YthgojbdpmcccaaaGreatDoor.Wb Go.Proofs.YthgojbdpmcccaaaGreatDoor.LaidF Go.Proofs.YthgojbdpmcccaaaGreatDoor.Op Go.Proofs.YthgojbdpmcccaaaGreatDoorW.PrintWords
set_option linter.unusedVariables false
set_option linter.unusedSimpArgs false
theorem laidOut : laidOutB Tryz.prog = true := by kernel_rfl
theorem maxLen_cell {w : World} (h : w.ShapedOpen Tryz.prog) : ∃ m, w.cell? ⟨20, 0, none⟩ = some (.int .i64 m) :=
  Go.Proofs.cell_of_shapedOpen_int (zero := #[.int .i64 0]) (t := 3) h (of_decide_eq_true (by kernel_rfl)) (by kernel_rfl) rfl (by kernel_rfl) (by kernel_rfl) Tryz.underlying3
set_option maxRecDepth 100000 in
theorem contract (H : Type) (enc : TypeId × Value → H) (W : World) (base : Nat) (args : Array Value) (ds gs : List (DataW H)) (before : List MemPlace)
    (hval : ∀ (j : Nat) t v, Tryz.f7.params[j]? = some t → args[j]? = some v → Value.okWide Tryz.prog W .any base t v)
    (hW : DataW.Whole enc Tryz.prog Tryz.f7.params.toList Rows.webPrintsSpec.vars false W args.toList ds gs before) (hk : Rows.uptoSmall H (ds ++ gs) = true) (hL : laidMetH Tryz.prog Rows.webPrintsUptoRow.laid W) (hsh : W.ShapedOpen Tryz.prog) :
    Calls Tryz.prog 7 args W fun e W' => ∃ v, e = .returned v ∧ Rows.webPrintsSpec.post enc Tryz.prog Tryz.f7 false true false false W args v W' := by
  have hW' := hW
  obtain ⟨p, q, hA0, hV, rfl, hfz, hnd⟩ := hW
  have hA : DataW.TrodAll enc Tryz.prog W 0 (fun _ => true) true Tryz.f7.params.toList args.toList ds p := hA0
  rw [Tryz.params7] at hA hval
  obtain ⟨v0, vs0, d0, ds0, p0, q0, hargs, rfl, rfl, h0, r0⟩ := trodAll_cons hA
  obtain ⟨v1, vs1, d1, ds1, p1, q1, rfl, rfl, rfl, h1, r1⟩ := trodAll_cons r0
  obtain ⟨rfl, rfl, rfl⟩ := trodAll_nil r1
  obtain rfl : args = #[v0, v1] := by cases args; simp_all
  obtain ⟨rfl, rfl⟩ := trodVars_none hV
  have hb : Rows.uptoBulkAll ([d0, d1] ++ []) ≤ 1048576 := of_decide_eq_true hk
  have b0 := part_le (d := d0) (l := [d0, d1] ++ []) (by simp)
  have b1 := part_le (d := d1) (l := [d0, d1] ++ []) (by simp)
  have l0 : ∀ x ∈ p0, x.block < W.heap.size := by obtain ⟨m, hm⟩ := h0; exact DataW.trod_lt m _ _ _ hm
  have l1 : ∀ x ∈ p1, x.block < W.heap.size := by obtain ⟨m, hm⟩ := h1; exact DataW.trod_lt m _ _ _ hm
  obtain ⟨R0, rfl⟩ := open_req (hval 0 25 v0 rfl rfl) h0
  obtain ⟨R1, rfl⟩ := open_res (hval 1 53 v1 rfl rfl) h1
  clear hA0
  obtain ⟨A, hE, h13⟩ := layE hL (fun g h2 h1 => by
    match g, h2, h1 with
    | 2, _, _ => exact List.mem_of_getElem? (i := 17) rfl
    | 3, _, _ => exact List.mem_of_getElem? (i := 8) rfl
    | 4, _, _ => exact List.mem_of_getElem? (i := 9) rfl
    | 5, _, _ => exact List.mem_of_getElem? (i := 10) rfl
    | 6, _, _ => exact List.mem_of_getElem? (i := 11) rfl
    | 7, _, _ => exact List.mem_of_getElem? (i := 12) rfl
    | 8, _, _ => exact List.mem_of_getElem? (i := 13) rfl
    | 9, _, _ => exact List.mem_of_getElem? (i := 14) rfl
    | 10, _, _ => exact List.mem_of_getElem? (i := 15) rfl
    | 11, _, _ => exact List.mem_of_getElem? (i := 16) rfl
    | 12, _, _ => exact List.mem_of_getElem? (i := 18) rfl
    | 13, _, _ => exact List.mem_of_getElem? (i := 19) rfl)
  obtain ⟨tM, frM, hT⟩ := layM (Lib.laidMet.reads hL (n := "ledger/web.methods") (d := Rows.laid_ledger_web_methods) (by simp [Rows.webPrintsUptoRow]))
  obtain ⟨tN, frN, hN⟩ := LaidY.layRM (Lib.laidMet.reads hL (n := "ledger/ledgerref14.methods") (d := Rows.laid_ledger_ledgerref14_methods) (by simp [Rows.webPrintsUptoRow]))
  have hTR := LaidY.layTR (Lib.laidMet.reads hL (n := "ledger/ledgerref14.statuses") (d := Rows.laid_ledger_ledgerref14_statuses) (by simp [Rows.webPrintsUptoRow])) (Lib.laidMet.reads hL (n := "ledger/ledgerref14.reasons") (d := Rows.laid_ledger_ledgerref14_reasons) (by simp [Rows.webPrintsUptoRow]))
  have hP := LaidT.layP (Lib.laidMet.reads hL (n := "internal/strconv.uint64pow10") (d := Rows.laid_internal_strconv_uint64pow10) (by simp [Rows.webPrintsUptoRow]))
  obtain ⟨tR, frR, hR⟩ := LaidT.layT1 (Lib.laidMet.reads hL (n := "ledger/web.reasons") (d := Rows.laid_ledger_web_reasons) (by simp [Rows.webPrintsUptoRow]))
  obtain ⟨mx, hM⟩ := maxLen_cell hsh
  refine (Ref.prints_c hE h13 hP hM hT hN hR hTR R0.hm.1 R0.ht.1 (by have := R0.hm.2; omega) (by have := R0.ht.2; omega) R0.hmi R0.hn.1 R0.hvs.1 (by have := R0.hn.2.1; omega) (fun x hx => ⟨(R0.hn.2.2 x hx).1, by have := (R0.hn.2.2 x hx).2; omega⟩) (fun x hx => ⟨(R0.hvs.2.2 x hx).1, by have := (R0.hvs.2.2 x hx).2; omega⟩) R0.hb.1 R0.hb.2.2.2.1 (by have := R0.hb.2.2.1; omega) R1.hst R1.hmi R1.hn.1 R1.hvs.1 (by have := R1.hn.2.1; omega) (fun x hx => ⟨(R1.hn.2.2 x hx).1, by have := (R1.hn.2.2 x hx).2; omega⟩) (fun x hx => ⟨(R1.hvs.2.2 x hx).1, by have := (R1.hvs.2.2 x hx).2; omega⟩) R1.hb.1 R1.hb.2.2.2.1 (by have := R1.hb.2.2.1; omega)).mono fun e W' ⟨he, bel⟩ => ?_
  subst he
  exact ⟨_, rfl, _, _, _, [], _, [], hW', trodAll_mk1 (shut_bool Tryz.underlying4 _), (trodAll_cons_mk (Below.trod laidOut (by kernel_rfl) (of_decide_eq_true (by kernel_rfl)) h0 bel l0) (trodAll_cons_mk (Below.trod laidOut (by kernel_rfl) (of_decide_eq_true (by kernel_rfl)) h1 bel l1) trodAll_mk0)), rfl, bel.frame _, fun h => by cases h⟩
set_option maxRecDepth 100000 in
theorem laid_met (os : Os) : laidMet Tryz.prog Rows.webPrintsUptoRow.laid ((LaidY.world os).forCall (fun _ _ => 0) ⟨#[], #[.agg #[.string ByteArray.empty, .string ByteArray.empty, .int .i64 0, .slice none 0 0, .slice none 0 0, .slice none 0 0, .int .i64 0], .agg #[.int .i64 0, .int .i64 0, .slice none 0 0, .slice none 0 0, .slice none 0 0, .int .i64 0]], []⟩).memory :=
  laidMet_of_run' 8 (by kernel_rfl) (by kernel_rfl)
theorem reads (os : Os) {H : Type} (enc : TypeId × Value → H) : ∃ places, DataW.whole enc Tryz.prog ((LaidY.world os).forCall (fun _ _ => 0) ⟨#[], #[.agg #[.string ByteArray.empty, .string ByteArray.empty, .int .i64 0, .slice none 0 0, .slice none 0 0, .slice none 0 0, .int .i64 0], .agg #[.int .i64 0, .int .i64 0, .slice none 0 0, .slice none 0 0, .slice none 0 0, .int .i64 0]], []⟩).memory Tryz.f7.params.toList Rows.webPrintsSpec.vars false #[Value.agg #[.string ByteArray.empty, .string ByteArray.empty, .int .i64 0, .slice none 0 0, .slice none 0 0, .slice none 0 0, .int .i64 0], Value.agg #[.int .i64 0, .int .i64 0, .slice none 0 0, .slice none 0 0, .slice none 0 0, .int .i64 0]].toList 8 = some ([.agg [.lit (.string []), .lit (.string []), .lit (.int .i64 0), .nil, .nil, .nil, .lit (.int .i64 0)], .agg [.lit (.int .i64 0), .lit (.int .i64 0), .nil, .nil, .nil, .lit (.int .i64 0)]], [], places) :=
  ⟨[], by kernel_rfl⟩
set_option maxRecDepth 100000 in
theorem lifted (os : Os) (started : os.Started) (H : Type) (enc : TypeId × Value → H) (F : Stop.Interp) :
    ReturnsInHanded {} Tryz.checked os 7 .any ((Rows.OpenSpec.upto Rows.webPrintsSpec).preRow enc Tryz.prog Tryz.f7 Rows.webPrintsUptoRow.domain false Rows.webPrintsUptoRow.laid) (((Rows.OpenSpec.upto Rows.webPrintsSpec).at F).post enc Tryz.prog Tryz.f7 false true false false) := by
  obtain ⟨places, hx⟩ := reads os enc
  refine returnsInHanded_of_row (C := Tryz.checked) (s := Rows.OpenSpec.upto Rows.webPrintsSpec) own started (by kernel_rfl) Tryz.func7
    (witness_row_at (enc := enc) (C := Tryz.checked) false (LaidY.world os) #[.agg #[.string ByteArray.empty, .string ByteArray.empty, .int .i64 0, .slice none 0 0, .slice none 0 0, .slice none 0 0, .int .i64 0], .agg #[.int .i64 0, .int .i64 0, .slice none 0 0, .slice none 0 0, .slice none 0 0, .int .i64 0]] rfl (by kernel_rfl) (by kernel_rfl) (by kernel_rfl)
      (OpenSpec.preRow_of_cond 8 hx (by kernel_rfl) (fun k hk => by cases hk; kernel_rfl) (by kernel_rfl) (laid_met os))) ?_
  intro W base args ds gs before hval hW _ hcond _ hL hsh _
  exact contract H enc W base args ds gs before hval hW (hcond _ rfl) hL hsh
theorem said : Rows.WebPrintsUptoSaid :=
  OpenClaim.holds_of_cond 7 Tryz.f7 rfl rfl rfl rfl rfl rfl rfl ⟨rfl, rfl, rfl, rfl, rfl⟩ rfl rfl rfl rfl rfl (by kernel_rfl) Tryz.func7 joined
    (of_decide_eq_true (by kernel_rfl)) (by unfold Func.isWrapper; first | (rw [if_pos (by decide +kernel)]; kernel_rfl) | (rw [if_neg (by decide +kernel)]; exact ⟨rfl, rfl⟩))
    (fun os started H enc _ F => by rw [OpenClaim.pre_eq_preRow]; exact lifted os started H enc F)
theorem plain (f : FuncId) (fn : Func) (hf : Tryz.pinned.checked.prog.funcNamed "ledger/ledgerlaw14.WebPrints" = some f) (hfn : Tryz.pinned.checked.prog.funcs[f]? = some fn) :
    true = Tryz.pinned.checked.prog.looks [] ∧ ∀ (j : Nat) t, fn.params[j]? = some t → Tryz.pinned.checked.prog.wantsStandIn t = false := by
  obtain rfl : f = 7 := Option.some.inj ((show Tryz.prog.funcNamed "ledger/ledgerlaw14.WebPrints" = some 7 by kernel_rfl).symm.trans hf) |>.symm
  obtain rfl : fn = Tryz.f7 := (Option.some.inj (Tryz.func7.symm.trans hfn)).symm
  refine ⟨by kernel_rfl, fun j t ht => ?_⟩
  rw [Tryz.params7] at ht
  have hm := Array.mem_of_getElem? ht
  simp only [List.mem_toArray, List.mem_cons, List.not_mem_nil, or_false] at hm
  rcases hm with rfl | rfl
  · exact (show Tryz.prog.wantsStandIn 25 = false by kernel_rfl)
  · exact (show Tryz.prog.wantsStandIn 53 = false by kernel_rfl)
theorem card : Rows.WebPrintsUptoCardSaid :=
  Claim7.holds_tied_plain_at .later [] _ _ _ _ said (fun _ h => by cases h) (by kernel_rfl) (fun _ h => by cases h) webPrintsUpto_row_tie rfl ⟨rfl, rfl⟩ (by kernel_rfl) rfl plain (by kernel_rfl)
end Go.Proofs.YthgojbdpmcccaaaGreatDoor.webPrints
namespace Go.Proofs.YthgojbdpmcccaaaGreatDoor
theorem webPrints_holds : Rows.WebPrintsUptoCardSaid := webPrints.card
end Go.Proofs.YthgojbdpmcccaaaGreatDoor
end
#print axioms Go.Proofs.YthgojbdpmcccaaaGreatDoor.webPrints_holds
