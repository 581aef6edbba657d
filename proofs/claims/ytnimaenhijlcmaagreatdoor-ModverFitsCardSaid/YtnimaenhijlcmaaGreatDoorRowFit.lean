/- ModverFits: key and record of any path, version and sums. The card: package-level variables as the program's text lays them. -/
import Derived.Test.YtnimaenhijlcmaaGreatDoorCards
import Derived.Test.YtnimaenhijlcmaaGreatDoorTie
import Derived.Test.YtnimaenhijlcmaaGreatDoorLaidZ
import Derived.Test.YtnimaenhijlcmaaGreatDoorFf
import Derived.Test.YtnimaenhijlcmaaGreatDoorOpenM
import Derived.WalkKit
import Derived.ProofKit
import Derived.OpenShut
import Derived.ShutString
import Derived.ChangeSlices
import Derived.Below
import Derived.Carry
import Derived.SizedLaws
import Derived.Deep.DeepHandedRow
import Derived.Lib.LaidTab
namespace Go.Proofs.YtnimaenhijlcmaaGreatDoor.modverFits
open Go.ChangeShapes Go.WideShapes Go.ChangeAt Go.RowKit
open Go.ChangeMaps (open_string shut_string)
open Go.Proofs.YtnimaenhijlcmaaGreatDoor.K Go.Proofs.YtnimaenhijlcmaaGreatDoor.Mb Go.Proofs.YtnimaenhijlcmaaGreatDoor.LaidZ Go.Proofs.YtnimaenhijlcmaaGreatDoor.LaidM Go.Proofs.YtnimaenhijlcmaaGreatDoorW.PrintWords
set_option linter.unusedVariables false
set_option linter.unusedSimpArgs false

set_option maxRecDepth 100000 in
/-- What the walk and the plain law give. -/
theorem contract (H : Type) (enc : TypeId × Value → H) (W : World) (base : Nat) (args : Array Value) (ds gs : List (DataW H)) (before : List MemPlace)
    (hval : ∀ (j : Nat) t v, Tryz.f3.params[j]? = some t → args[j]? = some v → Value.okWide Tryz.prog W .any base t v)
    (hW : DataW.Whole enc Tryz.prog Tryz.f3.params.toList Rows.modverFitsSpec.vars false W args.toList ds gs before) (hL : laidMetH Tryz.prog Rows.modverFitsRow.laid W) (hsh : W.ShapedOpen Tryz.prog) :
    Calls Tryz.prog 3 args W fun e W' => ∃ v, e = .returned v ∧ Rows.modverFitsSpec.post enc Tryz.prog Tryz.f3 false true false false W args v W' := by
  have hW' := hW
  obtain ⟨p, q, hA0, hV, rfl, hfz, hnd⟩ := hW
  have hA : DataW.TrodAll enc Tryz.prog W 0 (fun _ => true) true Tryz.f3.params.toList args.toList ds p := hA0
  rw [Tryz.params3] at hA hval
  obtain ⟨v0, vs0, d0, ds0, p0, q0, hargs, rfl, rfl, h0, r0⟩ := trodAll_cons hA
  obtain ⟨v1, vs1, d1, ds1, p1, q1, rfl, rfl, rfl, h1, r1⟩ := trodAll_cons r0
  obtain ⟨v2, vs2, d2, ds2, p2, q2, rfl, rfl, rfl, h2, r2⟩ := trodAll_cons r1
  obtain ⟨rfl, rfl, rfl⟩ := trodAll_nil r2
  obtain rfl : args = #[v0, v1, v2] := by cases args; simp_all
  obtain ⟨rfl, rfl⟩ := trodVars_none hV
  have l2 : ∀ x ∈ p2, x.block < W.heap.size := by obtain ⟨m, hm⟩ := h2; exact DataW.trod_lt m _ _ _ hm
  obtain ⟨a0, rfl, rfl, rfl, y0⟩ := open_string Tryz.underlying9 (hval 0 9 v0 rfl rfl) h0
  obtain ⟨a1, rfl, rfl, rfl, y1⟩ := open_string Tryz.underlying9 (hval 1 9 v1 rfl rfl) h1
  obtain ⟨A2, B2, rfl, bA2, lA2, bB2, lB2⟩ := open_sums (hval 2 23 v2 rfl rfl) h2
  clear hA0
  obtain ⟨mx, hM⟩ := maxLen_cell hsh
  obtain ⟨tK, frK, hK⟩ := layK (Lib.laidMet.reads hL (n := "ledger/modver.marks") (d := Rows.laid_ledger_modver_marks) (by simp [Rows.modverFitsRow]))
  obtain ⟨tD, frD, hD⟩ := layD (Lib.laidMet.reads hL (n := "ledger/modver.devices") (d := Rows.laid_ledger_modver_devices) (by simp [Rows.modverFitsRow]))
  have hY : Lay W := ⟨⟨mx, hM⟩, ⟨tK, frK, hK⟩, ⟨tD, frD, hD⟩⟩
  obtain ⟨tT, frT, hT⟩ := layT (Lib.laidMet.reads hL (n := "ledger/ledgerref11.taken") (d := Rows.laid_ledger_ledgerref11_taken) (by simp [Rows.modverFitsRow]))
  have hR : Go.Proofs.YtnimaenhijlcmaaGreatDoor.K.Rec.Law.LayR W := ⟨hY, ⟨tT, frT, hT⟩⟩
  refine (Go.Proofs.YtnimaenhijlcmaaGreatDoor.K.Rec.Law.fits_c hR a0 a1 A2 B2 bA2 lA2 bB2 lB2).mono fun e W' ⟨he, bel⟩ => ?_
  subst he
  exact ⟨_, rfl, _, _, _, [], _, [], hW', trodAll_mk1 (shut_bool Tryz.underlying4 _), (trodAll_cons_mk (shut_string Tryz.underlying9 y0) (trodAll_cons_mk (shut_string Tryz.underlying9 y1) (trodAll_cons_mk (Below.trod laidOut (by kernel_rfl) (of_decide_eq_true (by kernel_rfl)) h2 bel l2) trodAll_mk0))), rfl, bel.frame _, fun h => by cases h⟩

set_option maxRecDepth 100000 in
theorem laid_met (os : Os) : laidMet Tryz.prog Rows.modverFitsRow.laid ((world os).forCall (fun _ _ => 0) ⟨#[], #[.string ByteArray.empty, .string ByteArray.empty, .agg (Array.replicate 64 (.int .u8 0))], []⟩).memory := met os _
theorem reads (os : Os) {H : Type} (enc : TypeId × Value → H) : ∃ places, DataW.whole enc Tryz.prog ((world os).forCall (fun _ _ => 0) ⟨#[], #[.string ByteArray.empty, .string ByteArray.empty, .agg (Array.replicate 64 (.int .u8 0))], []⟩).memory Tryz.f3.params.toList Rows.modverFitsSpec.vars false #[Value.string ByteArray.empty, Value.string ByteArray.empty, Value.agg (Array.replicate 64 (.int .u8 0))].toList 8 = some ([.lit (.string []), .lit (.string []), .agg (List.replicate 2 (.agg (List.replicate 32 (.lit (.int .u8 0)))))], [], places) :=
  ⟨[], by kernel_rfl⟩
set_option maxRecDepth 100000 in
theorem lifted (os : Os) (started : os.Started) (H : Type) (enc : TypeId × Value → H) (F : Stop.Interp) :
    ReturnsInHanded {} Tryz.checked os 3 .any ((OpenSpec.ofChange Rows.modverFitsSpec).preRow enc Tryz.prog Tryz.f3 Rows.modverFitsRow.domain false Rows.modverFitsRow.laid) (((OpenSpec.ofChange Rows.modverFitsSpec).at F).post enc Tryz.prog Tryz.f3 false true false false) := by
  obtain ⟨places, hx⟩ := reads os enc
  refine returnsInHanded_of_row (C := Tryz.checked) (s := OpenSpec.ofChange Rows.modverFitsSpec) own started (by kernel_rfl) Tryz.func3
    (witness_row_atRef (enc := enc) (C := Tryz.checked) false (world os) #[.string ByteArray.empty, .string ByteArray.empty, .agg (Array.replicate 64 (.int .u8 0))] (world_os os) (by kernel_rfl) (by kernel_rfl) (by kernel_rfl)
      (OpenSpec.preRow_of_cond 8 hx (by kernel_rfl) (fun k hk => by cases hk) (by kernel_rfl) (laid_met os))) ?_
  intro W base args ds gs before hval hW _ _ _ hL hsh _
  exact contract H enc W base args ds gs before hval hW hL hsh
theorem said : Rows.ModverFitsSaid :=
  OpenClaim.holds_of_cond 3 Tryz.f3 rfl rfl rfl rfl rfl rfl rfl ⟨rfl, rfl, rfl, rfl, rfl⟩ rfl rfl rfl rfl rfl (by kernel_rfl) Tryz.func3 (by kernel_rfl)
    (of_decide_eq_true (by kernel_rfl)) (by unfold Func.isWrapper; first | (rw [if_pos (by decide +kernel)]; kernel_rfl) | (rw [if_neg (by decide +kernel)]; exact ⟨rfl, rfl⟩))
    (fun os started H enc _ F => by rw [OpenClaim.pre_eq_preRow]; exact lifted os started H enc F)
theorem plain (f : FuncId) (fn : Func) (hf : Tryz.pinned.checked.prog.funcNamed "ledger/ledgerlaw11.ModverFits" = some f) (hfn : Tryz.pinned.checked.prog.funcs[f]? = some fn) :
    false = Tryz.pinned.checked.prog.looks [] ∧ ∀ (j : Nat) t, fn.params[j]? = some t → Tryz.pinned.checked.prog.wantsStandIn t = false := by
  obtain rfl : f = 3 := Option.some.inj ((show Tryz.prog.funcNamed "ledger/ledgerlaw11.ModverFits" = some 3 by kernel_rfl).symm.trans hf) |>.symm
  obtain rfl : fn = Tryz.f3 := (Option.some.inj (Tryz.func3.symm.trans hfn)).symm
  refine ⟨by kernel_rfl, fun j t ht => ?_⟩
  rw [Tryz.params3] at ht
  have hm := Array.mem_of_getElem? ht
  simp only [List.mem_toArray, List.mem_cons, List.not_mem_nil, or_false] at hm
  rcases hm with rfl | rfl | rfl
  · exact (show Tryz.prog.wantsStandIn 9 = false by kernel_rfl)
  · exact (show Tryz.prog.wantsStandIn 9 = false by kernel_rfl)
  · exact (show Tryz.prog.wantsStandIn 23 = false by kernel_rfl)
theorem card : Rows.ModverFitsCardSaid :=
  Claim7.holds_tied_plain_at .later [] _ _ _ _ said (fun _ h => by cases h) (by kernel_rfl) (fun _ h => by cases h) modverFits_row_tie rfl ⟨rfl, rfl⟩ (by kernel_rfl) rfl plain (by kernel_rfl)
end Go.Proofs.YtnimaenhijlcmaaGreatDoor.modverFits
namespace Go.Proofs.YtnimaenhijlcmaaGreatDoor
theorem modverFits_holds : Rows.ModverFitsCardSaid := modverFits.card
#print axioms modverFits_holds
end Go.Proofs.YtnimaenhijlcmaaGreatDoor
