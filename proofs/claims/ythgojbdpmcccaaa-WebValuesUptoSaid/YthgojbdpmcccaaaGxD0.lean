/- The machine side of the seat's functions, written by this session's program gen.py (over the kit's print). Nothing here is trusted: Lean checks it. -/
import Derived.Test.YthgojbdpmcccaaaExtD
import Derived.Test.YthgojbdpmcccaaaWWords
import Derived.Test.YthgojbdpmcccaaaWLast
import Derived.Test.YthgojbdpmcccaaaWTab
import Derived.Test.YthgojbdpmcccaaaWFour
import Derived.Test.YthgojbdpmcccaaaWQPut
import Derived.Test.YthgojbdpmcccaaaWApart
import Derived.Test.YthgojbdpmcccaaaWArr
import Derived.Test.YthgojbdpmcccaaaWZeros
import Derived.Test.YthgojbdpmcccaaaWFoot
import Derived.Test.YthgojbdpmcccaaaWKept
import Derived.Test.YthgojbdpmcccaaaWShare
import Derived.Test.YthgojbdpmcccaaaWN
import Derived.Test.YthgojbdpmcccaaaWFootNe
import Derived.Test.YthgojbdpmcccaaaWAt
import Derived.Test.YthgojbdpmcccaaaWEqStruct
import Derived.Test.YthgojbdpmcccaaaWRepsOne
import Derived.Test.YthgojbdpmcccaaaWInv
import Derived.Test.YthgojbdpmcccaaaWInvWords
import Derived.Test.YthgojbdpmcccaaaWGuard
import Derived.Test.YthgojbdpmcccaaaWNEv
import Derived.Test.YthgojbdpmcccaaaWMore
namespace Go.Proofs.Ythgojbdpmcccaaa.G
open Go.RowKit Go.Proofs.YthgojbdpmcccaaaW.PrintWords Go.Proofs.YthgojbdpmcccaaaW.PrintLast Go.Proofs.YthgojbdpmcccaaaW.PrintMore
set_option linter.unusedVariables false
set_option linter.unusedSimpArgs false



def errW : Option Int → Value
  | none => .nilIface
  | some c => .iface 0 (.int .i64 c)
theorem errW_none : errW none = .nilIface := rfl
theorem errW_some (c : Int) : errW (some c) = .iface 0 (.int .i64 c) := rfl

-- the values' own types
/-! #### struct type 26 -/
structure S26 where
  f0 : ByteArray
  f1 : ByteArray
def z26 : S26 := ⟨(⟨#[]⟩ : ByteArray), (⟨#[]⟩ : ByteArray)⟩
def k26 : Kd S26 := Kd.iso (Kd.pair Kd.string Kd.string) (fun x : S26 => (x.f0, x.f1))
theorem k26_open {w : World} {x : S26} {cs : List Value} (h : k26.K w x cs) : cs = [.string x.f0, .string x.f1] := by
  obtain ⟨_, _, rfl, rfl, rfl⟩ := h
  exact rfl
theorem k26_openM {w : World} {base : Nat} {ok : Nat → Prop} {x : S26} {cs : List Value} (h : k26.M w base ok x cs) : cs = [.string x.f0, .string x.f1] := by
  obtain ⟨_, _, rfl, rfl, rfl⟩ := h
  exact rfl
theorem k26_mk (w : World) (x : S26)  : k26.K w x [.string x.f0, .string x.f1] := ⟨[.string x.f0], [.string x.f1], rfl, rfl, rfl⟩
theorem k26_mkM (w : World) (base : Nat) (ok : Nat → Prop) (x : S26)  : k26.M w base ok x [.string x.f0, .string x.f1] := ⟨[.string x.f0], [.string x.f1], rfl, rfl, rfl⟩
def rd_T26 (xs : List S26) (i : Int) : S26 := xs.getD i.toNat z26
theorem at_T26 {w : World} {A : Option Addr} {n : Nat} {xs : List S26} (h : Kd.C k26 w A n xs) (i : Int) (h0 : 0 ≤ i) (h1 : i < n) : ∃ ad , A = some ad ∧ w.cell? (ad.add (i.toNat * 2)) = some (.string (rd_T26 xs i).f0) ∧ w.cell? ⟨(ad.add (i.toNat * 2)).block, (ad.add (i.toNat * 2)).off + 1, none⟩ = some (.string (rd_T26 xs i).f1) := by
  obtain ⟨ad, c, e, _, hK, hc0⟩ := Kd.C_get h z26 i h0 h1
  have hc : ∀ j u, c[j]? = some u → w.cell? (ad.add (i.toNat * 2 + j)) = some u := hc0
  obtain rfl := k26_open hK
  exact ⟨ad, e, hc 0 _ rfl, by rw [← add_field _ _ 1 (by omega)]; exact hc 1 _ rfl⟩

end Go.Proofs.Ythgojbdpmcccaaa.G
