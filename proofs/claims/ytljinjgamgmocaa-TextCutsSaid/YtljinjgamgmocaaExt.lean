/- strings.LastIndex's contract. -/
import Derived.Test.YtljinjgamgmocaaProg
import Derived.Test.YtljinjgamgmocaaExtD
import Derived.Test.YtljinjgamgmocaaShelf
import Derived.Test.YtljinjgamgmocaaWNEv
namespace Go.Proofs.Ytljinjgamgmocaa.G
open Go.RowKit Go.Proofs.YtljinjgamgmocaaW.PrintWords Go.Proofs.YtljinjgamgmocaaW.PrintLast Go.Proofs.YtljinjgamgmocaaW.PrintMore
set_option linter.unusedVariables false
theorem strings_LastIndex.calls (a0 a1 : ByteArray) (r : Int) (w : World) (h : strings_LastIndex.f a0 a1 = some r) :
    Calls Try.prog 9 #[.string a0, .string a1] w fun e w' => e = .returned (.int .i64 r) ∧ Drawn0 w w' := by
  unfold strings_LastIndex.f at h
  split at h
  · rename_i hs
    obtain rfl := Option.some.inj h
    exact (Try.strings_LastIndex a0 a1 hs w).mono fun e w' ⟨h1, h2⟩ => ⟨h1, by rw [h2]; exact Drawn0.refl _⟩
  · cases h
end Go.Proofs.Ytljinjgamgmocaa.G
