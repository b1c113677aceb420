/-
  What rows need beside: a JSON value opened.
-/
import Derived.Test.YtpdfgmedbphmkaaGreatDoorR0
import Derived.Test.YtpdfgmedbphmkaaGreatDoorAL3
set_option linter.unusedVariables false
namespace Go.Proofs.YtpdfgmedbphmkaaGreatDoor
open Go Go.AL Go.RowKit Go.ChangeShapes Go.WideShapes Go.Proofs
theorem bytes_js : X.P.bytesOf 25 = 80 := by kernel_rfl
theorem o_js {H : Type} {enc : TypeId × Value → H} {w : World} : ∀ n, OpensL enc X.P w n 25 fun xs => ∃ j : J, xs = j.cells ∧ j.Ok :=
  o_json Tryz.underlying25 ⟨rfl, rfl⟩ ⟨rfl, rfl⟩ ⟨rfl, rfl⟩ ⟨rfl, rfl⟩ ⟨rfl, rfl⟩ ⟨Tryz.underlying3, by kernel_rfl⟩ ⟨Tryz.underlying2, by kernel_rfl⟩ ⟨Tryz.underlying9, by kernel_rfl, by kernel_rfl⟩ ⟨Tryz.underlying22, by kernel_rfl⟩ ⟨Tryz.underlying23, by kernel_rfl⟩ (by kernel_rfl) (by rw [bytes_js]; decide)
end Go.Proofs.YtpdfgmedbphmkaaGreatDoor
