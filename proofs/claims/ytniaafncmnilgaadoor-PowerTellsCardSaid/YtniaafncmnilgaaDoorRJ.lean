/-
  What rows need beside: a JSON value opened.
-/
import Derived.Test.YtniaafncmnilgaaDoorR
import Derived.Test.YtniaafncmnilgaaDoorAL3
set_option linter.unusedVariables false
namespace Go.Proofs.YtniaafncmnilgaaDoor
open Go Go.AL Go.RowKit Go.ChangeShapes Go.WideShapes Go.Proofs
theorem bytes_js : X.P.bytesOf 37 = 80 := by kernel_rfl
theorem o_js {H : Type} {enc : TypeId × Value → H} {w : World} : ∀ n, OpensL enc X.P w n 37 fun xs => ∃ j : J, xs = j.cells ∧ j.Ok :=
  o_json Tryd.underlying37 ⟨rfl, rfl⟩ ⟨rfl, rfl⟩ ⟨rfl, rfl⟩ ⟨rfl, rfl⟩ ⟨rfl, rfl⟩ ⟨Tryd.underlying3, by kernel_rfl⟩ ⟨Tryd.underlying2, by kernel_rfl⟩ ⟨Tryd.underlying9, by kernel_rfl, by kernel_rfl⟩ ⟨Tryd.underlying34, by kernel_rfl⟩ ⟨Tryd.underlying35, by kernel_rfl⟩ (by kernel_rfl) (by rw [bytes_js]; decide)
end Go.Proofs.YtniaafncmnilgaaDoor
