/-
  What the row of PowerLifts needs beside: two levels opened.
-/
import Derived.Test.YtniaafncmnilgaaDoorR
import Derived.Test.YtniaafncmnilgaaDoorL10B
set_option linter.unusedSimpArgs false
set_option linter.unusedVariables false
set_option maxRecDepth 100000
namespace Go.Proofs.YtniaafncmnilgaaDoor
open Go Go.AL Go.RowKit Go.ChangeShapes Go.WideShapes Go.Proofs
section
variable {H : Type} {enc : TypeId × Value → H} {w : World}
theorem o_29 : ∀ n, OpensL enc X.P w n 29 fun xs => ∃ a c : Lv, xs = two a c ∧ a.Wide ∧ c.Wide :=
  o_all fun n => (o_array Tryd.underlying29 (o_24 n) (by kernel_rfl)).mono fun xs h => by
    obtain ⟨x, y, rfl, ⟨a, rfl, h1⟩, ⟨c, rfl, h2⟩⟩ := Parts.two h
    exact ⟨a, c, rfl, h1, h2⟩
end
end Go.Proofs.YtniaafncmnilgaaDoor
